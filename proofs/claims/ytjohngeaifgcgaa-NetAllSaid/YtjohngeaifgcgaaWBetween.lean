/- bounds.Between, under clocks that fit. -/
import Derived.Test.YtjohngeaifgcgaaWAll
namespace Go.Proofs.Ytjohngeaifgcgaa
open Go.RowKit
open Noon (Mat Edg)

def betweenV (d : Mat) (a b : Nat) : Value := if d a b < Noon.far then .tuple #[.agg #[.int .i64 (-(d b a)), .int .i64 (d a b)], .nilIface] else .tuple #[.agg #[.int .i64 0, .int .i64 0], errV 5]

theorem EdgesAt.below {w w' : World} {A : Option Addr} {g : Nat} {l : List Edg} (h : EdgesAt w A g l) {B : Nat} (hb : Below B w w') (hB : w.heap.size ≤ B) : EdgesAt w' A g l :=
  h.same fun hl o => hb.cell (p := ⟨g, o, none⟩) (Nat.lt_of_lt_of_le (h.lt hl) hB)
theorem Since.toBelow {B : Nat} {w w' : World} (h : w.Since B w') : Below B w w' := ⟨h.os, h.tape, h.output, h.size, h.block⟩

set_option maxRecDepth 100000 in
set_option maxHeartbeats 2000000 in
theorem between_ok (n : Nat) (A : Option Addr) (g c a b : Nat) (l : List Edg) (w : World) (h1 : 1 ≤ n) (h2 : n ≤ 6) (ha : a < n) (hb' : b < n) (hl : l.length ≤ 40) (he : ∀ e ∈ l, Noon.EdgOk n e) (x0 : Nat → Int) (hx : Noon.Fit x0 l) (hb : ∀ i k, -1000000000000 ≤ x0 k - x0 i) (hA : EdgesAt w A g l) :
    Calls Try.prog 29 #[.int .i64 n, .slice A l.length c, .int .i64 a, .int .i64 b] w fun e w' => e = .returned (betweenV (Noon.closedM n l) a b) ∧ Below w.heap.size w w' := by
  have HCH := Lib.hid (fun w hA => bcheck_ok n A g c l w h1 h2 hl he hA)
  have HAL := Lib.hid (fun w hA => all_ok n A g c l w h1 h2 hl he x0 hx hb hA)
  have HA := Lib.hid hA
  have HN1 := Lib.hid (fun w => node_yes n a w ha)
  have HN2 := Lib.hid (fun w => node_yes n b w hb')
  clear hA hx hb he
  generalize Noon.closedM n l = d at HAL ⊢
  have az : (a : Int) < (n : Int) := by omega
  have bz : (b : Int) < (n : Int) := by omega
  go_enter Try.func29, Try.ntmps29
  go_wp2_with fail
  have hA0 := HA.out.below (B := w.heap.size) ((Below.refl _ w).alloc (Nat.le_refl _) (.cells #[.int .i64 0, .int .i64 0] 34)) (Nat.le_refl _)
  refine (HCH.out _ hA0).mono ?_
  rintro e w1 ⟨rfl, hb1⟩
  have HB1 := Lib.hid hb1
  have HA1 : Hid (EdgesAt w1 A g l) := Lib.hid (hA0.below hb1 (Nat.le_refl _))
  have HR1 : Hid (Blk w1 w.heap.size #[.int .i64 0, .int .i64 0] 34) := Lib.hid (Blk.below (heap_alloc_new _ _) hb1)
  clear hb1 hA0 HCH
  go_wp2_with fail
  refine (HN1.out _).mono ?_
  rintro e w' ⟨rfl, rfl⟩
  go_wp2_with fail
  refine (HN2.out _).mono ?_
  rintro e w' ⟨rfl, rfl⟩
  go_wp2_with fail
  refine (HAL.out _ HA1.out).mono ?_
  rintro e w2 ⟨O, H, R, S, rfl, ht⟩
  have HT := Lib.hid ht
  have HB2 := Lib.hid (Since.toBelow ht.since)
  have hz1 := HB1.out.size
  simp only [World.size_alloc] at hz1
  have HR2 : Hid (Blk w2 w.heap.size #[.int .i64 0, .int .i64 0] 34) := Lib.hid (Blk.below HR1.out HB2.out)
  have v1 : w2.cell? ⟨O, a, none⟩ = some (.slice (some ⟨R a, 0, none⟩) n n) := (ht.o.cell ha).trans (by simp [ha])
  have v2 : w2.cell? ⟨H, a, none⟩ = some (.slice (some ⟨S a, 0, none⟩) n n) := (ht.h.cell ha).trans (by simp [ha])
  have v3 : w2.cell? ⟨S a, b, none⟩ = some (.bool (decide (d a b < Noon.far))) := ((ht.ss a ha).cell hb').trans (by simp [haveC, hb'])
  have HLow : Hid (Below w.heap.size w w2) := Lib.hid ((((Below.refl _ w).alloc (Nat.le_refl _) _).trans (HB1.out.mono (by simp))).trans (HB2.out.mono (B' := w.heap.size) (by omega)))
  by_cases hd : d a b < Noon.far
  · have v4 : w2.cell? ⟨R a, b * 2, none⟩ = some (.int .i64 (-(d b a))) := ((ht.rs a ha).cell (i := b * 2) (by omega)).trans (by simp [spanC, hb', hd, show b * 2 / 2 = b by omega])
    have v5 : w2.cell? ⟨R a, b * 2 + 1, none⟩ = some (.int .i64 (d a b)) := ((ht.rs a ha).cell (i := b * 2 + 1) (by omega)).trans (by simp [spanC, hb', hd, show (b * 2 + 1) / 2 = b by omega])
    rw [show decide (d a b < Noon.far) = true by simpa using hd] at v3
    have r0 : w2.cell? ⟨w.heap.size, 0, none⟩ = some (.int .i64 0) := (Blk.at HR2.out 0).trans rfl
    have r1 : w2.cell? ⟨w.heap.size, 1, none⟩ = some (.int .i64 0) := (Blk.at HR2.out 1).trans rfl
    have r2 := Blk.free HR2.out 0
    have r3 := Blk.free HR2.out 1
    obtain ⟨x, hx⟩ : ∃ x, x = d a b := ⟨_, rfl⟩
    obtain ⟨y, hy⟩ : ∃ y, y = -(d b a) := ⟨_, rfl⟩
    rw [← hx] at v5
    rw [← hy] at v4
    have HV : Hid (Ending.returned (.tuple #[.agg #[.int .i64 y, .int .i64 x], .nilIface]) = .returned (betweenV d a b)) := Lib.hid (by unfold betweenV; rw [if_pos hd, hx, hy])
    clear ht hd hx hy
    go_wp2
    refine bodyPost_ret (res_cell_tmp (g := w.heap.size) (t := 34) (cs := #[.int .i64 y, .int .i64 x]) rfl _ rfl (Blk.set (Blk.set HR2.out 0 _) 1 _) Try.underlying34 rfl (by kernel_rfl)) rfl ?_
    exact ⟨HV.out, (HLow.out.setCell (by simp) _).setCell (by simp) _⟩
  · rw [show decide (d a b < Noon.far) = false by simpa using hd] at v3
    have r0 : w2.cell? ⟨w.heap.size, 0, none⟩ = some (.int .i64 0) := (Blk.at HR2.out 0).trans rfl
    have r1 : w2.cell? ⟨w.heap.size, 1, none⟩ = some (.int .i64 0) := (Blk.at HR2.out 1).trans rfl
    have r2 := Blk.free HR2.out 0
    have r3 := Blk.free HR2.out 1
    have HV : Hid (Ending.returned (.tuple #[.agg #[.int .i64 0, .int .i64 0], errV 5]) = .returned (betweenV d a b)) := Lib.hid (by unfold betweenV; rw [if_neg hd])
    clear ht hd
    go_wp2
    refine bodyPost_ret (res_cell_tmp (g := w.heap.size) (t := 34) (cs := #[.int .i64 0, .int .i64 0]) rfl _ rfl (Blk.set (Blk.set HR2.out 0 _) 1 _) Try.underlying34 rfl (by kernel_rfl)) rfl ?_
    exact ⟨HV.out, (HLow.out.setCell (by simp) _).setCell (by simp) _⟩
end Go.Proofs.Ytjohngeaifgcgaa

/- bounds.All, under clocks that fit. -/
import Derived.Test.YtjohngeaifgcgaaWClosed
import Derived.Test.YtjohngeaifgcgaaWCheck
import Derived.Test.YtjohngeaifgcgaaWTab
namespace Go.Proofs.Ytjohngeaifgcgaa
open Go.RowKit
open Noon (Mat Edg)
open Go.Proofs.YtjohngeaifgcgaaW.PrintLast

/-- the first table has row r; a row for the second one is made -/
structure Halves (B : Nat) (w w' : World) (n : Nat) (d : Mat) (O H r : Nat) (R S : Nat → Nat) (g k : Nat) : Prop where
  half : Half B w w' n d O H r R S g
  hk : w'.rowIs k 4 n (fun _ => .bool false)
  kb : B ≤ k
  ki : ∀ i, i < r → S i < k
section
variable {B : Nat} {w w' : World} {n : Nat} {d : Mat} {O H r : Nat} {R S : Nat → Nat}
theorem halves1 (h : Tab B w w' n d O H r R S (fun _ => n)) :
    Halves B w (World.drew (((w'.alloc (.cells (madeCells #[.int .i64 0, .int .i64 0] (n * 2)) 34)).alloc (.cells (madeCells #[.bool false] n) 4)).setCell ⟨O, r, none⟩ (.slice (some ⟨w'.heap.size, 0, none⟩) n n))) n d O H r R S w'.heap.size (w'.heap.size + 1) := by
  have h2 := World.rowIs_made (w'.alloc (.cells (madeCells #[.int .i64 0, .int .i64 0] (n * 2)) 34)) (.bool false) n 4
  simp only [World.size_alloc] at h2
  have ho := h.o.lt
  have hb := h.ob
  exact ⟨(Tab.half ((h.alloc _).alloc _) ((rowIs_spans w' n).alloc _) (by omega) (fun i hi => (h.rs i hi).lt)).drew, h2.setOther (by show w'.heap.size + 1 ≠ O; omega) _, by omega, fun i hi => Nat.lt_succ_of_lt (h.ss i hi).lt⟩
theorem halves2 (h : Tab B w w' n d O H r R S (fun _ => n)) :
    Halves B w (World.drew (((w'.alloc (.cells (madeCells #[.bool false] n) 4)).alloc (.cells (madeCells #[.int .i64 0, .int .i64 0] (n * 2)) 34)).setCell ⟨O, r, none⟩ (.slice (some ⟨w'.heap.size + 1, 0, none⟩) n n))) n d O H r R S (w'.heap.size + 1) w'.heap.size := by
  have h2 := rowIs_spans (w'.alloc (.cells (madeCells #[.bool false] n) 4)) n
  simp only [World.size_alloc] at h2
  have ho := h.o.lt
  have hb := h.ob
  exact ⟨(Tab.half ((h.alloc _).alloc _) h2 (by omega) (fun i hi => Nat.lt_succ_of_lt (h.rs i hi).lt)).drew, ((World.rowIs_made w' _ n 4).alloc _).setOther (by show w'.heap.size ≠ O; omega) _, by omega, fun i hi => (h.ss i hi).lt⟩
theorem halves3 (h : Tab B w w' n d O H r R S (fun _ => n)) :
    Halves B w (World.drew (((w'.alloc (.cells (madeCells #[.int .i64 0, .int .i64 0] (n * 2)) 34)).setCell ⟨O, r, none⟩ (.slice (some ⟨w'.heap.size, 0, none⟩) n n)).alloc (.cells (madeCells #[.bool false] n) 4))) n d O H r R S w'.heap.size (w'.heap.size + 1) := by
  have h2 := World.rowIs_made ((w'.alloc (.cells (madeCells #[.int .i64 0, .int .i64 0] (n * 2)) 34)).setCell ⟨O, r, none⟩ (.slice (some ⟨w'.heap.size, 0, none⟩) n n)) (.bool false) n 4
  have hz : ((w'.alloc (.cells (madeCells #[.int .i64 0, .int .i64 0] (n * 2)) 34)).setCell ⟨O, r, none⟩ (.slice (some ⟨w'.heap.size, 0, none⟩) n n)).heap.size = w'.heap.size + 1 := by simp
  rw [hz] at h2
  have ho := h.o.lt
  have hb := h.ob
  exact ⟨((Tab.half (h.alloc _) (rowIs_spans w' n) (by omega) (fun i hi => (h.rs i hi).lt)).alloc _).drew, h2, by omega, fun i hi => Nat.lt_succ_of_lt (h.ss i hi).lt⟩
end

def AllAt (w : World) (n : Nat) (d : Mat) (e : Ending) (w' : World) : Prop :=
  ∃ O H R S, e = .returned (.tuple #[.slice (some ⟨O, 0, none⟩) n n, .slice (some ⟨H, 0, none⟩) n n, .nilIface]) ∧ Tab w.heap.size w w' n d O H n R S (fun _ => n)

theorem Mx.later {N : Nat} {w w' w2 : World} {n : Nat} {d : Mat} (h : Mx N w w' n d) (hs : w'.Since w'.heap.size w2) : Mx N w w2 n d := by
  have e : ∀ b, b < w'.heap.size → w2.heap[b]? = w'.heap[b]? := fun b hl => hs.block b hl
  have hz := h.size
  exact ⟨h.since.trans ⟨hs.os, hs.tape, hs.output, hs.size, fun k hk => e k (by omega)⟩, Nat.le_trans hz hs.size, h.var.of_block (e _ h.var.lt), h.top.of_block (e _ h.top.lt), fun i hi => (h.row i hi).of_block (e _ (h.row i hi).lt)⟩

theorem tab_start1 (w : World) (n : Nat) (d : Mat) : Tab w.heap.size w (World.drew ((w.alloc (.cells (madeCells #[.slice none 0 0] n) 95)).alloc (.cells (madeCells #[.slice none 0 0] n) 94))) n d w.heap.size (w.heap.size + 1) 0 (fun _ => 0) (fun _ => 0) (fun _ => n) := by
  have h2 := World.rowIs_made (w.alloc (.cells (madeCells #[.slice none 0 0] n) 95)) (.slice none 0 0) n 94
  simp only [World.size_alloc] at h2
  exact ⟨((World.Since.refl _ _).alloc (Nat.le_refl _) _).alloc (by simp) _ |>.drew, ((World.rowIs_made w _ n 95).alloc _).congr (fun i _ => by simp), h2.congr (fun i _ => by simp), Nat.le_refl _, by omega,
    fun i hi => absurd hi (by omega), fun i hi => absurd hi (by omega), fun i hi => absurd hi (by omega), fun i hi => absurd hi (by omega), fun i j _ hj => absurd hj (by omega), fun i j _ hj => absurd hj (by omega)⟩
theorem tab_start2 (w : World) (n : Nat) (d : Mat) : Tab w.heap.size w (World.drew ((w.alloc (.cells (madeCells #[.slice none 0 0] n) 94)).alloc (.cells (madeCells #[.slice none 0 0] n) 95))) n d (w.heap.size + 1) w.heap.size 0 (fun _ => 0) (fun _ => 0) (fun _ => n) := by
  have h2 := World.rowIs_made (w.alloc (.cells (madeCells #[.slice none 0 0] n) 94)) (.slice none 0 0) n 95
  simp only [World.size_alloc] at h2
  exact ⟨((World.Since.refl _ _).alloc (Nat.le_refl _) _).alloc (by simp) _ |>.drew, h2.congr (fun i _ => by simp), ((World.rowIs_made w _ n 94).alloc _).congr (fun i _ => by simp), by omega, Nat.le_refl _,
    fun i hi => absurd hi (by omega), fun i hi => absurd hi (by omega), fun i hi => absurd hi (by omega), fun i hi => absurd hi (by omega), fun i j _ hj => absurd hj (by omega), fun i j _ hj => absurd hj (by omega)⟩

set_option maxRecDepth 100000 in
set_option maxHeartbeats 4000000 in
theorem all_ok (n : Nat) (A : Option Addr) (g c : Nat) (l : List Edg) (w : World) (h1 : 1 ≤ n) (h2 : n ≤ 6) (hl : l.length ≤ 40) (he : ∀ e ∈ l, Noon.EdgOk n e) (x0 : Nat → Int) (hx : Noon.Fit x0 l) (hb : ∀ i k, -1000000000000 ≤ x0 k - x0 i) (hA : EdgesAt w A g l) :
    Calls Try.prog 36 #[.int .i64 n, .slice A l.length c] w (AllAt w n (Noon.closedM n l)) := by
  have HCH := Lib.hid (bcheck_ok n A g c l w h1 h2 hl he hA)
  have HCL := Lib.hid (fun w hA => closed_ok n A g c l w h1 h2 hl he x0 hx hb hA)
  have HA := Lib.hid hA
  have hok := Noon.closedM_ok h2 he hx hb
  obtain ⟨d, hd⟩ : ∃ d, d = Noon.closedM n l := ⟨_, rfl⟩
  rw [← hd] at hok ⊢
  have HOK := Lib.hid hok
  have HDD := Lib.hid hd
  clear he hA hx hb hd hok
  have hmk1 := run_make_row' (P := Try.prog) 90 95 (.slice none 0 0) 24 Try.underlying90 infoSpans rfl .i64 .i64 n (by omega) (by omega)
  have hmk2 := run_make_row' (P := Try.prog) 91 94 (.slice none 0 0) 24 Try.underlying91 infoBools rfl .i64 .i64 n (by omega) (by omega)
  have hmk3 := make_spans n h2
  have hmk4 := run_make_row' (P := Try.prog) 94 4 (.bool false) 1 Try.underlying94 infoBool rfl .i64 .i64 n (by omega) (by omega)
  go_enter Try.func36, Try.ntmps36
  go_wp2_with fail
  refine HCH.out.mono ?_
  rintro e w1 ⟨rfl, hb1⟩
  have HB1 := Lib.hid hb1
  have hA1 : EdgesAt w1 A g l := HA.out.same fun hl0 o => HB1.out.cell (p := ⟨g, o, none⟩) (HA.out.lt hl0)
  have HA1 := Lib.hid hA1
  clear hb1 hA1 HCH
  go_wp2_with fail
  refine (HCL.out _ HA1.out).mono ?_
  rintro e w2 ⟨rfl, hm⟩
  rw [← HDD.out] at hm
  have HM := Lib.hid hm
  clear hm HCL
  have hz2 := HM.out.size
  have hz1 := HB1.out.size
  go_wp2_with fail
  refine start_ (n := 6) (S := fun w' => True) (ds := []) #[false, false, false, false, false, false] (by kernel_rfl) rfl rfl (trivial) (fun hHeld => ?_)
  refine pure_ (i := 0) (N := some 30) (v := ?_) (a' := ?_) #[true, false, false, false, false, false] rfl rfl (by kernel_rfl) (fun _ _ _ h => h) (Or.inl ⟨by rfl, ?_⟩) ?_ ?_
  rotate_left
  · intro w'; go_simp; with_reducible rfl
  rotate_left
  · go_simp; rfl
  refine pure_ (i := 2) (N := some 32) (v := ?_) (a' := ?_) #[true, false, true, false, false, false] rfl rfl (by kernel_rfl) (fun _ _ _ h => h) (Or.inl ⟨by rfl, ?_⟩) ?_ ?_
  rotate_left
  · intro w'; go_simp; with_reducible rfl
  rotate_left
  · go_simp; rfl
  refine join_ (σ := Nat × Nat) 0 #[true, true, true, true, true, true] (fun g => [(31, .slice (some ⟨g.1, 0, none⟩) n n), (10, .slice (some ⟨g.1, 0, none⟩) n n), (33, .slice (some ⟨g.2, 0, none⟩) n n), (11, .slice (some ⟨g.2, 0, none⟩) n n)]) (fun g w' => Tab w2.heap.size w2 w' n d g.1 g.2 0 (fun _ => 0) (fun _ => 0) (fun _ => n)) ?_ (fun hJ => ?_)
  rotate_left
  · refine two_ (i := 1) (j := 3) (Ni := some 31) (Nj := some 33) #[true, true, true, false, false, false] #[true, false, true, true, false, false] rfl rfl rfl rfl (by kernel_rfl) (by decide) (by decide) (fun K hK => ?_) (fun K hK => ?_)
    · go_simp
      refine hK.out _ _ trivial (fun hHeld => ?_)
      clear hK K
      refine pure_ (i := 4) (N := some 10) (v := ?_) (a' := ?_) #[true, true, true, false, true, false] rfl rfl (by kernel_rfl) (fun _ _ _ h => h) (Or.inl ⟨by rfl, ?_⟩) ?_ ?_
      rotate_left
      · intro w'; go_simp; with_reducible rfl
      rotate_left
      · go_simp; rfl
      refine one_ (i := 3) (N := some 33) #[true, true, true, true, true, false] rfl rfl (by kernel_rfl) (by decide) (fun K hK => ?_)
      go_simp
      refine hK.out _ _ trivial (fun hHeld => ?_)
      clear hK K
      refine pure_ (i := 5) (N := some 11) (v := ?_) (a' := ?_) #[true, true, true, true, true, true] rfl rfl (by kernel_rfl) (fun _ _ _ h => h) (Or.inl ⟨by rfl, ?_⟩) ?_ ?_
      rotate_left
      · intro w'; go_simp; with_reducible rfl
      rotate_left
      · go_simp; rfl
      first | exact hJ (w2.heap.size, w2.heap.size + 1) _ (tab_start1 w2 n d) | exact hJ (w2.heap.size + 1, w2.heap.size) _ (tab_start2 w2 n d)
    · go_simp
      refine hK.out _ _ trivial (fun hHeld => ?_)
      clear hK K
      refine one_ (i := 1) (N := some 31) #[true, true, true, true, false, false] rfl rfl (by kernel_rfl) (by decide) (fun K hK => ?_)
      go_simp
      refine hK.out _ _ trivial (fun hHeld => ?_)
      clear hK K
      refine pure_ (i := 4) (N := some 10) (v := ?_) (a' := ?_) #[true, true, true, true, true, false] rfl rfl (by kernel_rfl) (fun _ _ _ h => h) (Or.inl ⟨by rfl, ?_⟩) ?_ ?_
      rotate_left
      · intro w'; go_simp; with_reducible rfl
      rotate_left
      · go_simp; rfl
      refine pure_ (i := 5) (N := some 11) (v := ?_) (a' := ?_) #[true, true, true, true, true, true] rfl rfl (by kernel_rfl) (fun _ _ _ h => h) (Or.inl ⟨by rfl, ?_⟩) ?_ ?_
      rotate_left
      · intro w'; go_simp; with_reducible rfl
      rotate_left
      · go_simp; rfl
      first | exact hJ (w2.heap.size, w2.heap.size + 1) _ (tab_start1 w2 n d) | exact hJ (w2.heap.size + 1, w2.heap.size) _ (tab_start2 w2 n d)
  rintro ⟨O, H⟩ w3 hT
  have HT := Lib.hid hT
  clear hT
  refine norm_ (a' := ?_) ?_ ?_
  rotate_left
  · simp only [putAll]; go_simp; rfl
  refine done_ (by kernel_rfl) ?_
  clear hmk1 hmk2
  go_wp2_with fail
  go_loopg [12, 35] n (fun gk s12 s35 wr => ∃ (r : Nat) (R S : Nat → Nat), r ≤ n ∧ gk = n - r ∧ s35 = .int .i64 r ∧ Hid (Tab w2.heap.size w2 wr n d O H r R S (fun _ => n)))
  case atStart => exact ⟨0, _, _, Nat.zero_le _, rfl, rfl, HT⟩
  case round =>
    obtain ⟨r, R, S, hr, hgk, rfl, HR⟩ := hrel
    clear HT
    by_cases hrn : r < n
    · have hrz : (r : Int) < (n : Int) := by omega
      have a1 : ∀ o, (wr.alloc o).cell? ⟨O, r, none⟩ = some (.slice none 0 0) := fun o => ((HR.out.alloc o).o.cell hrn).trans (by simp)
      have a2 : ∀ o, (wr.alloc o).frozen? ⟨O, r, none⟩ = false := fun o => (HR.out.alloc o).o.frozen r
      have a3 : ∀ o o', ((wr.alloc o).alloc o').cell? ⟨O, r, none⟩ = some (.slice none 0 0) := fun o o' => (((HR.out.alloc o).alloc o').o.cell hrn).trans (by simp)
      have a4 : ∀ o o', ((wr.alloc o).alloc o').frozen? ⟨O, r, none⟩ = false := fun o o' => ((HR.out.alloc o).alloc o').o.frozen r
      go_wp2_with fail
      refine start_ (n := 12) (S := fun w' => True) (ds := []) #[false, false, false, false, false, false, false, false, false, false, false, false] (by kernel_rfl) rfl rfl (trivial) (fun hHeld => ?_)
      refine pure_ (i := 0) (N := some 38) (v := ?_) (a' := ?_) #[true, false, false, false, false, false, false, false, false, false, false, false] rfl rfl (by kernel_rfl) (fun _ _ _ h => h) (Or.inl ⟨by rfl, ?_⟩) ?_ ?_
      rotate_left
      · intro w'; go_simp; with_reducible rfl
      rotate_left
      · go_simp; rfl
      refine pure_ (i := 1) (N := some 39) (v := ?_) (a' := ?_) #[true, true, false, false, false, false, false, false, false, false, false, false] rfl rfl (by kernel_rfl) (fun _ _ _ h => h) (Or.inl ⟨by rfl, ?_⟩) ?_ ?_
      rotate_left
      · intro w'; go_simp; with_reducible rfl
      rotate_left
      · go_simp; rfl
      refine pure_ (i := 2) (N := some 40) (v := ?_) (a' := ?_) #[true, true, true, false, false, false, false, false, false, false, false, false] rfl rfl (by kernel_rfl) (fun _ _ _ h => h) (Or.inl ⟨by rfl, ?_⟩) ?_ ?_
      rotate_left
      · intro w'; go_simp; with_reducible rfl
      rotate_left
      · go_simp; rfl
      refine pure_ (i := 3) (N := some 41) (v := ?_) (a' := ?_) #[true, true, true, true, false, false, false, false, false, false, false, false] rfl rfl (by kernel_rfl) (fun _ _ _ h => h) (Or.inl ⟨by rfl, ?_⟩) ?_ ?_
      rotate_left
      · intro w'; go_simp; with_reducible rfl
      rotate_left
      · go_simp; rfl
      refine pure_ (i := 4) (N := some 42) (v := ?_) (a' := ?_) #[true, true, true, true, true, false, false, false, false, false, false, false] rfl rfl (by kernel_rfl) (fun _ _ _ h => h) (Or.inl ⟨by rfl, ?_⟩) ?_ ?_
      rotate_left
      · intro w'; go_simp; with_reducible rfl
      rotate_left
      · go_simp; rfl
      refine pure_ (i := 6) (N := some 44) (v := ?_) (a' := ?_) #[true, true, true, true, true, false, true, false, false, false, false, false] rfl rfl (by kernel_rfl) (fun _ _ _ h => h) (Or.inl ⟨by rfl, ?_⟩) ?_ ?_
      rotate_left
      · intro w'; go_simp; with_reducible rfl
      rotate_left
      · go_simp; rfl
      refine join_ (σ := Nat × Nat) 1 #[true, true, true, true, true, true, true, true, true, true, true, false] (fun g => [(43, .slice (some ⟨g.1, 0, none⟩) n n), (45, .slice (some ⟨g.2, 0, none⟩) n n), (46, .pointer (some ⟨O, r, none⟩)), (47, .pointer (some ⟨H, r, none⟩))]) (fun g w' => Halves w2.heap.size w2 w' n d O H r R S g.1 g.2) ?_ (fun hJ => ?_)
      rotate_left
      · refine two_ (i := 5) (j := 7) (Ni := some 43) (Nj := some 45) #[true, true, true, true, true, true, true, false, false, false, false, false] #[true, true, true, true, true, false, true, true, false, false, false, false] rfl rfl rfl rfl (by kernel_rfl) (by decide) (by decide) (fun K hK => ?_) (fun K hK => ?_)
        · go_simp
          refine hK.out _ _ trivial (fun hHeld => ?_)
          clear hK K
          refine pure_ (i := 8) (N := some 46) (v := ?_) (a' := ?_) #[true, true, true, true, true, true, true, false, true, false, false, false] rfl rfl (by kernel_rfl) (fun _ _ _ h => h) (Or.inl ⟨by rfl, ?_⟩) ?_ ?_
          rotate_left
          · intro w'; go_simp; with_reducible rfl
          rotate_left
          · go_simp; rfl
          refine two_ (i := 7) (j := 9) (Ni := some 45) (Nj := none) #[true, true, true, true, true, true, true, true, true, false, false, false] #[true, true, true, true, true, true, true, false, true, true, false, false] rfl rfl rfl rfl (by kernel_rfl) (by decide) (by decide) (fun K hK => ?_) (fun K hK => ?_)
          · go_simp
            refine hK.out _ _ trivial (fun hHeld => ?_)
            clear hK K
            refine one_ (i := 9) (N := none) #[true, true, true, true, true, true, true, true, true, true, false, false] rfl rfl (by kernel_rfl) (by decide) (fun K hK => ?_)
            go_simp
            refine hK.out _ _ trivial (fun hHeld => ?_)
            clear hK K
            refine pure_ (i := 10) (N := some 47) (v := ?_) (a' := ?_) #[true, true, true, true, true, true, true, true, true, true, true, false] rfl rfl (by kernel_rfl) (fun _ _ _ h => h) (Or.inl ⟨by rfl, ?_⟩) ?_ ?_
            rotate_left
            · intro w'; go_simp; with_reducible rfl
            rotate_left
            · go_simp; rfl
            first | exact hJ (wr.heap.size, wr.heap.size + 1) _ (halves1 HR.out) | exact hJ (wr.heap.size + 1, wr.heap.size) _ (halves2 HR.out) | exact hJ (wr.heap.size, wr.heap.size + 1) _ (halves3 HR.out)
          · go_simp
            refine hK.out _ _ trivial (fun hHeld => ?_)
            clear hK K
            refine one_ (i := 7) (N := some 45) #[true, true, true, true, true, true, true, true, true, true, false, false] rfl rfl (by kernel_rfl) (by decide) (fun K hK => ?_)
            go_simp
            refine hK.out _ _ trivial (fun hHeld => ?_)
            clear hK K
            refine pure_ (i := 10) (N := some 47) (v := ?_) (a' := ?_) #[true, true, true, true, true, true, true, true, true, true, true, false] rfl rfl (by kernel_rfl) (fun _ _ _ h => h) (Or.inl ⟨by rfl, ?_⟩) ?_ ?_
            rotate_left
            · intro w'; go_simp; with_reducible rfl
            rotate_left
            · go_simp; rfl
            first | exact hJ (wr.heap.size, wr.heap.size + 1) _ (halves1 HR.out) | exact hJ (wr.heap.size + 1, wr.heap.size) _ (halves2 HR.out) | exact hJ (wr.heap.size, wr.heap.size + 1) _ (halves3 HR.out)
        · go_simp
          refine hK.out _ _ trivial (fun hHeld => ?_)
          clear hK K
          refine one_ (i := 5) (N := some 43) #[true, true, true, true, true, true, true, true, false, false, false, false] rfl rfl (by kernel_rfl) (by decide) (fun K hK => ?_)
          go_simp
          refine hK.out _ _ trivial (fun hHeld => ?_)
          clear hK K
          refine pure_ (i := 8) (N := some 46) (v := ?_) (a' := ?_) #[true, true, true, true, true, true, true, true, true, false, false, false] rfl rfl (by kernel_rfl) (fun _ _ _ h => h) (Or.inl ⟨by rfl, ?_⟩) ?_ ?_
          rotate_left
          · intro w'; go_simp; with_reducible rfl
          rotate_left
          · go_simp; rfl
          refine one_ (i := 9) (N := none) #[true, true, true, true, true, true, true, true, true, true, false, false] rfl rfl (by kernel_rfl) (by decide) (fun K hK => ?_)
          go_simp
          refine hK.out _ _ trivial (fun hHeld => ?_)
          clear hK K
          refine pure_ (i := 10) (N := some 47) (v := ?_) (a' := ?_) #[true, true, true, true, true, true, true, true, true, true, true, false] rfl rfl (by kernel_rfl) (fun _ _ _ h => h) (Or.inl ⟨by rfl, ?_⟩) ?_ ?_
          rotate_left
          · intro w'; go_simp; with_reducible rfl
          rotate_left
          · go_simp; rfl
          first | exact hJ (wr.heap.size, wr.heap.size + 1) _ (halves1 HR.out) | exact hJ (wr.heap.size + 1, wr.heap.size) _ (halves2 HR.out) | exact hJ (wr.heap.size, wr.heap.size + 1) _ (halves3 HR.out)
      rintro ⟨g1, g2⟩ w4 hT
      have HT := Lib.hid hT
      have t3 : w4.cell? ⟨H, r, none⟩ = some (.slice none 0 0) := (hT.half.h.cell hrn).trans (by simp)
      have t4 : w4.frozen? ⟨H, r, none⟩ = false := hT.half.h.frozen r
      clear hT
      refine norm_ (a' := ?_) ?_ ?_
      rotate_left
      · simp only [putAll]; go_simp; rfl
      refine one_ (i := 11) (N := none) #[true, true, true, true, true, true, true, true, true, true, true, true] rfl rfl (by kernel_rfl) (by decide) (fun K hK => ?_)
      go_simp
      refine hK.out _ _ trivial (fun hHeld => ?_)
      clear hK K
      refine done_ (by kernel_rfl) ?_
      have HN : Hid (Tab w2.heap.size w2 (w4.setCell ⟨H, r, none⟩ (.slice (some ⟨g2, 0, none⟩) n n)) n d O H (r + 1) (fun i => if i = r then g1 else R i) (fun i => if i = r then g2 else S i) (fun i => if i = r then 0 else n)) := HT.out.half.full HT.out.hk HT.out.kb HT.out.ki
      generalize (fun i => if i = r then g1 else R i) = R' at HN
      generalize (fun i => if i = r then g2 else S i) = S' at HN
      generalize w4.setCell ⟨H, r, none⟩ (.slice (some ⟨g2, 0, none⟩) n n) = w5 at HN ⊢
      clear t3 t4 HT a1 a2 a3 a4
      go_wp2_with fail
      go_loopg [13, 49] n (fun gk s13 s49 wi => ∃ k : Nat, k ≤ n ∧ gk = n - k ∧ s49 = .int .i64 k ∧ Hid (Tab w2.heap.size w2 wi n d O H (r + 1) R' S' (fun i => if i = r then k else n)))
      case atStart => exact ⟨0, Nat.zero_le _, rfl, rfl, HN⟩
      case round =>
        obtain ⟨k, hk, hgk2, rfl, HI⟩ := hrel
        clear HN HR
        by_cases hkn : k < n
        · have hkz : (k : Int) < (n : Int) := by omega
          have HMr : Hid (Mx w1.heap.size w1 wr n d) := Lib.hid (HM.out.later HI.out.since)
          have v1 := HMr.out.t hrn
          have v2 := HMr.out.t hkn
          have v3 := HMr.out.c hrn hkn
          have v4 := HMr.out.c hkn hrn
          have hsym := HOK.out.sym k r hkn hrn
          have b1 := HOK.out.bound r k
          have b2 := HOK.out.bound k r
          have t1 := HOK.out.top r k
          have t2 := HOK.out.top k r
          have HS1 : Hid (d r k = Noon.far → Tab w2.heap.size w2 wr n d O H (r + 1) R' S' (fun i => if i = r then k + 1 else n)) := Lib.hid (fun e => by
            have := HI.out.skip (i := r) (by simpa using e)
            have e2 : (fun j => if j = r then (fun i => if i = r then k else n) r + 1 else (fun i => if i = r then k else n) j) = (fun i => if i = r then k + 1 else n) := by
              funext j; by_cases q : j = r <;> simp [q]
            rwa [e2] at this)
          have HP1 : Hid (∀ x y, x = d r k → y = d k r → d r k < Noon.far → Tab w2.heap.size w2 (((wr.setCell ⟨R' r, k * 2, none⟩ (.int .i64 (-y))).setCell ⟨R' r, k * 2 + 1, none⟩ (.int .i64 x)).setCell ⟨S' r, k, none⟩ (.bool true)) n d O H (r + 1) R' S' (fun i => if i = r then k + 1 else n)) := Lib.hid (fun x y ex ey e => by
            have := HI.out.put (i := r) (by omega) (by simpa using e)
            have e2 : (fun j => if j = r then (fun i => if i = r then k else n) r + 1 else (fun i => if i = r then k else n) j) = (fun i => if i = r then k + 1 else n) := by
              funext j; by_cases q : j = r <;> simp [q]
            rw [e2] at this
            rw [ex, ey]
            simpa using this)
          unfold Noon.far at *
          by_cases hf : d r k = 1152921504606846976
          · have hq : (d r k == 1152921504606846976) = true := by simpa using hf
            have HF := Lib.hid hf
            clear hf hsym b1 b2 t1 t2 v4 v2
            go_wp2
            go_roundg (n - (k + 1))
            case measure => omega
            case rel => exact ⟨k + 1, by omega, rfl, by go_num, Lib.hid (HS1.out HF.out)⟩
          · have hq : (d r k == 1152921504606846976) = false := by simpa using hf
            have hlt : d r k < 1152921504606846976 := by omega
            have hlt2 : d k r < 1152921504606846976 := by
              by_cases q : d k r = 1152921504606846976
              · exact absurd (hsym q) hf
              · omega
            obtain ⟨b3, b4⟩ := b1 hlt
            obtain ⟨b5, b6⟩ := b2 hlt2
            clear hf hsym b1 b2 t1 t2 HS1
            obtain ⟨x, hx⟩ : ∃ x, x = d r k := ⟨_, rfl⟩
            obtain ⟨y, hy⟩ : ∃ y, y = d k r := ⟨_, rfl⟩
            have HX := Lib.hid hx
            have HY := Lib.hid hy
            rw [← hx] at v3 b3 b4 hlt hq
            rw [← hy] at v4 b5 b6 hlt2
            have HP2 := Lib.hid (HP1.out x y hx hy (by rw [← hx]; exact hlt))
            clear hx hy HP1
            have hneg : IntKind.i64.wrap (-y) = -y := IntWalk.i64_in _ (by omega)
            have r1 := HI.out.rs r (by omega)
            have r2 := HI.out.ss r (by omega)
            have nRS : Hid (S' r ≠ R' r) := Lib.hid (rowIs_ne r2 r1 (by decide))
            have lO := HI.out.o.lt
            have lH := HI.out.h.lt
            have lR := r1.lt
            have lS := r2.lt
            have HR1 := Lib.hid r1
            have HR2 := Lib.hid r2
            have hNs := HMr.out.size
            have k0 : w1.heap.size < wr.heap.size := by omega
            have k1 : w1.heap.size + 2 + r < wr.heap.size := by omega
            have k2 : w1.heap.size + 2 + k < wr.heap.size := by omega
            clear r1 r2
            go_wp2_with fail
            refine start_ (n := 18) (S := fun w' => w'.cell? ⟨w1.heap.size, r, none⟩ = some (.slice (some ⟨w1.heap.size + 2 + r, 0, none⟩) n n) ∧ w'.cell? ⟨w1.heap.size, k, none⟩ = some (.slice (some ⟨w1.heap.size + 2 + k, 0, none⟩) n n) ∧ w'.cell? ⟨w1.heap.size + 2 + r, k, none⟩ = some (.int .i64 x) ∧ w'.cell? ⟨w1.heap.size + 2 + k, r, none⟩ = some (.int .i64 y)) (ds := [17]) #[false, false, false, false, false, false, false, false, false, false, false, false, false, false, false, false, false, false] (by kernel_rfl) rfl rfl (⟨by go_simp, by go_simp, by go_simp, by go_simp⟩) (fun hHeld => ?_)
            refine pure_ (i := 0) (N := some 60) (v := ?_) (a' := ?_) #[true, false, false, false, false, false, false, false, false, false, false, false, false, false, false, false, false, false] rfl rfl (by kernel_rfl) (fun _ _ _ h => h) (Or.inl ⟨by rfl, ?_⟩) ?_ ?_
            rotate_left
            · intro w'; go_simp; with_reducible rfl
            rotate_left
            · go_simp; rfl
            refine pure_ (i := 1) (N := some 61) (v := ?_) (a' := ?_) #[true, true, false, false, false, false, false, false, false, false, false, false, false, false, false, false, false, false] rfl rfl (by kernel_rfl) (fun _ _ _ h => h) (Or.inl ⟨by rfl, ?_⟩) ?_ ?_
            rotate_left
            · intro w'; go_simp; with_reducible rfl
            rotate_left
            · go_simp; rfl
            refine pure_ (i := 2) (N := some 62) (v := ?_) (a' := ?_) #[true, true, true, false, false, false, false, false, false, false, false, false, false, false, false, false, false, false] rfl rfl (by kernel_rfl) (fun _ _ _ h => h) (Or.inl ⟨by rfl, ?_⟩) ?_ ?_
            rotate_left
            · intro w'; go_simp; with_reducible rfl
            rotate_left
            · go_simp; rfl
            refine take_ (i := 3) (N := some 63) (v := ?_) (a' := ?_) #[true, true, true, true, false, false, false, false, false, false, false, false, false, false, false, false, false, false] rfl rfl (by kernel_rfl) (fun _ _ _ h => h) (Or.inl ⟨by rfl, ?_⟩) hHeld ?_ ?_
            rotate_left
            · rintro w' ⟨s0, s1, s2, s3⟩; go_simp; with_reducible rfl
            rotate_left
            · go_simp; rfl
            refine pure_ (i := 4) (N := some 64) (v := ?_) (a' := ?_) #[true, true, true, true, true, false, false, false, false, false, false, false, false, false, false, false, false, false] rfl rfl (by kernel_rfl) (fun _ _ _ h => h) (Or.inl ⟨by rfl, ?_⟩) ?_ ?_
            rotate_left
            · intro w'; go_simp; with_reducible rfl
            rotate_left
            · go_simp; rfl
            refine pure_ (i := 5) (N := some 65) (v := ?_) (a' := ?_) #[true, true, true, true, true, true, false, false, false, false, false, false, false, false, false, false, false, false] rfl rfl (by kernel_rfl) (fun _ _ _ h => h) (Or.inl ⟨by rfl, ?_⟩) ?_ ?_
            rotate_left
            · intro w'; go_simp; with_reducible rfl
            rotate_left
            · go_simp; rfl
            refine take_ (i := 6) (N := some 66) (v := ?_) (a' := ?_) #[true, true, true, true, true, true, true, false, false, false, false, false, false, false, false, false, false, false] rfl rfl (by kernel_rfl) (fun _ _ _ h => h) (Or.inl ⟨by rfl, ?_⟩) hHeld ?_ ?_
            rotate_left
            · rintro w' ⟨s0, s1, s2, s3⟩; go_simp; with_reducible rfl
            rotate_left
            · go_simp; rfl
            refine pure_ (i := 7) (N := some 67) (v := ?_) (a' := ?_) #[true, true, true, true, true, true, true, true, false, false, false, false, false, false, false, false, false, false] rfl rfl (by kernel_rfl) (fun _ _ _ h => h) (Or.inl ⟨by rfl, ?_⟩) ?_ ?_
            rotate_left
            · intro w'; go_simp; with_reducible rfl
            rotate_left
            · go_simp; rfl
            refine pure_ (i := 8) (N := some 68) (v := ?_) (a' := ?_) #[true, true, true, true, true, true, true, true, true, false, false, false, false, false, false, false, false, false] rfl rfl (by kernel_rfl) (fun _ _ _ h => h) (Or.inl ⟨by rfl, ?_⟩) ?_ ?_
            rotate_left
            · intro w'; go_simp; with_reducible rfl
            rotate_left
            · go_simp; rfl
            refine pure_ (i := 9) (N := some 69) (v := ?_) (a' := ?_) #[true, true, true, true, true, true, true, true, true, true, false, false, false, false, false, false, false, false] rfl rfl (by kernel_rfl) (fun _ _ _ h => h) (Or.inl ⟨by rfl, ?_⟩) ?_ ?_
            rotate_left
            · intro w'; go_simp; with_reducible rfl
            rotate_left
            · go_simp; rfl
            refine pure_ (i := 10) (N := some 70) (v := ?_) (a' := ?_) #[true, true, true, true, true, true, true, true, true, true, true, false, false, false, false, false, false, false] rfl rfl (by kernel_rfl) (fun _ _ _ h => h) (Or.inl ⟨by rfl, ?_⟩) ?_ ?_
            rotate_left
            · intro w'; go_simp; with_reducible rfl
            rotate_left
            · go_simp; rfl
            refine take_ (i := 11) (N := some 71) (v := ?_) (a' := ?_) #[true, true, true, true, true, true, true, true, true, true, true, true, false, false, false, false, false, false] rfl rfl (by kernel_rfl) (fun _ _ _ h => h) (Or.inl ⟨by rfl, ?_⟩) hHeld ?_ ?_
            rotate_left
            · rintro w' ⟨s0, s1, s2, s3⟩; go_simp; with_reducible rfl
            rotate_left
            · go_simp; rfl
            refine pure_ (i := 12) (N := some 72) (v := ?_) (a' := ?_) #[true, true, true, true, true, true, true, true, true, true, true, true, true, false, false, false, false, false] rfl rfl (by kernel_rfl) (fun _ _ _ h => h) (Or.inl ⟨by rfl, ?_⟩) ?_ ?_
            rotate_left
            · intro w'; go_simp; with_reducible rfl
            rotate_left
            · go_simp; rfl
            refine pure_ (i := 13) (N := some 73) (v := ?_) (a' := ?_) #[true, true, true, true, true, true, true, true, true, true, true, true, true, true, false, false, false, false] rfl rfl (by kernel_rfl) (fun _ _ _ h => h) (Or.inl ⟨by rfl, ?_⟩) ?_ ?_
            rotate_left
            · intro w'; go_simp; with_reducible rfl
            rotate_left
            · go_simp; rfl
            refine take_ (i := 14) (N := some 74) (v := ?_) (a' := ?_) #[true, true, true, true, true, true, true, true, true, true, true, true, true, true, true, false, false, false] rfl rfl (by kernel_rfl) (fun _ _ _ h => h) (Or.inl ⟨by rfl, ?_⟩) hHeld ?_ ?_
            rotate_left
            · rintro w' ⟨s0, s1, s2, s3⟩; go_simp; with_reducible rfl
            rotate_left
            · go_simp; rfl
            refine pure_ (i := 15) (N := some 75) (v := ?_) (a' := ?_) #[true, true, true, true, true, true, true, true, true, true, true, true, true, true, true, true, false, false] rfl rfl (by kernel_rfl) (fun _ _ _ h => h) (Or.inl ⟨by rfl, ?_⟩) ?_ ?_
            rotate_left
            · intro w'; go_simp; with_reducible rfl
            rotate_left
            · go_simp; rfl
            refine one_ (i := 16) (N := some 14) #[true, true, true, true, true, true, true, true, true, true, true, true, true, true, true, true, true, false] rfl rfl (by kernel_rfl) (by decide) (fun K hK => ?_)
            go_simp
            refine hK.out _ _ ⟨by go_simp, by go_simp, by go_simp, by go_simp⟩ (fun hHeld => ?_)
            clear hK K
            refine last_ (i := 17) (N := none) #[true, true, true, true, true, true, true, true, true, true, true, true, true, true, true, true, true, true] rfl rfl (by kernel_rfl) (by decide) (fun K hK => ?_)
            go_simp
            refine hK.out _ _ ?_
            clear hK K
            refine done_ (by kernel_rfl) ?_
            have HT5 : Hid (Tab w2.heap.size w2 (World.drew (wr.alloc (.cells #[.int .i64 (-y), .int .i64 x] 34))) n d O H (r + 1) R' S' (fun i => if i = r then k else n)) := Lib.hid ((HI.out.alloc _).drew)
            have HB5 : Hid (Blk (World.drew (wr.alloc (.cells #[.int .i64 (-y), .int .i64 x] 34))) wr.heap.size #[.int .i64 (-y), .int .i64 x] 34) := Lib.hid (heap_alloc_new _ _)
            generalize World.drew (wr.alloc (.cells #[.int .i64 (-y), .int .i64 x] 34)) = w6 at HT5 HB5 ⊢
            have HP3 : Hid (Tab w2.heap.size w2 (((w6.setCell ⟨R' r, k * 2, none⟩ (.int .i64 (-y))).setCell ⟨R' r, k * 2 + 1, none⟩ (.int .i64 x)).setCell ⟨S' r, k, none⟩ (.bool true)) n d O H (r + 1) R' S' (fun i => if i = r then k + 1 else n)) := Lib.hid (by
              have := HT5.out.put (i := r) (by omega) (by simp only [if_true]; unfold Noon.far; rw [← HX.out]; exact hlt)
              have e2 : (fun j => if j = r then (fun i => if i = r then k else n) r + 1 else (fun i => if i = r then k else n) j) = (fun i => if i = r then k + 1 else n) := by
                funext j; by_cases q : j = r <;> simp [q]
              rw [e2] at this
              simpa [← HX.out, ← HY.out] using this)
            have u0 : w6.cell? ⟨wr.heap.size, 0, none⟩ = some (.int .i64 (-y)) := (Blk.at HB5.out 0).trans rfl
            have u1 : w6.cell? ⟨wr.heap.size, 1, none⟩ = some (.int .i64 x) := (Blk.at HB5.out 1).trans rfl
            have T1 := Lib.hid (fun w => (by have := time_any (-y) w; rwa [(timeB_iff (-y)).2 (by omega)] at this : Calls Try.prog 44 #[.int .i64 (-y)] w fun e w' => e = .returned (.bool true) ∧ w = w'))
            have T2 := Lib.hid (fun w => (by have := time_any x w; rwa [(timeB_iff x).2 (by omega)] at this : Calls Try.prog 44 #[.int .i64 x] w fun e w' => e = .returned (.bool true) ∧ w = w'))
            clear hHeld v1 v2 v3 v4 hq hneg
            go_wp2_with fail
            refine (T1.out _).mono ?_
            rintro e w' ⟨rfl, rfl⟩
            go_wp2_with fail
            refine (T2.out _).mono ?_
            rintro e w' ⟨rfl, rfl⟩
            have v1 : w6.cell? ⟨O, r, none⟩ = some (.slice (some ⟨R' r, 0, none⟩) n n) := (HT5.out.o.cell hrn).trans (by simp)
            have v2 : w6.cell? ⟨H, r, none⟩ = some (.slice (some ⟨S' r, 0, none⟩) n n) := (HT5.out.h.cell hrn).trans (by simp)
            have p1 := (HT5.out.rs r (by omega)).cell (i := k * 2) (by omega)
            have p2 := (HT5.out.rs r (by omega)).cell (i := k * 2 + 1) (by omega)
            have p3 := (HT5.out.rs r (by omega)).frozen (k * 2)
            have p4 := (HT5.out.rs r (by omega)).frozen (k * 2 + 1)
            have p5 := (HT5.out.ss r (by omega)).cell (i := k) (by omega)
            have p6 := (HT5.out.ss r (by omega)).frozen k
            have p7 := nRS.out
            generalize spanC d r ((fun i => if i = r then k else n) r) (k * 2) = c1 at p1
            generalize spanC d r ((fun i => if i = r then k else n) r) (k * 2 + 1) = c2 at p2
            generalize haveC d r ((fun i => if i = r then k else n) r) k = c3 at p5
            go_wp2_with fail
            refine start_ (n := 15) (S := fun w' => w'.cell? ⟨O, r, none⟩ = some (.slice (some ⟨R' r, 0, none⟩) n n) ∧ w'.cell? ⟨H, r, none⟩ = some (.slice (some ⟨S' r, 0, none⟩) n n) ∧ w'.cell? ⟨wr.heap.size, 0, none⟩ = some (.int .i64 (-y)) ∧ w'.cell? ⟨wr.heap.size, 1, none⟩ = some (.int .i64 x)) (ds := [12, 14]) #[false, false, false, false, false, false, false, false, false, false, false, false, false, false, false] (by kernel_rfl) rfl rfl (⟨by go_simp, by go_simp, by go_simp, by go_simp⟩) (fun hHeld => ?_)
            refine pure_ (i := 0) (N := some 87) (v := ?_) (a' := ?_) #[true, false, false, false, false, false, false, false, false, false, false, false, false, false, false] rfl rfl (by kernel_rfl) (fun _ _ _ h => h) (Or.inl ⟨by rfl, ?_⟩) ?_ ?_
            rotate_left
            · intro w'; go_simp; with_reducible rfl
            rotate_left
            · go_simp; rfl
            refine pure_ (i := 1) (N := some 88) (v := ?_) (a' := ?_) #[true, true, false, false, false, false, false, false, false, false, false, false, false, false, false] rfl rfl (by kernel_rfl) (fun _ _ _ h => h) (Or.inl ⟨by rfl, ?_⟩) ?_ ?_
            rotate_left
            · intro w'; go_simp; with_reducible rfl
            rotate_left
            · go_simp; rfl
            refine pure_ (i := 2) (N := some 89) (v := ?_) (a' := ?_) #[true, true, true, false, false, false, false, false, false, false, false, false, false, false, false] rfl rfl (by kernel_rfl) (fun _ _ _ h => h) (Or.inl ⟨by rfl, ?_⟩) ?_ ?_
            rotate_left
            · intro w'; go_simp; with_reducible rfl
            rotate_left
            · go_simp; rfl
            refine take_ (i := 3) (N := some 90) (v := ?_) (a' := ?_) #[true, true, true, true, false, false, false, false, false, false, false, false, false, false, false] rfl rfl (by kernel_rfl) (fun _ _ _ h => h) (Or.inl ⟨by rfl, ?_⟩) hHeld ?_ ?_
            rotate_left
            · rintro w' ⟨s0, s1, s2, s3⟩; go_simp; with_reducible rfl
            rotate_left
            · go_simp; rfl
            refine pure_ (i := 4) (N := some 91) (v := ?_) (a' := ?_) #[true, true, true, true, true, false, false, false, false, false, false, false, false, false, false] rfl rfl (by kernel_rfl) (fun _ _ _ h => h) (Or.inl ⟨by rfl, ?_⟩) ?_ ?_
            rotate_left
            · intro w'; go_simp; with_reducible rfl
            rotate_left
            · go_simp; rfl
            refine pure_ (i := 5) (N := some 92) (v := ?_) (a' := ?_) #[true, true, true, true, true, true, false, false, false, false, false, false, false, false, false] rfl rfl (by kernel_rfl) (fun _ _ _ h => h) (Or.inl ⟨by rfl, ?_⟩) ?_ ?_
            rotate_left
            · intro w'; go_simp; with_reducible rfl
            rotate_left
            · go_simp; rfl
            refine pure_ (i := 6) (N := some 93) (v := ?_) (a' := ?_) #[true, true, true, true, true, true, true, false, false, false, false, false, false, false, false] rfl rfl (by kernel_rfl) (fun _ _ _ h => h) (Or.inl ⟨by rfl, ?_⟩) ?_ ?_
            rotate_left
            · intro w'; go_simp; with_reducible rfl
            rotate_left
            · go_simp; rfl
            refine pure_ (i := 7) (N := some 94) (v := ?_) (a' := ?_) #[true, true, true, true, true, true, true, true, false, false, false, false, false, false, false] rfl rfl (by kernel_rfl) (fun _ _ _ h => h) (Or.inl ⟨by rfl, ?_⟩) ?_ ?_
            rotate_left
            · intro w'; go_simp; with_reducible rfl
            rotate_left
            · go_simp; rfl
            refine take_ (i := 8) (N := some 95) (v := ?_) (a' := ?_) #[true, true, true, true, true, true, true, true, true, false, false, false, false, false, false] rfl rfl (by kernel_rfl) (fun _ _ _ h => h) (Or.inl ⟨by rfl, ?_⟩) hHeld ?_ ?_
            rotate_left
            · rintro w' ⟨s0, s1, s2, s3⟩; go_simp; with_reducible rfl
            rotate_left
            · go_simp; rfl
            refine pure_ (i := 9) (N := some 96) (v := ?_) (a' := ?_) #[true, true, true, true, true, true, true, true, true, true, false, false, false, false, false] rfl rfl (by kernel_rfl) (fun _ _ _ h => h) (Or.inl ⟨by rfl, ?_⟩) ?_ ?_
            rotate_left
            · intro w'; go_simp; with_reducible rfl
            rotate_left
            · go_simp; rfl
            refine take_ (i := 10) (N := some 97) (v := ?_) (a' := ?_) #[true, true, true, true, true, true, true, true, true, true, true, false, false, false, false] rfl rfl (by kernel_rfl) (fun _ _ _ h => h) (Or.inl ⟨by rfl, ?_⟩) hHeld ?_ ?_
            rotate_left
            · rintro w' ⟨s0, s1, s2, s3⟩; go_simp; with_reducible rfl
            rotate_left
            · go_simp; rfl
            refine pure_ (i := 11) (N := some 98) (v := ?_) (a' := ?_) #[true, true, true, true, true, true, true, true, true, true, true, true, false, false, false] rfl rfl (by kernel_rfl) (fun _ _ _ h => h) (Or.inl ⟨by rfl, ?_⟩) ?_ ?_
            rotate_left
            · intro w'; go_simp; with_reducible rfl
            rotate_left
            · go_simp; rfl
            refine last_ (i := 12) (N := none) #[true, true, true, true, true, true, true, true, true, true, true, true, true, false, false] rfl rfl (by kernel_rfl) (by decide) (fun K hK => ?_)
            go_simp
            refine hK.out _ _ ?_
            clear hK K
            refine pure_ (i := 13) (N := some 99) (v := ?_) (a' := ?_) #[true, true, true, true, true, true, true, true, true, true, true, true, true, true, false] rfl rfl (by kernel_rfl) (fun _ _ _ h => h) (Or.inl ⟨by rfl, ?_⟩) ?_ ?_
            rotate_left
            · intro w'; go_simp; with_reducible rfl
            rotate_left
            · go_simp; rfl
            refine last_ (i := 14) (N := none) #[true, true, true, true, true, true, true, true, true, true, true, true, true, true, true] rfl rfl (by kernel_rfl) (by decide) (fun K hK => ?_)
            go_simp
            refine hK.out _ _ ?_
            clear hK K
            refine done_ (by kernel_rfl) ?_
            have HP4 := Lib.hid (HP3.out.drew)
            generalize World.drew (((w6.setCell ⟨R' r, k * 2, none⟩ (.int .i64 (-y))).setCell ⟨R' r, k * 2 + 1, none⟩ (.int .i64 x)).setCell ⟨S' r, k, none⟩ (.bool true)) = w7 at HP4 ⊢
            clear hHeld u0 u1 v1 v2 p1 p2 p3 p4 p5 p6 p7
            go_wp2
            go_roundg (n - (k + 1))
            case measure => omega
            case rel => exact ⟨k + 1, by omega, rfl, by go_num, HP4⟩
        · obtain rfl : n = k := by omega
          go_wp2
          go_roundg (n - (r + 1))
          case measure => omega
          case rel => exact ⟨r + 1, R', S', by omega, rfl, by go_num, by
            have := HI
            rwa [show (fun i => if i = r then n else n) = (fun _ => n) by funext i; simp] at this⟩
    · obtain rfl : n = r := by omega
      go_wp2
      go_returns
      refine ⟨O, H, R, S, rfl, ?_⟩
      have h := HR.out
      have hz : w.heap.size ≤ w2.heap.size := Nat.le_trans HB1.out.size (Nat.le_trans (Nat.le_trans (Nat.le_add_right _ _) (Nat.le_add_right _ _)) HM.out.size)
      have s12 : w.Since w.heap.size w2 := ⟨HM.out.since.os.trans HB1.out.os, HM.out.since.tape.trans HB1.out.tape, HM.out.since.output.trans HB1.out.output, hz, fun k hk => (HM.out.since.block k (by have := HB1.out.size; omega)).trans (HB1.out.block k hk)⟩
      exact { since := s12.trans ⟨h.since.os, h.since.tape, h.since.output, h.since.size, fun k hk => h.since.block k (by omega)⟩, o := h.o, h := h.h, ob := Nat.le_trans hz h.ob, hb := Nat.le_trans hz h.hb, rs := h.rs, ss := h.ss, rb := fun i hi => Nat.le_trans hz (h.rb i hi), sb := fun i hi => Nat.le_trans hz (h.sb i hi), ri := h.ri, si := h.si }
end Go.Proofs.Ytjohngeaifgcgaa

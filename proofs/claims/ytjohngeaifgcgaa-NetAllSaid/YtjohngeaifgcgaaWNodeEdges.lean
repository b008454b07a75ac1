/- What a node knows: its edges. -/
import Derived.Test.YtjohngeaifgcgaaWSpans
namespace Go.Proofs.Ytjohngeaifgcgaa
open Go.RowKit
open Noon (Kn Edg)
open Go.Proofs.YtjohngeaifgcgaaW.PrintLast

theorem infoEdge : (Try.prog.info? 46).map (fun i => (i.zero, i.size, i.bytes)) = some (some (.agg #[.int .i64 0, .int .i64 0, .int .i64 0, .int .i64 0]), 4, 32) := by kernel_rfl

def edgesC (l : List Edg) : List Value := l.flatMap edgeC
/-- the edges of what is told -/
def edl (id : Nat) (tl : Nat → Option (Int × Int)) (k : Nat) : List Edg := (List.range k).filterMap fun j => (tl j).map fun x => ⟨id, j, x.1, x.2⟩
theorem edl_succ (id : Nat) (tl : Nat → Option (Int × Int)) (k : Nat) : edl id tl (k + 1) = edl id tl k ++ (match tl k with | none => [] | some x => [⟨id, k, x.1, x.2⟩]) := by
  unfold edl
  rw [List.range_succ, List.filterMap_append]
  cases h : tl k <;> simp [h]
theorem edl_le (id : Nat) (tl : Nat → Option (Int × Int)) (k : Nat) : (edl id tl k).length ≤ k := by
  have := List.length_filterMap_le (fun j => (tl j).map fun x => (⟨id, j, x.1, x.2⟩ : Edg)) (List.range k)
  simpa [edl] using this
theorem edgesC_snoc (l : List Edg) (e : Edg) : edgesC (l ++ [e]) = edgesC l ++ edgeC e := by simp [edgesC]
theorem edgesC_length (l : List Edg) : (edgesC l).length = l.length * 4 := by
  induction l with
  | nil => rfl
  | cons e l ih => simp only [edgesC, List.flatMap_cons, List.length_append] at *; rw [ih]; simp [edgeC]; omega

section
variable {B : Nat} {w w' w2 : World} {n : Nat} {tl : Nat → Option (Int × Int)} {id g1 g2 c : Nat}
theorem rowIs_grown {w w' : World} {b t n : Nat} {f : Nat → Value} {row : Option Nat} (h : w.rowIs b t n f) (hg : w.grownBy w' row) (hne : row ≠ some b) : w'.rowIs b t n f := h.of_block (hg.block b h.lt (Ne.symm hne))
theorem rowIs_owns {w : World} {b t n : Nat} {f : Nat → Value} (h : w.rowIs b t n f) {B e sz m : Nat} {v : Value} {xs : List Value} (ho : w.ownsRow B e sz v m xs) (ht : t ≠ e) : v.ownBlock ≠ some b := by
  intro hv
  obtain ⟨cur, hh⟩ := ownsRow_type ho hv
  obtain ⟨cs, hb, _⟩ := h
  rw [hb] at hh
  injection hh with hh
  injection hh with _ h2
  exact ht h2
theorem Spn.grown (h : Spn B w w' n tl id g1 g2 c) {v : Value} {m : Nat} {xs : List Value} (ho : w'.ownsRow B 46 4 v m xs) (hg : w'.grownBy w2 v.ownBlock) : Spn B w w2 n tl id g1 g2 c :=
  ⟨Below.grown h.below hg (by have := h.s.lt; have := h.b1; omega) (fun x hx => (ho.lt x hx).1), rowIs_grown h.s hg (rowIs_owns h.s ho (by decide)), rowIs_grown h.h hg (rowIs_owns h.h ho (by decide)), h.b1, h.b2⟩
end

def EdgesOwn (w : World) (l : List Edg) (e : Ending) (w' : World) : Prop :=
  ∃ v, e = .returned (.tuple #[v, .nilIface]) ∧ w'.ownsRow w.heap.size 46 4 v l.length (edgesC l) ∧ Below w.heap.size w w'

set_option maxRecDepth 100000 in
set_option maxHeartbeats 4000000 in
theorem nodeEdges_ok (nb mb id n : Nat) (ppm h0 here : Int) (tl : Nat → Option (Int × Int)) (w : World) (hn : Blk w nb (nodeC id n ppm h0 mb) 108) (h2 : n ≤ 6) (hid : tl id = none)
    (hs : Calls Try.prog 52 #[.pointer (some ⟨nb, 0, none⟩), .int .i64 here] w (SpansAt w n tl id)) :
    Calls Try.prog 34 #[.pointer (some ⟨nb, 0, none⟩), .int .i64 here] w (EdgesOwn w (edl id tl n)) := by
  obtain ⟨i0, hi0, hz0, hz1, hz2⟩ := info_parts infoEdge
  have HN := Lib.hid hn
  have HS := Lib.hid hs
  have HID := Lib.hid hid
  clear hn hs hid
  go_enter Try.func34, Try.ntmps34
  go_wp2_with fail
  refine HS.out.mono ?_
  rintro e w1 ⟨g1, g2, rfl, hsp⟩
  have HSP := Lib.hid hsp
  clear hsp HS
  go_wp2_with fail
  go_loopg [9, 10, 11, 24] n (fun gk s9 s10 s11 s24 wr => ∃ k : Nat, k ≤ n ∧ gk = n - k ∧ s24 = .int .i64 k ∧ Hid (wr.ownsRow w.heap.size 46 4 s9 (edl id tl k).length (edgesC (edl id tl k))) ∧ Hid (Spn w.heap.size w wr n tl id g1 g2 n))
  case atStart => exact ⟨0, Nat.zero_le _, rfl, rfl, Lib.hid (World.ownsRow_nil _ _ _ _), HSP⟩
  case round =>
    obtain ⟨k, hk, hgk, rfl, HO, HR⟩ := hrel
    clear HSP
    by_cases hkn : k < n
    · have hkz : (k : Int) < (n : Int) := by omega
      have hbs := HR.out.below.size
      have hle := edl_le id tl k
      have HNr : Hid (Blk wr nb (nodeC id n ppm h0 mb) 108) := Lib.hid (Blk.below HN.out HR.out.below)
      have c0 : wr.cell? ⟨nb, 0, none⟩ = some (.int .i64 id) := (Blk.at HNr.out 0).trans rfl
      have l2 := Blk.lt HNr.out
      have lg1 := HR.out.s.lt
      have d1 := HR.out.h.cell hkn
      cases ht : tl k with
      | none =>
        have HT := Lib.hid ht
        have HE : Hid (edl id tl (k + 1) = edl id tl k) := Lib.hid (by rw [edl_succ, ht]; simp)
        by_cases hki : k = id
        · have e1 : hasC tl id n k = .bool true := by unfold hasC; rw [decide_eq_true ⟨hkn, .inr hki⟩]
          rw [e1] at d1
          have hq : ((k : Int) != (id : Int)) = false := by simp; omega
          clear ht hki
          go_wp2
          go_roundg (n - (k + 1))
          case measure => omega
          case rel => exact ⟨k + 1, by omega, rfl, by go_num, by rw [HE.out]; exact HO, HR⟩
        · have e1 : hasC tl id n k = .bool false := by simp [hasC, ht, hki]
          rw [e1] at d1
          clear ht hki
          go_wp2
          go_roundg (n - (k + 1))
          case measure => omega
          case rel => exact ⟨k + 1, by omega, rfl, by go_num, by rw [HE.out]; exact HO, HR⟩
      | some x =>
        obtain ⟨lo, hi⟩ := x
        have hne : k ≠ id := by rintro rfl; rw [HID.out] at ht; cases ht
        have hq : ((k : Int) != (id : Int)) = true := by simp; omega
        have e1 : hasC tl id n k = .bool true := by simp [hasC, hkn, ht]
        rw [e1] at d1
        have HE : Hid (edl id tl (k + 1) = edl id tl k ++ [⟨id, k, lo, hi⟩]) := Lib.hid (by rw [edl_succ, ht])
        have d2 : wr.cell? ⟨g1, k * 2, none⟩ = some (.int .i64 lo) := (HR.out.s.cell (i := k * 2) (by omega)).trans (by simp [telC, show k * 2 / 2 = k by omega, hkn, ht])
        have d3 : wr.cell? ⟨g1, k * 2 + 1, none⟩ = some (.int .i64 hi) := (HR.out.s.cell (i := k * 2 + 1) (by omega)).trans (by simp [telC, show (k * 2 + 1) / 2 = k by omega, hkn, ht])
        clear ht e1
        obtain ⟨A, c, rfl⟩ := ownsRow_slice HO.out
        have o1 : Hid ((Value.slice A (edl id tl k).length c).ownBlock ≠ some g1) := Lib.hid (rowIs_owns HR.out.s HO.out (by decide))
        have o2 : Hid ((Value.slice A (edl id tl k).length c).ownBlock ≠ some nb) := Lib.hid (ownsRow_ne HO.out HNr.out (by decide))
        have o3 : Hid (∀ x, (Value.slice A (edl id tl k).length c).ownBlock = some x → w.heap.size ≤ x) := Lib.hid (fun x hx => (HO.out.lt x hx).1)
        go_wp2_with fail
        refine start_ (n := 14) (S := fun w' => w'.cell? ⟨nb, 0, none⟩ = some (.int .i64 id) ∧ w'.cell? ⟨g1, k * 2, none⟩ = some (.int .i64 lo) ∧ w'.cell? ⟨g1, k * 2 + 1, none⟩ = some (.int .i64 hi)) (ds := []) #[false, false, false, false, false, false, false, false, false, false, false, false, false, false] (by kernel_rfl) rfl rfl (⟨by go_simp, by go_simp, by go_simp⟩) (fun hHeld => ?_)
        refine pure_ (i := 0) (N := some 38) (v := ?_) (a' := ?_) #[true, false, false, false, false, false, false, false, false, false, false, false, false, false] rfl rfl (by kernel_rfl) (fun _ _ _ h => h) (Or.inl ⟨by rfl, ?_⟩) ?_ ?_
        rotate_left
        · intro w'; go_simp; with_reducible rfl
        rotate_left
        · go_simp; rfl
        refine pure_ (i := 1) (N := some 39) (v := ?_) (a' := ?_) #[true, true, false, false, false, false, false, false, false, false, false, false, false, false] rfl rfl (by kernel_rfl) (fun _ _ _ h => h) (Or.inl ⟨by rfl, ?_⟩) ?_ ?_
        rotate_left
        · intro w'; go_simp; with_reducible rfl
        rotate_left
        · go_simp; rfl
        refine pure_ (i := 2) (N := some 40) (v := ?_) (a' := ?_) #[true, true, true, false, false, false, false, false, false, false, false, false, false, false] rfl rfl (by kernel_rfl) (fun _ _ _ h => h) (Or.inl ⟨by rfl, ?_⟩) ?_ ?_
        rotate_left
        · intro w'; go_simp; with_reducible rfl
        rotate_left
        · go_simp; rfl
        refine pure_ (i := 3) (N := some 41) (v := ?_) (a' := ?_) #[true, true, true, true, false, false, false, false, false, false, false, false, false, false] rfl rfl (by kernel_rfl) (fun _ _ _ h => h) (Or.inl ⟨by rfl, ?_⟩) ?_ ?_
        rotate_left
        · intro w'; go_simp; with_reducible rfl
        rotate_left
        · go_simp; rfl
        refine take_ (i := 4) (N := some 42) (v := ?_) (a' := ?_) #[true, true, true, true, true, false, false, false, false, false, false, false, false, false] rfl rfl (by kernel_rfl) (fun _ _ _ h => h) (Or.inl ⟨by rfl, ?_⟩) hHeld ?_ ?_
        rotate_left
        · rintro w' ⟨s0, s1, s2⟩; go_simp; with_reducible rfl
        rotate_left
        · go_simp; rfl
        refine pure_ (i := 5) (N := some 43) (v := ?_) (a' := ?_) #[true, true, true, true, true, true, false, false, false, false, false, false, false, false] rfl rfl (by kernel_rfl) (fun _ _ _ h => h) (Or.inl ⟨by rfl, ?_⟩) ?_ ?_
        rotate_left
        · intro w'; go_simp; with_reducible rfl
        rotate_left
        · go_simp; rfl
        refine pure_ (i := 6) (N := some 44) (v := ?_) (a' := ?_) #[true, true, true, true, true, true, true, false, false, false, false, false, false, false] rfl rfl (by kernel_rfl) (fun _ _ _ h => h) (Or.inl ⟨by rfl, ?_⟩) ?_ ?_
        rotate_left
        · intro w'; go_simp; with_reducible rfl
        rotate_left
        · go_simp; rfl
        refine pure_ (i := 7) (N := some 45) (v := ?_) (a' := ?_) #[true, true, true, true, true, true, true, true, false, false, false, false, false, false] rfl rfl (by kernel_rfl) (fun _ _ _ h => h) (Or.inl ⟨by rfl, ?_⟩) ?_ ?_
        rotate_left
        · intro w'; go_simp; with_reducible rfl
        rotate_left
        · go_simp; rfl
        refine pure_ (i := 8) (N := some 46) (v := ?_) (a' := ?_) #[true, true, true, true, true, true, true, true, true, false, false, false, false, false] rfl rfl (by kernel_rfl) (fun _ _ _ h => h) (Or.inl ⟨by rfl, ?_⟩) ?_ ?_
        rotate_left
        · intro w'; go_simp; with_reducible rfl
        rotate_left
        · go_simp; rfl
        refine take_ (i := 9) (N := some 47) (v := ?_) (a' := ?_) #[true, true, true, true, true, true, true, true, true, true, false, false, false, false] rfl rfl (by kernel_rfl) (fun _ _ _ h => h) (Or.inl ⟨by rfl, ?_⟩) hHeld ?_ ?_
        rotate_left
        · rintro w' ⟨s0, s1, s2⟩; go_simp; with_reducible rfl
        rotate_left
        · go_simp; rfl
        refine pure_ (i := 10) (N := some 48) (v := ?_) (a' := ?_) #[true, true, true, true, true, true, true, true, true, true, true, false, false, false] rfl rfl (by kernel_rfl) (fun _ _ _ h => h) (Or.inl ⟨by rfl, ?_⟩) ?_ ?_
        rotate_left
        · intro w'; go_simp; with_reducible rfl
        rotate_left
        · go_simp; rfl
        refine one_ (i := 11) (N := some 49) #[true, true, true, true, true, true, true, true, true, true, true, true, false, false] rfl rfl (by kernel_rfl) (by decide) (fun K hK => ?_)
        go_simp
        refine hK.out _ _ ⟨by go_simp, by go_simp, by go_simp⟩ (fun hHeld => ?_)
        clear hK K
        refine one_ (i := 12) (N := some 50) #[true, true, true, true, true, true, true, true, true, true, true, true, true, false] rfl rfl (by kernel_rfl) (by decide) (fun K hK => ?_)
        refine step_append_lies _ (by rfl) _ _ _ (by rfl) w.heap.size 46 i0 _ 4 32 Try.underlying40 hi0 hz0 hz1 hz2 rfl (by omega) (.slice A (edl id tl k).length c) (edl id tl k).length (edgesC (edl id tl k)) (by rfl) (World.ownsRow.alloc HO.out _) ⟨wr.heap.size, 0, none⟩ 1 1 [.int .i64 id, .int .i64 k, .int .i64 lo, .int .i64 hi] (by rfl) (by rfl) (World.news_of_block (cs := #[.int .i64 id, .int .i64 k, .int .i64 lo, .int .i64 hi]) (t := 46) (fr := (0, 0)) (heap_alloc_at _ _ (by simp))) (by simp [Value.oneCell']) (by omega) (by unfold maxLen; omega) (by omega) (by simp; omega) (wr.heap.size + 1) (by simp) ?_
        intro gg cap w3 hown1 hgrow hat hlt
        have f0 : w3.cell? ⟨nb, 0, none⟩ = some (.int .i64 id) := (hgrow.cell_far ⟨nb, 0, none⟩ (by go_size) (Ne.symm o2.out)).trans (by go_simp)
        have f1 : w3.cell? ⟨g1, k * 2, none⟩ = some (.int .i64 lo) := (hgrow.cell_far ⟨g1, k * 2, none⟩ (by go_size) (Ne.symm o1.out)).trans (by go_simp)
        have f2 : w3.cell? ⟨g1, k * 2 + 1, none⟩ = some (.int .i64 hi) := (hgrow.cell_far ⟨g1, k * 2 + 1, none⟩ (by go_size) (Ne.symm o1.out)).trans (by go_simp)
        have HO3 := Lib.hid hown1
        have HR3 : Hid (Spn w.heap.size w w3 n tl id g1 g2 n) := Lib.hid (Spn.grown ((HR.out.alloc _).drew) (World.ownsRow.alloc HO.out _) hgrow)
        clear hown1 hgrow hat
        refine hK.out _ _ ⟨f0, f1, f2⟩ (fun hHeld => ?_)
        clear hK K
        refine pure_ (i := 13) (N := some 9) (v := ?_) (a' := ?_) #[true, true, true, true, true, true, true, true, true, true, true, true, true, true] rfl rfl (by kernel_rfl) (fun _ _ _ h => h) (Or.inl ⟨by rfl, ?_⟩) ?_ ?_
        rotate_left
        · intro w'; go_simp; with_reducible rfl
        rotate_left
        · go_simp; rfl
        refine done_ (by kernel_rfl) ?_
        go_wp2
        go_roundg (n - (k + 1))
        case measure => omega
        case rel =>
          refine ⟨k + 1, by omega, rfl, by go_num, ?_, HR3⟩
          rw [HE.out, edgesC_snoc, List.length_append]
          exact HO3
    · obtain rfl : n = k := by omega
      go_wp2
      go_returns
      exact ⟨_, rfl, HO.out, HR.out.below⟩
end Go.Proofs.Ytjohngeaifgcgaa

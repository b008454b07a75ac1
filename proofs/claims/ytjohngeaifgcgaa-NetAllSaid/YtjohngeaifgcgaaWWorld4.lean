/- A world's Do, the ways that take a letter: Deliver, Lose, Repeat. -/
import Derived.Test.YtjohngeaifgcgaaWWorld2
import Derived.Test.YtjohngeaifgcgaaWDelete
namespace Go.Proofs.Ytjohngeaifgcgaa
open Go.RowKit
open Go.Proofs.YtjohngeaifgcgaaW.PrintLast

set_option maxRecDepth 100000 in
set_option maxHeartbeats 1000000 in
theorem doTake_no (wb m c : Nat) (A : Option Addr) (what a b : Int) (w : World) (h3 : w.cell? ⟨wb, 3, none⟩ = some (.slice A m c)) (hwh : what = 3 ∨ what = 4 ∨ what = 5) (h : a < 0 ∨ (m : Int) ≤ a) :
    Calls Try.prog 24 #[.pointer (some ⟨wb, 0, none⟩), .agg #[.int .i64 what, .int .i64 a, .int .i64 b]] w fun e w' => e = .returned (.tuple #[.pointer none, errV 5]) ∧ Below w.heap.size w w' := by
  have l1 := World.block_lt_of_cell? w _ h3
  by_cases c1 : a < 0
  · have d1 : decide (a < 0) = true := by simpa using c1
    rcases hwh with rfl | rfl | rfl
    all_goals
      go_enter Try.func24, Try.ntmps24
      go_wp2_with fail
      go_quiet (fail)
      go_wp2
      go_returns
      exact ⟨rfl, below_drewN (Below.toAlloc _) _⟩
  · have d1 : decide (a < 0) = false := by simpa using c1
    have d2 : decide ((m : Int) ≤ a) = true := by simp; omega
    rcases hwh with rfl | rfl | rfl
    all_goals
      go_enter Try.func24, Try.ntmps24
      go_wp2_with fail
      go_quiet (fail)
      go_wp2
      go_returns
      exact ⟨rfl, below_drewN (Below.toAlloc _) _⟩

/-- A letter comes: a copy of it in a block of its own. -/
def Came (w : World) (l : List Value) (e : Ending) (w' : World) : Prop := ∃ g, e = .returned (.tuple #[.pointer (some ⟨g, 0, none⟩), .nilIface]) ∧ Blk w' g l.toArray 48 ∧ w.heap.size ≤ g

set_option maxRecDepth 100000 in
set_option maxHeartbeats 1000000 in
theorem doRepeat (base wb ub i m c : Nat) (sv rv : Value) (t f k t1 t2 t0 b : Int) (an : Bool) (xs : List Value) (w : World)
    (hw : Blk w wb #[sv, rv, .int .i64 t, .slice (some ⟨ub, 0, none⟩) m c] 105)
    (hu : w.ownsRow base 48 6 (.slice (some ⟨ub, 0, none⟩) m c) m xs) (hi : i < m) (hx : ∀ j, j < 6 → xs[i * 6 + j]? = (ltrC f k an t1 t2 t0)[j]?) :
    Calls Try.prog 24 #[.pointer (some ⟨wb, 0, none⟩), .agg #[.int .i64 5, .int .i64 i, .int .i64 b]] w fun e w' => Came w (ltrC f k an t1 t2 t0) e w' ∧ Below w.heap.size w w' := by
  have h3 := hw.at 3
  simp only [List.getElem?_toArray, List.getElem?_cons_zero, List.getElem?_cons_succ] at h3
  have x0 := (hu.cellAt (i * 6 + 0) (by omega)).trans (hx 0 (by omega))
  have x1 := (hu.cellAt (i * 6 + 1) (by omega)).trans (hx 1 (by omega))
  have x2 := (hu.cellAt (i * 6 + 2) (by omega)).trans (hx 2 (by omega))
  have x3 := (hu.cellAt (i * 6 + 3) (by omega)).trans (hx 3 (by omega))
  have x4 := (hu.cellAt (i * 6 + 4) (by omega)).trans (hx 4 (by omega))
  have x5 := (hu.cellAt (i * 6 + 5) (by omega)).trans (hx 5 (by omega))
  simp only [ltrC, List.getElem?_cons_zero, List.getElem?_cons_succ, Nat.add_zero] at x0 x1 x2 x3 x4 x5
  have l1 := World.block_lt_of_cell? w _ h3
  have l2 := World.block_lt_of_cell? w _ x0
  clear hw hu hx
  have d1 : decide ((i : Int) < 0) = false := by simp
  have d2 : decide ((m : Int) ≤ (i : Int)) = false := by simp; omega
  have hi0 : (0 : Int) ≤ (i : Int) := by omega
  have hi1 : (i : Int) < (m : Int) := by omega
  go_enter Try.func24, Try.ntmps24
  go_wp2_with fail
  go_quiet (fail)
  go_wp2_with fail
  refine start_ (n := 10) (S := fun w' => w'.cell? ⟨wb, 3, none⟩ = some (.slice (some ⟨ub, 0, none⟩) m c) ∧ w'.cell? ⟨w.heap.size, 1, none⟩ = some (.int .i64 i) ∧ w'.cell? ⟨ub, i * 6, none⟩ = some (.int .i64 f) ∧ w'.cell? ⟨ub, i * 6 + 1, none⟩ = some (.int .i64 k) ∧ w'.cell? ⟨ub, i * 6 + 2, none⟩ = some (.bool an) ∧ w'.cell? ⟨ub, i * 6 + 3, none⟩ = some (.int .i64 t1) ∧ w'.cell? ⟨ub, i * 6 + 4, none⟩ = some (.int .i64 t2) ∧ w'.cell? ⟨ub, i * 6 + 5, none⟩ = some (.int .i64 t0)) (ds := []) #[false, false, false, false, false, false, false, false, false, false] (by kernel_rfl) rfl rfl (⟨by go_simp, by go_simp, by go_simp, by go_simp, by go_simp, by go_simp, by go_simp, by go_simp⟩) (fun hHeld => ?_)
  refine pure_ (i := 0) (N := some 106) (v := ?_) (a' := ?_) #[true, false, false, false, false, false, false, false, false, false] rfl rfl (by kernel_rfl) (fun _ _ _ h => h) (Or.inl ⟨by rfl, ?_⟩) ?_ ?_
  rotate_left
  · intro w'; go_simp; with_reducible rfl
  rotate_left
  · go_simp; rfl
  refine pure_ (i := 1) (N := some 107) (v := ?_) (a' := ?_) #[true, true, false, false, false, false, false, false, false, false] rfl rfl (by kernel_rfl) (fun _ _ _ h => h) (Or.inl ⟨by rfl, ?_⟩) ?_ ?_
  rotate_left
  · intro w'; go_simp; with_reducible rfl
  rotate_left
  · go_simp; rfl
  refine pure_ (i := 2) (N := some 108) (v := ?_) (a' := ?_) #[true, true, true, false, false, false, false, false, false, false] rfl rfl (by kernel_rfl) (fun _ _ _ h => h) (Or.inl ⟨by rfl, ?_⟩) ?_ ?_
  rotate_left
  · intro w'; go_simp; with_reducible rfl
  rotate_left
  · go_simp; rfl
  refine take_ (i := 3) (N := some 109) (v := ?_) (a' := ?_) #[true, true, true, true, false, false, false, false, false, false] rfl rfl (by kernel_rfl) (fun _ _ _ h => h) (Or.inl ⟨by rfl, ?_⟩) hHeld ?_ ?_
  rotate_left
  · rintro w' ⟨s0, s1, s2, s3, s4, s5, s6, s7⟩; go_simp; with_reducible rfl
  rotate_left
  · go_simp; rfl
  refine pure_ (i := 4) (N := some 110) (v := ?_) (a' := ?_) #[true, true, true, true, true, false, false, false, false, false] rfl rfl (by kernel_rfl) (fun _ _ _ h => h) (Or.inl ⟨by rfl, ?_⟩) ?_ ?_
  rotate_left
  · intro w'; go_simp; with_reducible rfl
  rotate_left
  · go_simp; rfl
  refine take_ (i := 5) (N := some 111) (v := ?_) (a' := ?_) #[true, true, true, true, true, true, false, false, false, false] rfl rfl (by kernel_rfl) (fun _ _ _ h => h) (Or.inl ⟨by rfl, ?_⟩) hHeld ?_ ?_
  rotate_left
  · rintro w' ⟨s0, s1, s2, s3, s4, s5, s6, s7⟩; go_simp; with_reducible rfl
  rotate_left
  · go_simp; rfl
  refine pure_ (i := 6) (N := some 112) (v := ?_) (a' := ?_) #[true, true, true, true, true, true, true, false, false, false] rfl rfl (by kernel_rfl) (fun _ _ _ h => h) (Or.inl ⟨by rfl, ?_⟩) ?_ ?_
  rotate_left
  · intro w'; go_simp; with_reducible rfl
  rotate_left
  · go_simp; rfl
  refine take_ (i := 7) (N := some 113) (v := ?_) (a' := ?_) #[true, true, true, true, true, true, true, true, false, false] rfl rfl (by kernel_rfl) (fun _ _ _ h => h) (Or.inl ⟨by rfl, ?_⟩) hHeld ?_ ?_
  rotate_left
  · rintro w' ⟨s0, s1, s2, s3, s4, s5, s6, s7⟩; go_simp; with_reducible rfl
  rotate_left
  · go_simp; rfl
  refine one_ (i := 8) (N := some 6) #[true, true, true, true, true, true, true, true, true, false] rfl rfl (by kernel_rfl) (by decide) (fun K hK => ?_)
  go_simp
  refine hK.out _ _ ⟨by go_simp, by go_simp, by go_simp, by go_simp, by go_simp, by go_simp, by go_simp, by go_simp⟩ (fun hHeld => ?_)
  clear hK K
  refine one_ (i := 9) (N := none) #[true, true, true, true, true, true, true, true, true, true] rfl rfl (by kernel_rfl) (by decide) (fun K hK => ?_)
  go_simp
  refine hK.out _ _ ⟨by go_simp, by go_simp, by go_simp, by go_simp, by go_simp, by go_simp, by go_simp, by go_simp⟩ (fun hHeld => ?_)
  clear hK K
  refine done_ (by kernel_rfl) ?_
  go_wp2
  go_returns
  refine ⟨⟨w.heap.size + 1, rfl, heap_alloc_at _ _ (by simp), by omega⟩, ?_⟩
  exact (below_drewN (Below.toAlloc _) _).alloc (by simp) _

/-- One letter less is under way. -/
def Taken (w : World) (base wb ub : Nat) (sv rv : Value) (t : Int) (m c i : Nat) (xs : List Value) (w' : World) : Prop :=
  Blk w' wb #[sv, rv, .int .i64 t, .slice (some ⟨ub, 0, none⟩) (m - 1) c] 105 ∧ w'.ownsRow base 48 6 (.slice (some ⟨ub, 0, none⟩) (m - 1) c) (m - 1) (xs.take (i * 6) ++ xs.drop ((i + 1) * 6)) ∧
    Keep (fun k => k = wb ∨ k = ub) w w'

set_option maxRecDepth 100000 in
set_option maxHeartbeats 2000000 in
theorem doDeliver (base wb ub i m c : Nat) (sv rv : Value) (t f k t1 t2 t0 b : Int) (an : Bool) (xs : List Value) (w : World)
    (hw : Blk w wb #[sv, rv, .int .i64 t, .slice (some ⟨ub, 0, none⟩) m c] 105)
    (hu : w.ownsRow base 48 6 (.slice (some ⟨ub, 0, none⟩) m c) m xs) (hi : i < m) (hm : m ≤ 100) (hx : ∀ j, j < 6 → xs[i * 6 + j]? = (ltrC f k an t1 t2 t0)[j]?) (h1 : ∀ u ∈ xs, u.oneCell' = true) :
    Calls Try.prog 24 #[.pointer (some ⟨wb, 0, none⟩), .agg #[.int .i64 3, .int .i64 i, .int .i64 b]] w fun e w' => Came w (ltrC f k an t1 t2 t0) e w' ∧ Taken w base wb ub sv rv t m c i xs w' := by
  have a1 : wb ≠ ub := by
    rintro rfl
    exact ownsRow_ne hu hw (by decide) rfl
  have h3 := hw.at 3
  have hf := hw.free 3
  simp only [List.getElem?_toArray, List.getElem?_cons_zero, List.getElem?_cons_succ] at h3
  have x0 := (hu.cellAt (i * 6 + 0) (by omega)).trans (hx 0 (by omega))
  have x1 := (hu.cellAt (i * 6 + 1) (by omega)).trans (hx 1 (by omega))
  have x2 := (hu.cellAt (i * 6 + 2) (by omega)).trans (hx 2 (by omega))
  have x3 := (hu.cellAt (i * 6 + 3) (by omega)).trans (hx 3 (by omega))
  have x4 := (hu.cellAt (i * 6 + 4) (by omega)).trans (hx 4 (by omega))
  have x5 := (hu.cellAt (i * 6 + 5) (by omega)).trans (hx 5 (by omega))
  simp only [ltrC, List.getElem?_cons_zero, List.getElem?_cons_succ, Nat.add_zero] at x0 x1 x2 x3 x4 x5
  have l1 := World.block_lt_of_cell? w _ h3
  have l2 := World.block_lt_of_cell? w _ x0
  have HW := Lib.hid hw
  have HU := Lib.hid hu
  have H1 := Lib.hid h1
  have A1 := Lib.hid a1
  clear hw hu hx h1 a1
  have d1 : decide ((i : Int) < 0) = false := by simp
  have d2 : decide ((m : Int) ≤ (i : Int)) = false := by simp; omega
  have hi0 : (0 : Int) ≤ (i : Int) := by omega
  have hi1 : (i : Int) < (m : Int) := by omega
  have hwr : IntKind.i64.wrap ((i : Int) + 1) = (i : Int) + 1 := IntWalk.i64_in _ (by omega)
  go_enter Try.func24, Try.ntmps24
  go_wp2_with fail
  go_quiet (fail)
  go_wp2_with fail
  refine start_ (n := 10) (S := fun w' => w'.cell? ⟨wb, 3, none⟩ = some (.slice (some ⟨ub, 0, none⟩) m c) ∧ w'.cell? ⟨w.heap.size, 1, none⟩ = some (.int .i64 i) ∧ w'.cell? ⟨ub, i * 6, none⟩ = some (.int .i64 f) ∧ w'.cell? ⟨ub, i * 6 + 1, none⟩ = some (.int .i64 k) ∧ w'.cell? ⟨ub, i * 6 + 2, none⟩ = some (.bool an) ∧ w'.cell? ⟨ub, i * 6 + 3, none⟩ = some (.int .i64 t1) ∧ w'.cell? ⟨ub, i * 6 + 4, none⟩ = some (.int .i64 t2) ∧ w'.cell? ⟨ub, i * 6 + 5, none⟩ = some (.int .i64 t0)) (ds := []) #[false, false, false, false, false, false, false, false, false, false] (by kernel_rfl) rfl rfl (⟨by go_simp, by go_simp, by go_simp, by go_simp, by go_simp, by go_simp, by go_simp, by go_simp⟩) (fun hHeld => ?_)
  refine pure_ (i := 0) (N := some 106) (v := ?_) (a' := ?_) #[true, false, false, false, false, false, false, false, false, false] rfl rfl (by kernel_rfl) (fun _ _ _ h => h) (Or.inl ⟨by rfl, ?_⟩) ?_ ?_
  rotate_left
  · intro w'; go_simp; with_reducible rfl
  rotate_left
  · go_simp; rfl
  refine pure_ (i := 1) (N := some 107) (v := ?_) (a' := ?_) #[true, true, false, false, false, false, false, false, false, false] rfl rfl (by kernel_rfl) (fun _ _ _ h => h) (Or.inl ⟨by rfl, ?_⟩) ?_ ?_
  rotate_left
  · intro w'; go_simp; with_reducible rfl
  rotate_left
  · go_simp; rfl
  refine pure_ (i := 2) (N := some 108) (v := ?_) (a' := ?_) #[true, true, true, false, false, false, false, false, false, false] rfl rfl (by kernel_rfl) (fun _ _ _ h => h) (Or.inl ⟨by rfl, ?_⟩) ?_ ?_
  rotate_left
  · intro w'; go_simp; with_reducible rfl
  rotate_left
  · go_simp; rfl
  refine take_ (i := 3) (N := some 109) (v := ?_) (a' := ?_) #[true, true, true, true, false, false, false, false, false, false] rfl rfl (by kernel_rfl) (fun _ _ _ h => h) (Or.inl ⟨by rfl, ?_⟩) hHeld ?_ ?_
  rotate_left
  · rintro w' ⟨s0, s1, s2, s3, s4, s5, s6, s7⟩; go_simp; with_reducible rfl
  rotate_left
  · go_simp; rfl
  refine pure_ (i := 4) (N := some 110) (v := ?_) (a' := ?_) #[true, true, true, true, true, false, false, false, false, false] rfl rfl (by kernel_rfl) (fun _ _ _ h => h) (Or.inl ⟨by rfl, ?_⟩) ?_ ?_
  rotate_left
  · intro w'; go_simp; with_reducible rfl
  rotate_left
  · go_simp; rfl
  refine take_ (i := 5) (N := some 111) (v := ?_) (a' := ?_) #[true, true, true, true, true, true, false, false, false, false] rfl rfl (by kernel_rfl) (fun _ _ _ h => h) (Or.inl ⟨by rfl, ?_⟩) hHeld ?_ ?_
  rotate_left
  · rintro w' ⟨s0, s1, s2, s3, s4, s5, s6, s7⟩; go_simp; with_reducible rfl
  rotate_left
  · go_simp; rfl
  refine pure_ (i := 6) (N := some 112) (v := ?_) (a' := ?_) #[true, true, true, true, true, true, true, false, false, false] rfl rfl (by kernel_rfl) (fun _ _ _ h => h) (Or.inl ⟨by rfl, ?_⟩) ?_ ?_
  rotate_left
  · intro w'; go_simp; with_reducible rfl
  rotate_left
  · go_simp; rfl
  refine take_ (i := 7) (N := some 113) (v := ?_) (a' := ?_) #[true, true, true, true, true, true, true, true, false, false] rfl rfl (by kernel_rfl) (fun _ _ _ h => h) (Or.inl ⟨by rfl, ?_⟩) hHeld ?_ ?_
  rotate_left
  · rintro w' ⟨s0, s1, s2, s3, s4, s5, s6, s7⟩; go_simp; with_reducible rfl
  rotate_left
  · go_simp; rfl
  refine one_ (i := 8) (N := some 6) #[true, true, true, true, true, true, true, true, true, false] rfl rfl (by kernel_rfl) (by decide) (fun K hK => ?_)
  go_simp
  refine hK.out _ _ ⟨by go_simp, by go_simp, by go_simp, by go_simp, by go_simp, by go_simp, by go_simp, by go_simp⟩ (fun hHeld => ?_)
  clear hK K
  refine one_ (i := 9) (N := none) #[true, true, true, true, true, true, true, true, true, true] rfl rfl (by kernel_rfl) (by decide) (fun K hK => ?_)
  go_simp
  refine hK.out _ _ ⟨by go_simp, by go_simp, by go_simp, by go_simp, by go_simp, by go_simp, by go_simp, by go_simp⟩ (fun hHeld => ?_)
  clear hK K
  refine done_ (by kernel_rfl) ?_
  go_wp2_with fail
  refine start_ (n := 14) (S := fun w' => w'.cell? ⟨wb, 3, none⟩ = some (.slice (some ⟨ub, 0, none⟩) m c) ∧ w'.cell? ⟨w.heap.size, 1, none⟩ = some (.int .i64 i)) (ds := [13]) #[false, false, false, false, false, false, false, false, false, false, false, false, false, false] (by kernel_rfl) rfl rfl (⟨by go_simp, by go_simp⟩) (fun hHeld => ?_)
  refine pure_ (i := 0) (N := some 117) (v := ?_) (a' := ?_) #[true, false, false, false, false, false, false, false, false, false, false, false, false, false] rfl rfl (by kernel_rfl) (fun _ _ _ h => h) (Or.inl ⟨by rfl, ?_⟩) ?_ ?_
  rotate_left
  · intro w'; go_simp; with_reducible rfl
  rotate_left
  · go_simp; rfl
  refine pure_ (i := 1) (N := some 118) (v := ?_) (a' := ?_) #[true, true, false, false, false, false, false, false, false, false, false, false, false, false] rfl rfl (by kernel_rfl) (fun _ _ _ h => h) (Or.inl ⟨by rfl, ?_⟩) ?_ ?_
  rotate_left
  · intro w'; go_simp; with_reducible rfl
  rotate_left
  · go_simp; rfl
  refine pure_ (i := 2) (N := some 119) (v := ?_) (a' := ?_) #[true, true, true, false, false, false, false, false, false, false, false, false, false, false] rfl rfl (by kernel_rfl) (fun _ _ _ h => h) (Or.inl ⟨by rfl, ?_⟩) ?_ ?_
  rotate_left
  · intro w'; go_simp; with_reducible rfl
  rotate_left
  · go_simp; rfl
  refine pure_ (i := 3) (N := some 120) (v := ?_) (a' := ?_) #[true, true, true, true, false, false, false, false, false, false, false, false, false, false] rfl rfl (by kernel_rfl) (fun _ _ _ h => h) (Or.inl ⟨by rfl, ?_⟩) ?_ ?_
  rotate_left
  · intro w'; go_simp; with_reducible rfl
  rotate_left
  · go_simp; rfl
  refine take_ (i := 4) (N := some 121) (v := ?_) (a' := ?_) #[true, true, true, true, true, false, false, false, false, false, false, false, false, false] rfl rfl (by kernel_rfl) (fun _ _ _ h => h) (Or.inl ⟨by rfl, ?_⟩) hHeld ?_ ?_
  rotate_left
  · rintro w' ⟨s0, s1⟩; go_simp; with_reducible rfl
  rotate_left
  · go_simp; rfl
  refine pure_ (i := 5) (N := some 122) (v := ?_) (a' := ?_) #[true, true, true, true, true, true, false, false, false, false, false, false, false, false] rfl rfl (by kernel_rfl) (fun _ _ _ h => h) (Or.inl ⟨by rfl, ?_⟩) ?_ ?_
  rotate_left
  · intro w'; go_simp; with_reducible rfl
  rotate_left
  · go_simp; rfl
  refine take_ (i := 6) (N := some 123) (v := ?_) (a' := ?_) #[true, true, true, true, true, true, true, false, false, false, false, false, false, false] rfl rfl (by kernel_rfl) (fun _ _ _ h => h) (Or.inl ⟨by rfl, ?_⟩) hHeld ?_ ?_
  rotate_left
  · rintro w' ⟨s0, s1⟩; go_simp; with_reducible rfl
  rotate_left
  · go_simp; rfl
  refine pure_ (i := 7) (N := some 124) (v := ?_) (a' := ?_) #[true, true, true, true, true, true, true, true, false, false, false, false, false, false] rfl rfl (by kernel_rfl) (fun _ _ _ h => h) (Or.inl ⟨by rfl, ?_⟩) ?_ ?_
  rotate_left
  · intro w'; go_simp; with_reducible rfl
  rotate_left
  · go_simp; rfl
  refine take_ (i := 8) (N := some 125) (v := ?_) (a' := ?_) #[true, true, true, true, true, true, true, true, true, false, false, false, false, false] rfl rfl (by kernel_rfl) (fun _ _ _ h => h) (Or.inl ⟨by rfl, ?_⟩) hHeld ?_ ?_
  rotate_left
  · rintro w' ⟨s0, s1⟩; go_simp; with_reducible rfl
  rotate_left
  · go_simp; rfl
  refine pure_ (i := 9) (N := some 126) (v := ?_) (a' := ?_) #[true, true, true, true, true, true, true, true, true, true, false, false, false, false] rfl rfl (by kernel_rfl) (fun _ _ _ h => h) (Or.inl ⟨by rfl, ?_⟩) ?_ ?_
  rotate_left
  · intro w'; go_simp; with_reducible rfl
  rotate_left
  · go_simp; rfl
  refine one_ (i := 10) (N := some 127) #[true, true, true, true, true, true, true, true, true, true, true, false, false, false] rfl rfl (by kernel_rfl) (by decide) (fun K hK => ?_)
  go_simp
  refine (delete_any base ub m c i xs _ (by exact World.ownsRow.alloc (World.ownsRow.alloc HU.out _) _) hi hm H1.out).mono ?_
  rintro e w1 ⟨rfl, hown, hk⟩
  have g0 : w1.cell? ⟨wb, 3, none⟩ = some (.slice (some ⟨ub, 0, none⟩) m c) := (hk.cell (p := ⟨wb, 3, none⟩) (by simp; omega) A1.out).trans (by go_simp)
  have g1 : w1.cell? ⟨w.heap.size, 1, none⟩ = some (.int .i64 i) := (hk.cell (p := ⟨w.heap.size, 1, none⟩) (by simp; omega) (by show w.heap.size ≠ ub; omega)).trans (by go_simp)
  have g2 : w1.cell? ⟨w.heap.size, 0, none⟩ = some (.int .i64 3) := (hk.cell (p := ⟨w.heap.size, 0, none⟩) (by simp; omega) (by show w.heap.size ≠ ub; omega)).trans (by go_simp)
  have g9 : w1.frozen? ⟨wb, 3, none⟩ = false := (hk.frozen (p := ⟨wb, 3, none⟩) (by simp; omega) A1.out).trans (by go_simp)
  have HB : Hid (Blk w1 wb #[sv, rv, .int .i64 t, .slice (some ⟨ub, 0, none⟩) m c] 105) := Blk.keep (Blk.drewN (Blk.alloc (Blk.drewN (Blk.alloc HW.out _) _) _) _) hk A1.out
  have HC : Hid (Blk w1 (w.heap.size + 1) (ltrC f k an t1 t2 t0).toArray 48) := Blk.keep (Blk.drewN (heap_alloc_at _ _ (by simp)) _) hk (by show w.heap.size + 1 ≠ ub; omega)
  have HO := Lib.hid hown
  have HK : Hid (Keep (fun k => k = wb ∨ k = ub) w w1) := Keep.trans ((((Keep.refl (fun k => k = wb ∨ k = ub) w).alloc _).drewN _).alloc _ |>.drewN _) hk (fun _ _ h => .inr h)
  clear hown hk
  refine hK.out _ _ ⟨g0, g1⟩ (fun hHeld => ?_)
  clear hK K
  refine pure_ (i := 11) (N := some 128) (v := ?_) (a' := ?_) #[true, true, true, true, true, true, true, true, true, true, true, true, false, false] rfl rfl (by kernel_rfl) (fun _ _ _ h => h) (Or.inl ⟨by rfl, ?_⟩) ?_ ?_
  rotate_left
  · intro w'; go_simp; with_reducible rfl
  rotate_left
  · go_simp; rfl
  refine pure_ (i := 12) (N := some 129) (v := ?_) (a' := ?_) #[true, true, true, true, true, true, true, true, true, true, true, true, true, false] rfl rfl (by kernel_rfl) (fun _ _ _ h => h) (Or.inl ⟨by rfl, ?_⟩) ?_ ?_
  rotate_left
  · intro w'; go_simp; with_reducible rfl
  rotate_left
  · go_simp; rfl
  refine last_ (i := 13) (N := none) #[true, true, true, true, true, true, true, true, true, true, true, true, true, true] rfl rfl (by kernel_rfl) (by decide) (fun K hK => ?_)
  go_simp
  refine hK.out _ _ ?_
  clear hK K
  refine done_ (by kernel_rfl) ?_
  go_wp2
  go_returns
  have hT : Taken w base wb ub sv rv t m c i xs (w1.setCell ⟨wb, 3, none⟩ (.slice (some ⟨ub, 0, none⟩) (m - 1) c)) :=
    ⟨HB.out.set 3 _, ownsRow_setCell_other HO.out (by intro h; simp only [Value.ownBlock, Option.some.injEq] at h; exact A1.out h.symm) _, HK.out.setCell (.inl (.inl rfl)) _⟩
  exact ⟨⟨w.heap.size + 1, rfl, Blk.far HC.out (by show w.heap.size + 1 ≠ wb; omega) _, by omega⟩, hT⟩

set_option maxRecDepth 100000 in
set_option maxHeartbeats 2000000 in
theorem doLose (base wb ub i m c : Nat) (sv rv : Value) (t f k t1 t2 t0 b : Int) (an : Bool) (xs : List Value) (w : World)
    (hw : Blk w wb #[sv, rv, .int .i64 t, .slice (some ⟨ub, 0, none⟩) m c] 105)
    (hu : w.ownsRow base 48 6 (.slice (some ⟨ub, 0, none⟩) m c) m xs) (hi : i < m) (hm : m ≤ 100) (hx : ∀ j, j < 6 → xs[i * 6 + j]? = (ltrC f k an t1 t2 t0)[j]?) (h1 : ∀ u ∈ xs, u.oneCell' = true) :
    Calls Try.prog 24 #[.pointer (some ⟨wb, 0, none⟩), .agg #[.int .i64 4, .int .i64 i, .int .i64 b]] w fun e w' => e = .returned (.tuple #[.pointer none, .nilIface]) ∧ Taken w base wb ub sv rv t m c i xs w' := by
  have a1 : wb ≠ ub := by
    rintro rfl
    exact ownsRow_ne hu hw (by decide) rfl
  have h3 := hw.at 3
  have hf := hw.free 3
  simp only [List.getElem?_toArray, List.getElem?_cons_zero, List.getElem?_cons_succ] at h3
  have x0 := (hu.cellAt (i * 6 + 0) (by omega)).trans (hx 0 (by omega))
  have x1 := (hu.cellAt (i * 6 + 1) (by omega)).trans (hx 1 (by omega))
  have x2 := (hu.cellAt (i * 6 + 2) (by omega)).trans (hx 2 (by omega))
  have x3 := (hu.cellAt (i * 6 + 3) (by omega)).trans (hx 3 (by omega))
  have x4 := (hu.cellAt (i * 6 + 4) (by omega)).trans (hx 4 (by omega))
  have x5 := (hu.cellAt (i * 6 + 5) (by omega)).trans (hx 5 (by omega))
  simp only [ltrC, List.getElem?_cons_zero, List.getElem?_cons_succ, Nat.add_zero] at x0 x1 x2 x3 x4 x5
  have l1 := World.block_lt_of_cell? w _ h3
  have l2 := World.block_lt_of_cell? w _ x0
  have HW := Lib.hid hw
  have HU := Lib.hid hu
  have H1 := Lib.hid h1
  have A1 := Lib.hid a1
  clear hw hu hx h1 a1
  have d1 : decide ((i : Int) < 0) = false := by simp
  have d2 : decide ((m : Int) ≤ (i : Int)) = false := by simp; omega
  have hi0 : (0 : Int) ≤ (i : Int) := by omega
  have hi1 : (i : Int) < (m : Int) := by omega
  have hwr : IntKind.i64.wrap ((i : Int) + 1) = (i : Int) + 1 := IntWalk.i64_in _ (by omega)
  go_enter Try.func24, Try.ntmps24
  go_wp2_with fail
  go_quiet (fail)
  go_wp2_with fail
  refine start_ (n := 10) (S := fun w' => w'.cell? ⟨wb, 3, none⟩ = some (.slice (some ⟨ub, 0, none⟩) m c) ∧ w'.cell? ⟨w.heap.size, 1, none⟩ = some (.int .i64 i) ∧ w'.cell? ⟨ub, i * 6, none⟩ = some (.int .i64 f) ∧ w'.cell? ⟨ub, i * 6 + 1, none⟩ = some (.int .i64 k) ∧ w'.cell? ⟨ub, i * 6 + 2, none⟩ = some (.bool an) ∧ w'.cell? ⟨ub, i * 6 + 3, none⟩ = some (.int .i64 t1) ∧ w'.cell? ⟨ub, i * 6 + 4, none⟩ = some (.int .i64 t2) ∧ w'.cell? ⟨ub, i * 6 + 5, none⟩ = some (.int .i64 t0)) (ds := []) #[false, false, false, false, false, false, false, false, false, false] (by kernel_rfl) rfl rfl (⟨by go_simp, by go_simp, by go_simp, by go_simp, by go_simp, by go_simp, by go_simp, by go_simp⟩) (fun hHeld => ?_)
  refine pure_ (i := 0) (N := some 106) (v := ?_) (a' := ?_) #[true, false, false, false, false, false, false, false, false, false] rfl rfl (by kernel_rfl) (fun _ _ _ h => h) (Or.inl ⟨by rfl, ?_⟩) ?_ ?_
  rotate_left
  · intro w'; go_simp; with_reducible rfl
  rotate_left
  · go_simp; rfl
  refine pure_ (i := 1) (N := some 107) (v := ?_) (a' := ?_) #[true, true, false, false, false, false, false, false, false, false] rfl rfl (by kernel_rfl) (fun _ _ _ h => h) (Or.inl ⟨by rfl, ?_⟩) ?_ ?_
  rotate_left
  · intro w'; go_simp; with_reducible rfl
  rotate_left
  · go_simp; rfl
  refine pure_ (i := 2) (N := some 108) (v := ?_) (a' := ?_) #[true, true, true, false, false, false, false, false, false, false] rfl rfl (by kernel_rfl) (fun _ _ _ h => h) (Or.inl ⟨by rfl, ?_⟩) ?_ ?_
  rotate_left
  · intro w'; go_simp; with_reducible rfl
  rotate_left
  · go_simp; rfl
  refine take_ (i := 3) (N := some 109) (v := ?_) (a' := ?_) #[true, true, true, true, false, false, false, false, false, false] rfl rfl (by kernel_rfl) (fun _ _ _ h => h) (Or.inl ⟨by rfl, ?_⟩) hHeld ?_ ?_
  rotate_left
  · rintro w' ⟨s0, s1, s2, s3, s4, s5, s6, s7⟩; go_simp; with_reducible rfl
  rotate_left
  · go_simp; rfl
  refine pure_ (i := 4) (N := some 110) (v := ?_) (a' := ?_) #[true, true, true, true, true, false, false, false, false, false] rfl rfl (by kernel_rfl) (fun _ _ _ h => h) (Or.inl ⟨by rfl, ?_⟩) ?_ ?_
  rotate_left
  · intro w'; go_simp; with_reducible rfl
  rotate_left
  · go_simp; rfl
  refine take_ (i := 5) (N := some 111) (v := ?_) (a' := ?_) #[true, true, true, true, true, true, false, false, false, false] rfl rfl (by kernel_rfl) (fun _ _ _ h => h) (Or.inl ⟨by rfl, ?_⟩) hHeld ?_ ?_
  rotate_left
  · rintro w' ⟨s0, s1, s2, s3, s4, s5, s6, s7⟩; go_simp; with_reducible rfl
  rotate_left
  · go_simp; rfl
  refine pure_ (i := 6) (N := some 112) (v := ?_) (a' := ?_) #[true, true, true, true, true, true, true, false, false, false] rfl rfl (by kernel_rfl) (fun _ _ _ h => h) (Or.inl ⟨by rfl, ?_⟩) ?_ ?_
  rotate_left
  · intro w'; go_simp; with_reducible rfl
  rotate_left
  · go_simp; rfl
  refine take_ (i := 7) (N := some 113) (v := ?_) (a' := ?_) #[true, true, true, true, true, true, true, true, false, false] rfl rfl (by kernel_rfl) (fun _ _ _ h => h) (Or.inl ⟨by rfl, ?_⟩) hHeld ?_ ?_
  rotate_left
  · rintro w' ⟨s0, s1, s2, s3, s4, s5, s6, s7⟩; go_simp; with_reducible rfl
  rotate_left
  · go_simp; rfl
  refine one_ (i := 8) (N := some 6) #[true, true, true, true, true, true, true, true, true, false] rfl rfl (by kernel_rfl) (by decide) (fun K hK => ?_)
  go_simp
  refine hK.out _ _ ⟨by go_simp, by go_simp, by go_simp, by go_simp, by go_simp, by go_simp, by go_simp, by go_simp⟩ (fun hHeld => ?_)
  clear hK K
  refine one_ (i := 9) (N := none) #[true, true, true, true, true, true, true, true, true, true] rfl rfl (by kernel_rfl) (by decide) (fun K hK => ?_)
  go_simp
  refine hK.out _ _ ⟨by go_simp, by go_simp, by go_simp, by go_simp, by go_simp, by go_simp, by go_simp, by go_simp⟩ (fun hHeld => ?_)
  clear hK K
  refine done_ (by kernel_rfl) ?_
  go_wp2_with fail
  refine start_ (n := 14) (S := fun w' => w'.cell? ⟨wb, 3, none⟩ = some (.slice (some ⟨ub, 0, none⟩) m c) ∧ w'.cell? ⟨w.heap.size, 1, none⟩ = some (.int .i64 i)) (ds := [13]) #[false, false, false, false, false, false, false, false, false, false, false, false, false, false] (by kernel_rfl) rfl rfl (⟨by go_simp, by go_simp⟩) (fun hHeld => ?_)
  refine pure_ (i := 0) (N := some 117) (v := ?_) (a' := ?_) #[true, false, false, false, false, false, false, false, false, false, false, false, false, false] rfl rfl (by kernel_rfl) (fun _ _ _ h => h) (Or.inl ⟨by rfl, ?_⟩) ?_ ?_
  rotate_left
  · intro w'; go_simp; with_reducible rfl
  rotate_left
  · go_simp; rfl
  refine pure_ (i := 1) (N := some 118) (v := ?_) (a' := ?_) #[true, true, false, false, false, false, false, false, false, false, false, false, false, false] rfl rfl (by kernel_rfl) (fun _ _ _ h => h) (Or.inl ⟨by rfl, ?_⟩) ?_ ?_
  rotate_left
  · intro w'; go_simp; with_reducible rfl
  rotate_left
  · go_simp; rfl
  refine pure_ (i := 2) (N := some 119) (v := ?_) (a' := ?_) #[true, true, true, false, false, false, false, false, false, false, false, false, false, false] rfl rfl (by kernel_rfl) (fun _ _ _ h => h) (Or.inl ⟨by rfl, ?_⟩) ?_ ?_
  rotate_left
  · intro w'; go_simp; with_reducible rfl
  rotate_left
  · go_simp; rfl
  refine pure_ (i := 3) (N := some 120) (v := ?_) (a' := ?_) #[true, true, true, true, false, false, false, false, false, false, false, false, false, false] rfl rfl (by kernel_rfl) (fun _ _ _ h => h) (Or.inl ⟨by rfl, ?_⟩) ?_ ?_
  rotate_left
  · intro w'; go_simp; with_reducible rfl
  rotate_left
  · go_simp; rfl
  refine take_ (i := 4) (N := some 121) (v := ?_) (a' := ?_) #[true, true, true, true, true, false, false, false, false, false, false, false, false, false] rfl rfl (by kernel_rfl) (fun _ _ _ h => h) (Or.inl ⟨by rfl, ?_⟩) hHeld ?_ ?_
  rotate_left
  · rintro w' ⟨s0, s1⟩; go_simp; with_reducible rfl
  rotate_left
  · go_simp; rfl
  refine pure_ (i := 5) (N := some 122) (v := ?_) (a' := ?_) #[true, true, true, true, true, true, false, false, false, false, false, false, false, false] rfl rfl (by kernel_rfl) (fun _ _ _ h => h) (Or.inl ⟨by rfl, ?_⟩) ?_ ?_
  rotate_left
  · intro w'; go_simp; with_reducible rfl
  rotate_left
  · go_simp; rfl
  refine take_ (i := 6) (N := some 123) (v := ?_) (a' := ?_) #[true, true, true, true, true, true, true, false, false, false, false, false, false, false] rfl rfl (by kernel_rfl) (fun _ _ _ h => h) (Or.inl ⟨by rfl, ?_⟩) hHeld ?_ ?_
  rotate_left
  · rintro w' ⟨s0, s1⟩; go_simp; with_reducible rfl
  rotate_left
  · go_simp; rfl
  refine pure_ (i := 7) (N := some 124) (v := ?_) (a' := ?_) #[true, true, true, true, true, true, true, true, false, false, false, false, false, false] rfl rfl (by kernel_rfl) (fun _ _ _ h => h) (Or.inl ⟨by rfl, ?_⟩) ?_ ?_
  rotate_left
  · intro w'; go_simp; with_reducible rfl
  rotate_left
  · go_simp; rfl
  refine take_ (i := 8) (N := some 125) (v := ?_) (a' := ?_) #[true, true, true, true, true, true, true, true, true, false, false, false, false, false] rfl rfl (by kernel_rfl) (fun _ _ _ h => h) (Or.inl ⟨by rfl, ?_⟩) hHeld ?_ ?_
  rotate_left
  · rintro w' ⟨s0, s1⟩; go_simp; with_reducible rfl
  rotate_left
  · go_simp; rfl
  refine pure_ (i := 9) (N := some 126) (v := ?_) (a' := ?_) #[true, true, true, true, true, true, true, true, true, true, false, false, false, false] rfl rfl (by kernel_rfl) (fun _ _ _ h => h) (Or.inl ⟨by rfl, ?_⟩) ?_ ?_
  rotate_left
  · intro w'; go_simp; with_reducible rfl
  rotate_left
  · go_simp; rfl
  refine one_ (i := 10) (N := some 127) #[true, true, true, true, true, true, true, true, true, true, true, false, false, false] rfl rfl (by kernel_rfl) (by decide) (fun K hK => ?_)
  go_simp
  refine (delete_any base ub m c i xs _ (by exact World.ownsRow.alloc (World.ownsRow.alloc HU.out _) _) hi hm H1.out).mono ?_
  rintro e w1 ⟨rfl, hown, hk⟩
  have g0 : w1.cell? ⟨wb, 3, none⟩ = some (.slice (some ⟨ub, 0, none⟩) m c) := (hk.cell (p := ⟨wb, 3, none⟩) (by simp; omega) A1.out).trans (by go_simp)
  have g1 : w1.cell? ⟨w.heap.size, 1, none⟩ = some (.int .i64 i) := (hk.cell (p := ⟨w.heap.size, 1, none⟩) (by simp; omega) (by show w.heap.size ≠ ub; omega)).trans (by go_simp)
  have g2 : w1.cell? ⟨w.heap.size, 0, none⟩ = some (.int .i64 4) := (hk.cell (p := ⟨w.heap.size, 0, none⟩) (by simp; omega) (by show w.heap.size ≠ ub; omega)).trans (by go_simp)
  have g9 : w1.frozen? ⟨wb, 3, none⟩ = false := (hk.frozen (p := ⟨wb, 3, none⟩) (by simp; omega) A1.out).trans (by go_simp)
  have HB : Hid (Blk w1 wb #[sv, rv, .int .i64 t, .slice (some ⟨ub, 0, none⟩) m c] 105) := Blk.keep (Blk.drewN (Blk.alloc (Blk.drewN (Blk.alloc HW.out _) _) _) _) hk A1.out
  have HC : Hid (Blk w1 (w.heap.size + 1) (ltrC f k an t1 t2 t0).toArray 48) := Blk.keep (Blk.drewN (heap_alloc_at _ _ (by simp)) _) hk (by show w.heap.size + 1 ≠ ub; omega)
  have HO := Lib.hid hown
  have HK : Hid (Keep (fun k => k = wb ∨ k = ub) w w1) := Keep.trans ((((Keep.refl (fun k => k = wb ∨ k = ub) w).alloc _).drewN _).alloc _ |>.drewN _) hk (fun _ _ h => .inr h)
  clear hown hk
  refine hK.out _ _ ⟨g0, g1⟩ (fun hHeld => ?_)
  clear hK K
  refine pure_ (i := 11) (N := some 128) (v := ?_) (a' := ?_) #[true, true, true, true, true, true, true, true, true, true, true, true, false, false] rfl rfl (by kernel_rfl) (fun _ _ _ h => h) (Or.inl ⟨by rfl, ?_⟩) ?_ ?_
  rotate_left
  · intro w'; go_simp; with_reducible rfl
  rotate_left
  · go_simp; rfl
  refine pure_ (i := 12) (N := some 129) (v := ?_) (a' := ?_) #[true, true, true, true, true, true, true, true, true, true, true, true, true, false] rfl rfl (by kernel_rfl) (fun _ _ _ h => h) (Or.inl ⟨by rfl, ?_⟩) ?_ ?_
  rotate_left
  · intro w'; go_simp; with_reducible rfl
  rotate_left
  · go_simp; rfl
  refine last_ (i := 13) (N := none) #[true, true, true, true, true, true, true, true, true, true, true, true, true, true] rfl rfl (by kernel_rfl) (by decide) (fun K hK => ?_)
  go_simp
  refine hK.out _ _ ?_
  clear hK K
  refine done_ (by kernel_rfl) ?_
  go_wp2
  go_returns
  have hT : Taken w base wb ub sv rv t m c i xs (w1.setCell ⟨wb, 3, none⟩ (.slice (some ⟨ub, 0, none⟩) (m - 1) c)) :=
    ⟨HB.out.set 3 _, ownsRow_setCell_other HO.out (by intro h; simp only [Value.ownBlock, Option.some.injEq] at h; exact A1.out h.symm) _, HK.out.setCell (.inl (.inl rfl)) _⟩
  exact ⟨rfl, hT⟩

end Go.Proofs.Ytjohngeaifgcgaa

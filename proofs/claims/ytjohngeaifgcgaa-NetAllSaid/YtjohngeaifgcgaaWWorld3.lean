/- A world's Do, the ways that tell an error, and time that goes on. -/
import Derived.Test.YtjohngeaifgcgaaWWorld2
namespace Go.Proofs.Ytjohngeaifgcgaa
open Go.RowKit
open Go.Proofs.YtjohngeaifgcgaaW.PrintLast

set_option maxRecDepth 100000 in
set_option maxHeartbeats 1000000 in
theorem doNone (wb : Nat) (what a b : Int) (w : World) (q1 : (what == 1) = false) (q2 : (what == 2) = false) (q3 : (what == 3) = false) (q4 : (what == 4) = false) (q5 : (what == 5) = false) :
    Calls Try.prog 24 #[.pointer (some ⟨wb, 0, none⟩), .agg #[.int .i64 what, .int .i64 a, .int .i64 b]] w fun e w' => e = .returned (.tuple #[.pointer none, errV 1]) ∧ Below w.heap.size w w' := by
  go_enter Try.func24, Try.ntmps24
  go_wp2
  go_returns
  exact ⟨rfl, Below.toAlloc _⟩

set_option maxRecDepth 100000 in
set_option maxHeartbeats 1000000 in
theorem doGo_no (wb : Nat) (t a b : Int) (w : World) (h2 : w.cell? ⟨wb, 2, none⟩ = some (.int .i64 t)) (b1 : 0 ≤ t) (b2 : t ≤ 1000000000) (h : a < 0 ∨ 1000000 < a ∨ 1000000000 < t + a) :
    Calls Try.prog 24 #[.pointer (some ⟨wb, 0, none⟩), .agg #[.int .i64 1, .int .i64 a, .int .i64 b]] w fun e w' => e = .returned (.tuple #[.pointer none, errV 1]) ∧ Below w.heap.size w w' := by
  have l1 := World.block_lt_of_cell? w _ h2
  by_cases c1 : a < 0
  · have d1 : decide (a < 0) = true := by simpa using c1
    go_enter Try.func24, Try.ntmps24
    go_wp2_with fail
    go_quiet (fail)
    go_wp2
    go_returns
    exact ⟨rfl, below_drewN (Below.toAlloc _) _⟩
  · have d1 : decide (a < 0) = false := by simpa using c1
    by_cases c2 : 1000000 < a
    · have d2 : decide (1000000 < a) = true := by simpa using c2
      go_enter Try.func24, Try.ntmps24
      go_wp2_with fail
      go_quiet (fail)
      go_wp2
      go_returns
      exact ⟨rfl, below_drewN (Below.toAlloc _) _⟩
    · have d2 : decide (1000000 < a) = false := by simpa using c2
      have hw1 : IntKind.i64.wrap (t + a) = t + a := IntWalk.i64_in _ (by omega)
      have d3 : decide (1000000000 < t + a) = true := by simp; omega
      go_enter Try.func24, Try.ntmps24
      go_wp2_with fail
      go_quiet (fail)
      go_wp2
      go_returns
      exact ⟨rfl, below_drewN (Below.toAlloc _) _⟩

set_option maxRecDepth 100000 in
set_option maxHeartbeats 1000000 in
theorem doGo_ok (wb : Nat) (sv rv uv : Value) (t a b : Int) (w : World) (hw : Blk w wb #[sv, rv, .int .i64 t, uv] 105) (b1 : 0 ≤ t) (b3 : 0 ≤ a) (b4 : a ≤ 1000000) (b5 : t + a ≤ 1000000000) :
    Calls Try.prog 24 #[.pointer (some ⟨wb, 0, none⟩), .agg #[.int .i64 1, .int .i64 a, .int .i64 b]] w fun e w' => e = .returned (.tuple #[.pointer none, .nilIface]) ∧
      Blk w' wb #[sv, rv, .int .i64 (t + a), uv] 105 ∧ Keep (fun k => k = wb) w w' := by
  have h2 := hw.at 2
  have hf := hw.free 2
  simp only [List.getElem?_toArray, List.getElem?_cons_zero, List.getElem?_cons_succ] at h2
  have HW := Lib.hid hw
  clear hw
  have l1 := World.block_lt_of_cell? w _ h2
  have d1 : decide (a < 0) = false := by simpa using b3
  have d2 : decide (1000000 < a) = false := by simpa using b4
  have hw1 : IntKind.i64.wrap (t + a) = t + a := IntWalk.i64_in _ (by omega)
  have d3 : decide (1000000000 < t + a) = false := by simp; omega
  go_enter Try.func24, Try.ntmps24
  go_wp2_with fail
  go_quiet (fail)
  go_wp2
  refine start_ (n := 10) (S := fun w' => w'.cell? ⟨wb, 2, none⟩ = some (.int .i64 t) ∧ w'.cell? ⟨w.heap.size, 1, none⟩ = some (.int .i64 a)) (ds := [9]) #[false, false, false, false, false, false, false, false, false, false] (by kernel_rfl) rfl rfl (⟨by go_simp, by go_simp⟩) (fun hHeld => ?_)
  refine pure_ (i := 0) (N := some 30) (v := ?_) (a' := ?_) #[true, false, false, false, false, false, false, false, false, false] rfl rfl (by kernel_rfl) (fun _ _ _ h => h) (Or.inl ⟨by rfl, ?_⟩) ?_ ?_
  rotate_left
  · intro w'; go_simp; with_reducible rfl
  rotate_left
  · go_simp; rfl
  refine pure_ (i := 1) (N := some 31) (v := ?_) (a' := ?_) #[true, true, false, false, false, false, false, false, false, false] rfl rfl (by kernel_rfl) (fun _ _ _ h => h) (Or.inl ⟨by rfl, ?_⟩) ?_ ?_
  rotate_left
  · intro w'; go_simp; with_reducible rfl
  rotate_left
  · go_simp; rfl
  refine pure_ (i := 2) (N := some 32) (v := ?_) (a' := ?_) #[true, true, true, false, false, false, false, false, false, false] rfl rfl (by kernel_rfl) (fun _ _ _ h => h) (Or.inl ⟨by rfl, ?_⟩) ?_ ?_
  rotate_left
  · intro w'; go_simp; with_reducible rfl
  rotate_left
  · go_simp; rfl
  refine take_ (i := 3) (N := some 33) (v := ?_) (a' := ?_) #[true, true, true, true, false, false, false, false, false, false] rfl rfl (by kernel_rfl) (fun _ _ _ h => h) (Or.inl ⟨by rfl, ?_⟩) hHeld ?_ ?_
  rotate_left
  · rintro w' ⟨s0, s1⟩; go_simp; with_reducible rfl
  rotate_left
  · go_simp; rfl
  refine pure_ (i := 4) (N := some 34) (v := ?_) (a' := ?_) #[true, true, true, true, true, false, false, false, false, false] rfl rfl (by kernel_rfl) (fun _ _ _ h => h) (Or.inl ⟨by rfl, ?_⟩) ?_ ?_
  rotate_left
  · intro w'; go_simp; with_reducible rfl
  rotate_left
  · go_simp; rfl
  refine take_ (i := 5) (N := some 35) (v := ?_) (a' := ?_) #[true, true, true, true, true, true, false, false, false, false] rfl rfl (by kernel_rfl) (fun _ _ _ h => h) (Or.inl ⟨by rfl, ?_⟩) hHeld ?_ ?_
  rotate_left
  · rintro w' ⟨s0, s1⟩; go_simp; with_reducible rfl
  rotate_left
  · go_simp; rfl
  refine pure_ (i := 6) (N := some 36) (v := ?_) (a' := ?_) #[true, true, true, true, true, true, true, false, false, false] rfl rfl (by kernel_rfl) (fun _ _ _ h => h) (Or.inl ⟨by rfl, ?_⟩) ?_ ?_
  rotate_left
  · intro w'; go_simp; with_reducible rfl
  rotate_left
  · go_simp; rfl
  refine pure_ (i := 7) (N := some 37) (v := ?_) (a' := ?_) #[true, true, true, true, true, true, true, true, false, false] rfl rfl (by kernel_rfl) (fun _ _ _ h => h) (Or.inl ⟨by rfl, ?_⟩) ?_ ?_
  rotate_left
  · intro w'; go_simp; with_reducible rfl
  rotate_left
  · go_simp; rfl
  refine pure_ (i := 8) (N := some 38) (v := ?_) (a' := ?_) #[true, true, true, true, true, true, true, true, true, false] rfl rfl (by kernel_rfl) (fun _ _ _ h => h) (Or.inl ⟨by rfl, ?_⟩) ?_ ?_
  rotate_left
  · intro w'; go_simp; with_reducible rfl
  rotate_left
  · go_simp; rfl
  refine last_ (i := 9) (N := none) #[true, true, true, true, true, true, true, true, true, true] rfl rfl (by kernel_rfl) (by decide) (fun K hK => ?_)
  go_simp
  refine hK.out _ _ ?_
  clear hK K
  refine done_ (by kernel_rfl) ?_
  go_wp2
  go_returns
  exact ⟨rfl, Blk.set (Blk.drewN (Blk.alloc HW.out _) _) 2 _, (((Keep.refl (fun k => k = wb) w).alloc _).drewN _).setCell (.inl rfl) _⟩

set_option maxRecDepth 100000 in
set_option maxHeartbeats 1000000 in
theorem doAsk_range (wb n cs : Nat) (A : Option Addr) (a b : Int) (w : World) (h0 : w.cell? ⟨wb, 0, none⟩ = some (.slice A n cs)) (h : nodeB n a = false ∨ nodeB n b = false) :
    Calls Try.prog 24 #[.pointer (some ⟨wb, 0, none⟩), .agg #[.int .i64 2, .int .i64 a, .int .i64 b]] w fun e w' => e = .returned (.tuple #[.pointer none, errV 1]) ∧ Below w.heap.size w w' := by
  have l1 := World.block_lt_of_cell? w _ h0
  cases ha : nodeB n a
  · have Q1 := Lib.hid ha
    clear ha h
    go_enter Try.func24, Try.ntmps24
    go_wp2_with fail
    refine (has_any wb n cs A a _ (by go_simp)).mono ?_
    rintro e w' ⟨rfl, rfl⟩
    rw [Q1.out]
    go_wp2
    go_returns
    exact ⟨rfl, Below.toAlloc _⟩
  · have hb : nodeB n b = false := by rcases h with h | h; rw [h] at ha; cases ha; exact h
    have Q1 := Lib.hid ha
    have Q2 := Lib.hid hb
    clear ha hb h
    go_enter Try.func24, Try.ntmps24
    go_wp2_with fail
    refine (has_any wb n cs A a _ (by go_simp)).mono ?_
    rintro e w' ⟨rfl, rfl⟩
    rw [Q1.out]
    go_wp2_with fail
    refine (has_any wb n cs A b _ (by go_simp)).mono ?_
    rintro e w' ⟨rfl, rfl⟩
    rw [Q2.out]
    go_wp2
    go_returns
    exact ⟨rfl, Below.toAlloc _⟩

set_option maxRecDepth 100000 in
set_option maxHeartbeats 1000000 in
theorem doAsk_shape (wb n cs : Nat) (A : Option Addr) (a : Int) (w : World) (h0 : w.cell? ⟨wb, 0, none⟩ = some (.slice A n cs)) (h : nodeB n a = true) :
    Calls Try.prog 24 #[.pointer (some ⟨wb, 0, none⟩), .agg #[.int .i64 2, .int .i64 a, .int .i64 a]] w fun e w' => e = .returned (.tuple #[.pointer none, errV 3]) ∧ Below w.heap.size w w' := by
  have l1 := World.block_lt_of_cell? w _ h0
  have Q1 := Lib.hid h
  clear h
  go_enter Try.func24, Try.ntmps24
  go_wp2_with fail
  refine (has_any wb n cs A a _ (by go_simp)).mono ?_
  rintro e w' ⟨rfl, rfl⟩
  rw [Q1.out]
  go_wp2_with fail
  refine (has_any wb n cs A a _ (by go_simp)).mono ?_
  rintro e w' ⟨rfl, rfl⟩
  rw [Q1.out]
  go_wp2
  go_returns
  exact ⟨rfl, Below.toAlloc _⟩

set_option maxRecDepth 100000 in
set_option maxHeartbeats 1000000 in
theorem doAsk_full (wb n cs m c : Nat) (A A2 : Option Addr) (a b : Int) (w : World) (h0 : w.cell? ⟨wb, 0, none⟩ = some (.slice A n cs)) (h3 : w.cell? ⟨wb, 3, none⟩ = some (.slice A2 m c))
    (ha : nodeB n a = true) (hb : nodeB n b = true) (q3 : (a == b) = false) (hm : 40 ≤ m) (hm2 : m ≤ 1000) :
    Calls Try.prog 24 #[.pointer (some ⟨wb, 0, none⟩), .agg #[.int .i64 2, .int .i64 a, .int .i64 b]] w fun e w' => e = .returned (.tuple #[.pointer none, errV 4]) ∧ Below w.heap.size w w' := by
  have l1 := World.block_lt_of_cell? w _ h0
  have Q1 := Lib.hid ha
  have Q2 := Lib.hid hb
  clear ha hb
  go_enter Try.func24, Try.ntmps24
  go_wp2_with fail
  refine (has_any wb n cs A a _ (by go_simp)).mono ?_
  rintro e w' ⟨rfl, rfl⟩
  rw [Q1.out]
  go_wp2_with fail
  refine (has_any wb n cs A b _ (by go_simp)).mono ?_
  rintro e w' ⟨rfl, rfl⟩
  rw [Q2.out]
  go_wp2
  go_returns
  exact ⟨rfl, Below.toAlloc _⟩
end Go.Proofs.Ytjohngeaifgcgaa

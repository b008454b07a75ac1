/- New nodes, new worlds: what they lay in memory. -/
import Derived.Test.YtjohngeaifgcgaaWHear
namespace Go.Proofs.Ytjohngeaifgcgaa
open Go.RowKit
open Go.Proofs.YtjohngeaifgcgaaW.PrintLast

set_option maxRecDepth 100000 in
set_option maxHeartbeats 1000000 in
theorem nodeNew_ok (id nodes : Nat) (ppm : Int) (w : World) (h1 : 1 ≤ nodes) (h2 : nodes ≤ 6) (hid : id < nodes) (hp : 0 ≤ ppm) (hp2 : ppm ≤ 1000) :
    Calls Try.prog 23 #[.int .i64 id, .int .i64 nodes, .int .i64 ppm] w fun e w' => e = .returned (.tuple #[.pointer (some ⟨w.heap.size + 1, 0, none⟩), .nilIface]) ∧
      Blk w' (w.heap.size + 1) (nodeC id nodes ppm (-1) w.heap.size) 108 ∧ MapIs w' w.heap.size (fun _ => none) ∧ Below w.heap.size w w' ∧ w'.heap.size = w.heap.size + 2 := by
  have q3 : nodeB nodes id = true := by simp [nodeB]; omega
  have hr : rateB ppm = true := by simp [rateB]; omega
  have HF := Lib.hid (fun w => (by rw [← q3]; exact node_any nodes id w : Calls Try.prog 28 #[.int .i64 nodes, .int .i64 id] w fun e w' => e = .returned (.bool true) ∧ w = w'))
  have HR := Lib.hid (fun w => (by rw [← hr]; exact rate_any ppm w : Calls Try.prog 42 #[.int .i64 ppm] w fun e w' => e = .returned (.bool true) ∧ w = w'))
  clear q3 hr
  have hmm := @run_makeMap Try.prog
  go_enter Try.func23, Try.ntmps23
  go_wp2_with fail
  refine (HF.out _).mono ?_
  rintro e w' ⟨rfl, rfl⟩
  go_wp2_with fail
  refine (HR.out _).mono ?_
  rintro e w' ⟨rfl, rfl⟩
  go_wp2
  go_returns
  refine ⟨rfl, heap_alloc_at _ _ (by simp), MapIs.made (Blk.alloc (heap_alloc_at _ _ rfl) _), ((Below.refl _ w).alloc (Nat.le_refl _) _).alloc (by simp) _, by simp⟩
end Go.Proofs.Ytjohngeaifgcgaa

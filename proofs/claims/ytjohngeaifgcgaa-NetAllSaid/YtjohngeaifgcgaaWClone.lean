/- slices.Clone of a list of ints. -/
import Derived.Test.YtjohngeaifgcgaaWKit
namespace Go.Proofs.Ytjohngeaifgcgaa
open Go.RowKit

theorem infoInt : (Try.prog.info? 3).map (fun i => (i.zero, i.size, i.bytes)) = some (some (.int .i64 0), 1, 8) := by kernel_rfl

def CloneIs (w : World) (n : Nat) (zs : List Int) (e : Ending) (w' : World) : Prop :=
  ∃ g c, e = .returned (.slice (some ⟨g, 0, none⟩) n c) ∧ w'.ownsRow w.heap.size 3 1 (.slice (some ⟨g, 0, none⟩) n c) n (zs.map (.int .i64)) ∧ Below w.heap.size w w'

set_option maxRecDepth 100000 in
set_option maxHeartbeats 1000000 in
theorem clone_any (a : Addr) (n c : Nat) (zs : List Int) (w : World) (hn : zs.length = n) (h1 : 1 ≤ n) (h2 : n ≤ 100) (hc : ∀ j u, (zs.map (Value.int .i64))[j]? = some u → w.cell? (a.add j) = some u) :
    Calls Try.prog 45 #[.slice (some a) n c] w (CloneIs w n zs) := by
  obtain ⟨i0, hi0, hz0, hz1, hz2⟩ := info_parts infoInt
  have HC := Lib.hid hc
  have HN := Lib.hid hn
  clear hc hn
  have hnn : ∀ w : World, (binOp .eql 22 (.slice (some a) n c) (.slice none 0 0)).run Try.prog w = .ok (.bool false) w := fun w => Lib.run_eql_slice_nil w _ _ (some a) n c 0 0 Try.underlying22
  have hal : a.block < w.heap.size := by
    have h0 : (zs.map (Value.int .i64))[0]? = some (.int .i64 (zs[0]'(by have := HN.out; omega))) := by simp
    have := HC.out 0 _ h0
    rw [show a.add 0 = a by unfold Addr.add; split <;> simp_all] at this
    exact World.block_lt_of_cell? w _ this
  have hnews : ∀ j u, (zs.map (Value.int .i64))[j]? = some u → (w.alloc (.cells #[] 3)).cell? (a.add j) = some u := fun j u hu => by
    rw [show (w.alloc (.cells #[] 3)).cell? (a.add j) = w.cell? (a.add j) from World.cell?_of_block (Below.heap_alloc _ _ _ (by rw [show (a.add j).block = a.block by unfold Addr.add; split <;> rfl]; exact hal))]
    exact HC.out j u hu
  have hown : (w.alloc (.cells #[] 3)).ownsRow w.heap.size 3 1 (.slice (some ⟨w.heap.size, 0, none⟩) 0 0) 0 [] := ⟨rfl, .inr ⟨w.heap.size, 0, #[], rfl, Nat.le_refl _, heap_alloc_new _ _, Nat.le_refl _, by decide, rfl, rfl⟩⟩
  have HNW := Lib.hid hnews
  have HOW := Lib.hid hown
  clear hnews hown
  go_enter Try.func45, Try.ntmps45
  have z1 : (zs.map (Value.int .i64)).length = n * 1 := by rw [List.length_map, HN.out]; omega
  have z3 : ∀ u ∈ zs.map (Value.int .i64), u.oneCell' = true := by intro u hu; obtain ⟨z, _, rfl⟩ := List.mem_map.1 hu; rfl
  have z4 : 0 + n ≤ maxLen := by unfold maxLen; omega
  have z5 : (0 + n) * 8 ≤ 140737488355328 := by omega
  have Z1 := Lib.hid z1
  have Z3 := Lib.hid z3
  have Z4 := Lib.hid z4
  have Z5 := Lib.hid z5
  clear z1 z3 z4 z5
  go_wp2_with (at_builtin; refine wpList_append_own _ rfl _ _ 22 rfl w.heap.size 3 i0 (.int .i64 0) 1 8 Try.underlying22 hi0 hz0 hz1 hz2 rfl (by decide) _ 0 [] rfl HOW.out a n c (zs.map (Value.int .i64)) rfl Z1.out HNW.out Z3.out Z4.out Z5.out (by simp) ?_; intro v' w1 hown1 hgrow _)
  have hown2 : w1.ownsRow w.heap.size 3 1 v' n (zs.map (Value.int .i64)) := by simpa using hown1
  obtain ⟨g, c', rfl, hg1, hg2⟩ := ownsRow_at hown2 (by omega)
  have HO2 := Lib.hid hown2
  have HB2 : Hid (Below w.heap.size w w1) := ((Below.refl _ w).alloc (Nat.le_refl _) _).grown hgrow (by simp) (fun k hk => by cases hk; exact Nat.le_refl _)
  clear hown1 hown2 hgrow
  go_wp2
  go_returns
  exact ⟨g, c', rfl, HO2.out, HB2.out⟩
end Go.Proofs.Ytjohngeaifgcgaa

/- bounds.upTo; whether anything on the diagonal is below 0. -/
import Derived.Test.YtjohngeaifgcgaaWMx
import Derived.Deep.Draws
import Derived.Outline
namespace Go.Proofs.Ytjohngeaifgcgaa
open Go.RowKit
open Noon (Mat Edg)
open Go.Proofs.YtjohngeaifgcgaaW.PrintLast

def numsC (n : Nat) : List Value := (List.range n).map fun j : Nat => .int .i64 (j : Int)
theorem numsC_succ (n : Nat) : numsC (n + 1) = numsC n ++ [.int .i64 (n : Int)] := by simp [numsC, List.range_succ]
theorem numsC_get {n j : Nat} (h : j < n) : (numsC n)[j]? = some (.int .i64 (j : Int)) := by simp [numsC, h]

def UpTo (w : World) (n : Nat) (e : Ending) (w' : World) : Prop :=
  ∃ v, e = .returned v ∧ w'.ownsRow w.heap.size 3 1 v n (numsC n) ∧ Below w.heap.size w w'

set_option maxRecDepth 100000 in
set_option maxHeartbeats 1000000 in
theorem upTo_ok (n : Nat) (w : World) (h2 : n ≤ 6) : Calls Try.prog 70 #[.int .i64 n] w (UpTo w n) := by
  obtain ⟨i0, hi0, hz0, hz1, hz2⟩ := info_parts infoInt
  go_enter Try.func70, Try.ntmps70
  go_wp2_with fail
  go_loopg [2, 3, 5] n (fun gk s2 s3 s5 wr => ∃ k : Nat, k ≤ n ∧ gk = n - k ∧ s5 = .int .i64 k ∧ Hid (wr.ownsRow w.heap.size 3 1 s2 k (numsC k)) ∧ Hid (Below w.heap.size w wr))
  case atStart => exact ⟨0, Nat.zero_le _, rfl, rfl, Lib.hid (World.ownsRow_nil _ _ _ _), Lib.hid (Below.refl _ _)⟩
  case round =>
    obtain ⟨k, hk, hgk, rfl, HO, HB⟩ := hrel
    by_cases hlt : k < n
    · have hkz : (k : Int) < (n : Int) := by omega
      have hbs := HB.out.size
      obtain ⟨A, c, rfl⟩ := ownsRow_slice HO.out
      have nlt : Hid (∀ x, (Value.slice A k c).ownBlock = some x → w.heap.size ≤ x) := Lib.hid (fun x hx => (HO.out.lt x hx).1)
      go_wp2_with (at_builtin; refine wpList_append_own _ rfl _ _ 22 rfl w.heap.size 3 i0 (.int .i64 0) 1 8 Try.underlying22 hi0 hz0 hz1 hz2 rfl (by decide) _ k (numsC k) rfl (World.ownsRow.alloc HO.out _) ⟨wr.heap.size, 0, none⟩ 1 1 [.int .i64 (k : Int)] rfl rfl (World.news_of_block (cs := #[.int .i64 (k : Int)]) (heap_alloc_new _ _)) (by simp [Value.oneCell']) (by unfold maxLen; omega) (by omega) (by simp; omega) ?_; intro v' w3 hown hgrow _; obtain ⟨g', c', rfl, _, _⟩ := ownsRow_at hown (by omega); have HO3 := Lib.hid hown; have HG3 := Lib.hid hgrow; clear hown hgrow)
      go_roundg (n - (k + 1))
      case measure => omega
      case rel =>
        refine ⟨k + 1, by omega, rfl, by go_num, ?_, ?_⟩
        · rw [numsC_succ]; exact HO3
        · exact Lib.hid (Below.grown (HB.out.alloc hbs _) HG3.out (by simp; omega) nlt.out)
    · obtain rfl : n = k := by omega
      go_wp2
      go_ret
      exact ⟨_, rfl, HO.out, HB.out⟩

/-- what stands on the diagonal -/
theorem diag_any (N n : Nat) (d : Mat) (w w' : World) (h : Mx N w w' n d) (i : Nat) (hi : i < n) :
    Calls Try.prog 71 #[.int .i64 i, .pointer (some ⟨N + 1, 0, none⟩)] w' fun e w2 => e = .returned (.bool (decide (d i i < 0))) ∧ w' = w2 := by
  have v0 := h.v
  have v1 := h.t hi
  have v2 := h.c hi hi
  have hiz : (i : Int) < (n : Int) := by omega
  generalize d i i = x at v2 ⊢
  clear h
  go_enter Try.func71, Try.ntmps71
  go_wp2
  go_ret
  exact ⟨rfl, rfl⟩

set_option maxRecDepth 100000 in
set_option maxHeartbeats 1000000 in
theorem index_no (N n b c : Nat) (d : Mat) (w w' : World) (h : Mx N w w' n d) (hd : ∀ i, i < n → 0 ≤ d i i) (hn : n ≤ 6) (hc : ∀ j, j < n → w'.cell? ⟨b, j, none⟩ = some (.int .i64 (j : Int))) :
    Calls Try.prog 77 #[.slice (some ⟨b, 0, none⟩) n c, .func (.func 71) #[] #[.pointer (some ⟨N + 1, 0, none⟩)]] w' fun e w2 => e = .returned (.int .i64 (-1)) ∧ w' = w2 := by
  have HD : Hid (∀ i, i < n → Calls Try.prog 71 #[.int .i64 i, .pointer (some ⟨N + 1, 0, none⟩)] w' fun e w2 => e = .returned (.bool false) ∧ w' = w2) := by
    refine Lib.hid (fun i hi => ?_)
    have := diag_any N n d w w' h i hi
    rwa [show decide (d i i < 0) = false by have := hd i hi; simp; omega] at this
  have HC := Lib.hid hc
  clear h hd hc
  go_enter Try.func77, Try.ntmps77
  go_wp2_with fail
  go_loopg [5, 8] n (fun gk s5 s8 wr => ∃ k : Nat, k ≤ n ∧ gk = n - k ∧ s8 = .int .i64 k ∧ wr = w')
  case atStart => exact ⟨0, Nat.zero_le _, rfl, rfl, rfl⟩
  case round =>
    obtain ⟨k, hk, hgk, rfl, rfl⟩ := hrel
    by_cases hlt : k < n
    · have hkz : (k : Int) < (n : Int) := by omega
      have hcell := HC.out k hlt
      go_wp2_with fail
      refine (HD.out k hlt).mono ?_
      rintro e w2 ⟨rfl, rfl⟩
      go_wp2
      go_roundg (n - (k + 1))
      case measure => omega
      case rel => exact ⟨k + 1, by omega, rfl, by go_num, rfl⟩
    · obtain rfl : n = k := by omega
      go_wp2
      go_ret
      exact ⟨rfl, rfl⟩

theorem contains_no (N n b c : Nat) (d : Mat) (w w' : World) (h : Mx N w w' n d) (hd : ∀ i, i < n → 0 ≤ d i i) (hn : n ≤ 6) (hc : ∀ j, j < n → w'.cell? ⟨b, j, none⟩ = some (.int .i64 (j : Int))) :
    Calls Try.prog 69 #[.slice (some ⟨b, 0, none⟩) n c, .func (.func 71) #[] #[.pointer (some ⟨N + 1, 0, none⟩)]] w' fun e w2 => e = .returned (.bool false) ∧ w' = w2 := by
  have HI := Lib.hid (index_no N n b c d w w' h hd hn hc)
  clear h hd hc
  go_enter Try.func69, Try.ntmps69
  go_wp2_with fail
  refine HI.out.mono ?_
  rintro e w2 ⟨rfl, rfl⟩
  go_wp2
  go_ret
  exact ⟨rfl, rfl⟩
end Go.Proofs.Ytjohngeaifgcgaa

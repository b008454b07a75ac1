/- What the smallest functions of the layers span, drift, probe and world compute: each call's result, with nothing that lay in memory turned. -/
import Derived.Test.YtjohngeaifgcgaaProg
import Derived.WalkKit
import Derived.WalkSpells
import Derived.WalkLawsBesides
import Derived.Deep.QuietTactic
import Derived.BigQuiet
import Derived.Lib.Hide
import Derived.Handy
namespace Go.Proofs.Ytjohngeaifgcgaa
open Go.RowKit

/-- an error: none (0), or its number -/
def errV (c : Nat) : Value := if c = 0 then .nilIface else .iface 82 (.int .i64 c)
theorem errV_0 : errV 0 = .nilIface := rfl
theorem errV_succ (c : Nat) : errV (c + 1) = .iface 82 (.int .i64 (c + 1 : Nat)) := rfl

def timeB (n : Int) : Bool := decide (-1000000000000 ≤ n) && decide (n ≤ 1000000000000)
theorem timeB_iff (n : Int) : timeB n = true ↔ -1000000000000 ≤ n ∧ n ≤ 1000000000000 := by simp [timeB]
def rightB (lo hi : Int) : Bool := decide (lo ≤ hi) && timeB lo && timeB hi
theorem rightB_iff (lo hi : Int) : rightB lo hi = true ↔ lo ≤ hi ∧ (-1000000000000 ≤ lo ∧ lo ≤ 1000000000000) ∧ (-1000000000000 ≤ hi ∧ hi ≤ 1000000000000) := by
  simp only [rightB, Bool.and_eq_true, decide_eq_true_eq, timeB_iff]; exact ⟨fun h => ⟨h.1.1, h.1.2, h.2⟩, fun h => ⟨⟨h.1, h.2.1⟩, h.2.2⟩⟩

theorem time_any (n : Int) (w : World) : Calls Try.prog 44 #[.int .i64 n] w fun e w' => e = .returned (.bool (timeB n)) ∧ w = w' := by
  by_cases h1 : -1000000000000 ≤ n
  · have e : timeB n = decide (n ≤ 1000000000000) := by simp [timeB, h1]
    rw [e]
    go_enter Try.func44, Try.ntmps44
    go_wp2
    go_ret
    exact ⟨rfl, rfl⟩
  · have e : timeB n = false := by simp [timeB, h1]
    rw [e]
    go_enter Try.func44, Try.ntmps44
    go_wp2
    go_ret
    exact ⟨rfl, rfl⟩

theorem right_any (lo hi : Int) (w : World) : Calls Try.prog 33 #[.agg #[.int .i64 lo, .int .i64 hi]] w fun e w' => e = .returned (.bool (rightB lo hi)) ∧ Below w.heap.size w w' := by
  by_cases h1 : lo ≤ hi
  · cases h2 : timeB lo
    · have e : rightB lo hi = false := by simp [rightB, h2]
      rw [e]
      go_enter Try.func33, Try.ntmps33
      go_wp2_with (go_at_call 44; refine (time_any _ _).mono ?_; rintro e w' ⟨rfl, rfl⟩)
      go_ret
      exact ⟨rfl, (Below.refl _ _).alloc (Nat.le_refl _) _⟩
    · have e : rightB lo hi = timeB hi := by simp [rightB, h2, h1]
      rw [e]
      go_enter Try.func33, Try.ntmps33
      go_wp2_with (go_at_call 44; refine (time_any _ _).mono ?_; rintro e w' ⟨rfl, rfl⟩)
      go_ret
      exact ⟨rfl, (Below.refl _ _).alloc (Nat.le_refl _) _⟩
  · have e : rightB lo hi = false := by simp [rightB, h1]
    rw [e]
    go_enter Try.func33, Try.ntmps33
    go_wp2
    go_ret
    exact ⟨rfl, (Below.refl _ _).alloc (Nat.le_refl _) _⟩

theorem bcell {W w1 : World} (hb : Below W.heap.size W w1) : (∀ b o, b < W.heap.size → w1.cell? ⟨b, o, none⟩ = W.cell? ⟨b, o, none⟩) ∧ (∀ b o, b < W.heap.size → w1.frozen? ⟨b, o, none⟩ = W.frozen? ⟨b, o, none⟩) :=
  ⟨fun b o h => hb.cell (p := ⟨b, o, none⟩) h, fun b o h => hb.frozen (p := ⟨b, o, none⟩) h⟩

theorem check_any (lo hi : Int) (w : World) : Calls Try.prog 30 #[.agg #[.int .i64 lo, .int .i64 hi]] w fun e w' => e = .returned (errV (if rightB lo hi then 0 else 1)) ∧ Below w.heap.size w w' := by
  cases h : rightB lo hi
  all_goals
    go_enter Try.func30, Try.ntmps30
    go_wp2_with (go_at_call 33; refine (right_any _ _ _).mono ?_; rintro e w' ⟨rfl, hb⟩)
    go_ret
    exact ⟨rfl, ((Below.refl _ _).alloc (Nat.le_refl _) _).trans (hb.mono (by simp))⟩

theorem common_any (a b c d : Int) (w : World) : Calls Try.prog 50 #[.agg #[.int .i64 a, .int .i64 b], .agg #[.int .i64 c, .int .i64 d]] w fun e w' =>
    e = .returned (.tuple #[.agg #[.int .i64 (max a c), .int .i64 (min b d)], .bool (decide (max a c ≤ min b d))]) ∧ Below w.heap.size w w' := by
  have e1 : (max a c = c ∧ a ≤ c) ∨ (max a c = a ∧ c ≤ a) := by omega
  have e2 : (min b d = b ∧ b ≤ d) ∨ (min b d = d ∧ d ≤ b) := by omega
  go_enter Try.func50, Try.ntmps50
  go_wp2
  all_goals
    go_region
    go_wp2
    go_returns
    refine ⟨?_, by go_grown⟩
    congr
    all_goals omega

theorem wider_any (a b n : Int) (w : World) (h1 : -9000000000000000000 ≤ a - n) (h2 : b + n ≤ 9000000000000000000) (h3 : -4000000000000000000 ≤ b) (h4 : a ≤ 4000000000000000000) (h5 : 0 ≤ n) (h6 : n ≤ 4000000000000000000) :
    Calls Try.prog 68 #[.agg #[.int .i64 a, .int .i64 b], .int .i64 n] w fun e w' => e = .returned (.agg #[.int .i64 (a - n), .int .i64 (b + n)]) ∧ Below w.heap.size w w' := by
  go_enter Try.func68, Try.ntmps68
  go_wp2
  go_returns
  exact ⟨rfl, by go_grown⟩

/-- rounded up -/
def upD (a b : Int) : Int := (a + b - 1) / b
theorem up_any (a b : Int) (w : World) (h0 : 0 ≤ a) (h1 : a ≤ 8000000000000000000) (hb : 1 ≤ b) (hb2 : b ≤ 2000000) :
    Calls Try.prog 76 #[.int .i64 a, .int .i64 b] w fun e w' => e = .returned (.int .i64 (upD a b)) ∧ w = w' := by
  go_enter Try.func76, Try.ntmps76
  go_wp2
  go_ret
  exact ⟨rfl, rfl⟩

def byD (n ppm : Int) : Int := upD (n * ppm) 1000000
theorem by_any (n ppm : Int) (w : World) (h0 : 0 ≤ n * ppm) (h1 : n * ppm ≤ 8000000000000000000) :
    Calls Try.prog 66 #[.int .i64 n, .int .i64 ppm] w fun e w' => e = .returned (.int .i64 (byD n ppm)) ∧ w = w' := by
  go_enter Try.func66, Try.ntmps66
  go_wp2_with (go_at_call 76; refine (up_any _ _ _ (by omega) (by omega) (by omega) (by omega)).mono ?_; rintro e w' ⟨rfl, rfl⟩)
  go_ret
  exact ⟨rfl, rfl⟩

def rateB (ppm : Int) : Bool := decide (0 ≤ ppm) && decide (ppm ≤ 1000)
theorem rate_any (n : Int) (w : World) : Calls Try.prog 42 #[.int .i64 n] w fun e w' => e = .returned (.bool (rateB n)) ∧ w = w' := by
  by_cases h1 : 0 ≤ n
  · have e : rateB n = decide (n ≤ 1000) := by simp [rateB, h1]
    rw [e]
    go_enter Try.func42, Try.ntmps42
    go_wp2
    go_ret
    exact ⟨rfl, rfl⟩
  · have e : rateB n = false := by simp [rateB, h1]
    rw [e]
    go_enter Try.func42, Try.ntmps42
    go_wp2
    go_ret
    exact ⟨rfl, rfl⟩

def slackD (n ppm : Int) : Int := 2 + byD n (3 * ppm)
theorem slack_any (n ppm : Int) (w : World) (h0 : 0 ≤ n) (h1 : n ≤ 1000000000000) (h2 : 0 ≤ ppm) (h3 : ppm ≤ 1000) :
    Calls Try.prog 43 #[.int .i64 n, .int .i64 ppm] w fun e w' => e = .returned (.int .i64 (slackD n ppm)) ∧ w = w' := by
  have k1 : 0 ≤ n * (3 * ppm) := Int.mul_nonneg h0 (by omega)
  have k2 : n * (3 * ppm) ≤ 1000000000000 * 3000 := Int.mul_le_mul h1 (by omega) (by omega) (by omega)
  have k3 : 0 ≤ byD n (3 * ppm) ∧ byD n (3 * ppm) ≤ 4000000000000 := by unfold byD upD; omega
  go_enter Try.func43, Try.ntmps43
  go_wp2_with (go_at_call 66; refine (by_any _ _ _ (by omega) (by omega)).mono ?_; rintro e w' ⟨rfl, rfl⟩)
  go_ret
  exact ⟨rfl, rfl⟩

theorem down_ge {n : Int} (h : 0 ≤ n.tmod 1000000) : n.tdiv 1000000 = n / 1000000 := by
  rcases Int.le_total 0 n with h0 | h0
  · exact Int.tdiv_eq_ediv_of_nonneg h0
  · have e1 : n.tdiv 1000000 = -((-n) / 1000000) := by rw [← Int.tdiv_eq_ediv_of_nonneg (by omega), Int.neg_tdiv, Int.neg_neg]
    have e2 : n.tmod 1000000 = -((-n) % 1000000) := by rw [← Int.tmod_eq_emod_of_nonneg (by omega), Int.neg_tmod, Int.neg_neg]
    omega
theorem down_lt {n : Int} (h : n.tmod 1000000 < 0) : n.tdiv 1000000 - 1 = n / 1000000 := by
  rcases Int.le_total 0 n with h0 | h0
  · have := Int.tmod_nonneg 1000000 h0; omega
  · have e1 : n.tdiv 1000000 = -((-n) / 1000000) := by rw [← Int.tdiv_eq_ediv_of_nonneg (by omega), Int.neg_tdiv, Int.neg_neg]
    have e2 : n.tmod 1000000 = -((-n) % 1000000) := by rw [← Int.tmod_eq_emod_of_nonneg (by omega), Int.neg_tmod, Int.neg_neg]
    omega
theorem ret_int {k : IntKind} {a b : Int} (h : a = b) : Ending.returned (.int k a) = .returned (.int k b) := by rw [h]
theorem down_any (n : Int) (w : World) (h1 : -4000000000000000000 ≤ n) (h2 : n ≤ 4000000000000000000) :
    Calls Try.prog 67 #[.int .i64 n] w fun e w' => e = .returned (.int .i64 (n / 1000000)) ∧ w = w' := by
  have hb : -4000000000001 ≤ n.tdiv 1000000 ∧ n.tdiv 1000000 ≤ 4000000000001 := by
    by_cases h : 0 ≤ n.tmod 1000000
    · have := down_ge h; omega
    · have := down_lt (n := n) (by omega); omega
  obtain ⟨hb1, hb2⟩ := hb
  by_cases h : 0 ≤ n
  · go_enter Try.func67, Try.ntmps67
    go_wp2
    go_ret
    exact ⟨ret_int (Int.tdiv_eq_ediv_of_nonneg h), rfl⟩
  · go_enter Try.func67, Try.ntmps67
    go_wp2
    · go_ret
      exact ⟨ret_int (down_lt ‹_›), rfl⟩
    · go_ret
      exact ⟨ret_int (down_ge ‹_›), rfl⟩

def nodeB (n i : Int) : Bool := decide (0 ≤ i) && decide (i < n)
theorem node_any (n i : Int) (w : World) : Calls Try.prog 28 #[.int .i64 n, .int .i64 i] w fun e w' => e = .returned (.bool (nodeB n i)) ∧ w = w' := by
  by_cases h1 : 0 ≤ i
  · have e : nodeB n i = decide (i < n) := by simp [nodeB, h1]
    rw [e]
    go_enter Try.func28, Try.ntmps28
    go_wp2
    go_ret
    exact ⟨rfl, rfl⟩
  · have e : nodeB n i = false := by simp [nodeB, h1]
    rw [e]
    go_enter Try.func28, Try.ntmps28
    go_wp2
    go_ret
    exact ⟨rfl, rfl⟩
end Go.Proofs.Ytjohngeaifgcgaa

/- What a good net tells: its edges; plain. -/
import Derived.Test.YtjohngeaifgcgaaPGood
import Derived.Test.YtjohngeaifgcgaaPBounds
namespace Noon

/-- what node i tells of node j -/
def St.tells (s : St) (i j : Nat) : Option (Int × Int) := ((s.nodes i).of j).map fun k => aged k (s.read i) s.ppm
/-- the edges of node i to the first m nodes -/
def St.edgesTo (s : St) (i m : Nat) : List Edg := (List.range m).filterMap fun j => (s.tells i j).map fun x => ⟨i, j, x.1, x.2⟩
/-- the edges of the first m nodes -/
def St.edgesOf (s : St) (m : Nat) : List Edg := (List.range m).flatMap fun i => s.edgesTo i s.n
def St.edges (s : St) : List Edg := s.edgesOf s.n
/-- what clocks show -/
def St.clock (s : St) (i : Nat) : Int := if i < s.n then s.read i else 0

theorem St.edgesTo_succ (s : St) (i m : Nat) : s.edgesTo i (m + 1) = s.edgesTo i m ++ (match s.tells i m with | none => [] | some x => [⟨i, m, x.1, x.2⟩]) := by
  unfold St.edgesTo
  rw [List.range_succ, List.filterMap_append]
  cases h : s.tells i m <;> simp [h]
theorem St.edgesOf_succ (s : St) (m : Nat) : s.edgesOf (m + 1) = s.edgesOf m ++ s.edgesTo m s.n := by
  unfold St.edgesOf
  rw [List.range_succ, List.flatMap_append]
  simp
theorem St.edgesTo_le (s : St) (i m : Nat) : (s.edgesTo i m).length ≤ m := by
  have := List.length_filterMap_le (fun j => (s.tells i j).map fun x => (⟨i, j, x.1, x.2⟩ : Edg)) (List.range m)
  simpa [St.edgesTo] using this
theorem St.edgesOf_le (s : St) (m : Nat) : (s.edgesOf m).length ≤ m * s.n := by
  induction m with
  | zero => simp [St.edgesOf]
  | succ m ih =>
    rw [St.edgesOf_succ, List.length_append, Nat.succ_mul]
    have := s.edgesTo_le m s.n
    omega
theorem St.edges_le (s : St) (h : s.n ≤ 6) : s.edges.length ≤ 36 := by
  have := s.edgesOf_le s.n
  have : s.n * s.n ≤ 6 * 6 := Nat.mul_le_mul h h
  unfold St.edges
  omega

theorem St.mem_edges {s : St} {e : Edg} : e ∈ s.edges ↔ e.a < s.n ∧ e.b < s.n ∧ s.tells e.a e.b = some (e.lo, e.hi) := by
  unfold St.edges St.edgesOf St.edgesTo
  simp only [List.mem_flatMap, List.mem_range, List.mem_filterMap, Option.map_eq_some_iff]
  constructor
  · rintro ⟨i, hi, j, hj, x, hx, rfl⟩
    exact ⟨hi, hj, hx⟩
  · rintro ⟨h1, h2, h3⟩
    exact ⟨e.a, h1, e.b, h2, _, h3, rfl⟩

/-- what a node tells is so -/
theorem Good.tells {s : St} (h : Good s) {i j : Nat} {x : Int × Int} (hi : i < s.n) (ht : s.tells i j = some x) :
    j < s.n ∧ j ≠ i ∧ -4000000000 ≤ x.1 ∧ x.2 ≤ 4000000000 ∧ x.1 ≤ s.read j - s.read i ∧ s.read j - s.read i ≤ x.2 := by
  unfold St.tells at ht
  obtain ⟨k, hk, rfl⟩ := Option.map_eq_some_iff.1 ht
  have kn := h.known i j k hi hk
  have tr := Good.aged_true h.toFine hi kn
  obtain ⟨h1, h2, h3, h4, a, h5, h6, h7, h8, h9⟩ := kn
  have m := h.shows_mono hi h6
  have t2 := h.t2
  have b := h.shows_bound hi h.t1 h.t2
  have b' := h.shows_bound hi h5 (show a ≤ 1000000000 by omega)
  have sl := slack_bound (n := s.read i - k.at_) (p := s.ppm) (by rw [St.read_eq, h7]; omega) (by rw [St.read_eq, h7]; omega) h.p1 h.p2
  have e : s.diff i j s.time = s.read j - s.read i := rfl
  rw [e] at tr
  refine ⟨h1, h2, ?_, ?_, tr.1, tr.2⟩
  · show _ ≤ k.lo - slack (s.read i - k.at_) s.ppm; omega
  · show k.hi + slack (s.read i - k.at_) s.ppm ≤ _; omega

theorem Good.edge_ok {s : St} (h : Good s) : ∀ e ∈ s.edges, EdgOk s.n e := by
  intro e he
  obtain ⟨h1, h2, h3⟩ := St.mem_edges.1 he
  obtain ⟨_, g2, g3, g4, g5, g6⟩ := h.tells h1 h3
  exact ⟨h1, h2, Ne.symm g2, by omega, g3, g4⟩

theorem Good.fit {s : St} (h : Good s) : Fit s.clock s.edges := by
  intro e he
  obtain ⟨h1, h2, h3⟩ := St.mem_edges.1 he
  obtain ⟨_, g2, g3, g4, g5, g6⟩ := h.tells h1 h3
  unfold St.clock
  rw [if_pos h1, if_pos h2]
  exact ⟨g5, g6⟩

theorem Good.clock_bound {s : St} (h : Good s) (i : Nat) : 0 ≤ s.clock i ∧ s.clock i ≤ 1002000000 := by
  unfold St.clock
  split
  · rename_i hi
    have := h.shows_bound hi h.t1 h.t2
    rw [← St.read_eq] at this
    exact this
  · omega

theorem Good.closed {s : St} (h : Good s) : ClosedOk s.n s.edges (closedM s.n s.edges) :=
  closedM_ok h.n2 h.edge_ok h.fit (fun i k => by have := h.clock_bound i; have := h.clock_bound k; omega)

/-- the true difference is in what is told -/
theorem Good.in_closed {s : St} (h : Good s) {i k : Nat} (hi : i < s.n) (hk : k < s.n) (hd : closedM s.n s.edges i k < far) :
    -(closedM s.n s.edges k i) ≤ s.read k - s.read i ∧ s.read k - s.read i ≤ closedM s.n s.edges i k := by
  have c := h.closed
  have f := h.fit.feas
  have e1 : s.clock i = s.read i := if_pos hi
  have e2 : s.clock k = s.read k := if_pos hk
  have g : ∀ i k, i < s.n → k < s.n → closedM s.n s.edges i k < far → s.clock k - s.clock i ≤ closedM s.n s.edges i k := by
    intro i k hi hk hd
    rcases c.dist i k hi hk with ⟨h1, _⟩ | ⟨h1, _⟩
    · omega
    · exact h1.ge f
  have d' : closedM s.n s.edges k i < far := by
    have := c.top k i
    have := c.sym k i hk hi
    by_cases q : closedM s.n s.edges k i = far
    · have := this q; omega
    · omega
  have a := g i k hi hk hd
  have b := g k i hk hi d'
  omega

end Noon

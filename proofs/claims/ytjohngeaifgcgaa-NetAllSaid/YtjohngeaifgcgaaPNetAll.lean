/- One node asks all others: what is known then; plain. -/
import Derived.Test.YtjohngeaifgcgaaPEdges
namespace Noon

/-- node 0 has asked the nodes up to i, and all came back -/
structure Asked (s : St) (i : Nat) : Prop where
  good : Good s
  under : s.under = []
  no : ∀ j m, j ≠ 0 → (s.nodes j).of m = none
  has : ∀ j, 1 ≤ j → j ≤ i → (s.nodes 0).of j ≠ none

theorem Good.ne_self {s : St} (h : Good s) (hn : 0 < s.n) : (s.nodes 0).of 0 = none := by
  cases e : (s.nodes 0).of 0 with
  | none => rfl
  | some k => exact absurd rfl (h.known 0 0 k hn e).2.1

section
variable {s : St} {i : Nat}

theorem ask_step (h : s.under = []) (hi : i < s.n) (h0 : i ≠ 0) : s.does 2 0 i = ({ s with under := [⟨0, i, false, 0, 0, s.read 0⟩] }, 0) := by
  have e : s.wdo 2 0 i = ({ s with under := [⟨0, i, false, 0, 0, s.read 0⟩] }, 0, .none) := by
    unfold St.wdo
    rw [if_neg (by decide), if_pos rfl, if_neg (by omega), if_neg (by omega), if_neg (by rw [h]; simp), h]
    rfl
  unfold St.does
  rw [e]
theorem go_step {d : Int} (h0 : 0 ≤ d) (h1 : d ≤ 1000000) (h2 : s.time + d ≤ 1000000000) : s.does 1 d 0 = ({ s with time := s.time + d }, 0) := by
  have e : s.wdo 1 d 0 = ({ s with time := s.time + d }, 0, .none) := by
    unfold St.wdo
    rw [if_pos rfl, if_neg (by omega)]
  unfold St.does
  rw [e]
theorem deliver_step {l : Ltr} (h : s.under = [l]) : s.does 3 0 0 = ({ s with under := [] }).come l := by
  have e : s.wdo 3 0 0 = ({ s with under := [] }, 0, .some l) := by
    unfold St.wdo
    rw [if_neg (by decide), if_neg (by decide), if_pos (by decide), if_neg (by rw [h]; simp), h]
    rfl
  unfold St.does
  rw [e]

/-- a round -/
def St.round (s : St) (i : Nat) (d : Int) : St := ((((((s.does 2 0 i).1.does 1 d 0).1.does 3 0 0).1.does 1 d 0).1).does 3 0 0).1

structure RoundOk (s : St) (i : Nat) (d : Int) : Prop where
  c1 : (s.does 2 0 i).2 = 0
  c2 : ((s.does 2 0 i).1.does 1 d 0).2 = 0
  c3 : (((s.does 2 0 i).1.does 1 d 0).1.does 3 0 0).2 = 0
  c4 : ((((s.does 2 0 i).1.does 1 d 0).1.does 3 0 0).1.does 1 d 0).2 = 0
  c5 : (((((s.does 2 0 i).1.does 1 d 0).1.does 3 0 0).1.does 1 d 0).1.does 3 0 0).2 = 0
  asked : Asked (s.round i d) i
  n : (s.round i d).n = s.n
  ppm : (s.round i d).ppm = s.ppm
  time : (s.round i d).time = s.time + 2 * d

theorem come_ask {l : Ltr} (h : s.under = []) (ha : l.an = false) : s.come l = ({ s.setNode l.k { s.nodes l.k with here := s.read l.k } with under := [⟨l.k, l.f, true, l.t, s.read l.k, s.read l.k⟩] }, 0) := by
  unfold St.come
  rw [if_neg (by simp [ha]), if_neg (by show ¬ 40 ≤ s.under.length; rw [h]; simp)]
  have : (s.nodes l.k).hear l (s.read l.k) s.ppm = { s.nodes l.k with here := s.read l.k } := by unfold NodeSt.hear; rw [if_pos ha]
  rw [this]
  have e : (s.setNode l.k { s.nodes l.k with here := s.read l.k }).under = [] := h
  rw [e]
  rfl
theorem come_answer {l : Ltr} (ha : l.an = true) : s.come l = (s.setNode l.k ((s.nodes l.k).hear l (s.read l.k) s.ppm), 0) := by
  unfold St.come
  rw [if_pos ha]
theorem hear_of {x : NodeSt} {l : Ltr} {here ppm : Int} (ha : l.an = true) : ∃ k, (x.hear l here ppm).of l.f = some k ∧ ∀ j, j ≠ l.f → (x.hear l here ppm).of j = x.of j := by
  unfold NodeSt.hear
  rw [if_neg (by simp [ha])]
  refine ⟨_, if_pos rfl, fun j hj => if_neg hj⟩

theorem Asked.round (h : Asked s (i - 1)) {d : Int} (h1 : 1 ≤ i) (hi : i < s.n) (d0 : 0 ≤ d) (d1 : d ≤ 1000) (ht : s.time + 2 * d ≤ 1000000000) : RoundOk s i d := by
  have e1 := ask_step h.under hi (by omega)
  have g1 := h.good.does 2 0 i
  rw [e1] at g1
  have e2 := go_step (s := { s with under := [⟨0, i, false, 0, 0, s.read 0⟩] }) d0 (by omega) (by show s.time + d ≤ _; omega)
  have g2 := Good.does g1 1 d 0
  rw [e2] at g2
  have e3 := deliver_step (s := { s with under := [⟨0, i, false, 0, 0, s.read 0⟩], time := s.time + d }) (l := ⟨0, i, false, 0, 0, s.read 0⟩) rfl
  rw [come_ask (s := { s with under := [], time := s.time + d }) rfl rfl] at e3
  have g3 := Good.does g2 3 0 0
  simp only [e3] at g3
  generalize hs3 : ({ ({ s with under := [], time := s.time + d } : St).setNode i { s.nodes i with here := ({ s with under := [], time := s.time + d } : St).read i } with
      under := [⟨i, 0, true, s.read 0, ({ s with under := [], time := s.time + d } : St).read i, ({ s with under := [], time := s.time + d } : St).read i⟩] } : St) = s3 at *
  have u3 : s3.under = [⟨i, 0, true, s.read 0, ({ s with under := [], time := s.time + d } : St).read i, ({ s with under := [], time := s.time + d } : St).read i⟩] := by rw [← hs3]
  have t3 : s3.time = s.time + d := by rw [← hs3]; rfl
  have n3 : s3.n = s.n := by rw [← hs3]; rfl
  have p3 : s3.ppm = s.ppm := by rw [← hs3]; rfl
  have o3 : ∀ j, (s3.nodes j).of = (s.nodes j).of := by
    intro j
    rw [← hs3]
    show (if j = i then _ else s.nodes j : NodeSt).of = _
    split
    · rename_i e; subst e; rfl
    · rfl
  have e4 := go_step (s := s3) (d := d) d0 (by omega) (by omega)
  have g4 := Good.does g3 1 d 0
  rw [e4] at g4
  have e5 := deliver_step (s := { s3 with time := s3.time + d }) u3
  rw [come_answer rfl] at e5
  have g5 := Good.does g4 3 0 0
  simp only [e5] at g5
  obtain ⟨k, k1, k2⟩ := hear_of (x := s3.nodes 0) (l := ⟨i, 0, true, s.read 0, ({ s with under := [], time := s.time + d } : St).read i, ({ s with under := [], time := s.time + d } : St).read i⟩)
    (here := ({ s3 with under := [], time := s3.time + d } : St).read 0) (ppm := s3.ppm) rfl
  have er : s.round i d = (({ s3 with under := [], time := s3.time + d } : St).setNode 0 ((s3.nodes 0).hear ⟨i, 0, true, s.read 0, ({ s with under := [], time := s.time + d } : St).read i, ({ s with under := [], time := s.time + d } : St).read i⟩
      (({ s3 with under := [], time := s3.time + d } : St).read 0) s3.ppm)) := by
    unfold St.round
    rw [e1]
    simp only [e2, e3, e4, e5]
  refine ⟨by rw [e1], by rw [e1]; simp only [e2], by rw [e1]; simp only [e2, e3], by rw [e1]; simp only [e2, e3, e4], by rw [e1]; simp only [e2, e3, e4, e5], ?_, ?_, ?_, ?_⟩
  · rw [er]
    refine ⟨g5, rfl, ?_, ?_⟩
    · intro j m hj
      show (if j = 0 then _ else s3.nodes j : NodeSt).of m = none
      rw [if_neg hj, o3]
      exact h.no j m hj
    · intro j h1 hj
      have en : ∀ (s : St) (x : NodeSt), (s.setNode 0 x).nodes 0 = x := fun s x => by simp [St.setNode]
      rw [en]
      by_cases q : j = i
      · subst q
        have k1 := k1
        intro hx
        exact absurd (k1.symm.trans hx) (by simp)
      · rw [k2 j q, o3]; exact h.has j h1 (by omega)
  · rw [er]; exact n3
  · rw [er]; exact p3
  · rw [er]; show s3.time + d = _; omega

theorem Asked.first (h : Good s) (hs : s = St.first s.starts s.rates s.ppm) : Asked s 0 := by
  refine ⟨h, by rw [hs]; rfl, fun j m _ => by rw [hs]; rfl, fun j h1 h2 => by omega⟩

/-- each two have a bound -/
theorem Asked.all (h : Asked s (s.n - 1)) {a b : Nat} (ha : a < s.n) (hb : b < s.n) : closedM s.n s.edges a b < far := by
  have c := h.good.closed
  have e : ∀ j, 1 ≤ j → j < s.n → ∃ c, (⟨0, j, c⟩ : Arc) ∈ arcsOf s.edges := by
    intro j h1 h2
    have hk := h.has j h1 (by omega)
    cases q : (s.nodes 0).of j with
    | none => exact absurd q hk
    | some k =>
      refine ⟨_, mem_arcs.2 ⟨⟨0, j, (aged k (s.read 0) s.ppm).1, (aged k (s.read 0) s.ppm).2⟩, St.mem_edges.2 ⟨by show 0 < s.n; omega, h2, ?_⟩, .inl rfl⟩⟩
      show s.tells 0 j = some _
      unfold St.tells
      rw [q]
      rfl
  have w : ∀ j, j < s.n → ∃ c, Walk (arcsOf s.edges) 0 j c := by
    intro j hj
    by_cases q : j = 0
    · subst q; exact ⟨0, .nil _⟩
    · obtain ⟨c, hc⟩ := e j (by omega) hj
      exact ⟨c, .edge hc⟩
  obtain ⟨x, hx⟩ := w a ha
  obtain ⟨y, hy⟩ := w b hb
  obtain ⟨z, hz⟩ := walk_sym hx
  exact c.fin a b _ ha hb (hz.trans hy)

theorem Asked.zero (h : Asked s (s.n - 1)) {a : Nat} (ha : a < s.n) : closedM s.n s.edges a a = 0 := by
  have c := h.good.closed
  rcases c.dist a a ha ha with ⟨_, h2⟩ | ⟨h1, h2⟩
  · exact absurd (.nil a) (h2 0)
  · have := h2 0 (.nil a)
    have := h1.ge h.good.fit.feas
    omega

/-- it is not known just -/
theorem Asked.wide (h : Asked s (s.n - 1)) (hn : 2 ≤ s.n) : 0 < closedM s.n s.edges 0 1 + closedM s.n s.edges 1 0 := by
  have c := h.good.closed
  have hk := h.has 1 (by omega) (by omega)
  cases q : (s.nodes 0).of 1 with
  | none => exact absurd q hk
  | some k =>
    have ht : s.tells 0 1 = some (aged k (s.read 0) s.ppm) := by unfold St.tells; rw [q]; rfl
    obtain ⟨h1, h2, h3, h4, a, h5, h6, h7, h8, h9⟩ := h.good.known 0 1 k (by omega) q
    have m := h.good.shows_mono (show 0 < s.n by omega) h6
    have t2 := h.good.t2
    have b := h.good.shows_bound (show 0 < s.n by omega) h.good.t1 h.good.t2
    have b' := h.good.shows_bound (show 0 < s.n by omega) h5 (show a ≤ 1000000000 by omega)
    have sl := slack_bound (n := s.read 0 - k.at_) (p := s.ppm) (by rw [St.read_eq, h7]; omega) (by rw [St.read_eq, h7]; omega) h.good.p1 h.good.p2
    have ea : aged k (s.read 0) s.ppm = (k.lo - slack (s.read 0 - k.at_) s.ppm, k.hi + slack (s.read 0 - k.at_) s.ppm) := rfl
    generalize slack (s.read 0 - k.at_) s.ppm = sk at *
    -- clocks that fit, whatever of the span of 0 and 1 they are
    have ff : ∀ v, k.lo - sk ≤ v → v ≤ k.hi + sk → Fit (fun j => if j = 1 then s.read 0 + v else s.clock j) s.edges := by
      intro v v1 v2 e he
      have ht' := (St.mem_edges.1 he).2.2
      have hok := h.good.edge_ok e he
      have e0 : e.a = 0 := by
        by_cases q0 : e.a = 0
        · exact q0
        · unfold St.tells at ht'; rw [h.no e.a e.b q0] at ht'; simp at ht'
      have hf := h.good.fit e he
      have c0 : s.clock 0 = s.read 0 := if_pos (by omega)
      by_cases q1 : e.b = 1
      · rw [e0, q1, ht, ea] at ht'
        injection ht' with ht'
        injection ht' with x1 x2
        simp only [e0, q1, if_true, show ¬ (0 : Nat) = 1 by decide, if_false, c0]
        omega
      · simp only [e0, if_neg q1, show ¬ (0 : Nat) = 1 by decide, if_false] at hf ⊢
        exact hf
    have hi := (ff (k.hi + sk) (by omega) (by omega)).feas
    have lo := (ff (k.lo - sk) (by omega) (by omega)).feas
    have c0 : s.clock 0 = s.read 0 := if_pos (by omega)
    have d1 := h.all (a := 0) (b := 1) (by omega) (by omega)
    have d2 := h.all (a := 1) (b := 0) (by omega) (by omega)
    rcases c.dist 0 1 (by omega) (by omega) with ⟨x, _⟩ | ⟨x, _⟩
    · omega
    rcases c.dist 1 0 (by omega) (by omega) with ⟨y, _⟩ | ⟨y, _⟩
    · omega
    have x' := x.ge hi
    have y' := y.ge lo
    simp only [if_true, show ¬ (0 : Nat) = 1 by decide, if_false, c0] at x' y'
    omega
end

end Noon

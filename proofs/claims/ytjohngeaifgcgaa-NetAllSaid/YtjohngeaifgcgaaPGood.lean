/- What letters and nodes say of true times: plain. -/
import Derived.Test.YtjohngeaifgcgaaWNetHear
namespace Noon

/-- what clock i shows when it is t -/
def St.shows (s : St) (i : Nat) (t : Int) : Int := s.starts.getD i 0 + t + t * s.rates.getD i 0 / 1000000

theorem St.read_eq (s : St) (i : Nat) : s.read i = s.shows i s.time := rfl

/-- by how much a rate's part grows in d -/
theorem part_grows {t d r : Int} : (t * r / 1000000 + (d * r) / 1000000 ≤ (t + d) * r / 1000000) ∧ ((t + d) * r / 1000000 ≤ t * r / 1000000 + (d * r) / 1000000 + 1) := by
  rw [Int.add_mul]
  omega

theorem rate_part {d r p : Int} (hd : 0 ≤ d) (h1 : -p ≤ r) (h2 : r ≤ p) : -(d * p) ≤ d * r ∧ d * r ≤ d * p := by
  constructor
  · have := Int.mul_le_mul_of_nonneg_left h1 hd
    rw [Int.mul_neg] at this; exact this
  · exact Int.mul_le_mul_of_nonneg_left h2 hd

theorem shows_mono {a r p t d : Int} (hd : 0 ≤ d) (h1 : -p ≤ r) (h2 : r ≤ p) (hp : p ≤ 1000) : a + t + t * r / 1000000 ≤ a + (t + d) + (t + d) * r / 1000000 := by
  have g := @part_grows t d r
  have k := rate_part hd h1 h2
  have e : d * p ≤ d * 1000 := Int.mul_le_mul_of_nonneg_left hp hd
  omega

/-- how far two clocks drift apart while the first one goes on -/
theorem drift {a b r q p t d : Int} (hd : 0 ≤ d) (h1 : -p ≤ r) (h2 : r ≤ p) (h3 : -p ≤ q) (h4 : q ≤ p) (p0 : 0 ≤ p) (hp : p ≤ 1000) :
    let c := fun x => a + x + x * r / 1000000
    let e := fun x => b + x + x * q / 1000000
    (e (t + d) - c (t + d)) - (e t - c t) ≤ slack (c (t + d) - c t) p ∧ -(slack (c (t + d) - c t) p) ≤ (e (t + d) - c (t + d)) - (e t - c t) := by
  intro c e
  have g1 := @part_grows t d r
  have g2 := @part_grows t d q
  have k1 := rate_part hd h1 h2
  have k2 := rate_part hd h3 h4
  generalize hx : (t + d) * r / 1000000 - t * r / 1000000 = x at *
  have hc : c (t + d) - c t = d + x := by show a + (t + d) + (t + d) * r / 1000000 - (a + t + t * r / 1000000) = d + x; omega
  rw [hc]
  unfold slack up
  have hpd : 0 ≤ d * p := Int.mul_nonneg hd p0
  have e1 : d * p ≤ d * 1000 := Int.mul_le_mul_of_nonneg_left hp hd
  -- (d + x) * 3p ≥ 3dp - 3p(dp/M + 2)
  have hxl : -(d * p) / 1000000 - 1 ≤ x := by omega
  have hm : (d + x) * (3 * p) = 3 * (d * p) + 3 * (x * p) := by rw [Int.add_mul, Int.mul_left_comm d, Int.mul_left_comm x]
  have hxp : -(d * p) * p ≤ (1000000 * x + 2000000) * p := Int.mul_le_mul_of_nonneg_right (by omega) p0
  have hpp : (d * p) * p ≤ (d * p) * 1000 := Int.mul_le_mul_of_nonneg_left hp hpd
  have hxe : (1000000 * x + 2000000) * p = 1000000 * (x * p) + 2000000 * p := by rw [Int.add_mul, Int.mul_assoc]
  rw [Int.neg_mul] at hxp
  rw [hm]
  generalize d * p = P at *
  generalize x * p = X at *
  generalize P * p = PP at *
  show (b + (t + d) + (t + d) * q / 1000000 - (a + (t + d) + (t + d) * r / 1000000)) - (b + t + t * q / 1000000 - (a + t + t * r / 1000000)) ≤ _ ∧ _ ≤ (b + (t + d) + (t + d) * q / 1000000 - (a + (t + d) + (t + d) * r / 1000000)) - (b + t + t * q / 1000000 - (a + t + t * r / 1000000))
  constructor <;> omega

/-- how far clock j is ahead of clock i when it is t -/
def St.diff (s : St) (i j : Nat) (t : Int) : Int := s.shows j t - s.shows i t

/-- what a letter says is so -/
def Told (s : St) (l : Ltr) : Prop :=
  if l.an then ∃ a b, 0 ≤ a ∧ a ≤ b ∧ b ≤ s.time ∧ l.t1 = s.shows l.k a ∧ l.t2 = s.shows l.f b ∧ l.t = s.shows l.f b
  else ∃ a, 0 ≤ a ∧ a ≤ s.time ∧ l.t = s.shows l.f a

def Known (s : St) (i j : Nat) (k : Kn) : Prop :=
  j < s.n ∧ j ≠ i ∧ -3000000000 ≤ k.lo ∧ k.hi ≤ 3000000000 ∧ ∃ a, 0 ≤ a ∧ a ≤ s.time ∧ k.at_ = s.shows i a ∧ k.lo ≤ s.diff i j a ∧ s.diff i j a ≤ k.hi

structure Good (s : St) : Prop extends Fine s where
  here : ∀ i, i < s.n → (s.nodes i).here ≤ s.read i
  told : ∀ l ∈ s.under, Told s l
  known : ∀ i j k, i < s.n → (s.nodes i).of j = some k → Known s i j k

section
variable {s : St}

theorem Fine.shows_mono (h : Fine s) {i : Nat} (hi : i < s.n) {t u : Int} (htu : t ≤ u) : s.shows i t ≤ s.shows i u := by
  have r := h.rb i hi
  have := Noon.shows_mono (a := s.starts.getD i 0) (t := t) (d := u - t) (by omega) r.1 r.2 h.p2
  rw [show t + (u - t) = u by omega] at this
  exact this

theorem Fine.shows_bound (h : Fine s) {i : Nat} (hi : i < s.n) {t : Int} (h0 : 0 ≤ t) (h1 : t ≤ 1000000000) : 0 ≤ s.shows i t ∧ s.shows i t ≤ 1002000000 := by
  have r := h.rb i hi
  have b := h.sb i hi
  have p := h.p2
  have k := rate_part h0 r.1 r.2
  have e : t * s.ppm ≤ t * 1000 := Int.mul_le_mul_of_nonneg_left p h0
  unfold St.shows
  omega

theorem Fine.drifts (h : Fine s) {i j : Nat} (hi : i < s.n) (hj : j < s.n) {t u : Int} (htu : t ≤ u) :
    s.diff i j u - s.diff i j t ≤ slack (s.shows i u - s.shows i t) s.ppm ∧ -(slack (s.shows i u - s.shows i t) s.ppm) ≤ s.diff i j u - s.diff i j t := by
  have r := h.rb i hi
  have q := h.rb j hj
  have := drift (a := s.starts.getD i 0) (b := s.starts.getD j 0) (t := t) (d := u - t) (by omega) r.1 r.2 q.1 q.2 h.p1 h.p2
  simp only [show t + (u - t) = u by omega] at this
  exact this

/-- the span of an answer that is so has the true difference -/
theorem Good.offs_true (h : Fine s) {l : Ltr} (hf : l.f < s.n) (hk : l.k < s.n) (han : l.an = true) (ht : Told s l) :
    (offs l (s.read l.k) s.ppm).1 ≤ s.diff l.k l.f s.time ∧ s.diff l.k l.f s.time ≤ (offs l (s.read l.k) s.ppm).2 := by
  unfold Told at ht
  rw [if_pos han] at ht
  obtain ⟨a, b, h0, h1, h2, e1, e2, e3⟩ := ht
  have m1 := h.shows_mono hf h2
  have m2 := h.shows_mono hf h1
  have d := h.drifts hk hf (show a ≤ s.time by omega)
  unfold offs
  rw [St.read_eq, e1, e2, e3]
  unfold St.diff at *
  constructor
  · show _ ≤ _
    omega
  · show _ ≤ _
    omega

theorem Good.aged_true (h : Fine s) {i j : Nat} {k : Kn} (hi : i < s.n) (hk : Known s i j k) :
    (aged k (s.read i) s.ppm).1 ≤ s.diff i j s.time ∧ s.diff i j s.time ≤ (aged k (s.read i) s.ppm).2 := by
  obtain ⟨hj, _, _, _, a, h0, h1, e, h2, h3⟩ := hk
  have d := h.drifts hi hj h1
  unfold aged
  rw [St.read_eq, e]
  constructor
  · show _ ≤ _
    omega
  · show _ ≤ _
    omega

theorem Fine.diff_bound (h : Fine s) {i j : Nat} (hi : i < s.n) (hj : j < s.n) {t : Int} (h0 : 0 ≤ t) (h1 : t ≤ s.time) : -1002000000 ≤ s.diff i j t ∧ s.diff i j t ≤ 1002000000 := by
  have a := h.shows_bound hi h0 (by have := h.t2; omega)
  have b := h.shows_bound hj h0 (by have := h.t2; omega)
  unfold St.diff
  omega

theorem Good.hears (h : Good s) {l : Ltr} (hl : l.f < s.n ∧ l.k < s.n ∧ l.f ≠ l.k) (ht : Told s l) : Hears s l := by
  have r := h.shows_bound hl.2.1 h.t1 h.t2
  have t2 := h.t2
  have hb := fun (i : Nat) (hi : i < s.n) (a : Int) (h0 : 0 ≤ a) (h1 : a ≤ s.time) => h.shows_bound hi h0 (show a ≤ 1000000000 by omega)
  refine ⟨h.here l.k hl.2.1, ?_, ?_, ?_, ?_, ?_⟩
  · rw [St.read_eq]; omega
  · rw [St.read_eq]; omega
  · intro han
    unfold Told at ht
    rw [if_pos han] at ht
    obtain ⟨a, b, h0, h1, h2, e1, e2, e3⟩ := ht
    have m := h.shows_mono hl.2.1 (show a ≤ s.time by omega)
    have b1 := hb l.k hl.2.1 a (by omega) (by omega)
    have b2 := hb l.f hl.1 b (by omega) (by omega)
    rw [St.read_eq, e1, e2, e3]
    omega
  · intro han
    have := Good.offs_true h.toFine hl.1 hl.2.1 han ht
    omega
  · intro han k hk
    have kn := h.known l.k l.f k hl.2.1 hk
    have a1 := Good.aged_true h.toFine hl.2.1 kn
    have a2 := Good.offs_true h.toFine hl.1 hl.2.1 han ht
    obtain ⟨_, _, c1, c2, a, h0, h1, e, h2, h3⟩ := kn
    have m := h.shows_mono hl.2.1 h1
    have b1 := hb l.k hl.2.1 a h0 h1
    have d := h.diff_bound hl.2.1 hl.1 h0 h1
    rw [St.read_eq] at *
    rw [e]
    refine ⟨by omega, by omega, by omega, by omega, by omega, by omega, ?_⟩
    omega

/-- a later state of the same clocks -/
structure Later (s s' : St) : Prop where
  n : s'.n = s.n
  ppm : s'.ppm = s.ppm
  starts : s'.starts = s.starts
  rates : s'.rates = s.rates
  time : s.time ≤ s'.time

theorem Later.shows {s' : St} (h : Later s s') (i : Nat) (t : Int) : s'.shows i t = s.shows i t := by unfold St.shows; rw [h.starts, h.rates]
theorem Later.told {s' : St} (h : Later s s') {l : Ltr} (ht : Told s l) : Told s' l := by
  have t := h.time
  unfold Told at *
  by_cases han : l.an = true
  · rw [if_pos han] at *
    obtain ⟨a, b, h0, h1, h2, e⟩ := ht
    exact ⟨a, b, h0, h1, by omega, by simpa [h.shows] using e⟩
  · rw [if_neg han] at *
    obtain ⟨a, h0, h1, e⟩ := ht
    exact ⟨a, h0, by omega, by simpa [h.shows] using e⟩
theorem Later.known {s' : St} (h : Later s s') {i j : Nat} {k : Kn} (ht : Known s i j k) : Known s' i j k := by
  have t := h.time
  obtain ⟨h1, h2, h3, h4, a, h5, h6, e⟩ := ht
  exact ⟨by rw [h.n]; exact h1, h2, h3, h4, a, h5, by omega, by simpa [St.diff, h.shows] using e⟩

theorem Good.hear (h : Good s) {l : Ltr} (hl : l.f < s.n ∧ l.k < s.n ∧ l.f ≠ l.k) (ht : Told s l) : Good (s.setNode l.k ((s.nodes l.k).hear l (s.read l.k) s.ppm)) := by
  have lt : Later s (s.setNode l.k ((s.nodes l.k).hear l (s.read l.k) s.ppm)) := ⟨rfl, rfl, rfl, rfl, Int.le_refl _⟩
  have hh : ∀ x : NodeSt, (x.hear l (s.read l.k) s.ppm).here = s.read l.k := by intro x; unfold NodeSt.hear; split <;> rfl
  have f := h.toFine
  refine { toFine := ⟨f.n1, f.n2, f.p1, f.p2, f.sl, f.rl, f.sb, f.rb, f.t1, f.t2, f.ul, f.us⟩, here := ?_, told := fun m hm => lt.told (h.told m hm), known := ?_ }
  · intro i hi
    show (if i = l.k then _ else s.nodes i).here ≤ s.read i
    by_cases e : i = l.k
    · rw [if_pos e, hh, e]; exact Int.le_refl _
    · rw [if_neg e]; exact h.here i hi
  · intro i j k hi hk0
    apply lt.known
    have hk : (if i = l.k then (s.nodes l.k).hear l (s.read l.k) s.ppm else s.nodes i).of j = some k := hk0
    clear hk0
    by_cases e : i = l.k
    · rw [if_pos e] at hk
      subst e
      by_cases han : l.an = true
      · unfold NodeSt.hear at hk
        rw [if_neg (by simp [han])] at hk
        by_cases ej : j = l.f
        · subst ej
          have o := Good.offs_true h.toFine hl.1 hl.2.1 han ht
          have he := h.hears hl ht
          have db := h.diff_bound hl.2.1 hl.1 h.t1 (Int.le_refl _)
          have t1 := he.t1 han
          have r2 := he.r2
          have sb := slack_bound (n := s.read l.k - l.t1) (p := s.ppm) (by omega) (by omega) h.p1 h.p2
          have ob : -2000000000 ≤ (offs l (s.read l.k) s.ppm).1 ∧ (offs l (s.read l.k) s.ppm).2 ≤ 2100000000 := by
            unfold offs
            constructor
            · show _ ≤ l.t - s.read l.k; omega
            · show l.t2 - l.t1 + slack (s.read l.k - l.t1) s.ppm ≤ _; omega
          cases hof : (s.nodes l.k).of l.f with
          | none =>
            simp [hof] at hk
            subst hk
            exact ⟨hl.1, hl.2.2, by show _ ≤ (offs l (s.read l.k) s.ppm).1; omega, by show (offs l (s.read l.k) s.ppm).2 ≤ _; omega, s.time, h.t1, Int.le_refl _, rfl, o.1, o.2⟩
          | some k0 =>
            have kn := h.known l.k l.f k0 hl.2.1 hof
            have a := Good.aged_true h.toFine hl.2.1 kn
            simp [hof] at hk
            subst hk
            exact ⟨hl.1, hl.2.2, by show _ ≤ max (aged k0 (s.read l.k) s.ppm).1 (offs l (s.read l.k) s.ppm).1; omega, by show min (aged k0 (s.read l.k) s.ppm).2 (offs l (s.read l.k) s.ppm).2 ≤ _; omega, s.time, h.t1, Int.le_refl _, rfl,
              by show max (aged k0 (s.read l.k) s.ppm).1 (offs l (s.read l.k) s.ppm).1 ≤ _; omega, by show _ ≤ min (aged k0 (s.read l.k) s.ppm).2 (offs l (s.read l.k) s.ppm).2; omega⟩
        · simp [ej] at hk
          exact h.known l.k j k hi hk
      · unfold NodeSt.hear at hk
        rw [if_pos (by simpa using han)] at hk
        exact h.known l.k j k hi hk
    · rw [if_neg e] at hk
      exact h.known i j k hi hk

theorem Good.come (h : Good s) {l : Ltr} (hl : l.f < s.n ∧ l.k < s.n ∧ l.f ≠ l.k) (ht : Told s l) : Good (s.come l).1 := by
  have g := h.hear hl ht
  unfold St.come
  by_cases han : l.an = true
  · simp only [han, if_true]; exact g
  simp only [if_neg han]
  by_cases hu : 40 ≤ (s.setNode l.k ((s.nodes l.k).hear l (s.read l.k) s.ppm)).under.length
  · simp only [if_pos hu]; exact g
  simp only [if_neg hu]
  unfold Told at ht
  rw [if_neg han] at ht
  obtain ⟨a, h0, h1, e⟩ := ht
  refine { toFine := ⟨g.n1, g.n2, g.p1, g.p2, g.sl, g.rl, g.sb, g.rb, g.t1, g.t2, ?_, ?_⟩, here := g.here, told := ?_, known := g.known }
  · simp only [List.length_append, List.length_cons, List.length_nil]; omega
  · intro m hm
    rcases List.mem_append.1 hm with hm | hm
    · exact g.us m hm
    · obtain rfl := List.mem_singleton.1 hm
      exact ⟨hl.2.1, hl.1, Ne.symm hl.2.2, fun h => by simp at h⟩
  · intro m hm
    rcases List.mem_append.1 hm with hm | hm
    · exact g.told m hm
    · obtain rfl := List.mem_singleton.1 hm
      exact ⟨a, s.time, h0, h1, Int.le_refl _, e, rfl, rfl⟩

theorem Good.under (h : Good s) {u : List Ltr} (hu : u.length ≤ 40) (hs : ∀ l ∈ u, (l.f < s.n ∧ l.k < s.n ∧ l.f ≠ l.k ∧ (l.an = false → l.t1 = 0 ∧ l.t2 = 0)) ∧ Told s l) : Good { s with under := u } :=
  { toFine := ⟨h.n1, h.n2, h.p1, h.p2, h.sl, h.rl, h.sb, h.rb, h.t1, h.t2, hu, fun l hl => (hs l hl).1⟩, here := h.here, told := fun l hl => (hs l hl).2, known := h.known }

theorem Good.go (h : Good s) {a : Int} (h0 : 0 ≤ a) (h1 : s.time + a ≤ 1000000000) : Good { s with time := s.time + a } := by
  have lt : Later s { s with time := s.time + a } := ⟨rfl, rfl, rfl, rfl, by show s.time ≤ s.time + a; omega⟩
  refine { toFine := ⟨h.n1, h.n2, h.p1, h.p2, h.sl, h.rl, h.sb, h.rb, by have := h.t1; show 0 ≤ s.time + a; omega, h1, h.ul, h.us⟩, here := ?_, told := fun l hl => lt.told (h.told l hl), known := fun i j k hi hk => lt.known (h.known i j k hi hk) }
  intro i hi
  have m := h.shows_mono hi (show s.time ≤ s.time + a by omega)
  exact Int.le_trans (h.here i hi) m

/-- the world's part of an act keeps all this; and a letter that comes is one that was under way -/
theorem Good.wdo (h : Good s) (what a b : Int) : Good (s.wdo what a b).1 ∧ ∀ l, (s.wdo what a b).2.2 = some l → (s.wdo what a b).2.1 = 0 ∧ l ∈ s.under ∧ Later s (s.wdo what a b).1 := by
  unfold St.wdo
  by_cases q1 : what = 1
  · rw [if_pos q1]
    by_cases g : a < 0 ∨ 1000000 < a ∨ 1000000000 < s.time + a
    · rw [if_pos g]; exact ⟨h, fun l hl => by simp at hl⟩
    · rw [if_neg g]; exact ⟨h.go (by omega) (by omega), fun l hl => by simp at hl⟩
  rw [if_neg q1]
  by_cases q2 : what = 2
  · rw [if_pos q2]
    by_cases g : a < 0 ∨ s.n ≤ a ∨ b < 0 ∨ s.n ≤ b
    · rw [if_pos g]; exact ⟨h, fun l hl => by simp at hl⟩
    rw [if_neg g]
    by_cases g2 : a = b
    · rw [if_pos g2]; exact ⟨h, fun l hl => by simp at hl⟩
    rw [if_neg g2]
    by_cases g3 : 40 ≤ s.under.length
    · rw [if_pos g3]; exact ⟨h, fun l hl => by simp at hl⟩
    rw [if_neg g3]
    refine ⟨h.under (by simp; omega) ?_, fun l hl => by simp at hl⟩
    intro l hl
    rcases List.mem_append.1 hl with hl | hl
    · exact ⟨h.us l hl, h.told l hl⟩
    · obtain rfl := List.mem_singleton.1 hl
      exact ⟨⟨by show a.toNat < s.n; omega, by show b.toNat < s.n; omega, by show a.toNat ≠ b.toNat; omega, fun _ => ⟨rfl, rfl⟩⟩, s.time, h.t1, Int.le_refl _, rfl⟩
  rw [if_neg q2]
  by_cases q3 : what = 3 ∨ what = 4 ∨ what = 5
  · rw [if_pos q3]
    by_cases g : a < 0 ∨ s.under.length ≤ a
    · rw [if_pos g]; exact ⟨h, fun l hl => by simp at hl⟩
    rw [if_neg g]
    have hg : Good (if what = 5 then s else { s with under := s.under.eraseIdx a.toNat }) := by
      by_cases q5 : what = 5
      · rw [if_pos q5]; exact h
      · rw [if_neg q5]
        refine h.under ?_ ?_
        · have := h.ul
          have := List.length_eraseIdx_le s.under a.toNat
          omega
        · intro l hl
          have := List.mem_of_mem_eraseIdx hl
          exact ⟨h.us l this, h.told l this⟩
    refine ⟨hg, ?_⟩
    intro l hl
    have hl : (if what = 4 then none else s.under[a.toNat]?) = some l := hl
    by_cases q4 : what = 4
    · rw [if_pos q4] at hl; simp at hl
    · rw [if_neg q4] at hl
      refine ⟨rfl, List.mem_of_getElem? hl, ?_⟩
      show Later s (if what = 5 then s else _)
      split <;> exact ⟨rfl, rfl, rfl, rfl, Int.le_refl _⟩
  rw [if_neg q3]
  exact ⟨h, fun l hl => by simp at hl⟩

theorem Good.does (h : Good s) (what a b : Int) : Good (s.does what a b).1 := by
  obtain ⟨g, hl⟩ := h.wdo what a b
  unfold St.does
  cases e : (s.wdo what a b).2.2 with
  | none => exact g
  | some l =>
    obtain ⟨_, hm, lt⟩ := hl l e
    obtain ⟨u1, u2, u3, _⟩ := h.us l hm
    exact g.come (l := l) ⟨by rw [lt.n]; exact u1, by rw [lt.n]; exact u2, u3⟩ (lt.told (h.told l hm))

theorem Good.first {zs rs : List Int} {p : Int} (h1 : 1 ≤ zs.length) (h2 : zs.length ≤ 6) (hr : rs.length = zs.length) (p1 : 0 ≤ p) (p2 : p ≤ 1000)
    (hz : ∀ i, i < zs.length → 0 ≤ zs.getD i 0 ∧ zs.getD i 0 ≤ 1000000) (hrb : ∀ i, i < zs.length → -p ≤ rs.getD i 0 ∧ rs.getD i 0 ≤ p) : Good (St.first zs rs p) := by
  refine { toFine := ⟨h1, h2, p1, p2, rfl, hr, hz, hrb, Int.le_refl _, by show (0 : Int) ≤ _; omega, by simp [St.first], fun l hl => by simp [St.first] at hl⟩, here := ?_, told := fun l hl => by simp [St.first] at hl, known := fun i j k _ hk => by simp [St.first] at hk }
  intro i hi
  have := (hz i hi).1
  show (-1 : Int) ≤ zs.getD i 0 + 0 + 0 * rs.getD i 0 / 1000000
  rw [Int.zero_mul]
  omega
end

end Noon

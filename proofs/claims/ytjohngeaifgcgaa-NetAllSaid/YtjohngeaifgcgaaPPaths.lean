/- Shortest walks: what the two matrix algorithms (program and reference) come to. Plain Lean, no program in sight. -/
namespace Noon

/-- no bound -/
def far : Int := 1152921504606846976

structure Arc where
  a : Nat
  b : Nat
  c : Int
deriving DecidableEq

inductive Walk (arcs : List Arc) : Nat → Nat → Int → Prop
  | nil (i : Nat) : Walk arcs i i 0
  | snoc {i a b : Nat} {w c : Int} : Walk arcs i a w → (⟨a, b, c⟩ : Arc) ∈ arcs → Walk arcs i b (w + c)

theorem Walk.trans {arcs : List Arc} {i k j : Nat} {w v : Int} (h : Walk arcs i k w) (g : Walk arcs k j v) : Walk arcs i j (w + v) := by
  induction g with
  | nil => simpa using h
  | snoc _ hm ih => have := Walk.snoc ih hm; rwa [Int.add_assoc] at this

theorem Walk.edge {arcs : List Arc} {a b : Nat} {c : Int} (h : (⟨a, b, c⟩ : Arc) ∈ arcs) : Walk arcs a b c := by
  have := Walk.snoc (Walk.nil a) h; simpa using this

theorem Walk.mono {arcs brcs : List Arc} {i k : Nat} {w : Int} (h : Walk arcs i k w) (hs : ∀ x ∈ arcs, x ∈ brcs) : Walk brcs i k w := by
  induction h with
  | nil => exact .nil _
  | snoc _ hm ih => exact .snoc ih (hs _ hm)

/-- clocks that fit all arcs -/
def Feas (t : Nat → Int) (arcs : List Arc) : Prop := ∀ x ∈ arcs, t x.b - t x.a ≤ x.c

theorem Walk.ge {arcs : List Arc} {t : Nat → Int} (hf : Feas t arcs) {i k : Nat} {w : Int} (h : Walk arcs i k w) : t k - t i ≤ w := by
  induction h with
  | nil => omega
  | snoc _ hm ih => have := hf _ hm; simp at this; omega

def InN (n : Nat) (arcs : List Arc) : Prop := ∀ x ∈ arcs, x.a < n ∧ x.b < n

theorem Walk.lt {arcs : List Arc} {n : Nat} (hn : InN n arcs) {i k : Nat} {w : Int} (h : Walk arcs i k w) (hi : i < n) : k < n := by
  cases h with
  | nil => exact hi
  | snoc _ hm => exact (hn _ hm).2

theorem Walk.lt' {arcs : List Arc} {n : Nat} (hn : InN n arcs) {i k : Nat} {w : Int} (h : Walk arcs i k w) (hk : k < n) : i < n := by
  induction h with
  | nil => exact hk
  | snoc _ hm ih => exact ih (hn _ hm).1

/-- a walk whose inner nodes are below m -/
inductive Via (arcs : List Arc) (m : Nat) : Nat → Nat → Int → Prop
  | nil (i : Nat) : Via arcs m i i 0
  | edge {a b : Nat} {c : Int} : (⟨a, b, c⟩ : Arc) ∈ arcs → Via arcs m a b c
  | snoc {i a b : Nat} {w c : Int} : Via arcs m i a w → a < m → (⟨a, b, c⟩ : Arc) ∈ arcs → Via arcs m i b (w + c)

theorem Via.walk {arcs : List Arc} {m i k : Nat} {w : Int} (h : Via arcs m i k w) : Walk arcs i k w := by
  induction h with
  | nil => exact .nil _
  | edge hm => exact .edge hm
  | snoc _ _ hm ih => exact .snoc ih hm

theorem Walk.via {arcs : List Arc} {n : Nat} (hn : InN n arcs) {i k : Nat} {w : Int} (h : Walk arcs i k w) : Via arcs n i k w := by
  induction h with
  | nil => exact .nil _
  | snoc _ hm ih => exact .snoc ih (hn _ hm).1 hm

theorem Via.part {arcs : List Arc} {m i k : Nat} {w : Int} (h : Via arcs (m + 1) i k w) :
    Via arcs m i k w ∨ ∃ w1 wl w2, Via arcs m i m w1 ∧ Walk arcs m m wl ∧ Via arcs m m k w2 ∧ w = w1 + wl + w2 := by
  induction h with
  | nil => exact .inl (.nil _)
  | edge hm => exact .inl (.edge hm)
  | @snoc a b w c hv ha hm ih =>
    rename_i a
    rcases Nat.lt_or_ge a m with hlt | hge
    · rcases ih with h | ⟨w1, wl, w2, h1, hl, h2, rfl⟩
      · exact .inl (.snoc h hlt hm)
      · exact .inr ⟨w1, wl, w2 + c, h1, hl, .snoc h2 hlt hm, by omega⟩
    · obtain rfl : a = m := by omega
      rcases ih with h | ⟨w1, wl, w2, h1, hl, h2, rfl⟩
      · exact .inr ⟨_, 0, c, h, .nil _, .edge hm, by omega⟩
      · exact .inr ⟨w1, wl + w2, c, h1, hl.trans h2.walk, .edge hm, by omega⟩

abbrev Mat := Nat → Nat → Int

def upd (d : Mat) (i k : Nat) (v : Int) : Mat := fun a b => if a = i ∧ b = k then v else d a b

/-- d is of each two nodes the least walk, or none -/
def IsDist (arcs : List Arc) (n : Nat) (d : Mat) : Prop :=
  ∀ i k, i < n → k < n → (d i k = far ∧ ∀ w, ¬ Walk arcs i k w) ∨ (Walk arcs i k (d i k) ∧ ∀ w, Walk arcs i k w → d i k ≤ w)

theorem IsDist.unique {arcs : List Arc} {n : Nat} {d e : Mat} (hd : IsDist arcs n d) (he : IsDist arcs n e) {i k : Nat} (hi : i < n) (hk : k < n) : d i k = e i k := by
  rcases hd i k hi hk with ⟨h1, h2⟩ | ⟨h1, h2⟩ <;> rcases he i k hi hk with ⟨g1, g2⟩ | ⟨g1, g2⟩
  · omega
  · exact absurd g1 (h2 _)
  · exact absurd h1 (g2 _)
  · have := h2 _ g1; have := g2 _ h1; omega

/-! ### the program's way: node by node -/
def relax (d : Mat) (m i k : Nat) : Mat := if d i m < far ∧ d m k < far then upd d i k (min (d i k) (d i m + d m k)) else d
def rowK (d : Mat) (m i : Nat) : Nat → Mat
  | 0 => d
  | k + 1 => relax (rowK d m i k) m i k
def rowI (n : Nat) (d : Mat) (m : Nat) : Nat → Mat
  | 0 => d
  | i + 1 => rowK (rowI n d m i) m i n
def fw (n : Nat) (d : Mat) : Nat → Mat
  | 0 => d
  | m + 1 => rowI n (fw n d m) m n

theorem relax_le (d : Mat) (m i k a b : Nat) : relax d m i k a b ≤ d a b := by
  unfold relax; split
  · unfold upd; split
    · rename_i h; obtain ⟨rfl, rfl⟩ := h; omega
    · omega
  · omega
theorem rowK_le (d : Mat) (m i k a b : Nat) : rowK d m i k a b ≤ d a b := by
  induction k with
  | zero => exact Int.le_refl _
  | succ k ih => exact Int.le_trans (relax_le _ _ _ _ _ _) ih
theorem rowI_le (n : Nat) (d : Mat) (m i a b : Nat) : rowI n d m i a b ≤ d a b := by
  induction i with
  | zero => exact Int.le_refl _
  | succ i ih => exact Int.le_trans (rowK_le _ _ _ _ _ _) ih
theorem fw_le (n : Nat) (d : Mat) (m a b : Nat) : fw n d m a b ≤ d a b := by
  induction m with
  | zero => exact Int.le_refl _
  | succ m ih => exact Int.le_trans (rowI_le _ _ _ _ _ _) ih

/-- what is finite is a walk -/
def Valid (arcs : List Arc) (d : Mat) : Prop := ∀ i k, d i k < far → Walk arcs i k (d i k)

theorem Valid.relax {arcs : List Arc} {d : Mat} (h : Valid arcs d) (m i k : Nat) : Valid arcs (relax d m i k) := by
  unfold Noon.relax; split
  · rename_i hc
    intro a b hab
    unfold upd at hab ⊢
    split
    · rename_i he; obtain ⟨rfl, rfl⟩ := he
      have hw := (h _ _ hc.1).trans (h _ _ hc.2)
      by_cases hm : d a b ≤ d a m + d m b
      · rw [if_pos ⟨rfl, rfl⟩, Int.min_eq_left hm] at hab; rw [Int.min_eq_left hm]; exact h _ _ hab
      · rw [Int.min_eq_right (by omega)]; exact hw
    · rename_i he; rw [if_neg he] at hab; exact h _ _ hab
  · exact h
theorem Valid.rowK {arcs : List Arc} {d : Mat} (h : Valid arcs d) (m i k : Nat) : Valid arcs (rowK d m i k) := by
  induction k with
  | zero => exact h
  | succ k ih => exact ih.relax _ _ _
theorem Valid.rowI {arcs : List Arc} {d : Mat} (h : Valid arcs d) (n m i : Nat) : Valid arcs (rowI n d m i) := by
  induction i with
  | zero => exact h
  | succ i ih => exact ih.rowK _ _ _
theorem Valid.fw {arcs : List Arc} {d : Mat} (h : Valid arcs d) (n m : Nat) : Valid arcs (fw n d m) := by
  induction m with
  | zero => exact h
  | succ m ih => exact ih.rowI _ _ _

theorem relax_get (d : Mat) (m i k : Nat) (h1 : d i m < far) (h2 : d m k < far) : relax d m i k i k ≤ d i m + d m k := by
  unfold relax; rw [if_pos ⟨h1, h2⟩]; unfold upd; rw [if_pos ⟨rfl, rfl⟩]; omega
theorem rowK_get (d : Mat) (m i K k : Nat) (hk : k < K) (h1 : d i m < far) (h2 : d m k < far) : rowK d m i K i k ≤ d i m + d m k := by
  induction K with
  | zero => omega
  | succ K ih =>
    by_cases e : k = K
    · subst e
      have a := rowK_le d m i k i m
      have b := rowK_le d m i k m k
      have := relax_get (rowK d m i k) m i k (by omega) (by omega)
      show relax _ m i k i k ≤ _
      omega
    · exact Int.le_trans (relax_le _ _ _ _ _ _) (ih (by omega))
theorem rowI_get (n : Nat) (d : Mat) (m I i k : Nat) (hi : i < I) (hk : k < n) (h1 : d i m < far) (h2 : d m k < far) : rowI n d m I i k ≤ d i m + d m k := by
  induction I with
  | zero => omega
  | succ I ih =>
    by_cases e : i = I
    · subst e
      have a := rowI_le n d m i i m
      have b := rowI_le n d m i m k
      have := rowK_get (rowI n d m i) m i n k hk (by omega) (by omega)
      show rowK _ m i n i k ≤ _
      omega
    · exact Int.le_trans (rowK_le _ _ _ _ _ _) (ih (by omega))

/-- what is finite is at most K, in row and column m, and twice that elsewhere -/
structure PB (m : Nat) (K : Int) (d : Mat) : Prop where
  all : ∀ i k, d i k < far → d i k ≤ 2 * K
  col : ∀ i, d i m < far → d i m ≤ K
  row : ∀ k, d m k < far → d m k ≤ K
  top : ∀ i k, d i k ≤ far

structure UB (K : Int) (d : Mat) : Prop where
  all : ∀ i k, d i k < far → d i k ≤ K
  top : ∀ i k, d i k ≤ far

theorem PB.relax {m : Nat} {K : Int} {d : Mat} (h : PB m K d) (i k : Nat) : PB m K (relax d m i k) := by
  unfold Noon.relax; split
  · rename_i hc
    have h1 := h.col i hc.1
    have h2 := h.row k hc.2
    refine ⟨fun a b hab => ?_, fun a hab => ?_, fun b hab => ?_, fun a b => ?_⟩
    · unfold upd at hab ⊢; split
      · omega
      · rename_i he; rw [if_neg he] at hab; exact h.all a b hab
    · unfold upd at hab ⊢; split
      · rename_i he; obtain ⟨rfl, rfl⟩ := he; omega
      · rename_i he; rw [if_neg he] at hab; exact h.col a hab
    · unfold upd at hab ⊢; split
      · rename_i he; obtain ⟨rfl, rfl⟩ := he; omega
      · rename_i he; rw [if_neg he] at hab; exact h.row b hab
    · unfold upd; have := h.top a b; have := h.top i k; split <;> omega
  · exact h
theorem PB.rowK {m : Nat} {K : Int} {d : Mat} (h : PB m K d) (i k : Nat) : PB m K (rowK d m i k) := by
  induction k with
  | zero => exact h
  | succ k ih => exact ih.relax _ _
theorem PB.rowI {m : Nat} {K : Int} {d : Mat} (h : PB m K d) (n i : Nat) : PB m K (rowI n d m i) := by
  induction i with
  | zero => exact h
  | succ i ih => exact ih.rowK _ _
theorem UB.pb {K : Int} {d : Mat} (hK : 0 ≤ K) (h : UB K d) (m : Nat) : PB m K d :=
  ⟨fun i k hd => by have := h.all i k hd; omega, fun i hd => h.all _ _ hd, fun k hd => h.all _ _ hd, h.top⟩
theorem UB.step {K : Int} {d : Mat} (hK : 0 ≤ K) (h : UB K d) (n m : Nat) : UB (2 * K) (rowI n d m n) :=
  let g := (h.pb hK m).rowI n n; ⟨g.all, g.top⟩
theorem UB.fw {K : Int} {d : Mat} (hK : 0 ≤ K) (h : UB K d) (n m : Nat) : UB (2 ^ m * K) (fw n d m) := by
  induction m with
  | zero => simpa [Noon.fw] using h
  | succ m ih =>
    have := ih.step (Int.mul_nonneg (Int.pow_nonneg (by omega)) hK) n m
    rw [Int.pow_succ, Int.mul_comm (2 ^ m) 2, Int.mul_assoc]; exact this

/-- no walk with inner nodes below m is shorter -/
def Covers (arcs : List Arc) (n m : Nat) (d : Mat) : Prop := ∀ i k w, i < n → k < n → Via arcs m i k w → d i k ≤ w ∧ d i k < far

theorem Covers.step {arcs : List Arc} {t : Nat → Int} (hf : Feas t arcs) {n m : Nat} {d : Mat} {K : Int} (hm : m < n) (hK2 : 2 * K < far) (hu : UB K d)
    (h : Covers arcs n m d) : Covers arcs n (m + 1) (rowI n d m n) := by
  intro i k w hi hk hv
  rcases hv.part with h0 | ⟨w1, wl, w2, h1, hl, h2, rfl⟩
  · have := h i k w hi hk h0
    have := rowI_le n d m n i k
    omega
  · have a := h i m w1 hi hm h1
    have b := h m k w2 hm hk h2
    have c := rowI_get n d m n i k hi hk a.2 b.2
    have e := hl.ge hf
    have := hu.all _ _ a.2
    have := hu.all _ _ b.2
    omega

theorem pow_mono (m n : Nat) (K : Int) (hK : 0 ≤ K) (h : m ≤ n) : 2 ^ m * K ≤ 2 ^ n * K := by
  apply Int.mul_le_mul_of_nonneg_right _ hK
  have : (2 : Nat) ^ m ≤ 2 ^ n := Nat.pow_le_pow_right (by omega) h
  exact_mod_cast this

theorem covers_fw {arcs : List Arc} {t : Nat → Int} (hf : Feas t arcs) {n : Nat} {d : Mat} {K : Int} (hK : 0 ≤ K) (hK2 : 2 ^ n * K < far) (hu : UB K d)
    (h : Covers arcs n 0 d) (m : Nat) (hm : m ≤ n) : Covers arcs n m (fw n d m) := by
  induction m with
  | zero => exact h
  | succ m ih =>
    have h2 := pow_mono (m + 1) n K hK hm
    rw [Int.pow_succ, Int.mul_comm (2 ^ m) 2, Int.mul_assoc] at h2
    exact (ih (by omega)).step hf (by omega) (by omega) (hu.fw hK n m)

/-- THE PROGRAM's WAY TELLS THE LEAST WALKS. -/
theorem fw_isDist {arcs : List Arc} {t : Nat → Int} (hf : Feas t arcs) {n : Nat} (hn : InN n arcs) {d : Mat} {K : Int} (hK : 0 ≤ K) (hK2 : 2 ^ n * K < far) (hu : UB K d)
    (hv : Valid arcs d) (h : Covers arcs n 0 d) : IsDist arcs n (fw n d n) := by
  intro i k hi hk
  have hc := covers_fw hf hK hK2 hu h n (Nat.le_refl _)
  have hv' := hv.fw n n
  by_cases e : fw n d n i k < far
  · exact .inr ⟨hv' _ _ e, fun w hw => (hc i k w hi hk (hw.via hn)).1⟩
  · refine .inl ⟨?_, fun w hw => ?_⟩
    · have := (hu.fw hK n n).top i k; omega
    · have := (hc i k w hi hk (hw.via hn)).2; omega

/-- what stands in the matrix at any time -/
theorem state_bound {arcs : List Arc} {t : Nat → Int} (hf : Feas t arcs) {n : Nat} {d : Mat} {K D : Int} (hK : 0 ≤ K) (hD : ∀ i k, -D ≤ t k - t i) (hu : UB K d) (hv : Valid arcs d)
    (m i k : Nat) (hm : m < n) (a b : Nat) : rowK (rowI n (fw n d m) m i) m i k a b ≤ far ∧ (rowK (rowI n (fw n d m) m i) m i k a b < far → -D ≤ rowK (rowI n (fw n d m) m i) m i k a b ∧ rowK (rowI n (fw n d m) m i) m i k a b ≤ 2 ^ n * K) := by
  have h1 := ((hu.fw hK n m).pb (Int.mul_nonneg (Int.pow_nonneg (by omega)) hK) m).rowI n i |>.rowK i k
  refine ⟨h1.top a b, fun hlt => ⟨?_, ?_⟩⟩
  · have := (((hv.fw n m).rowI n m i).rowK m i k a b hlt).ge hf
    have := hD a b
    omega
  · have h2 := pow_mono (m + 1) n K hK hm
    rw [Int.pow_succ, Int.mul_comm (2 ^ m) 2, Int.mul_assoc] at h2
    have := h1.all a b hlt
    omega

/-! ### walks by their length; no walk need be longer than there are nodes -/
inductive WalkN (arcs : List Arc) : Nat → Nat → Nat → Int → Prop
  | nil (i : Nat) : WalkN arcs 0 i i 0
  | snoc {L i a b : Nat} {w c : Int} : WalkN arcs L i a w → (⟨a, b, c⟩ : Arc) ∈ arcs → WalkN arcs (L + 1) i b (w + c)

theorem WalkN.walk {arcs : List Arc} {L i k : Nat} {w : Int} (h : WalkN arcs L i k w) : Walk arcs i k w := by
  induction h with
  | nil => exact .nil _
  | snoc _ hm ih => exact .snoc ih hm
theorem Walk.len {arcs : List Arc} {i k : Nat} {w : Int} (h : Walk arcs i k w) : ∃ L, WalkN arcs L i k w := by
  induction h with
  | nil => exact ⟨0, .nil _⟩
  | snoc _ hm ih => obtain ⟨L, hL⟩ := ih; exact ⟨L + 1, .snoc hL hm⟩
theorem WalkN.trans {arcs : List Arc} {L M i k j : Nat} {w v : Int} (h : WalkN arcs L i k w) (g : WalkN arcs M k j v) : WalkN arcs (L + M) i j (w + v) := by
  induction g with
  | nil => simpa using h
  | snoc _ hm ih => have := WalkN.snoc (ih h) hm; rwa [Int.add_assoc] at this

theorem WalkN.split {arcs : List Arc} {L i k : Nat} {w : Int} (h : WalkN arcs L i k w) :
    ∃ p : Nat → Nat, ∃ q : Nat → Int, p 0 = i ∧ p L = k ∧ q 0 = 0 ∧ q L = w ∧ ∀ j, j < L → (⟨p j, p (j + 1), q (j + 1) - q j⟩ : Arc) ∈ arcs := by
  induction h with
  | nil i => exact ⟨fun _ => i, fun _ => 0, rfl, rfl, rfl, rfl, fun j hj => by omega⟩
  | @snoc L i a b w c hw hm ih =>
    obtain ⟨p, q, h0, hL, hq0, hqL, hp⟩ := ih
    refine ⟨fun j => if j ≤ L then p j else b, fun j => if j ≤ L then q j else w + c, by simp [h0], if_neg (by omega), by simp [hq0], if_neg (by omega), fun j hj => ?_⟩
    by_cases e : j < L
    · have := hp j e
      simp only [if_pos (show j ≤ L by omega), if_pos (show j + 1 ≤ L by omega)]
      exact this
    · obtain rfl : j = L := by omega
      simp only [Nat.le_refl, if_true, if_neg (show ¬ j + 1 ≤ j by omega), hL, hqL]
      rw [show w + c - w = c by omega]; exact hm
theorem WalkN.part {arcs : List Arc} {p : Nat → Nat} {q : Nat → Int} {a b : Nat} (hab : a ≤ b) (h : ∀ j, a ≤ j → j < b → (⟨p j, p (j + 1), q (j + 1) - q j⟩ : Arc) ∈ arcs) :
    WalkN arcs (b - a) (p a) (p b) (q b - q a) := by
  induction b with
  | zero => obtain rfl : a = 0 := by omega
            simpa using WalkN.nil (arcs := arcs) (p 0)
  | succ b ih =>
    by_cases e : a = b + 1
    · subst e; simpa using WalkN.nil (arcs := arcs) (p (b + 1))
    · have := WalkN.snoc (ih (by omega) (fun j h1 h2 => h j h1 (by omega))) (h b (by omega) (by omega))
      rw [show b + 1 - a = b - a + 1 by omega, show q (b + 1) - q a = q b - q a + (q (b + 1) - q b) by omega]; exact this

theorem pigeon (n : Nat) : ∀ p : Nat → Nat, (∀ j, j ≤ n → p j < n) → ∃ a b, a < b ∧ b ≤ n ∧ p a = p b := by
  induction n with
  | zero => intro p h; have := h 0 (by omega); omega
  | succ m ih =>
    intro p h
    by_cases hd : ∃ j, j ≤ m ∧ p j = p (m + 1)
    · obtain ⟨j, hj, he⟩ := hd; exact ⟨j, m + 1, by omega, by omega, he⟩
    · have hne : ∀ j, j ≤ m → p j ≠ p (m + 1) := fun j hj e => hd ⟨j, hj, e⟩
      have hv := h (m + 1) (by omega)
      obtain ⟨a, b, hab, hb, he⟩ := ih (fun j => if p j = m then p (m + 1) else p j) (fun j hj => by
        have := h j (by omega); have := hne j hj
        show (if p j = m then p (m + 1) else p j) < m
        split <;> omega)
      refine ⟨a, b, hab, by omega, ?_⟩
      have ha := hne a (by omega); have hb' := hne b (by omega)
      split at he <;> split at he <;> omega

theorem WalkN.lt {arcs : List Arc} {n : Nat} (hn : InN n arcs) {L i k : Nat} {w : Int} (h : WalkN arcs L i k w) (hi : i < n) : k < n := h.walk.lt hn hi

theorem WalkN.short {arcs : List Arc} {t : Nat → Int} (hf : Feas t arcs) {n : Nat} (hn : InN n arcs) (L : Nat) : ∀ {i k : Nat} {w : Int}, i < n → WalkN arcs L i k w →
    ∃ L' w', L' < n ∧ w' ≤ w ∧ WalkN arcs L' i k w' := by
  induction L using Nat.strongRecOn with
  | ind L ih =>
    intro i k w hi h
    by_cases hL : L < n
    · exact ⟨L, w, hL, Int.le_refl _, h⟩
    · obtain ⟨p, q, h0, hk, hq0, hqL, hp⟩ := h.split
      have hw1 : ∀ j, j ≤ L → WalkN arcs j i (p j) (q j) := fun j hj => by
        have := WalkN.part (arcs := arcs) (p := p) (q := q) (a := 0) (b := j) (by omega) (fun x _ hx => hp x (by omega))
        rwa [h0, hq0, Nat.sub_zero, Int.sub_zero] at this
      obtain ⟨a, b, hab, hb, he⟩ := pigeon n p (fun j hj => (hw1 j (by omega)).lt hn hi)
      have k1 := WalkN.part (arcs := arcs) (p := p) (q := q) (a := a) (b := b) (by omega) (fun x _ hx => hp x (by omega))
      have k2 := WalkN.part (arcs := arcs) (p := p) (q := q) (a := b) (b := L) (by omega) (fun x _ hx => hp x (by omega))
      rw [← he] at k1 k2
      rw [hk, hqL] at k2
      have hz := k1.walk.ge hf
      obtain ⟨L', w', hl, hw, hg⟩ := ih (a + (L - b)) (by omega) hi ((hw1 a (by omega)).trans k2)
      exact ⟨L', w', hl, by omega, hg⟩

/-! ### the reference's way: along arcs, again and again -/
structure BF where
  d : Mat
  h : Nat → Nat → Bool

def BF.put (s : BF) (i b : Nat) (v : Int) : BF := ⟨upd s.d i b v, fun x y => if x = i ∧ y = b then true else s.h x y⟩
/-- one arc, from node i on -/
def BF.arc (i : Nat) (s : BF) (x : Arc) : BF := if s.h i x.a = true ∧ (s.h i x.b = false ∨ s.d i x.a + x.c < s.d i x.b) then s.put i x.b (s.d i x.a + x.c) else s
def BF.row (arcs : List Arc) (s : BF) (i : Nat) : BF := arcs.foldl (BF.arc i) s
def BF.round (arcs : List Arc) (s : BF) : Nat → BF
  | 0 => s
  | n + 1 => BF.row arcs (BF.round arcs s n) n
def BF.rounds (arcs : List Arc) (n : Nat) (s : BF) : Nat → BF
  | 0 => s
  | r + 1 => BF.round arcs (BF.rounds arcs n s r) n

def BF.Valid (arcs : List Arc) (s : BF) : Prop := ∀ i k, s.h i k = true → Walk arcs i k (s.d i k)
/-- s tells no more than r did -/
def BF.Le (r s : BF) : Prop := ∀ i k, r.h i k = true → s.h i k = true ∧ s.d i k ≤ r.d i k
theorem BF.Le.refl (s : BF) : BF.Le s s := fun _ _ h => ⟨h, Int.le_refl _⟩
theorem BF.Le.trans {r s u : BF} (h : BF.Le r s) (g : BF.Le s u) : BF.Le r u := fun i k e => ⟨(g i k (h i k e).1).1, Int.le_trans (g i k (h i k e).1).2 (h i k e).2⟩

theorem BF.arc_le (i : Nat) (s : BF) (x : Arc) : BF.Le s (BF.arc i s x) := by
  unfold BF.arc; split
  · rename_i hc
    intro a b hab
    unfold BF.put upd
    by_cases e : a = i ∧ b = x.b
    · obtain ⟨rfl, rfl⟩ := e
      refine ⟨by simp, ?_⟩
      rcases hc.2 with h | h
      · rw [h] at hab; cases hab
      · simp; omega
    · simp [e, hab]
  · exact BF.Le.refl _
theorem BF.arc_valid {arcs : List Arc} (i : Nat) {s : BF} {x : Arc} (hx : x ∈ arcs) (h : BF.Valid arcs s) : BF.Valid arcs (BF.arc i s x) := by
  unfold BF.arc; split
  · rename_i hc
    intro a b hab
    unfold BF.put upd at hab ⊢
    by_cases e : a = i ∧ b = x.b
    · obtain ⟨rfl, rfl⟩ := e
      simp
      exact .snoc (h _ _ hc.1) hx
    · simp [e] at hab ⊢; exact h _ _ hab
  · exact h
theorem BF.arc_get (i : Nat) (s : BF) (x : Arc) (h : s.h i x.a = true) : (BF.arc i s x).h i x.b = true ∧ (BF.arc i s x).d i x.b ≤ s.d i x.a + x.c := by
  unfold BF.arc
  by_cases hb : s.h i x.b = true
  · by_cases hl : s.d i x.a + x.c < s.d i x.b
    · simp [h, hl, BF.put, upd]
    · simp [h, hb, hl]; omega
  · simp [h, hb, BF.put, upd]

theorem BF.fold_le (i : Nat) (l : List Arc) (s : BF) : BF.Le s (l.foldl (BF.arc i) s) := by
  induction l generalizing s with
  | nil => exact BF.Le.refl _
  | cons x l ih => exact (BF.arc_le i s x).trans (ih _)
theorem BF.fold_valid {arcs : List Arc} (i : Nat) (l : List Arc) (hl : ∀ x ∈ l, x ∈ arcs) {s : BF} (h : BF.Valid arcs s) : BF.Valid arcs (l.foldl (BF.arc i) s) := by
  induction l generalizing s with
  | nil => exact h
  | cons x l ih => exact ih (fun y hy => hl y (by simp [hy])) (BF.arc_valid i (hl x (by simp)) h)
theorem BF.fold_get (i : Nat) (l : List Arc) (s : BF) (x : Arc) (hx : x ∈ l) (h : s.h i x.a = true) :
    (l.foldl (BF.arc i) s).h i x.b = true ∧ (l.foldl (BF.arc i) s).d i x.b ≤ s.d i x.a + x.c := by
  induction l generalizing s with
  | nil => cases hx
  | cons y l ih =>
    rcases List.mem_cons.1 hx with rfl | hx
    · have g := BF.arc_get i s x h
      have := BF.fold_le i l (BF.arc i s x) i x.b g.1
      exact ⟨this.1, Int.le_trans this.2 g.2⟩
    · have g := BF.arc_le i s y i x.a h
      have := ih (BF.arc i s y) hx g.1
      exact ⟨this.1, by have := this.2; have := g.2; simp only [List.foldl_cons] at *; omega⟩

theorem BF.round_le (arcs : List Arc) (s : BF) (n : Nat) : BF.Le s (BF.round arcs s n) := by
  induction n with
  | zero => exact BF.Le.refl _
  | succ n ih => exact ih.trans (BF.fold_le n arcs _)
theorem BF.round_valid {arcs : List Arc} {s : BF} (h : BF.Valid arcs s) (n : Nat) : BF.Valid arcs (BF.round arcs s n) := by
  induction n with
  | zero => exact h
  | succ n ih => exact BF.fold_valid n arcs (fun _ h => h) ih
theorem BF.round_get (arcs : List Arc) (s : BF) (n i : Nat) (hi : i < n) (x : Arc) (hx : x ∈ arcs) (h : s.h i x.a = true) :
    (BF.round arcs s n).h i x.b = true ∧ (BF.round arcs s n).d i x.b ≤ s.d i x.a + x.c := by
  induction n with
  | zero => omega
  | succ n ih =>
    by_cases e : i = n
    · subst e
      have g := BF.round_le arcs s i i x.a h
      have := BF.fold_get i arcs (BF.round arcs s i) x hx g.1
      exact ⟨this.1, by have := this.2; have := g.2; simp only [BF.round, BF.row] at *; omega⟩
    · have g := ih (by omega)
      have := BF.fold_le n arcs (BF.round arcs s n) i x.b g.1
      exact ⟨this.1, by have := this.2; have := g.2; simp only [BF.round, BF.row] at *; omega⟩
theorem BF.rounds_valid {arcs : List Arc} {s : BF} (h : BF.Valid arcs s) (n r : Nat) : BF.Valid arcs (BF.rounds arcs n s r) := by
  induction r with
  | zero => exact h
  | succ r ih => exact BF.round_valid ih n
theorem BF.rounds_le (arcs : List Arc) (n : Nat) (s : BF) (r : Nat) : BF.Le s (BF.rounds arcs n s r) := by
  induction r with
  | zero => exact BF.Le.refl _
  | succ r ih => exact ih.trans (BF.round_le arcs _ n)
theorem BF.rounds_le_of {arcs : List Arc} {n : Nat} {s : BF} {r q : Nat} (h : r ≤ q) : BF.Le (BF.rounds arcs n s r) (BF.rounds arcs n s q) := by
  induction q with
  | zero => obtain rfl : r = 0 := by omega
            exact BF.Le.refl _
  | succ q ih =>
    by_cases e : r = q + 1
    · subst e; exact BF.Le.refl _
    · exact (ih (by omega)).trans (BF.round_le arcs _ n)

theorem BF.rounds_get (arcs : List Arc) (n : Nat) (s : BF) (h0 : ∀ i, i < n → s.h i i = true ∧ s.d i i ≤ 0) {L i k : Nat} {w : Int} (hw : WalkN arcs L i k w) (hi : i < n) :
    (BF.rounds arcs n s L).h i k = true ∧ (BF.rounds arcs n s L).d i k ≤ w := by
  induction hw with
  | nil => exact h0 _ hi
  | @snoc L i a b w c _ hm ih =>
    have g := ih hi
    have := BF.round_get arcs (BF.rounds arcs n s L) n i hi ⟨a, b, c⟩ hm g.1
    exact ⟨this.1, by have := this.2; have := g.2; simp only [BF.rounds] at *; omega⟩

/-- as the program writes it -/
def BF.mat (s : BF) : Mat := fun i k => if s.h i k then s.d i k else far

theorem bf_isDist {arcs : List Arc} {t : Nat → Int} (hf : Feas t arcs) {n : Nat} (hn : InN n arcs) {s : BF} (hv : BF.Valid arcs s) (h0 : ∀ i, i < n → s.h i i = true ∧ s.d i i ≤ 0) (r : Nat) (hr : n ≤ r + 1) :
    IsDist arcs n (BF.rounds arcs n s r).mat := by
  intro i k hi hk
  have hget : ∀ w, Walk arcs i k w → (BF.rounds arcs n s r).h i k = true ∧ (BF.rounds arcs n s r).d i k ≤ w := by
    intro w hw
    obtain ⟨L, hL⟩ := hw.len
    obtain ⟨L', w', hl, hw', hg⟩ := WalkN.short hf hn L hi hL
    have g := BF.rounds_get arcs n s h0 hg hi
    have := BF.rounds_le_of (arcs := arcs) (n := n) (s := s) (r := L') (q := r) (by omega) i k g.1
    exact ⟨this.1, by have := this.2; have := g.2; omega⟩
  unfold BF.mat
  by_cases e : (BF.rounds arcs n s r).h i k = true
  · right; rw [if_pos e]; exact ⟨BF.rounds_valid hv n r i k e, fun w hw => (hget w hw).2⟩
  · left; rw [if_neg e]; exact ⟨rfl, fun w hw => e (hget w hw).1⟩

end Noon

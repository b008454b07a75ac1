/- The least bounds of each two nodes, out of a list of edges: plain. -/
import Derived.Test.YtjohngeaifgcgaaPPaths
namespace Noon

/-- what b's clock shows less what a's shows is between lo and hi -/
structure Edg where
  a : Nat
  b : Nat
  lo : Int
  hi : Int
deriving DecidableEq

structure EdgOk (n : Nat) (e : Edg) : Prop where
  a : e.a < n
  b : e.b < n
  ne : e.a ≠ e.b
  le : e.lo ≤ e.hi
  l : -4000000000 ≤ e.lo
  h : e.hi ≤ 4000000000

def Fit (x : Nat → Int) (l : List Edg) : Prop := ∀ e ∈ l, e.lo ≤ x e.b - x e.a ∧ x e.b - x e.a ≤ e.hi

def arcsOf (l : List Edg) : List Arc := l.flatMap fun e => [⟨e.a, e.b, e.hi⟩, ⟨e.b, e.a, -e.lo⟩]

theorem mem_arcs {l : List Edg} {x : Arc} : x ∈ arcsOf l ↔ ∃ e ∈ l, x = ⟨e.a, e.b, e.hi⟩ ∨ x = ⟨e.b, e.a, -e.lo⟩ := by
  unfold arcsOf
  simp [List.mem_flatMap]

theorem Fit.feas {x : Nat → Int} {l : List Edg} (h : Fit x l) : Feas x (arcsOf l) := by
  intro a ha
  obtain ⟨e, he, h1 | h1⟩ := mem_arcs.1 ha
  · subst h1; exact (h e he).2
  · subst h1; have := (h e he).1; show x e.a - x e.b ≤ -e.lo; omega

theorem arcs_inN {n : Nat} {l : List Edg} (h : ∀ e ∈ l, EdgOk n e) : InN n (arcsOf l) := by
  intro a ha
  obtain ⟨e, he, h1 | h1⟩ := mem_arcs.1 ha
  · subst h1; exact ⟨(h e he).a, (h e he).b⟩
  · subst h1; exact ⟨(h e he).b, (h e he).a⟩

def mat0 : Mat := fun i k => if i = k then 0 else far
/-- what an edge says -/
def addE (d : Mat) (e : Edg) : Mat := upd (upd d e.a e.b (min (d e.a e.b) e.hi)) e.b e.a (min (d e.b e.a) (-e.lo))
def matE (l : List Edg) : Mat := l.foldl addE mat0
def closedM (n : Nat) (l : List Edg) : Mat := fw n (matE l) n

theorem addE_get {d : Mat} {e : Edg} (hne : e.a ≠ e.b) (i k : Nat) :
    addE d e i k = if i = e.a ∧ k = e.b then min (d i k) e.hi else if i = e.b ∧ k = e.a then min (d i k) (-e.lo) else d i k := by
  unfold addE upd
  by_cases h1 : i = e.a ∧ k = e.b
  · obtain ⟨rfl, rfl⟩ := h1
    simp [hne]
  · by_cases h2 : i = e.b ∧ k = e.a
    · obtain ⟨rfl, rfl⟩ := h2
      simp [h1]
    · simp [h1, h2]

/-- what stands in the matrix before the walk over all nodes -/
structure MatOk (n : Nat) (l : List Edg) (d : Mat) : Prop where
  valid : Valid (arcsOf l) d
  ub : UB 4000000000 d
  lb : ∀ i k, -4000000000 ≤ d i k
  get : ∀ e ∈ l, d e.a e.b ≤ e.hi ∧ d e.b e.a ≤ -e.lo
  diag : ∀ i, d i i = 0

theorem arcs_snoc (l : List Edg) (e : Edg) : arcsOf (l ++ [e]) = arcsOf l ++ [⟨e.a, e.b, e.hi⟩, ⟨e.b, e.a, -e.lo⟩] := by simp [arcsOf]

theorem matE_ok (n : Nat) (l : List Edg) (h : ∀ e ∈ l, EdgOk n e) : MatOk n l (matE l) := by
  unfold matE
  suffices H : ∀ (r p : List Edg) (d : Mat), MatOk n p d → (∀ e ∈ r, EdgOk n e) → MatOk n (p ++ r) (r.foldl addE d) by
    have := H l [] mat0 ⟨?_, ⟨?_, ?_⟩, ?_, fun e he => by simp at he, fun i => by simp [mat0]⟩ h
    · simpa using this
    · intro i k hlt
      unfold mat0 at hlt ⊢
      by_cases e : i = k
      · subst e; simp; exact .nil _
      · simp [e] at hlt
    · intro i k hlt
      unfold mat0 at hlt ⊢
      by_cases e : i = k
      · simp [e]
      · simp [e] at hlt
    · intro i k
      unfold mat0 far; split <;> omega
    · intro i k
      unfold mat0 far; split <;> omega
  intro r
  induction r with
  | nil => intro p d hd _; simpa using hd
  | cons e r ih =>
    intro p d hd hr
    have he := hr e (by simp)
    have hm : ∀ x ∈ arcsOf p, x ∈ arcsOf (p ++ [e]) := fun x hx => by rw [arcs_snoc]; simp [hx]
    have m1 : (⟨e.a, e.b, e.hi⟩ : Arc) ∈ arcsOf (p ++ [e]) := by rw [arcs_snoc]; simp
    have m2 : (⟨e.b, e.a, -e.lo⟩ : Arc) ∈ arcsOf (p ++ [e]) := by rw [arcs_snoc]; simp
    have := ih (p ++ [e]) (addE d e) ?_ (fun x hx => hr x (by simp [hx]))
    · simpa using this
    have b1 := he.le
    have b2 := he.l
    have b3 := he.h
    refine ⟨?_, ⟨?_, ?_⟩, ?_, ?_, ?_⟩
    · intro i k hlt
      rw [addE_get he.ne] at hlt ⊢
      have g := hd.valid i k
      split at hlt <;> rename_i h1
      · rw [if_pos h1]
        obtain ⟨rfl, rfl⟩ := h1
        rcases Int.le_total (d e.a e.b) e.hi with q | q
        · rw [Int.min_eq_left q] at hlt ⊢; exact (g hlt).mono hm
        · rw [Int.min_eq_right q]; exact .edge m1
      · rw [if_neg h1]
        split at hlt <;> rename_i h2
        · rw [if_pos h2]
          obtain ⟨rfl, rfl⟩ := h2
          rcases Int.le_total (d e.b e.a) (-e.lo) with q | q
          · rw [Int.min_eq_left q] at hlt ⊢; exact (g hlt).mono hm
          · rw [Int.min_eq_right q]; exact .edge m2
        · rw [if_neg h2]; exact (g hlt).mono hm
    · intro i k hlt
      rw [addE_get he.ne] at hlt ⊢
      have g := hd.ub.all i k
      have t := hd.ub.top i k
      unfold far at *
      split
      · omega
      · split
        · omega
        · rw [if_neg (by assumption), if_neg (by assumption)] at hlt; exact g hlt
    · intro i k
      rw [addE_get he.ne]
      have t := hd.ub.top i k
      split
      · omega
      · split <;> omega
    · intro i k
      rw [addE_get he.ne]
      have t := hd.lb i k
      split
      · omega
      · split <;> omega
    · intro x hx
      rw [addE_get he.ne, addE_get he.ne]
      rcases List.mem_append.1 hx with hx | hx
      · have g := hd.get x hx
        constructor
        · split
          · omega
          · split <;> omega
        · split
          · omega
          · split <;> omega
      · obtain rfl := List.mem_singleton.1 hx
        have : ¬ (x.b = x.a ∧ x.a = x.b) := fun h => he.ne h.2
        simp only [and_self, if_true, if_neg this]
        omega
    · intro i
      rw [addE_get he.ne]
      have g := hd.diag i
      have : ¬ (i = e.a ∧ i = e.b) := fun h => he.ne (h.1.symm.trans h.2)
      have : ¬ (i = e.b ∧ i = e.a) := fun h => he.ne (h.2.symm.trans h.1)
      simp [*]

theorem MatOk.covers {n : Nat} {l : List Edg} {d : Mat} (h : MatOk n l d) (he : ∀ e ∈ l, EdgOk n e) : Covers (arcsOf l) n 0 d := by
  intro i k w hi hk hv
  cases hv with
  | nil => rw [h.diag]; exact ⟨Int.le_refl _, by decide⟩
  | edge hm =>
    obtain ⟨e, hl, q | q⟩ := mem_arcs.1 hm
    · cases q
      have := (h.get e hl).1
      have := (he e hl).h
      unfold far; omega
    · cases q
      have := (h.get e hl).2
      have := (he e hl).l
      unfold far; omega
  | snoc _ hlt _ => omega

theorem closedM_dist {n : Nat} {l : List Edg} {x : Nat → Int} (hn : n ≤ 6) (he : ∀ e ∈ l, EdgOk n e) (hx : Fit x l) : IsDist (arcsOf l) n (closedM n l) := by
  have h := matE_ok n l he
  refine fw_isDist hx.feas (arcs_inN he) (K := 4000000000) (by omega) ?_ h.ub h.valid (h.covers he)
  have := pow_mono n 6 4000000000 (by omega) hn
  unfold far
  omega

theorem arcs_sym {l : List Edg} {i k : Nat} {c : Int} (h : (⟨i, k, c⟩ : Arc) ∈ arcsOf l) : ∃ d, (⟨k, i, d⟩ : Arc) ∈ arcsOf l := by
  obtain ⟨e, hl, q | q⟩ := mem_arcs.1 h
  · cases q; exact ⟨_, mem_arcs.2 ⟨e, hl, .inr rfl⟩⟩
  · cases q; exact ⟨_, mem_arcs.2 ⟨e, hl, .inl rfl⟩⟩

theorem walk_sym {l : List Edg} {i k : Nat} {w : Int} (h : Walk (arcsOf l) i k w) : ∃ v, Walk (arcsOf l) k i v := by
  induction h with
  | nil => exact ⟨0, .nil _⟩
  | snoc _ hm ih =>
    obtain ⟨v, hv⟩ := ih
    obtain ⟨d, hd⟩ := arcs_sym hm
    exact ⟨_, (Walk.edge hd).trans hv⟩

/-- what the matrix is good for -/
structure ClosedOk (n : Nat) (l : List Edg) (d : Mat) : Prop where
  dist : IsDist (arcsOf l) n d
  sym : ∀ i k, i < n → k < n → d i k = far → d k i = far
  fin : ∀ i k w, i < n → k < n → Walk (arcsOf l) i k w → d i k < far
  top : ∀ i k, d i k ≤ far
  bound : ∀ i k, d i k < far → -1000000000000 ≤ d i k ∧ d i k ≤ 1000000000000

/-- any matrix on the way -/
theorem on_way {n : Nat} {l : List Edg} {x : Nat → Int} (hn : n ≤ 6) (he : ∀ e ∈ l, EdgOk n e) (hx : Fit x l) (hb : ∀ i k, -1000000000000 ≤ x k - x i) (m i k : Nat) (hm : m < n) (a b : Nat) :
    rowK (rowI n (fw n (matE l) m) m i) m i k a b ≤ far ∧ (rowK (rowI n (fw n (matE l) m) m i) m i k a b < far → -1000000000000 ≤ rowK (rowI n (fw n (matE l) m) m i) m i k a b ∧ rowK (rowI n (fw n (matE l) m) m i) m i k a b ≤ 1000000000000) := by
  have h := matE_ok n l he
  have := state_bound hx.feas (K := 4000000000) (D := 1000000000000) (by omega) hb h.ub h.valid m i k hm a b
  have p := pow_mono n 6 4000000000 (by omega) hn
  refine ⟨this.1, fun q => ⟨(this.2 q).1, ?_⟩⟩
  have := (this.2 q).2
  omega

theorem closedM_ok {n : Nat} {l : List Edg} {x : Nat → Int} (hn : n ≤ 6) (he : ∀ e ∈ l, EdgOk n e) (hx : Fit x l) (hb : ∀ i k, -1000000000000 ≤ x k - x i) : ClosedOk n l (closedM n l) := by
  have h := matE_ok n l he
  have hd := closedM_dist hn he hx
  have u := h.ub.fw (by omega) n n
  have p := pow_mono n 6 4000000000 (by omega) hn
  have fin : ∀ i k w, i < n → k < n → Walk (arcsOf l) i k w → closedM n l i k < far := fun i k w hi hk hw =>
    (covers_fw hx.feas (K := 4000000000) (by omega) (by unfold far; omega) h.ub (h.covers he) n (Nat.le_refl _) i k _ hi hk (hw.via (arcs_inN he))).2
  refine ⟨hd, ?_, fin, u.top, ?_⟩
  · intro i k hi hk e
    rcases hd k i hk hi with ⟨h3, _⟩ | ⟨h3, _⟩
    · exact h3
    · obtain ⟨v, hv⟩ := walk_sym h3
      have := fin i k v hi hk hv
      omega
  · intro i k q
    have := u.all i k q
    have g := ((h.valid.fw n n) i k q).ge hx.feas
    have := hb i k
    unfold closedM at *
    omega

end Noon

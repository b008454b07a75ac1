/- The tables of bounds as they lie in memory. -/
import Derived.Test.YtjohngeaifgcgaaWMx
namespace Go.Proofs.Ytjohngeaifgcgaa
open Go.RowKit
open Noon (Mat Edg)

theorem infoSpans : (Try.prog.info? 95).map (fun i => (i.zero, i.size, i.bytes)) = some (some (.slice none 0 0), 1, 24) := by kernel_rfl
theorem infoBools : (Try.prog.info? 94).map (fun i => (i.zero, i.size, i.bytes)) = some (some (.slice none 0 0), 1, 24) := by kernel_rfl
theorem infoBool : (Try.prog.info? 4).map (fun i => (i.zero, i.size, i.bytes)) = some (some (.bool false), 1, 1) := by kernel_rfl
theorem infoSpan : (Try.prog.info? 34).map (fun i => (i.zero, i.size, i.bytes)) = some (some (.agg #[.int .i64 0, .int .i64 0]), 2, 16) := by kernel_rfl

/-- 'make([]api.Span, n)' -/
theorem make_spans (n : Nat) (hn : n ≤ 6) (w : World) :
    (Instr.makeSlice 95 (.int .i64 (n : Int)) (.int .i64 (n : Int))).run Try.prog w = .ok (.slice (some ⟨w.heap.size, 0, none⟩) n n) (w.alloc (.cells (madeCells #[.int .i64 0, .int .i64 0] (n * 2)) 34)) := by
  obtain ⟨i, hi, hz0, hz1, hz2⟩ := info_parts infoSpan
  have hr := run_make (P := Try.prog) w 95 34 i _ Try.underlying95 hi hz0 .i64 .i64 n n (by omega) (Int.le_refl _) (by rw [hz2]; omega) (by omega)
  simp only [Int.toNat_natCast, hz1] at hr
  exact hr

theorem rowIs_ne {w : World} {a b t s n m : Nat} {f g : Nat → Value} (h : w.rowIs a t n f) (k : w.rowIs b s m g) (hts : t ≠ s) : a ≠ b := by
  rintro rfl
  obtain ⟨c, h1, _⟩ := h
  obtain ⟨d, k1, _⟩ := k
  rw [h1] at k1
  injection k1 with k1
  injection k1 with _ k2
  exact hts k2

theorem rowIs_spans (w : World) (n : Nat) : (w.alloc (.cells (madeCells #[.int .i64 0, .int .i64 0] (n * 2)) 34)).rowIs w.heap.size 34 (n * 2) (fun _ => .int .i64 0) := by
  refine ⟨_, Deep.blk_alloc_new _ _, size_madeCells _ _, fun i hi => ?_⟩
  have : i % 2 = 0 ∨ i % 2 = 1 := by omega
  rcases this with h | h <;> simp [madeCells, hi, h]

/-- a row of bounds, its first c columns done -/
def spanC (d : Mat) (i c q : Nat) : Value := if q / 2 < c ∧ d i (q / 2) < Noon.far then (if q % 2 = 0 then .int .i64 (-(d (q / 2) i)) else .int .i64 (d i (q / 2))) else .int .i64 0
def haveC (d : Mat) (i c k : Nat) : Value := .bool (decide (k < c ∧ d i k < Noon.far))

/-- the tables at O and H, r rows of them done, of row r (if there is one) c columns -/
structure Tab (B : Nat) (w w' : World) (n : Nat) (d : Mat) (O H : Nat) (r : Nat) (R S : Nat → Nat) (c : Nat → Nat) : Prop where
  since : w.Since B w'
  o : w'.rowIs O 95 n (fun i => if i < r then .slice (some ⟨R i, 0, none⟩) n n else .slice none 0 0)
  h : w'.rowIs H 94 n (fun i => if i < r then .slice (some ⟨S i, 0, none⟩) n n else .slice none 0 0)
  ob : B ≤ O
  hb : B ≤ H
  rs : ∀ i, i < r → w'.rowIs (R i) 34 (n * 2) (spanC d i (c i))
  ss : ∀ i, i < r → w'.rowIs (S i) 4 n (haveC d i (c i))
  rb : ∀ i, i < r → B ≤ R i
  sb : ∀ i, i < r → B ≤ S i
  ri : ∀ i j, i < j → j < r → R i < R j
  si : ∀ i j, i < j → j < r → S i < S j

section
variable {B : Nat} {w w' : World} {n : Nat} {d : Mat} {O H r : Nat} {R S c : Nat → Nat}
theorem Tab.alloc (h : Tab B w w' n d O H r R S c) (o : Obj) : Tab B w (w'.alloc o) n d O H r R S c :=
  { h with since := h.since.alloc (by have := h.o.lt; have := h.ob; omega) _, o := h.o.alloc _, h := h.h.alloc _, rs := fun i hi => (h.rs i hi).alloc _, ss := fun i hi => (h.ss i hi).alloc _ }
theorem Tab.drew (h : Tab B w w' n d O H r R S c) : Tab B w w'.drew n d O H r R S c :=
  { h with since := h.since.drew, o := h.o, h := h.h, rs := h.rs, ss := h.ss }
theorem Tab.below (h : Tab B w w' n d O H r R S c) {w2 : World} (hb : Below w'.heap.size w' w2) : Tab B w w2 n d O H r R S c := by
  have e : ∀ b, b < w'.heap.size → w2.heap[b]? = w'.heap[b]? := fun b hl => hb.block b hl
  have hs := h.o.lt
  have hob := h.ob
  exact { h with since := h.since.trans ⟨hb.os, hb.tape, hb.output, hb.size, fun k hk => e k (by omega)⟩, o := h.o.of_block (e _ h.o.lt), h := h.h.of_block (e _ h.h.lt), rs := fun i hi => (h.rs i hi).of_block (e _ (h.rs i hi).lt), ss := fun i hi => (h.ss i hi).of_block (e _ (h.ss i hi).lt) }

/-- a store into a block of another type -/
theorem Tab.far (h : Tab B w w' n d O H r R S c) {a : Addr} {t m : Nat} {f : Nat → Value} (ha : w'.rowIs a.block t m f) (hB : B ≤ a.block) (h1 : t ≠ 95) (h2 : t ≠ 94) (h3 : t ≠ 34) (h4 : t ≠ 4) (v : Value) :
    Tab B w (w'.setCell a v) n d O H r R S c :=
  { h with since := h.since.setCell hB _, o := h.o.setOther (rowIs_ne h.o ha (Ne.symm h1)) _, h := h.h.setOther (rowIs_ne h.h ha (Ne.symm h2)) _, rs := fun i hi => (h.rs i hi).setOther (rowIs_ne (h.rs i hi) ha (Ne.symm h3)) _, ss := fun i hi => (h.ss i hi).setOther (rowIs_ne (h.ss i hi) ha (Ne.symm h4)) _ }

/-- the first table has row r already -/
structure Half (B : Nat) (w w' : World) (n : Nat) (d : Mat) (O H r : Nat) (R S : Nat → Nat) (g : Nat) : Prop where
  since : w.Since B w'
  o : w'.rowIs O 95 n (fun i => if i < r + 1 then .slice (some ⟨if i = r then g else R i, 0, none⟩) n n else .slice none 0 0)
  h : w'.rowIs H 94 n (fun i => if i < r then .slice (some ⟨S i, 0, none⟩) n n else .slice none 0 0)
  ob : B ≤ O
  hb : B ≤ H
  rs : ∀ i, i < r → w'.rowIs (R i) 34 (n * 2) (spanC d i n)
  ss : ∀ i, i < r → w'.rowIs (S i) 4 n (haveC d i n)
  rb : ∀ i, i < r → B ≤ R i
  sb : ∀ i, i < r → B ≤ S i
  ri : ∀ i j, i < j → j < r → R i < R j
  si : ∀ i j, i < j → j < r → S i < S j
  hg : w'.rowIs g 34 (n * 2) (fun _ => .int .i64 0)
  gb : B ≤ g
  gi : ∀ i, i < r → R i < g

theorem Tab.half (h : Tab B w w' n d O H r R S (fun _ => n)) {g : Nat} (hg : w'.rowIs g 34 (n * 2) (fun _ => .int .i64 0)) (gb : B ≤ g) (gi : ∀ i, i < r → R i < g) :
    Half B w (w'.setCell ⟨O, r, none⟩ (.slice (some ⟨g, 0, none⟩) n n)) n d O H r R S g := by
  have oh : O ≠ H := rowIs_ne h.o h.h (by decide)
  refine ⟨h.since.setCell h.ob _, ?_, h.h.setOther (Ne.symm oh) _, h.ob, h.hb, fun i hi => (h.rs i hi).setOther (rowIs_ne (h.rs i hi) h.o (by decide)) _, fun i hi => (h.ss i hi).setOther (rowIs_ne (h.ss i hi) h.o (by decide)) _, h.rb, h.sb, h.ri, h.si, hg.setOther (rowIs_ne hg h.o (by decide)) _, gb, gi⟩
  refine (h.o.set r _).congr ?_
  intro i _
  by_cases e : i = r
  · subst e; simp
  · by_cases q : i < r
    · simp [e, q, show i < r + 1 by omega]
    · simp [e, q, show ¬ i < r + 1 by omega]
theorem Half.alloc {g : Nat} (h : Half B w w' n d O H r R S g) (o : Obj) : Half B w (w'.alloc o) n d O H r R S g :=
  { h with since := h.since.alloc (by have := h.o.lt; have := h.ob; omega) _, o := h.o.alloc _, h := h.h.alloc _, rs := fun i hi => (h.rs i hi).alloc _, ss := fun i hi => (h.ss i hi).alloc _, hg := h.hg.alloc _ }
theorem Half.drew {g : Nat} (h : Half B w w' n d O H r R S g) : Half B w w'.drew n d O H r R S g :=
  { h with since := h.since.drew, o := h.o, h := h.h, rs := h.rs, ss := h.ss, hg := h.hg }
theorem Half.full {g k : Nat} (h : Half B w w' n d O H r R S g) (hk : w'.rowIs k 4 n (fun _ => .bool false)) (kb : B ≤ k) (ki : ∀ i, i < r → S i < k) :
    Tab B w (w'.setCell ⟨H, r, none⟩ (.slice (some ⟨k, 0, none⟩) n n)) n d O H (r + 1) (fun i => if i = r then g else R i) (fun i => if i = r then k else S i) (fun i => if i = r then 0 else n) := by
  have oh : O ≠ H := rowIs_ne h.o h.h (by decide)
  refine ⟨h.since.setCell h.hb _, h.o.setOther oh _, ?_, h.ob, h.hb, ?_, ?_, ?_, ?_, ?_, ?_⟩
  · refine (h.h.set r _).congr ?_
    intro i _
    by_cases e : i = r
    · subst e; simp
    · by_cases q : i < r
      · simp [e, q, show i < r + 1 by omega]
      · simp [e, q, show ¬ i < r + 1 by omega]
  · intro i hi
    by_cases e : i = r
    · simp only [if_pos e]
      refine (h.hg.setOther (rowIs_ne h.hg h.h (by decide)) _).congr ?_
      intro q _
      simp [spanC]
    · simp only [if_neg e]
      have := h.rs i (by omega)
      exact this.setOther (rowIs_ne this h.h (by decide)) _
  · intro i hi
    by_cases e : i = r
    · simp only [if_pos e]
      refine (hk.setOther (rowIs_ne hk h.h (by decide)) _).congr ?_
      intro q _
      simp [haveC]
    · simp only [if_neg e]
      have := h.ss i (by omega)
      exact this.setOther (rowIs_ne this h.h (by decide)) _
  · intro i hi
    by_cases e : i = r
    · simp only [if_pos e]; exact h.gb
    · simp only [if_neg e]; exact h.rb i (by omega)
  · intro i hi
    by_cases e : i = r
    · simp only [if_pos e]; exact kb
    · simp only [if_neg e]; exact h.sb i (by omega)
  · intro i j hij hj
    simp only [if_neg (show i ≠ r by omega)]
    by_cases e : j = r
    · simp only [if_pos e]; exact h.gi i (by omega)
    · simp only [if_neg e]; exact h.ri i j hij (by omega)
  · intro i j hij hj
    simp only [if_neg (show i ≠ r by omega)]
    by_cases e : j = r
    · simp only [if_pos e]; exact ki i (by omega)
    · simp only [if_neg e]; exact h.si i j hij (by omega)

theorem Tab.rne (h : Tab B w w' n d O H r R S c) {i j : Nat} (hi : i < r) (hj : j < r) (e : i ≠ j) : R i ≠ R j := by
  rcases Nat.lt_or_gt_of_ne e with q | q
  · have := h.ri i j q hj; omega
  · have := h.ri j i q hi; omega
theorem Tab.sne (h : Tab B w w' n d O H r R S c) {i j : Nat} (hi : i < r) (hj : j < r) (e : i ≠ j) : S i ≠ S j := by
  rcases Nat.lt_or_gt_of_ne e with q | q
  · have := h.si i j q hj; omega
  · have := h.si j i q hi; omega

/-- a bound there is none of -/
theorem Tab.skip (h : Tab B w w' n d O H r R S c) {i : Nat} (hd : d i (c i) = Noon.far) : Tab B w w' n d O H r R S (fun j => if j = i then c i + 1 else c j) := by
  refine { h with since := h.since, o := h.o, h := h.h, rs := fun j hj => ?_, ss := fun j hj => ?_ }
  · by_cases e : j = i
    · subst e
      simp only [if_true]
      refine (h.rs j hj).congr ?_
      intro q _
      unfold spanC
      by_cases q1 : q / 2 < c j
      · simp [q1, show q / 2 < c j + 1 by omega]
      · by_cases q2 : q / 2 = c j
        · simp [q2, hd]
        · simp [q1, show ¬ q / 2 < c j + 1 by omega]
    · simp only [if_neg e]; exact h.rs j hj
  · by_cases e : j = i
    · subst e
      simp only [if_true]
      refine (h.ss j hj).congr ?_
      intro q _
      unfold haveC
      by_cases q1 : q < c j
      · simp [q1, show q < c j + 1 by omega]
      · by_cases q2 : q = c j
        · simp [q2, hd]
        · simp [q1, show ¬ q < c j + 1 by omega]
    · simp only [if_neg e]; exact h.ss j hj

/-- a bound -/
theorem Tab.put (h : Tab B w w' n d O H r R S c) {i : Nat} (hi : i < r) (hd : d i (c i) < Noon.far) :
    Tab B w (((w'.setCell ⟨R i, c i * 2, none⟩ (.int .i64 (-(d (c i) i)))).setCell ⟨R i, c i * 2 + 1, none⟩ (.int .i64 (d i (c i)))).setCell ⟨S i, c i, none⟩ (.bool true)) n d O H r R S (fun j => if j = i then c i + 1 else c j) := by
  have r1 := h.rs i hi
  have s1 := h.ss i hi
  have nr : S i ≠ R i := rowIs_ne s1 r1 (by decide)
  refine { h with since := ((h.since.setCell (h.rb i hi) _).setCell (h.rb i hi) _).setCell (h.sb i hi) _, o := ?_, h := ?_, rs := fun j hj => ?_, ss := fun j hj => ?_ }
  · exact ((h.o.setOther (rowIs_ne h.o r1 (by decide)) _).setOther (rowIs_ne h.o r1 (by decide)) _).setOther (rowIs_ne h.o s1 (by decide)) _
  · exact ((h.h.setOther (rowIs_ne h.h r1 (by decide)) _).setOther (rowIs_ne h.h r1 (by decide)) _).setOther (rowIs_ne h.h s1 (by decide)) _
  · by_cases e : j = i
    · subst e
      simp only [if_true]
      refine (((r1.set (c j * 2) _).set (c j * 2 + 1) _).setOther (Ne.symm nr) _).congr ?_
      intro q _
      unfold spanC
      by_cases q0 : q = c j * 2
      · subst q0
        simp [hd, show c j * 2 / 2 = c j by omega]
      · by_cases q1 : q = c j * 2 + 1
        · subst q1
          simp [hd, show (c j * 2 + 1) / 2 = c j by omega]
        · by_cases q2 : q / 2 < c j
          · simp [q0, q1, q2, show q / 2 < c j + 1 by omega]
          · simp [q0, q1, q2, show ¬ q / 2 < c j + 1 by omega]
    · simp only [if_neg e]
      have := h.rs j hj
      have ne := h.rne hj hi e
      exact ((this.setOther ne _).setOther ne _).setOther (rowIs_ne this s1 (by decide)) _
  · by_cases e : j = i
    · subst e
      simp only [if_true]
      refine ((((s1.setOther nr _).setOther nr _).set (c j) _)).congr ?_
      intro q _
      unfold haveC
      by_cases q0 : q = c j
      · subst q0; simp [hd]
      · by_cases q2 : q < c j
        · simp [q0, q2, show q < c j + 1 by omega]
        · simp [q0, q2, show ¬ q < c j + 1 by omega]
    · simp only [if_neg e]
      have := h.ss j hj
      exact ((this.setOther (rowIs_ne this r1 (by decide)) _).setOther (rowIs_ne this r1 (by decide)) _).setOther (h.sne hj hi e) _
end
end Go.Proofs.Ytjohngeaifgcgaa

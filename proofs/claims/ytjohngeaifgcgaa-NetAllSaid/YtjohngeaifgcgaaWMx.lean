/- The matrix of bounds as it lies in memory. -/
import Derived.Test.YtjohngeaifgcgaaWLeaf
import Derived.Test.YtjohngeaifgcgaaWKit
import Derived.Test.YtjohngeaifgcgaaWLast
import Derived.Test.YtjohngeaifgcgaaPBounds
import Derived.Deep.OwnRows
import Derived.Deep.LoopGhost
namespace Go.Proofs.Ytjohngeaifgcgaa
open Go.RowKit
open Noon (Mat Edg)

theorem infoInt : (Try.prog.info? 3).map (fun i => (i.zero, i.size, i.bytes)) = some (some (.int .i64 0), 1, 8) := by kernel_rfl
theorem infoInts : (Try.prog.info? 22).map (fun i => (i.zero, i.size, i.bytes)) = some (some (.slice none 0 0), 1, 24) := by kernel_rfl

/-- row i of a matrix, as a slice -/
def rowV (N i n : Nat) : Value := .slice (some ⟨N + 2 + i, 0, none⟩) n n

/-- a matrix of n by n: its slices at block N, the variable that holds it at N + 1, its rows behind -/
structure Mx (N : Nat) (w w' : World) (n : Nat) (d : Mat) : Prop where
  since : w.Since N w'
  size : N + 2 + n ≤ w'.heap.size
  var : w'.rowIs (N + 1) 120 1 (fun _ => .slice (some ⟨N, 0, none⟩) n n)
  top : w'.rowIs N 22 n (fun i => rowV N i n)
  row : ∀ i, i < n → w'.rowIs (N + 2 + i) 3 n (fun k => .int .i64 (d i k))

section
variable {N : Nat} {w w' : World} {n : Nat} {d : Mat}
theorem Mx.alloc (h : Mx N w w' n d) (o : Obj) : Mx N w (w'.alloc o) n d :=
  ⟨h.since.alloc (by have := h.size; omega) _, by have := h.size; simp; omega, h.var.alloc _, h.top.alloc _, fun i hi => (h.row i hi).alloc _⟩
theorem Mx.drew (h : Mx N w w' n d) : Mx N w w'.drew n d := ⟨h.since.drew, h.size, h.var, h.top, h.row⟩
theorem Mx.set (h : Mx N w w' n d) {i : Nat} (hi : i < n) (k : Nat) (v : Int) : Mx N w (w'.setCell ⟨N + 2 + i, k, none⟩ (.int .i64 v)) n (Noon.upd d i k v) := by
  refine ⟨h.since.setCell (by show N ≤ N + 2 + i; omega) _, by have := h.size; simpa using this, h.var.setOther (by show N + 1 ≠ N + 2 + i; omega) _, h.top.setOther (by show N ≠ N + 2 + i; omega) _, ?_⟩
  intro j hj
  by_cases e : j = i
  · subst e
    refine ((h.row j hj).set k (.int .i64 v)).congr ?_
    intro m _
    unfold Noon.upd
    by_cases q : m = k
    · simp [q]
    · simp [q]
  · refine ((h.row j hj).setOther (by show N + 2 + j ≠ N + 2 + i; omega) _).congr ?_
    intro m _
    unfold Noon.upd
    simp [e]
/-- a store past the matrix -/
theorem Mx.far (h : Mx N w w' n d) {a : Addr} (ha : N + 2 + n ≤ a.block) (v : Value) : Mx N w (w'.setCell a v) n d :=
  ⟨h.since.setCell (by omega) _, by have := h.size; simpa using this, h.var.setOther (by omega) _, h.top.setOther (by omega) _, fun i hi => (h.row i hi).setOther (by omega) _⟩
theorem Mx.below (h : Mx N w w' n d) {w2 : World} (hb : Below w'.heap.size w' w2) : Mx N w w2 n d := by
  have e : ∀ b, b < w'.heap.size → w2.heap[b]? = w'.heap[b]? := fun b hl => hb.block b hl
  have hs := h.size
  exact ⟨h.since.trans ⟨hb.os, hb.tape, hb.output, hb.size, fun k hk => e k (by omega)⟩, Nat.le_trans hs hb.size, h.var.of_block (e _ h.var.lt), h.top.of_block (e _ h.top.lt), fun i hi => (h.row i hi).of_block (e _ (h.row i hi).lt)⟩
theorem Mx.v (h : Mx N w w' n d) : w'.cell? ⟨N + 1, 0, none⟩ = some (.slice (some ⟨N, 0, none⟩) n n) := h.var.cell (by omega)
theorem Mx.t (h : Mx N w w' n d) {i : Nat} (hi : i < n) : w'.cell? ⟨N, i, none⟩ = some (.slice (some ⟨N + 2 + i, 0, none⟩) n n) := h.top.cell hi
theorem Mx.c (h : Mx N w w' n d) {i k : Nat} (hi : i < n) (hk : k < n) : w'.cell? ⟨N + 2 + i, k, none⟩ = some (.int .i64 (d i k)) := (h.row i hi).cell hk
theorem Mx.f (h : Mx N w w' n d) {i : Nat} (hi : i < n) (k : Nat) : w'.frozen? ⟨N + 2 + i, k, none⟩ = false := (h.row i hi).frozen k
theorem Mx.to (h : Mx N w w' n d) {e : Mat} (he : ∀ i k, i < n → k < n → d i k = e i k) : Mx N w w' n e :=
  ⟨h.since, h.size, h.var, h.top, fun i hi => (h.row i hi).congr fun k hk => by rw [he i k hi hk]⟩
end

/-- r rows are made -/
structure MxPart (N : Nat) (w w' : World) (n r : Nat) : Prop where
  since : w.Since N w'
  size : w'.heap.size = N + 2 + r
  var : w'.rowIs (N + 1) 120 1 (fun _ => .slice (some ⟨N, 0, none⟩) n n)
  top : w'.rowIs N 22 n (fun i => if i < r then rowV N i n else .slice none 0 0)
  row : ∀ i, i < r → w'.rowIs (N + 2 + i) 3 n (fun k => .int .i64 (Noon.mat0 i k))
/-- .. and c cells of the next one -/
structure MxCur (N : Nat) (w w' : World) (n r c : Nat) : Prop where
  since : w.Since N w'
  size : w'.heap.size = N + 2 + r + 1
  var : w'.rowIs (N + 1) 120 1 (fun _ => .slice (some ⟨N, 0, none⟩) n n)
  top : w'.rowIs N 22 n (fun i => if i < r + 1 then rowV N i n else .slice none 0 0)
  row : ∀ i, i < r → w'.rowIs (N + 2 + i) 3 n (fun k => .int .i64 (Noon.mat0 i k))
  cur : w'.rowIs (N + 2 + r) 3 n (fun k => if k < c then .int .i64 (Noon.mat0 r k) else .int .i64 0)

section
variable {w w' : World} {n r c : Nat}
theorem MxPart.start (w : World) (n : Nat) : MxPart w.heap.size w ((w.alloc (.cells (madeCells #[.slice none 0 0] n) 22)).alloc (.cells #[.slice (some ⟨w.heap.size, 0, none⟩) n n] 120)) n 0 := by
  refine ⟨((World.Since.refl _ _).alloc (Nat.le_refl _) _).alloc (by simp) _, by simp, ?_, ((World.rowIs_made w _ n 22).alloc _).congr (fun i _ => by simp), fun i hi => absurd hi (by omega)⟩
  have := World.rowIs_alloc (w.alloc (.cells (madeCells #[.slice none 0 0] n) 22)) #[.slice (some ⟨w.heap.size, 0, none⟩) n n] 120 (fun _ => .slice (some ⟨w.heap.size, 0, none⟩) n n) (fun i hi => by
    simp at hi; subst hi; rfl)
  simpa using this
theorem MxPart.next {N : Nat} (h : MxPart N w w' n r) : MxCur N w ((w'.alloc (.cells (madeCells #[.int .i64 0] n) 3)).setCell ⟨N, r, none⟩ (rowV N r n)) n r 0 := by
  have hs := h.size
  have hnew := World.rowIs_made w' (.int .i64 0) n 3
  rw [hs] at hnew
  refine ⟨(h.since.alloc (by omega) _).setCell (Nat.le_refl _) _, by simp [hs], (h.var.alloc _).setOther (by show N + 1 ≠ N; omega) _, ((h.top.alloc _).set r _).congr ?_, fun i hi => ((h.row i hi).alloc _).setOther (by show N + 2 + i ≠ N; omega) _,
    (hnew.setOther (by show N + 2 + r ≠ N; omega) _).congr (fun i _ => by simp)⟩
  intro j _
  by_cases e : j = r
  · subst e; simp
  · by_cases q : j < r
    · simp [e, q, show j < r + 1 by omega]
    · simp [e, q, show ¬ j < r + 1 by omega]
theorem MxCur.put {N : Nat} (h : MxCur N w w' n r c) (hne : r ≠ c) : MxCur N w (w'.setCell ⟨N + 2 + r, c, none⟩ (.int .i64 1152921504606846976)) n r (c + 1) := by
  refine ⟨h.since.setCell (by show N ≤ N + 2 + r; omega) _, by simp [h.size], h.var.setOther (by show N + 1 ≠ N + 2 + r; omega) _, h.top.setOther (by show N ≠ N + 2 + r; omega) _, fun i hi => (h.row i hi).setOther (by show N + 2 + i ≠ N + 2 + r; omega) _,
    (h.cur.set c _).congr ?_⟩
  intro j _
  by_cases e : j = c
  · subst e; simp [Noon.mat0, Noon.far, hne]
  · by_cases q : j < c
    · simp [e, q, show j < c + 1 by omega]
    · simp [e, q, show ¬ j < c + 1 by omega]
theorem MxCur.skip {N : Nat} (h : MxCur N w w' n r r) : MxCur N w w' n r (r + 1) := by
  refine ⟨h.since, h.size, h.var, h.top, h.row, h.cur.congr ?_⟩
  intro j _
  by_cases e : j = r
  · subst e; simp [Noon.mat0]
  · by_cases q : j < r
    · simp [q, show j < r + 1 by omega]
    · simp [q, show ¬ j < r + 1 by omega]
theorem MxCur.done {N : Nat} (h : MxCur N w w' n r n) : MxPart N w w' n (r + 1) := by
  refine ⟨h.since, by rw [h.size]; omega, h.var, h.top, ?_⟩
  intro i hi
  by_cases e : i = r
  · subst e; exact h.cur.congr fun k hk => by simp [hk]
  · exact h.row i (by omega)
theorem MxPart.full {N : Nat} (h : MxPart N w w' n n) : Mx N w w' n Noon.mat0 :=
  ⟨h.since, Nat.le_of_eq h.size.symm, h.var, h.top.congr fun i hi => by simp [hi], h.row⟩
end

/-- edges that can be read at a slice's address -/
def edgeC (e : Edg) : List Value := [.int .i64 e.a, .int .i64 e.b, .int .i64 e.lo, .int .i64 e.hi]
structure EdgesAt (w : World) (A : Option Addr) (g : Nat) (l : List Edg) : Prop where
  addr : 0 < l.length → A = some ⟨g, 0, none⟩
  c0 : ∀ k e, l[k]? = some e → w.cell? ⟨g, k * 4, none⟩ = some (.int .i64 e.a)
  c1 : ∀ k e, l[k]? = some e → w.cell? ⟨g, k * 4 + 1, none⟩ = some (.int .i64 e.b)
  c2 : ∀ k e, l[k]? = some e → w.cell? ⟨g, k * 4 + 2, none⟩ = some (.int .i64 e.lo)
  c3 : ∀ k e, l[k]? = some e → w.cell? ⟨g, k * 4 + 3, none⟩ = some (.int .i64 e.hi)

theorem EdgesAt.same {w w' : World} {A : Option Addr} {g : Nat} {l : List Edg} (h : EdgesAt w A g l) (he : 0 < l.length → ∀ o, w'.cell? ⟨g, o, none⟩ = w.cell? ⟨g, o, none⟩) : EdgesAt w' A g l := by
  have hl : ∀ k e, l[k]? = some e → 0 < l.length := fun k e hk => by have := (List.getElem?_eq_some_iff.1 hk).1; omega
  exact ⟨h.addr, fun k e hk => (he (hl k e hk) _).trans (h.c0 k e hk), fun k e hk => (he (hl k e hk) _).trans (h.c1 k e hk), fun k e hk => (he (hl k e hk) _).trans (h.c2 k e hk), fun k e hk => (he (hl k e hk) _).trans (h.c3 k e hk)⟩
theorem EdgesAt.lt {w : World} {A : Option Addr} {g : Nat} {l : List Edg} (h : EdgesAt w A g l) (hl : 0 < l.length) : g < w.heap.size := by
  obtain ⟨e, he⟩ : ∃ e, l[0]? = some e := ⟨_, List.getElem?_eq_getElem hl⟩
  exact World.block_lt_of_cell? w _ (h.c0 0 e he)
theorem EdgesAt.since {w w' : World} {A : Option Addr} {g B : Nat} {l : List Edg} (h : EdgesAt w A g l) (hs : w.Since B w') (hB : w.heap.size ≤ B) : EdgesAt w' A g l :=
  h.same fun hl o => hs.cell (a := ⟨g, o, none⟩) (Nat.lt_of_lt_of_le (h.lt hl) hB)
end Go.Proofs.Ytjohngeaifgcgaa

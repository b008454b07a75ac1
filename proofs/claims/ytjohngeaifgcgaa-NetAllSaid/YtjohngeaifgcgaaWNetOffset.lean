/- What a net tells of two clocks. -/
import Derived.Test.YtjohngeaifgcgaaWNetEdges
import Derived.Test.YtjohngeaifgcgaaWBetween
namespace Go.Proofs.Ytjohngeaifgcgaa
open Go.RowKit
open Noon (Kn Edg St)

theorem edgesC_get {l : List Edg} {k : Nat} {e : Edg} (h : l[k]? = some e) (q : Nat) (hq : q < 4) : (edgesC l)[k * 4 + q]? = (edgeC e)[q]? := by
  induction l generalizing k with
  | nil => simp at h
  | cons a l ih =>
    have e0 : edgesC (a :: l) = edgeC a ++ edgesC l := rfl
    rw [e0]
    cases k with
    | zero =>
      simp only [List.getElem?_cons_zero, Option.some.injEq] at h
      subst h
      rw [List.getElem?_append_left (by simp [edgeC]; omega), Nat.zero_mul, Nat.zero_add]
    | succ k =>
      simp only [List.getElem?_cons_succ] at h
      rw [List.getElem?_append_right (by simp [edgeC]; omega), show (k + 1) * 4 + q - (edgeC a).length = k * 4 + q by simp [edgeC]; omega]
      exact ih h

theorem addr_add (g j : Nat) : (⟨g, 0, none⟩ : Addr).add j = ⟨g, j, none⟩ := by cases j <;> simp [Addr.add]

theorem betweenV_is (d : Noon.Mat) (a b : Nat) : ∃ x y ev, betweenV d a b = .tuple #[.agg #[.int .i64 x, .int .i64 y], ev] := by
  unfold betweenV
  split
  · exact ⟨_, _, _, rfl⟩
  · exact ⟨_, _, _, rfl⟩

theorem edgesAt_of_own {w : World} {B : Nat} {v : Value} {l : List Edg} (h : w.ownsRow B 46 4 v l.length (edgesC l)) : ∃ A g c, v = .slice A l.length c ∧ EdgesAt w A g l := by
  rcases h.2 with ⟨rfl, hnil⟩ | ⟨g, cap, cur, rfl, gb, _⟩
  · have : l = [] := List.length_eq_zero_iff.1 hnil
    subst this
    exact ⟨none, 0, 0, rfl, fun h => absurd h (by simp), fun k e he => by simp at he, fun k e he => by simp at he, fun k e he => by simp at he, fun k e he => by simp at he⟩
  · have hc := World.ownsRow.cells h (g := g) rfl
    have key : ∀ k e, l[k]? = some e → ∀ q u, q < 4 → (edgeC e)[q]? = some u → w.cell? ⟨g, k * 4 + q, none⟩ = some u := by
      intro k e he q u hq hu
      have := hc (k * 4 + q) u (by rw [edgesC_get he q hq]; exact hu)
      rwa [addr_add] at this
    exact ⟨_, g, cap, rfl, fun _ => rfl, fun k e he => key k e he 0 _ (by omega) rfl, fun k e he => key k e he 1 _ (by omega) rfl, fun k e he => key k e he 2 _ (by omega) rfl, fun k e he => key k e he 3 _ (by omega) rfl⟩

theorem node_no (n : Nat) (i : Int) (w : World) (h : ¬ (0 ≤ i ∧ i < n)) : Calls Try.prog 28 #[.int .i64 n, .int .i64 i] w fun e w' => e = .returned (.bool false) ∧ w = w' := by
  have := node_any n i w
  rwa [show nodeB n i = false by simp only [nodeB, Bool.and_eq_false_iff, decide_eq_false_iff_not]; omega] at this
theorem node_yes' (n : Nat) (i : Int) (w : World) (h : 0 ≤ i ∧ i < n) : Calls Try.prog 28 #[.int .i64 n, .int .i64 i] w fun e w' => e = .returned (.bool true) ∧ w = w' := by
  have := node_any n i w
  rwa [show nodeB n i = true by simp [nodeB]; omega] at this

section
variable {w w' : World} {base : Nat} {m : NetMem} {s : St}

set_option maxRecDepth 100000 in
set_option maxHeartbeats 2000000 in
theorem netOffset (h : NetAt w base m s) (hg : Noon.Good s) {a b : Nat} (ha : a < s.n) (hb : b < s.n) :
    Calls Try.prog 9 #[.pointer (some ⟨m.gb, 0, none⟩), .int .i64 a, .int .i64 b] w fun e w' => e = .returned (betweenV (Noon.closedM s.n s.edges) a b) ∧ Below w.heap.size w w' := by
  have n1 := hg.n1
  have n2 := hg.n2
  obtain ⟨pb, nc, hnv, _⟩ := h.slice n1
  have c1 : w.cell? ⟨m.gb, 1, none⟩ = some (.slice (some ⟨pb, 0, none⟩) s.n nc) := (Blk.at h.gblk 1).trans (by rw [← hnv]; rfl)
  have ltg := Blk.lt h.gblk
  have H := Lib.hid h
  have HG := Lib.hid hg
  have HN1 := Lib.hid (fun w => node_yes s.n a w ha)
  have HN2 := Lib.hid (fun w => node_yes s.n b w hb)
  have HV := Lib.hid hnv
  have HBT := Lib.hid (fun A g c w hA => between_ok s.n A g c a b s.edges w n1 n2 ha hb (by have := s.edges_le n2; omega) hg.edge_ok s.clock hg.fit (fun i k => by have := hg.clock_bound i; have := hg.clock_bound k; omega) hA)
  clear h hg hnv
  obtain ⟨x, y, ev, hr⟩ := betweenV_is (Noon.closedM s.n s.edges) a b
  rw [hr] at HBT ⊢
  clear hr
  go_enter Try.func9, Try.ntmps9
  go_wp2_with fail
  refine (HN1.out _).mono ?_
  rintro e w' ⟨rfl, rfl⟩
  go_wp2_with fail
  refine (HN2.out _).mono ?_
  rintro e w' ⟨rfl, rfl⟩
  go_wp2_with fail
  have H0 := H.out.below (Below.toAlloc (.cells #[.int .i64 0, .int .i64 0] 34))
  refine (netEdges H0 HG.out).mono ?_
  rintro e w1 ⟨v, rfl, hown, hb1⟩
  obtain ⟨A, g, c, rfl, hA⟩ := edgesAt_of_own hown
  have HA := Lib.hid hA
  have HB1 := Lib.hid hb1
  have hz1 := hb1.size
  simp only [World.size_alloc] at hz1
  have c1' : w1.cell? ⟨m.gb, 1, none⟩ = some (.slice (some ⟨pb, 0, none⟩) s.n nc) := (Blk.at (H0.below hb1).gblk 1).trans (by rw [← HV.out]; rfl)
  have HR1 : Hid (Blk w1 w.heap.size #[.int .i64 0, .int .i64 0] 34) := Lib.hid (Blk.below (heap_alloc_new _ _) hb1)
  clear hA hb1 hown H0
  go_wp2_with fail
  refine (HBT.out A g c _ HA.out).mono ?_
  rintro e w2 ⟨rfl, hb2⟩
  have HR2 : Hid (Blk w2 w.heap.size #[.int .i64 0, .int .i64 0] 34) := Lib.hid (Blk.below HR1.out hb2)
  have r0 : w2.cell? ⟨w.heap.size, 0, none⟩ = some (.int .i64 0) := (Blk.at HR2.out 0).trans rfl
  have r1 : w2.cell? ⟨w.heap.size, 1, none⟩ = some (.int .i64 0) := (Blk.at HR2.out 1).trans rfl
  have r2 := Blk.free HR2.out 0
  have r3 := Blk.free HR2.out 1
  have HL : Hid (Below w.heap.size w w2) := Lib.hid ((((Below.refl _ w).alloc (Nat.le_refl _) _).trans (HB1.out.mono (by simp))).trans (hb2.mono (by omega)))
  clear hb2
  go_wp2
  refine bodyPost_ret (res_cell_tmp (g := w.heap.size) (t := 34) (cs := #[.int .i64 x, .int .i64 y]) rfl _ rfl (Blk.set (Blk.set HR2.out 0 _) 1 _) Try.underlying34 rfl (by kernel_rfl)) rfl ?_
  exact ⟨rfl, (HL.out.setCell (by simp) _).setCell (by simp) _⟩

set_option maxRecDepth 100000 in
set_option maxHeartbeats 2000000 in
/-- a number that is no clock's -/
theorem netOffset_out (h : NetAt w base m s) (hg : Noon.Good s) (a b : Int) (hab : ¬ (0 ≤ a ∧ a < s.n) ∨ ¬ (0 ≤ b ∧ b < s.n)) :
    Calls Try.prog 9 #[.pointer (some ⟨m.gb, 0, none⟩), .int .i64 a, .int .i64 b] w fun e w' => e = .returned (.tuple #[.agg #[.int .i64 0, .int .i64 0], errV 1]) ∧ Below w.heap.size w w' := by
  have n1 := hg.n1
  obtain ⟨pb, nc, hnv, _⟩ := h.slice n1
  have c1 : w.cell? ⟨m.gb, 1, none⟩ = some (.slice (some ⟨pb, 0, none⟩) s.n nc) := (Blk.at h.gblk 1).trans (by rw [← hnv]; rfl)
  have ltg := Blk.lt h.gblk
  have HR : Hid (Blk (w.alloc (.cells #[.int .i64 0, .int .i64 0] 34)) w.heap.size #[.int .i64 0, .int .i64 0] 34) := Lib.hid (heap_alloc_new _ _)
  clear h hg hnv
  by_cases ha : 0 ≤ a ∧ a < s.n
  · have hb : ¬ (0 ≤ b ∧ b < s.n) := by rcases hab with h | h; exact absurd ha h; exact h
    have HN1 := Lib.hid (fun w => node_yes' s.n a w ha)
    have HN2 := Lib.hid (fun w => node_no s.n b w hb)
    clear hab ha hb
    go_enter Try.func9, Try.ntmps9
    go_wp2_with fail
    refine (HN1.out _).mono ?_
    rintro e w' ⟨rfl, rfl⟩
    go_wp2_with fail
    refine (HN2.out _).mono ?_
    rintro e w' ⟨rfl, rfl⟩
    go_wp2
    refine bodyPost_ret (res_cell_tmp (g := w.heap.size) (t := 34) (cs := #[.int .i64 0, .int .i64 0]) rfl _ rfl HR.out Try.underlying34 rfl (by kernel_rfl)) rfl ?_
    exact ⟨rfl, Below.toAlloc _⟩
  · have HN1 := Lib.hid (fun w => node_no s.n a w ha)
    clear hab ha
    go_enter Try.func9, Try.ntmps9
    go_wp2_with fail
    refine (HN1.out _).mono ?_
    rintro e w' ⟨rfl, rfl⟩
    go_wp2
    refine bodyPost_ret (res_cell_tmp (g := w.heap.size) (t := 34) (cs := #[.int .i64 0, .int .i64 0]) rfl _ rfl HR.out Try.underlying34 rfl (by kernel_rfl)) rfl ?_
    exact ⟨rfl, Below.toAlloc _⟩
end
end Go.Proofs.Ytjohngeaifgcgaa

/- What a node does when it hears an answer of a true clock. -/
import Derived.Test.YtjohngeaifgcgaaWNode
namespace Go.Proofs.Ytjohngeaifgcgaa
open Go.RowKit
open Noon (Kn)
open Go.Proofs.YtjohngeaifgcgaaW.PrintLast

/-- what is known of f then -/
def Learned (w : World) (nb mb id nodes : Nat) (ppm here : Int) (of : Nat → Option Kn) (f : Nat) (k : Kn) (w' : World) : Prop :=
  Blk w' nb (nodeC id nodes ppm here mb) 108 ∧ MapIs w' mb (ofPut of f k) ∧ Keep (fun x => x = nb ∨ x = mb) w w'

theorem zeroKnown (w : World) : (zeroValue 112).run Try.prog w = .ok (.agg #[.int .i64 0, .int .i64 0, .int .i64 0]) w := by kernel_rfl

theorem MapIs.alloc {w : World} {mb : Nat} {of : Nat → Option Kn} (h : MapIs w mb of) (o : Obj) : MapIs (w.alloc o) mb of := h.keep ((Keep.refl (fun _ => False) w).alloc o) (fun h => h)
theorem MapIs.drew {w : World} {mb : Nat} {of : Nat → Option Kn} (h : MapIs w mb of) : MapIs w.drew mb of := h
theorem MapIs.drewN {w : World} {mb : Nat} {of : Nat → Option Kn} (h : MapIs w mb of) (n : Nat) : MapIs (w.drewN n) mb of := h
theorem MapIs.far {w : World} {mb : Nat} {of : Nat → Option Kn} (h : MapIs w mb of) {p : Addr} (hp : mb ≠ p.block) (u : Value) : MapIs (w.setCell p u) mb of :=
  h.keep ((Keep.refl (fun k => k = p.block) w).setCell (.inl rfl) u) hp

set_option maxRecDepth 100000 in
set_option maxHeartbeats 2000000 in
/-- an answer of a node of which nothing is known yet -/
theorem hear_new (nb mb id nodes f : Nat) (ppm h0 here t1 t2 t lo hi : Int) (of : Nat → Option Kn) (w : World) (hn : Blk w nb (nodeC id nodes ppm h0 mb) 108) (hm : MapIs w mb of) (hof : of f = none)
    (hf : f < nodes) (hne : f ≠ id) (b1 : 0 ≤ here) (b2 : h0 ≤ here) (b3 : here ≤ 1000000000000)
    (ho : ∀ w, Calls Try.prog 21 #[.agg #[.int .i64 t1, .int .i64 t2, .int .i64 t, .int .i64 here], .int .i64 ppm] w fun e w' => e = .returned (.tuple #[.agg #[.int .i64 lo, .int .i64 hi], .nilIface]) ∧ Below w.heap.size w w') :
    Calls Try.prog 26 #[.pointer (some ⟨nb, 0, none⟩), .agg #[.int .i64 f, .int .i64 id, .bool true, .int .i64 t1, .int .i64 t2, .int .i64 t], .int .i64 here] w fun e w' =>
      e = .returned (.tuple #[.bool true, .nilIface]) ∧ Learned w nb mb id nodes ppm here of f ⟨lo, hi, here⟩ w' := by
  have h0' := hn.at 0
  have h1' := hn.at 1
  have h2' := hn.at 2
  have h3' := hn.at 3
  simp only [nodeC, List.getElem?_toArray, List.getElem?_cons_zero, List.getElem?_cons_succ] at h0' h1' h2' h3'
  have l1 := World.block_lt_of_cell? w _ h3'
  have l2 := hm.lt
  have hmn := hm.ne hn
  have HN := Lib.hid hn
  have HM := Lib.hid hm
  have HO := Lib.hid ho
  have HMN := Lib.hid hmn
  have HOF := Lib.hid hof
  clear hn hm ho hmn hof
  have q1 : ((f : Int) == (id : Int)) = false := by simp; omega
  have q2 : ((id : Int) != (id : Int)) = false := by simp
  have q3 : nodeB nodes f = true := by simp [nodeB]; omega
  have q4 : ((f : Int) != (id : Int)) = true := by simp; omega
  have HB := Lib.hid (fun w h => back_no nb h0 here w h b1 b2 b3)
  have HF := Lib.hid (fun w => (by rw [← q3]; exact node_any nodes f w : Calls Try.prog 28 #[.int .i64 nodes, .int .i64 f] w fun e w' => e = .returned (.bool true) ∧ w = w'))
  clear q3
  go_enter Try.func26, Try.ntmps26
  go_wp2_with fail
  refine (HB.out _ (by go_simp)).mono ?_
  rintro e w' ⟨rfl, rfl⟩
  go_wp2_with fail
  go_quiet ((go_at_call 28; exact quiet_same (HF.out _)))
  go_wp2_with fail
  refine start_ (n := 19) (S := fun w' => w'.cell? ⟨nb, 2, none⟩ = some (.int .i64 ppm) ∧ w'.cell? ⟨w.heap.size, 3, none⟩ = some (.int .i64 t1) ∧ w'.cell? ⟨w.heap.size, 4, none⟩ = some (.int .i64 t2) ∧ w'.cell? ⟨w.heap.size, 5, none⟩ = some (.int .i64 t)) (ds := []) #[false, false, false, false, false, false, false, false, false, false, false, false, false, false, false, false, false, false, false] (by kernel_rfl) rfl rfl (⟨by go_simp, by go_simp, by go_simp, by go_simp⟩) (fun hHeld => ?_)
  refine pure_ (i := 0) (N := some 55) (v := ?_) (a' := ?_) #[true, false, false, false, false, false, false, false, false, false, false, false, false, false, false, false, false, false, false] rfl rfl (by kernel_rfl) (fun _ _ _ h => h) (Or.inl ⟨by rfl, ?_⟩) ?_ ?_
  rotate_left
  · intro w'; go_simp; with_reducible rfl
  rotate_left
  · go_simp; rfl
  refine take_ (i := 1) (N := some 56) (v := ?_) (a' := ?_) #[true, true, false, false, false, false, false, false, false, false, false, false, false, false, false, false, false, false, false] rfl rfl (by kernel_rfl) (fun _ _ _ h => h) (Or.inl ⟨by rfl, ?_⟩) hHeld ?_ ?_
  rotate_left
  · rintro w' ⟨s0, s1, s2, s3⟩; go_simp; with_reducible rfl
  rotate_left
  · go_simp; rfl
  refine pure_ (i := 2) (N := some 57) (v := ?_) (a' := ?_) #[true, true, true, false, false, false, false, false, false, false, false, false, false, false, false, false, false, false, false] rfl rfl (by kernel_rfl) (fun _ _ _ h => h) (Or.inl ⟨by rfl, ?_⟩) ?_ ?_
  rotate_left
  · intro w'; go_simp; with_reducible rfl
  rotate_left
  · go_simp; rfl
  refine take_ (i := 3) (N := some 58) (v := ?_) (a' := ?_) #[true, true, true, true, false, false, false, false, false, false, false, false, false, false, false, false, false, false, false] rfl rfl (by kernel_rfl) (fun _ _ _ h => h) (Or.inl ⟨by rfl, ?_⟩) hHeld ?_ ?_
  rotate_left
  · rintro w' ⟨s0, s1, s2, s3⟩; go_simp; with_reducible rfl
  rotate_left
  · go_simp; rfl
  refine pure_ (i := 4) (N := some 59) (v := ?_) (a' := ?_) #[true, true, true, true, true, false, false, false, false, false, false, false, false, false, false, false, false, false, false] rfl rfl (by kernel_rfl) (fun _ _ _ h => h) (Or.inl ⟨by rfl, ?_⟩) ?_ ?_
  rotate_left
  · intro w'; go_simp; with_reducible rfl
  rotate_left
  · go_simp; rfl
  refine take_ (i := 5) (N := some 60) (v := ?_) (a' := ?_) #[true, true, true, true, true, true, false, false, false, false, false, false, false, false, false, false, false, false, false] rfl rfl (by kernel_rfl) (fun _ _ _ h => h) (Or.inl ⟨by rfl, ?_⟩) hHeld ?_ ?_
  rotate_left
  · rintro w' ⟨s0, s1, s2, s3⟩; go_simp; with_reducible rfl
  rotate_left
  · go_simp; rfl
  refine pure_ (i := 6) (N := some 61) (v := ?_) (a' := ?_) #[true, true, true, true, true, true, true, false, false, false, false, false, false, false, false, false, false, false, false] rfl rfl (by kernel_rfl) (fun _ _ _ h => h) (Or.inl ⟨by rfl, ?_⟩) ?_ ?_
  rotate_left
  · intro w'; go_simp; with_reducible rfl
  rotate_left
  · go_simp; rfl
  refine pure_ (i := 7) (N := some 62) (v := ?_) (a' := ?_) #[true, true, true, true, true, true, true, true, false, false, false, false, false, false, false, false, false, false, false] rfl rfl (by kernel_rfl) (fun _ _ _ h => h) (Or.inl ⟨by rfl, ?_⟩) ?_ ?_
  rotate_left
  · intro w'; go_simp; with_reducible rfl
  rotate_left
  · go_simp; rfl
  refine pure_ (i := 8) (N := some 63) (v := ?_) (a' := ?_) #[true, true, true, true, true, true, true, true, true, false, false, false, false, false, false, false, false, false, false] rfl rfl (by kernel_rfl) (fun _ _ _ h => h) (Or.inl ⟨by rfl, ?_⟩) ?_ ?_
  rotate_left
  · intro w'; go_simp; with_reducible rfl
  rotate_left
  · go_simp; rfl
  refine pure_ (i := 9) (N := some 64) (v := ?_) (a' := ?_) #[true, true, true, true, true, true, true, true, true, true, false, false, false, false, false, false, false, false, false] rfl rfl (by kernel_rfl) (fun _ _ _ h => h) (Or.inl ⟨by rfl, ?_⟩) ?_ ?_
  rotate_left
  · intro w'; go_simp; with_reducible rfl
  rotate_left
  · go_simp; rfl
  refine pure_ (i := 10) (N := some 65) (v := ?_) (a' := ?_) #[true, true, true, true, true, true, true, true, true, true, true, false, false, false, false, false, false, false, false] rfl rfl (by kernel_rfl) (fun _ _ _ h => h) (Or.inl ⟨by rfl, ?_⟩) ?_ ?_
  rotate_left
  · intro w'; go_simp; with_reducible rfl
  rotate_left
  · go_simp; rfl
  refine take_ (i := 11) (N := some 66) (v := ?_) (a' := ?_) #[true, true, true, true, true, true, true, true, true, true, true, true, false, false, false, false, false, false, false] rfl rfl (by kernel_rfl) (fun _ _ _ h => h) (Or.inl ⟨by rfl, ?_⟩) hHeld ?_ ?_
  rotate_left
  · rintro w' ⟨s0, s1, s2, s3⟩; go_simp; with_reducible rfl
  rotate_left
  · go_simp; rfl
  refine join_ (σ := Nat) 2 #[true, true, true, true, true, true, true, true, true, true, true, true, true, true, true, true, true, false, false] (fun g => [(67, .tuple #[.agg #[.int .i64 lo, .int .i64 hi], .nilIface]), (8, .pointer (some ⟨g, 0, none⟩)), (54, .tuple #[.agg #[.int .i64 lo, .int .i64 hi], .nilIface]), (68, .agg #[.int .i64 lo, .int .i64 hi]), (69, .nilIface)]) (fun g w' => Blk w' g #[.int .i64 0, .int .i64 0] 34 ∧ w.heap.size < g ∧ Keep (fun _ => False) (w.alloc (.cells #[.int .i64 f, .int .i64 id, .bool true, .int .i64 t1, .int .i64 t2, .int .i64 t] 48)) w') ?_ (fun hJ => ?_)
  rotate_left
  · refine two_ (i := 12) (j := 16) (Ni := some 67) (Nj := some 8) #[true, true, true, true, true, true, true, true, true, true, true, true, true, false, false, false, false, false, false] #[true, true, true, true, true, true, true, true, true, true, true, true, false, false, false, false, true, false, false] rfl rfl rfl rfl (by kernel_rfl) (by decide) (by decide) (fun K hK => ?_) (fun K hK => ?_)
    · go_simp
      refine (HO.out _).mono ?_
      rintro e w1 ⟨rfl, hb1⟩
      have hz1 := hb1.size
      simp at hz1
      have n0 : w.heap.size ≠ w1.heap.size := by omega
      have n1 : nb ≠ w1.heap.size := by omega
      have o0 : w.heap.size < w1.heap.size := by omega
      have o1 : nb < w1.heap.size := by omega
      have g0 : w1.cell? ⟨nb, 2, none⟩ = some (.int .i64 ppm) := (hb1.cell (p := ⟨nb, 2, none⟩) (by go_size)).trans (by go_simp)
      have g1 : w1.cell? ⟨w.heap.size, 3, none⟩ = some (.int .i64 t1) := (hb1.cell (p := ⟨w.heap.size, 3, none⟩) (by go_size)).trans (by go_simp)
      have g2 : w1.cell? ⟨w.heap.size, 4, none⟩ = some (.int .i64 t2) := (hb1.cell (p := ⟨w.heap.size, 4, none⟩) (by go_size)).trans (by go_simp)
      have g3 : w1.cell? ⟨w.heap.size, 5, none⟩ = some (.int .i64 t) := (hb1.cell (p := ⟨w.heap.size, 5, none⟩) (by go_size)).trans (by go_simp)
      refine hK.out _ _ ⟨g0, g1, g2, g3⟩ (fun hHeld => ?_)
      clear hK K
      refine pure_ (i := 13) (N := some 54) (v := ?_) (a' := ?_) #[true, true, true, true, true, true, true, true, true, true, true, true, true, true, false, false, false, false, false] rfl rfl (by kernel_rfl) (fun _ _ _ h => h) (Or.inl ⟨by rfl, ?_⟩) ?_ ?_
      rotate_left
      · intro w'; go_simp; with_reducible rfl
      rotate_left
      · go_simp; rfl
      refine pure_ (i := 14) (N := some 68) (v := ?_) (a' := ?_) #[true, true, true, true, true, true, true, true, true, true, true, true, true, true, true, false, false, false, false] rfl rfl (by kernel_rfl) (fun _ _ _ h => h) (Or.inl ⟨by rfl, ?_⟩) ?_ ?_
      rotate_left
      · intro w'; go_simp; with_reducible rfl
      rotate_left
      · go_simp; rfl
      refine pure_ (i := 15) (N := some 69) (v := ?_) (a' := ?_) #[true, true, true, true, true, true, true, true, true, true, true, true, true, true, true, true, false, false, false] rfl rfl (by kernel_rfl) (fun _ _ _ h => h) (Or.inl ⟨by rfl, ?_⟩) ?_ ?_
      rotate_left
      · intro w'; go_simp; with_reducible rfl
      rotate_left
      · go_simp; rfl
      refine one_ (i := 16) (N := some 8) #[true, true, true, true, true, true, true, true, true, true, true, true, true, true, true, true, true, false, false] rfl rfl (by kernel_rfl) (by decide) (fun K hK => ?_)
      go_simp
      refine hK.out _ _ ⟨by go_simp, by go_simp, by go_simp, by go_simp⟩ (fun hHeld => ?_)
      clear hK K
      first | exact hJ w1.heap.size _ ⟨heap_alloc_at _ _ (by simp), by omega, (((Keep.refl _ (w.alloc _)).drewN _).below hb1).alloc _⟩ | exact hJ (w.heap.size + 1) _ ⟨Blk.below (heap_alloc_at _ _ (by simp)) hb1, by omega, (((Keep.refl _ (w.alloc _)).drewN _).alloc _).below hb1⟩
    · go_simp
      refine hK.out _ _ ⟨by go_simp, by go_simp, by go_simp, by go_simp⟩ (fun hHeld => ?_)
      clear hK K
      refine one_ (i := 12) (N := some 67) #[true, true, true, true, true, true, true, true, true, true, true, true, true, false, false, false, true, false, false] rfl rfl (by kernel_rfl) (by decide) (fun K hK => ?_)
      go_simp
      refine (HO.out _).mono ?_
      rintro e w1 ⟨rfl, hb1⟩
      have hz1 := hb1.size
      simp at hz1
      have n0 : w.heap.size ≠ w1.heap.size := by omega
      have n1 : nb ≠ w1.heap.size := by omega
      have o0 : w.heap.size < w1.heap.size := by omega
      have o1 : nb < w1.heap.size := by omega
      have g0 : w1.cell? ⟨nb, 2, none⟩ = some (.int .i64 ppm) := (hb1.cell (p := ⟨nb, 2, none⟩) (by go_size)).trans (by go_simp)
      have g1 : w1.cell? ⟨w.heap.size, 3, none⟩ = some (.int .i64 t1) := (hb1.cell (p := ⟨w.heap.size, 3, none⟩) (by go_size)).trans (by go_simp)
      have g2 : w1.cell? ⟨w.heap.size, 4, none⟩ = some (.int .i64 t2) := (hb1.cell (p := ⟨w.heap.size, 4, none⟩) (by go_size)).trans (by go_simp)
      have g3 : w1.cell? ⟨w.heap.size, 5, none⟩ = some (.int .i64 t) := (hb1.cell (p := ⟨w.heap.size, 5, none⟩) (by go_size)).trans (by go_simp)
      refine hK.out _ _ ⟨g0, g1, g2, g3⟩ (fun hHeld => ?_)
      clear hK K
      refine pure_ (i := 13) (N := some 54) (v := ?_) (a' := ?_) #[true, true, true, true, true, true, true, true, true, true, true, true, true, true, false, false, true, false, false] rfl rfl (by kernel_rfl) (fun _ _ _ h => h) (Or.inl ⟨by rfl, ?_⟩) ?_ ?_
      rotate_left
      · intro w'; go_simp; with_reducible rfl
      rotate_left
      · go_simp; rfl
      refine pure_ (i := 14) (N := some 68) (v := ?_) (a' := ?_) #[true, true, true, true, true, true, true, true, true, true, true, true, true, true, true, false, true, false, false] rfl rfl (by kernel_rfl) (fun _ _ _ h => h) (Or.inl ⟨by rfl, ?_⟩) ?_ ?_
      rotate_left
      · intro w'; go_simp; with_reducible rfl
      rotate_left
      · go_simp; rfl
      refine pure_ (i := 15) (N := some 69) (v := ?_) (a' := ?_) #[true, true, true, true, true, true, true, true, true, true, true, true, true, true, true, true, true, false, false] rfl rfl (by kernel_rfl) (fun _ _ _ h => h) (Or.inl ⟨by rfl, ?_⟩) ?_ ?_
      rotate_left
      · intro w'; go_simp; with_reducible rfl
      rotate_left
      · go_simp; rfl
      first | exact hJ w1.heap.size _ ⟨heap_alloc_at _ _ (by simp), by omega, (((Keep.refl _ (w.alloc _)).drewN _).below hb1).alloc _⟩ | exact hJ (w.heap.size + 1) _ ⟨Blk.below (heap_alloc_at _ _ (by simp)) hb1, by omega, (((Keep.refl _ (w.alloc _)).drewN _).alloc _).below hb1⟩
  rintro g w2 ⟨hg, hgt, hk⟩
  have HB2 := Lib.hid (Blk.keep (heap_alloc_new w (.cells #[.int .i64 f, .int .i64 id, .bool true, .int .i64 t1, .int .i64 t2, .int .i64 t] 48)) hk (fun h => h))
  have HN2 := Lib.hid (Blk.keep (Blk.alloc HN.out (.cells #[.int .i64 f, .int .i64 id, .bool true, .int .i64 t1, .int .i64 t2, .int .i64 t] 48)) hk (fun h => h))
  have HM2 := Lib.hid ((HM.out.alloc (.cells #[.int .i64 f, .int .i64 id, .bool true, .int .i64 t1, .int .i64 t2, .int .i64 t] 48)).keep hk (fun h => h))
  have HK2 : Hid (Keep (fun _ => False) w w2) := ((Keep.refl _ w).alloc _).trans hk (fun _ _ h => h)
  have hk2 := hk.size
  have hglt := Blk.lt hg
  have c0 := Blk.at hg 0
  have c1 := Blk.at hg 1
  have d0 := Blk.free hg 0
  have d1 := Blk.free hg 1
  simp only [List.getElem?_toArray, List.getElem?_cons_zero, List.getElem?_cons_succ, World.size_alloc] at c0 c1 hk2
  have e0 : nb ≠ g := by omega
  have e1 : w.heap.size ≠ g := by omega
  have f0 : w2.cell? ⟨nb, 2, none⟩ = some (.int .i64 ppm) := (Blk.at HN2.out 2).trans rfl
  have f1 : w2.cell? ⟨w.heap.size, 3, none⟩ = some (.int .i64 t1) := (Blk.at HB2.out 3).trans rfl
  have f2 : w2.cell? ⟨w.heap.size, 4, none⟩ = some (.int .i64 t2) := (Blk.at HB2.out 4).trans rfl
  have f3 : w2.cell? ⟨w.heap.size, 5, none⟩ = some (.int .i64 t) := (Blk.at HB2.out 5).trans rfl
  have HG2 := Lib.hid hg
  clear hg hk
  refine norm_ (a' := ?_) ?_ ?_
  rotate_left
  · simp only [putAll]; go_simp; rfl
  refine one_ (i := 17) (N := none) #[true, true, true, true, true, true, true, true, true, true, true, true, true, true, true, true, true, true, false] rfl rfl (by kernel_rfl) (by decide) (fun K hK => ?_)
  go_simp
  refine hK.out _ _ ⟨by go_simp, by go_simp, by go_simp, by go_simp⟩ (fun hHeld => ?_)
  clear hK K
  refine pure_ (i := 18) (N := some 9) (v := ?_) (a' := ?_) #[true, true, true, true, true, true, true, true, true, true, true, true, true, true, true, true, true, true, true] rfl rfl (by kernel_rfl) (fun _ _ _ h => h) (Or.inl ⟨by rfl, ?_⟩) ?_ ?_
  rotate_left
  · intro w'; go_simp; with_reducible rfl
  rotate_left
  · go_simp; rfl
  refine done_ (by kernel_rfl) ?_
  have e2 : mb ≠ g := by omega
  generalize hw3 : (w2.setCell ⟨g, 0, none⟩ (.int .i64 lo)).setCell ⟨g, 1, none⟩ (.int .i64 hi) = w3
  have HG3 : Hid (Blk w3 g #[.int .i64 lo, .int .i64 hi] 34) := by rw [← hw3]; exact Blk.set (Blk.set HG2.out 0 _) 1 _
  have HB3 : Hid (Blk w3 w.heap.size #[.int .i64 f, .int .i64 id, .bool true, .int .i64 t1, .int .i64 t2, .int .i64 t] 48) := by rw [← hw3]; exact Blk.far (Blk.far HB2.out e1 _) e1 _
  have HN3 : Hid (Blk w3 nb (nodeC id nodes ppm h0 mb) 108) := by rw [← hw3]; exact Blk.far (Blk.far HN2.out e0 _) e0 _
  have HM3 : Hid (MapIs w3 mb of) := by rw [← hw3]; exact MapIs.far (MapIs.far HM2.out e2 _) e2 _
  have HK3 : Hid (Keep (fun _ => False) w w3) := by rw [← hw3]; exact (HK2.out.setCell (.inr (by show w.heap.size ≤ g; omega)) _).setCell (.inr (by show w.heap.size ≤ g; omega)) _
  clear hw3 c0 c1 d0 d1 f0 f1 f2 f3 hglt hk2 HG2 HB2 HN2 HM2 HK2
  have k0 : g < w3.heap.size := Blk.lt HG3.out
  have k1 : w.heap.size < w3.heap.size := by omega
  have k2 : nb < w3.heap.size := by omega
  have k3 : mb < w3.heap.size := by omega
  have m0 : g ≠ w3.heap.size := by omega
  have m1 : w.heap.size ≠ w3.heap.size := by omega
  have m2 : nb ≠ w3.heap.size := by omega
  have c0 : w3.cell? ⟨nb, 4, none⟩ = some (.map (some mb)) := (Blk.at HN3.out 4).trans rfl
  have c1 : w3.cell? ⟨nb, 3, none⟩ = some (.int .i64 h0) := (Blk.at HN3.out 3).trans rfl
  have c2 : w3.cell? ⟨w.heap.size, 0, none⟩ = some (.int .i64 f) := (Blk.at HB3.out 0).trans rfl
  have c3 : w3.cell? ⟨g, 0, none⟩ = some (.int .i64 lo) := (Blk.at HG3.out 0).trans rfl
  have c4 : w3.cell? ⟨g, 1, none⟩ = some (.int .i64 hi) := (Blk.at HG3.out 1).trans rfl
  have d1 : w3.frozen? ⟨nb, 3, none⟩ = false := Blk.free HN3.out 3
  go_wp2_with fail
  refine start_ (n := 13) (S := fun w' => w'.cell? ⟨nb, 4, none⟩ = some (.map (some mb)) ∧ w'.cell? ⟨w.heap.size, 0, none⟩ = some (.int .i64 f) ∧ MapIs w' mb of) (ds := []) #[false, false, false, false, false, false, false, false, false, false, false, false, false] (by kernel_rfl) rfl rfl (⟨by go_simp, by go_simp, HM3.out.drew⟩) (fun hHeld => ?_)
  refine pure_ (i := 0) (N := some 74) (v := ?_) (a' := ?_) #[true, false, false, false, false, false, false, false, false, false, false, false, false] rfl rfl (by kernel_rfl) (fun _ _ _ h => h) (Or.inl ⟨by rfl, ?_⟩) ?_ ?_
  rotate_left
  · intro w'; go_simp; with_reducible rfl
  rotate_left
  · go_simp; rfl
  refine pure_ (i := 1) (N := some 75) (v := ?_) (a' := ?_) #[true, true, false, false, false, false, false, false, false, false, false, false, false] rfl rfl (by kernel_rfl) (fun _ _ _ h => h) (Or.inl ⟨by rfl, ?_⟩) ?_ ?_
  rotate_left
  · intro w'; go_simp; with_reducible rfl
  rotate_left
  · go_simp; rfl
  refine pure_ (i := 2) (N := some 76) (v := ?_) (a' := ?_) #[true, true, true, false, false, false, false, false, false, false, false, false, false] rfl rfl (by kernel_rfl) (fun _ _ _ h => h) (Or.inl ⟨by rfl, ?_⟩) ?_ ?_
  rotate_left
  · intro w'; go_simp; with_reducible rfl
  rotate_left
  · go_simp; rfl
  refine take_ (i := 3) (N := some 77) (v := ?_) (a' := ?_) #[true, true, true, true, false, false, false, false, false, false, false, false, false] rfl rfl (by kernel_rfl) (fun _ _ _ h => h) (Or.inl ⟨by rfl, ?_⟩) hHeld ?_ ?_
  rotate_left
  · rintro w' ⟨s0, s1, s2⟩; go_simp; with_reducible rfl
  rotate_left
  · go_simp; rfl
  refine pure_ (i := 4) (N := some 78) (v := ?_) (a' := ?_) #[true, true, true, true, true, false, false, false, false, false, false, false, false] rfl rfl (by kernel_rfl) (fun _ _ _ h => h) (Or.inl ⟨by rfl, ?_⟩) ?_ ?_
  rotate_left
  · intro w'; go_simp; with_reducible rfl
  rotate_left
  · go_simp; rfl
  refine take_ (i := 5) (N := some 79) (v := ?_) (a' := ?_) #[true, true, true, true, true, true, false, false, false, false, false, false, false] rfl rfl (by kernel_rfl) (fun _ _ _ h => h) (Or.inl ⟨by rfl, ?_⟩) hHeld ?_ ?_
  rotate_left
  · rintro w' ⟨s0, s1, s2⟩; go_simp; with_reducible rfl
  rotate_left
  · go_simp; rfl
  refine take_ (i := 6) (N := some 80) (v := ?_) (a' := ?_) #[true, true, true, true, true, true, true, false, false, false, false, false, false] rfl rfl (by kernel_rfl) (fun _ _ _ h => h) (Or.inl ⟨by rfl, ?_⟩) hHeld ?_ ?_
  rotate_left
  · rintro w' ⟨s0, s1, s2⟩
    have hl := run_lookup_no (P := Try.prog) s2 Try.underlying106 Try.underlying3 (zeroKnown w') HOF.out
    clear s2
    go_simp
    with_reducible rfl
  rotate_left
  · go_simp; rfl
  refine pure_ (i := 7) (N := some 73) (v := ?_) (a' := ?_) #[true, true, true, true, true, true, true, true, false, false, false, false, false] rfl rfl (by kernel_rfl) (fun _ _ _ h => h) (Or.inl ⟨by rfl, ?_⟩) ?_ ?_
  rotate_left
  · intro w'; go_simp; with_reducible rfl
  rotate_left
  · go_simp; rfl
  refine pure_ (i := 8) (N := some 81) (v := ?_) (a' := ?_) #[true, true, true, true, true, true, true, true, true, false, false, false, false] rfl rfl (by kernel_rfl) (fun _ _ _ h => h) (Or.inl ⟨by rfl, ?_⟩) ?_ ?_
  rotate_left
  · intro w'; go_simp; with_reducible rfl
  rotate_left
  · go_simp; rfl
  refine pure_ (i := 9) (N := some 82) (v := ?_) (a' := ?_) #[true, true, true, true, true, true, true, true, true, true, false, false, false] rfl rfl (by kernel_rfl) (fun _ _ _ h => h) (Or.inl ⟨by rfl, ?_⟩) ?_ ?_
  rotate_left
  · intro w'; go_simp; with_reducible rfl
  rotate_left
  · go_simp; rfl
  refine one_ (i := 10) (N := some 10) #[true, true, true, true, true, true, true, true, true, true, true, false, false] rfl rfl (by kernel_rfl) (by decide) (fun K hK => ?_)
  go_simp
  refine hK.out _ _ ⟨by go_simp, by go_simp, HM3.out.drew.alloc _⟩ (fun hHeld => ?_)
  clear hK K
  refine one_ (i := 11) (N := none) #[true, true, true, true, true, true, true, true, true, true, true, true, false] rfl rfl (by kernel_rfl) (by decide) (fun K hK => ?_)
  go_simp
  refine hK.out _ _ ⟨by go_simp, by go_simp, HM3.out.drew.alloc _⟩ (fun hHeld => ?_)
  clear hK K
  refine pure_ (i := 12) (N := some 11) (v := ?_) (a' := ?_) #[true, true, true, true, true, true, true, true, true, true, true, true, true] rfl rfl (by kernel_rfl) (fun _ _ _ h => h) (Or.inl ⟨by rfl, ?_⟩) ?_ ?_
  rotate_left
  · intro w'; go_simp; with_reducible rfl
  rotate_left
  · go_simp; rfl
  refine done_ (by kernel_rfl) ?_
  go_wp2_with fail
  generalize hw4 : World.alloc (World.setCell w3 ⟨nb, 3, none⟩ _) _ = w4
  have e3 : g ≠ nb := by omega
  have e4 : w.heap.size ≠ nb := by omega
  have HG4 : Hid (Blk w4 g #[.int .i64 lo, .int .i64 hi] 34) := by rw [← hw4]; exact Blk.alloc (Blk.far (p := ⟨nb, 3, none⟩) HG3.out e3 _) _
  have HB4 : Hid (Blk w4 w.heap.size #[.int .i64 f, .int .i64 id, .bool true, .int .i64 t1, .int .i64 t2, .int .i64 t] 48) := by rw [← hw4]; exact Blk.alloc (Blk.far (p := ⟨nb, 3, none⟩) HB3.out e4 _) _
  have HN4 : Hid (Blk w4 nb (nodeC id nodes ppm here mb) 108) := by rw [← hw4]; exact Blk.alloc (Blk.set HN3.out 3 _) _
  have HM4 : Hid (MapIs w4 mb of) := by rw [← hw4]; exact MapIs.alloc (MapIs.far (p := ⟨nb, 3, none⟩) HM3.out HMN.out _) _
  have HK4 : Hid (Keep (fun x => x = nb) w w4) := by rw [← hw4]; exact ((HK3.out.mono (T := fun x => x = nb) (fun _ _ h => h.elim)).setCell (p := ⟨nb, 3, none⟩) (.inl rfl) _).alloc _
  clear hw4 c0 c1 c2 c3 c4 d1 HG3 HB3 HN3 HM3 HK3
  have c0 : w4.cell? ⟨nb, 4, none⟩ = some (.map (some mb)) := (Blk.at HN4.out 4).trans rfl
  have c2 : w4.cell? ⟨w.heap.size, 0, none⟩ = some (.int .i64 f) := (Blk.at HB4.out 0).trans rfl
  have c3 : w4.cell? ⟨g, 0, none⟩ = some (.int .i64 lo) := (Blk.at HG4.out 0).trans rfl
  have c4 : w4.cell? ⟨g, 1, none⟩ = some (.int .i64 hi) := (Blk.at HG4.out 1).trans rfl
  refine start_ (n := 10) (S := fun w' => w'.cell? ⟨nb, 4, none⟩ = some (.map (some mb)) ∧ w'.cell? ⟨w.heap.size, 0, none⟩ = some (.int .i64 f) ∧ w'.cell? ⟨g, 0, none⟩ = some (.int .i64 lo) ∧ w'.cell? ⟨g, 1, none⟩ = some (.int .i64 hi)) (ds := [9]) #[false, false, false, false, false, false, false, false, false, false] (by kernel_rfl) rfl rfl (⟨by go_simp, by go_simp, by go_simp, by go_simp⟩) (fun hHeld => ?_)
  generalize hW_ : World.drew _ = w5 at hHeld ⊢
  refine pure_ (i := 0) (N := some 101) (v := ?_) (a' := ?_) #[true, false, false, false, false, false, false, false, false, false] rfl rfl (by kernel_rfl) (fun _ _ _ h => h) (Or.inl ⟨by rfl, ?_⟩) ?_ ?_
  rotate_left
  · intro w'; go_simp; with_reducible rfl
  rotate_left
  · go_simp; rfl
  refine pure_ (i := 1) (N := some 102) (v := ?_) (a' := ?_) #[true, true, false, false, false, false, false, false, false, false] rfl rfl (by kernel_rfl) (fun _ _ _ h => h) (Or.inl ⟨by rfl, ?_⟩) ?_ ?_
  rotate_left
  · intro w'; go_simp; with_reducible rfl
  rotate_left
  · go_simp; rfl
  refine pure_ (i := 2) (N := some 103) (v := ?_) (a' := ?_) #[true, true, true, false, false, false, false, false, false, false] rfl rfl (by kernel_rfl) (fun _ _ _ h => h) (Or.inl ⟨by rfl, ?_⟩) ?_ ?_
  rotate_left
  · intro w'; go_simp; with_reducible rfl
  rotate_left
  · go_simp; rfl
  refine take_ (i := 3) (N := some 104) (v := ?_) (a' := ?_) #[true, true, true, true, false, false, false, false, false, false] rfl rfl (by kernel_rfl) (fun _ _ _ h => h) (Or.inl ⟨by rfl, ?_⟩) hHeld ?_ ?_
  rotate_left
  · rintro w' ⟨s0, s1, s2, s3⟩; go_simp; with_reducible rfl
  rotate_left
  · go_simp; rfl
  refine pure_ (i := 4) (N := some 105) (v := ?_) (a' := ?_) #[true, true, true, true, true, false, false, false, false, false] rfl rfl (by kernel_rfl) (fun _ _ _ h => h) (Or.inl ⟨by rfl, ?_⟩) ?_ ?_
  rotate_left
  · intro w'; go_simp; with_reducible rfl
  rotate_left
  · go_simp; rfl
  refine take_ (i := 5) (N := some 106) (v := ?_) (a' := ?_) #[true, true, true, true, true, true, false, false, false, false] rfl rfl (by kernel_rfl) (fun _ _ _ h => h) (Or.inl ⟨by rfl, ?_⟩) hHeld ?_ ?_
  rotate_left
  · rintro w' ⟨s0, s1, s2, s3⟩; go_simp; with_reducible rfl
  rotate_left
  · go_simp; rfl
  refine take_ (i := 6) (N := some 107) (v := ?_) (a' := ?_) #[true, true, true, true, true, true, true, false, false, false] rfl rfl (by kernel_rfl) (fun _ _ _ h => h) (Or.inl ⟨by rfl, ?_⟩) hHeld ?_ ?_
  rotate_left
  · rintro w' ⟨s0, s1, s2, s3⟩; go_simp; with_reducible rfl
  rotate_left
  · go_simp; rfl
  refine pure_ (i := 7) (N := some 108) (v := ?_) (a' := ?_) #[true, true, true, true, true, true, true, true, false, false] rfl rfl (by kernel_rfl) (fun _ _ _ h => h) (Or.inl ⟨by rfl, ?_⟩) ?_ ?_
  rotate_left
  · intro w'; go_simp; with_reducible rfl
  rotate_left
  · go_simp; rfl
  refine pure_ (i := 8) (N := some 109) (v := ?_) (a' := ?_) #[true, true, true, true, true, true, true, true, true, false] rfl rfl (by kernel_rfl) (fun _ _ _ h => h) (Or.inl ⟨by rfl, ?_⟩) ?_ ?_
  rotate_left
  · intro w'; go_simp; with_reducible rfl
  rotate_left
  · go_simp; rfl
  refine last_ (i := 9) (N := none) #[true, true, true, true, true, true, true, true, true, true] rfl rfl (by kernel_rfl) (by decide) (fun K hK => ?_)
  have HM5 : Hid (MapIs w5 mb of) := by rw [← hW_]; exact HM4.out
  have HN5 : Hid (Blk w5 nb (nodeC id nodes ppm here mb) 108) := by rw [← hW_]; exact HN4.out
  have HK5 : Hid (Keep (fun x => x = nb) w w5) := by rw [← hW_]; exact ⟨HK4.out.os, HK4.out.tape, HK4.out.output, HK4.out.size, HK4.out.block⟩
  obtain ⟨w6, hr6, hm6, hk6⟩ := run_mapUpdate (P := Try.prog) HM5.out Try.underlying106 Try.underlying3 f ⟨lo, hi, here⟩
  unfold knV at hr6
  have HM6 := Lib.hid hm6
  have HK6 : Hid (Keep (fun x => x = nb ∨ x = mb) w w6) := (HK5.out.mono (fun _ _ h => .inl h)).trans hk6 (fun _ _ h => .inr h)
  have HN6 : Hid (Blk w6 nb (nodeC id nodes ppm here mb) 108) := Blk.keep HN5.out hk6 (fun h => HMN.out h.symm)
  clear hm6 hk6
  go_simp
  refine hK.out _ _ ?_
  clear hK K
  refine done_ (by kernel_rfl) ?_
  go_wp2
  go_returns
  exact ⟨rfl, HN6.out, HM6.out, HK6.out⟩
end Go.Proofs.Ytjohngeaifgcgaa

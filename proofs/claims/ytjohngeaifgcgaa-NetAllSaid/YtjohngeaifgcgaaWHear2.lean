/- What a node does when it hears an answer of a node of which it knows something. -/
import Derived.Test.YtjohngeaifgcgaaWHear
namespace Go.Proofs.Ytjohngeaifgcgaa
open Go.RowKit
open Noon (Kn)
open Go.Proofs.YtjohngeaifgcgaaW.PrintLast

set_option maxRecDepth 100000 in
set_option maxHeartbeats 8000000 in
/-- an answer of a node of which something is known already -/
theorem hear_old (nb mb id nodes f : Nat) (ppm h0 here t1 t2 t lo hi al ah m1 m2 : Int) (k : Kn) (of : Nat → Option Kn) (w : World) (hn : Blk w nb (nodeC id nodes ppm h0 mb) 108) (hm : MapIs w mb of) (hof : of f = some k)
    (hf : f < nodes) (hne : f ≠ id) (b1 : 0 ≤ here) (b2 : h0 ≤ here) (b3 : here ≤ 1000000000000)
    (ho : ∀ w, Calls Try.prog 21 #[.agg #[.int .i64 t1, .int .i64 t2, .int .i64 t, .int .i64 here], .int .i64 ppm] w fun e w' => e = .returned (.tuple #[.agg #[.int .i64 lo, .int .i64 hi], .nilIface]) ∧ Below w.heap.size w w')
    (ha : ∀ w, w.cell? ⟨nb, 2, none⟩ = some (.int .i64 ppm) → Calls Try.prog 51 #[.pointer (some ⟨nb, 0, none⟩), knV k, .int .i64 here] w fun e w' => e = .returned (.agg #[.int .i64 al, .int .i64 ah]) ∧ Below w.heap.size w w')
    (hm1 : max al lo = m1) (hm2 : min ah hi = m2) (hle : m1 ≤ m2) :
    Calls Try.prog 26 #[.pointer (some ⟨nb, 0, none⟩), .agg #[.int .i64 f, .int .i64 id, .bool true, .int .i64 t1, .int .i64 t2, .int .i64 t], .int .i64 here] w fun e w' =>
      e = .returned (.tuple #[.bool true, .nilIface]) ∧ Learned w nb mb id nodes ppm here of f ⟨m1, m2, here⟩ w' := by
  obtain ⟨kl, kh, ka⟩ := k
  have HA : Hid (∀ w, w.cell? ⟨nb, 2, none⟩ = some (.int .i64 ppm) → Calls Try.prog 51 #[.pointer (some ⟨nb, 0, none⟩), .agg #[.int .i64 kl, .int .i64 kh, .int .i64 ka], .int .i64 here] w fun e w' => e = .returned (.agg #[.int .i64 al, .int .i64 ah]) ∧ Below w.heap.size w w') := ha
  have hdm : decide (m1 ≤ m2) = true := by simpa using hle
  have HC := Lib.hid (fun w => (by have := common_any al ah lo hi w; rw [hm1, hm2, hdm] at this; exact this : Calls Try.prog 50 #[.agg #[.int .i64 al, .int .i64 ah], .agg #[.int .i64 lo, .int .i64 hi]] w fun e w' => e = .returned (.tuple #[.agg #[.int .i64 m1, .int .i64 m2], .bool true]) ∧ Below w.heap.size w w'))
  clear ha hm1 hm2 hle hdm
  have h0' := hn.at 0
  have h1' := hn.at 1
  have h2' := hn.at 2
  have h3' := hn.at 3
  simp only [nodeC, List.getElem?_toArray, List.getElem?_cons_zero, List.getElem?_cons_succ] at h0' h1' h2' h3'
  have l1 := World.block_lt_of_cell? w _ h3'
  have l2 := hm.lt
  have hmn := hm.ne hn
  have HN := Lib.hid hn
  have HM := Lib.hid hm
  have HO := Lib.hid ho
  have HMN := Lib.hid hmn
  have HOF := Lib.hid hof
  clear hn hm ho hmn hof
  have q1 : ((f : Int) == (id : Int)) = false := by simp; omega
  have q2 : ((id : Int) != (id : Int)) = false := by simp
  have q3 : nodeB nodes f = true := by simp [nodeB]; omega
  have q4 : ((f : Int) != (id : Int)) = true := by simp; omega
  have HB := Lib.hid (fun w h => back_no nb h0 here w h b1 b2 b3)
  have HF := Lib.hid (fun w => (by rw [← q3]; exact node_any nodes f w : Calls Try.prog 28 #[.int .i64 nodes, .int .i64 f] w fun e w' => e = .returned (.bool true) ∧ w = w'))
  clear q3
  go_enter Try.func26, Try.ntmps26
  go_wp2_with fail
  refine (HB.out _ (by go_simp)).mono ?_
  rintro e w' ⟨rfl, rfl⟩
  go_wp2_with fail
  go_quiet ((go_at_call 28; exact quiet_same (HF.out _)))
  go_wp2_with fail
  refine start_ (n := 19) (S := fun w' => w'.cell? ⟨nb, 2, none⟩ = some (.int .i64 ppm) ∧ w'.cell? ⟨w.heap.size, 3, none⟩ = some (.int .i64 t1) ∧ w'.cell? ⟨w.heap.size, 4, none⟩ = some (.int .i64 t2) ∧ w'.cell? ⟨w.heap.size, 5, none⟩ = some (.int .i64 t)) (ds := []) #[false, false, false, false, false, false, false, false, false, false, false, false, false, false, false, false, false, false, false] (by kernel_rfl) rfl rfl (⟨by go_simp, by go_simp, by go_simp, by go_simp⟩) (fun hHeld => ?_)
  refine pure_ (i := 0) (N := some 55) (v := ?_) (a' := ?_) #[true, false, false, false, false, false, false, false, false, false, false, false, false, false, false, false, false, false, false] rfl rfl (by kernel_rfl) (fun _ _ _ h => h) (Or.inl ⟨by rfl, ?_⟩) ?_ ?_
  rotate_left
  · intro w'; go_simp; with_reducible rfl
  rotate_left
  · go_simp; rfl
  refine take_ (i := 1) (N := some 56) (v := ?_) (a' := ?_) #[true, true, false, false, false, false, false, false, false, false, false, false, false, false, false, false, false, false, false] rfl rfl (by kernel_rfl) (fun _ _ _ h => h) (Or.inl ⟨by rfl, ?_⟩) hHeld ?_ ?_
  rotate_left
  · rintro w' ⟨s0, s1, s2, s3⟩; go_simp; with_reducible rfl
  rotate_left
  · go_simp; rfl
  refine pure_ (i := 2) (N := some 57) (v := ?_) (a' := ?_) #[true, true, true, false, false, false, false, false, false, false, false, false, false, false, false, false, false, false, false] rfl rfl (by kernel_rfl) (fun _ _ _ h => h) (Or.inl ⟨by rfl, ?_⟩) ?_ ?_
  rotate_left
  · intro w'; go_simp; with_reducible rfl
  rotate_left
  · go_simp; rfl
  refine take_ (i := 3) (N := some 58) (v := ?_) (a' := ?_) #[true, true, true, true, false, false, false, false, false, false, false, false, false, false, false, false, false, false, false] rfl rfl (by kernel_rfl) (fun _ _ _ h => h) (Or.inl ⟨by rfl, ?_⟩) hHeld ?_ ?_
  rotate_left
  · rintro w' ⟨s0, s1, s2, s3⟩; go_simp; with_reducible rfl
  rotate_left
  · go_simp; rfl
  refine pure_ (i := 4) (N := some 59) (v := ?_) (a' := ?_) #[true, true, true, true, true, false, false, false, false, false, false, false, false, false, false, false, false, false, false] rfl rfl (by kernel_rfl) (fun _ _ _ h => h) (Or.inl ⟨by rfl, ?_⟩) ?_ ?_
  rotate_left
  · intro w'; go_simp; with_reducible rfl
  rotate_left
  · go_simp; rfl
  refine take_ (i := 5) (N := some 60) (v := ?_) (a' := ?_) #[true, true, true, true, true, true, false, false, false, false, false, false, false, false, false, false, false, false, false] rfl rfl (by kernel_rfl) (fun _ _ _ h => h) (Or.inl ⟨by rfl, ?_⟩) hHeld ?_ ?_
  rotate_left
  · rintro w' ⟨s0, s1, s2, s3⟩; go_simp; with_reducible rfl
  rotate_left
  · go_simp; rfl
  refine pure_ (i := 6) (N := some 61) (v := ?_) (a' := ?_) #[true, true, true, true, true, true, true, false, false, false, false, false, false, false, false, false, false, false, false] rfl rfl (by kernel_rfl) (fun _ _ _ h => h) (Or.inl ⟨by rfl, ?_⟩) ?_ ?_
  rotate_left
  · intro w'; go_simp; with_reducible rfl
  rotate_left
  · go_simp; rfl
  refine pure_ (i := 7) (N := some 62) (v := ?_) (a' := ?_) #[true, true, true, true, true, true, true, true, false, false, false, false, false, false, false, false, false, false, false] rfl rfl (by kernel_rfl) (fun _ _ _ h => h) (Or.inl ⟨by rfl, ?_⟩) ?_ ?_
  rotate_left
  · intro w'; go_simp; with_reducible rfl
  rotate_left
  · go_simp; rfl
  refine pure_ (i := 8) (N := some 63) (v := ?_) (a' := ?_) #[true, true, true, true, true, true, true, true, true, false, false, false, false, false, false, false, false, false, false] rfl rfl (by kernel_rfl) (fun _ _ _ h => h) (Or.inl ⟨by rfl, ?_⟩) ?_ ?_
  rotate_left
  · intro w'; go_simp; with_reducible rfl
  rotate_left
  · go_simp; rfl
  refine pure_ (i := 9) (N := some 64) (v := ?_) (a' := ?_) #[true, true, true, true, true, true, true, true, true, true, false, false, false, false, false, false, false, false, false] rfl rfl (by kernel_rfl) (fun _ _ _ h => h) (Or.inl ⟨by rfl, ?_⟩) ?_ ?_
  rotate_left
  · intro w'; go_simp; with_reducible rfl
  rotate_left
  · go_simp; rfl
  refine pure_ (i := 10) (N := some 65) (v := ?_) (a' := ?_) #[true, true, true, true, true, true, true, true, true, true, true, false, false, false, false, false, false, false, false] rfl rfl (by kernel_rfl) (fun _ _ _ h => h) (Or.inl ⟨by rfl, ?_⟩) ?_ ?_
  rotate_left
  · intro w'; go_simp; with_reducible rfl
  rotate_left
  · go_simp; rfl
  refine take_ (i := 11) (N := some 66) (v := ?_) (a' := ?_) #[true, true, true, true, true, true, true, true, true, true, true, true, false, false, false, false, false, false, false] rfl rfl (by kernel_rfl) (fun _ _ _ h => h) (Or.inl ⟨by rfl, ?_⟩) hHeld ?_ ?_
  rotate_left
  · rintro w' ⟨s0, s1, s2, s3⟩; go_simp; with_reducible rfl
  rotate_left
  · go_simp; rfl
  refine join_ (σ := Nat) 2 #[true, true, true, true, true, true, true, true, true, true, true, true, true, true, true, true, true, false, false] (fun g => [(67, .tuple #[.agg #[.int .i64 lo, .int .i64 hi], .nilIface]), (8, .pointer (some ⟨g, 0, none⟩)), (54, .tuple #[.agg #[.int .i64 lo, .int .i64 hi], .nilIface]), (68, .agg #[.int .i64 lo, .int .i64 hi]), (69, .nilIface)]) (fun g w' => Blk w' g #[.int .i64 0, .int .i64 0] 34 ∧ w.heap.size < g ∧ Keep (fun _ => False) (w.alloc (.cells #[.int .i64 f, .int .i64 id, .bool true, .int .i64 t1, .int .i64 t2, .int .i64 t] 48)) w') ?_ (fun hJ => ?_)
  rotate_left
  · refine two_ (i := 12) (j := 16) (Ni := some 67) (Nj := some 8) #[true, true, true, true, true, true, true, true, true, true, true, true, true, false, false, false, false, false, false] #[true, true, true, true, true, true, true, true, true, true, true, true, false, false, false, false, true, false, false] rfl rfl rfl rfl (by kernel_rfl) (by decide) (by decide) (fun K hK => ?_) (fun K hK => ?_)
    · go_simp
      refine (HO.out _).mono ?_
      rintro e w1 ⟨rfl, hb1⟩
      have hz1 := hb1.size
      try simp at hz1
      have n0 : w.heap.size ≠ w1.heap.size := by omega
      have n1 : nb ≠ w1.heap.size := by omega
      have o0 : w.heap.size < w1.heap.size := by omega
      have o1 : nb < w1.heap.size := by omega
      have g0 : w1.cell? ⟨nb, 2, none⟩ = some (.int .i64 ppm) := (hb1.cell (p := ⟨nb, 2, none⟩) (by go_size)).trans (by go_simp)
      have g1 : w1.cell? ⟨w.heap.size, 3, none⟩ = some (.int .i64 t1) := (hb1.cell (p := ⟨w.heap.size, 3, none⟩) (by go_size)).trans (by go_simp)
      have g2 : w1.cell? ⟨w.heap.size, 4, none⟩ = some (.int .i64 t2) := (hb1.cell (p := ⟨w.heap.size, 4, none⟩) (by go_size)).trans (by go_simp)
      have g3 : w1.cell? ⟨w.heap.size, 5, none⟩ = some (.int .i64 t) := (hb1.cell (p := ⟨w.heap.size, 5, none⟩) (by go_size)).trans (by go_simp)
      refine hK.out _ _ ⟨g0, g1, g2, g3⟩ (fun hHeld => ?_)
      clear hK K
      refine pure_ (i := 13) (N := some 54) (v := ?_) (a' := ?_) #[true, true, true, true, true, true, true, true, true, true, true, true, true, true, false, false, false, false, false] rfl rfl (by kernel_rfl) (fun _ _ _ h => h) (Or.inl ⟨by rfl, ?_⟩) ?_ ?_
      rotate_left
      · intro w'; go_simp; with_reducible rfl
      rotate_left
      · go_simp; rfl
      refine pure_ (i := 14) (N := some 68) (v := ?_) (a' := ?_) #[true, true, true, true, true, true, true, true, true, true, true, true, true, true, true, false, false, false, false] rfl rfl (by kernel_rfl) (fun _ _ _ h => h) (Or.inl ⟨by rfl, ?_⟩) ?_ ?_
      rotate_left
      · intro w'; go_simp; with_reducible rfl
      rotate_left
      · go_simp; rfl
      refine pure_ (i := 15) (N := some 69) (v := ?_) (a' := ?_) #[true, true, true, true, true, true, true, true, true, true, true, true, true, true, true, true, false, false, false] rfl rfl (by kernel_rfl) (fun _ _ _ h => h) (Or.inl ⟨by rfl, ?_⟩) ?_ ?_
      rotate_left
      · intro w'; go_simp; with_reducible rfl
      rotate_left
      · go_simp; rfl
      refine one_ (i := 16) (N := some 8) #[true, true, true, true, true, true, true, true, true, true, true, true, true, true, true, true, true, false, false] rfl rfl (by kernel_rfl) (by decide) (fun K hK => ?_)
      go_simp
      refine hK.out _ _ ⟨by go_simp, by go_simp, by go_simp, by go_simp⟩ (fun hHeld => ?_)
      clear hK K
      first | exact hJ w1.heap.size _ ⟨heap_alloc_at _ _ (by first | rfl | simp), by omega, (((Keep.refl _ (w.alloc _)).drewN _).below hb1).alloc _⟩ | exact hJ (w.heap.size + 1) _ ⟨Blk.below (heap_alloc_at _ _ (by first | rfl | simp)) hb1, by omega, (((Keep.refl _ (w.alloc _)).drewN _).alloc _).below hb1⟩
    · go_simp
      refine hK.out _ _ ⟨by go_simp, by go_simp, by go_simp, by go_simp⟩ (fun hHeld => ?_)
      clear hK K
      refine one_ (i := 12) (N := some 67) #[true, true, true, true, true, true, true, true, true, true, true, true, true, false, false, false, true, false, false] rfl rfl (by kernel_rfl) (by decide) (fun K hK => ?_)
      go_simp
      refine (HO.out _).mono ?_
      rintro e w1 ⟨rfl, hb1⟩
      have hz1 := hb1.size
      try simp at hz1
      have n0 : w.heap.size ≠ w1.heap.size := by omega
      have n1 : nb ≠ w1.heap.size := by omega
      have o0 : w.heap.size < w1.heap.size := by omega
      have o1 : nb < w1.heap.size := by omega
      have g0 : w1.cell? ⟨nb, 2, none⟩ = some (.int .i64 ppm) := (hb1.cell (p := ⟨nb, 2, none⟩) (by go_size)).trans (by go_simp)
      have g1 : w1.cell? ⟨w.heap.size, 3, none⟩ = some (.int .i64 t1) := (hb1.cell (p := ⟨w.heap.size, 3, none⟩) (by go_size)).trans (by go_simp)
      have g2 : w1.cell? ⟨w.heap.size, 4, none⟩ = some (.int .i64 t2) := (hb1.cell (p := ⟨w.heap.size, 4, none⟩) (by go_size)).trans (by go_simp)
      have g3 : w1.cell? ⟨w.heap.size, 5, none⟩ = some (.int .i64 t) := (hb1.cell (p := ⟨w.heap.size, 5, none⟩) (by go_size)).trans (by go_simp)
      refine hK.out _ _ ⟨g0, g1, g2, g3⟩ (fun hHeld => ?_)
      clear hK K
      refine pure_ (i := 13) (N := some 54) (v := ?_) (a' := ?_) #[true, true, true, true, true, true, true, true, true, true, true, true, true, true, false, false, true, false, false] rfl rfl (by kernel_rfl) (fun _ _ _ h => h) (Or.inl ⟨by rfl, ?_⟩) ?_ ?_
      rotate_left
      · intro w'; go_simp; with_reducible rfl
      rotate_left
      · go_simp; rfl
      refine pure_ (i := 14) (N := some 68) (v := ?_) (a' := ?_) #[true, true, true, true, true, true, true, true, true, true, true, true, true, true, true, false, true, false, false] rfl rfl (by kernel_rfl) (fun _ _ _ h => h) (Or.inl ⟨by rfl, ?_⟩) ?_ ?_
      rotate_left
      · intro w'; go_simp; with_reducible rfl
      rotate_left
      · go_simp; rfl
      refine pure_ (i := 15) (N := some 69) (v := ?_) (a' := ?_) #[true, true, true, true, true, true, true, true, true, true, true, true, true, true, true, true, true, false, false] rfl rfl (by kernel_rfl) (fun _ _ _ h => h) (Or.inl ⟨by rfl, ?_⟩) ?_ ?_
      rotate_left
      · intro w'; go_simp; with_reducible rfl
      rotate_left
      · go_simp; rfl
      first | exact hJ w1.heap.size _ ⟨heap_alloc_at _ _ (by first | rfl | simp), by omega, (((Keep.refl _ (w.alloc _)).drewN _).below hb1).alloc _⟩ | exact hJ (w.heap.size + 1) _ ⟨Blk.below (heap_alloc_at _ _ (by first | rfl | simp)) hb1, by omega, (((Keep.refl _ (w.alloc _)).drewN _).alloc _).below hb1⟩
  rintro g w2 ⟨hg, hgt, hk⟩
  have HB2 := Lib.hid (Blk.keep (heap_alloc_new w (.cells #[.int .i64 f, .int .i64 id, .bool true, .int .i64 t1, .int .i64 t2, .int .i64 t] 48)) hk (fun h => h))
  have HN2 := Lib.hid (Blk.keep (Blk.alloc HN.out (.cells #[.int .i64 f, .int .i64 id, .bool true, .int .i64 t1, .int .i64 t2, .int .i64 t] 48)) hk (fun h => h))
  have HM2 := Lib.hid ((HM.out.alloc (.cells #[.int .i64 f, .int .i64 id, .bool true, .int .i64 t1, .int .i64 t2, .int .i64 t] 48)).keep hk (fun h => h))
  have HK2 : Hid (Keep (fun _ => False) w w2) := ((Keep.refl _ w).alloc _).trans hk (fun _ _ h => h)
  have hk2 := hk.size
  have hglt := Blk.lt hg
  have c0 := Blk.at hg 0
  have c1 := Blk.at hg 1
  have d0 := Blk.free hg 0
  have d1 := Blk.free hg 1
  simp only [List.getElem?_toArray, List.getElem?_cons_zero, List.getElem?_cons_succ, World.size_alloc] at c0 c1 hk2
  have e0 : nb ≠ g := by omega
  have e1 : w.heap.size ≠ g := by omega
  have f0 : w2.cell? ⟨nb, 2, none⟩ = some (.int .i64 ppm) := (Blk.at HN2.out 2).trans rfl
  have f1 : w2.cell? ⟨w.heap.size, 3, none⟩ = some (.int .i64 t1) := (Blk.at HB2.out 3).trans rfl
  have f2 : w2.cell? ⟨w.heap.size, 4, none⟩ = some (.int .i64 t2) := (Blk.at HB2.out 4).trans rfl
  have f3 : w2.cell? ⟨w.heap.size, 5, none⟩ = some (.int .i64 t) := (Blk.at HB2.out 5).trans rfl
  have HG2 := Lib.hid hg
  clear hg hk
  refine norm_ (a' := ?_) ?_ ?_
  rotate_left
  · simp only [putAll]; go_simp; rfl
  refine one_ (i := 17) (N := none) #[true, true, true, true, true, true, true, true, true, true, true, true, true, true, true, true, true, true, false] rfl rfl (by kernel_rfl) (by decide) (fun K hK => ?_)
  go_simp
  refine hK.out _ _ ⟨by go_simp, by go_simp, by go_simp, by go_simp⟩ (fun hHeld => ?_)
  clear hK K
  refine pure_ (i := 18) (N := some 9) (v := ?_) (a' := ?_) #[true, true, true, true, true, true, true, true, true, true, true, true, true, true, true, true, true, true, true] rfl rfl (by kernel_rfl) (fun _ _ _ h => h) (Or.inl ⟨by rfl, ?_⟩) ?_ ?_
  rotate_left
  · intro w'; go_simp; with_reducible rfl
  rotate_left
  · go_simp; rfl
  refine done_ (by kernel_rfl) ?_
  have e2 : mb ≠ g := by omega
  generalize hw3 : (w2.setCell ⟨g, 0, none⟩ (.int .i64 lo)).setCell ⟨g, 1, none⟩ (.int .i64 hi) = w3
  have HG3 : Hid (Blk w3 g #[.int .i64 lo, .int .i64 hi] 34) := by rw [← hw3]; exact Blk.set (Blk.set HG2.out 0 _) 1 _
  have HB3 : Hid (Blk w3 w.heap.size #[.int .i64 f, .int .i64 id, .bool true, .int .i64 t1, .int .i64 t2, .int .i64 t] 48) := by rw [← hw3]; exact Blk.far (Blk.far HB2.out e1 _) e1 _
  have HN3 : Hid (Blk w3 nb (nodeC id nodes ppm h0 mb) 108) := by rw [← hw3]; exact Blk.far (Blk.far HN2.out e0 _) e0 _
  have HM3 : Hid (MapIs w3 mb of) := by rw [← hw3]; exact MapIs.far (MapIs.far HM2.out e2 _) e2 _
  have HK3 : Hid (Keep (fun _ => False) w w3) := by rw [← hw3]; exact (HK2.out.setCell (.inr (by show w.heap.size ≤ g; omega)) _).setCell (.inr (by show w.heap.size ≤ g; omega)) _
  clear hw3 c0 c1 d0 d1 f0 f1 f2 f3 hglt hk2 HG2 HB2 HN2 HM2 HK2
  have k0 : g < w3.heap.size := Blk.lt HG3.out
  have k1 : w.heap.size < w3.heap.size := by omega
  have k2 : nb < w3.heap.size := by omega
  have k3 : mb < w3.heap.size := by omega
  have mm0 : g ≠ w3.heap.size := by omega
  have mm1 : w.heap.size ≠ w3.heap.size := by omega
  have mm2 : nb ≠ w3.heap.size := by omega
  have c0 : w3.cell? ⟨nb, 4, none⟩ = some (.map (some mb)) := (Blk.at HN3.out 4).trans rfl
  have c1 : w3.cell? ⟨nb, 3, none⟩ = some (.int .i64 h0) := (Blk.at HN3.out 3).trans rfl
  have c2 : w3.cell? ⟨w.heap.size, 0, none⟩ = some (.int .i64 f) := (Blk.at HB3.out 0).trans rfl
  have c3 : w3.cell? ⟨g, 0, none⟩ = some (.int .i64 lo) := (Blk.at HG3.out 0).trans rfl
  have c4 : w3.cell? ⟨g, 1, none⟩ = some (.int .i64 hi) := (Blk.at HG3.out 1).trans rfl
  have d1 : w3.frozen? ⟨nb, 3, none⟩ = false := Blk.free HN3.out 3
  go_wp2_with fail
  refine start_ (n := 13) (S := fun w' => w'.cell? ⟨nb, 4, none⟩ = some (.map (some mb)) ∧ w'.cell? ⟨w.heap.size, 0, none⟩ = some (.int .i64 f) ∧ MapIs w' mb of) (ds := []) #[false, false, false, false, false, false, false, false, false, false, false, false, false] (by kernel_rfl) rfl rfl (⟨by go_simp, by go_simp, HM3.out.drew⟩) (fun hHeld => ?_)
  refine pure_ (i := 0) (N := some 74) (v := ?_) (a' := ?_) #[true, false, false, false, false, false, false, false, false, false, false, false, false] rfl rfl (by kernel_rfl) (fun _ _ _ h => h) (Or.inl ⟨by rfl, ?_⟩) ?_ ?_
  rotate_left
  · intro w'; go_simp; with_reducible rfl
  rotate_left
  · go_simp; rfl
  refine pure_ (i := 1) (N := some 75) (v := ?_) (a' := ?_) #[true, true, false, false, false, false, false, false, false, false, false, false, false] rfl rfl (by kernel_rfl) (fun _ _ _ h => h) (Or.inl ⟨by rfl, ?_⟩) ?_ ?_
  rotate_left
  · intro w'; go_simp; with_reducible rfl
  rotate_left
  · go_simp; rfl
  refine pure_ (i := 2) (N := some 76) (v := ?_) (a' := ?_) #[true, true, true, false, false, false, false, false, false, false, false, false, false] rfl rfl (by kernel_rfl) (fun _ _ _ h => h) (Or.inl ⟨by rfl, ?_⟩) ?_ ?_
  rotate_left
  · intro w'; go_simp; with_reducible rfl
  rotate_left
  · go_simp; rfl
  refine take_ (i := 3) (N := some 77) (v := ?_) (a' := ?_) #[true, true, true, true, false, false, false, false, false, false, false, false, false] rfl rfl (by kernel_rfl) (fun _ _ _ h => h) (Or.inl ⟨by rfl, ?_⟩) hHeld ?_ ?_
  rotate_left
  · rintro w' ⟨s0, s1, s2⟩; go_simp; with_reducible rfl
  rotate_left
  · go_simp; rfl
  refine pure_ (i := 4) (N := some 78) (v := ?_) (a' := ?_) #[true, true, true, true, true, false, false, false, false, false, false, false, false] rfl rfl (by kernel_rfl) (fun _ _ _ h => h) (Or.inl ⟨by rfl, ?_⟩) ?_ ?_
  rotate_left
  · intro w'; go_simp; with_reducible rfl
  rotate_left
  · go_simp; rfl
  refine take_ (i := 5) (N := some 79) (v := ?_) (a' := ?_) #[true, true, true, true, true, true, false, false, false, false, false, false, false] rfl rfl (by kernel_rfl) (fun _ _ _ h => h) (Or.inl ⟨by rfl, ?_⟩) hHeld ?_ ?_
  rotate_left
  · rintro w' ⟨s0, s1, s2⟩; go_simp; with_reducible rfl
  rotate_left
  · go_simp; rfl
  refine take_ (i := 6) (N := some 80) (v := ?_) (a' := ?_) #[true, true, true, true, true, true, true, false, false, false, false, false, false] rfl rfl (by kernel_rfl) (fun _ _ _ h => h) (Or.inl ⟨by rfl, ?_⟩) hHeld ?_ ?_
  rotate_left
  · rintro w' ⟨s0, s1, s2⟩
    have hl := run_lookup_yes (P := Try.prog) s2 Try.underlying106 Try.underlying3 HOF.out
    unfold knV at hl
    clear s2
    go_simp
    with_reducible rfl
  rotate_left
  · go_simp; rfl
  refine pure_ (i := 7) (N := some 73) (v := ?_) (a' := ?_) #[true, true, true, true, true, true, true, true, false, false, false, false, false] rfl rfl (by kernel_rfl) (fun _ _ _ h => h) (Or.inl ⟨by rfl, ?_⟩) ?_ ?_
  rotate_left
  · intro w'; go_simp; with_reducible rfl
  rotate_left
  · go_simp; rfl
  refine pure_ (i := 8) (N := some 81) (v := ?_) (a' := ?_) #[true, true, true, true, true, true, true, true, true, false, false, false, false] rfl rfl (by kernel_rfl) (fun _ _ _ h => h) (Or.inl ⟨by rfl, ?_⟩) ?_ ?_
  rotate_left
  · intro w'; go_simp; with_reducible rfl
  rotate_left
  · go_simp; rfl
  refine pure_ (i := 9) (N := some 82) (v := ?_) (a' := ?_) #[true, true, true, true, true, true, true, true, true, true, false, false, false] rfl rfl (by kernel_rfl) (fun _ _ _ h => h) (Or.inl ⟨by rfl, ?_⟩) ?_ ?_
  rotate_left
  · intro w'; go_simp; with_reducible rfl
  rotate_left
  · go_simp; rfl
  refine one_ (i := 10) (N := some 10) #[true, true, true, true, true, true, true, true, true, true, true, false, false] rfl rfl (by kernel_rfl) (by decide) (fun K hK => ?_)
  go_simp
  refine hK.out _ _ ⟨by go_simp, by go_simp, HM3.out.drew.alloc _⟩ (fun hHeld => ?_)
  clear hK K
  refine one_ (i := 11) (N := none) #[true, true, true, true, true, true, true, true, true, true, true, true, false] rfl rfl (by kernel_rfl) (by decide) (fun K hK => ?_)
  go_simp
  refine hK.out _ _ ⟨by go_simp, by go_simp, HM3.out.drew.alloc _⟩ (fun hHeld => ?_)
  clear hK K
  refine pure_ (i := 12) (N := some 11) (v := ?_) (a' := ?_) #[true, true, true, true, true, true, true, true, true, true, true, true, true] rfl rfl (by kernel_rfl) (fun _ _ _ h => h) (Or.inl ⟨by rfl, ?_⟩) ?_ ?_
  rotate_left
  · intro w'; go_simp; with_reducible rfl
  rotate_left
  · go_simp; rfl
  refine done_ (by kernel_rfl) ?_
  go_wp2_with fail
  generalize hw4 : World.alloc w3 _ = w4
  have HX4 : Hid (Blk w4 w3.heap.size #[.int .i64 kl, .int .i64 kh, .int .i64 ka] 112) := by rw [← hw4]; exact heap_alloc_new _ _
  have HG4 : Hid (Blk w4 g #[.int .i64 lo, .int .i64 hi] 34) := by rw [← hw4]; exact Blk.alloc HG3.out _
  have HB4 : Hid (Blk w4 w.heap.size #[.int .i64 f, .int .i64 id, .bool true, .int .i64 t1, .int .i64 t2, .int .i64 t] 48) := by rw [← hw4]; exact Blk.alloc HB3.out _
  have HN4 : Hid (Blk w4 nb (nodeC id nodes ppm h0 mb) 108) := by rw [← hw4]; exact Blk.alloc HN3.out _
  have HM4 : Hid (MapIs w4 mb of) := by rw [← hw4]; exact MapIs.alloc HM3.out _
  have HK4 : Hid (Keep (fun _ => False) w w4) := by rw [← hw4]; exact HK3.out.alloc _
  have hz4 : w4.heap.size = w3.heap.size + 1 := by rw [← hw4]; simp
  have k4 : w3.heap.size < w4.heap.size := by omega
  have k5 : g < w4.heap.size := by omega
  have k6 : nb < w4.heap.size := by omega
  have k7 : w.heap.size < w4.heap.size := by omega
  have k8 : nb ≠ w4.heap.size := by omega
  have k9 : g ≠ w4.heap.size := by omega
  have k10 : w3.heap.size ≠ w4.heap.size := by omega
  have HZ4 := Lib.hid hz4
  clear hw4 c0 c1 c2 c3 c4 d1 HG3 HB3 HN3 HM3 HK3 hz4
  have x0 : w4.cell? ⟨nb, 2, none⟩ = some (.int .i64 ppm) := (Blk.at HN4.out 2).trans rfl
  have x1 : w4.cell? ⟨w3.heap.size, 0, none⟩ = some (.int .i64 kl) := (Blk.at HX4.out 0).trans rfl
  have x2 : w4.cell? ⟨w3.heap.size, 1, none⟩ = some (.int .i64 kh) := (Blk.at HX4.out 1).trans rfl
  have x3 : w4.cell? ⟨w3.heap.size, 2, none⟩ = some (.int .i64 ka) := (Blk.at HX4.out 2).trans rfl
  have x4 : w4.cell? ⟨g, 0, none⟩ = some (.int .i64 lo) := (Blk.at HG4.out 0).trans rfl
  have x5 : w4.cell? ⟨g, 1, none⟩ = some (.int .i64 hi) := (Blk.at HG4.out 1).trans rfl
  refine start_ (n := 12) (S := fun w' => w'.cell? ⟨nb, 2, none⟩ = some (.int .i64 ppm) ∧ w'.cell? ⟨w3.heap.size, 0, none⟩ = some (.int .i64 kl) ∧ w'.cell? ⟨w3.heap.size, 1, none⟩ = some (.int .i64 kh) ∧ w'.cell? ⟨w3.heap.size, 2, none⟩ = some (.int .i64 ka) ∧ w'.cell? ⟨g, 0, none⟩ = some (.int .i64 lo) ∧ w'.cell? ⟨g, 1, none⟩ = some (.int .i64 hi)) (ds := []) #[false, false, false, false, false, false, false, false, false, false, false, false] (by kernel_rfl) rfl rfl (⟨by go_simp, by go_simp, by go_simp, by go_simp, by go_simp, by go_simp⟩) (fun hHeld => ?_)
  refine pure_ (i := 0) (N := some 85) (v := ?_) (a' := ?_) #[true, false, false, false, false, false, false, false, false, false, false, false] rfl rfl (by kernel_rfl) (fun _ _ _ h => h) (Or.inl ⟨by rfl, ?_⟩) ?_ ?_
  rotate_left
  · intro w'; go_simp; with_reducible rfl
  rotate_left
  · go_simp; rfl
  refine take_ (i := 1) (N := some 86) (v := ?_) (a' := ?_) #[true, true, false, false, false, false, false, false, false, false, false, false] rfl rfl (by kernel_rfl) (fun _ _ _ h => h) (Or.inl ⟨by rfl, ?_⟩) hHeld ?_ ?_
  rotate_left
  · rintro w' ⟨s0, s1, s2, s3, s4, s5⟩; go_simp; with_reducible rfl
  rotate_left
  · go_simp; rfl
  refine pure_ (i := 2) (N := some 87) (v := ?_) (a' := ?_) #[true, true, true, false, false, false, false, false, false, false, false, false] rfl rfl (by kernel_rfl) (fun _ _ _ h => h) (Or.inl ⟨by rfl, ?_⟩) ?_ ?_
  rotate_left
  · intro w'; go_simp; with_reducible rfl
  rotate_left
  · go_simp; rfl
  refine take_ (i := 4) (N := some 89) (v := ?_) (a' := ?_) #[true, true, true, false, true, false, false, false, false, false, false, false] rfl rfl (by kernel_rfl) (fun _ _ _ h => h) (Or.inl ⟨by rfl, ?_⟩) hHeld ?_ ?_
  rotate_left
  · rintro w' ⟨s0, s1, s2, s3, s4, s5⟩; go_simp; with_reducible rfl
  rotate_left
  · go_simp; rfl
  refine join_ (σ := Nat) 2 #[true, true, true, true, true, true, true, true, true, true, false, false] (fun q => [(88, .agg #[.int .i64 al, .int .i64 ah]), (12, .pointer (some ⟨q, 0, none⟩)), (90, .tuple #[.agg #[.int .i64 m1, .int .i64 m2], .bool true]), (84, .tuple #[.agg #[.int .i64 m1, .int .i64 m2], .bool true]), (91, .agg #[.int .i64 m1, .int .i64 m2]), (92, .bool true)]) (fun q w' => Blk w' q #[.int .i64 0, .int .i64 0] 34 ∧ w4.heap.size ≤ q ∧ Keep (fun _ => False) w4 w') ?_ (fun hJ => ?_)
  rotate_left
  · refine two_ (i := 3) (j := 9) (Ni := some 88) (Nj := some 12) #[true, true, true, true, true, false, false, false, false, false, false, false] #[true, true, true, false, true, false, false, false, false, true, false, false] rfl rfl rfl rfl (by kernel_rfl) (by decide) (by decide) (fun K hK => ?_) (fun K hK => ?_)
    · go_simp
      refine (HA.out _ (by go_simp)).mono ?_
      rintro e w1 ⟨rfl, hb1⟩
      have hz1 := hb1.size
      try simp at hz1
      have n0 : nb ≠ w1.heap.size := by omega
      have nl0 : nb < w1.heap.size := by omega
      have n1 : w3.heap.size ≠ w1.heap.size := by omega
      have nl1 : w3.heap.size < w1.heap.size := by omega
      have n2 : g ≠ w1.heap.size := by omega
      have nl2 : g < w1.heap.size := by omega
      have g0 : w1.cell? ⟨nb, 2, none⟩ = some (.int .i64 ppm) := (hb1.cell (p := ⟨nb, 2, none⟩) (by go_size)).trans (by go_simp)
      have g1 : w1.cell? ⟨w3.heap.size, 0, none⟩ = some (.int .i64 kl) := (hb1.cell (p := ⟨w3.heap.size, 0, none⟩) (by go_size)).trans (by go_simp)
      have g2 : w1.cell? ⟨w3.heap.size, 1, none⟩ = some (.int .i64 kh) := (hb1.cell (p := ⟨w3.heap.size, 1, none⟩) (by go_size)).trans (by go_simp)
      have g3 : w1.cell? ⟨w3.heap.size, 2, none⟩ = some (.int .i64 ka) := (hb1.cell (p := ⟨w3.heap.size, 2, none⟩) (by go_size)).trans (by go_simp)
      have g4 : w1.cell? ⟨g, 0, none⟩ = some (.int .i64 lo) := (hb1.cell (p := ⟨g, 0, none⟩) (by go_size)).trans (by go_simp)
      have g5 : w1.cell? ⟨g, 1, none⟩ = some (.int .i64 hi) := (hb1.cell (p := ⟨g, 1, none⟩) (by go_size)).trans (by go_simp)
      refine hK.out _ _ ⟨g0, g1, g2, g3, g4, g5⟩ (fun hHeld => ?_)
      clear hK K
      refine two_ (i := 5) (j := 9) (Ni := some 90) (Nj := some 12) #[true, true, true, true, true, true, false, false, false, false, false, false] #[true, true, true, true, true, false, false, false, false, true, false, false] rfl rfl rfl rfl (by kernel_rfl) (by decide) (by decide) (fun K hK => ?_) (fun K hK => ?_)
      · go_simp
        refine (HC.out _).mono ?_
        rintro e w7 ⟨rfl, hb7⟩
        have hz7 := hb7.size
        try simp at hz7
        have p0 : nb ≠ w7.heap.size := by omega
        have pl0 : nb < w7.heap.size := by omega
        have p1 : w3.heap.size ≠ w7.heap.size := by omega
        have pl1 : w3.heap.size < w7.heap.size := by omega
        have p2 : g ≠ w7.heap.size := by omega
        have pl2 : g < w7.heap.size := by omega
        have y0 : w7.cell? ⟨nb, 2, none⟩ = some (.int .i64 ppm) := (hb7.cell (p := ⟨nb, 2, none⟩) (by go_size)).trans (by go_simp)
        have y1 : w7.cell? ⟨w3.heap.size, 0, none⟩ = some (.int .i64 kl) := (hb7.cell (p := ⟨w3.heap.size, 0, none⟩) (by go_size)).trans (by go_simp)
        have y2 : w7.cell? ⟨w3.heap.size, 1, none⟩ = some (.int .i64 kh) := (hb7.cell (p := ⟨w3.heap.size, 1, none⟩) (by go_size)).trans (by go_simp)
        have y3 : w7.cell? ⟨w3.heap.size, 2, none⟩ = some (.int .i64 ka) := (hb7.cell (p := ⟨w3.heap.size, 2, none⟩) (by go_size)).trans (by go_simp)
        have y4 : w7.cell? ⟨g, 0, none⟩ = some (.int .i64 lo) := (hb7.cell (p := ⟨g, 0, none⟩) (by go_size)).trans (by go_simp)
        have y5 : w7.cell? ⟨g, 1, none⟩ = some (.int .i64 hi) := (hb7.cell (p := ⟨g, 1, none⟩) (by go_size)).trans (by go_simp)
        refine hK.out _ _ ⟨y0, y1, y2, y3, y4, y5⟩ (fun hHeld => ?_)
        clear hK K
        refine pure_ (i := 6) (N := some 84) (v := ?_) (a' := ?_) #[true, true, true, true, true, true, true, false, false, false, false, false] rfl rfl (by kernel_rfl) (fun _ _ _ h => h) (Or.inl ⟨by rfl, ?_⟩) ?_ ?_
        rotate_left
        · intro w'; go_simp; with_reducible rfl
        rotate_left
        · go_simp; rfl
        refine pure_ (i := 7) (N := some 91) (v := ?_) (a' := ?_) #[true, true, true, true, true, true, true, true, false, false, false, false] rfl rfl (by kernel_rfl) (fun _ _ _ h => h) (Or.inl ⟨by rfl, ?_⟩) ?_ ?_
        rotate_left
        · intro w'; go_simp; with_reducible rfl
        rotate_left
        · go_simp; rfl
        refine pure_ (i := 8) (N := some 92) (v := ?_) (a' := ?_) #[true, true, true, true, true, true, true, true, true, false, false, false] rfl rfl (by kernel_rfl) (fun _ _ _ h => h) (Or.inl ⟨by rfl, ?_⟩) ?_ ?_
        rotate_left
        · intro w'; go_simp; with_reducible rfl
        rotate_left
        · go_simp; rfl
        refine one_ (i := 9) (N := some 12) #[true, true, true, true, true, true, true, true, true, true, false, false] rfl rfl (by kernel_rfl) (by decide) (fun K hK => ?_)
        go_simp
        refine hK.out _ _ ⟨by go_simp, by go_simp, by go_simp, by go_simp, by go_simp, by go_simp⟩ (fun hHeld => ?_)
        clear hK K
        first | exact hJ w7.heap.size _ ⟨heap_alloc_at _ _ (by first | rfl | simp), by omega, ((((Keep.refl _ w4).drew.drew).below hb1).below hb7).alloc _⟩ | exact hJ w1.heap.size _ ⟨Blk.below (heap_alloc_at _ _ (by first | rfl | simp)) hb7, by omega, ((((Keep.refl _ w4).drew.drew).below hb1).alloc _).below hb7⟩ | exact hJ w4.heap.size _ ⟨Blk.below (Blk.below (Blk.drew (Blk.drew (heap_alloc_new w4 _))) hb1) hb7, by omega, (((((Keep.refl _ w4).alloc _).drew.drew).below hb1).below hb7)⟩
      · go_simp
        refine hK.out _ _ ⟨by go_simp, by go_simp, by go_simp, by go_simp, by go_simp, by go_simp⟩ (fun hHeld => ?_)
        clear hK K
        refine one_ (i := 5) (N := some 90) #[true, true, true, true, true, true, false, false, false, true, false, false] rfl rfl (by kernel_rfl) (by decide) (fun K hK => ?_)
        go_simp
        refine (HC.out _).mono ?_
        rintro e w7 ⟨rfl, hb7⟩
        have hz7 := hb7.size
        try simp at hz7
        have p0 : nb ≠ w7.heap.size := by omega
        have pl0 : nb < w7.heap.size := by omega
        have p1 : w3.heap.size ≠ w7.heap.size := by omega
        have pl1 : w3.heap.size < w7.heap.size := by omega
        have p2 : g ≠ w7.heap.size := by omega
        have pl2 : g < w7.heap.size := by omega
        have y0 : w7.cell? ⟨nb, 2, none⟩ = some (.int .i64 ppm) := (hb7.cell (p := ⟨nb, 2, none⟩) (by go_size)).trans (by go_simp)
        have y1 : w7.cell? ⟨w3.heap.size, 0, none⟩ = some (.int .i64 kl) := (hb7.cell (p := ⟨w3.heap.size, 0, none⟩) (by go_size)).trans (by go_simp)
        have y2 : w7.cell? ⟨w3.heap.size, 1, none⟩ = some (.int .i64 kh) := (hb7.cell (p := ⟨w3.heap.size, 1, none⟩) (by go_size)).trans (by go_simp)
        have y3 : w7.cell? ⟨w3.heap.size, 2, none⟩ = some (.int .i64 ka) := (hb7.cell (p := ⟨w3.heap.size, 2, none⟩) (by go_size)).trans (by go_simp)
        have y4 : w7.cell? ⟨g, 0, none⟩ = some (.int .i64 lo) := (hb7.cell (p := ⟨g, 0, none⟩) (by go_size)).trans (by go_simp)
        have y5 : w7.cell? ⟨g, 1, none⟩ = some (.int .i64 hi) := (hb7.cell (p := ⟨g, 1, none⟩) (by go_size)).trans (by go_simp)
        refine hK.out _ _ ⟨y0, y1, y2, y3, y4, y5⟩ (fun hHeld => ?_)
        clear hK K
        refine pure_ (i := 6) (N := some 84) (v := ?_) (a' := ?_) #[true, true, true, true, true, true, true, false, false, true, false, false] rfl rfl (by kernel_rfl) (fun _ _ _ h => h) (Or.inl ⟨by rfl, ?_⟩) ?_ ?_
        rotate_left
        · intro w'; go_simp; with_reducible rfl
        rotate_left
        · go_simp; rfl
        refine pure_ (i := 7) (N := some 91) (v := ?_) (a' := ?_) #[true, true, true, true, true, true, true, true, false, true, false, false] rfl rfl (by kernel_rfl) (fun _ _ _ h => h) (Or.inl ⟨by rfl, ?_⟩) ?_ ?_
        rotate_left
        · intro w'; go_simp; with_reducible rfl
        rotate_left
        · go_simp; rfl
        refine pure_ (i := 8) (N := some 92) (v := ?_) (a' := ?_) #[true, true, true, true, true, true, true, true, true, true, false, false] rfl rfl (by kernel_rfl) (fun _ _ _ h => h) (Or.inl ⟨by rfl, ?_⟩) ?_ ?_
        rotate_left
        · intro w'; go_simp; with_reducible rfl
        rotate_left
        · go_simp; rfl
        first | exact hJ w7.heap.size _ ⟨heap_alloc_at _ _ (by first | rfl | simp), by omega, ((((Keep.refl _ w4).drew.drew).below hb1).below hb7).alloc _⟩ | exact hJ w1.heap.size _ ⟨Blk.below (heap_alloc_at _ _ (by first | rfl | simp)) hb7, by omega, ((((Keep.refl _ w4).drew.drew).below hb1).alloc _).below hb7⟩ | exact hJ w4.heap.size _ ⟨Blk.below (Blk.below (Blk.drew (Blk.drew (heap_alloc_new w4 _))) hb1) hb7, by omega, (((((Keep.refl _ w4).alloc _).drew.drew).below hb1).below hb7)⟩
    · go_simp
      refine hK.out _ _ ⟨by go_simp, by go_simp, by go_simp, by go_simp, by go_simp, by go_simp⟩ (fun hHeld => ?_)
      clear hK K
      refine one_ (i := 3) (N := some 88) #[true, true, true, true, true, false, false, false, false, true, false, false] rfl rfl (by kernel_rfl) (by decide) (fun K hK => ?_)
      go_simp
      refine (HA.out _ (by go_simp)).mono ?_
      rintro e w1 ⟨rfl, hb1⟩
      have hz1 := hb1.size
      try simp at hz1
      have n0 : nb ≠ w1.heap.size := by omega
      have nl0 : nb < w1.heap.size := by omega
      have n1 : w3.heap.size ≠ w1.heap.size := by omega
      have nl1 : w3.heap.size < w1.heap.size := by omega
      have n2 : g ≠ w1.heap.size := by omega
      have nl2 : g < w1.heap.size := by omega
      have g0 : w1.cell? ⟨nb, 2, none⟩ = some (.int .i64 ppm) := (hb1.cell (p := ⟨nb, 2, none⟩) (by go_size)).trans (by go_simp)
      have g1 : w1.cell? ⟨w3.heap.size, 0, none⟩ = some (.int .i64 kl) := (hb1.cell (p := ⟨w3.heap.size, 0, none⟩) (by go_size)).trans (by go_simp)
      have g2 : w1.cell? ⟨w3.heap.size, 1, none⟩ = some (.int .i64 kh) := (hb1.cell (p := ⟨w3.heap.size, 1, none⟩) (by go_size)).trans (by go_simp)
      have g3 : w1.cell? ⟨w3.heap.size, 2, none⟩ = some (.int .i64 ka) := (hb1.cell (p := ⟨w3.heap.size, 2, none⟩) (by go_size)).trans (by go_simp)
      have g4 : w1.cell? ⟨g, 0, none⟩ = some (.int .i64 lo) := (hb1.cell (p := ⟨g, 0, none⟩) (by go_size)).trans (by go_simp)
      have g5 : w1.cell? ⟨g, 1, none⟩ = some (.int .i64 hi) := (hb1.cell (p := ⟨g, 1, none⟩) (by go_size)).trans (by go_simp)
      refine hK.out _ _ ⟨g0, g1, g2, g3, g4, g5⟩ (fun hHeld => ?_)
      clear hK K
      refine one_ (i := 5) (N := some 90) #[true, true, true, true, true, true, false, false, false, true, false, false] rfl rfl (by kernel_rfl) (by decide) (fun K hK => ?_)
      go_simp
      refine (HC.out _).mono ?_
      rintro e w7 ⟨rfl, hb7⟩
      have hz7 := hb7.size
      try simp at hz7
      have p0 : nb ≠ w7.heap.size := by omega
      have pl0 : nb < w7.heap.size := by omega
      have p1 : w3.heap.size ≠ w7.heap.size := by omega
      have pl1 : w3.heap.size < w7.heap.size := by omega
      have p2 : g ≠ w7.heap.size := by omega
      have pl2 : g < w7.heap.size := by omega
      have y0 : w7.cell? ⟨nb, 2, none⟩ = some (.int .i64 ppm) := (hb7.cell (p := ⟨nb, 2, none⟩) (by go_size)).trans (by go_simp)
      have y1 : w7.cell? ⟨w3.heap.size, 0, none⟩ = some (.int .i64 kl) := (hb7.cell (p := ⟨w3.heap.size, 0, none⟩) (by go_size)).trans (by go_simp)
      have y2 : w7.cell? ⟨w3.heap.size, 1, none⟩ = some (.int .i64 kh) := (hb7.cell (p := ⟨w3.heap.size, 1, none⟩) (by go_size)).trans (by go_simp)
      have y3 : w7.cell? ⟨w3.heap.size, 2, none⟩ = some (.int .i64 ka) := (hb7.cell (p := ⟨w3.heap.size, 2, none⟩) (by go_size)).trans (by go_simp)
      have y4 : w7.cell? ⟨g, 0, none⟩ = some (.int .i64 lo) := (hb7.cell (p := ⟨g, 0, none⟩) (by go_size)).trans (by go_simp)
      have y5 : w7.cell? ⟨g, 1, none⟩ = some (.int .i64 hi) := (hb7.cell (p := ⟨g, 1, none⟩) (by go_size)).trans (by go_simp)
      refine hK.out _ _ ⟨y0, y1, y2, y3, y4, y5⟩ (fun hHeld => ?_)
      clear hK K
      refine pure_ (i := 6) (N := some 84) (v := ?_) (a' := ?_) #[true, true, true, true, true, true, true, false, false, true, false, false] rfl rfl (by kernel_rfl) (fun _ _ _ h => h) (Or.inl ⟨by rfl, ?_⟩) ?_ ?_
      rotate_left
      · intro w'; go_simp; with_reducible rfl
      rotate_left
      · go_simp; rfl
      refine pure_ (i := 7) (N := some 91) (v := ?_) (a' := ?_) #[true, true, true, true, true, true, true, true, false, true, false, false] rfl rfl (by kernel_rfl) (fun _ _ _ h => h) (Or.inl ⟨by rfl, ?_⟩) ?_ ?_
      rotate_left
      · intro w'; go_simp; with_reducible rfl
      rotate_left
      · go_simp; rfl
      refine pure_ (i := 8) (N := some 92) (v := ?_) (a' := ?_) #[true, true, true, true, true, true, true, true, true, true, false, false] rfl rfl (by kernel_rfl) (fun _ _ _ h => h) (Or.inl ⟨by rfl, ?_⟩) ?_ ?_
      rotate_left
      · intro w'; go_simp; with_reducible rfl
      rotate_left
      · go_simp; rfl
      first | exact hJ w7.heap.size _ ⟨heap_alloc_at _ _ (by first | rfl | simp), by omega, ((((Keep.refl _ w4).drew.drew).below hb1).below hb7).alloc _⟩ | exact hJ w1.heap.size _ ⟨Blk.below (heap_alloc_at _ _ (by first | rfl | simp)) hb7, by omega, ((((Keep.refl _ w4).drew.drew).below hb1).alloc _).below hb7⟩ | exact hJ w4.heap.size _ ⟨Blk.below (Blk.below (Blk.drew (Blk.drew (heap_alloc_new w4 _))) hb1) hb7, by omega, (((((Keep.refl _ w4).alloc _).drew.drew).below hb1).below hb7)⟩
  rintro q w8 ⟨hq, hqt, hk⟩
  have HX8 := Lib.hid (Blk.keep HX4.out hk (fun h => h))
  have HG8 := Lib.hid (Blk.keep HG4.out hk (fun h => h))
  have HB8 := Lib.hid (Blk.keep HB4.out hk (fun h => h))
  have HN8 := Lib.hid (Blk.keep HN4.out hk (fun h => h))
  have HM8 := Lib.hid (HM4.out.keep hk (fun h => h))
  have HK8 : Hid (Keep (fun _ => False) w w8) := HK4.out.trans hk (fun _ _ h => h)
  have hk2 := hk.size
  have hqlt := Blk.lt hq
  have c0 := Blk.at hq 0
  have c1 := Blk.at hq 1
  have d0 := Blk.free hq 0
  have d1 := Blk.free hq 1
  simp only [List.getElem?_toArray, List.getElem?_cons_zero, List.getElem?_cons_succ] at c0 c1
  have v0 : nb ≠ q := by omega
  have v1 : w3.heap.size ≠ q := by omega
  have v2 : g ≠ q := by omega
  have v3 : w.heap.size ≠ q := by omega
  have v4 : mb ≠ q := by omega
  have u0 : w8.cell? ⟨nb, 2, none⟩ = some (.int .i64 ppm) := (Blk.at HN8.out 2).trans rfl
  have u1 : w8.cell? ⟨w3.heap.size, 0, none⟩ = some (.int .i64 kl) := (Blk.at HX8.out 0).trans rfl
  have u2 : w8.cell? ⟨w3.heap.size, 1, none⟩ = some (.int .i64 kh) := (Blk.at HX8.out 1).trans rfl
  have u3 : w8.cell? ⟨w3.heap.size, 2, none⟩ = some (.int .i64 ka) := (Blk.at HX8.out 2).trans rfl
  have u4 : w8.cell? ⟨g, 0, none⟩ = some (.int .i64 lo) := (Blk.at HG8.out 0).trans rfl
  have u5 : w8.cell? ⟨g, 1, none⟩ = some (.int .i64 hi) := (Blk.at HG8.out 1).trans rfl
  have HQ8 := Lib.hid hq
  clear hq hk
  refine norm_ (a' := ?_) ?_ ?_
  rotate_left
  · simp only [putAll]; go_simp; rfl
  refine one_ (i := 10) (N := none) #[true, true, true, true, true, true, true, true, true, true, true, false] rfl rfl (by kernel_rfl) (by decide) (fun K hK => ?_)
  go_simp
  refine hK.out _ _ ⟨by go_simp, by go_simp, by go_simp, by go_simp, by go_simp, by go_simp⟩ (fun hHeld => ?_)
  clear hK K
  refine pure_ (i := 11) (N := some 13) (v := ?_) (a' := ?_) #[true, true, true, true, true, true, true, true, true, true, true, true] rfl rfl (by kernel_rfl) (fun _ _ _ h => h) (Or.inl ⟨by rfl, ?_⟩) ?_ ?_
  rotate_left
  · intro w'; go_simp; with_reducible rfl
  rotate_left
  · go_simp; rfl
  refine done_ (by kernel_rfl) ?_
  generalize hw9 : (w8.setCell ⟨q, 0, none⟩ (.int .i64 m1)).setCell ⟨q, 1, none⟩ (.int .i64 m2) = w9
  have HQ9 : Hid (Blk w9 q #[.int .i64 m1, .int .i64 m2] 34) := by rw [← hw9]; exact Blk.set (Blk.set HQ8.out 0 _) 1 _
  have HG9 : Hid (Blk w9 g #[.int .i64 lo, .int .i64 hi] 34) := by rw [← hw9]; exact Blk.far (Blk.far HG8.out v2 _) v2 _
  have HB9 : Hid (Blk w9 w.heap.size #[.int .i64 f, .int .i64 id, .bool true, .int .i64 t1, .int .i64 t2, .int .i64 t] 48) := by rw [← hw9]; exact Blk.far (Blk.far HB8.out v3 _) v3 _
  have HN9 : Hid (Blk w9 nb (nodeC id nodes ppm h0 mb) 108) := by rw [← hw9]; exact Blk.far (Blk.far HN8.out v0 _) v0 _
  have HM9 : Hid (MapIs w9 mb of) := by rw [← hw9]; exact MapIs.far (MapIs.far HM8.out v4 _) v4 _
  have HK9 : Hid (Keep (fun _ => False) w w9) := by rw [← hw9]; exact (HK8.out.setCell (.inr (by show w.heap.size ≤ q; omega)) _).setCell (.inr (by show w.heap.size ≤ q; omega)) _
  clear hw9 c0 c1 d0 d1 u0 u1 u2 u3 u4 u5 HX4 HG4 HB4 HN4 HM4 HK4 HX8 HG8 HB8 HN8 HM8 HK8 HQ8 x0 x1 x2 x3 x4 x5
  have c1 : w9.cell? ⟨nb, 3, none⟩ = some (.int .i64 h0) := (Blk.at HN9.out 3).trans rfl
  have c3 : w9.cell? ⟨g, 0, none⟩ = some (.int .i64 lo) := (Blk.at HG9.out 0).trans rfl
  have c4 : w9.cell? ⟨g, 1, none⟩ = some (.int .i64 hi) := (Blk.at HG9.out 1).trans rfl
  have c5 : w9.cell? ⟨q, 0, none⟩ = some (.int .i64 m1) := (Blk.at HQ9.out 0).trans rfl
  have c6 : w9.cell? ⟨q, 1, none⟩ = some (.int .i64 m2) := (Blk.at HQ9.out 1).trans rfl
  have d1 : w9.frozen? ⟨nb, 3, none⟩ = false := Blk.free HN9.out 3
  have d2 : w9.frozen? ⟨g, 0, none⟩ = false := Blk.free HG9.out 0
  have d3 : w9.frozen? ⟨g, 1, none⟩ = false := Blk.free HG9.out 1
  have e3 : g ≠ nb := by omega
  have e4 : w.heap.size ≠ nb := by omega
  go_wp2_with fail
  generalize hw4 : World.setCell (World.setCell (World.setCell w9 ⟨g, 0, none⟩ _) ⟨g, 1, none⟩ _) ⟨nb, 3, none⟩ _ = w10
  have HG4 : Hid (Blk w10 g #[.int .i64 m1, .int .i64 m2] 34) := by rw [← hw4]; exact Blk.far (p := ⟨nb, 3, none⟩) (Blk.set (Blk.set HG9.out 0 _) 1 _) e3 _
  have HB4 : Hid (Blk w10 w.heap.size #[.int .i64 f, .int .i64 id, .bool true, .int .i64 t1, .int .i64 t2, .int .i64 t] 48) := by rw [← hw4]; exact Blk.far (p := ⟨nb, 3, none⟩) (Blk.far (p := ⟨g, 1, none⟩) (Blk.far (p := ⟨g, 0, none⟩) HB9.out e1 _) e1 _) e4 _
  have HN4 : Hid (Blk w10 nb (nodeC id nodes ppm here mb) 108) := by rw [← hw4]; exact Blk.set (Blk.far (p := ⟨g, 1, none⟩) (Blk.far (p := ⟨g, 0, none⟩) HN9.out e0 _) e0 _) 3 _
  have HM4 : Hid (MapIs w10 mb of) := by rw [← hw4]; exact MapIs.far (p := ⟨nb, 3, none⟩) (MapIs.far (p := ⟨g, 1, none⟩) (MapIs.far (p := ⟨g, 0, none⟩) HM9.out e2 _) e2 _) HMN.out _
  have HK4 : Hid (Keep (fun x => x = nb) w w10) := by rw [← hw4]; exact (((HK9.out.mono (T := fun x => x = nb) (fun _ _ h => h.elim)).setCell (p := ⟨g, 0, none⟩) (.inr (by show w.heap.size ≤ g; omega)) _).setCell (p := ⟨g, 1, none⟩) (.inr (by show w.heap.size ≤ g; omega)) _).setCell (p := ⟨nb, 3, none⟩) (.inl rfl) _
  clear hw4 c1 c3 c4 c5 c6 d1 d2 d3 HQ9 HG9 HB9 HN9 HM9 HK9
  have c0 : w10.cell? ⟨nb, 4, none⟩ = some (.map (some mb)) := (Blk.at HN4.out 4).trans rfl
  have c2 : w10.cell? ⟨w.heap.size, 0, none⟩ = some (.int .i64 f) := (Blk.at HB4.out 0).trans rfl
  have c3 : w10.cell? ⟨g, 0, none⟩ = some (.int .i64 m1) := (Blk.at HG4.out 0).trans rfl
  have c4 : w10.cell? ⟨g, 1, none⟩ = some (.int .i64 m2) := (Blk.at HG4.out 1).trans rfl
  refine start_ (n := 10) (S := fun w' => w'.cell? ⟨nb, 4, none⟩ = some (.map (some mb)) ∧ w'.cell? ⟨w.heap.size, 0, none⟩ = some (.int .i64 f) ∧ w'.cell? ⟨g, 0, none⟩ = some (.int .i64 m1) ∧ w'.cell? ⟨g, 1, none⟩ = some (.int .i64 m2)) (ds := [9]) #[false, false, false, false, false, false, false, false, false, false] (by kernel_rfl) rfl rfl (⟨by go_simp, by go_simp, by go_simp, by go_simp⟩) (fun hHeld => ?_)
  generalize hW_ : World.drew _ = w5 at hHeld ⊢
  refine pure_ (i := 0) (N := some 101) (v := ?_) (a' := ?_) #[true, false, false, false, false, false, false, false, false, false] rfl rfl (by kernel_rfl) (fun _ _ _ h => h) (Or.inl ⟨by rfl, ?_⟩) ?_ ?_
  rotate_left
  · intro w'; go_simp; with_reducible rfl
  rotate_left
  · go_simp; rfl
  refine pure_ (i := 1) (N := some 102) (v := ?_) (a' := ?_) #[true, true, false, false, false, false, false, false, false, false] rfl rfl (by kernel_rfl) (fun _ _ _ h => h) (Or.inl ⟨by rfl, ?_⟩) ?_ ?_
  rotate_left
  · intro w'; go_simp; with_reducible rfl
  rotate_left
  · go_simp; rfl
  refine pure_ (i := 2) (N := some 103) (v := ?_) (a' := ?_) #[true, true, true, false, false, false, false, false, false, false] rfl rfl (by kernel_rfl) (fun _ _ _ h => h) (Or.inl ⟨by rfl, ?_⟩) ?_ ?_
  rotate_left
  · intro w'; go_simp; with_reducible rfl
  rotate_left
  · go_simp; rfl
  refine take_ (i := 3) (N := some 104) (v := ?_) (a' := ?_) #[true, true, true, true, false, false, false, false, false, false] rfl rfl (by kernel_rfl) (fun _ _ _ h => h) (Or.inl ⟨by rfl, ?_⟩) hHeld ?_ ?_
  rotate_left
  · rintro w' ⟨s0, s1, s2, s3⟩; go_simp; with_reducible rfl
  rotate_left
  · go_simp; rfl
  refine pure_ (i := 4) (N := some 105) (v := ?_) (a' := ?_) #[true, true, true, true, true, false, false, false, false, false] rfl rfl (by kernel_rfl) (fun _ _ _ h => h) (Or.inl ⟨by rfl, ?_⟩) ?_ ?_
  rotate_left
  · intro w'; go_simp; with_reducible rfl
  rotate_left
  · go_simp; rfl
  refine take_ (i := 5) (N := some 106) (v := ?_) (a' := ?_) #[true, true, true, true, true, true, false, false, false, false] rfl rfl (by kernel_rfl) (fun _ _ _ h => h) (Or.inl ⟨by rfl, ?_⟩) hHeld ?_ ?_
  rotate_left
  · rintro w' ⟨s0, s1, s2, s3⟩; go_simp; with_reducible rfl
  rotate_left
  · go_simp; rfl
  refine take_ (i := 6) (N := some 107) (v := ?_) (a' := ?_) #[true, true, true, true, true, true, true, false, false, false] rfl rfl (by kernel_rfl) (fun _ _ _ h => h) (Or.inl ⟨by rfl, ?_⟩) hHeld ?_ ?_
  rotate_left
  · rintro w' ⟨s0, s1, s2, s3⟩; go_simp; with_reducible rfl
  rotate_left
  · go_simp; rfl
  refine pure_ (i := 7) (N := some 108) (v := ?_) (a' := ?_) #[true, true, true, true, true, true, true, true, false, false] rfl rfl (by kernel_rfl) (fun _ _ _ h => h) (Or.inl ⟨by rfl, ?_⟩) ?_ ?_
  rotate_left
  · intro w'; go_simp; with_reducible rfl
  rotate_left
  · go_simp; rfl
  refine pure_ (i := 8) (N := some 109) (v := ?_) (a' := ?_) #[true, true, true, true, true, true, true, true, true, false] rfl rfl (by kernel_rfl) (fun _ _ _ h => h) (Or.inl ⟨by rfl, ?_⟩) ?_ ?_
  rotate_left
  · intro w'; go_simp; with_reducible rfl
  rotate_left
  · go_simp; rfl
  refine last_ (i := 9) (N := none) #[true, true, true, true, true, true, true, true, true, true] rfl rfl (by kernel_rfl) (by decide) (fun K hK => ?_)
  have HM5 : Hid (MapIs w5 mb of) := by rw [← hW_]; exact HM4.out
  have HN5 : Hid (Blk w5 nb (nodeC id nodes ppm here mb) 108) := by rw [← hW_]; exact HN4.out
  have HK5 : Hid (Keep (fun x => x = nb) w w5) := by rw [← hW_]; exact ⟨HK4.out.os, HK4.out.tape, HK4.out.output, HK4.out.size, HK4.out.block⟩
  obtain ⟨w6, hr6, hm6, hk6⟩ := run_mapUpdate (P := Try.prog) HM5.out Try.underlying106 Try.underlying3 f ⟨m1, m2, here⟩
  unfold knV at hr6
  have HM6 := Lib.hid hm6
  have HK6 : Hid (Keep (fun x => x = nb ∨ x = mb) w w6) := (HK5.out.mono (fun _ _ h => .inl h)).trans hk6 (fun _ _ h => .inr h)
  have HN6 : Hid (Blk w6 nb (nodeC id nodes ppm here mb) 108) := Blk.keep HN5.out hk6 (fun h => HMN.out h.symm)
  clear hm6 hk6
  go_simp
  refine hK.out _ _ ?_
  clear hK K
  refine done_ (by kernel_rfl) ?_
  go_wp2
  go_returns
  exact ⟨rfl, HN6.out, HM6.out, HK6.out⟩
end Go.Proofs.Ytjohngeaifgcgaa

/- What a node does when it hears a letter of true clocks. -/
import Derived.Test.YtjohngeaifgcgaaWProbe
import Derived.Test.YtjohngeaifgcgaaWMap
namespace Go.Proofs.Ytjohngeaifgcgaa
open Go.RowKit
open Noon (Kn)
open Go.Proofs.YtjohngeaifgcgaaW.PrintLast

theorem back_no (nb : Nat) (h0 here : Int) (w : World) (h3 : w.cell? ⟨nb, 3, none⟩ = some (.int .i64 h0)) (b1 : 0 ≤ here) (b2 : h0 ≤ here) (b3 : here ≤ 1000000000000) :
    Calls Try.prog 49 #[.pointer (some ⟨nb, 0, none⟩), .int .i64 here] w fun e w' => e = .returned (.bool false) ∧ w = w' := by
  go_enter Try.func49, Try.ntmps49
  go_wp2
  go_ret
  simp
  omega

set_option maxRecDepth 100000 in
set_option maxHeartbeats 1000000 in
theorem aged_any (nb : Nat) (k : Kn) (here ppm : Int) (w : World) (h2 : w.cell? ⟨nb, 2, none⟩ = some (.int .i64 ppm)) (hp : 0 ≤ ppm) (hp2 : ppm ≤ 1000) (b1 : 0 ≤ here - k.at_) (b2 : here - k.at_ ≤ 1000000000000)
    (b3 : -1000000000000 ≤ k.lo) (b4 : k.lo ≤ 1000000000000) (b5 : -1000000000000 ≤ k.hi) (b6 : k.hi ≤ 1000000000000) :
    Calls Try.prog 51 #[.pointer (some ⟨nb, 0, none⟩), knV k, .int .i64 here] w fun e w' =>
      e = .returned (.agg #[.int .i64 (k.lo - slackD (here - k.at_) ppm), .int .i64 (k.hi + slackD (here - k.at_) ppm)]) ∧ Below w.heap.size w w' := by
  obtain ⟨lo, hi, at_⟩ := k
  unfold knV
  simp only at b1 b2 b3 b4 b5 b6 ⊢
  have hsb : 0 ≤ slackD (here - at_) ppm ∧ slackD (here - at_) ppm ≤ 4000000000002 := by
    have k1 : 0 ≤ (here - at_) * (3 * ppm) := Int.mul_nonneg b1 (by omega)
    have k2 : (here - at_) * (3 * ppm) ≤ 1000000000000 * 3000 := Int.mul_le_mul b2 (by omega) (by omega) (by omega)
    unfold slackD byD upD; omega
  have HS0 := Lib.hid (fun w => slack_any (here - at_) ppm w b1 b2 hp hp2)
  obtain ⟨sl, hsl⟩ : ∃ sl, sl = slackD (here - at_) ppm := ⟨_, rfl⟩
  rw [← hsl] at hsb HS0 ⊢
  clear hsl
  have l1 := World.block_lt_of_cell? w _ h2
  have HW := Lib.hid (fun w => wider_any lo hi sl w (by omega) (by omega) (by omega) (by omega) (by omega) (by omega))
  have hw1 : IntKind.i64.wrap (here - at_) = here - at_ := IntWalk.i64_in _ (by omega)
  go_enter Try.func51, Try.ntmps51
  go_wp2_with fail
  refine start_ (n := 13) (S := fun w' => w'.cell? ⟨nb, 2, none⟩ = some (.int .i64 ppm) ∧ w'.cell? ⟨w.heap.size, 0, none⟩ = some (.int .i64 lo) ∧ w'.cell? ⟨w.heap.size, 1, none⟩ = some (.int .i64 hi) ∧ w'.cell? ⟨w.heap.size, 2, none⟩ = some (.int .i64 at_)) (ds := []) #[false, false, false, false, false, false, false, false, false, false, false, false, false] (by kernel_rfl) rfl rfl (⟨by go_simp, by go_simp, by go_simp, by go_simp⟩) (fun hHeld => ?_)
  refine pure_ (i := 0) (N := some 7) (v := ?_) (a' := ?_) #[true, false, false, false, false, false, false, false, false, false, false, false, false] rfl rfl (by kernel_rfl) (fun _ _ _ h => h) (Or.inl ⟨by rfl, ?_⟩) ?_ ?_
  rotate_left
  · intro w'; go_simp; with_reducible rfl
  rotate_left
  · go_simp; rfl
  refine take_ (i := 1) (N := some 8) (v := ?_) (a' := ?_) #[true, true, false, false, false, false, false, false, false, false, false, false, false] rfl rfl (by kernel_rfl) (fun _ _ _ h => h) (Or.inl ⟨by rfl, ?_⟩) hHeld ?_ ?_
  rotate_left
  · rintro w' ⟨s0, s1, s2, s3⟩; go_simp; with_reducible rfl
  rotate_left
  · go_simp; rfl
  refine pure_ (i := 2) (N := some 9) (v := ?_) (a' := ?_) #[true, true, true, false, false, false, false, false, false, false, false, false, false] rfl rfl (by kernel_rfl) (fun _ _ _ h => h) (Or.inl ⟨by rfl, ?_⟩) ?_ ?_
  rotate_left
  · intro w'; go_simp; with_reducible rfl
  rotate_left
  · go_simp; rfl
  refine pure_ (i := 3) (N := some 10) (v := ?_) (a' := ?_) #[true, true, true, true, false, false, false, false, false, false, false, false, false] rfl rfl (by kernel_rfl) (fun _ _ _ h => h) (Or.inl ⟨by rfl, ?_⟩) ?_ ?_
  rotate_left
  · intro w'; go_simp; with_reducible rfl
  rotate_left
  · go_simp; rfl
  refine take_ (i := 4) (N := some 11) (v := ?_) (a' := ?_) #[true, true, true, true, true, false, false, false, false, false, false, false, false] rfl rfl (by kernel_rfl) (fun _ _ _ h => h) (Or.inl ⟨by rfl, ?_⟩) hHeld ?_ ?_
  rotate_left
  · rintro w' ⟨s0, s1, s2, s3⟩; go_simp; with_reducible rfl
  rotate_left
  · go_simp; rfl
  refine pure_ (i := 5) (N := some 12) (v := ?_) (a' := ?_) #[true, true, true, true, true, true, false, false, false, false, false, false, false] rfl rfl (by kernel_rfl) (fun _ _ _ h => h) (Or.inl ⟨by rfl, ?_⟩) ?_ ?_
  rotate_left
  · intro w'; go_simp; with_reducible rfl
  rotate_left
  · go_simp; rfl
  refine pure_ (i := 6) (N := some 13) (v := ?_) (a' := ?_) #[true, true, true, true, true, true, true, false, false, false, false, false, false] rfl rfl (by kernel_rfl) (fun _ _ _ h => h) (Or.inl ⟨by rfl, ?_⟩) ?_ ?_
  rotate_left
  · intro w'; go_simp; with_reducible rfl
  rotate_left
  · go_simp; rfl
  refine pure_ (i := 7) (N := some 14) (v := ?_) (a' := ?_) #[true, true, true, true, true, true, true, true, false, false, false, false, false] rfl rfl (by kernel_rfl) (fun _ _ _ h => h) (Or.inl ⟨by rfl, ?_⟩) ?_ ?_
  rotate_left
  · intro w'; go_simp; with_reducible rfl
  rotate_left
  · go_simp; rfl
  refine pure_ (i := 8) (N := some 15) (v := ?_) (a' := ?_) #[true, true, true, true, true, true, true, true, true, false, false, false, false] rfl rfl (by kernel_rfl) (fun _ _ _ h => h) (Or.inl ⟨by rfl, ?_⟩) ?_ ?_
  rotate_left
  · intro w'; go_simp; with_reducible rfl
  rotate_left
  · go_simp; rfl
  refine take_ (i := 9) (N := some 16) (v := ?_) (a' := ?_) #[true, true, true, true, true, true, true, true, true, true, false, false, false] rfl rfl (by kernel_rfl) (fun _ _ _ h => h) (Or.inl ⟨by rfl, ?_⟩) hHeld ?_ ?_
  rotate_left
  · rintro w' ⟨s0, s1, s2, s3⟩; go_simp; with_reducible rfl
  rotate_left
  · go_simp; rfl
  refine one_ (i := 10) (N := some 17) #[true, true, true, true, true, true, true, true, true, true, true, false, false] rfl rfl (by kernel_rfl) (by decide) (fun K hK => ?_)
  go_simp
  refine (HS0.out _).mono ?_
  rintro e w' ⟨rfl, rfl⟩
  refine hK.out _ _ ⟨by go_simp, by go_simp, by go_simp, by go_simp⟩ (fun hHeld => ?_)
  clear hK K
  refine one_ (i := 11) (N := some 18) #[true, true, true, true, true, true, true, true, true, true, true, true, false] rfl rfl (by kernel_rfl) (by decide) (fun K hK => ?_)
  go_simp
  refine (HW.out _).mono ?_
  rintro e w1 ⟨rfl, hb1⟩
  have g0 : w1.cell? ⟨nb, 2, none⟩ = some (.int .i64 ppm) := (hb1.cell (p := ⟨nb, 2, none⟩) (by go_size)).trans (by go_simp)
  have g1 : w1.cell? ⟨w.heap.size, 0, none⟩ = some (.int .i64 lo) := (hb1.cell (p := ⟨w.heap.size, 0, none⟩) (by go_size)).trans (by go_simp)
  have g2 : w1.cell? ⟨w.heap.size, 1, none⟩ = some (.int .i64 hi) := (hb1.cell (p := ⟨w.heap.size, 1, none⟩) (by go_size)).trans (by go_simp)
  have g3 : w1.cell? ⟨w.heap.size, 2, none⟩ = some (.int .i64 at_) := (hb1.cell (p := ⟨w.heap.size, 2, none⟩) (by go_size)).trans (by go_simp)
  have g4 : w1.cell? ⟨w.heap.size + 1, 0, none⟩ = some (.int .i64 0) := (hb1.cell (p := ⟨w.heap.size + 1, 0, none⟩) (by go_size)).trans (by go_simp)
  have g5 : w1.cell? ⟨w.heap.size + 1, 1, none⟩ = some (.int .i64 0) := (hb1.cell (p := ⟨w.heap.size + 1, 1, none⟩) (by go_size)).trans (by go_simp)
  have g6 : w1.frozen? ⟨w.heap.size + 1, 0, none⟩ = false := (hb1.frozen (p := ⟨w.heap.size + 1, 0, none⟩) (by go_size)).trans (by go_simp)
  have g7 : w1.frozen? ⟨w.heap.size + 1, 1, none⟩ = false := (hb1.frozen (p := ⟨w.heap.size + 1, 1, none⟩) (by go_size)).trans (by go_simp)
  have n2 : nb ≠ w.heap.size + 1 := by omega
  have HB1 : Hid (Blk w1 (w.heap.size + 1) #[.int .i64 0, .int .i64 0] 34) := Blk.below (Blk.drewN (heap_alloc_at _ _ (by simp)) _) hb1
  have HL : Hid (Below w.heap.size w w1) := (((Below.refl w.heap.size w).alloc (Nat.le_refl _) _).alloc (by go_size) _).drew.trans (hb1.mono (B' := w.heap.size) (by go_size))
  refine hK.out _ _ ⟨g0, g1, g2, g3⟩ (fun hHeld => ?_)
  clear hK K
  refine one_ (i := 12) (N := none) #[true, true, true, true, true, true, true, true, true, true, true, true, true] rfl rfl (by kernel_rfl) (by decide) (fun K hK => ?_)
  go_simp
  refine hK.out _ _ ⟨by go_simp, by go_simp, by go_simp, by go_simp⟩ (fun hHeld => ?_)
  clear hK K
  refine done_ (by kernel_rfl) ?_
  go_wp2
  refine bodyPost_ret (res_cell (g := w.heap.size + 1) (t := 34) (cs := #[.int .i64 (lo - sl), .int .i64 (hi + sl)]) rfl _ rfl (Blk.set (Blk.set HB1.out 0 _) 1 _) Try.underlying34 rfl (by kernel_rfl)) rfl ?_
  exact ⟨rfl, (HL.out.setCell (by simp) _).setCell (by simp) _⟩

/-- a node's cells -/
def nodeC (id nodes : Nat) (ppm here : Int) (mb : Nat) : Array Value := #[.int .i64 id, .int .i64 nodes, .int .i64 ppm, .int .i64 here, .map (some mb)]

set_option maxRecDepth 100000 in
set_option maxHeartbeats 1000000 in
/-- a letter that is no answer -/
theorem hear_ask (nb mb id nodes f : Nat) (ppm h0 here t1 t2 t : Int) (w : World) (hn : Blk w nb (nodeC id nodes ppm h0 mb) 108) (hf : f < nodes) (hne : f ≠ id)
    (b1 : 0 ≤ here) (b2 : h0 ≤ here) (b3 : here ≤ 1000000000000) :
    Calls Try.prog 26 #[.pointer (some ⟨nb, 0, none⟩), .agg #[.int .i64 f, .int .i64 id, .bool false, .int .i64 t1, .int .i64 t2, .int .i64 t], .int .i64 here] w fun e w' =>
      e = .returned (.tuple #[.bool false, .nilIface]) ∧ Blk w' nb (nodeC id nodes ppm here mb) 108 ∧ Keep (fun k => k = nb) w w' := by
  have h0' := hn.at 0
  have h1' := hn.at 1
  have h3' := hn.at 3
  have hfr := hn.free 3
  simp only [nodeC, List.getElem?_toArray, List.getElem?_cons_zero, List.getElem?_cons_succ] at h0' h1' h3'
  have l1 := World.block_lt_of_cell? w _ h3'
  have HN := Lib.hid hn
  clear hn
  have q1 : ((f : Int) == (id : Int)) = false := by simp; omega
  have q2 : ((id : Int) != (id : Int)) = false := by simp
  have q3 : nodeB nodes f = true := by simp [nodeB]; omega
  have q4 : ((f : Int) != (id : Int)) = true := by simp; omega
  have HB := Lib.hid (fun w h => back_no nb h0 here w h b1 b2 b3)
  have HF := Lib.hid (fun w => (by rw [← q3]; exact node_any nodes f w : Calls Try.prog 28 #[.int .i64 nodes, .int .i64 f] w fun e w' => e = .returned (.bool true) ∧ w = w'))
  clear q3
  go_enter Try.func26, Try.ntmps26
  go_wp2_with fail
  refine (HB.out _ (by go_simp)).mono ?_
  rintro e w' ⟨rfl, rfl⟩
  go_wp2_with fail
  go_quiet ((go_at_call 28; exact quiet_same (HF.out _)))
  go_wp2
  go_returns
  exact ⟨rfl, Blk.set (Blk.drewN (Blk.alloc HN.out _) _) 3 _, (((Keep.refl (fun k => k = nb) w).alloc _).drewN _).setCell (.inl rfl) _⟩
end Go.Proofs.Ytjohngeaifgcgaa

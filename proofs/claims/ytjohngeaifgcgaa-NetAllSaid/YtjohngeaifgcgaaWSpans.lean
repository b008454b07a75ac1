/- What a node knows: its spans. -/
import Derived.Test.YtjohngeaifgcgaaWTab
import Derived.Test.YtjohngeaifgcgaaWNetHear
import Derived.Test.YtjohngeaifgcgaaWCheck
namespace Go.Proofs.Ytjohngeaifgcgaa
open Go.RowKit
open Noon (Kn)
open Go.Proofs.YtjohngeaifgcgaaW.PrintLast

/-- cells of spans that are told, of the first c nodes -/
def telC (tl : Nat → Option (Int × Int)) (c q : Nat) : Value := if q / 2 < c then (match tl (q / 2) with | none => .int .i64 0 | some x => if q % 2 = 0 then .int .i64 x.1 else .int .i64 x.2) else .int .i64 0
def hasC (tl : Nat → Option (Int × Int)) (id c j : Nat) : Value := .bool (decide (j < c ∧ ((tl j).isSome = true ∨ j = id)))

structure Spn (B : Nat) (w w' : World) (n : Nat) (tl : Nat → Option (Int × Int)) (id g1 g2 c : Nat) : Prop where
  below : Below B w w'
  s : w'.rowIs g1 34 (n * 2) (telC tl c)
  h : w'.rowIs g2 4 n (hasC tl id c)
  b1 : B ≤ g1
  b2 : B ≤ g2

section
variable {B : Nat} {w w' : World} {n : Nat} {tl : Nat → Option (Int × Int)} {id g1 g2 c : Nat}
theorem Spn.alloc (h : Spn B w w' n tl id g1 g2 c) (o : Obj) : Spn B w (w'.alloc o) n tl id g1 g2 c :=
  ⟨h.below.alloc (by have := h.s.lt; have := h.b1; omega) _, h.s.alloc _, h.h.alloc _, h.b1, h.b2⟩
theorem Spn.drew (h : Spn B w w' n tl id g1 g2 c) : Spn B w w'.drew n tl id g1 g2 c := ⟨h.below.drew, h.s, h.h, h.b1, h.b2⟩
theorem Spn.later (h : Spn B w w' n tl id g1 g2 c) {w2 : World} (hb : Below w'.heap.size w' w2) : Spn B w w2 n tl id g1 g2 c :=
  ⟨h.below.trans (hb.mono (by have := h.s.lt; have := h.b1; omega)), h.s.of_block (hb.block _ h.s.lt), h.h.of_block (hb.block _ h.h.lt), h.b1, h.b2⟩
theorem Spn.start1 (w : World) (n : Nat) (tl : Nat → Option (Int × Int)) (id : Nat) :
    Spn w.heap.size w (World.drew ((w.alloc (.cells (madeCells #[.int .i64 0, .int .i64 0] (n * 2)) 34)).alloc (.cells (madeCells #[.bool false] n) 4))) n tl id w.heap.size (w.heap.size + 1) 0 := by
  have h2 := World.rowIs_made (w.alloc (.cells (madeCells #[.int .i64 0, .int .i64 0] (n * 2)) 34)) (.bool false) n 4
  simp only [World.size_alloc] at h2
  exact ⟨(((Below.refl _ _).alloc (Nat.le_refl _) _).alloc (by simp) _).drew, ((rowIs_spans w n).alloc _).congr (fun q _ => by simp [telC]), h2.congr (fun q _ => by simp [hasC]), Nat.le_refl _, by omega⟩
theorem Spn.start2 (w : World) (n : Nat) (tl : Nat → Option (Int × Int)) (id : Nat) :
    Spn w.heap.size w (World.drew ((w.alloc (.cells (madeCells #[.bool false] n) 4)).alloc (.cells (madeCells #[.int .i64 0, .int .i64 0] (n * 2)) 34))) n tl id (w.heap.size + 1) w.heap.size 0 := by
  have h2 := rowIs_spans (w.alloc (.cells (madeCells #[.bool false] n) 4)) n
  simp only [World.size_alloc] at h2
  exact ⟨(((Below.refl _ _).alloc (Nat.le_refl _) _).alloc (by simp) _).drew, h2.congr (fun q _ => by simp [telC]), ((World.rowIs_made w _ n 4).alloc _).congr (fun q _ => by simp [hasC]), by omega, Nat.le_refl _⟩
theorem Spn.ne (h : Spn B w w' n tl id g1 g2 c) : g2 ≠ g1 := rowIs_ne h.h h.s (by decide)
/-- nothing is known of it -/
theorem Spn.unk (h : Spn B w w' n tl id g1 g2 c) (ht : tl c = none) : Spn B w (w'.setCell ⟨g2, c, none⟩ (.bool ((c : Int) == (id : Int)))) n tl id g1 g2 (c + 1) := by
  refine ⟨h.below.setCell h.b2 _, (h.s.setOther (Ne.symm h.ne) _).congr ?_, (h.h.set c _).congr ?_, h.b1, h.b2⟩
  · intro q _
    unfold telC
    by_cases q1 : q / 2 < c
    · simp [q1, show q / 2 < c + 1 by omega]
    · by_cases q2 : q / 2 = c
      · simp [q2, ht]
      · simp [q1, show ¬ q / 2 < c + 1 by omega]
  · intro q _
    unfold hasC
    by_cases q0 : q = c
    · subst q0
      have e : ((q : Int) == (id : Int)) = decide (q = id) := by
        by_cases e : q = id
        · simp [e]
        · simp [e]; omega
      simp [ht, e]
    · by_cases q1 : q < c
      · simp [q0, q1, show q < c + 1 by omega]
      · simp [q0, q1, show ¬ q < c + 1 by omega]
theorem Spn.kno (h : Spn B w w' n tl id g1 g2 c) {x y : Int} (ht : tl c = some (x, y)) :
    Spn B w (((w'.setCell ⟨g1, c * 2, none⟩ (.int .i64 x)).setCell ⟨g1, c * 2 + 1, none⟩ (.int .i64 y)).setCell ⟨g2, c, none⟩ (.bool true)) n tl id g1 g2 (c + 1) := by
  have ne := h.ne
  refine ⟨((h.below.setCell h.b1 _).setCell h.b1 _).setCell h.b2 _, (((h.s.set (c * 2) _).set (c * 2 + 1) _).setOther (Ne.symm ne) _).congr ?_, ((((h.h.setOther ne _).setOther ne _).set c _)).congr ?_, h.b1, h.b2⟩
  · intro q _
    unfold telC
    by_cases q0 : q = c * 2
    · subst q0
      simp [ht, show c * 2 / 2 = c by omega]
    · by_cases q1 : q = c * 2 + 1
      · subst q1
        simp [ht, show (c * 2 + 1) / 2 = c by omega]
      · by_cases q2 : q / 2 < c
        · simp [q0, q1, q2, show q / 2 < c + 1 by omega]
        · simp [q0, q1, q2, show ¬ q / 2 < c + 1 by omega]
  · intro q _
    unfold hasC
    by_cases q0 : q = c
    · subst q0; simp [ht]
    · by_cases q1 : q < c
      · simp [q0, q1, show q < c + 1 by omega]
      · simp [q0, q1, show ¬ q < c + 1 by omega]
end

def SpansAt (w : World) (n : Nat) (tl : Nat → Option (Int × Int)) (id : Nat) (e : Ending) (w' : World) : Prop :=
  ∃ g1 g2, e = .returned (.tuple #[.slice (some ⟨g1, 0, none⟩) n n, .slice (some ⟨g2, 0, none⟩) n n, .nilIface]) ∧ Spn w.heap.size w w' n tl id g1 g2 n

set_option maxRecDepth 100000 in
set_option maxHeartbeats 4000000 in
theorem spans_ok (nb mb id n : Nat) (ppm h0 here : Int) (of : Nat → Option Kn) (w : World) (hn : Blk w nb (nodeC id n ppm h0 mb) 108) (hm : MapIs w mb of) (h2 : n ≤ 6) (p1 : 0 ≤ ppm) (p2 : ppm ≤ 1000)
    (b1 : 0 ≤ here) (b2 : h0 ≤ here) (b3 : here ≤ 1000000000000)
    (hk : ∀ j k, of j = some k → 0 ≤ here - k.at_ ∧ here - k.at_ ≤ 1000000000000 ∧ -1000000000000 ≤ k.lo ∧ k.lo ≤ 1000000000000 ∧ -1000000000000 ≤ k.hi ∧ k.hi ≤ 1000000000000 ∧ rightB (k.lo - slackD (here - k.at_) ppm) (k.hi + slackD (here - k.at_) ppm) = true) :
    Calls Try.prog 52 #[.pointer (some ⟨nb, 0, none⟩), .int .i64 here] w (SpansAt w n (fun j => (of j).map fun k => Noon.aged k here ppm) id) := by
  have hmk3 := make_spans n h2
  have hmk4 := run_make_row' (P := Try.prog) 94 4 (.bool false) 1 Try.underlying94 infoBool rfl .i64 .i64 n (by omega) (by omega)
  have c1 : w.cell? ⟨nb, 1, none⟩ = some (.int .i64 n) := (Blk.at hn 1).trans rfl
  have c3 : w.cell? ⟨nb, 3, none⟩ = some (.int .i64 h0) := (Blk.at hn 3).trans rfl
  have l1 := Blk.lt hn
  have HN := Lib.hid hn
  have HM := Lib.hid hm
  have HK := Lib.hid hk
  have HB := Lib.hid (fun w h => back_no nb h0 here w h b1 b2 b3)
  obtain ⟨tl, htl⟩ : ∃ tl, tl = fun j => (of j).map fun k => Noon.aged k here ppm := ⟨_, rfl⟩
  rw [← htl]
  have HT := Lib.hid htl
  clear hn hm hk htl
  go_enter Try.func52, Try.ntmps52
  go_wp2_with fail
  refine (HB.out _ (by go_simp)).mono ?_
  rintro e w' ⟨rfl, rfl⟩
  go_wp2_with fail
  refine start_ (n := 12) (S := fun w' => w'.cell? ⟨nb, 1, none⟩ = some (.int .i64 n)) (ds := []) #[false, false, false, false, false, false, false, false, false, false, false, false] (by kernel_rfl) rfl rfl (by go_simp) (fun hHeld => ?_)
  refine pure_ (i := 0) (N := some 17) (v := ?_) (a' := ?_) #[true, false, false, false, false, false, false, false, false, false, false, false] rfl rfl (by kernel_rfl) (fun _ _ _ h => h) (Or.inl ⟨by rfl, ?_⟩) ?_ ?_
  rotate_left
  · intro w'; go_simp; with_reducible rfl
  rotate_left
  · go_simp; rfl
  refine pure_ (i := 1) (N := some 18) (v := ?_) (a' := ?_) #[true, true, false, false, false, false, false, false, false, false, false, false] rfl rfl (by kernel_rfl) (fun _ _ _ h => h) (Or.inl ⟨by rfl, ?_⟩) ?_ ?_
  rotate_left
  · intro w'; go_simp; with_reducible rfl
  rotate_left
  · go_simp; rfl
  refine pure_ (i := 2) (N := some 19) (v := ?_) (a' := ?_) #[true, true, true, false, false, false, false, false, false, false, false, false] rfl rfl (by kernel_rfl) (fun _ _ _ h => h) (Or.inl ⟨by rfl, ?_⟩) ?_ ?_
  rotate_left
  · intro w'; go_simp; with_reducible rfl
  rotate_left
  · go_simp; rfl
  refine take_ (i := 3) (N := some 20) (v := ?_) (a' := ?_) #[true, true, true, true, false, false, false, false, false, false, false, false] rfl rfl (by kernel_rfl) (fun _ _ _ h => h) (Or.inl ⟨by rfl, ?_⟩) hHeld ?_ ?_
  rotate_left
  · rintro w' s0; go_simp; with_reducible rfl
  rotate_left
  · go_simp; rfl
  refine pure_ (i := 5) (N := some 22) (v := ?_) (a' := ?_) #[true, true, true, true, false, true, false, false, false, false, false, false] rfl rfl (by kernel_rfl) (fun _ _ _ h => h) (Or.inl ⟨by rfl, ?_⟩) ?_ ?_
  rotate_left
  · intro w'; go_simp; with_reducible rfl
  rotate_left
  · go_simp; rfl
  refine pure_ (i := 6) (N := some 23) (v := ?_) (a' := ?_) #[true, true, true, true, false, true, true, false, false, false, false, false] rfl rfl (by kernel_rfl) (fun _ _ _ h => h) (Or.inl ⟨by rfl, ?_⟩) ?_ ?_
  rotate_left
  · intro w'; go_simp; with_reducible rfl
  rotate_left
  · go_simp; rfl
  refine pure_ (i := 7) (N := some 24) (v := ?_) (a' := ?_) #[true, true, true, true, false, true, true, true, false, false, false, false] rfl rfl (by kernel_rfl) (fun _ _ _ h => h) (Or.inl ⟨by rfl, ?_⟩) ?_ ?_
  rotate_left
  · intro w'; go_simp; with_reducible rfl
  rotate_left
  · go_simp; rfl
  refine take_ (i := 8) (N := some 25) (v := ?_) (a' := ?_) #[true, true, true, true, false, true, true, true, true, false, false, false] rfl rfl (by kernel_rfl) (fun _ _ _ h => h) (Or.inl ⟨by rfl, ?_⟩) hHeld ?_ ?_
  rotate_left
  · rintro w' s0; go_simp; with_reducible rfl
  rotate_left
  · go_simp; rfl
  refine join_ (σ := Nat × Nat) 0 #[true, true, true, true, true, true, true, true, true, true, true, true] (fun g => [(21, .slice (some ⟨g.1, 0, none⟩) n n), (7, .slice (some ⟨g.1, 0, none⟩) n n), (26, .slice (some ⟨g.2, 0, none⟩) n n), (8, .slice (some ⟨g.2, 0, none⟩) n n)]) (fun g w' => Spn w.heap.size w w' n tl id g.1 g.2 0) ?_ (fun hJ => ?_)
  rotate_left
  · refine two_ (i := 4) (j := 9) (Ni := some 21) (Nj := some 26) #[true, true, true, true, true, true, true, true, true, false, false, false] #[true, true, true, true, false, true, true, true, true, true, false, false] rfl rfl rfl rfl (by kernel_rfl) (by decide) (by decide) (fun K hK => ?_) (fun K hK => ?_)
    · go_simp
      refine hK.out _ _ (by go_simp) (fun hHeld => ?_)
      clear hK K
      refine pure_ (i := 10) (N := some 7) (v := ?_) (a' := ?_) #[true, true, true, true, true, true, true, true, true, false, true, false] rfl rfl (by kernel_rfl) (fun _ _ _ h => h) (Or.inl ⟨by rfl, ?_⟩) ?_ ?_
      rotate_left
      · intro w'; go_simp; with_reducible rfl
      rotate_left
      · go_simp; rfl
      refine one_ (i := 9) (N := some 26) #[true, true, true, true, true, true, true, true, true, true, true, false] rfl rfl (by kernel_rfl) (by decide) (fun K hK => ?_)
      go_simp
      refine hK.out _ _ (by go_simp) (fun hHeld => ?_)
      clear hK K
      refine pure_ (i := 11) (N := some 8) (v := ?_) (a' := ?_) #[true, true, true, true, true, true, true, true, true, true, true, true] rfl rfl (by kernel_rfl) (fun _ _ _ h => h) (Or.inl ⟨by rfl, ?_⟩) ?_ ?_
      rotate_left
      · intro w'; go_simp; with_reducible rfl
      rotate_left
      · go_simp; rfl
      first | exact hJ (w.heap.size, w.heap.size + 1) _ (Spn.start1 w n tl id) | exact hJ (w.heap.size + 1, w.heap.size) _ (Spn.start2 w n tl id)
    · go_simp
      refine hK.out _ _ (by go_simp) (fun hHeld => ?_)
      clear hK K
      refine one_ (i := 4) (N := some 21) #[true, true, true, true, true, true, true, true, true, true, false, false] rfl rfl (by kernel_rfl) (by decide) (fun K hK => ?_)
      go_simp
      refine hK.out _ _ (by go_simp) (fun hHeld => ?_)
      clear hK K
      refine pure_ (i := 10) (N := some 7) (v := ?_) (a' := ?_) #[true, true, true, true, true, true, true, true, true, true, true, false] rfl rfl (by kernel_rfl) (fun _ _ _ h => h) (Or.inl ⟨by rfl, ?_⟩) ?_ ?_
      rotate_left
      · intro w'; go_simp; with_reducible rfl
      rotate_left
      · go_simp; rfl
      refine pure_ (i := 11) (N := some 8) (v := ?_) (a' := ?_) #[true, true, true, true, true, true, true, true, true, true, true, true] rfl rfl (by kernel_rfl) (fun _ _ _ h => h) (Or.inl ⟨by rfl, ?_⟩) ?_ ?_
      rotate_left
      · intro w'; go_simp; with_reducible rfl
      rotate_left
      · go_simp; rfl
      first | exact hJ (w.heap.size, w.heap.size + 1) _ (Spn.start1 w n tl id) | exact hJ (w.heap.size + 1, w.heap.size) _ (Spn.start2 w n tl id)
  rintro ⟨g1, g2⟩ w3 hT
  have HS := Lib.hid hT
  clear hT
  refine norm_ (a' := ?_) ?_ ?_
  rotate_left
  · simp only [putAll]; go_simp; rfl
  refine done_ (by kernel_rfl) ?_
  clear c1 c3 hmk3 hmk4
  have c1 : w3.cell? ⟨nb, 1, none⟩ = some (.int .i64 n) := (HS.out.below.cell (p := ⟨nb, 1, none⟩) l1).trans ((Blk.at HN.out 1).trans rfl)
  go_wp2_with fail
  go_loopg [9, 10, 11, 12, 31] n (fun gk s9 s10 s11 s12 s31 wr => ∃ k : Nat, k ≤ n ∧ gk = n - k ∧ s31 = .int .i64 k ∧ Hid (Spn w.heap.size w wr n tl id g1 g2 k))
  case atStart => exact ⟨0, Nat.zero_le _, rfl, rfl, HS⟩
  case round =>
    obtain ⟨k, hk, hgk, rfl, HR⟩ := hrel
    clear HS c1
    by_cases hkn : k < n
    · have hkz : (k : Int) < (n : Int) := by omega
      have hbs := HR.out.below.size
      have HNr : Hid (Blk wr nb (nodeC id n ppm h0 mb) 108) := Lib.hid (Blk.below HN.out HR.out.below)
      have HMr : Hid (MapIs wr mb of) := Lib.hid (HM.out.keep (Keep.ofBelow (S := fun _ => False) HR.out.below) (fun h => h))
      have c0 : wr.cell? ⟨nb, 0, none⟩ = some (.int .i64 id) := (Blk.at HNr.out 0).trans rfl
      have c2 : wr.cell? ⟨nb, 2, none⟩ = some (.int .i64 ppm) := (Blk.at HNr.out 2).trans rfl
      have c4 : wr.cell? ⟨nb, 4, none⟩ = some (.map (some mb)) := (Blk.at HNr.out 4).trans rfl
      have l2 := Blk.lt HNr.out
      have lg1 := HR.out.s.lt
      have lg2 := HR.out.h.lt
      cases hof : of k with
      | none =>
        have ht : Hid (tl k = none) := Lib.hid (by rw [HT.out]; simp [hof])
        have hl := run_lookup_no (P := Try.prog) HMr.out Try.underlying106 Try.underlying3 (zeroKnown wr) hof
        have f1 : ∀ o, (wr.alloc o).cell? ⟨g2, k, none⟩ = some (hasC tl id k k) := fun o => ((HR.out.alloc o).h).cell hkn
        have f2 : ∀ o, (wr.alloc o).frozen? ⟨g2, k, none⟩ = false := fun o => ((HR.out.alloc o).h).frozen k
        generalize hasC tl id k k = cc at f1
        go_wp2
        go_roundg (n - (k + 1))
        case measure => omega
        case rel => exact ⟨k + 1, by omega, rfl, by go_num, Lib.hid ((Spn.unk HR.out ht.out).alloc _)⟩
      | some kn =>
        obtain ⟨lo, hi, at_⟩ := kn
        obtain ⟨x1, x2, x3, x4, x5, x6, x7⟩ := HK.out k _ hof
        simp only at x1 x2 x3 x4 x5 x6 x7
        have ht : Hid (tl k = some (lo - slackD (here - at_) ppm, hi + slackD (here - at_) ppm)) := Lib.hid (by rw [HT.out]; simp [hof, Noon.aged, slackD_eq])
        have hl := run_lookup_yes (P := Try.prog) HMr.out Try.underlying106 Try.underlying3 hof
        unfold knV at hl
        simp only at hl
        have HAG := Lib.hid (fun w h => aged_any nb ⟨lo, hi, at_⟩ here ppm w h p1 p2 x1 x2 x3 x4 x5 x6)
        have HRI := Lib.hid (fun w => right_yes (lo - slackD (here - at_) ppm) (hi + slackD (here - at_) ppm) w x7)
        obtain ⟨sl, hsl⟩ : ∃ sl, sl = slackD (here - at_) ppm := ⟨_, rfl⟩
        rw [← hsl] at ht HAG HRI
        clear hsl x7 c0
        unfold knV at HAG
        simp only at HAG
        have n1 : nb < wr.heap.size := l2
        have n2 : nb ≠ wr.heap.size := by omega
        go_wp2_with fail
        refine (HAG.out _ (by go_simp)).mono ?_
        rintro e w4 ⟨rfl, hb4⟩
        have HB4 := Lib.hid hb4
        have hz4 := hb4.size
        simp only [World.size_alloc] at hz4
        have HS4 : Hid (Spn w.heap.size w w4 n tl id g1 g2 k) := Lib.hid ((HR.out.alloc _).later hb4)
        clear hb4 hl
        go_wp2_with fail
        refine (HRI.out _).mono ?_
        rintro e w5 ⟨rfl, hb5⟩
        have HS5 : Hid (Spn w.heap.size w w5 n tl id g1 g2 k) := Lib.hid ((HS4.out.alloc _).later hb5)
        have hz5 := hb5.size
        simp only [World.size_alloc] at hz5
        have HB5 : Hid (Blk w5 w4.heap.size #[.int .i64 (lo - sl), .int .i64 (hi + sl)] 34) := Lib.hid (Blk.below (heap_alloc_new _ _) hb5)
        have u0 : w5.cell? ⟨w4.heap.size, 0, none⟩ = some (.int .i64 (lo - sl)) := (Blk.at HB5.out 0).trans rfl
        have u1 : w5.cell? ⟨w4.heap.size, 1, none⟩ = some (.int .i64 (hi + sl)) := (Blk.at HB5.out 1).trans rfl
        have p1 := (HS5.out.s).cell (i := k * 2) (by omega)
        have p2 := (HS5.out.s).cell (i := k * 2 + 1) (by omega)
        have p3 := (HS5.out.s).frozen (k * 2)
        have p4 := (HS5.out.s).frozen (k * 2 + 1)
        have p5 := (HS5.out.h).cell (i := k) (by omega)
        have p6 := (HS5.out.h).frozen k
        have p7 := HS5.out.ne
        generalize telC tl k (k * 2) = cc1 at p1
        generalize telC tl k (k * 2 + 1) = cc2 at p2
        generalize hasC tl id k k = cc3 at p5
        have HP := Lib.hid (Spn.kno HS5.out ht.out)
        clear hb5
        go_wp2
        go_roundg (n - (k + 1))
        case measure => omega
        case rel => exact ⟨k + 1, by omega, rfl, by go_num, HP⟩
    · obtain rfl : n = k := by omega
      go_wp2
      go_returns
      exact ⟨g1, g2, rfl, HR.out⟩
end Go.Proofs.Ytjohngeaifgcgaa

/- An act of a net in memory. -/
import Derived.Test.YtjohngeaifgcgaaWNetHear
namespace Go.Proofs.Ytjohngeaifgcgaa
open Go.RowKit
open Noon (Kn Ltr NodeSt St Fine Hears)
open Go.Proofs.YtjohngeaifgcgaaW.PrintLast

section
variable {w w' : World} {base : Nat} {m : NetMem} {s s1 : St}

def NetDid (w : World) (base : Nat) (m : NetMem) (s' : St) (c : Nat) (e : Ending) (w' : World) : Prop :=
  e = .returned (errN c) ∧ ∃ uv, NetAt w' base { m with uv := uv } s' ∧ Keep (m.has s'.n) w w' ∧ Moved w m.uv uv

theorem errN_succ (k : Nat) : errN (k + 1) = .iface 82 (.int .i64 (k + 1 : Nat)) := by simp [errN, errV]

theorem NetAt.old (h : NetAt w base m s) : ∀ x, w.heap.size ≤ x → ¬ (x = m.wb ∨ m.uv.ownBlock = some x) := by
  rintro x hx (e | e)
  · have := Blk.lt h.wat.wblk; omega
  · have := (h.wat.under.lt x e).2; omega

theorem NetMem.has_world {n k : Nat} (h : k = m.wb ∨ m.uv.ownBlock = some k) : m.has n k := by
  rcases h with h | h
  · exact .inr (.inl h)
  · exact .inr (.inr (.inr (.inr (.inl h))))
theorem NetMem.has_node {n k j : Nat} (hj : j < n) (h : k = m.nb j ∨ k = m.mb j) : m.has n k := by
  rcases h with h | h
  · exact .inr (.inr (.inr (.inr (.inr (.inr (.inl ⟨j, hj, h⟩))))))
  · exact .inr (.inr (.inr (.inr (.inr (.inr (.inr ⟨j, hj, h⟩))))))

def actB (what a b : Int) : Obj := .cells #[.int .i64 what, .int .i64 a, .int .i64 b] 32

set_option maxRecDepth 100000 in
set_option maxHeartbeats 2000000 in
theorem netDo_none (what a b : Int) (c : Nat) (h : NetAt w base m s) (hf : Fine s) (hb : base ≤ w.heap.size) (hr : s.wdo what a b = (s1, c, none)) :
    Calls Try.prog 8 #[.pointer (some ⟨m.gb, 0, none⟩), .agg #[.int .i64 what, .int .i64 a, .int .i64 b]] w (NetDid w base m s1 c) := by
  have gc : w.cell? ⟨m.gb, 0, none⟩ = some (.pointer (some ⟨m.wb, 0, none⟩)) := (Blk.at h.gblk 0).trans rfl
  have glt := Blk.lt h.gblk
  have HX := Lib.hid h.old
  have H := Lib.hid h
  have HF := Lib.hid hf
  have HR := Lib.hid hr
  clear h hf hr
  go_enter Try.func8, Try.ntmps8
  go_wp2_with fail
  refine start_ (n := 11) (S := fun w' => w'.cell? ⟨m.gb, 0, none⟩ = some (.pointer (some ⟨m.wb, 0, none⟩)) ∧ w'.cell? ⟨w.heap.size, 0, none⟩ = some (.int .i64 what) ∧ w'.cell? ⟨w.heap.size, 1, none⟩ = some (.int .i64 a) ∧ w'.cell? ⟨w.heap.size, 2, none⟩ = some (.int .i64 b)) (ds := []) #[false, false, false, false, false, false, false, false, false, false, false] (by kernel_rfl) rfl rfl (⟨by go_simp, by go_simp, by go_simp, by go_simp⟩) (fun hHeld => ?_)
  refine pure_ (i := 0) (N := some 11) (v := ?_) (a' := ?_) #[true, false, false, false, false, false, false, false, false, false, false] rfl rfl (by kernel_rfl) (fun _ _ _ h => h) (Or.inl ⟨by rfl, ?_⟩) ?_ ?_
  rotate_left
  · intro w'; go_simp; with_reducible rfl
  rotate_left
  · go_simp; rfl
  refine pure_ (i := 1) (N := some 12) (v := ?_) (a' := ?_) #[true, true, false, false, false, false, false, false, false, false, false] rfl rfl (by kernel_rfl) (fun _ _ _ h => h) (Or.inl ⟨by rfl, ?_⟩) ?_ ?_
  rotate_left
  · intro w'; go_simp; with_reducible rfl
  rotate_left
  · go_simp; rfl
  refine pure_ (i := 2) (N := some 13) (v := ?_) (a' := ?_) #[true, true, true, false, false, false, false, false, false, false, false] rfl rfl (by kernel_rfl) (fun _ _ _ h => h) (Or.inl ⟨by rfl, ?_⟩) ?_ ?_
  rotate_left
  · intro w'; go_simp; with_reducible rfl
  rotate_left
  · go_simp; rfl
  refine take_ (i := 3) (N := some 14) (v := ?_) (a' := ?_) #[true, true, true, true, false, false, false, false, false, false, false] rfl rfl (by kernel_rfl) (fun _ _ _ h => h) (Or.inl ⟨by rfl, ?_⟩) hHeld ?_ ?_
  rotate_left
  · rintro w' ⟨s0, s1', s2, s3⟩; go_simp; with_reducible rfl
  rotate_left
  · go_simp; rfl
  refine take_ (i := 4) (N := some 15) (v := ?_) (a' := ?_) #[true, true, true, true, true, false, false, false, false, false, false] rfl rfl (by kernel_rfl) (fun _ _ _ h => h) (Or.inl ⟨by rfl, ?_⟩) hHeld ?_ ?_
  rotate_left
  · rintro w' ⟨s0, s1', s2, s3⟩; go_simp; with_reducible rfl
  rotate_left
  · go_simp; rfl
  refine one_ (i := 5) (N := some 16) #[true, true, true, true, true, true, false, false, false, false, false] rfl rfl (by kernel_rfl) (by decide) (fun K hK => ?_)
  go_simp
  refine (worldDo what a b ((H.out.below (Below.toAlloc _)).keep ((Keep.refl (fun _ => False) _).drewN _) (fun _ _ h => h)) HF.out (by go_size)).mono ?_
  rintro e w1 ⟨uv, hn, hkp, hmv, hpost⟩
  rw [HR.out] at hn hpost
  have hpost : e = _ := hpost
  subst hpost
  have g0 : w1.cell? ⟨m.gb, 0, none⟩ = some (.pointer (some ⟨m.wb, 0, none⟩)) := (Blk.at hn.gblk 0).trans rfl
  have g1 : w1.cell? ⟨w.heap.size, 0, none⟩ = some (.int .i64 what) := (hkp.cell (p := ⟨w.heap.size, 0, none⟩) (by go_size) (HX.out _ (Nat.le_refl _))).trans (by go_simp)
  have g2 : w1.cell? ⟨w.heap.size, 1, none⟩ = some (.int .i64 a) := (hkp.cell (p := ⟨w.heap.size, 1, none⟩) (by go_size) (HX.out _ (Nat.le_refl _))).trans (by go_simp)
  have g3 : w1.cell? ⟨w.heap.size, 2, none⟩ = some (.int .i64 b) := (hkp.cell (p := ⟨w.heap.size, 2, none⟩) (by go_size) (HX.out _ (Nat.le_refl _))).trans (by go_simp)
  have HN := Lib.hid hn
  have HK : Hid (Keep (fun k => k = m.wb ∨ m.uv.ownBlock = some k) w w1) := (((Keep.refl _ w).alloc _).drewN _).trans hkp (fun _ _ h => h)
  have HM : Hid (Moved w m.uv uv) := fun k hk => (hmv k hk).imp_right (fun h => by simp at h; omega)
  clear hn hkp hmv
  refine hK.out _ _ ⟨g0, g1, g2, g3⟩ (fun hHeld => ?_)
  clear hK K
  refine pure_ (i := 6) (N := some 10) (v := ?_) (a' := ?_) #[true, true, true, true, true, true, true, false, false, false, false] rfl rfl (by kernel_rfl) (fun _ _ _ h => h) (Or.inl ⟨by rfl, ?_⟩) ?_ ?_
  rotate_left
  · intro w'; go_simp; with_reducible rfl
  rotate_left
  · go_simp; rfl
  refine pure_ (i := 7) (N := some 17) (v := ?_) (a' := ?_) #[true, true, true, true, true, true, true, true, false, false, false] rfl rfl (by kernel_rfl) (fun _ _ _ h => h) (Or.inl ⟨by rfl, ?_⟩) ?_ ?_
  rotate_left
  · intro w'; go_simp; with_reducible rfl
  rotate_left
  · go_simp; rfl
  refine pure_ (i := 8) (N := some 18) (v := ?_) (a' := ?_) #[true, true, true, true, true, true, true, true, true, false, false] rfl rfl (by kernel_rfl) (fun _ _ _ h => h) (Or.inl ⟨by rfl, ?_⟩) ?_ ?_
  rotate_left
  · intro w'; go_simp; with_reducible rfl
  rotate_left
  · go_simp; rfl
  refine pure_ (i := 9) (N := some 5) (v := ?_) (a' := ?_) #[true, true, true, true, true, true, true, true, true, true, false] rfl rfl (by kernel_rfl) (fun _ _ _ h => h) (Or.inl ⟨by rfl, ?_⟩) ?_ ?_
  rotate_left
  · intro w'; go_simp; with_reducible rfl
  rotate_left
  · go_simp; rfl
  refine pure_ (i := 10) (N := some 6) (v := ?_) (a' := ?_) #[true, true, true, true, true, true, true, true, true, true, true] rfl rfl (by kernel_rfl) (fun _ _ _ h => h) (Or.inl ⟨by rfl, ?_⟩) ?_ ?_
  rotate_left
  · intro w'; go_simp; with_reducible rfl
  rotate_left
  · go_simp; rfl
  refine done_ (by kernel_rfl) ?_
  rcases c with _ | c
  · rw [show errN 0 = .nilIface from rfl]
    go_wp2
    go_returns
    exact ⟨rfl, uv, HN.out, HK.out.mono (fun k _ e => NetMem.has_world e), HM.out⟩
  · rw [errN_succ]
    go_wp2
    go_returns
    exact ⟨by rw [errN_succ]; rfl, uv, HN.out, HK.out.mono (fun k _ e => NetMem.has_world e), HM.out⟩

theorem NetAt.drewN (h : NetAt w base m s) (q : Nat) : NetAt (w.drewN q) base m s := h.keep ((Keep.refl (fun _ => False) w).drewN q) (fun _ _ h => h)

theorem netRead (h : NetAt w base m s) (hf : Fine s) {i : Nat} (hi : i < s.n) :
    Calls Try.prog 25 #[.pointer (some ⟨m.wb, 0, none⟩), .int .i64 i] w fun e w' => e = .returned (.tuple #[.int .i64 (s.read i), .nilIface]) ∧ ∃ q, w' = w.drewN q := by
  obtain ⟨c0, c1, c2, c3⟩ := h.cells
  have a := hf.rb i hi
  have b := hf.p2
  exact Read_ok m.wb m.sb m.rb s.n m.sc m.rc i (s.starts.getD i 0) s.time (s.rates.getD i 0) w c0 c1 c2 (h.starts hf hi) (h.rates hf hi) hi hf.t1 hf.t2 (by omega) (by omega) (hf.sb i hi).1 (hf.sb i hi).2

def Answered (w : World) (base : Nat) (m : NetMem) (s : St) (f k : Nat) (t0 : Int) (e : Ending) (w' : World) : Prop :=
  e = .returned (errN (if 40 ≤ s.under.length then 4 else 0)) ∧ ∃ uv, NetAt w' base { m with uv := uv } (if 40 ≤ s.under.length then s else { s with under := s.under ++ [⟨k, f, true, t0, s.read k, s.read k⟩] }) ∧
    Keep (fun k => k = m.wb ∨ m.uv.ownBlock = some k) w w' ∧ Moved w m.uv uv

theorem netAnswer (h : NetAt w base m s) (hf : Fine s) (hb : base ≤ w.heap.size) {f k : Nat} (t0 : Int) (h1 : f < s.n) (h2 : k < s.n) :
    Calls Try.prog 27 #[.pointer (some ⟨m.wb, 0, none⟩), .agg #[.int .i64 f, .int .i64 k, .bool false, .int .i64 0, .int .i64 0, .int .i64 t0]] w (Answered w base m s f k t0) := by
  have a := hf.rb k h2
  have b := hf.p2
  have ul := hf.ul
  by_cases g : 40 ≤ s.under.length
  · obtain ⟨A, c, hu⟩ := ownsRow_slice h.wat.under
    have hw := h.wat.wblk
    rw [hu] at hw
    refine (answer_full m.wb s.n _ f k s.under.length _ A c _ _ t0 w hw h1 h2 g (by omega)).mono ?_
    rintro e w' ⟨rfl, hb'⟩
    refine ⟨by rw [if_pos g]; rfl, m.uv, ?_, Keep.ofBelow hb', Moved.refl _ _⟩
    rw [if_pos g]
    exact (h.below hb').same
  · refine (answer_ok base m.wb m.sb m.rb s.n m.sc m.rc f k s.under.length m.uv _ s.time _ t0 _ w h.wat.wblk (h.starts hf h2) (h.rates hf h2) h1 h2 hf.t1 hf.t2 (by omega) (by omega) (hf.sb k h2).1 (hf.sb k h2).2 h.wat.under (by omega) hb).mono ?_
    rintro e w' ⟨rfl, g', c', hw, hu, hkp, hgg⟩
    refine ⟨by rw [if_neg g]; rfl, .slice (some ⟨g', 0, none⟩) (s.under.length + 1) c', ?_, hkp, ?_⟩
    · rw [if_neg g]
      exact NetAt.world h hkp hw (by simpa [lettersC_append, lettersC, St.read] using hu)
    · intro x hx
      have e : g' = x := by simpa [Value.ownBlock] using hx
      subst e; exact hgg

theorem ptrsC_get {n j : Nat} {nb : Nat → Nat} (hj : j < n) : (ptrsC n nb)[j]? = some (.pointer (some ⟨nb j, 0, none⟩)) := by
  simp [ptrsC, hj]

theorem NetAt.ptr (h : NetAt w base m s) {A : Option Addr} {n c j : Nat} (he : m.nv = .slice A n c) (hj : j < s.n) : ∃ a, A = some ⟨a, 0, none⟩ ∧ n = s.n ∧ w.cell? ⟨a, j, none⟩ = some (.pointer (some ⟨m.nb j, 0, none⟩)) := by
  obtain ⟨g, c', e, _, _⟩ := ownsRow_at h.ptrs (by omega)
  have hp := h.ptrs
  rw [he] at e
  injection e with e1 e2 e3
  refine ⟨g, e1, e2, ?_⟩
  have := World.ownsRow.cells hp (g := g) (by rw [he, e1]; rfl) j _ (ptrsC_get hj)
  rwa [show (⟨g, 0, none⟩ : Addr).add j = ⟨g, j, none⟩ from by cases j <;> simp [Addr.add]] at this

set_option maxRecDepth 100000 in
set_option maxHeartbeats 4000000 in
theorem netDo_some (what a b : Int) (l : Ltr) (h : NetAt w base m s) (hf : Fine s) (hb : base ≤ w.heap.size) (hr : s.wdo what a b = (s1, 0, some l)) (hf1 : Fine s1) (hl : l.f < s1.n ∧ l.k < s1.n ∧ l.f ≠ l.k) (hq : l.an = false → l.t1 = 0 ∧ l.t2 = 0) (hh : Hears s1 l) :
    Calls Try.prog 8 #[.pointer (some ⟨m.gb, 0, none⟩), .agg #[.int .i64 what, .int .i64 a, .int .i64 b]] w (NetDid w base m (s1.come l).1 (s1.come l).2) := by
  have gc : w.cell? ⟨m.gb, 0, none⟩ = some (.pointer (some ⟨m.wb, 0, none⟩)) := (Blk.at h.gblk 0).trans rfl
  have glt := Blk.lt h.gblk
  have HX := Lib.hid h.old
  have H := Lib.hid h
  have HF := Lib.hid hf
  have HR := Lib.hid hr
  have HF1 := Lib.hid hf1
  have HL := Lib.hid hl
  have HQ := Lib.hid hq
  have HH := Lib.hid hh
  clear h hf hr hf1 hl hq hh
  go_enter Try.func8, Try.ntmps8
  go_wp2_with fail
  refine start_ (n := 11) (S := fun w' => w'.cell? ⟨m.gb, 0, none⟩ = some (.pointer (some ⟨m.wb, 0, none⟩)) ∧ w'.cell? ⟨w.heap.size, 0, none⟩ = some (.int .i64 what) ∧ w'.cell? ⟨w.heap.size, 1, none⟩ = some (.int .i64 a) ∧ w'.cell? ⟨w.heap.size, 2, none⟩ = some (.int .i64 b)) (ds := []) #[false, false, false, false, false, false, false, false, false, false, false] (by kernel_rfl) rfl rfl (⟨by go_simp, by go_simp, by go_simp, by go_simp⟩) (fun hHeld => ?_)
  refine pure_ (i := 0) (N := some 11) (v := ?_) (a' := ?_) #[true, false, false, false, false, false, false, false, false, false, false] rfl rfl (by kernel_rfl) (fun _ _ _ h => h) (Or.inl ⟨by rfl, ?_⟩) ?_ ?_
  rotate_left
  · intro w'; go_simp; with_reducible rfl
  rotate_left
  · go_simp; rfl
  refine pure_ (i := 1) (N := some 12) (v := ?_) (a' := ?_) #[true, true, false, false, false, false, false, false, false, false, false] rfl rfl (by kernel_rfl) (fun _ _ _ h => h) (Or.inl ⟨by rfl, ?_⟩) ?_ ?_
  rotate_left
  · intro w'; go_simp; with_reducible rfl
  rotate_left
  · go_simp; rfl
  refine pure_ (i := 2) (N := some 13) (v := ?_) (a' := ?_) #[true, true, true, false, false, false, false, false, false, false, false] rfl rfl (by kernel_rfl) (fun _ _ _ h => h) (Or.inl ⟨by rfl, ?_⟩) ?_ ?_
  rotate_left
  · intro w'; go_simp; with_reducible rfl
  rotate_left
  · go_simp; rfl
  refine take_ (i := 3) (N := some 14) (v := ?_) (a' := ?_) #[true, true, true, true, false, false, false, false, false, false, false] rfl rfl (by kernel_rfl) (fun _ _ _ h => h) (Or.inl ⟨by rfl, ?_⟩) hHeld ?_ ?_
  rotate_left
  · rintro w' ⟨s0, s1', s2, s3⟩; go_simp; with_reducible rfl
  rotate_left
  · go_simp; rfl
  refine take_ (i := 4) (N := some 15) (v := ?_) (a' := ?_) #[true, true, true, true, true, false, false, false, false, false, false] rfl rfl (by kernel_rfl) (fun _ _ _ h => h) (Or.inl ⟨by rfl, ?_⟩) hHeld ?_ ?_
  rotate_left
  · rintro w' ⟨s0, s1', s2, s3⟩; go_simp; with_reducible rfl
  rotate_left
  · go_simp; rfl
  refine one_ (i := 5) (N := some 16) #[true, true, true, true, true, true, false, false, false, false, false] rfl rfl (by kernel_rfl) (by decide) (fun K hK => ?_)
  go_simp
  refine (worldDo what a b ((H.out.below (Below.toAlloc _)).keep ((Keep.refl (fun _ => False) _).drewN _) (fun _ _ h => h)) HF.out (by go_size)).mono ?_
  rintro e w1 ⟨uv, hn, hkp, hmv, hpost⟩
  rw [HR.out] at hn hpost
  obtain ⟨g, rfl, hg, hge, hgu⟩ := hpost
  have g0 : w1.cell? ⟨m.gb, 0, none⟩ = some (.pointer (some ⟨m.wb, 0, none⟩)) := (Blk.at hn.gblk 0).trans rfl
  have g1 : w1.cell? ⟨w.heap.size, 0, none⟩ = some (.int .i64 what) := (hkp.cell (p := ⟨w.heap.size, 0, none⟩) (by go_size) (HX.out _ (Nat.le_refl _))).trans (by go_simp)
  have g2 : w1.cell? ⟨w.heap.size, 1, none⟩ = some (.int .i64 a) := (hkp.cell (p := ⟨w.heap.size, 1, none⟩) (by go_size) (HX.out _ (Nat.le_refl _))).trans (by go_simp)
  have g3 : w1.cell? ⟨w.heap.size, 2, none⟩ = some (.int .i64 b) := (hkp.cell (p := ⟨w.heap.size, 2, none⟩) (by go_size) (HX.out _ (Nat.le_refl _))).trans (by go_simp)
  have HN := Lib.hid hn
  have HK : Hid (Keep (fun k => k = m.wb ∨ m.uv.ownBlock = some k) w w1) := (((Keep.refl _ w).alloc _).drewN _).trans hkp (fun _ _ h => h)
  have HM : Hid (Moved w m.uv uv) := fun k hk => (hmv k hk).imp_right (fun h => by simp at h; omega)
  have HG := Lib.hid hg
  have hge' : w.heap.size ≤ g := by simp at hge; omega
  clear hn hkp hmv hg hge
  refine hK.out _ _ ⟨g0, g1, g2, g3⟩ (fun hHeld => ?_)
  clear hK K
  refine pure_ (i := 6) (N := some 10) (v := ?_) (a' := ?_) #[true, true, true, true, true, true, true, false, false, false, false] rfl rfl (by kernel_rfl) (fun _ _ _ h => h) (Or.inl ⟨by rfl, ?_⟩) ?_ ?_
  rotate_left
  · intro w'; go_simp; with_reducible rfl
  rotate_left
  · go_simp; rfl
  refine pure_ (i := 7) (N := some 17) (v := ?_) (a' := ?_) #[true, true, true, true, true, true, true, true, false, false, false] rfl rfl (by kernel_rfl) (fun _ _ _ h => h) (Or.inl ⟨by rfl, ?_⟩) ?_ ?_
  rotate_left
  · intro w'; go_simp; with_reducible rfl
  rotate_left
  · go_simp; rfl
  refine pure_ (i := 8) (N := some 18) (v := ?_) (a' := ?_) #[true, true, true, true, true, true, true, true, true, false, false] rfl rfl (by kernel_rfl) (fun _ _ _ h => h) (Or.inl ⟨by rfl, ?_⟩) ?_ ?_
  rotate_left
  · intro w'; go_simp; with_reducible rfl
  rotate_left
  · go_simp; rfl
  refine pure_ (i := 9) (N := some 5) (v := ?_) (a' := ?_) #[true, true, true, true, true, true, true, true, true, true, false] rfl rfl (by kernel_rfl) (fun _ _ _ h => h) (Or.inl ⟨by rfl, ?_⟩) ?_ ?_
  rotate_left
  · intro w'; go_simp; with_reducible rfl
  rotate_left
  · go_simp; rfl
  refine pure_ (i := 10) (N := some 6) (v := ?_) (a' := ?_) #[true, true, true, true, true, true, true, true, true, true, true] rfl rfl (by kernel_rfl) (fun _ _ _ h => h) (Or.inl ⟨by rfl, ?_⟩) ?_ ?_
  rotate_left
  · intro w'; go_simp; with_reducible rfl
  rotate_left
  · go_simp; rfl
  refine done_ (by kernel_rfl) ?_
  have k0 : w1.cell? ⟨m.gb, 0, none⟩ = some (.pointer (some ⟨m.wb, 0, none⟩)) := (Blk.at HN.out.gblk 0).trans rfl
  have k1 : w1.cell? ⟨g, 1, none⟩ = some (.int .i64 l.k) := (Blk.at HG.out 1).trans rfl
  have glt1 := Blk.lt HG.out
  have wlt1 := Blk.lt HN.out.gblk
  have hsz := HK.out.size
  go_wp2_with fail
  refine start_ (n := 14) (S := fun w' => w'.cell? ⟨m.gb, 0, none⟩ = some (.pointer (some ⟨m.wb, 0, none⟩)) ∧ w'.cell? ⟨g, 1, none⟩ = some (.int .i64 l.k)) (ds := []) #[false, false, false, false, false, false, false, false, false, false, false, false, false, false] (by kernel_rfl) rfl rfl (⟨by go_simp, by go_simp⟩) (fun hHeld => ?_)
  refine pure_ (i := 0) (N := some 27) (v := ?_) (a' := ?_) #[true, false, false, false, false, false, false, false, false, false, false, false, false, false] rfl rfl (by kernel_rfl) (fun _ _ _ h => h) (Or.inl ⟨by rfl, ?_⟩) ?_ ?_
  rotate_left
  · intro w'; go_simp; with_reducible rfl
  rotate_left
  · go_simp; rfl
  refine pure_ (i := 1) (N := some 28) (v := ?_) (a' := ?_) #[true, true, false, false, false, false, false, false, false, false, false, false, false, false] rfl rfl (by kernel_rfl) (fun _ _ _ h => h) (Or.inl ⟨by rfl, ?_⟩) ?_ ?_
  rotate_left
  · intro w'; go_simp; with_reducible rfl
  rotate_left
  · go_simp; rfl
  refine pure_ (i := 2) (N := some 29) (v := ?_) (a' := ?_) #[true, true, true, false, false, false, false, false, false, false, false, false, false, false] rfl rfl (by kernel_rfl) (fun _ _ _ h => h) (Or.inl ⟨by rfl, ?_⟩) ?_ ?_
  rotate_left
  · intro w'; go_simp; with_reducible rfl
  rotate_left
  · go_simp; rfl
  refine take_ (i := 3) (N := some 30) (v := ?_) (a' := ?_) #[true, true, true, true, false, false, false, false, false, false, false, false, false, false] rfl rfl (by kernel_rfl) (fun _ _ _ h => h) (Or.inl ⟨by rfl, ?_⟩) hHeld ?_ ?_
  rotate_left
  · rintro w' ⟨s0, s1'⟩; go_simp; with_reducible rfl
  rotate_left
  · go_simp; rfl
  refine pure_ (i := 4) (N := some 31) (v := ?_) (a' := ?_) #[true, true, true, true, true, false, false, false, false, false, false, false, false, false] rfl rfl (by kernel_rfl) (fun _ _ _ h => h) (Or.inl ⟨by rfl, ?_⟩) ?_ ?_
  rotate_left
  · intro w'; go_simp; with_reducible rfl
  rotate_left
  · go_simp; rfl
  refine pure_ (i := 5) (N := some 32) (v := ?_) (a' := ?_) #[true, true, true, true, true, true, false, false, false, false, false, false, false, false] rfl rfl (by kernel_rfl) (fun _ _ _ h => h) (Or.inl ⟨by rfl, ?_⟩) ?_ ?_
  rotate_left
  · intro w'; go_simp; with_reducible rfl
  rotate_left
  · go_simp; rfl
  refine pure_ (i := 6) (N := some 33) (v := ?_) (a' := ?_) #[true, true, true, true, true, true, true, false, false, false, false, false, false, false] rfl rfl (by kernel_rfl) (fun _ _ _ h => h) (Or.inl ⟨by rfl, ?_⟩) ?_ ?_
  rotate_left
  · intro w'; go_simp; with_reducible rfl
  rotate_left
  · go_simp; rfl
  refine take_ (i := 7) (N := some 34) (v := ?_) (a' := ?_) #[true, true, true, true, true, true, true, true, false, false, false, false, false, false] rfl rfl (by kernel_rfl) (fun _ _ _ h => h) (Or.inl ⟨by rfl, ?_⟩) hHeld ?_ ?_
  rotate_left
  · rintro w' ⟨s0, s1'⟩; go_simp; with_reducible rfl
  rotate_left
  · go_simp; rfl
  refine one_ (i := 8) (N := some 35) #[true, true, true, true, true, true, true, true, true, false, false, false, false, false] rfl rfl (by kernel_rfl) (by decide) (fun K hK => ?_)
  go_simp
  refine (netRead (HN.out.drewN 1) HF1.out HL.out.2.1).mono ?_
  rintro e w2 ⟨rfl, q, rfl⟩
  refine hK.out _ _ ⟨by go_simp, by go_simp⟩ (fun hHeld => ?_)
  clear hK K
  refine pure_ (i := 9) (N := some 26) (v := ?_) (a' := ?_) #[true, true, true, true, true, true, true, true, true, true, false, false, false, false] rfl rfl (by kernel_rfl) (fun _ _ _ h => h) (Or.inl ⟨by rfl, ?_⟩) ?_ ?_
  rotate_left
  · intro w'; go_simp; with_reducible rfl
  rotate_left
  · go_simp; rfl
  refine pure_ (i := 10) (N := some 36) (v := ?_) (a' := ?_) #[true, true, true, true, true, true, true, true, true, true, true, false, false, false] rfl rfl (by kernel_rfl) (fun _ _ _ h => h) (Or.inl ⟨by rfl, ?_⟩) ?_ ?_
  rotate_left
  · intro w'; go_simp; with_reducible rfl
  rotate_left
  · go_simp; rfl
  refine pure_ (i := 11) (N := some 37) (v := ?_) (a' := ?_) #[true, true, true, true, true, true, true, true, true, true, true, true, false, false] rfl rfl (by kernel_rfl) (fun _ _ _ h => h) (Or.inl ⟨by rfl, ?_⟩) ?_ ?_
  rotate_left
  · intro w'; go_simp; with_reducible rfl
  rotate_left
  · go_simp; rfl
  refine pure_ (i := 12) (N := some 7) (v := ?_) (a' := ?_) #[true, true, true, true, true, true, true, true, true, true, true, true, true, false] rfl rfl (by kernel_rfl) (fun _ _ _ h => h) (Or.inl ⟨by rfl, ?_⟩) ?_ ?_
  rotate_left
  · intro w'; go_simp; with_reducible rfl
  rotate_left
  · go_simp; rfl
  refine pure_ (i := 13) (N := some 6) (v := ?_) (a' := ?_) #[true, true, true, true, true, true, true, true, true, true, true, true, true, true] rfl rfl (by kernel_rfl) (fun _ _ _ h => h) (Or.inl ⟨by rfl, ?_⟩) ?_ ?_
  rotate_left
  · intro w'; go_simp; with_reducible rfl
  rotate_left
  · go_simp; rfl
  refine done_ (by kernel_rfl) ?_
  generalize hw2 : (w1.drewN 1).drewN q = w2
  have HN2 : Hid (NetAt w2 base { m with uv := uv } s1) := by rw [← hw2]; exact (HN.out.drewN 1).drewN q
  have HK2 : Hid (Keep (fun k => k = m.wb ∨ m.uv.ownBlock = some k) w w2) := by rw [← hw2]; exact (HK.out.drewN 1).drewN q
  have HG2 : Hid (Blk w2 g (ltrC l.f l.k l.an l.t1 l.t2 l.t).toArray 48) := by rw [← hw2]; exact HG.out
  have hs2 : w2.heap.size = w1.heap.size := by rw [← hw2]; rfl
  clear hw2 HN HK HG k0 k1
  obtain ⟨A, nn, nc, hnv⟩ : ∃ A n c, m.nv = .slice A n c := by obtain ⟨A, c, h⟩ := ownsRow_slice HN2.out.ptrs; exact ⟨A, _, c, h⟩
  obtain ⟨pb, rfl, rfl, hp⟩ := HN2.out.ptr hnv HL.out.2.1
  have p0 : w2.cell? ⟨m.gb, 1, none⟩ = some (.slice (some ⟨pb, 0, none⟩) s1.n nc) := (Blk.at HN2.out.gblk 1).trans (by rw [← hnv]; rfl)
  have p1 : w2.cell? ⟨g, 0, none⟩ = some (.int .i64 l.f) := (Blk.at HG2.out 0).trans rfl
  have p2 : w2.cell? ⟨g, 1, none⟩ = some (.int .i64 l.k) := (Blk.at HG2.out 1).trans rfl
  have p3 : w2.cell? ⟨g, 2, none⟩ = some (.bool l.an) := (Blk.at HG2.out 2).trans rfl
  have p4 : w2.cell? ⟨g, 3, none⟩ = some (.int .i64 l.t1) := (Blk.at HG2.out 3).trans rfl
  have p5 : w2.cell? ⟨g, 4, none⟩ = some (.int .i64 l.t2) := (Blk.at HG2.out 4).trans rfl
  have p6 : w2.cell? ⟨g, 5, none⟩ = some (.int .i64 l.t) := (Blk.at HG2.out 5).trans rfl
  have hp' : w2.cell? ⟨pb, l.k, none⟩ = some (.pointer (some ⟨m.nb l.k, 0, none⟩)) := hp
  have hlk := HL.out.2.1
  clear hp
  go_wp2_with fail
  refine start_ (n := 20) (S := fun w' => (w'.cell? ⟨m.gb, 1, none⟩ = some (.slice (some ⟨pb, 0, none⟩) s1.n nc) ∧ w'.cell? ⟨pb, l.k, none⟩ = some (.pointer (some ⟨m.nb l.k, 0, none⟩)) ∧ w'.cell? ⟨g, 0, none⟩ = some (.int .i64 l.f) ∧ w'.cell? ⟨g, 1, none⟩ = some (.int .i64 l.k)) ∧ w'.cell? ⟨g, 2, none⟩ = some (.bool l.an) ∧ w'.cell? ⟨g, 3, none⟩ = some (.int .i64 l.t1) ∧ w'.cell? ⟨g, 4, none⟩ = some (.int .i64 l.t2) ∧ w'.cell? ⟨g, 5, none⟩ = some (.int .i64 l.t)) (ds := []) #[false, false, false, false, false, false, false, false, false, false, false, false, false, false, false, false, false, false, false, false] (by kernel_rfl) rfl rfl (⟨⟨by go_simp, by go_simp, by go_simp, by go_simp⟩, by go_simp, by go_simp, by go_simp, by go_simp⟩) (fun hHeld => ?_)
  refine pure_ (i := 0) (N := some 42) (v := ?_) (a' := ?_) #[true, false, false, false, false, false, false, false, false, false, false, false, false, false, false, false, false, false, false, false] rfl rfl (by kernel_rfl) (fun _ _ _ h => h) (Or.inl ⟨by rfl, ?_⟩) ?_ ?_
  rotate_left
  · intro w'; go_simp; with_reducible rfl
  rotate_left
  · go_simp; rfl
  refine pure_ (i := 1) (N := some 43) (v := ?_) (a' := ?_) #[true, true, false, false, false, false, false, false, false, false, false, false, false, false, false, false, false, false, false, false] rfl rfl (by kernel_rfl) (fun _ _ _ h => h) (Or.inl ⟨by rfl, ?_⟩) ?_ ?_
  rotate_left
  · intro w'; go_simp; with_reducible rfl
  rotate_left
  · go_simp; rfl
  refine pure_ (i := 2) (N := some 44) (v := ?_) (a' := ?_) #[true, true, true, false, false, false, false, false, false, false, false, false, false, false, false, false, false, false, false, false] rfl rfl (by kernel_rfl) (fun _ _ _ h => h) (Or.inl ⟨by rfl, ?_⟩) ?_ ?_
  rotate_left
  · intro w'; go_simp; with_reducible rfl
  rotate_left
  · go_simp; rfl
  refine take_ (i := 3) (N := some 45) (v := ?_) (a' := ?_) #[true, true, true, true, false, false, false, false, false, false, false, false, false, false, false, false, false, false, false, false] rfl rfl (by kernel_rfl) (fun _ _ _ h => h) (Or.inl ⟨by rfl, ?_⟩) hHeld ?_ ?_
  rotate_left
  · rintro w' ⟨⟨s0, s1', s2, s3⟩, s4, s5, s6, s7⟩; go_simp; with_reducible rfl
  rotate_left
  · go_simp; rfl
  refine pure_ (i := 4) (N := some 46) (v := ?_) (a' := ?_) #[true, true, true, true, true, false, false, false, false, false, false, false, false, false, false, false, false, false, false, false] rfl rfl (by kernel_rfl) (fun _ _ _ h => h) (Or.inl ⟨by rfl, ?_⟩) ?_ ?_
  rotate_left
  · intro w'; go_simp; with_reducible rfl
  rotate_left
  · go_simp; rfl
  refine pure_ (i := 5) (N := some 47) (v := ?_) (a' := ?_) #[true, true, true, true, true, true, false, false, false, false, false, false, false, false, false, false, false, false, false, false] rfl rfl (by kernel_rfl) (fun _ _ _ h => h) (Or.inl ⟨by rfl, ?_⟩) ?_ ?_
  rotate_left
  · intro w'; go_simp; with_reducible rfl
  rotate_left
  · go_simp; rfl
  refine pure_ (i := 6) (N := some 48) (v := ?_) (a' := ?_) #[true, true, true, true, true, true, true, false, false, false, false, false, false, false, false, false, false, false, false, false] rfl rfl (by kernel_rfl) (fun _ _ _ h => h) (Or.inl ⟨by rfl, ?_⟩) ?_ ?_
  rotate_left
  · intro w'; go_simp; with_reducible rfl
  rotate_left
  · go_simp; rfl
  refine take_ (i := 7) (N := some 49) (v := ?_) (a' := ?_) #[true, true, true, true, true, true, true, true, false, false, false, false, false, false, false, false, false, false, false, false] rfl rfl (by kernel_rfl) (fun _ _ _ h => h) (Or.inl ⟨by rfl, ?_⟩) hHeld ?_ ?_
  rotate_left
  · rintro w' ⟨⟨s0, s1', s2, s3⟩, s4, s5, s6, s7⟩; go_simp; with_reducible rfl
  rotate_left
  · go_simp; rfl
  refine pure_ (i := 8) (N := some 50) (v := ?_) (a' := ?_) #[true, true, true, true, true, true, true, true, true, false, false, false, false, false, false, false, false, false, false, false] rfl rfl (by kernel_rfl) (fun _ _ _ h => h) (Or.inl ⟨by rfl, ?_⟩) ?_ ?_
  rotate_left
  · intro w'; go_simp; with_reducible rfl
  rotate_left
  · go_simp; rfl
  refine take_ (i := 9) (N := some 51) (v := ?_) (a' := ?_) #[true, true, true, true, true, true, true, true, true, true, false, false, false, false, false, false, false, false, false, false] rfl rfl (by kernel_rfl) (fun _ _ _ h => h) (Or.inl ⟨by rfl, ?_⟩) hHeld ?_ ?_
  rotate_left
  · rintro w' ⟨⟨s0, s1', s2, s3⟩, s4, s5, s6, s7⟩; go_simp; with_reducible rfl
  rotate_left
  · go_simp; rfl
  refine pure_ (i := 10) (N := some 52) (v := ?_) (a' := ?_) #[true, true, true, true, true, true, true, true, true, true, true, false, false, false, false, false, false, false, false, false] rfl rfl (by kernel_rfl) (fun _ _ _ h => h) (Or.inl ⟨by rfl, ?_⟩) ?_ ?_
  rotate_left
  · intro w'; go_simp; with_reducible rfl
  rotate_left
  · go_simp; rfl
  refine pure_ (i := 11) (N := some 53) (v := ?_) (a' := ?_) #[true, true, true, true, true, true, true, true, true, true, true, true, false, false, false, false, false, false, false, false] rfl rfl (by kernel_rfl) (fun _ _ _ h => h) (Or.inl ⟨by rfl, ?_⟩) ?_ ?_
  rotate_left
  · intro w'; go_simp; with_reducible rfl
  rotate_left
  · go_simp; rfl
  refine take_ (i := 12) (N := some 54) (v := ?_) (a' := ?_) #[true, true, true, true, true, true, true, true, true, true, true, true, true, false, false, false, false, false, false, false] rfl rfl (by kernel_rfl) (fun _ _ _ h => h) (Or.inl ⟨by rfl, ?_⟩) hHeld ?_ ?_
  rotate_left
  · rintro w' ⟨⟨s0, s1', s2, s3⟩, s4, s5, s6, s7⟩; go_simp; with_reducible rfl
  rotate_left
  · go_simp; rfl
  refine pure_ (i := 13) (N := some 55) (v := ?_) (a' := ?_) #[true, true, true, true, true, true, true, true, true, true, true, true, true, true, false, false, false, false, false, false] rfl rfl (by kernel_rfl) (fun _ _ _ h => h) (Or.inl ⟨by rfl, ?_⟩) ?_ ?_
  rotate_left
  · intro w'; go_simp; with_reducible rfl
  rotate_left
  · go_simp; rfl
  refine one_ (i := 14) (N := some 56) #[true, true, true, true, true, true, true, true, true, true, true, true, true, true, true, false, false, false, false, false] rfl rfl (by kernel_rfl) (by decide) (fun K hK => ?_)
  go_simp
  refine (netHear l (HN2.out.drewN 1) HF1.out HL.out HH.out).mono ?_
  rintro e w3 ⟨rfl, hn3, hk3⟩
  have hg3 : Blk w3 g (ltrC l.f l.k l.an l.t1 l.t2 l.t).toArray 48 := Blk.keep HG2.out (w := w2.drew) hk3 (by
    rintro (e | e)
    · exact Blk.tne HG2.out (HN2.out.nat.blk l.k HL.out.2.1) (by decide) e
    · exact (HN2.out.nat.map l.k HL.out.2.1).ne HG2.out e.symm)
  have r0 : w3.cell? ⟨m.gb, 1, none⟩ = some (.slice (some ⟨pb, 0, none⟩) s1.n nc) := (Blk.at hn3.gblk 1).trans (by rw [← hnv]; rfl)
  have r1 : w3.cell? ⟨g, 0, none⟩ = some (.int .i64 l.f) := (Blk.at hg3 0).trans rfl
  have r2 : w3.cell? ⟨g, 1, none⟩ = some (.int .i64 l.k) := (Blk.at hg3 1).trans rfl
  have r3 : w3.cell? ⟨g, 2, none⟩ = some (.bool l.an) := (Blk.at hg3 2).trans rfl
  have r4 : w3.cell? ⟨g, 3, none⟩ = some (.int .i64 l.t1) := (Blk.at hg3 3).trans rfl
  have r5 : w3.cell? ⟨g, 4, none⟩ = some (.int .i64 l.t2) := (Blk.at hg3 4).trans rfl
  have r6 : w3.cell? ⟨g, 5, none⟩ = some (.int .i64 l.t) := (Blk.at hg3 5).trans rfl
  obtain ⟨pb', e', _, r7⟩ := hn3.ptr hnv HL.out.2.1
  cases e'
  have r7 : w3.cell? ⟨pb, l.k, none⟩ = some (.pointer (some ⟨m.nb l.k, 0, none⟩)) := r7
  have HN3 := Lib.hid hn3
  have HK3 : Hid (Keep (m.has s1.n) w w3) := (HK2.out.mono (T := m.has s1.n) (fun k _ e => NetMem.has_world e)).trans (((Keep.refl _ w2).drewN 1).trans hk3 (fun _ _ h => h)) (fun k _ e => NetMem.has_node HL.out.2.1 e)
  have HG3 := Lib.hid hg3
  have hs3 := hk3.size
  clear hn3 hk3 hg3
  refine hK.out _ _ ⟨⟨r0, r7, r1, r2⟩, r3, r4, r5, r6⟩ (fun hHeld => ?_)
  clear hK K
  refine pure_ (i := 15) (N := some 41) (v := ?_) (a' := ?_) #[true, true, true, true, true, true, true, true, true, true, true, true, true, true, true, true, false, false, false, false] rfl rfl (by kernel_rfl) (fun _ _ _ h => h) (Or.inl ⟨by rfl, ?_⟩) ?_ ?_
  rotate_left
  · intro w'; go_simp; with_reducible rfl
  rotate_left
  · go_simp; rfl
  refine pure_ (i := 16) (N := some 57) (v := ?_) (a' := ?_) #[true, true, true, true, true, true, true, true, true, true, true, true, true, true, true, true, true, false, false, false] rfl rfl (by kernel_rfl) (fun _ _ _ h => h) (Or.inl ⟨by rfl, ?_⟩) ?_ ?_
  rotate_left
  · intro w'; go_simp; with_reducible rfl
  rotate_left
  · go_simp; rfl
  refine pure_ (i := 17) (N := some 58) (v := ?_) (a' := ?_) #[true, true, true, true, true, true, true, true, true, true, true, true, true, true, true, true, true, true, false, false] rfl rfl (by kernel_rfl) (fun _ _ _ h => h) (Or.inl ⟨by rfl, ?_⟩) ?_ ?_
  rotate_left
  · intro w'; go_simp; with_reducible rfl
  rotate_left
  · go_simp; rfl
  refine pure_ (i := 18) (N := some 8) (v := ?_) (a' := ?_) #[true, true, true, true, true, true, true, true, true, true, true, true, true, true, true, true, true, true, true, false] rfl rfl (by kernel_rfl) (fun _ _ _ h => h) (Or.inl ⟨by rfl, ?_⟩) ?_ ?_
  rotate_left
  · intro w'; go_simp; with_reducible rfl
  rotate_left
  · go_simp; rfl
  refine pure_ (i := 19) (N := some 9) (v := ?_) (a' := ?_) #[true, true, true, true, true, true, true, true, true, true, true, true, true, true, true, true, true, true, true, true] rfl rfl (by kernel_rfl) (fun _ _ _ h => h) (Or.inl ⟨by rfl, ?_⟩) ?_ ?_
  rotate_left
  · intro w'; go_simp; with_reducible rfl
  rotate_left
  · go_simp; rfl
  refine done_ (by kernel_rfl) ?_
  have glt3 := Blk.lt HG3.out
  have q3 : w3.cell? ⟨g, 2, none⟩ = some (.bool l.an) := (Blk.at HG3.out 2).trans rfl
  rcases han : l.an with _ | _
  · rw [han] at q3
    clear r0 r1 r2 r3 r4 r5 r6 r7 hHeld
    have hs3' : w2.heap.size ≤ w3.heap.size := hs3
    have z0 : w3.cell? ⟨m.gb, 0, none⟩ = some (.pointer (some ⟨m.wb, 0, none⟩)) := (Blk.at HN3.out.gblk 0).trans rfl
    have z1 : w3.cell? ⟨g, 0, none⟩ = some (.int .i64 l.f) := (Blk.at HG3.out 0).trans rfl
    have z2 : w3.cell? ⟨g, 1, none⟩ = some (.int .i64 l.k) := (Blk.at HG3.out 1).trans rfl
    have z4 : w3.cell? ⟨g, 3, none⟩ = some (.int .i64 0) := (Blk.at HG3.out 3).trans (by rw [← (HQ.out han).1]; rfl)
    have z5 : w3.cell? ⟨g, 4, none⟩ = some (.int .i64 0) := (Blk.at HG3.out 4).trans (by rw [← (HQ.out han).2]; rfl)
    have z6 : w3.cell? ⟨g, 5, none⟩ = some (.int .i64 l.t) := (Blk.at HG3.out 5).trans rfl
    have hF3 : Fine (s1.setNode l.k ((s1.nodes l.k).hear l (s1.read l.k) s1.ppm)) := by
      have h := HF1.out
      exact ⟨h.n1, h.n2, h.p1, h.p2, h.sl, h.rl, h.sb, h.rb, h.t1, h.t2, h.ul, h.us⟩
    go_wp2_with fail
    refine start_ (n := 9) (S := fun w' => (w'.cell? ⟨m.gb, 0, none⟩ = some (.pointer (some ⟨m.wb, 0, none⟩)) ∧ w'.cell? ⟨g, 0, none⟩ = some (.int .i64 l.f) ∧ w'.cell? ⟨g, 1, none⟩ = some (.int .i64 l.k)) ∧ w'.cell? ⟨g, 2, none⟩ = some (.bool false) ∧ w'.cell? ⟨g, 3, none⟩ = some (.int .i64 0) ∧ w'.cell? ⟨g, 4, none⟩ = some (.int .i64 0) ∧ w'.cell? ⟨g, 5, none⟩ = some (.int .i64 l.t)) (ds := []) #[false, false, false, false, false, false, false, false, false] (by kernel_rfl) rfl rfl (⟨⟨by go_simp, by go_simp, by go_simp⟩, by go_simp, by go_simp, by go_simp, by go_simp⟩) (fun hHeld => ?_)
    refine pure_ (i := 0) (N := some 66) (v := ?_) (a' := ?_) #[true, false, false, false, false, false, false, false, false] rfl rfl (by kernel_rfl) (fun _ _ _ h => h) (Or.inl ⟨by rfl, ?_⟩) ?_ ?_
    rotate_left
    · intro w'; go_simp; with_reducible rfl
    rotate_left
    · go_simp; rfl
    refine pure_ (i := 1) (N := some 67) (v := ?_) (a' := ?_) #[true, true, false, false, false, false, false, false, false] rfl rfl (by kernel_rfl) (fun _ _ _ h => h) (Or.inl ⟨by rfl, ?_⟩) ?_ ?_
    rotate_left
    · intro w'; go_simp; with_reducible rfl
    rotate_left
    · go_simp; rfl
    refine pure_ (i := 2) (N := some 68) (v := ?_) (a' := ?_) #[true, true, true, false, false, false, false, false, false] rfl rfl (by kernel_rfl) (fun _ _ _ h => h) (Or.inl ⟨by rfl, ?_⟩) ?_ ?_
    rotate_left
    · intro w'; go_simp; with_reducible rfl
    rotate_left
    · go_simp; rfl
    refine take_ (i := 3) (N := some 69) (v := ?_) (a' := ?_) #[true, true, true, true, false, false, false, false, false] rfl rfl (by kernel_rfl) (fun _ _ _ h => h) (Or.inl ⟨by rfl, ?_⟩) hHeld ?_ ?_
    rotate_left
    · rintro w' ⟨⟨s0, s1', s2⟩, s3, s4, s5, s6⟩; go_simp; with_reducible rfl
    rotate_left
    · go_simp; rfl
    refine pure_ (i := 4) (N := some 70) (v := ?_) (a' := ?_) #[true, true, true, true, true, false, false, false, false] rfl rfl (by kernel_rfl) (fun _ _ _ h => h) (Or.inl ⟨by rfl, ?_⟩) ?_ ?_
    rotate_left
    · intro w'; go_simp; with_reducible rfl
    rotate_left
    · go_simp; rfl
    refine pure_ (i := 5) (N := some 71) (v := ?_) (a' := ?_) #[true, true, true, true, true, true, false, false, false] rfl rfl (by kernel_rfl) (fun _ _ _ h => h) (Or.inl ⟨by rfl, ?_⟩) ?_ ?_
    rotate_left
    · intro w'; go_simp; with_reducible rfl
    rotate_left
    · go_simp; rfl
    refine take_ (i := 6) (N := some 72) (v := ?_) (a' := ?_) #[true, true, true, true, true, true, true, false, false] rfl rfl (by kernel_rfl) (fun _ _ _ h => h) (Or.inl ⟨by rfl, ?_⟩) hHeld ?_ ?_
    rotate_left
    · rintro w' ⟨⟨s0, s1', s2⟩, s3, s4, s5, s6⟩; go_simp; with_reducible rfl
    rotate_left
    · go_simp; rfl
    refine one_ (i := 7) (N := some 73) #[true, true, true, true, true, true, true, true, false] rfl rfl (by kernel_rfl) (by decide) (fun K hK => ?_)
    go_simp
    refine (netAnswer (HN3.out.drewN 1) hF3 (show base ≤ w3.heap.size by omega) l.t HL.out.1 HL.out.2.1).mono ?_
    rintro e w4 ⟨rfl, uv', hn4, hk4, hm4⟩
    have hg4 : Blk w4 g (ltrC l.f l.k l.an l.t1 l.t2 l.t).toArray 48 := Blk.keep HG3.out (w := w3.drew) hk4 (by
      rintro (e | e)
      · exact Blk.tne HG3.out HN3.out.wat.wblk (by decide) e
      · exact hgu e)
    have t0 : w4.cell? ⟨m.gb, 0, none⟩ = some (.pointer (some ⟨m.wb, 0, none⟩)) := (Blk.at hn4.gblk 0).trans rfl
    have t1 : w4.cell? ⟨g, 0, none⟩ = some (.int .i64 l.f) := (Blk.at hg4 0).trans rfl
    have t2 : w4.cell? ⟨g, 1, none⟩ = some (.int .i64 l.k) := (Blk.at hg4 1).trans rfl
    have t3 : w4.cell? ⟨g, 2, none⟩ = some (.bool false) := (Blk.at hg4 2).trans (by rw [← han]; rfl)
    have t4 : w4.cell? ⟨g, 3, none⟩ = some (.int .i64 0) := (Blk.at hg4 3).trans (by rw [← (HQ.out han).1]; rfl)
    have t5 : w4.cell? ⟨g, 4, none⟩ = some (.int .i64 0) := (Blk.at hg4 4).trans (by rw [← (HQ.out han).2]; rfl)
    have t6 : w4.cell? ⟨g, 5, none⟩ = some (.int .i64 l.t) := (Blk.at hg4 5).trans rfl
    generalize hcode : (if 40 ≤ (s1.setNode l.k ((s1.nodes l.k).hear l (s1.read l.k) s1.ppm)).under.length then 4 else 0) = code
    have HC := Lib.hid hcode
    have HN4 := Lib.hid hn4
    have HK4 : Hid (Keep (m.has s1.n) w w4) := HK3.out.trans (((Keep.refl _ w3).drewN 1).trans hk4 (fun _ _ h => h)) (by
      intro k hk e
      rcases e with e | e
      · exact NetMem.has_world (.inl e)
      · rcases HM.out k e with h | h
        · exact NetMem.has_world (.inr h)
        · omega)
    have HM4 : Hid (Moved w m.uv uv') := by
      intro k hk
      rcases hm4 k hk with h | h
      · exact HM.out k h
      · right
        have : w3.heap.size ≤ k := h
        omega
    clear hn4 hk4 hm4 hg4 hcode
    refine hK.out _ _ ⟨⟨t0, t1, t2⟩, t3, t4, t5, t6⟩ (fun hHeld => ?_)
    clear hK K
    refine pure_ (i := 8) (N := some 4) (v := ?_) (a' := ?_) #[true, true, true, true, true, true, true, true, true] rfl rfl (by kernel_rfl) (fun _ _ _ h => h) (Or.inl ⟨by rfl, ?_⟩) ?_ ?_
    rotate_left
    · intro w'; go_simp; with_reducible rfl
    rotate_left
    · go_simp; rfl
    refine done_ (by kernel_rfl) ?_
    go_wp2
    go_returns
    have e1 : (s1.come l).2 = code := by
      rw [← HC.out]
      unfold St.come
      simp only [han]
      by_cases h40 : 40 ≤ (s1.setNode l.k ((s1.nodes l.k).hear l (s1.read l.k) s1.ppm)).under.length
      · simp [h40]
      · simp [h40]
    have e2 : (s1.come l).1 = (if 40 ≤ (s1.setNode l.k ((s1.nodes l.k).hear l (s1.read l.k) s1.ppm)).under.length then s1.setNode l.k ((s1.nodes l.k).hear l (s1.read l.k) s1.ppm) else
        { s1.setNode l.k ((s1.nodes l.k).hear l (s1.read l.k) s1.ppm) with under := (s1.setNode l.k ((s1.nodes l.k).hear l (s1.read l.k) s1.ppm)).under ++ [⟨l.k, l.f, true, l.t, s1.read l.k, s1.read l.k⟩] }) := by
      unfold St.come
      simp only [han]
      by_cases h40 : 40 ≤ (s1.setNode l.k ((s1.nodes l.k).hear l (s1.read l.k) s1.ppm)).under.length
      · simp [h40]
      · simp [h40]
    have e3 : (s1.come l).1.n = s1.n := by rw [e2]; split <;> rfl
    refine ⟨by rw [e1]; rfl, uv', by rw [e2]; exact HN4.out, by rw [e3]; exact HK4.out, HM4.out⟩
  · rw [han] at q3
    go_wp2
    go_returns
    have e : s1.come l = (s1.setNode l.k ((s1.nodes l.k).hear l (s1.read l.k) s1.ppm), 0) := by unfold St.come; simp [han]
    rw [e]
    exact ⟨rfl, uv, HN3.out, HK3.out, HM.out⟩
end
end Go.Proofs.Ytjohngeaifgcgaa

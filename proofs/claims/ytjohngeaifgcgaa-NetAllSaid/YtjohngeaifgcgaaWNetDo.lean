/- The world's part of an act, at a net in memory. -/
import Derived.Test.YtjohngeaifgcgaaWNetMem
import Derived.Test.YtjohngeaifgcgaaPAct
import Derived.Test.YtjohngeaifgcgaaWWorld4
import Derived.Test.YtjohngeaifgcgaaWHear2
namespace Go.Proofs.Ytjohngeaifgcgaa
open Go.RowKit
open Noon (Kn Ltr NodeSt St Fine)
open Go.Proofs.YtjohngeaifgcgaaW.PrintLast

section
variable {w w' : World} {base : Nat} {m : NetMem} {s : St}

theorem Blk.tne {g k : Nat} {cs ds : Array Value} {t u : TypeId} (h : Blk w g cs t) (h' : Blk w k ds u) (ht : t ≠ u) : g ≠ k := by
  rintro rfl
  unfold Blk at h h'
  rw [h] at h'
  injection h' with h'
  injection h' with _ h'
  exact ht h'

theorem ownsRow_tne {b1 b2 e1 e2 s1 s2 n1 n2 : Nat} {v1 v2 : Value} {x1 x2 : List Value} (h1 : w.ownsRow b1 e1 s1 v1 n1 x1) (h2 : w.ownsRow b2 e2 s2 v2 n2 x2) (ht : e1 ≠ e2) : ∀ k, v1.ownBlock = some k → ¬ v2.ownBlock = some k := by
  intro k hk hk2
  obtain ⟨c1, e1'⟩ := ownsRow_type h1 hk
  exact ownsRow_ne h2 (k := k) e1' ht hk2

theorem MapIs.notRow' {mb : Nat} {of : Nat → Option Kn} (h : MapIs w mb of) {b e size : Nat} {v : Value} {n : Nat} {xs : List Value} (ho : w.ownsRow b e size v n xs) : ¬ v.ownBlock = some mb := by
  intro hv
  obtain ⟨cur, hh⟩ := ownsRow_type ho hv
  exact h.ne (g := mb) (cs := cur) (t := e) hh rfl

/-- the world has turned: its block, and the row of letters -/
theorem NetAt.world (h : NetAt w base m s) (hk : Keep (fun k => k = m.wb ∨ m.uv.ownBlock = some k) w w') {t : Int} {uv : Value} {u : List Ltr}
    (hw : Blk w' m.wb #[.slice (some ⟨m.sb, 0, none⟩) s.n m.sc, .slice (some ⟨m.rb, 0, none⟩) s.n m.rc, .int .i64 t, uv] 105)
    (hu : w'.ownsRow base 48 6 uv u.length (lettersC u)) : NetAt w' base { m with uv := uv } { s with time := t, under := u } := by
  have hwb := h.wat.wblk
  have hrow : ∀ {e : TypeId} {v : Value} {n : Nat} {xs : List Value}, w.ownsRow base e 1 v n xs → e ≠ 105 → e ≠ 48 → w'.ownsRow base e 1 v n xs := by
    intro e v n xs ho h1 h2
    refine ownsRow_keep ho hk ?_
    rintro k hv (rfl | hk2)
    · exact ownsRow_ne ho hwb (fun e => h1 e.symm) hv
    · exact ownsRow_tne ho h.wat.under h2 k hv hk2
  have hblk : ∀ {g : Nat} {cs : Array Value} {e : TypeId}, Blk w g cs e → e ≠ 105 → e ≠ 48 → Blk w' g cs e := by
    intro g cs e hb h1 h2
    refine Blk.keep hb hk ?_
    rintro (rfl | hk2)
    · exact Blk.tne hb hwb h1 rfl
    · exact ownsRow_ne h.wat.under hb h2 hk2
  exact {
    gblk := hblk h.gblk (by decide) (by decide)
    gge := h.gge
    wat := { wblk := hw, wge := h.wat.wge, starts := hrow h.wat.starts (by decide) (by decide), rates := hrow h.wat.rates (by decide) (by decide), under := hu }
    ptrs := hrow h.ptrs (by decide) (by decide)
    nat := { blk := fun j hj => hblk (h.nat.blk j hj) (by decide) (by decide)
             map := fun j hj => (h.nat.map j hj).keep hk (by
               rintro (e | hk2)
               · exact (h.nat.map j hj).ne hwb e
               · exact (h.nat.map j hj).notRow' h.wat.under hk2)
             nge := h.nat.nge, mge := h.nat.mge, ninj := h.nat.ninj, minj := h.nat.minj } }

/-- one node has turned: its block, and its map -/
theorem NetAt.node (h : NetAt w base m s) {j : Nat} (hj : j < s.n) (hk : Keep (fun k => k = m.nb j ∨ k = m.mb j) w w') {x : NodeSt}
    (hn : Blk w' (m.nb j) (nodeC j s.n s.ppm x.here (m.mb j)) 108) (hm : MapIs w' (m.mb j) x.of) : NetAt w' base m (s.setNode j x) := by
  have hnb := h.nat.blk j hj
  have hmb := h.nat.map j hj
  have hrow : ∀ {e : TypeId} {b size : Nat} {v : Value} {n : Nat} {xs : List Value}, w.ownsRow b e size v n xs → e ≠ 108 → w'.ownsRow b e size v n xs := by
    intro e b size v n xs ho h1
    refine ownsRow_keep ho hk ?_
    rintro k hv (rfl | rfl)
    · exact ownsRow_ne ho hnb (fun e => h1 e.symm) hv
    · exact hmb.notRow' ho hv
  have hblk : ∀ {g : Nat} {cs : Array Value} {e : TypeId}, Blk w g cs e → e ≠ 108 → Blk w' g cs e := by
    intro g cs e hb h1
    refine Blk.keep hb hk ?_
    rintro (rfl | rfl)
    · exact Blk.tne hb hnb h1 rfl
    · exact hmb.ne hb rfl
  exact {
    gblk := hblk h.gblk (by decide)
    gge := h.gge
    wat := { wblk := hblk h.wat.wblk (by decide), wge := h.wat.wge, starts := hrow h.wat.starts (by decide), rates := hrow h.wat.rates (by decide), under := hrow h.wat.under (by decide) }
    ptrs := hrow h.ptrs (by decide)
    nat := {
      blk := by
        intro i hi
        by_cases e : i = j
        · subst e; simpa [St.setNode] using hn
        · show Blk w' (m.nb i) (nodeC i s.n s.ppm (if i = j then x else s.nodes i).here (m.mb i)) _
          rw [if_neg e]
          refine Blk.keep (h.nat.blk i hi) hk ?_
          rintro (e2 | e2)
          · exact e (h.nat.ninj i j hi hj e2)
          · exact hmb.ne (h.nat.blk i hi) e2.symm
      map := by
        intro i hi
        by_cases e : i = j
        · subst e; simpa [St.setNode] using hm
        · show MapIs w' (m.mb i) (if i = j then x else s.nodes i).of
          rw [if_neg e]
          refine (h.nat.map i hi).keep hk ?_
          rintro (e2 | e2)
          · exact (h.nat.map i hi).ne hnb e2
          · exact e (h.nat.minj i j hi hj e2)
      nge := h.nat.nge, mge := h.nat.mge, ninj := h.nat.ninj, minj := h.nat.minj } }
end

theorem lettersC_cons (x : Ltr) (l : List Ltr) : lettersC (x :: l) = ltrC x.f x.k x.an x.t1 x.t2 x.t ++ lettersC l := rfl
theorem lettersC_append (l k : List Ltr) : lettersC (l ++ k) = lettersC l ++ lettersC k := by unfold lettersC; exact List.flatMap_append
theorem lettersC_get {l : List Ltr} {i : Nat} {x : Ltr} (h : l[i]? = some x) : ∀ j, j < 6 → (lettersC l)[i * 6 + j]? = (ltrC x.f x.k x.an x.t1 x.t2 x.t)[j]? := by
  induction l generalizing i with
  | nil => simp at h
  | cons y l ih =>
    intro j hj
    rw [lettersC_cons]
    cases i with
    | zero =>
      simp at h; subst h
      rw [List.getElem?_append_left (by simp [ltrC]; omega)]; simp
    | succ i =>
      rw [List.getElem?_append_right (by simp [ltrC]; omega), ← ih (by simpa using h) j hj]
      congr 1
      simp [ltrC]; omega
theorem lettersC_erase (l : List Ltr) (i : Nat) (hi : i < l.length) : lettersC (l.eraseIdx i) = (lettersC l).take (i * 6) ++ (lettersC l).drop ((i + 1) * 6) := by
  induction l generalizing i with
  | nil => simp at hi
  | cons y l ih =>
    cases i with
    | zero => simp [lettersC_cons, ltrC]
    | succ i =>
      have := ih i (by simpa using hi)
      rw [List.eraseIdx_cons_succ, lettersC_cons, lettersC_cons, this]
      simp [ltrC, Nat.add_mul]
theorem lettersC_one (l : List Ltr) : ∀ u ∈ lettersC l, u.oneCell' = true := by
  intro u hu
  unfold lettersC at hu
  obtain ⟨x, _, hx⟩ := List.mem_flatMap.1 hu
  simp [ltrC] at hx
  rcases hx with h | h | h | h | h | h <;> subst h <;> rfl

def errN (c : Nat) : Value := if c = 0 then .nilIface else errV c

/-- the row of letters is where it was, or new -/
def Moved (w : World) (u v : Value) : Prop := ∀ k, v.ownBlock = some k → u.ownBlock = some k ∨ w.heap.size ≤ k
theorem Moved.refl (w : World) (u : Value) : Moved w u u := fun _ h => .inl h

def Did (w : World) (base : Nat) (m : NetMem) (r : St × Nat × Option Ltr) (e : Ending) (w' : World) : Prop :=
  ∃ uv, NetAt w' base { m with uv := uv } r.1 ∧ Keep (fun k => k = m.wb ∨ m.uv.ownBlock = some k) w w' ∧ Moved w m.uv uv ∧
    match r.2.2 with
    | none => e = .returned (.tuple #[.pointer none, errN r.2.1])
    | some l => ∃ g, e = .returned (.tuple #[.pointer (some ⟨g, 0, none⟩), .nilIface]) ∧ Blk w' g (ltrC l.f l.k l.an l.t1 l.t2 l.t).toArray 48 ∧ w.heap.size ≤ g ∧ ¬ uv.ownBlock = some g

section
variable {w w' : World} {base : Nat} {m : NetMem} {s : St}
theorem NetAt.same (h : NetAt w base m s) : NetAt w base { m with uv := m.uv } s := h
theorem Did.no (h : NetAt w base m s) (c : Nat) (hc : c ≠ 0) (hw : Below w.heap.size w w') : Did w base m (s, c, none) (.returned (.tuple #[.pointer none, errV c])) w' :=
  ⟨m.uv, (h.below hw).same, Keep.ofBelow hw, Moved.refl _ _, by simp [errN, hc]⟩
theorem NetAt.cells (h : NetAt w base m s) : w.cell? ⟨m.wb, 0, none⟩ = some (.slice (some ⟨m.sb, 0, none⟩) s.n m.sc) ∧ w.cell? ⟨m.wb, 1, none⟩ = some (.slice (some ⟨m.rb, 0, none⟩) s.n m.rc) ∧ w.cell? ⟨m.wb, 2, none⟩ = some (.int .i64 s.time) ∧ w.cell? ⟨m.wb, 3, none⟩ = some m.uv :=
  ⟨(Blk.at h.wat.wblk 0).trans rfl, (Blk.at h.wat.wblk 1).trans rfl, (Blk.at h.wat.wblk 2).trans rfl, (Blk.at h.wat.wblk 3).trans rfl⟩
theorem ownsRow_int {e g n c : Nat} {zs : List Int} (h : w.ownsRow base e 1 (.slice (some ⟨g, 0, none⟩) n c) n (zs.map (.int .i64))) (hn : zs.length = n) {i : Nat} (hi : i < n) :
    w.cell? ⟨g, i, none⟩ = some (.int .i64 (zs.getD i 0)) := by
  have h2 : (zs.map (Value.int .i64))[i]? = some (.int .i64 (zs.getD i 0)) → w.cell? ⟨g, i, none⟩ = some (.int .i64 (zs.getD i 0)) := fun hx => by
    have := World.ownsRow.cells h (g := g) rfl i _ hx
    rwa [show (⟨g, 0, none⟩ : Addr).add i = ⟨g, i, none⟩ from by cases i <;> simp [Addr.add]] at this
  refine h2 ?_
  rw [List.getElem?_map, List.getD_eq_getElem?_getD]
  rw [List.getElem?_eq_getElem (show i < zs.length by omega)]
  simp

theorem NetAt.rates (h : NetAt w base m s) (hf : Fine s) {i : Nat} (hi : i < s.n) : w.cell? ⟨m.rb, i, none⟩ = some (.int .i64 (s.rates.getD i 0)) := ownsRow_int h.wat.rates hf.rl hi
theorem NetAt.starts (h : NetAt w base m s) (hf : Fine s) {i : Nat} (hi : i < s.n) : w.cell? ⟨m.sb, i, none⟩ = some (.int .i64 (s.starts.getD i 0)) := ownsRow_int h.wat.starts hf.sl hi

theorem worldDo (what a b : Int) (h : NetAt w base m s) (hf : Fine s) (hb : base ≤ w.heap.size) :
    Calls Try.prog 24 #[.pointer (some ⟨m.wb, 0, none⟩), .agg #[.int .i64 what, .int .i64 a, .int .i64 b]] w (Did w base m (s.wdo what a b)) := by
  obtain ⟨c0, c1, c2, c3⟩ := h.cells
  have ht1 := hf.t1
  have ht2 := hf.t2
  have hul := hf.ul
  have hp1 := hf.p1
  have hp2 := hf.p2
  obtain ⟨A, cu, huv⟩ := ownsRow_slice h.wat.under
  unfold St.wdo
  by_cases q1 : what = 1
  · subst q1
    rw [if_pos rfl]
    by_cases g : a < 0 ∨ 1000000 < a ∨ 1000000000 < s.time + a
    · rw [if_pos g]
      refine (doGo_no m.wb s.time a b w c2 ht1 ht2 g).mono ?_
      rintro e w' ⟨rfl, hw⟩
      exact Did.no h 1 (by decide) hw
    · rw [if_neg g]
      refine (doGo_ok m.wb _ _ m.uv s.time a b w h.wat.wblk ht1 (by omega) (by omega) (by omega)).mono ?_
      rintro e w' ⟨rfl, hw, hk⟩
      have hk2 : Keep (fun k => k = m.wb ∨ m.uv.ownBlock = some k) w w' := hk.mono (fun k _ e => .inl e)
      exact ⟨m.uv, NetAt.world h hk2 hw (ownsRow_keep h.wat.under hk (fun k hv e => ownsRow_ne h.wat.under h.wat.wblk (by decide) (e ▸ hv))), hk2, Moved.refl _ _, rfl⟩
  rw [if_neg q1]
  by_cases q2 : what = 2
  · subst q2
    rw [if_pos rfl]
    by_cases g : a < 0 ∨ s.n ≤ a ∨ b < 0 ∨ s.n ≤ b
    · rw [if_pos g]
      refine (doAsk_range m.wb s.n _ _ a b w c0 ?_).mono ?_
      · unfold nodeB
        by_cases g1 : 0 ≤ a ∧ a < s.n
        · right; simp; omega
        · left; simp; omega
      rintro e w' ⟨rfl, hw⟩
      exact Did.no h 1 (by decide) hw
    rw [if_neg g]
    have ha : nodeB s.n a = true := by unfold nodeB; simp; omega
    have hbb : nodeB s.n b = true := by unfold nodeB; simp; omega
    by_cases g2 : a = b
    · subst g2
      rw [if_pos rfl]
      refine (doAsk_shape m.wb s.n _ _ a w c0 ha).mono ?_
      rintro e w' ⟨rfl, hw⟩
      exact Did.no h 3 (by decide) hw
    rw [if_neg g2]
    by_cases g3 : 40 ≤ s.under.length
    · rw [if_pos g3]
      refine (doAsk_full m.wb s.n _ s.under.length cu _ A a b w c0 (by rw [c3, huv]) ha hbb (by simpa using g2) g3 (by omega)).mono ?_
      rintro e w' ⟨rfl, hw⟩
      exact Did.no h 4 (by decide) hw
    rw [if_neg g3]
    obtain ⟨i, rfl⟩ : ∃ i : Nat, a = i := ⟨a.toNat, by omega⟩
    obtain ⟨k, rfl⟩ : ∃ i : Nat, b = i := ⟨b.toNat, by omega⟩
    have hi : i < s.n := by omega
    have hk : k < s.n := by omega
    have hrb := hf.rb i hi
    have hsb := hf.sb i hi
    refine (doAsk base m.wb m.sb m.rb s.n m.sc m.rc i k s.under.length m.uv _ s.time _ _ w h.wat.wblk (h.starts hf hi) (h.rates hf hi) hi hk (by omega) ht1 ht2 (by omega) (by omega) hsb.1 hsb.2 h.wat.under (by omega) hb).mono ?_
    rintro e w' ⟨rfl, g', c', hw, hu, hkp, hgg⟩
    refine ⟨_, NetAt.world h hkp hw ?_, hkp, ?_, rfl⟩
    · simpa [lettersC_append, lettersC, St.read] using hu
    · intro x hx
      have e : g' = x := by simpa [Value.ownBlock] using hx
      subst e; exact hgg
  rw [if_neg q2]
  by_cases q3 : what = 3 ∨ what = 4 ∨ what = 5
  · rw [if_pos q3]
    by_cases g : a < 0 ∨ s.under.length ≤ a
    · rw [if_pos g]
      refine (doTake_no m.wb s.under.length cu A what a b w (by rw [c3, huv]) q3 g).mono ?_
      rintro e w' ⟨rfl, hw⟩
      exact Did.no h 5 (by decide) hw
    rw [if_neg g]
    obtain ⟨i, rfl⟩ : ∃ i : Nat, a = i := ⟨a.toNat, by omega⟩
    have hi : i < s.under.length := by omega
    obtain ⟨ub, cap, huv', hub, _⟩ := ownsRow_at h.wat.under (show 0 < s.under.length by omega)
    have hget : s.under[i]? = some s.under[i] := List.getElem?_eq_getElem hi
    have hu := h.wat.under
    have hwb := h.wat.wblk
    rw [huv'] at hu hwb
    have taken : ∀ w', Taken w base m.wb ub (.slice (some ⟨m.sb, 0, none⟩) s.n m.sc) (.slice (some ⟨m.rb, 0, none⟩) s.n m.rc) s.time s.under.length cap i (lettersC s.under) w' →
        ∃ uv, NetAt w' base { m with uv := uv } { s with under := s.under.eraseIdx i } ∧ Keep (fun k => k = m.wb ∨ m.uv.ownBlock = some k) w w' ∧ ∀ k, uv.ownBlock = some k → m.uv.ownBlock = some k := by
      rintro w' ⟨hw, ho, hkp⟩
      have hkp2 : Keep (fun k => k = m.wb ∨ m.uv.ownBlock = some k) w w' := hkp.mono (fun k _ e => by
        rcases e with rfl | rfl
        · exact .inl rfl
        · right; rw [huv']; rfl)
      refine ⟨_, NetAt.world h hkp2 hw ?_, hkp2, ?_⟩
      · rw [lettersC_erase _ _ hi, List.length_eraseIdx_of_lt hi]; exact ho
      · intro x hx
        rw [huv']; exact hx
    rcases q3 with rfl | rfl | rfl
    · refine (doDeliver base m.wb ub i s.under.length cap _ _ s.time s.under[i].f s.under[i].k s.under[i].t1 s.under[i].t2 s.under[i].t b s.under[i].an _ w hwb hu hi (by omega) (lettersC_get hget) (lettersC_one _)).mono ?_
      rintro e w' ⟨⟨g', rfl, hg, hge⟩, ht⟩
      obtain ⟨uv, hn, hbb, hmv⟩ := taken w' ht
      refine ⟨uv, hn, hbb, fun k hk => .inl (hmv k hk), ?_⟩
      simp [hget]
      exact ⟨hg, hge, fun e => by have := (h.wat.under.lt g' (hmv g' e)).2; omega⟩
    · refine (doLose base m.wb ub i s.under.length cap _ _ s.time s.under[i].f s.under[i].k s.under[i].t1 s.under[i].t2 s.under[i].t b s.under[i].an _ w hwb hu hi (by omega) (lettersC_get hget) (lettersC_one _)).mono ?_
      rintro e w' ⟨rfl, ht⟩
      obtain ⟨uv, hn, hbb, hmv⟩ := taken w' ht
      exact ⟨uv, hn, hbb, fun k hk => .inl (hmv k hk), rfl⟩
    · refine (doRepeat base m.wb ub i s.under.length cap _ _ s.time s.under[i].f s.under[i].k s.under[i].t1 s.under[i].t2 s.under[i].t b s.under[i].an _ w hwb hu hi (lettersC_get hget)).mono ?_
      rintro e w' ⟨⟨g', rfl, hg, hge⟩, hw⟩
      refine ⟨m.uv, (h.below hw).same, Keep.ofBelow hw, Moved.refl _ _, ?_⟩
      simp [hget]
      exact ⟨hg, hge, fun e => by have := (h.wat.under.lt g' e).2; omega⟩
  rw [if_neg q3]
  refine (doNone m.wb what a b w (by simpa using q1) (by simpa using q2) (by simp; omega) (by simp; omega) (by simp; omega)).mono ?_
  rintro e w' ⟨rfl, hw⟩
  exact Did.no h 1 (by decide) hw
end
end Go.Proofs.Ytjohngeaifgcgaa

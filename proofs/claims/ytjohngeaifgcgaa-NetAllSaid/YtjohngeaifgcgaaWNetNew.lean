/- A new net in memory. -/
import Derived.Test.YtjohngeaifgcgaaWNetMem
namespace Go.Proofs.Ytjohngeaifgcgaa
open Go.RowKit
open Noon (Kn Ltr NodeSt St)
open Go.Proofs.YtjohngeaifgcgaaW.PrintLast

theorem infoNodePtr : (Try.prog.info? 72).map (fun i => (i.zero, i.size, i.bytes)) = some (some (.pointer none), 1, 8) := by kernel_rfl

/-- k nodes of a new net, one behind the other in memory -/
structure Fresh (w : World) (base : Nat) (k n : Nat) (ppm : Int) (gb wb s1 c1 s2 c2 : Nat) (zs rs : List Int) (nv : Value) (nb : Nat → Nat) : Prop where
  gblk : Blk w gb #[.pointer (some ⟨wb, 0, none⟩), nv] 71
  wblk : Blk w wb #[.slice (some ⟨s1, 0, none⟩) n c1, .slice (some ⟨s2, 0, none⟩) n c2, .int .i64 0, .slice none 0 0] 105
  starts : w.ownsRow base 3 1 (.slice (some ⟨s1, 0, none⟩) n c1) n (zs.map (.int .i64))
  rates : w.ownsRow base 3 1 (.slice (some ⟨s2, 0, none⟩) n c2) n (rs.map (.int .i64))
  ptrs : w.ownsRow base 72 1 nv k (ptrsC k nb)
  blk : ∀ j, j < k → Blk w (nb j) (nodeC j n ppm (-1) (nb j - 1)) 108
  map : ∀ j, j < k → MapIs w (nb j - 1) (fun _ => none)
  lt : ∀ j, j < k → nb j < w.heap.size
  nge : ∀ j, j < k → base + 1 ≤ nb j
  inj : ∀ i j, i < j → j < k → nb i + 2 ≤ nb j

theorem MapIs.notRow {w : World} {mb : Nat} {of : Nat → Option Kn} (h : MapIs w mb of) {base e size : Nat} {v : Value} {n : Nat} {xs : List Value} (ho : w.ownsRow base e size v n xs) : v.ownBlock ≠ some mb := by
  intro hv
  obtain ⟨cur, hh⟩ := ownsRow_type ho hv
  exact h.ne (g := mb) (cs := cur) (t := e) hh rfl

theorem ptrsC_succ (k : Nat) (nb : Nat → Nat) (b : Nat) : ptrsC (k + 1) (fun j => if j = k then b else nb j) = ptrsC k nb ++ [.pointer (some ⟨b, 0, none⟩)] := by
  unfold ptrsC
  rw [List.range_succ, List.map_append]
  congr 1
  · apply List.map_congr_left
    intro j hj
    have := List.mem_range.1 hj
    simp [show j ≠ k by omega]
  · simp

theorem Fresh.step {wr w2 w3 : World} {base k n gb wb s1 c1 s2 c2 : Nat} {ppm : Int} {zs rs : List Int} {nv nv' : Value} {nb : Nat → Nat} {o : Obj}
    (h : Fresh wr base k n ppm gb wb s1 c1 s2 c2 zs rs nv nb) (hbase : base ≤ wr.heap.size) (hB : Below wr.heap.size wr w2) (hn : Blk w2 (wr.heap.size + 1) (nodeC k n ppm (-1) wr.heap.size) 108)
    (hm : MapIs w2 wr.heap.size (fun _ => none)) (hs : w2.heap.size = wr.heap.size + 2) (hown : w3.ownsRow base 72 1 nv' (k + 1) (ptrsC k nb ++ [.pointer (some ⟨wr.heap.size + 1, 0, none⟩)])) (hg : (w2.alloc o).grownBy w3 nv.ownBlock) :
    Fresh (w3.setCell ⟨gb, 1, none⟩ nv') base (k + 1) n ppm gb wb s1 c1 s2 c2 zs rs nv' (fun j => if j = k then wr.heap.size + 1 else nb j) := by
  have hk3 : Keep (fun x => nv.ownBlock = some x) wr w3 := Keep.grown ((Keep.ofBelow hB).alloc o) hg (fun x hx => .inl hx)
  have hk2 : Keep (fun x => nv.ownBlock = some x) w2 w3 := Keep.grown ((Keep.refl _ w2).alloc o) hg (fun x hx => .inl hx)
  have nlt : ∀ x, nv.ownBlock = some x → x < wr.heap.size := fun x hx => (h.ptrs.lt x hx).2
  have gg : ¬ nv.ownBlock = some gb := ownsRow_ne h.ptrs h.gblk (by decide)
  have G3 : Blk w3 gb #[.pointer (some ⟨wb, 0, none⟩), nv] 71 := Blk.keep h.gblk hk3 gg
  have W3 : Blk w3 wb _ 105 := Blk.keep h.wblk hk3 (ownsRow_ne h.ptrs h.wblk (by decide))
  have gw : wb ≠ gb := by
    rintro rfl
    have := h.gblk; unfold Blk at this; rw [h.wblk] at this; injection this with this; injection this with _ h2; revert h2; decide
  have rowne : ∀ {v : Value} {m : Nat} {xs : List Value}, wr.ownsRow base 3 1 v m xs → ∀ x, v.ownBlock = some x → ¬ nv.ownBlock = some x := by
    intro v m xs hv x hx hn
    obtain ⟨c, hc⟩ := ownsRow_type hv hx
    exact ownsRow_ne h.ptrs (k := x) hc (by decide) hn
  have S3 := ownsRow_keep h.starts hk3 (rowne h.starts)
  have R3 := ownsRow_keep h.rates hk3 (rowne h.rates)
  have rowg : ∀ {v : Value} {e m : Nat} {xs : List Value}, w3.ownsRow base e 1 v m xs → e ≠ 71 → (w3.setCell ⟨gb, 1, none⟩ nv').ownsRow base e 1 v m xs := fun hv he =>
    ownsRow_setCell_other hv (ownsRow_ne hv G3 (fun e => he e.symm)) _
  have N3 : ∀ j, j < k + 1 → Blk w3 (if j = k then wr.heap.size + 1 else nb j) (nodeC j n ppm (-1) ((if j = k then wr.heap.size + 1 else nb j) - 1)) 108 := by
    intro j hj
    by_cases e : j = k
    · subst e
      simp only [if_true]
      exact Blk.keep hn hk2 (fun hx => by have := nlt _ hx; omega)
    · simp only [if_neg e]
      exact Blk.keep (h.blk j (by omega)) hk3 (ownsRow_ne h.ptrs (h.blk j (by omega)) (by decide))
  have M3 : ∀ j, j < k + 1 → MapIs w3 ((if j = k then wr.heap.size + 1 else nb j) - 1) (fun _ => none) := by
    intro j hj
    by_cases e : j = k
    · subst e
      simp only [if_true]
      exact hm.keep hk2 (fun hx => by have := nlt _ hx; simp at this)
    · simp only [if_neg e]
      exact (h.map j (by omega)).keep hk3 ((h.map j (by omega)).notRow h.ptrs)
  have sz : w2.heap.size ≤ w3.heap.size := hk2.size
  have nne : ∀ j, j < k + 1 → (if j = k then wr.heap.size + 1 else nb j) ≠ gb := by
    intro j hj e
    have h1 := N3 j hj
    rw [e] at h1
    unfold Blk at h1
    have h2 := G3
    unfold Blk at h2
    rw [h2] at h1
    injection h1 with h1
    injection h1 with _ h3
    revert h3; decide
  exact {
    gblk := Blk.set G3 1 _
    wblk := Blk.far W3 gw _
    starts := rowg S3 (by decide)
    rates := rowg R3 (by decide)
    ptrs := by rw [ptrsC_succ]; exact rowg hown (by decide)
    blk := fun j hj => Blk.far (N3 j hj) (nne j hj) _
    map := fun j hj => (M3 j hj).far (p := ⟨gb, 1, none⟩) ((M3 j hj).ne G3) _
    lt := by
      intro j hj
      have : (w3.setCell ⟨gb, 1, none⟩ nv').heap.size = w3.heap.size := by simp
      rw [this]
      by_cases e : j = k
      · simp only [if_pos e]; omega
      · simp only [if_neg e]; have := h.lt j (by omega); omega
    nge := by
      intro j hj
      by_cases e : j = k
      · simp only [if_pos e]; omega
      · simp only [if_neg e]; exact h.nge j (by omega)
    inj := by
      intro i j hij hj
      by_cases e : j = k
      · subst e
        simp only [if_neg (show i ≠ j by omega), if_true]
        have := h.lt i (by omega); omega
      · simp only [if_neg e, if_neg (show i ≠ k by omega)]
        exact h.inj i j hij (by omega) }

def NetNew (w : World) (zs rs : List Int) (ppm : Int) (e : Ending) (w' : World) : Prop :=
  ∃ m : NetMem, e = .returned (.tuple #[.pointer (some ⟨m.gb, 0, none⟩), .nilIface]) ∧ NetAt w' w.heap.size m (St.first zs rs ppm) ∧ Below w.heap.size w w'

set_option maxRecDepth 100000 in
set_option maxHeartbeats 4000000 in
theorem netNew_ok (b1 o1 c1 b2 o2 c2 n : Nat) (zs rs : List Int) (ppm : Int) (w : World) (hz : zs.length = n) (hr : rs.length = n) (h1 : 1 ≤ n) (h2 : n ≤ 6) (hp : 0 ≤ ppm) (hp2 : ppm ≤ 1000)
    (hzs : IntsAt w b1 o1 zs) (hrs : IntsAt w b2 o2 rs) (hok : clocksOk zs rs ppm) :
    Calls Try.prog 7 #[.slice (some ⟨b1, o1, none⟩) n c1, .slice (some ⟨b2, o2, none⟩) n c2, .int .i64 ppm] w (NetNew w zs rs ppm) := by
  obtain ⟨i0, hi0, hz0, hz1, hz2⟩ := info_parts infoNodePtr
  have HW := Lib.hid (worldNew_ok b1 o1 c1 b2 o2 c2 n zs rs ppm w hz hr h1 h2 hp hp2 hzs hrs hok)
  have HL := Lib.hid hz
  clear hz hr hzs hrs hok
  go_enter Try.func7, Try.ntmps7
  go_wp2_with fail
  refine HW.out.mono ?_
  rintro e w1 ⟨wb, s1, d1, s2, d2, rfl, hwb, hs1, hs2, hge, hb1⟩
  have hwlt := Blk.lt hwb
  have HWB := Lib.hid hwb
  have HS1 := Lib.hid hs1
  have HS2 := Lib.hid hs2
  have HB1 := Lib.hid hb1
  have hz1' := hb1.size
  clear hwb hs1 hs2 hb1 HW
  go_wp2_with fail
  have F0 : Fresh (w1.alloc (.cells #[.pointer (some ⟨wb, 0, none⟩), .slice none 0 0] 71)) w.heap.size 0 n ppm w1.heap.size wb s1 d1 s2 d2 zs rs (.slice none 0 0) (fun _ => 0) :=
    { gblk := heap_alloc_new _ _, wblk := Blk.alloc HWB.out _, starts := HS1.out.alloc _, rates := HS2.out.alloc _, ptrs := World.ownsRow_nil _ _ _ _,
      blk := fun j hj => absurd hj (by omega), map := fun j hj => absurd hj (by omega), lt := fun j hj => absurd hj (by omega), nge := fun j hj => absurd hj (by omega), inj := fun i j _ hj => absurd hj (by omega) }
  have HF0 := Lib.hid F0
  have HB0 : Hid (Below w.heap.size w (w1.alloc (.cells #[.pointer (some ⟨wb, 0, none⟩), .slice none 0 0] 71))) := HB1.out.alloc hz1' _
  clear F0
  go_loopw [29] (fun i wr => ∃ (k : Nat) (nv : Value) (nb : Nat → Nat), k ≤ n ∧ i = .int .i64 k ∧ Hid (Fresh wr w.heap.size k n ppm w1.heap.size wb s1 d1 s2 d2 zs rs nv nb) ∧ Hid (Below w.heap.size w wr)) (fun i _ => n - (intOf i).toNat)
  case atStart => exact ⟨0, _, _, Nat.zero_le _, rfl, HF0, HB0⟩
  case round =>
    obtain ⟨k, nv, nb, hk, rfl, HF, HBr⟩ := hrel
    by_cases hlt : k < n
    · have hbs := HBr.out.size
      obtain ⟨A, c, rfl⟩ := ownsRow_slice HF.out.ptrs
      have ggn : (Value.slice A k c).ownBlock ≠ some w1.heap.size := ownsRow_ne HF.out.ptrs HF.out.gblk (by decide)
      have GGN := Lib.hid ggn
      clear ggn
      go_wp2_with fail
      refine (nodeNew_ok k n ppm _ h1 h2 hlt hp hp2).mono ?_
      rintro e w2 ⟨rfl, hn2, hm2, hb2, hs2⟩
      have HN2 := Lib.hid hn2
      have HM2 := Lib.hid hm2
      have HB2 := Lib.hid hb2
      have HS2' := Lib.hid hs2
      have hg2 := Blk.below HF.out.gblk HB2.out
      have glt := Blk.lt HF.out.gblk
      have f1 : w2.cell? ⟨w1.heap.size, 1, none⟩ = some (.slice A k c) := (Blk.at hg2 1).trans rfl
      have z5 : w1.heap.size < w2.heap.size := by omega
      have z6 : wr.heap.size + 1 < w2.heap.size := by omega
      have HP2 := Lib.hid (ownsRow_below HF.out.ptrs HB2.out)
      clear hn2 hm2 hb2 hg2 hs2
      go_wp2_with (at_builtin; refine wpList_append_own _ rfl _ _ 69 rfl w.heap.size 72 i0 (.pointer none) 1 8 Try.underlying69 hi0 hz0 hz1 hz2 rfl (by decide) _ k (ptrsC k nb) rfl (World.ownsRow.alloc HP2.out _) ⟨w2.heap.size, 0, none⟩ 1 1 [.pointer (some ⟨wr.heap.size + 1, 0, none⟩)] rfl rfl (World.news_of_block (cs := #[.pointer (some ⟨wr.heap.size + 1, 0, none⟩)]) (heap_alloc_new _ _)) (by simp [Value.oneCell']) (by unfold maxLen; omega) (by omega) (by simp; omega) ?_; intro v' w3 hown hgrow _; have f5 : w3.cell? ⟨w1.heap.size, 1, none⟩ = some (.slice A k c) := (hgrow.cell_far ⟨w1.heap.size, 1, none⟩ (by go_size) (Ne.symm GGN.out)).trans (by go_simp); have f6 : w3.frozen? ⟨w1.heap.size, 1, none⟩ = false := (hgrow.frozen_far ⟨w1.heap.size, 1, none⟩ (by go_size) (Ne.symm GGN.out)).trans (Blk.free (Blk.alloc (Blk.below HF.out.gblk HB2.out) _) 1); obtain ⟨g', c', rfl, _, _⟩ := ownsRow_at hown (by omega); have HO3 := Lib.hid hown; have HG3 := Lib.hid hgrow; clear hown hgrow)
      refine ⟨⟨k + 1, _, _, by omega, by go_num, Fresh.step HF.out hbs HB2.out HN2.out HM2.out HS2'.out HO3.out HG3.out, ?_⟩, by simp [intOf]; omega⟩
      have nlt : ∀ x, (Value.slice A k c).ownBlock = some x → w.heap.size ≤ x := fun x hx => (HF.out.ptrs.lt x hx).1
      have e1 : Below w.heap.size w w2 := HBr.out.trans (Below.mono (B' := w.heap.size) HB2.out hbs)
      exact (Below.grown (e1.alloc (by have := e1.size; omega) _) HG3.out (by have := e1.size; go_size) nlt).setCell (p := ⟨w1.heap.size, 1, none⟩) hz1' _
    · obtain rfl : k = n := by omega
      go_wp2
      go_returns
      have hl := HL.out
      refine ⟨⟨w1.heap.size, wb, s1, d1, s2, d2, .slice none 0 0, nv, nb, fun j => nb j - 1⟩, rfl, ?_, HBr.out⟩
      have hF := HF.out
      have inj : ∀ i j, i < k → j < k → nb i = nb j → i = j := by
        intro i j hi hj e
        rcases Nat.lt_trichotomy i j with h | h | h
        · have := hF.inj i j h hj; omega
        · exact h
        · have := hF.inj j i h hi; omega
      subst hl
      exact {
        gblk := hF.gblk
        gge := hz1'
        wat := { wblk := hF.wblk, wge := hge, starts := hF.starts, rates := hF.rates, under := World.ownsRow_nil _ _ _ _ }
        ptrs := hF.ptrs
        nat := { blk := hF.blk, map := hF.map, nge := fun j hj => Nat.le_trans (Nat.le_succ _) (hF.nge j hj), mge := fun j hj => by have := hF.nge j hj; show _ ≤ nb j - 1; omega, ninj := inj,
                 minj := fun i j hi hj e => inj i j hi hj (by have := hF.nge i hi; have := hF.nge j hj; have e : nb i - 1 = nb j - 1 := e; omega) } }
end Go.Proofs.Ytjohngeaifgcgaa

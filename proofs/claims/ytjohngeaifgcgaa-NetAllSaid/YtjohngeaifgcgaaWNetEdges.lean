/- What a net knows: the edges of all its nodes. -/
import Derived.Test.YtjohngeaifgcgaaWNodeEdges
import Derived.Test.YtjohngeaifgcgaaWNetPlay
import Derived.Test.YtjohngeaifgcgaaPEdges
import Derived.Laws.AppendOwnNone
namespace Go.Proofs.Ytjohngeaifgcgaa
open Go.RowKit
open Noon (Kn Edg St)

theorem edgesC_one (l : List Edg) : ∀ u ∈ edgesC l, u.oneCell' = true := by
  intro u hu
  obtain ⟨e, _, he⟩ := List.mem_flatMap.1 hu
  simp only [edgeC, List.mem_cons, List.not_mem_nil, or_false] at he
  rcases he with rfl | rfl | rfl | rfl <;> rfl

section
variable {w w' : World} {base : Nat} {m : NetMem} {s : St}

theorem netNodeEdges (h : NetAt w base m s) (hg : Noon.Good s) {i : Nat} (hi : i < s.n) :
    Calls Try.prog 34 #[.pointer (some ⟨m.nb i, 0, none⟩), .int .i64 (s.read i)] w (EdgesOwn w (s.edgesTo i s.n)) := by
  have hf := hg.toFine
  have rb := hg.shows_bound hi hg.t1 hg.t2
  rw [← Noon.St.read_eq] at rb
  have hn := h.nat.blk i hi
  have hm := h.nat.map i hi
  have hself : s.tells i i = none := by
    unfold Noon.St.tells
    cases e : (s.nodes i).of i with
    | none => rfl
    | some k => exact absurd rfl (hg.known i i k hi e).2.1
  refine nodeEdges_ok (m.nb i) (m.mb i) i s.n s.ppm (s.nodes i).here (s.read i) (s.tells i) w hn hf.n2 hself ?_
  refine spans_ok (m.nb i) (m.mb i) i s.n s.ppm (s.nodes i).here (s.read i) (s.nodes i).of w hn hm hf.n2 hf.p1 hf.p2 rb.1 (hg.here i hi) (by omega) ?_
  intro j k hk
  obtain ⟨g1, g2, g3, g4, a, g5, g6, g7, g8, g9⟩ := hg.known i j k hi hk
  have mo := hg.shows_mono hi g6
  have t2 := hg.t2
  have b' := hg.shows_bound hi g5 (show a ≤ 1000000000 by omega)
  have db := hg.diff_bound hi g1 g5 g6
  rw [Noon.St.read_eq] at *
  have sb := Noon.slack_bound (n := s.shows i s.time - k.at_) (p := s.ppm) (by omega) (by omega) hf.p1 hf.p2
  refine ⟨by omega, by omega, by omega, by omega, by omega, by omega, (rightB_iff _ _).2 ?_⟩
  rw [slackD_eq]
  omega

theorem NetAt.slice (h : NetAt w base m s) (hn : 1 ≤ s.n) : ∃ pb nc, m.nv = .slice (some ⟨pb, 0, none⟩) s.n nc ∧ ∀ j, j < s.n → w.cell? ⟨pb, j, none⟩ = some (.pointer (some ⟨m.nb j, 0, none⟩)) := by
  obtain ⟨g, c', e, _, _⟩ := ownsRow_at h.ptrs (by omega)
  refine ⟨g, c', e, fun j hj => ?_⟩
  obtain ⟨a, h1, _, h3⟩ := h.ptr e hj
  cases h1
  exact h3

set_option maxRecDepth 100000 in
set_option maxHeartbeats 4000000 in
theorem netEdges (h : NetAt w base m s) (hg : Noon.Good s) : Calls Try.prog 12 #[.pointer (some ⟨m.gb, 0, none⟩)] w (EdgesOwn w s.edges) := by
  obtain ⟨i0, hi0, hz0, hz1, hz2⟩ := info_parts infoEdge
  have n1 := hg.n1
  have n2 := hg.n2
  obtain ⟨pb, nc, hnv, hpt⟩ := h.slice n1
  have c1 : w.cell? ⟨m.gb, 1, none⟩ = some (.slice (some ⟨pb, 0, none⟩) s.n nc) := (Blk.at h.gblk 1).trans (by rw [← hnv]; rfl)
  have HPT := Lib.hid hpt
  have H := Lib.hid h
  have HG := Lib.hid hg
  have ltp : pb < w.heap.size := World.block_lt_of_cell? w _ (hpt 0 (by omega))
  have ltg := Blk.lt h.gblk
  clear h hg hpt hnv
  go_enter Try.func12, Try.ntmps12
  go_wp2_with fail
  go_loopg [4, 5, 6, 7, 8, 9, 15] s.n (fun gk s4 s5 s6 s7 s8 s9 s15 wr => ∃ k : Nat, k ≤ s.n ∧ gk = s.n - k ∧ s15 = .int .i64 k ∧ Hid (wr.ownsRow w.heap.size 46 4 s4 (s.edgesOf k).length (edgesC (s.edgesOf k))) ∧ Hid (Below w.heap.size w wr))
  case atStart => exact ⟨0, Nat.zero_le _, rfl, rfl, Lib.hid (World.ownsRow_nil _ _ _ _), Lib.hid (Below.refl _ _)⟩
  case round =>
    obtain ⟨k, hk, hgk, rfl, HO, HB⟩ := hrel
    clear c1
    by_cases hkn : k < s.n
    · have hkz : (k : Int) < (s.n : Int) := by omega
      have hbs := HB.out.size
      obtain ⟨A, c, rfl⟩ := ownsRow_slice HO.out
      have hle := s.edgesOf_le k
      have hle2 : k * s.n ≤ 6 * 6 := Nat.mul_le_mul (by omega) n2
      have hle3 := s.edgesTo_le k s.n
      have HE : Hid (s.edgesOf (k + 1) = s.edgesOf k ++ s.edgesTo k s.n) := Lib.hid (s.edgesOf_succ k)
      have c1 : wr.cell? ⟨pb, k, none⟩ = some (.pointer (some ⟨m.nb k, 0, none⟩)) := (HB.out.cell (p := ⟨pb, k, none⟩) ltp).trans (HPT.out k hkn)
      have Hr : Hid (NetAt wr base m s) := Lib.hid (H.out.below HB.out)
      have c2 : wr.cell? ⟨m.gb, 0, none⟩ = some (.pointer (some ⟨m.wb, 0, none⟩)) := (Blk.at Hr.out.gblk 0).trans rfl
      go_wp2_with fail
      refine (netRead Hr.out HG.out.toFine hkn).mono ?_
      rintro e w1 ⟨rfl, q, rfl⟩
      go_wp2_with fail
      refine (netNodeEdges (Hr.out.drewN q) HG.out hkn).mono ?_
      rintro e w2 ⟨v, rfl, hown, hb2⟩
      have HO2 : Hid (w2.ownsRow w.heap.size 46 4 (.slice A (s.edgesOf k).length c) (s.edgesOf k).length (edgesC (s.edgesOf k))) := Lib.hid (ownsRow_below (w := wr.drewN q) HO.out hb2)
      have HB2 : Hid (Below w.heap.size w w2) := Lib.hid ((below_drewN HB.out q).trans (hb2.mono (by simpa using hbs)))
      have hb2s := HB2.out.size
      have hlen := edgesC_length (s.edgesTo k s.n)
      rcases hown.2 with ⟨rfl, hnil⟩ | ⟨g, cap, cur, rfl, gb, _⟩
      · have h0 : s.edgesTo k s.n = [] := List.length_eq_zero_iff.1 hnil
        have HE' : Hid (s.edgesOf (k + 1) = s.edgesOf k) := Lib.hid (by rw [HE.out, h0, List.append_nil])
        clear hown h0 hb2
        go_wp2_with (at_builtin; refine wpList_append_own_none rfl _ _ 40 rfl w.heap.size 46 i0 4 Try.underlying40 hi0 _ _ _ rfl HO2.out rfl ?_)
        go_roundg (s.n - (k + 1))
        case measure => omega
        case rel => exact ⟨k + 1, by omega, rfl, by go_num, by rw [HE'.out]; exact HO2, HB2⟩
      · have HV := Lib.hid hown
        clear hown hb2
        go_wp2_with (at_builtin; refine wpList_append_own _ rfl _ _ 40 rfl w.heap.size 46 i0 _ 4 32 Try.underlying40 hi0 hz0 hz1 hz2 rfl (by decide) _ _ _ rfl HO2.out ⟨g, 0, none⟩ (s.edgesTo k s.n).length cap (edgesC (s.edgesTo k s.n)) rfl hlen (World.ownsRow.cells HV.out rfl) (edgesC_one _) (by unfold maxLen; omega) (by omega) hb2s ?_; intro v' w3 hown3 hgrow _; have HO3 := Lib.hid hown3; have HB3 : Hid (Below w.heap.size w w3) := Lib.hid (Below.grown HB2.out hgrow hb2s (fun x hx => (HO2.out.lt x hx).1)); clear hown3 hgrow)
        go_roundg (s.n - (k + 1))
        case measure => omega
        case rel =>
          refine ⟨k + 1, by omega, rfl, by go_num, ?_, HB3⟩
          rw [HE.out, List.length_append, show edgesC (s.edgesOf k ++ s.edgesTo k s.n) = edgesC (s.edgesOf k) ++ edgesC (s.edgesTo k s.n) by simp [edgesC]]
          exact HO3
    · obtain rfl : k = s.n := by omega
      go_wp2
      go_returns
      exact ⟨_, rfl, HO.out, HB.out⟩
end
end Go.Proofs.Ytjohngeaifgcgaa

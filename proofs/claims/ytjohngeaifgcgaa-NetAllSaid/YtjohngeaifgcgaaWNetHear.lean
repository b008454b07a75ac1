/- A letter comes to a node of a net in memory. -/
import Derived.Test.YtjohngeaifgcgaaWNetDo
import Derived.Test.YtjohngeaifgcgaaWProbe
namespace Noon
/-- all that keeps a node from refusing a letter -/
structure Hears (s : St) (l : Ltr) : Prop where
  late : (s.nodes l.k).here ≤ s.read l.k
  r1 : 0 ≤ s.read l.k
  r2 : s.read l.k ≤ 2000000000
  t1 : l.an = true → 0 ≤ l.t1 ∧ l.t1 ≤ s.read l.k ∧ 0 ≤ l.t2 ∧ l.t2 ≤ l.t ∧ l.t ≤ 2000000000
  le : l.an = true → (offs l (s.read l.k) s.ppm).1 ≤ (offs l (s.read l.k) s.ppm).2
  old : l.an = true → ∀ k, (s.nodes l.k).of l.f = some k → -4000000000 ≤ k.lo ∧ k.lo ≤ 4000000000 ∧ -4000000000 ≤ k.hi ∧ k.hi ≤ 4000000000 ∧ 0 ≤ k.at_ ∧ k.at_ ≤ s.read l.k ∧
    max (aged k (s.read l.k) s.ppm).1 (offs l (s.read l.k) s.ppm).1 ≤ min (aged k (s.read l.k) s.ppm).2 (offs l (s.read l.k) s.ppm).2

theorem slack_bound {n p : Int} (h1 : 0 ≤ n) (h2 : n ≤ 2000000000) (p1 : 0 ≤ p) (p2 : p ≤ 1000) : 2 ≤ slack n p ∧ slack n p ≤ 6000002 := by
  unfold slack up
  have e1 : 0 ≤ n * (3 * p) := Int.mul_nonneg h1 (by omega)
  have e2 : n * (3 * p) ≤ 2000000000 * 3000 := Int.mul_le_mul h2 (by omega) (by omega) (by omega)
  omega
end Noon
namespace Go.Proofs.Ytjohngeaifgcgaa
open Go.RowKit
open Noon (Kn Ltr NodeSt St Fine Hears)
open Go.Proofs.YtjohngeaifgcgaaW.PrintLast

theorem slackD_eq (n p : Int) : slackD n p = Noon.slack n p := rfl

section
variable {w w' : World} {base : Nat} {m : NetMem} {s : St}

def Heard (w : World) (base : Nat) (m : NetMem) (s : St) (l : Ltr) (e : Ending) (w' : World) : Prop :=
  e = .returned (.tuple #[.bool l.an, .nilIface]) ∧ NetAt w' base m (s.setNode l.k ((s.nodes l.k).hear l (s.read l.k) s.ppm)) ∧ Keep (fun k => k = m.nb l.k ∨ k = m.mb l.k) w w'

theorem netHear (l : Ltr) (h : NetAt w base m s) (hf : Fine s) (hl : l.f < s.n ∧ l.k < s.n ∧ l.f ≠ l.k) (hh : Hears s l) :
    Calls Try.prog 26 #[.pointer (some ⟨m.nb l.k, 0, none⟩), .agg #[.int .i64 l.f, .int .i64 l.k, .bool l.an, .int .i64 l.t1, .int .i64 l.t2, .int .i64 l.t], .int .i64 (s.read l.k)] w (Heard w base m s l) := by
  obtain ⟨g1, g2, g3⟩ := hl
  have hn := h.nat.blk l.k g2
  have hm := h.nat.map l.k g2
  have r1 := hh.r1
  have r2 := hh.r2
  have p1 := hf.p1
  have p2 := hf.p2
  by_cases an : l.an = false
  · have hc := hear_ask (m.nb l.k) (m.mb l.k) l.k s.n l.f s.ppm (s.nodes l.k).here (s.read l.k) l.t1 l.t2 l.t w hn g1 g3 r1 hh.late (by omega)
    rw [an]
    refine hc.mono ?_
    rintro e w' ⟨rfl, hw, hk⟩
    have hk2 : Keep (fun k => k = m.nb l.k ∨ k = m.mb l.k) w w' := hk.mono (fun _ _ e => .inl e)
    refine ⟨by rw [an], ?_, hk2⟩
    have e1 : (s.nodes l.k).hear l (s.read l.k) s.ppm = { s.nodes l.k with here := s.read l.k } := by simp [NodeSt.hear, an]
    rw [e1]
    exact NetAt.node h g2 hk2 hw (hm.keep hk (fun e => hm.ne hn e))
  have an : l.an = true := by simpa using an
  obtain ⟨a1, a2, a3, a4, a5⟩ := hh.t1 an
  have hle := hh.le an
  have sb := Noon.slack_bound (n := s.read l.k - l.t1) (p := s.ppm) (by omega) (by omega) p1 p2
  have ho : ∀ w, Calls Try.prog 21 #[.agg #[.int .i64 l.t1, .int .i64 l.t2, .int .i64 l.t, .int .i64 (s.read l.k)], .int .i64 s.ppm] w fun e w' => e = .returned (.tuple #[.agg #[.int .i64 (l.t - s.read l.k), .int .i64 (l.t2 - l.t1 + slackD (s.read l.k - l.t1) s.ppm)], .nilIface]) ∧ Below w.heap.size w w' := fun w =>
    offset_ok l.t1 l.t2 l.t (s.read l.k) s.ppm w ((timeB_iff _).2 (by omega)) ((timeB_iff _).2 (by omega)) ((timeB_iff _).2 (by omega)) ((timeB_iff _).2 (by omega)) (by omega) (by omega) p1 p2 (by omega)
      ((timeB_iff _).2 (by omega)) ((timeB_iff _).2 (by rw [slackD_eq]; omega)) hle
  cases hof : (s.nodes l.k).of l.f with
  | none =>
    have hc := hear_new (m.nb l.k) (m.mb l.k) l.k s.n l.f s.ppm (s.nodes l.k).here (s.read l.k) l.t1 l.t2 l.t _ _ _ w hn hm hof g1 g3 r1 hh.late (by omega) ho
    rw [an]
    refine hc.mono ?_
    rintro e w' ⟨rfl, hw, hm2, hk⟩
    refine ⟨by rw [an], ?_, hk⟩
    have e1 : (s.nodes l.k).hear l (s.read l.k) s.ppm = ⟨s.read l.k, ofPut (s.nodes l.k).of l.f ⟨l.t - s.read l.k, l.t2 - l.t1 + slackD (s.read l.k - l.t1) s.ppm, s.read l.k⟩⟩ := by
      simp [NodeSt.hear, an, hof, Noon.offs, slackD_eq]; rfl
    rw [e1]
    exact NetAt.node h g2 hk hw hm2
  | some k =>
    obtain ⟨b1, b2, b3, b4, b5, b6, b7⟩ := hh.old an k hof
    have ha := fun (w : World) (h2 : w.cell? ⟨m.nb l.k, 2, none⟩ = some (.int .i64 s.ppm)) => aged_any (m.nb l.k) k (s.read l.k) s.ppm w h2 p1 p2 (by omega) (by omega) (by omega) (by omega) (by omega) (by omega)
    have hc := hear_old (m.nb l.k) (m.mb l.k) l.k s.n l.f s.ppm (s.nodes l.k).here (s.read l.k) l.t1 l.t2 l.t _ _ _ _ _ _ k _ w hn hm hof g1 g3 r1 hh.late (by omega) ho ha rfl rfl b7
    rw [an]
    refine hc.mono ?_
    rintro e w' ⟨rfl, hw, hm2, hk⟩
    refine ⟨by rw [an], ?_, hk⟩
    have e1 : (s.nodes l.k).hear l (s.read l.k) s.ppm = ⟨s.read l.k, ofPut (s.nodes l.k).of l.f ⟨max (Noon.aged k (s.read l.k) s.ppm).1 (Noon.offs l (s.read l.k) s.ppm).1, min (Noon.aged k (s.read l.k) s.ppm).2 (Noon.offs l (s.read l.k) s.ppm).2, s.read l.k⟩⟩ := by
      simp [NodeSt.hear, an, hof]; rfl
    rw [e1]
    exact NetAt.node h g2 hk hw hm2
end
end Go.Proofs.Ytjohngeaifgcgaa

/- Any act of a good net in memory; what a clock shows. -/
import Derived.Test.YtjohngeaifgcgaaWNetAct
import Derived.Test.YtjohngeaifgcgaaPGood
namespace Go.Proofs.Ytjohngeaifgcgaa
open Go.RowKit
open Noon (Kn Ltr NodeSt St Fine Hears)

section
variable {w w' : World} {base : Nat} {m : NetMem} {s : St}

theorem netDo (what a b : Int) (h : NetAt w base m s) (hg : Noon.Good s) (hb : base ≤ w.heap.size) :
    Calls Try.prog 8 #[.pointer (some ⟨m.gb, 0, none⟩), .agg #[.int .i64 what, .int .i64 a, .int .i64 b]] w (NetDid w base m (s.does what a b).1 (s.does what a b).2) := by
  obtain ⟨g, hl⟩ := hg.wdo what a b
  unfold St.does
  rcases e : s.wdo what a b with ⟨s1, c, o⟩
  rw [e] at g hl
  cases o with
  | none => exact netDo_none what a b c h hg.toFine hb e
  | some l =>
    obtain ⟨hc, hm, lt⟩ := hl l rfl
    have hc : c = 0 := hc
    subst hc
    obtain ⟨u1, u2, u3, u4⟩ := hg.us l hm
    have r : l.f < s1.n ∧ l.k < s1.n ∧ l.f ≠ l.k := ⟨by rw [lt.n]; exact u1, by rw [lt.n]; exact u2, u3⟩
    exact netDo_some what a b l h hg.toFine hb e g.toFine r u4 (g.hears r (lt.told (hg.told l hm)))
end
end Go.Proofs.Ytjohngeaifgcgaa

/- bounds.Check of edges that are right. -/
import Derived.Test.YtjohngeaifgcgaaWMx
import Derived.Outline
namespace Go.Proofs.Ytjohngeaifgcgaa
open Go.RowKit
open Noon (Mat Edg)

theorem node_yes (n i : Nat) (w : World) (h : i < n) : Calls Try.prog 28 #[.int .i64 n, .int .i64 i] w fun e w' => e = .returned (.bool true) ∧ w = w' := by
  have := node_any n i w
  rwa [show nodeB n i = true by simp [nodeB]; omega] at this
theorem right_yes (lo hi : Int) (w : World) (h : rightB lo hi = true) : Calls Try.prog 33 #[.agg #[.int .i64 lo, .int .i64 hi]] w fun e w' => e = .returned (.bool true) ∧ Below w.heap.size w w' := by
  have := right_any lo hi w
  rwa [h] at this

set_option maxRecDepth 100000 in
set_option maxHeartbeats 2000000 in
theorem bcheck_ok (n : Nat) (A : Option Addr) (g c : Nat) (l : List Edg) (w : World) (h1 : 1 ≤ n) (h2 : n ≤ 6) (hl : l.length ≤ 40) (he : ∀ e ∈ l, Noon.EdgOk n e) (hA : EdgesAt w A g l) :
    Calls Try.prog 13 #[.int .i64 n, .slice A l.length c] w fun e w' => e = .returned .nilIface ∧ Below w.heap.size w w' := by
  have HE := Lib.hid he
  have HA := Lib.hid hA
  clear he hA
  have hlz : (l.length : Int) ≤ 40 := by omega
  go_enter Try.func13, Try.ntmps13
  go_wp2_with fail
  go_loopg [6, 22, 26, 40, 47] l.length (fun gk s6 s22 s26 s40 s47 wr => ∃ k : Nat, k ≤ l.length ∧ gk = l.length - k ∧ s22 = .int .i64 k ∧ Hid (Below w.heap.size w wr))
  case atStart => exact ⟨0, Nat.zero_le _, rfl, rfl, Lib.hid (Below.refl _ _)⟩
  case round =>
    obtain ⟨k, hk, hgk, rfl, HB⟩ := hrel
    by_cases hkl : k < l.length
    · have hkz : (k : Int) < (l.length : Int) := by omega
      obtain ⟨e, hge⟩ : ∃ e, l[k]? = some e := ⟨_, List.getElem?_eq_getElem hkl⟩
      have hok := HE.out e (List.mem_of_getElem? hge)
      obtain rfl := HA.out.addr (by omega)
      have gl := HA.out.lt (by omega)
      have HAr : Hid (EdgesAt wr (some ⟨g, 0, none⟩) g l) := Lib.hid (HA.out.same fun _ o => HB.out.cell (p := ⟨g, o, none⟩) gl)
      have q0 := HAr.out.c0 k e hge
      have q1 := HAr.out.c1 k e hge
      have q2 := HAr.out.c2 k e hge
      have q3 := HAr.out.c3 k e hge
      obtain ⟨ea, eb, elo, ehi⟩ := e
      obtain ⟨o1, o2, o3, o4, o5, o6⟩ := hok
      simp only at o1 o2 o3 o4 o5 o6 q0 q1 q2 q3
      clear hge
      have hbs := HB.out.size
      have hr : rightB elo ehi = true := (rightB_iff _ _).2 (by omega)
      have HN1 := Lib.hid (fun w => node_yes n ea w o1)
      have HN2 := Lib.hid (fun w => node_yes n eb w o2)
      have HR := Lib.hid (fun w => right_yes elo ehi w hr)
      have hne : ((ea : Int) == (eb : Int)) = false := by simp; omega
      clear hr
      go_wp2_with fail
      refine (HN1.out _).mono ?_
      rintro e w' ⟨rfl, rfl⟩
      go_wp2_with fail
      refine (HN2.out _).mono ?_
      rintro e w' ⟨rfl, rfl⟩
      go_wp2_with fail
      refine (HR.out _).mono ?_
      rintro e w2 ⟨rfl, hb2⟩
      have HB2 : Hid (Below w.heap.size w w2) := Lib.hid ((HB.out.alloc hbs _).trans (hb2.mono (by simp; omega)))
      clear hb2
      go_wp2
      go_roundg (l.length - (k + 1))
      case measure => omega
      case rel => exact ⟨k + 1, by omega, rfl, by go_num, HB2⟩
    · obtain rfl : k = l.length := by omega
      go_wp2
      go_ret
      exact ⟨rfl, HB.out⟩
end Go.Proofs.Ytjohngeaifgcgaa

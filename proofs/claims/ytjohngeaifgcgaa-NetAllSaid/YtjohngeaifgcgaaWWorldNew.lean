/- A new world: its clocks, as they were handed in; or what is wrong. -/
import Derived.Test.YtjohngeaifgcgaaWClone
import Derived.Test.YtjohngeaifgcgaaWLast
namespace Go.Proofs.Ytjohngeaifgcgaa
open Go.RowKit
open Go.Proofs.YtjohngeaifgcgaaW.PrintLast

/-- a list of ints that came in -/
def IntsAt (w : World) (b off : Nat) (zs : List Int) : Prop := ∀ j, j < zs.length → w.cell? ⟨b, off + j, none⟩ = some (.int .i64 (zs.getD j 0))

theorem IntsAt.news {w : World} {b off : Nat} {zs : List Int} (h : IntsAt w b off zs) : ∀ j u, (zs.map (Value.int .i64))[j]? = some u → w.cell? ((⟨b, off, none⟩ : Addr).add j) = some u := by
  intro j u hu
  have hj : j < zs.length := by have := (List.getElem?_eq_some_iff.1 hu).1; simpa using this
  rw [Addr.add_lit, h j hj]
  simp [List.getElem?_map, List.getElem?_eq_getElem hj] at hu
  simp [← hu, List.getD, List.getElem?_eq_getElem hj]

theorem ownsRow_base {w : World} {base base' e size : Nat} {v : Value} {n : Nat} {xs : List Value} (h : w.ownsRow base e size v n xs) (hb : base' ≤ base) : w.ownsRow base' e size v n xs := by
  obtain ⟨h1, h2⟩ := h
  refine ⟨h1, ?_⟩
  rcases h2 with h2 | ⟨g, cap, cur, rfl, hg, r⟩
  · exact .inl h2
  · exact .inr ⟨g, cap, cur, rfl, by omega, r⟩
theorem ownsRow_below {w w' : World} {base e size : Nat} {v : Value} {n : Nat} {xs : List Value} (h : w.ownsRow base e size v n xs) (hb : Below w.heap.size w w') : w'.ownsRow base e size v n xs :=
  ownsRow_keep h (Keep.ofBelow (S := fun _ => False) hb) (fun _ _ h => h)

def clocksOk (zs rs : List Int) (ppm : Int) : Prop := ∀ j, j < zs.length → 0 ≤ zs.getD j 0 ∧ zs.getD j 0 ≤ 1000000 ∧ -ppm ≤ rs.getD j 0 ∧ rs.getD j 0 ≤ ppm

def NewWorld (w : World) (n : Nat) (zs rs : List Int) (e : Ending) (w' : World) : Prop :=
  ∃ g s1 c1 s2 c2, e = .returned (.tuple #[.pointer (some ⟨g, 0, none⟩), .nilIface]) ∧ Blk w' g #[.slice (some ⟨s1, 0, none⟩) n c1, .slice (some ⟨s2, 0, none⟩) n c2, .int .i64 0, .slice none 0 0] 105 ∧
    w'.ownsRow w.heap.size 3 1 (.slice (some ⟨s1, 0, none⟩) n c1) n (zs.map (.int .i64)) ∧ w'.ownsRow w.heap.size 3 1 (.slice (some ⟨s2, 0, none⟩) n c2) n (rs.map (.int .i64)) ∧ w.heap.size ≤ g ∧ Below w.heap.size w w'

set_option maxRecDepth 100000 in
set_option maxHeartbeats 2000000 in
theorem worldNew_ok (b1 o1 c1 b2 o2 c2 n : Nat) (zs rs : List Int) (ppm : Int) (w : World) (hz : zs.length = n) (hr : rs.length = n) (h1 : 1 ≤ n) (h2 : n ≤ 6) (hp : 0 ≤ ppm) (hp2 : ppm ≤ 1000)
    (hzs : IntsAt w b1 o1 zs) (hrs : IntsAt w b2 o2 rs) (hok : clocksOk zs rs ppm) :
    Calls Try.prog 22 #[.slice (some ⟨b1, o1, none⟩) n c1, .slice (some ⟨b2, o2, none⟩) n c2, .int .i64 ppm] w (NewWorld w n zs rs) := by
  have hrt : rateB ppm = true := by simp [rateB]; omega
  have HR := Lib.hid (fun w => (by rw [← hrt]; exact rate_any ppm w : Calls Try.prog 42 #[.int .i64 ppm] w fun e w' => e = .returned (.bool true) ∧ w = w'))
  have HN1 := Lib.hid hzs.news
  have HN2 := Lib.hid hrs.news
  have HZ := Lib.hid hzs
  have HS := Lib.hid hrs
  have HOK := Lib.hid hok
  have HL1 := Lib.hid hz
  have HL2 := Lib.hid hr
  have qn : ((n : Int) != (n : Int)) = false := by simp
  have q1 : decide ((n : Int) < 1) = false := by simp; omega
  have q2 : decide (6 < (n : Int)) = false := by simp; omega
  clear hrt hzs hrs hok hz hr
  go_enter Try.func22, Try.ntmps22
  go_wp2_with fail
  refine (HR.out _).mono ?_
  rintro e w' ⟨rfl, rfl⟩
  go_wp2_with fail
  go_loop [34] (fun i => ∃ k : Nat, k ≤ n ∧ i = .int .i64 k) (fun i => n - (intOf i).toNat)
  case atStart => exact ⟨0, Nat.zero_le _, rfl⟩
  case round =>
    obtain ⟨k, hk, rfl⟩ := hrel
    by_cases hlt : k < n
    · have g1 : w.cell? ⟨b1, o1 + k, none⟩ = some (.int .i64 (zs.getD k 0)) := HZ.out k (by have := HL1.out; omega)
      have g2 : w.cell? ⟨b2, o2 + k, none⟩ = some (.int .i64 (rs.getD k 0)) := HS.out k (by have := HL2.out; omega)
      obtain ⟨x1, x2, x3, x4⟩ := HOK.out k (by have := HL1.out; omega)
      generalize zs.getD k 0 = z at g1 x1 x2
      generalize rs.getD k 0 = r at g2 x3 x4
      go_wp2
      go_round
      case rel => exact ⟨k + 1, by omega, by go_num⟩
      case measure => simp [intOf]; omega
    · have hal : b2 < w.heap.size := World.block_lt_of_cell? w _ (HS.out 0 (by have := HL2.out; omega))
      go_wp2_with fail
      refine (clone_any ⟨b1, o1, none⟩ n c1 zs _ HL1.out h1 (by omega) HN1.out).mono ?_
      rintro e w1 ⟨g1, d1, rfl, hr1, hb1⟩
      have hz1 := hb1.size
      have HR1 := Lib.hid hr1
      have HB1 := Lib.hid hb1
      clear hr1 hb1
      go_wp2_with fail
      have HN3 : ∀ j u, (rs.map (Value.int .i64))[j]? = some u → w1.cell? ((⟨b2, o2, none⟩ : Addr).add j) = some u := fun j u hu => by
        rw [Addr.add_lit, HB1.out.cell (p := ⟨b2, o2 + j, none⟩) hal, ← Addr.add_lit]; exact HN2.out j u hu
      refine (clone_any ⟨b2, o2, none⟩ n c2 rs _ HL2.out h1 (by omega) HN3).mono ?_
      rintro e w2 ⟨g2, d2, rfl, hr2, hb2⟩
      have hz2 := hb2.size
      have HR2 := Lib.hid hr2
      have HB2 := Lib.hid hb2
      clear hr2 hb2 HN3
      go_wp2
      go_returns
      exact ⟨w2.heap.size, g1, d1, g2, d2, rfl, heap_alloc_new _ _, (ownsRow_below HR1.out HB2.out).alloc _, (ownsRow_base HR2.out hz1).alloc _, by omega, (HB1.out.trans (HB2.out.mono hz1)).alloc (by omega) _⟩
end Go.Proofs.Ytjohngeaifgcgaa

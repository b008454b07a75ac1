/- How wide all are that a net tells. -/
import Derived.Test.YtjohngeaifgcgaaWNetOffset
namespace Noon
/-- how wide the bound of two is -/
def pairW (d : Mat) (i k : Nat) : Int := if d i k < far then d i k + d k i else 0
def rowW (d : Mat) (i : Nat) : Nat → Int
  | 0 => 0
  | c + 1 => rowW d i c + pairW d i (i + 1 + c)
def totW (d : Mat) (n : Nat) : Nat → Int
  | 0 => 0
  | i + 1 => totW d n i + rowW d i (n - (i + 1))

theorem pairW_bound {n : Nat} {l : List Edg} {d : Mat} (h : ClosedOk n l d) {i k : Nat} (hi : i < n) (hk : k < n) : -2000000000000 ≤ pairW d i k ∧ pairW d i k ≤ 2000000000000 := by
  unfold pairW
  split
  · rename_i q
    have b1 := h.bound i k q
    have q2 : d k i < far := by
      have := h.top k i
      by_cases e : d k i = far
      · have := h.sym k i hk hi e; omega
      · omega
    have b2 := h.bound k i q2
    omega
  · omega
theorem rowW_bound {n : Nat} {l : List Edg} {d : Mat} (h : ClosedOk n l d) {i : Nat} (hi : i < n) : ∀ c, i + 1 + c ≤ n → -2000000000000 * (c : Int) ≤ rowW d i c ∧ rowW d i c ≤ 2000000000000 * (c : Int) := by
  intro c
  induction c with
  | zero => intro _; simp [rowW]
  | succ c ih =>
    intro hc
    have a := ih (by omega)
    have b := pairW_bound h (i := i) (k := i + 1 + c) hi (by omega)
    unfold rowW
    omega
theorem totW_bound {n : Nat} {l : List Edg} {d : Mat} (h : ClosedOk n l d) (hn : n ≤ 6) : ∀ i, i ≤ n → -12000000000000 * (i : Int) ≤ totW d n i ∧ totW d n i ≤ 12000000000000 * (i : Int) := by
  intro i
  induction i with
  | zero => intro _; simp [totW]
  | succ i ih =>
    intro hi
    have a := ih (by omega)
    have b := rowW_bound h (i := i) (by omega) (n - (i + 1)) (by omega)
    unfold totW
    omega
end Noon
namespace Go.Proofs.Ytjohngeaifgcgaa
open Go.RowKit
open Noon (Kn Edg St)
open Go.Proofs.YtjohngeaifgcgaaW.PrintLast

section
variable {w w' : World} {base : Nat} {m : NetMem} {s : St}

set_option maxRecDepth 100000 in
set_option maxHeartbeats 4000000 in
theorem netWide (h : NetAt w base m s) (hg : Noon.Good s) :
    Calls Try.prog 16 #[.pointer (some ⟨m.gb, 0, none⟩)] w fun e w' => e = .returned (.tuple #[.int .i64 (Noon.totW (Noon.closedM s.n s.edges) s.n s.n), .nilIface]) ∧ Below w.heap.size w w' := by
  have n1 := hg.n1
  have n2 := hg.n2
  obtain ⟨pb, nc, hnv, _⟩ := h.slice n1
  have c1 : w.cell? ⟨m.gb, 1, none⟩ = some (.slice (some ⟨pb, 0, none⟩) s.n nc) := (Blk.at h.gblk 1).trans (by rw [← hnv]; rfl)
  have ltg := Blk.lt h.gblk
  have H := Lib.hid h
  have HG := Lib.hid hg
  have HV := Lib.hid hnv
  have HAL := Lib.hid (fun A g c w hA => all_ok s.n A g c s.edges w n1 n2 (by have := s.edges_le n2; omega) hg.edge_ok s.clock hg.fit (fun i k => by have := hg.clock_bound i; have := hg.clock_bound k; omega) hA)
  have HOK := Lib.hid hg.closed
  clear h hg hnv
  generalize Noon.closedM s.n s.edges = d at HAL HOK ⊢
  go_enter Try.func16, Try.ntmps16
  go_wp2_with fail
  refine (netEdges H.out HG.out).mono ?_
  rintro e w1 ⟨v, rfl, hown, hb1⟩
  obtain ⟨A, g, c, rfl, hA⟩ := edgesAt_of_own hown
  have HA := Lib.hid hA
  have HB1 := Lib.hid hb1
  have c1' : w1.cell? ⟨m.gb, 1, none⟩ = some (.slice (some ⟨pb, 0, none⟩) s.n nc) := (Blk.at (H.out.below hb1).gblk 1).trans (by rw [← HV.out]; rfl)
  clear hA hb1 hown
  go_wp2_with fail
  refine (HAL.out A g c _ HA.out).mono ?_
  rintro e w2 ⟨O, Hh, R, S, rfl, ht⟩
  have HT := Lib.hid ht
  clear ht
  go_wp2_with fail
  go_loopg [8, 9, 10, 35] s.n (fun gk s8 s9 s10 s35 wr => ∃ i : Nat, i ≤ s.n ∧ gk = s.n - i ∧ s35 = .int .i64 i ∧ s8 = .int .i64 (Noon.totW d s.n i) ∧ Hid (Tab w1.heap.size w1 wr s.n d O Hh s.n R S (fun _ => s.n)))
  case atStart => exact ⟨0, Nat.zero_le _, rfl, rfl, rfl, HT⟩
  case round =>
    obtain ⟨i, hi, hgk, rfl, rfl, HR⟩ := hrel
    clear HT
    by_cases hin : i < s.n
    · have hiz : (i : Int) < (s.n : Int) := by omega
      have HTB := Lib.hid (Noon.totW_bound HOK.out n2 i hi)
      obtain ⟨tt, htt⟩ : ∃ tt, tt = Noon.totW d s.n i := ⟨_, rfl⟩
      rw [← htt] at HTB
      have HTT := Lib.hid htt
      rw [← htt]
      clear htt
      go_wp2_with fail
      go_loopg [8, 10] (s.n - (i + 1)) (fun gk s8 s10 wr => ∃ c : Nat, i + 1 + c ≤ s.n ∧ gk = s.n - (i + 1) - c ∧ s10 = .int .i64 ((i + 1 + c : Nat) : Int) ∧ s8 = .int .i64 (tt + Noon.rowW d i c) ∧ Hid (Tab w1.heap.size w1 wr s.n d O Hh s.n R S (fun _ => s.n)))
      case atStart => exact ⟨0, by omega, by omega, by go_num, by simp [Noon.rowW], HR⟩
      case round =>
        obtain ⟨c, hc, hgk2, rfl, rfl, HI⟩ := hrel
        clear HR
        by_cases hcn : i + 1 + c < s.n
        · have hcz : ((i + 1 + c : Nat) : Int) < (s.n : Int) := by omega
          have HRB := Lib.hid (Noon.rowW_bound HOK.out hin c hc)
          have HPB := Lib.hid (Noon.pairW_bound HOK.out (i := i) (k := i + 1 + c) hin hcn)
          obtain ⟨k, hk⟩ : ∃ k, k = i + 1 + c := ⟨_, rfl⟩
          rw [← hk] at hcn hcz HPB ⊢
          obtain ⟨rr, hrr⟩ : ∃ rr, rr = Noon.rowW d i c := ⟨_, rfl⟩
          rw [← hrr] at HRB ⊢
          have hR1 : Hid (Noon.rowW d i (c + 1) = rr + Noon.pairW d i k) := Lib.hid (by rw [hrr, hk]; rfl)
          have HK := Lib.hid hk
          clear hk hrr
          have v2 : wr.cell? ⟨Hh, i, none⟩ = some (.slice (some ⟨S i, 0, none⟩) s.n s.n) := (HI.out.h.cell hin).trans (by simp [hin])
          have v3 : wr.cell? ⟨S i, k, none⟩ = some (.bool (decide (d i k < Noon.far))) := ((HI.out.ss i hin).cell hcn).trans (by simp [haveC, hcn])
          by_cases hd : d i k < Noon.far
          · have v1 : wr.cell? ⟨O, i, none⟩ = some (.slice (some ⟨R i, 0, none⟩) s.n s.n) := (HI.out.o.cell hin).trans (by simp [hin])
            have v4 : wr.cell? ⟨R i, k * 2, none⟩ = some (.int .i64 (-(d k i))) := ((HI.out.rs i hin).cell (i := k * 2) (by omega)).trans (by simp [spanC, hcn, hd, show k * 2 / 2 = k by omega])
            have v5 : wr.cell? ⟨R i, k * 2 + 1, none⟩ = some (.int .i64 (d i k)) := ((HI.out.rs i hin).cell (i := k * 2 + 1) (by omega)).trans (by simp [spanC, hcn, hd, show (k * 2 + 1) / 2 = k by omega])
            rw [show decide (d i k < Noon.far) = true by simpa using hd] at v3
            obtain ⟨x, hx⟩ : ∃ x, x = d i k := ⟨_, rfl⟩
            obtain ⟨y, hy⟩ : ∃ y, y = -(d k i) := ⟨_, rfl⟩
            have HPW : Hid (Noon.pairW d i k = x - y) := Lib.hid (by unfold Noon.pairW; rw [if_pos hd, hx, hy]; omega)
            have hb := HPB.out
            rw [HPW.out] at hb
            rw [← hx] at v5
            rw [← hy] at v4
            have hb2 := HRB.out
            have hb3 := HTB.out
            have w1' : IntKind.i64.wrap (x - y) = x - y := IntWalk.i64_in _ (by omega)
            have w2' : IntKind.i64.wrap (tt + rr + (x - y)) = tt + rr + (x - y) := IntWalk.i64_in _ (by omega)
            clear hx hy hd hb hb2 hb3
            go_wp2_with fail
            refine start_ (n := 20) (S := fun w' => w'.cell? ⟨O, i, none⟩ = some (.slice (some ⟨R i, 0, none⟩) s.n s.n) ∧ w'.cell? ⟨R i, k * 2, none⟩ = some (.int .i64 y) ∧ w'.cell? ⟨R i, k * 2 + 1, none⟩ = some (.int .i64 x)) (ds := []) #[false, false, false, false, false, false, false, false, false, false, false, false, false, false, false, false, false, false, false, false] (by kernel_rfl) rfl rfl (⟨by go_simp, by go_simp, by go_simp⟩) (fun hHeld => ?_)
            refine pure_ (i := 0) (N := some 53) (v := ?_) (a' := ?_) #[true, false, false, false, false, false, false, false, false, false, false, false, false, false, false, false, false, false, false, false] rfl rfl (by kernel_rfl) (fun _ _ _ h => h) (Or.inl ⟨by rfl, ?_⟩) ?_ ?_
            rotate_left
            · intro w'; go_simp; with_reducible rfl
            rotate_left
            · go_simp; rfl
            refine pure_ (i := 1) (N := some 54) (v := ?_) (a' := ?_) #[true, true, false, false, false, false, false, false, false, false, false, false, false, false, false, false, false, false, false, false] rfl rfl (by kernel_rfl) (fun _ _ _ h => h) (Or.inl ⟨by rfl, ?_⟩) ?_ ?_
            rotate_left
            · intro w'; go_simp; with_reducible rfl
            rotate_left
            · go_simp; rfl
            refine pure_ (i := 2) (N := some 55) (v := ?_) (a' := ?_) #[true, true, true, false, false, false, false, false, false, false, false, false, false, false, false, false, false, false, false, false] rfl rfl (by kernel_rfl) (fun _ _ _ h => h) (Or.inl ⟨by rfl, ?_⟩) ?_ ?_
            rotate_left
            · intro w'; go_simp; with_reducible rfl
            rotate_left
            · go_simp; rfl
            refine pure_ (i := 3) (N := some 56) (v := ?_) (a' := ?_) #[true, true, true, true, false, false, false, false, false, false, false, false, false, false, false, false, false, false, false, false] rfl rfl (by kernel_rfl) (fun _ _ _ h => h) (Or.inl ⟨by rfl, ?_⟩) ?_ ?_
            rotate_left
            · intro w'; go_simp; with_reducible rfl
            rotate_left
            · go_simp; rfl
            refine take_ (i := 4) (N := some 57) (v := ?_) (a' := ?_) #[true, true, true, true, true, false, false, false, false, false, false, false, false, false, false, false, false, false, false, false] rfl rfl (by kernel_rfl) (fun _ _ _ h => h) (Or.inl ⟨by rfl, ?_⟩) hHeld ?_ ?_
            rotate_left
            · rintro w' ⟨s0, s1, s2⟩; go_simp; with_reducible rfl
            rotate_left
            · go_simp; rfl
            refine pure_ (i := 5) (N := some 58) (v := ?_) (a' := ?_) #[true, true, true, true, true, true, false, false, false, false, false, false, false, false, false, false, false, false, false, false] rfl rfl (by kernel_rfl) (fun _ _ _ h => h) (Or.inl ⟨by rfl, ?_⟩) ?_ ?_
            rotate_left
            · intro w'; go_simp; with_reducible rfl
            rotate_left
            · go_simp; rfl
            refine pure_ (i := 6) (N := some 59) (v := ?_) (a' := ?_) #[true, true, true, true, true, true, true, false, false, false, false, false, false, false, false, false, false, false, false, false] rfl rfl (by kernel_rfl) (fun _ _ _ h => h) (Or.inl ⟨by rfl, ?_⟩) ?_ ?_
            rotate_left
            · intro w'; go_simp; with_reducible rfl
            rotate_left
            · go_simp; rfl
            refine pure_ (i := 7) (N := some 60) (v := ?_) (a' := ?_) #[true, true, true, true, true, true, true, true, false, false, false, false, false, false, false, false, false, false, false, false] rfl rfl (by kernel_rfl) (fun _ _ _ h => h) (Or.inl ⟨by rfl, ?_⟩) ?_ ?_
            rotate_left
            · intro w'; go_simp; with_reducible rfl
            rotate_left
            · go_simp; rfl
            refine take_ (i := 8) (N := some 61) (v := ?_) (a' := ?_) #[true, true, true, true, true, true, true, true, true, false, false, false, false, false, false, false, false, false, false, false] rfl rfl (by kernel_rfl) (fun _ _ _ h => h) (Or.inl ⟨by rfl, ?_⟩) hHeld ?_ ?_
            rotate_left
            · rintro w' ⟨s0, s1, s2⟩; go_simp; with_reducible rfl
            rotate_left
            · go_simp; rfl
            refine pure_ (i := 9) (N := some 62) (v := ?_) (a' := ?_) #[true, true, true, true, true, true, true, true, true, true, false, false, false, false, false, false, false, false, false, false] rfl rfl (by kernel_rfl) (fun _ _ _ h => h) (Or.inl ⟨by rfl, ?_⟩) ?_ ?_
            rotate_left
            · intro w'; go_simp; with_reducible rfl
            rotate_left
            · go_simp; rfl
            refine pure_ (i := 10) (N := some 63) (v := ?_) (a' := ?_) #[true, true, true, true, true, true, true, true, true, true, true, false, false, false, false, false, false, false, false, false] rfl rfl (by kernel_rfl) (fun _ _ _ h => h) (Or.inl ⟨by rfl, ?_⟩) ?_ ?_
            rotate_left
            · intro w'; go_simp; with_reducible rfl
            rotate_left
            · go_simp; rfl
            refine pure_ (i := 11) (N := some 64) (v := ?_) (a' := ?_) #[true, true, true, true, true, true, true, true, true, true, true, true, false, false, false, false, false, false, false, false] rfl rfl (by kernel_rfl) (fun _ _ _ h => h) (Or.inl ⟨by rfl, ?_⟩) ?_ ?_
            rotate_left
            · intro w'; go_simp; with_reducible rfl
            rotate_left
            · go_simp; rfl
            refine take_ (i := 12) (N := some 65) (v := ?_) (a' := ?_) #[true, true, true, true, true, true, true, true, true, true, true, true, true, false, false, false, false, false, false, false] rfl rfl (by kernel_rfl) (fun _ _ _ h => h) (Or.inl ⟨by rfl, ?_⟩) hHeld ?_ ?_
            rotate_left
            · rintro w' ⟨s0, s1, s2⟩; go_simp; with_reducible rfl
            rotate_left
            · go_simp; rfl
            refine pure_ (i := 13) (N := some 66) (v := ?_) (a' := ?_) #[true, true, true, true, true, true, true, true, true, true, true, true, true, true, false, false, false, false, false, false] rfl rfl (by kernel_rfl) (fun _ _ _ h => h) (Or.inl ⟨by rfl, ?_⟩) ?_ ?_
            rotate_left
            · intro w'; go_simp; with_reducible rfl
            rotate_left
            · go_simp; rfl
            refine pure_ (i := 14) (N := some 67) (v := ?_) (a' := ?_) #[true, true, true, true, true, true, true, true, true, true, true, true, true, true, true, false, false, false, false, false] rfl rfl (by kernel_rfl) (fun _ _ _ h => h) (Or.inl ⟨by rfl, ?_⟩) ?_ ?_
            rotate_left
            · intro w'; go_simp; with_reducible rfl
            rotate_left
            · go_simp; rfl
            refine pure_ (i := 15) (N := some 68) (v := ?_) (a' := ?_) #[true, true, true, true, true, true, true, true, true, true, true, true, true, true, true, true, false, false, false, false] rfl rfl (by kernel_rfl) (fun _ _ _ h => h) (Or.inl ⟨by rfl, ?_⟩) ?_ ?_
            rotate_left
            · intro w'; go_simp; with_reducible rfl
            rotate_left
            · go_simp; rfl
            refine take_ (i := 16) (N := some 69) (v := ?_) (a' := ?_) #[true, true, true, true, true, true, true, true, true, true, true, true, true, true, true, true, true, false, false, false] rfl rfl (by kernel_rfl) (fun _ _ _ h => h) (Or.inl ⟨by rfl, ?_⟩) hHeld ?_ ?_
            rotate_left
            · rintro w' ⟨s0, s1, s2⟩; go_simp; with_reducible rfl
            rotate_left
            · go_simp; rfl
            refine pure_ (i := 17) (N := some 70) (v := ?_) (a' := ?_) #[true, true, true, true, true, true, true, true, true, true, true, true, true, true, true, true, true, true, false, false] rfl rfl (by kernel_rfl) (fun _ _ _ h => h) (Or.inl ⟨by rfl, ?_⟩) ?_ ?_
            rotate_left
            · intro w'; go_simp; with_reducible rfl
            rotate_left
            · go_simp; rfl
            refine pure_ (i := 18) (N := some 71) (v := ?_) (a' := ?_) #[true, true, true, true, true, true, true, true, true, true, true, true, true, true, true, true, true, true, true, false] rfl rfl (by kernel_rfl) (fun _ _ _ h => h) (Or.inl ⟨by rfl, ?_⟩) ?_ ?_
            rotate_left
            · intro w'; go_simp; with_reducible rfl
            rotate_left
            · go_simp; rfl
            refine pure_ (i := 19) (N := some 8) (v := ?_) (a' := ?_) #[true, true, true, true, true, true, true, true, true, true, true, true, true, true, true, true, true, true, true, true] rfl rfl (by kernel_rfl) (fun _ _ _ h => h) (Or.inl ⟨by rfl, ?_⟩) ?_ ?_
            rotate_left
            · intro w'; go_simp; with_reducible rfl
            rotate_left
            · go_simp; rfl
            refine done_ (by kernel_rfl) ?_
            clear hHeld v1 v2 v3 v4 v5 w1' w2'
            go_wp2
            go_roundg (s.n - (i + 1) - (c + 1))
            case measure => have e1 := HK.out; omega
            case rel =>
              have e1 := HK.out
              exact ⟨c + 1, by omega, by omega, by go_num, by rw [hR1.out, HPW.out, Int.add_assoc], Lib.hid HI.out.drew⟩
          · rw [show decide (d i k < Noon.far) = false by simpa using hd] at v3
            have HPW : Hid (Noon.pairW d i k = 0) := Lib.hid (by unfold Noon.pairW; rw [if_neg hd])
            clear hd
            go_wp2
            go_roundg (s.n - (i + 1) - (c + 1))
            case measure => have e1 := HK.out; omega
            case rel =>
              have e1 := HK.out
              exact ⟨c + 1, by omega, by omega, by go_num, by rw [hR1.out, HPW.out, Int.add_zero], HI⟩
        · have hce : c = s.n - (i + 1) := by omega
          have HCE := Lib.hid hce
          have hcz : ¬ ((i + 1 + c : Nat) : Int) < (s.n : Int) := by omega
          clear hce
          go_wp2
          go_roundg (s.n - (i + 1))
          case measure => omega
          case rel => exact ⟨i + 1, by omega, rfl, by go_num, by rw [HTT.out, HCE.out]; rfl, HI⟩
    · obtain rfl : i = s.n := by omega
      go_wp2
      go_returns
      refine ⟨rfl, ?_⟩
      have h := HR.out.since
      exact (Below.trans HB1.out ((Since.toBelow h).mono HB1.out.size))
end
end Go.Proofs.Ytjohngeaifgcgaa

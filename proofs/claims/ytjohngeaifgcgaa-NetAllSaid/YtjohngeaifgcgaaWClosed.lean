/- bounds.closed: the matrix of the least bounds, under clocks that fit. -/
import Derived.Test.YtjohngeaifgcgaaWUpTo
import Derived.Outline
namespace Go.Proofs.Ytjohngeaifgcgaa
open Go.RowKit
open Noon (Mat Edg)
open Go.Proofs.YtjohngeaifgcgaaW.PrintLast

theorem min_if (a b : Int) : (if b < a then b else a) = min a b := by omega

def Closed (w : World) (n : Nat) (l : List Edg) (e : Ending) (w' : World) : Prop :=
  e = .returned (.tuple #[.slice (some ⟨w.heap.size, 0, none⟩) n n, .bool true]) ∧ Mx w.heap.size w w' n (Noon.closedM n l)

set_option maxRecDepth 100000 in
set_option maxHeartbeats 4000000 in
theorem closed_ok (n : Nat) (A : Option Addr) (g c : Nat) (l : List Edg) (w : World) (h1 : 1 ≤ n) (h2 : n ≤ 6) (hl : l.length ≤ 40) (he : ∀ e ∈ l, Noon.EdgOk n e) (x0 : Nat → Int) (hx : Noon.Fit x0 l) (hb : ∀ i k, -1000000000000 ≤ x0 k - x0 i) (hA : EdgesAt w A g l) :
    Calls Try.prog 53 #[.int .i64 n, .slice A l.length c] w (Closed w n l) := by
  have HE := Lib.hid he
  have HA := Lib.hid hA
  have HW := Lib.hid (Noon.on_way h2 he hx hb)
  have HCL := Lib.hid (Noon.closedM_ok h2 he hx hb)
  have hx' := Lib.hid hx.feas
  clear he hA hx hb
  have hmk1 := run_make_row' (P := Try.prog) 120 22 (.slice none 0 0) 24 Try.underlying120 infoInts rfl .i64 .i64 n (by omega) (by omega)
  have hmk2 := run_make_row' (P := Try.prog) 22 3 (.int .i64 0) 8 Try.underlying22 infoInt rfl .i64 .i64 n (by omega) (by omega)
  go_enter Try.func53, Try.ntmps53
  go_wp2_with fail
  have P0 := MxPart.start w n
  clear hmk1
  go_loopg [7, 8, 18] n (fun gk s7 s8 s18 wr => ∃ r : Nat, r ≤ n ∧ gk = n - r ∧ s18 = .int .i64 r ∧ Hid (MxPart w.heap.size w wr n r))
  case atStart => exact ⟨0, Nat.zero_le _, rfl, rfl, Lib.hid P0⟩
  case round =>
    obtain ⟨r, hr, hgk, rfl, HP⟩ := hrel
    clear P0
    by_cases hlt : r < n
    · have hrz : (r : Int) < (n : Int) := by omega
      have hsz := HP.out.size
      have c1 : wr.cell? ⟨w.heap.size + 1, 0, none⟩ = some (.slice (some ⟨w.heap.size, 0, none⟩) n n) := HP.out.var.cell (by omega)
      have c2 : ∀ o, (wr.alloc o).cell? ⟨w.heap.size, r, none⟩ = some (.slice none 0 0) := fun o => ((HP.out.top.alloc o).cell hlt).trans (by simp)
      have c3 : ∀ o, (wr.alloc o).frozen? ⟨w.heap.size, r, none⟩ = false := fun o => (HP.out.top.alloc o).frozen r
      have k1 : w.heap.size + 1 < wr.heap.size := by omega
      have HSZ := Lib.hid hsz
      clear hsz
      go_wp2_with fail
      refine start_ (n := 6) (S := fun w' => w'.cell? ⟨w.heap.size + 1, 0, none⟩ = some (.slice (some ⟨w.heap.size, 0, none⟩) n n)) (ds := [5]) #[false, false, false, false, false, false] (by kernel_rfl) rfl rfl (by go_simp) (fun hHeld => ?_)
      refine take_ (i := 0) (N := some 21) (v := ?_) (a' := ?_) #[true, false, false, false, false, false] rfl rfl (by kernel_rfl) (fun _ _ _ h => h) (Or.inl ⟨by rfl, ?_⟩) hHeld ?_ ?_
      rotate_left
      · rintro w' s0; go_simp; with_reducible rfl
      rotate_left
      · go_simp; rfl
      refine pure_ (i := 1) (N := some 22) (v := ?_) (a' := ?_) #[true, true, false, false, false, false] rfl rfl (by kernel_rfl) (fun _ _ _ h => h) (Or.inl ⟨by rfl, ?_⟩) ?_ ?_
      rotate_left
      · intro w'; go_simp; with_reducible rfl
      rotate_left
      · go_simp; rfl
      refine pure_ (i := 2) (N := some 23) (v := ?_) (a' := ?_) #[true, true, true, false, false, false] rfl rfl (by kernel_rfl) (fun _ _ _ h => h) (Or.inl ⟨by rfl, ?_⟩) ?_ ?_
      rotate_left
      · intro w'; go_simp; with_reducible rfl
      rotate_left
      · go_simp; rfl
      refine one_ (i := 3) (N := some 24) #[true, true, true, true, false, false] rfl rfl (by kernel_rfl) (by decide) (fun K hK => ?_)
      go_simp
      refine hK.out _ _ (by go_simp) (fun hHeld => ?_)
      clear hK K
      refine pure_ (i := 4) (N := some 25) (v := ?_) (a' := ?_) #[true, true, true, true, true, false] rfl rfl (by kernel_rfl) (fun _ _ _ h => h) (Or.inl ⟨by rfl, ?_⟩) ?_ ?_
      rotate_left
      · intro w'; go_simp; with_reducible rfl
      rotate_left
      · go_simp; rfl
      refine last_ (i := 5) (N := none) #[true, true, true, true, true, true] rfl rfl (by kernel_rfl) (by decide) (fun K hK => ?_)
      go_simp
      refine hK.out _ _ ?_
      clear hK K
      refine done_ (by kernel_rfl) ?_
      have HC : Hid (MxCur w.heap.size w (World.drew ((wr.alloc (.cells (madeCells #[.int .i64 0] n) 3)).setCell ⟨w.heap.size, r, none⟩ (.slice (some ⟨wr.heap.size, 0, none⟩) n n))) n r 0) := by
        have := HP.out.next
        unfold rowV at this
        rw [← HSZ.out] at this
        exact ⟨this.since.drew, this.size, this.var, this.top, this.row, this.cur⟩
      generalize World.drew ((wr.alloc (.cells (madeCells #[.int .i64 0] n) 3)).setCell ⟨w.heap.size, r, none⟩ (.slice (some ⟨wr.heap.size, 0, none⟩) n n)) = w2 at HC ⊢
      have d1 : w2.cell? ⟨w.heap.size + 1, 0, none⟩ = some (.slice (some ⟨w.heap.size, 0, none⟩) n n) := HC.out.var.cell (by omega)
      have d2 : w2.cell? ⟨w.heap.size, r, none⟩ = some (.slice (some ⟨w.heap.size + 2 + r, 0, none⟩) n n) := (HC.out.top.cell hlt).trans (by simp [rowV])
      clear c1 c2 c3 HP
      go_wp2_with fail
      obtain ⟨wo, hwo⟩ : ∃ wo : World, wo = w2 := ⟨_, rfl⟩
      go_loopg [8, 31] n (fun gj t8 t31 wi => ∃ k : Nat, k ≤ n ∧ gj = n - k ∧ t31 = .int .i64 k ∧ Hid (MxCur w.heap.size w wi n r k))
      case atStart => exact ⟨0, Nat.zero_le _, rfl, rfl, HC⟩
      case round =>
        obtain ⟨k, hk, hgk2, rfl, HI⟩ := hrel
        clear hwo HC d1 d2
        by_cases hkn : k < n
        · have hkz : (k : Int) < (n : Int) := by omega
          by_cases hrk : r = k
          · subst hrk
            have hq : ((r : Int) != (r : Int)) = false := by simp
            go_wp2
            go_roundg (n - (r + 1))
            case measure => omega
            case rel => exact ⟨r + 1, by omega, rfl, by go_num, Lib.hid HI.out.skip⟩
          · have hq : ((r : Int) != (k : Int)) = true := by simp; omega
            have d1 : wr.cell? ⟨w.heap.size + 1, 0, none⟩ = some (.slice (some ⟨w.heap.size, 0, none⟩) n n) := HI.out.var.cell (by omega)
            have d2 : wr.cell? ⟨w.heap.size, r, none⟩ = some (.slice (some ⟨w.heap.size + 2 + r, 0, none⟩) n n) := (HI.out.top.cell hlt).trans (by simp [rowV])
            have d3 : wr.cell? ⟨w.heap.size + 2 + r, k, none⟩ = some (.int .i64 0) := (HI.out.cur.cell hkn).trans (by simp)
            have d4 : wr.frozen? ⟨w.heap.size + 2 + r, k, none⟩ = false := HI.out.cur.frozen k
            go_wp2
            go_roundg (n - (k + 1))
            case measure => omega
            case rel => exact ⟨k + 1, by omega, rfl, by go_num, Lib.hid (HI.out.put hrk)⟩
        · obtain rfl : n = k := by omega
          go_wp2
          go_roundg (n - (r + 1))
          case measure => omega
          case rel => exact ⟨r + 1, by omega, rfl, by go_num, Lib.hid HI.out.done⟩
    · obtain rfl : n = r := by omega
      have HM0 := Lib.hid HP.out.full
      clear HP hgk
      go_wp2_with fail
      go_loopg [10, 47] l.length (fun gj t10 t47 wi => ∃ k : Nat, k ≤ l.length ∧ gj = l.length - k ∧ t47 = .int .i64 k ∧ Hid (Mx w.heap.size w wi n (Noon.matE (l.take k))))
      case atStart => exact ⟨0, Nat.zero_le _, rfl, rfl, HM0⟩
      case round =>
        obtain ⟨k, hk, hgk2, rfl, HM⟩ := hrel
        clear HM0 hmk2
        by_cases hkl : k < l.length
        · have hkz : (k : Int) < (l.length : Int) := by omega
          obtain ⟨e, hge⟩ : ∃ e, l[k]? = some e := ⟨_, List.getElem?_eq_getElem hkl⟩
          have hok := HE.out e (List.mem_of_getElem? hge)
          obtain rfl := HA.out.addr (by omega)
          have HAr := Lib.hid (HA.out.since HM.out.since (Nat.le_refl _))
          have q0 := HAr.out.c0 k e hge
          have q1 := HAr.out.c1 k e hge
          have q2 := HAr.out.c2 k e hge
          have q3 := HAr.out.c3 k e hge
          have HG := Lib.hid hge
          obtain ⟨ea, eb, elo, ehi⟩ := e
          obtain ⟨o1, o2, o3, o4, o5, o6⟩ := hok
          simp only at o1 o2 o3 o4 o5 o6 q0 q1 q2 q3
          clear hge
          have gl := HA.out.lt (by omega)
          have hs := HM.out.size
          go_wp2_with fail
          have hB : Blk (wr.alloc (.cells #[.int .i64 ea, .int .i64 eb, .int .i64 elo, .int .i64 ehi] 46)) wr.heap.size #[.int .i64 ea, .int .i64 eb, .int .i64 elo, .int .i64 ehi] 46 := heap_alloc_new _ _
          have hM1 := HM.out.alloc (.cells #[.int .i64 ea, .int .i64 eb, .int .i64 elo, .int .i64 ehi] 46)
          generalize wr.alloc (.cells #[.int .i64 ea, .int .i64 eb, .int .i64 elo, .int .i64 ehi] 46) = w1 at hB hM1 ⊢
          generalize hM : Noon.matE (l.take k) = M at hM1
          have HMM := Lib.hid hM
          have HB := Lib.hid hB
          have HM1 := Lib.hid hM1
          have e0 : w1.cell? ⟨wr.heap.size, 0, none⟩ = some (.int .i64 ea) := (Blk.at hB 0).trans rfl
          have e1 : w1.cell? ⟨wr.heap.size, 1, none⟩ = some (.int .i64 eb) := (Blk.at hB 1).trans rfl
          have e3 : w1.cell? ⟨wr.heap.size, 3, none⟩ = some (.int .i64 ehi) := (Blk.at hB 3).trans rfl
          have v0 := hM1.v
          have v1 := hM1.t o1
          have v2 := hM1.c o1 o2
          have v3 := hM1.f o1 eb
          have nB : wr.heap.size ≠ w.heap.size + 2 + ea := by omega
          clear hM hB hM1 q0 q1 q2 q3
          have z1 : (ea : Int) < (n : Int) := by omega
          have z2 : (eb : Int) < (n : Int) := by omega
          obtain ⟨x, hx⟩ : ∃ x, x = M ea eb := ⟨_, rfl⟩
          rw [← hx] at v2
          have HX := Lib.hid hx
          clear hx
          refine start_ (n := 22) (S := fun w' => w'.cell? ⟨w.heap.size + 1, 0, none⟩ = some (.slice (some ⟨w.heap.size, 0, none⟩) n n) ∧ w'.cell? ⟨w.heap.size, ea, none⟩ = some (.slice (some ⟨w.heap.size + 2 + ea, 0, none⟩) n n) ∧ w'.cell? ⟨w.heap.size + 2 + ea, eb, none⟩ = some (.int .i64 x) ∧ w'.cell? ⟨wr.heap.size, 0, none⟩ = some (.int .i64 ea) ∧ w'.cell? ⟨wr.heap.size, 1, none⟩ = some (.int .i64 eb) ∧ w'.cell? ⟨wr.heap.size, 3, none⟩ = some (.int .i64 ehi)) (ds := [21]) #[false, false, false, false, false, false, false, false, false, false, false, false, false, false, false, false, false, false, false, false, false, false] (by kernel_rfl) rfl rfl (⟨by go_simp, by go_simp, by go_simp, by go_simp, by go_simp, by go_simp⟩) (fun hHeld => ?_)
          refine take_ (i := 0) (N := some 51) (v := ?_) (a' := ?_) #[true, false, false, false, false, false, false, false, false, false, false, false, false, false, false, false, false, false, false, false, false, false] rfl rfl (by kernel_rfl) (fun _ _ _ h => h) (Or.inl ⟨by rfl, ?_⟩) hHeld ?_ ?_
          rotate_left
          · rintro w' ⟨s0, s1, s2, s3, s4, s5⟩; go_simp; with_reducible rfl
          rotate_left
          · go_simp; rfl
          refine pure_ (i := 1) (N := some 52) (v := ?_) (a' := ?_) #[true, true, false, false, false, false, false, false, false, false, false, false, false, false, false, false, false, false, false, false, false, false] rfl rfl (by kernel_rfl) (fun _ _ _ h => h) (Or.inl ⟨by rfl, ?_⟩) ?_ ?_
          rotate_left
          · intro w'; go_simp; with_reducible rfl
          rotate_left
          · go_simp; rfl
          refine take_ (i := 2) (N := some 53) (v := ?_) (a' := ?_) #[true, true, true, false, false, false, false, false, false, false, false, false, false, false, false, false, false, false, false, false, false, false] rfl rfl (by kernel_rfl) (fun _ _ _ h => h) (Or.inl ⟨by rfl, ?_⟩) hHeld ?_ ?_
          rotate_left
          · rintro w' ⟨s0, s1, s2, s3, s4, s5⟩; go_simp; with_reducible rfl
          rotate_left
          · go_simp; rfl
          refine pure_ (i := 3) (N := some 54) (v := ?_) (a' := ?_) #[true, true, true, true, false, false, false, false, false, false, false, false, false, false, false, false, false, false, false, false, false, false] rfl rfl (by kernel_rfl) (fun _ _ _ h => h) (Or.inl ⟨by rfl, ?_⟩) ?_ ?_
          rotate_left
          · intro w'; go_simp; with_reducible rfl
          rotate_left
          · go_simp; rfl
          refine take_ (i := 4) (N := some 55) (v := ?_) (a' := ?_) #[true, true, true, true, true, false, false, false, false, false, false, false, false, false, false, false, false, false, false, false, false, false] rfl rfl (by kernel_rfl) (fun _ _ _ h => h) (Or.inl ⟨by rfl, ?_⟩) hHeld ?_ ?_
          rotate_left
          · rintro w' ⟨s0, s1, s2, s3, s4, s5⟩; go_simp; with_reducible rfl
          rotate_left
          · go_simp; rfl
          refine pure_ (i := 5) (N := some 56) (v := ?_) (a' := ?_) #[true, true, true, true, true, true, false, false, false, false, false, false, false, false, false, false, false, false, false, false, false, false] rfl rfl (by kernel_rfl) (fun _ _ _ h => h) (Or.inl ⟨by rfl, ?_⟩) ?_ ?_
          rotate_left
          · intro w'; go_simp; with_reducible rfl
          rotate_left
          · go_simp; rfl
          refine take_ (i := 6) (N := some 57) (v := ?_) (a' := ?_) #[true, true, true, true, true, true, true, false, false, false, false, false, false, false, false, false, false, false, false, false, false, false] rfl rfl (by kernel_rfl) (fun _ _ _ h => h) (Or.inl ⟨by rfl, ?_⟩) hHeld ?_ ?_
          rotate_left
          · rintro w' ⟨s0, s1, s2, s3, s4, s5⟩; go_simp; with_reducible rfl
          rotate_left
          · go_simp; rfl
          refine take_ (i := 7) (N := some 58) (v := ?_) (a' := ?_) #[true, true, true, true, true, true, true, true, false, false, false, false, false, false, false, false, false, false, false, false, false, false] rfl rfl (by kernel_rfl) (fun _ _ _ h => h) (Or.inl ⟨by rfl, ?_⟩) hHeld ?_ ?_
          rotate_left
          · rintro w' ⟨s0, s1, s2, s3, s4, s5⟩; go_simp; with_reducible rfl
          rotate_left
          · go_simp; rfl
          refine pure_ (i := 8) (N := some 59) (v := ?_) (a' := ?_) #[true, true, true, true, true, true, true, true, true, false, false, false, false, false, false, false, false, false, false, false, false, false] rfl rfl (by kernel_rfl) (fun _ _ _ h => h) (Or.inl ⟨by rfl, ?_⟩) ?_ ?_
          rotate_left
          · intro w'; go_simp; with_reducible rfl
          rotate_left
          · go_simp; rfl
          refine take_ (i := 9) (N := some 60) (v := ?_) (a' := ?_) #[true, true, true, true, true, true, true, true, true, true, false, false, false, false, false, false, false, false, false, false, false, false] rfl rfl (by kernel_rfl) (fun _ _ _ h => h) (Or.inl ⟨by rfl, ?_⟩) hHeld ?_ ?_
          rotate_left
          · rintro w' ⟨s0, s1, s2, s3, s4, s5⟩; go_simp; with_reducible rfl
          rotate_left
          · go_simp; rfl
          refine pure_ (i := 10) (N := some 61) (v := ?_) (a' := ?_) #[true, true, true, true, true, true, true, true, true, true, true, false, false, false, false, false, false, false, false, false, false, false] rfl rfl (by kernel_rfl) (fun _ _ _ h => h) (Or.inl ⟨by rfl, ?_⟩) ?_ ?_
          rotate_left
          · intro w'; go_simp; with_reducible rfl
          rotate_left
          · go_simp; rfl
          refine take_ (i := 11) (N := some 62) (v := ?_) (a' := ?_) #[true, true, true, true, true, true, true, true, true, true, true, true, false, false, false, false, false, false, false, false, false, false] rfl rfl (by kernel_rfl) (fun _ _ _ h => h) (Or.inl ⟨by rfl, ?_⟩) hHeld ?_ ?_
          rotate_left
          · rintro w' ⟨s0, s1, s2, s3, s4, s5⟩; go_simp; with_reducible rfl
          rotate_left
          · go_simp; rfl
          refine pure_ (i := 12) (N := some 63) (v := ?_) (a' := ?_) #[true, true, true, true, true, true, true, true, true, true, true, true, true, false, false, false, false, false, false, false, false, false] rfl rfl (by kernel_rfl) (fun _ _ _ h => h) (Or.inl ⟨by rfl, ?_⟩) ?_ ?_
          rotate_left
          · intro w'; go_simp; with_reducible rfl
          rotate_left
          · go_simp; rfl
          refine take_ (i := 13) (N := some 64) (v := ?_) (a' := ?_) #[true, true, true, true, true, true, true, true, true, true, true, true, true, true, false, false, false, false, false, false, false, false] rfl rfl (by kernel_rfl) (fun _ _ _ h => h) (Or.inl ⟨by rfl, ?_⟩) hHeld ?_ ?_
          rotate_left
          · rintro w' ⟨s0, s1, s2, s3, s4, s5⟩; go_simp; with_reducible rfl
          rotate_left
          · go_simp; rfl
          refine pure_ (i := 14) (N := some 65) (v := ?_) (a' := ?_) #[true, true, true, true, true, true, true, true, true, true, true, true, true, true, true, false, false, false, false, false, false, false] rfl rfl (by kernel_rfl) (fun _ _ _ h => h) (Or.inl ⟨by rfl, ?_⟩) ?_ ?_
          rotate_left
          · intro w'; go_simp; with_reducible rfl
          rotate_left
          · go_simp; rfl
          refine take_ (i := 15) (N := some 66) (v := ?_) (a' := ?_) #[true, true, true, true, true, true, true, true, true, true, true, true, true, true, true, true, false, false, false, false, false, false] rfl rfl (by kernel_rfl) (fun _ _ _ h => h) (Or.inl ⟨by rfl, ?_⟩) hHeld ?_ ?_
          rotate_left
          · rintro w' ⟨s0, s1, s2, s3, s4, s5⟩; go_simp; with_reducible rfl
          rotate_left
          · go_simp; rfl
          refine pure_ (i := 16) (N := some 67) (v := ?_) (a' := ?_) #[true, true, true, true, true, true, true, true, true, true, true, true, true, true, true, true, true, false, false, false, false, false] rfl rfl (by kernel_rfl) (fun _ _ _ h => h) (Or.inl ⟨by rfl, ?_⟩) ?_ ?_
          rotate_left
          · intro w'; go_simp; with_reducible rfl
          rotate_left
          · go_simp; rfl
          refine pure_ (i := 17) (N := some 68) (v := ?_) (a' := ?_) #[true, true, true, true, true, true, true, true, true, true, true, true, true, true, true, true, true, true, false, false, false, false] rfl rfl (by kernel_rfl) (fun _ _ _ h => h) (Or.inl ⟨by rfl, ?_⟩) ?_ ?_
          rotate_left
          · intro w'; go_simp; with_reducible rfl
          rotate_left
          · go_simp; rfl
          refine take_ (i := 18) (N := some 69) (v := ?_) (a' := ?_) #[true, true, true, true, true, true, true, true, true, true, true, true, true, true, true, true, true, true, true, false, false, false] rfl rfl (by kernel_rfl) (fun _ _ _ h => h) (Or.inl ⟨by rfl, ?_⟩) hHeld ?_ ?_
          rotate_left
          · rintro w' ⟨s0, s1, s2, s3, s4, s5⟩; go_simp; with_reducible rfl
          rotate_left
          · go_simp; rfl
          refine pure_ (i := 19) (N := some 70) (v := ?_) (a' := ?_) #[true, true, true, true, true, true, true, true, true, true, true, true, true, true, true, true, true, true, true, true, false, false] rfl rfl (by kernel_rfl) (fun _ _ _ h => h) (Or.inl ⟨by rfl, ?_⟩) ?_ ?_
          rotate_left
          · intro w'; go_simp; with_reducible rfl
          rotate_left
          · go_simp; rfl
          refine pure_ (i := 20) (N := some 71) (v := ?_) (a' := ?_) #[true, true, true, true, true, true, true, true, true, true, true, true, true, true, true, true, true, true, true, true, true, false] rfl rfl (by kernel_rfl) (fun _ _ _ h => h) (Or.inl ⟨by rfl, ?_⟩) ?_ ?_
          rotate_left
          · intro w'; go_simp; with_reducible rfl
          rotate_left
          · go_simp; rfl
          refine last_ (i := 21) (N := none) #[true, true, true, true, true, true, true, true, true, true, true, true, true, true, true, true, true, true, true, true, true, true] rfl rfl (by kernel_rfl) (by decide) (fun K hK => ?_)
          go_simp
          refine hK.out _ _ ?_
          clear hK K
          refine done_ (by kernel_rfl) ?_
          clear hHeld e0 e1 e3 v0 v1 v2 v3
          generalize hm1 : (if ehi < x then ehi else x) = m1
          have hm1' : m1 = min x ehi := by rw [← hm1]; exact min_if x ehi
          have HM2 : Hid (Mx w.heap.size w (World.drew (w1.setCell ⟨w.heap.size + 2 + ea, eb, none⟩ (.int .i64 m1))) n (Noon.upd M ea eb m1)) := (HM1.out.set o1 eb m1).drew
          have HB2 : Hid (Blk (World.drew (w1.setCell ⟨w.heap.size + 2 + ea, eb, none⟩ (.int .i64 m1))) wr.heap.size #[.int .i64 ea, .int .i64 eb, .int .i64 elo, .int .i64 ehi] 46) := Blk.far (p := ⟨w.heap.size + 2 + ea, eb, none⟩) HB.out nB _
          have HM1' := Lib.hid hm1'
          generalize World.drew (w1.setCell ⟨w.heap.size + 2 + ea, eb, none⟩ (.int .i64 m1)) = w2 at HM2 HB2 ⊢
          clear hm1 hm1'
          have e0 : w2.cell? ⟨wr.heap.size, 0, none⟩ = some (.int .i64 ea) := (Blk.at HB2.out 0).trans rfl
          have e1 : w2.cell? ⟨wr.heap.size, 1, none⟩ = some (.int .i64 eb) := (Blk.at HB2.out 1).trans rfl
          have e2 : w2.cell? ⟨wr.heap.size, 2, none⟩ = some (.int .i64 elo) := (Blk.at HB2.out 2).trans rfl
          have v0 := HM2.out.v
          have v1 := HM2.out.t o2
          have v2 := HM2.out.c o2 o1
          have v3 := HM2.out.f o2 ea
          obtain ⟨y, hy⟩ : ∃ y, y = Noon.upd M ea eb m1 eb ea := ⟨_, rfl⟩
          rw [← hy] at v2
          have HY := Lib.hid hy
          clear hy
          have hneg : IntKind.i64.wrap (-elo) = -elo := IntWalk.i64_in _ (by omega)
          go_wp2_with fail
          refine start_ (n := 23) (S := fun w' => w'.cell? ⟨w.heap.size + 1, 0, none⟩ = some (.slice (some ⟨w.heap.size, 0, none⟩) n n) ∧ w'.cell? ⟨w.heap.size, eb, none⟩ = some (.slice (some ⟨w.heap.size + 2 + eb, 0, none⟩) n n) ∧ w'.cell? ⟨w.heap.size + 2 + eb, ea, none⟩ = some (.int .i64 y) ∧ w'.cell? ⟨wr.heap.size, 0, none⟩ = some (.int .i64 ea) ∧ w'.cell? ⟨wr.heap.size, 1, none⟩ = some (.int .i64 eb) ∧ w'.cell? ⟨wr.heap.size, 2, none⟩ = some (.int .i64 elo)) (ds := [22]) #[false, false, false, false, false, false, false, false, false, false, false, false, false, false, false, false, false, false, false, false, false, false, false] (by kernel_rfl) rfl rfl (⟨by go_simp, by go_simp, by go_simp, by go_simp, by go_simp, by go_simp⟩) (fun hHeld => ?_)
          refine take_ (i := 0) (N := some 72) (v := ?_) (a' := ?_) #[true, false, false, false, false, false, false, false, false, false, false, false, false, false, false, false, false, false, false, false, false, false, false] rfl rfl (by kernel_rfl) (fun _ _ _ h => h) (Or.inl ⟨by rfl, ?_⟩) hHeld ?_ ?_
          rotate_left
          · rintro w' ⟨s0, s1, s2, s3, s4, s5⟩; go_simp; with_reducible rfl
          rotate_left
          · go_simp; rfl
          refine pure_ (i := 1) (N := some 73) (v := ?_) (a' := ?_) #[true, true, false, false, false, false, false, false, false, false, false, false, false, false, false, false, false, false, false, false, false, false, false] rfl rfl (by kernel_rfl) (fun _ _ _ h => h) (Or.inl ⟨by rfl, ?_⟩) ?_ ?_
          rotate_left
          · intro w'; go_simp; with_reducible rfl
          rotate_left
          · go_simp; rfl
          refine take_ (i := 2) (N := some 74) (v := ?_) (a' := ?_) #[true, true, true, false, false, false, false, false, false, false, false, false, false, false, false, false, false, false, false, false, false, false, false] rfl rfl (by kernel_rfl) (fun _ _ _ h => h) (Or.inl ⟨by rfl, ?_⟩) hHeld ?_ ?_
          rotate_left
          · rintro w' ⟨s0, s1, s2, s3, s4, s5⟩; go_simp; with_reducible rfl
          rotate_left
          · go_simp; rfl
          refine pure_ (i := 3) (N := some 75) (v := ?_) (a' := ?_) #[true, true, true, true, false, false, false, false, false, false, false, false, false, false, false, false, false, false, false, false, false, false, false] rfl rfl (by kernel_rfl) (fun _ _ _ h => h) (Or.inl ⟨by rfl, ?_⟩) ?_ ?_
          rotate_left
          · intro w'; go_simp; with_reducible rfl
          rotate_left
          · go_simp; rfl
          refine take_ (i := 4) (N := some 76) (v := ?_) (a' := ?_) #[true, true, true, true, true, false, false, false, false, false, false, false, false, false, false, false, false, false, false, false, false, false, false] rfl rfl (by kernel_rfl) (fun _ _ _ h => h) (Or.inl ⟨by rfl, ?_⟩) hHeld ?_ ?_
          rotate_left
          · rintro w' ⟨s0, s1, s2, s3, s4, s5⟩; go_simp; with_reducible rfl
          rotate_left
          · go_simp; rfl
          refine pure_ (i := 5) (N := some 77) (v := ?_) (a' := ?_) #[true, true, true, true, true, true, false, false, false, false, false, false, false, false, false, false, false, false, false, false, false, false, false] rfl rfl (by kernel_rfl) (fun _ _ _ h => h) (Or.inl ⟨by rfl, ?_⟩) ?_ ?_
          rotate_left
          · intro w'; go_simp; with_reducible rfl
          rotate_left
          · go_simp; rfl
          refine take_ (i := 6) (N := some 78) (v := ?_) (a' := ?_) #[true, true, true, true, true, true, true, false, false, false, false, false, false, false, false, false, false, false, false, false, false, false, false] rfl rfl (by kernel_rfl) (fun _ _ _ h => h) (Or.inl ⟨by rfl, ?_⟩) hHeld ?_ ?_
          rotate_left
          · rintro w' ⟨s0, s1, s2, s3, s4, s5⟩; go_simp; with_reducible rfl
          rotate_left
          · go_simp; rfl
          refine take_ (i := 7) (N := some 79) (v := ?_) (a' := ?_) #[true, true, true, true, true, true, true, true, false, false, false, false, false, false, false, false, false, false, false, false, false, false, false] rfl rfl (by kernel_rfl) (fun _ _ _ h => h) (Or.inl ⟨by rfl, ?_⟩) hHeld ?_ ?_
          rotate_left
          · rintro w' ⟨s0, s1, s2, s3, s4, s5⟩; go_simp; with_reducible rfl
          rotate_left
          · go_simp; rfl
          refine pure_ (i := 8) (N := some 80) (v := ?_) (a' := ?_) #[true, true, true, true, true, true, true, true, true, false, false, false, false, false, false, false, false, false, false, false, false, false, false] rfl rfl (by kernel_rfl) (fun _ _ _ h => h) (Or.inl ⟨by rfl, ?_⟩) ?_ ?_
          rotate_left
          · intro w'; go_simp; with_reducible rfl
          rotate_left
          · go_simp; rfl
          refine take_ (i := 9) (N := some 81) (v := ?_) (a' := ?_) #[true, true, true, true, true, true, true, true, true, true, false, false, false, false, false, false, false, false, false, false, false, false, false] rfl rfl (by kernel_rfl) (fun _ _ _ h => h) (Or.inl ⟨by rfl, ?_⟩) hHeld ?_ ?_
          rotate_left
          · rintro w' ⟨s0, s1, s2, s3, s4, s5⟩; go_simp; with_reducible rfl
          rotate_left
          · go_simp; rfl
          refine pure_ (i := 10) (N := some 82) (v := ?_) (a' := ?_) #[true, true, true, true, true, true, true, true, true, true, true, false, false, false, false, false, false, false, false, false, false, false, false] rfl rfl (by kernel_rfl) (fun _ _ _ h => h) (Or.inl ⟨by rfl, ?_⟩) ?_ ?_
          rotate_left
          · intro w'; go_simp; with_reducible rfl
          rotate_left
          · go_simp; rfl
          refine take_ (i := 11) (N := some 83) (v := ?_) (a' := ?_) #[true, true, true, true, true, true, true, true, true, true, true, true, false, false, false, false, false, false, false, false, false, false, false] rfl rfl (by kernel_rfl) (fun _ _ _ h => h) (Or.inl ⟨by rfl, ?_⟩) hHeld ?_ ?_
          rotate_left
          · rintro w' ⟨s0, s1, s2, s3, s4, s5⟩; go_simp; with_reducible rfl
          rotate_left
          · go_simp; rfl
          refine pure_ (i := 12) (N := some 84) (v := ?_) (a' := ?_) #[true, true, true, true, true, true, true, true, true, true, true, true, true, false, false, false, false, false, false, false, false, false, false] rfl rfl (by kernel_rfl) (fun _ _ _ h => h) (Or.inl ⟨by rfl, ?_⟩) ?_ ?_
          rotate_left
          · intro w'; go_simp; with_reducible rfl
          rotate_left
          · go_simp; rfl
          refine take_ (i := 13) (N := some 85) (v := ?_) (a' := ?_) #[true, true, true, true, true, true, true, true, true, true, true, true, true, true, false, false, false, false, false, false, false, false, false] rfl rfl (by kernel_rfl) (fun _ _ _ h => h) (Or.inl ⟨by rfl, ?_⟩) hHeld ?_ ?_
          rotate_left
          · rintro w' ⟨s0, s1, s2, s3, s4, s5⟩; go_simp; with_reducible rfl
          rotate_left
          · go_simp; rfl
          refine pure_ (i := 14) (N := some 86) (v := ?_) (a' := ?_) #[true, true, true, true, true, true, true, true, true, true, true, true, true, true, true, false, false, false, false, false, false, false, false] rfl rfl (by kernel_rfl) (fun _ _ _ h => h) (Or.inl ⟨by rfl, ?_⟩) ?_ ?_
          rotate_left
          · intro w'; go_simp; with_reducible rfl
          rotate_left
          · go_simp; rfl
          refine take_ (i := 15) (N := some 87) (v := ?_) (a' := ?_) #[true, true, true, true, true, true, true, true, true, true, true, true, true, true, true, true, false, false, false, false, false, false, false] rfl rfl (by kernel_rfl) (fun _ _ _ h => h) (Or.inl ⟨by rfl, ?_⟩) hHeld ?_ ?_
          rotate_left
          · rintro w' ⟨s0, s1, s2, s3, s4, s5⟩; go_simp; with_reducible rfl
          rotate_left
          · go_simp; rfl
          refine pure_ (i := 16) (N := some 88) (v := ?_) (a' := ?_) #[true, true, true, true, true, true, true, true, true, true, true, true, true, true, true, true, true, false, false, false, false, false, false] rfl rfl (by kernel_rfl) (fun _ _ _ h => h) (Or.inl ⟨by rfl, ?_⟩) ?_ ?_
          rotate_left
          · intro w'; go_simp; with_reducible rfl
          rotate_left
          · go_simp; rfl
          refine pure_ (i := 17) (N := some 89) (v := ?_) (a' := ?_) #[true, true, true, true, true, true, true, true, true, true, true, true, true, true, true, true, true, true, false, false, false, false, false] rfl rfl (by kernel_rfl) (fun _ _ _ h => h) (Or.inl ⟨by rfl, ?_⟩) ?_ ?_
          rotate_left
          · intro w'; go_simp; with_reducible rfl
          rotate_left
          · go_simp; rfl
          refine take_ (i := 18) (N := some 90) (v := ?_) (a' := ?_) #[true, true, true, true, true, true, true, true, true, true, true, true, true, true, true, true, true, true, true, false, false, false, false] rfl rfl (by kernel_rfl) (fun _ _ _ h => h) (Or.inl ⟨by rfl, ?_⟩) hHeld ?_ ?_
          rotate_left
          · rintro w' ⟨s0, s1, s2, s3, s4, s5⟩; go_simp; with_reducible rfl
          rotate_left
          · go_simp; rfl
          refine pure_ (i := 19) (N := some 91) (v := ?_) (a' := ?_) #[true, true, true, true, true, true, true, true, true, true, true, true, true, true, true, true, true, true, true, true, false, false, false] rfl rfl (by kernel_rfl) (fun _ _ _ h => h) (Or.inl ⟨by rfl, ?_⟩) ?_ ?_
          rotate_left
          · intro w'; go_simp; with_reducible rfl
          rotate_left
          · go_simp; rfl
          refine pure_ (i := 20) (N := some 92) (v := ?_) (a' := ?_) #[true, true, true, true, true, true, true, true, true, true, true, true, true, true, true, true, true, true, true, true, true, false, false] rfl rfl (by kernel_rfl) (fun _ _ _ h => h) (Or.inl ⟨by rfl, ?_⟩) ?_ ?_
          rotate_left
          · intro w'; go_simp; with_reducible rfl
          rotate_left
          · go_simp; rfl
          refine pure_ (i := 21) (N := some 93) (v := ?_) (a' := ?_) #[true, true, true, true, true, true, true, true, true, true, true, true, true, true, true, true, true, true, true, true, true, true, false] rfl rfl (by kernel_rfl) (fun _ _ _ h => h) (Or.inl ⟨by rfl, ?_⟩) ?_ ?_
          rotate_left
          · intro w'; go_simp; with_reducible rfl
          rotate_left
          · go_simp; rfl
          refine last_ (i := 22) (N := none) #[true, true, true, true, true, true, true, true, true, true, true, true, true, true, true, true, true, true, true, true, true, true, true] rfl rfl (by kernel_rfl) (by decide) (fun K hK => ?_)
          go_simp
          refine hK.out _ _ ?_
          clear hK K
          refine done_ (by kernel_rfl) ?_
          clear hHeld e0 e1 e2 v0 v1 v2 v3
          generalize hm2 : (if -elo < y then -elo else y) = m2
          have hm2' : m2 = min y (-elo) := by rw [← hm2]; exact min_if y (-elo)
          have HM3 : Hid (Mx w.heap.size w (World.drew (w2.setCell ⟨w.heap.size + 2 + eb, ea, none⟩ (.int .i64 m2))) n (Noon.matE (l.take (k + 1)))) := by
            refine ((HM2.out.set o2 ea m2).drew).to ?_
            intro i j _ _
            rw [List.take_succ_eq_append_getElem hkl]
            have e : l[k] = ⟨ea, eb, elo, ehi⟩ := by have := HG.out; rw [List.getElem?_eq_getElem hkl] at this; exact Option.some.inj this
            rw [e]
            show _ = List.foldl Noon.addE Noon.mat0 (l.take k ++ [⟨ea, eb, elo, ehi⟩]) i j
            rw [List.foldl_append]
            show _ = Noon.addE (Noon.matE (l.take k)) ⟨ea, eb, elo, ehi⟩ i j
            rw [HMM.out, hm2', HY.out, HM1'.out, HX.out]
            have hne : Noon.upd M ea eb (min (M ea eb) ehi) eb ea = M eb ea := by
              unfold Noon.upd
              simp only [if_neg (show ¬ (eb = ea ∧ ea = eb) by omega)]
            rw [hne]
            rfl
          generalize World.drew (w2.setCell ⟨w.heap.size + 2 + eb, ea, none⟩ (.int .i64 m2)) = w3 at HM3 ⊢
          clear hm2 hm2'
          go_wp2
          go_roundg (l.length - (k + 1))
          case measure => omega
          case rel => exact ⟨k + 1, by omega, rfl, by go_num, HM3⟩
        · obtain rfl : k = l.length := by omega
          rw [List.take_length] at HM
          go_wp2_with fail
          go_loopg [11, 96] n (fun gj t11 t96 wi => ∃ m : Nat, m ≤ n ∧ gj = n - m ∧ t96 = .int .i64 m ∧ Hid (Mx w.heap.size w wi n (Noon.fw n (Noon.matE l) m)))
          case atStart => exact ⟨0, Nat.zero_le _, rfl, rfl, HM⟩
          case round =>
            obtain ⟨m, hm, hgk3, rfl, HF⟩ := hrel
            clear HM hgk2 hk hkl
            by_cases hmn : m < n
            · have hmz : (m : Int) < (n : Int) := by omega
              go_wp2_with fail
              go_loopg [12, 100] n (fun gi t12 t100 wi => ∃ i : Nat, i ≤ n ∧ gi = n - i ∧ t100 = .int .i64 i ∧ Hid (Mx w.heap.size w wi n (Noon.rowI n (Noon.fw n (Noon.matE l) m) m i)))
              case atStart => exact ⟨0, Nat.zero_le _, rfl, rfl, HF⟩
              case round =>
                obtain ⟨i, hi, hgk4, rfl, HI⟩ := hrel
                clear HF
                by_cases hin : i < n
                · have hiz : (i : Int) < (n : Int) := by omega
                  go_wp2_with fail
                  go_loopg [13, 104] n (fun gi t13 t104 wi => ∃ k : Nat, k ≤ n ∧ gi = n - k ∧ t104 = .int .i64 k ∧ Hid (Mx w.heap.size w wi n (Noon.rowK (Noon.rowI n (Noon.fw n (Noon.matE l) m) m i) m i k)))
                  case atStart => exact ⟨0, Nat.zero_le _, rfl, rfl, HI⟩
                  case round =>
                    obtain ⟨k, hk, hgk5, rfl, HK⟩ := hrel
                    clear HI
                    by_cases hkn : k < n
                    · have hkz : (k : Int) < (n : Int) := by omega
                      have hstep : Hid (∀ j, Noon.rowK (Noon.rowI n (Noon.fw n (Noon.matE l) m) m i) m i (k + 1) j = Noon.relax (Noon.rowK (Noon.rowI n (Noon.fw n (Noon.matE l) m) m i) m i k) m i k j) := fun _ => rfl
                      have bx := HW.out m i k hmn i m
                      have by_ := HW.out m i k hmn m k
                      have bz := HW.out m i k hmn i k
                      generalize Noon.rowK (Noon.rowI n (Noon.fw n (Noon.matE l) m) m i) m i k = E at HK hstep bx by_ bz
                      have v0 := HK.out.v
                      have v1 := HK.out.t hin
                      have v2 := HK.out.t hmn
                      have v3 := HK.out.c hin hmn
                      have v4 := HK.out.c hmn hkn
                      have v5 := HK.out.c hin hkn
                      have v6 := HK.out.f hin k
                      obtain ⟨x, hx⟩ : ∃ x, x = E i m := ⟨_, rfl⟩
                      obtain ⟨y, hy⟩ : ∃ y, y = E m k := ⟨_, rfl⟩
                      obtain ⟨z, hz⟩ : ∃ z, z = E i k := ⟨_, rfl⟩
                      rw [← hx] at v3 bx
                      rw [← hy] at v4 by_
                      rw [← hz] at v5 bz
                      have HX := Lib.hid hx
                      have HY := Lib.hid hy
                      have HZ := Lib.hid hz
                      clear hx hy hz
                      unfold Noon.far at bx by_ bz
                      by_cases qx : x < 1152921504606846976
                      · obtain ⟨bx1, bx2⟩ := bx.2 qx
                        clear bx
                        by_cases qy : y < 1152921504606846976
                        · obtain ⟨by1, by2⟩ := by_.2 qy
                          clear by_ bz
                          have dx : decide (x < 1152921504606846976) = true := by simpa using qx
                          have dy : decide (y < 1152921504606846976) = true := by simpa using qy
                          have hw : IntKind.i64.wrap (x + y) = x + y := IntWalk.i64_in _ (by omega)
                          go_wp2_with fail
                          refine start_ (n := 30) (S := fun w' => w'.cell? ⟨w.heap.size + 1, 0, none⟩ = some (.slice (some ⟨w.heap.size, 0, none⟩) n n) ∧ w'.cell? ⟨w.heap.size, i, none⟩ = some (.slice (some ⟨w.heap.size + 2 + i, 0, none⟩) n n) ∧ w'.cell? ⟨w.heap.size, m, none⟩ = some (.slice (some ⟨w.heap.size + 2 + m, 0, none⟩) n n) ∧ w'.cell? ⟨w.heap.size + 2 + i, m, none⟩ = some (.int .i64 x) ∧ w'.cell? ⟨w.heap.size + 2 + m, k, none⟩ = some (.int .i64 y) ∧ w'.cell? ⟨w.heap.size + 2 + i, k, none⟩ = some (.int .i64 z)) (ds := [29]) #[false, false, false, false, false, false, false, false, false, false, false, false, false, false, false, false, false, false, false, false, false, false, false, false, false, false, false, false, false, false] (by kernel_rfl) rfl rfl (⟨by go_simp, by go_simp, by go_simp, by go_simp, by go_simp, by go_simp⟩) (fun hHeld => ?_)
                          refine take_ (i := 0) (N := some 125) (v := ?_) (a' := ?_) #[true, false, false, false, false, false, false, false, false, false, false, false, false, false, false, false, false, false, false, false, false, false, false, false, false, false, false, false, false, false] rfl rfl (by kernel_rfl) (fun _ _ _ h => h) (Or.inl ⟨by rfl, ?_⟩) hHeld ?_ ?_
                          rotate_left
                          · rintro w' ⟨s0, s1, s2, s3, s4, s5⟩; go_simp; with_reducible rfl
                          rotate_left
                          · go_simp; rfl
                          refine pure_ (i := 1) (N := some 126) (v := ?_) (a' := ?_) #[true, true, false, false, false, false, false, false, false, false, false, false, false, false, false, false, false, false, false, false, false, false, false, false, false, false, false, false, false, false] rfl rfl (by kernel_rfl) (fun _ _ _ h => h) (Or.inl ⟨by rfl, ?_⟩) ?_ ?_
                          rotate_left
                          · intro w'; go_simp; with_reducible rfl
                          rotate_left
                          · go_simp; rfl
                          refine pure_ (i := 2) (N := some 127) (v := ?_) (a' := ?_) #[true, true, true, false, false, false, false, false, false, false, false, false, false, false, false, false, false, false, false, false, false, false, false, false, false, false, false, false, false, false] rfl rfl (by kernel_rfl) (fun _ _ _ h => h) (Or.inl ⟨by rfl, ?_⟩) ?_ ?_
                          rotate_left
                          · intro w'; go_simp; with_reducible rfl
                          rotate_left
                          · go_simp; rfl
                          refine take_ (i := 3) (N := some 128) (v := ?_) (a' := ?_) #[true, true, true, true, false, false, false, false, false, false, false, false, false, false, false, false, false, false, false, false, false, false, false, false, false, false, false, false, false, false] rfl rfl (by kernel_rfl) (fun _ _ _ h => h) (Or.inl ⟨by rfl, ?_⟩) hHeld ?_ ?_
                          rotate_left
                          · rintro w' ⟨s0, s1, s2, s3, s4, s5⟩; go_simp; with_reducible rfl
                          rotate_left
                          · go_simp; rfl
                          refine pure_ (i := 4) (N := some 129) (v := ?_) (a' := ?_) #[true, true, true, true, true, false, false, false, false, false, false, false, false, false, false, false, false, false, false, false, false, false, false, false, false, false, false, false, false, false] rfl rfl (by kernel_rfl) (fun _ _ _ h => h) (Or.inl ⟨by rfl, ?_⟩) ?_ ?_
                          rotate_left
                          · intro w'; go_simp; with_reducible rfl
                          rotate_left
                          · go_simp; rfl
                          refine take_ (i := 5) (N := some 130) (v := ?_) (a' := ?_) #[true, true, true, true, true, true, false, false, false, false, false, false, false, false, false, false, false, false, false, false, false, false, false, false, false, false, false, false, false, false] rfl rfl (by kernel_rfl) (fun _ _ _ h => h) (Or.inl ⟨by rfl, ?_⟩) hHeld ?_ ?_
                          rotate_left
                          · rintro w' ⟨s0, s1, s2, s3, s4, s5⟩; go_simp; with_reducible rfl
                          rotate_left
                          · go_simp; rfl
                          refine pure_ (i := 6) (N := some 131) (v := ?_) (a' := ?_) #[true, true, true, true, true, true, true, false, false, false, false, false, false, false, false, false, false, false, false, false, false, false, false, false, false, false, false, false, false, false] rfl rfl (by kernel_rfl) (fun _ _ _ h => h) (Or.inl ⟨by rfl, ?_⟩) ?_ ?_
                          rotate_left
                          · intro w'; go_simp; with_reducible rfl
                          rotate_left
                          · go_simp; rfl
                          refine pure_ (i := 7) (N := some 132) (v := ?_) (a' := ?_) #[true, true, true, true, true, true, true, true, false, false, false, false, false, false, false, false, false, false, false, false, false, false, false, false, false, false, false, false, false, false] rfl rfl (by kernel_rfl) (fun _ _ _ h => h) (Or.inl ⟨by rfl, ?_⟩) ?_ ?_
                          rotate_left
                          · intro w'; go_simp; with_reducible rfl
                          rotate_left
                          · go_simp; rfl
                          refine take_ (i := 8) (N := some 133) (v := ?_) (a' := ?_) #[true, true, true, true, true, true, true, true, true, false, false, false, false, false, false, false, false, false, false, false, false, false, false, false, false, false, false, false, false, false] rfl rfl (by kernel_rfl) (fun _ _ _ h => h) (Or.inl ⟨by rfl, ?_⟩) hHeld ?_ ?_
                          rotate_left
                          · rintro w' ⟨s0, s1, s2, s3, s4, s5⟩; go_simp; with_reducible rfl
                          rotate_left
                          · go_simp; rfl
                          refine pure_ (i := 9) (N := some 134) (v := ?_) (a' := ?_) #[true, true, true, true, true, true, true, true, true, true, false, false, false, false, false, false, false, false, false, false, false, false, false, false, false, false, false, false, false, false] rfl rfl (by kernel_rfl) (fun _ _ _ h => h) (Or.inl ⟨by rfl, ?_⟩) ?_ ?_
                          rotate_left
                          · intro w'; go_simp; with_reducible rfl
                          rotate_left
                          · go_simp; rfl
                          refine pure_ (i := 10) (N := some 135) (v := ?_) (a' := ?_) #[true, true, true, true, true, true, true, true, true, true, true, false, false, false, false, false, false, false, false, false, false, false, false, false, false, false, false, false, false, false] rfl rfl (by kernel_rfl) (fun _ _ _ h => h) (Or.inl ⟨by rfl, ?_⟩) ?_ ?_
                          rotate_left
                          · intro w'; go_simp; with_reducible rfl
                          rotate_left
                          · go_simp; rfl
                          refine take_ (i := 11) (N := some 136) (v := ?_) (a' := ?_) #[true, true, true, true, true, true, true, true, true, true, true, true, false, false, false, false, false, false, false, false, false, false, false, false, false, false, false, false, false, false] rfl rfl (by kernel_rfl) (fun _ _ _ h => h) (Or.inl ⟨by rfl, ?_⟩) hHeld ?_ ?_
                          rotate_left
                          · rintro w' ⟨s0, s1, s2, s3, s4, s5⟩; go_simp; with_reducible rfl
                          rotate_left
                          · go_simp; rfl
                          refine take_ (i := 12) (N := some 137) (v := ?_) (a' := ?_) #[true, true, true, true, true, true, true, true, true, true, true, true, true, false, false, false, false, false, false, false, false, false, false, false, false, false, false, false, false, false] rfl rfl (by kernel_rfl) (fun _ _ _ h => h) (Or.inl ⟨by rfl, ?_⟩) hHeld ?_ ?_
                          rotate_left
                          · rintro w' ⟨s0, s1, s2, s3, s4, s5⟩; go_simp; with_reducible rfl
                          rotate_left
                          · go_simp; rfl
                          refine pure_ (i := 13) (N := some 138) (v := ?_) (a' := ?_) #[true, true, true, true, true, true, true, true, true, true, true, true, true, true, false, false, false, false, false, false, false, false, false, false, false, false, false, false, false, false] rfl rfl (by kernel_rfl) (fun _ _ _ h => h) (Or.inl ⟨by rfl, ?_⟩) ?_ ?_
                          rotate_left
                          · intro w'; go_simp; with_reducible rfl
                          rotate_left
                          · go_simp; rfl
                          refine pure_ (i := 14) (N := some 139) (v := ?_) (a' := ?_) #[true, true, true, true, true, true, true, true, true, true, true, true, true, true, true, false, false, false, false, false, false, false, false, false, false, false, false, false, false, false] rfl rfl (by kernel_rfl) (fun _ _ _ h => h) (Or.inl ⟨by rfl, ?_⟩) ?_ ?_
                          rotate_left
                          · intro w'; go_simp; with_reducible rfl
                          rotate_left
                          · go_simp; rfl
                          refine take_ (i := 15) (N := some 140) (v := ?_) (a' := ?_) #[true, true, true, true, true, true, true, true, true, true, true, true, true, true, true, true, false, false, false, false, false, false, false, false, false, false, false, false, false, false] rfl rfl (by kernel_rfl) (fun _ _ _ h => h) (Or.inl ⟨by rfl, ?_⟩) hHeld ?_ ?_
                          rotate_left
                          · rintro w' ⟨s0, s1, s2, s3, s4, s5⟩; go_simp; with_reducible rfl
                          rotate_left
                          · go_simp; rfl
                          refine pure_ (i := 16) (N := some 141) (v := ?_) (a' := ?_) #[true, true, true, true, true, true, true, true, true, true, true, true, true, true, true, true, true, false, false, false, false, false, false, false, false, false, false, false, false, false] rfl rfl (by kernel_rfl) (fun _ _ _ h => h) (Or.inl ⟨by rfl, ?_⟩) ?_ ?_
                          rotate_left
                          · intro w'; go_simp; with_reducible rfl
                          rotate_left
                          · go_simp; rfl
                          refine pure_ (i := 17) (N := some 142) (v := ?_) (a' := ?_) #[true, true, true, true, true, true, true, true, true, true, true, true, true, true, true, true, true, true, false, false, false, false, false, false, false, false, false, false, false, false] rfl rfl (by kernel_rfl) (fun _ _ _ h => h) (Or.inl ⟨by rfl, ?_⟩) ?_ ?_
                          rotate_left
                          · intro w'; go_simp; with_reducible rfl
                          rotate_left
                          · go_simp; rfl
                          refine take_ (i := 18) (N := some 143) (v := ?_) (a' := ?_) #[true, true, true, true, true, true, true, true, true, true, true, true, true, true, true, true, true, true, true, false, false, false, false, false, false, false, false, false, false, false] rfl rfl (by kernel_rfl) (fun _ _ _ h => h) (Or.inl ⟨by rfl, ?_⟩) hHeld ?_ ?_
                          rotate_left
                          · rintro w' ⟨s0, s1, s2, s3, s4, s5⟩; go_simp; with_reducible rfl
                          rotate_left
                          · go_simp; rfl
                          refine take_ (i := 19) (N := some 144) (v := ?_) (a' := ?_) #[true, true, true, true, true, true, true, true, true, true, true, true, true, true, true, true, true, true, true, true, false, false, false, false, false, false, false, false, false, false] rfl rfl (by kernel_rfl) (fun _ _ _ h => h) (Or.inl ⟨by rfl, ?_⟩) hHeld ?_ ?_
                          rotate_left
                          · rintro w' ⟨s0, s1, s2, s3, s4, s5⟩; go_simp; with_reducible rfl
                          rotate_left
                          · go_simp; rfl
                          refine pure_ (i := 20) (N := some 145) (v := ?_) (a' := ?_) #[true, true, true, true, true, true, true, true, true, true, true, true, true, true, true, true, true, true, true, true, true, false, false, false, false, false, false, false, false, false] rfl rfl (by kernel_rfl) (fun _ _ _ h => h) (Or.inl ⟨by rfl, ?_⟩) ?_ ?_
                          rotate_left
                          · intro w'; go_simp; with_reducible rfl
                          rotate_left
                          · go_simp; rfl
                          refine pure_ (i := 21) (N := some 146) (v := ?_) (a' := ?_) #[true, true, true, true, true, true, true, true, true, true, true, true, true, true, true, true, true, true, true, true, true, true, false, false, false, false, false, false, false, false] rfl rfl (by kernel_rfl) (fun _ _ _ h => h) (Or.inl ⟨by rfl, ?_⟩) ?_ ?_
                          rotate_left
                          · intro w'; go_simp; with_reducible rfl
                          rotate_left
                          · go_simp; rfl
                          refine take_ (i := 22) (N := some 147) (v := ?_) (a' := ?_) #[true, true, true, true, true, true, true, true, true, true, true, true, true, true, true, true, true, true, true, true, true, true, true, false, false, false, false, false, false, false] rfl rfl (by kernel_rfl) (fun _ _ _ h => h) (Or.inl ⟨by rfl, ?_⟩) hHeld ?_ ?_
                          rotate_left
                          · rintro w' ⟨s0, s1, s2, s3, s4, s5⟩; go_simp; with_reducible rfl
                          rotate_left
                          · go_simp; rfl
                          refine pure_ (i := 23) (N := some 148) (v := ?_) (a' := ?_) #[true, true, true, true, true, true, true, true, true, true, true, true, true, true, true, true, true, true, true, true, true, true, true, true, false, false, false, false, false, false] rfl rfl (by kernel_rfl) (fun _ _ _ h => h) (Or.inl ⟨by rfl, ?_⟩) ?_ ?_
                          rotate_left
                          · intro w'; go_simp; with_reducible rfl
                          rotate_left
                          · go_simp; rfl
                          refine pure_ (i := 24) (N := some 149) (v := ?_) (a' := ?_) #[true, true, true, true, true, true, true, true, true, true, true, true, true, true, true, true, true, true, true, true, true, true, true, true, true, false, false, false, false, false] rfl rfl (by kernel_rfl) (fun _ _ _ h => h) (Or.inl ⟨by rfl, ?_⟩) ?_ ?_
                          rotate_left
                          · intro w'; go_simp; with_reducible rfl
                          rotate_left
                          · go_simp; rfl
                          refine take_ (i := 25) (N := some 150) (v := ?_) (a' := ?_) #[true, true, true, true, true, true, true, true, true, true, true, true, true, true, true, true, true, true, true, true, true, true, true, true, true, true, false, false, false, false] rfl rfl (by kernel_rfl) (fun _ _ _ h => h) (Or.inl ⟨by rfl, ?_⟩) hHeld ?_ ?_
                          rotate_left
                          · rintro w' ⟨s0, s1, s2, s3, s4, s5⟩; go_simp; with_reducible rfl
                          rotate_left
                          · go_simp; rfl
                          refine pure_ (i := 26) (N := some 151) (v := ?_) (a' := ?_) #[true, true, true, true, true, true, true, true, true, true, true, true, true, true, true, true, true, true, true, true, true, true, true, true, true, true, true, false, false, false] rfl rfl (by kernel_rfl) (fun _ _ _ h => h) (Or.inl ⟨by rfl, ?_⟩) ?_ ?_
                          rotate_left
                          · intro w'; go_simp; with_reducible rfl
                          rotate_left
                          · go_simp; rfl
                          refine pure_ (i := 27) (N := some 152) (v := ?_) (a' := ?_) #[true, true, true, true, true, true, true, true, true, true, true, true, true, true, true, true, true, true, true, true, true, true, true, true, true, true, true, true, false, false] rfl rfl (by kernel_rfl) (fun _ _ _ h => h) (Or.inl ⟨by rfl, ?_⟩) ?_ ?_
                          rotate_left
                          · intro w'; go_simp; with_reducible rfl
                          rotate_left
                          · go_simp; rfl
                          refine pure_ (i := 28) (N := some 153) (v := ?_) (a' := ?_) #[true, true, true, true, true, true, true, true, true, true, true, true, true, true, true, true, true, true, true, true, true, true, true, true, true, true, true, true, true, false] rfl rfl (by kernel_rfl) (fun _ _ _ h => h) (Or.inl ⟨by rfl, ?_⟩) ?_ ?_
                          rotate_left
                          · intro w'; go_simp; with_reducible rfl
                          rotate_left
                          · go_simp; rfl
                          refine last_ (i := 29) (N := none) #[true, true, true, true, true, true, true, true, true, true, true, true, true, true, true, true, true, true, true, true, true, true, true, true, true, true, true, true, true, true] rfl rfl (by kernel_rfl) (by decide) (fun K hK => ?_)
                          go_simp
                          refine hK.out _ _ ?_
                          clear hK K
                          refine done_ (by kernel_rfl) ?_
                          clear hHeld v0 v1 v2 v3 v4 v5 v6
                          generalize hm1 : (if x + y < z then x + y else z) = m1
                          have hm1' : m1 = min z (x + y) := by rw [← hm1]; exact min_if z (x + y)
                          have HM3 : Hid (Mx w.heap.size w (World.drew (wr.setCell ⟨w.heap.size + 2 + i, k, none⟩ (.int .i64 m1))) n (Noon.rowK (Noon.rowI n (Noon.fw n (Noon.matE l) m) m i) m i (k + 1))) := by
                            refine ((HK.out.set hin k m1).drew).to ?_
                            intro a b _ _
                            rw [hstep.out]
                            unfold Noon.relax
                            rw [if_pos (by unfold Noon.far; rw [← HX.out, ← HY.out]; exact ⟨qx, qy⟩), hm1', HX.out, HY.out, HZ.out]
                          generalize World.drew (wr.setCell ⟨w.heap.size + 2 + i, k, none⟩ (.int .i64 m1)) = w3 at HM3 ⊢
                          clear hm1 hm1'
                          go_wp2
                          go_roundg (n - (k + 1))
                          case measure => omega
                          case rel => exact ⟨k + 1, by omega, rfl, by go_num, HM3⟩
                        · clear by_ bz
                          have dx : decide (x < 1152921504606846976) = true := by simpa using qx
                          have dy : decide (y < 1152921504606846976) = false := by simpa using qy
                          go_wp2
                          go_roundg (n - (k + 1))
                          case measure => omega
                          case rel =>
                            refine ⟨k + 1, by omega, rfl, by go_num, ?_⟩
                            exact Lib.hid (HK.out.to fun a b _ _ => by rw [hstep.out]; unfold Noon.relax; rw [if_neg (by unfold Noon.far; rw [← HY.out]; omega)])
                      · clear bx by_ bz
                        have dx : decide (x < 1152921504606846976) = false := by simpa using qx
                        go_wp2
                        go_roundg (n - (k + 1))
                        case measure => omega
                        case rel =>
                          refine ⟨k + 1, by omega, rfl, by go_num, ?_⟩
                          exact Lib.hid (HK.out.to fun a b _ _ => by rw [hstep.out]; unfold Noon.relax; rw [if_neg (by unfold Noon.far; rw [← HX.out]; omega)])
                    · obtain rfl : n = k := by omega
                      go_wp2
                      go_roundg (n - (i + 1))
                      case measure => omega
                      case rel => exact ⟨i + 1, by omega, rfl, by go_num, HK⟩
                · obtain rfl : n = i := by omega
                  go_wp2
                  go_roundg (n - (m + 1))
                  case measure => omega
                  case rel => exact ⟨m + 1, by omega, rfl, by go_num, HI⟩
            · obtain rfl : n = m := by omega
              have HD : Hid (∀ i, i < n → 0 ≤ Noon.closedM n l i i) := Lib.hid (fun i hi => by
                rcases HCL.out.dist i i hi hi with ⟨q, _⟩ | ⟨q, _⟩
                · rw [q]; decide
                · have := q.ge hx'.out; omega)
              have HF' : Hid (Mx w.heap.size w wr n (Noon.closedM n l)) := HF
              clear HF hgk3 hmn hm
              have v0 := HF'.out.v
              have hs := HF'.out.size
              go_wp2_with fail
              refine start_ (n := 8) (S := fun w' => w'.cell? ⟨w.heap.size + 1, 0, none⟩ = some (.slice (some ⟨w.heap.size, 0, none⟩) n n)) (ds := []) #[false, false, false, false, false, false, false, false] (by kernel_rfl) rfl rfl (by go_simp) (fun hHeld => ?_)
              refine take_ (i := 0) (N := some 157) (v := ?_) (a' := ?_) #[true, false, false, false, false, false, false, false] rfl rfl (by kernel_rfl) (fun _ _ _ h => h) (Or.inl ⟨by rfl, ?_⟩) hHeld ?_ ?_
              rotate_left
              · rintro w' s0; go_simp; with_reducible rfl
              rotate_left
              · go_simp; rfl
              refine pure_ (i := 1) (N := some 158) (v := ?_) (a' := ?_) #[true, true, false, false, false, false, false, false] rfl rfl (by kernel_rfl) (fun _ _ _ h => h) (Or.inl ⟨by rfl, ?_⟩) ?_ ?_
              rotate_left
              · intro w'; go_simp; with_reducible rfl
              rotate_left
              · go_simp; rfl
              refine pure_ (i := 3) (N := some 160) (v := ?_) (a' := ?_) #[true, true, false, true, false, false, false, false] rfl rfl (by kernel_rfl) (fun _ _ _ h => h) (Or.inl ⟨by rfl, ?_⟩) ?_ ?_
              rotate_left
              · intro w'; go_simp; with_reducible rfl
              rotate_left
              · go_simp; rfl
              refine one_ (i := 2) (N := some 159) #[true, true, true, true, false, false, false, false] rfl rfl (by kernel_rfl) (by decide) (fun K hK => ?_)
              go_simp
              refine (upTo_ok n _ h2).mono ?_
              rintro e w1 ⟨v, rfl, hown, hb1⟩
              obtain ⟨g', c', rfl, _, _⟩ := ownsRow_at hown (by omega)
              have HM1 : Hid (Mx w.heap.size w w1 n (Noon.closedM n l)) := Lib.hid ((HF'.out.drew).below hb1)
              have HO := Lib.hid hown
              have g0 := HM1.out.v
              clear hown hb1
              refine hK.out _ _ g0 (fun hHeld => ?_)
              clear hK K
              refine one_ (i := 4) (N := some 161) #[true, true, true, true, true, false, false, false] rfl rfl (by kernel_rfl) (by decide) (fun K hK => ?_)
              go_simp
              refine (contains_no w.heap.size n g' c' _ w _ HM1.out HD.out h2 (fun j hj => by
                have := World.ownsRow.cells HO.out (g := g') rfl j _ (numsC_get hj)
                rwa [show (⟨g', 0, none⟩ : Addr).add j = ⟨g', j, none⟩ from by cases j <;> simp [Addr.add]] at this)).mono ?_
              rintro e w2 ⟨rfl, rfl⟩
              refine hK.out _ _ g0 (fun hHeld => ?_)
              clear hK K
              refine pure_ (i := 5) (N := some 162) (v := ?_) (a' := ?_) #[true, true, true, true, true, true, false, false] rfl rfl (by kernel_rfl) (fun _ _ _ h => h) (Or.inl ⟨by rfl, ?_⟩) ?_ ?_
              rotate_left
              · intro w'; go_simp; with_reducible rfl
              rotate_left
              · go_simp; rfl
              refine pure_ (i := 6) (N := some 4) (v := ?_) (a' := ?_) #[true, true, true, true, true, true, true, false] rfl rfl (by kernel_rfl) (fun _ _ _ h => h) (Or.inl ⟨by rfl, ?_⟩) ?_ ?_
              rotate_left
              · intro w'; go_simp; with_reducible rfl
              rotate_left
              · go_simp; rfl
              refine pure_ (i := 7) (N := some 5) (v := ?_) (a' := ?_) #[true, true, true, true, true, true, true, true] rfl rfl (by kernel_rfl) (fun _ _ _ h => h) (Or.inl ⟨by rfl, ?_⟩) ?_ ?_
              rotate_left
              · intro w'; go_simp; with_reducible rfl
              rotate_left
              · go_simp; rfl
              refine done_ (by kernel_rfl) ?_
              go_wp2
              go_returns
              exact ⟨rfl, HM1.out⟩
end Go.Proofs.Ytjohngeaifgcgaa

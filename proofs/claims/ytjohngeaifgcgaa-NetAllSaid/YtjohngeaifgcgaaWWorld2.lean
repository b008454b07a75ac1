/- A world's Answer, Read and Go: what they do to memory. -/
import Derived.Test.YtjohngeaifgcgaaWWorld
namespace Go.Proofs.Ytjohngeaifgcgaa
open Go.RowKit
open Go.Proofs.YtjohngeaifgcgaaW.PrintLast

set_option maxRecDepth 100000 in
set_option maxHeartbeats 1000000 in
theorem answer_ok (base wb sb rb n cs cr i k m : Nat) (uv : Value) (s t r t0 : Int) (xs : List Value) (w : World)
    (hw : Blk w wb #[.slice (some ⟨sb, 0, none⟩) n cs, .slice (some ⟨rb, 0, none⟩) n cr, .int .i64 t, uv] 105)
    (hs : w.cell? ⟨sb, k, none⟩ = some (.int .i64 s)) (hr : w.cell? ⟨rb, k, none⟩ = some (.int .i64 r)) (hi : i < n) (hk : k < n)
    (b1 : 0 ≤ t) (b2 : t ≤ 1000000000) (b3 : -1000 ≤ r) (b4 : r ≤ 1000) (b5 : 0 ≤ s) (b6 : s ≤ 1000000)
    (hu : w.ownsRow base 48 6 uv m xs) (hm : m < 40) (hbase : base ≤ w.heap.size) :
    Calls Try.prog 27 #[.pointer (some ⟨wb, 0, none⟩), .agg #[.int .i64 i, .int .i64 k, .bool false, .int .i64 0, .int .i64 0, .int .i64 t0]] w fun e w' => e = .returned .nilIface ∧
      Pushed w base wb (.slice (some ⟨sb, 0, none⟩) n cs) (.slice (some ⟨rb, 0, none⟩) n cr) t uv (m + 1) (xs ++ ltrC k i true t0 (s + t + t * r / 1000000) (s + t + t * r / 1000000)) w' := by
  have a1 := ownsRow_ne hu hw (by decide)
  obtain ⟨A, c, rfl⟩ := ownsRow_slice hu
  obtain ⟨i0, hi0, hz0, hz1, hz2⟩ := info_parts infoLetter
  have h0 := hw.at 0
  have h1 := hw.at 1
  have h2 := hw.at 2
  have h3 := hw.at 3
  have hf := hw.free 3
  simp only [List.getElem?_toArray, List.getElem?_cons_zero, List.getElem?_cons_succ] at h0 h1 h2 h3
  have HW := Lib.hid hw
  have HU := Lib.hid hu
  clear hw hu
  have l1 := World.block_lt_of_cell? w _ h0
  have l2 := World.block_lt_of_cell? w _ hs
  have l3 := World.block_lt_of_cell? w _ hr
  have a4 : (Value.slice A m c).ownBlock ≠ some w.heap.size := fun h => by have := (World.ownsRow.lt HU.out _ h).2; omega
  have A1 := Lib.hid a1
  have A4 := Lib.hid a4
  clear a1 a4
  have q1 : nodeB n i = true := by simp [nodeB]; omega
  have q2 : nodeB n k = true := by simp [nodeB]; omega
  have Q1 := Lib.hid q1
  have Q2 := Lib.hid q2
  clear q1 q2
  go_enter Try.func27, Try.ntmps27
  go_wp2_with fail
  refine (has_any wb n cs (some ⟨sb, 0, none⟩) i _ (by go_simp)).mono ?_
  rintro e w' ⟨rfl, rfl⟩
  rw [Q1.out]
  go_wp2_with fail
  refine (has_any wb n cs (some ⟨sb, 0, none⟩) k _ (by go_simp)).mono ?_
  rintro e w' ⟨rfl, rfl⟩
  rw [Q2.out]
  go_wp2_with fail
  refine (read_any wb sb rb n cs cr k s t r _ (by go_simp) (by go_simp) (by go_simp) (by go_simp) (by go_simp) hk b1 b2 b3 b4 b5 b6).mono ?_
  rintro e w' ⟨rfl, q, rfl⟩
  go_wp2_with fail
  clear Q1 Q2
  refine start_ (n := 19) (S := fun w' => w'.cell? ⟨wb, 3, none⟩ = some (.slice A m c) ∧ w'.cell? ⟨w.heap.size, 0, none⟩ = some (.int .i64 i) ∧ w'.cell? ⟨w.heap.size, 1, none⟩ = some (.int .i64 k) ∧ w'.cell? ⟨w.heap.size, 5, none⟩ = some (.int .i64 t0)) (ds := [18]) #[false, false, false, false, false, false, false, false, false, false, false, false, false, false, false, false, false, false, false] (by kernel_rfl) rfl rfl (⟨by go_simp, by go_simp, by go_simp, by go_simp⟩) (fun hHeld => ?_)
  refine pure_ (i := 0) (N := some 36) (v := ?_) (a' := ?_) #[true, false, false, false, false, false, false, false, false, false, false, false, false, false, false, false, false, false, false] rfl rfl (by kernel_rfl) (fun _ _ _ h => h) (Or.inl ⟨by rfl, ?_⟩) ?_ ?_
  rotate_left
  · intro w'; go_simp; with_reducible rfl
  rotate_left
  · go_simp; rfl
  refine pure_ (i := 1) (N := some 37) (v := ?_) (a' := ?_) #[true, true, false, false, false, false, false, false, false, false, false, false, false, false, false, false, false, false, false] rfl rfl (by kernel_rfl) (fun _ _ _ h => h) (Or.inl ⟨by rfl, ?_⟩) ?_ ?_
  rotate_left
  · intro w'; go_simp; with_reducible rfl
  rotate_left
  · go_simp; rfl
  refine pure_ (i := 2) (N := some 38) (v := ?_) (a' := ?_) #[true, true, true, false, false, false, false, false, false, false, false, false, false, false, false, false, false, false, false] rfl rfl (by kernel_rfl) (fun _ _ _ h => h) (Or.inl ⟨by rfl, ?_⟩) ?_ ?_
  rotate_left
  · intro w'; go_simp; with_reducible rfl
  rotate_left
  · go_simp; rfl
  refine pure_ (i := 3) (N := some 39) (v := ?_) (a' := ?_) #[true, true, true, true, false, false, false, false, false, false, false, false, false, false, false, false, false, false, false] rfl rfl (by kernel_rfl) (fun _ _ _ h => h) (Or.inl ⟨by rfl, ?_⟩) ?_ ?_
  rotate_left
  · intro w'; go_simp; with_reducible rfl
  rotate_left
  · go_simp; rfl
  refine take_ (i := 4) (N := some 40) (v := ?_) (a' := ?_) #[true, true, true, true, true, false, false, false, false, false, false, false, false, false, false, false, false, false, false] rfl rfl (by kernel_rfl) (fun _ _ _ h => h) (Or.inl ⟨by rfl, ?_⟩) hHeld ?_ ?_
  rotate_left
  · rintro w' ⟨s0, s1, s2, s3⟩; go_simp; with_reducible rfl
  rotate_left
  · go_simp; rfl
  refine pure_ (i := 5) (N := some 41) (v := ?_) (a' := ?_) #[true, true, true, true, true, true, false, false, false, false, false, false, false, false, false, false, false, false, false] rfl rfl (by kernel_rfl) (fun _ _ _ h => h) (Or.inl ⟨by rfl, ?_⟩) ?_ ?_
  rotate_left
  · intro w'; go_simp; with_reducible rfl
  rotate_left
  · go_simp; rfl
  refine take_ (i := 6) (N := some 42) (v := ?_) (a' := ?_) #[true, true, true, true, true, true, true, false, false, false, false, false, false, false, false, false, false, false, false] rfl rfl (by kernel_rfl) (fun _ _ _ h => h) (Or.inl ⟨by rfl, ?_⟩) hHeld ?_ ?_
  rotate_left
  · rintro w' ⟨s0, s1, s2, s3⟩; go_simp; with_reducible rfl
  rotate_left
  · go_simp; rfl
  refine pure_ (i := 7) (N := some 43) (v := ?_) (a' := ?_) #[true, true, true, true, true, true, true, true, false, false, false, false, false, false, false, false, false, false, false] rfl rfl (by kernel_rfl) (fun _ _ _ h => h) (Or.inl ⟨by rfl, ?_⟩) ?_ ?_
  rotate_left
  · intro w'; go_simp; with_reducible rfl
  rotate_left
  · go_simp; rfl
  refine take_ (i := 8) (N := some 44) (v := ?_) (a' := ?_) #[true, true, true, true, true, true, true, true, true, false, false, false, false, false, false, false, false, false, false] rfl rfl (by kernel_rfl) (fun _ _ _ h => h) (Or.inl ⟨by rfl, ?_⟩) hHeld ?_ ?_
  rotate_left
  · rintro w' ⟨s0, s1, s2, s3⟩; go_simp; with_reducible rfl
  rotate_left
  · go_simp; rfl
  refine pure_ (i := 9) (N := some 45) (v := ?_) (a' := ?_) #[true, true, true, true, true, true, true, true, true, true, false, false, false, false, false, false, false, false, false] rfl rfl (by kernel_rfl) (fun _ _ _ h => h) (Or.inl ⟨by rfl, ?_⟩) ?_ ?_
  rotate_left
  · intro w'; go_simp; with_reducible rfl
  rotate_left
  · go_simp; rfl
  refine take_ (i := 10) (N := some 46) (v := ?_) (a' := ?_) #[true, true, true, true, true, true, true, true, true, true, true, false, false, false, false, false, false, false, false] rfl rfl (by kernel_rfl) (fun _ _ _ h => h) (Or.inl ⟨by rfl, ?_⟩) hHeld ?_ ?_
  rotate_left
  · rintro w' ⟨s0, s1, s2, s3⟩; go_simp; with_reducible rfl
  rotate_left
  · go_simp; rfl
  refine pure_ (i := 11) (N := some 47) (v := ?_) (a' := ?_) #[true, true, true, true, true, true, true, true, true, true, true, true, false, false, false, false, false, false, false] rfl rfl (by kernel_rfl) (fun _ _ _ h => h) (Or.inl ⟨by rfl, ?_⟩) ?_ ?_
  rotate_left
  · intro w'; go_simp; with_reducible rfl
  rotate_left
  · go_simp; rfl
  refine pure_ (i := 12) (N := some 48) (v := ?_) (a' := ?_) #[true, true, true, true, true, true, true, true, true, true, true, true, true, false, false, false, false, false, false] rfl rfl (by kernel_rfl) (fun _ _ _ h => h) (Or.inl ⟨by rfl, ?_⟩) ?_ ?_
  rotate_left
  · intro w'; go_simp; with_reducible rfl
  rotate_left
  · go_simp; rfl
  refine pure_ (i := 13) (N := some 49) (v := ?_) (a' := ?_) #[true, true, true, true, true, true, true, true, true, true, true, true, true, true, false, false, false, false, false] rfl rfl (by kernel_rfl) (fun _ _ _ h => h) (Or.inl ⟨by rfl, ?_⟩) ?_ ?_
  rotate_left
  · intro w'; go_simp; with_reducible rfl
  rotate_left
  · go_simp; rfl
  refine one_ (i := 14) (N := some 50) #[true, true, true, true, true, true, true, true, true, true, true, true, true, true, true, false, false, false, false] rfl rfl (by kernel_rfl) (by decide) (fun K hK => ?_)
  go_simp
  refine hK.out _ _ ⟨by go_simp, by go_simp, by go_simp, by go_simp⟩ (fun hHeld => ?_)
  clear hK K
  refine one_ (i := 15) (N := some 51) #[true, true, true, true, true, true, true, true, true, true, true, true, true, true, true, true, false, false, false] rfl rfl (by kernel_rfl) (by decide) (fun K hK => ?_)
  refine step_append_lies _ (by rfl) _ _ _ (by rfl) base 48 i0 _ 6 48 Try.underlying103 hi0 hz0 hz1 hz2 rfl (by omega) (.slice A m c) m xs (by rfl) (World.ownsRow.alloc (World.ownsRow.alloc HU.out _) _) ⟨w.heap.size + 1, 0, none⟩ 1 1 [.int .i64 k, .int .i64 i, .bool true, .int .i64 t0, .int .i64 (s + t + t * r / 1000000), .int .i64 (s + t + t * r / 1000000)] (by rfl) (by rfl) (World.news_of_block (cs := #[.int .i64 k, .int .i64 i, .bool true, .int .i64 t0, .int .i64 (s + t + t * r / 1000000), .int .i64 (s + t + t * r / 1000000)]) (t := 48) (fr := (0, 0)) (heap_alloc_at _ _ (by simp))) (by simp [Value.oneCell']) (by omega) (by unfold maxLen; omega) (by omega) (by simp; omega) (w.heap.size + 2) (by simp) ?_
  intro gg cap w1 hown1 hgrow hat hlt
  have f0 : w1.cell? ⟨wb, 3, none⟩ = some (.slice A m c) := (hgrow.cell_far ⟨wb, 3, none⟩ (by go_size) (Ne.symm A1.out)).trans (by go_simp)
  have f1 : w1.cell? ⟨w.heap.size, 0, none⟩ = some (.int .i64 i) := (hgrow.cell_far ⟨w.heap.size, 0, none⟩ (by go_size) (Ne.symm A4.out)).trans (by go_simp)
  have f2 : w1.cell? ⟨w.heap.size, 1, none⟩ = some (.int .i64 k) := (hgrow.cell_far ⟨w.heap.size, 1, none⟩ (by go_size) (Ne.symm A4.out)).trans (by go_simp)
  have f3 : w1.cell? ⟨w.heap.size, 5, none⟩ = some (.int .i64 t0) := (hgrow.cell_far ⟨w.heap.size, 5, none⟩ (by go_size) (Ne.symm A4.out)).trans (by go_simp)
  have f9 : w1.frozen? ⟨wb, 3, none⟩ = false := (hgrow.frozen_far ⟨wb, 3, none⟩ (by go_size) (Ne.symm A1.out)).trans (by go_simp)
  have HB : Hid (Blk w1 wb #[.slice (some ⟨sb, 0, none⟩) n cs, .slice (some ⟨rb, 0, none⟩) n cr, .int .i64 t, .slice A m c] 105) := Blk.grown (Blk.alloc (Blk.drewN (Blk.alloc HW.out _) _) _) hgrow (Ne.symm A1.out)
  have HO := Lib.hid hown1
  have HK : Hid (Keep (fun k => k = wb ∨ (Value.slice A m c).ownBlock = some k) w w1) := Keep.grown ((((Keep.refl _ w).alloc _).drewN _).alloc _) hgrow (fun k hk => .inl (.inr hk))
  have HT : Hid ((Value.slice A m c).ownBlock = some gg ∨ w.heap.size ≤ gg) := by rcases hat with h | h; exact .inl h; exact .inr (by omega)
  clear hown1 hgrow hat
  refine hK.out _ _ ⟨f0, f1, f2, f3⟩ (fun hHeld => ?_)
  clear hK K
  refine norm_ (a' := ?_) ?_ ?_
  rotate_left
  · go_simp; rfl
  refine pure_ (i := 16) (N := some 52) (v := ?_) (a' := ?_) #[true, true, true, true, true, true, true, true, true, true, true, true, true, true, true, true, true, false, false] rfl rfl (by kernel_rfl) (fun _ _ _ h => h) (Or.inl ⟨by rfl, ?_⟩) ?_ ?_
  rotate_left
  · intro w'; go_simp; with_reducible rfl
  rotate_left
  · go_simp; rfl
  refine pure_ (i := 17) (N := some 53) (v := ?_) (a' := ?_) #[true, true, true, true, true, true, true, true, true, true, true, true, true, true, true, true, true, true, false] rfl rfl (by kernel_rfl) (fun _ _ _ h => h) (Or.inl ⟨by rfl, ?_⟩) ?_ ?_
  rotate_left
  · intro w'; go_simp; with_reducible rfl
  rotate_left
  · go_simp; rfl
  refine last_ (i := 18) (N := none) #[true, true, true, true, true, true, true, true, true, true, true, true, true, true, true, true, true, true, true] rfl rfl (by kernel_rfl) (by decide) (fun K hK => ?_)
  go_simp
  refine hK.out _ _ ?_
  clear hK K
  refine done_ (by kernel_rfl) ?_
  go_wp2
  go_returns
  refine ⟨rfl, gg, cap, HB.out.set 3 _, ?_, HK.out.setCell (.inl (.inl rfl)) _, HT.out⟩
  exact ownsRow_setCell_other HO.out (by
    intro h
    simp only [Value.ownBlock, Option.some.injEq] at h
    subst h
    exact ownsRow_ne HO.out HB.out (by decide) rfl) _

theorem Below.toAlloc {w : World} (o : Obj) : Below w.heap.size w (w.alloc o) := (Below.refl _ _).alloc (Nat.le_refl _) _

set_option maxRecDepth 100000 in
set_option maxHeartbeats 1000000 in
theorem answer_full (wb n cs i k m : Nat) (A1 A : Option Addr) (c : Nat) (v1 v2 : Value) (t0 : Int) (w : World)
    (hw : Blk w wb #[.slice A1 n cs, v1, v2, .slice A m c] 105) (hi : i < n) (hk : k < n) (hm : 40 ≤ m) (hm2 : m ≤ 1000) :
    Calls Try.prog 27 #[.pointer (some ⟨wb, 0, none⟩), .agg #[.int .i64 i, .int .i64 k, .bool false, .int .i64 0, .int .i64 0, .int .i64 t0]] w fun e w' => e = .returned (errV 4) ∧ Below w.heap.size w w' := by
  have h0 := hw.at 0
  have h3 := hw.at 3
  simp only [List.getElem?_toArray, List.getElem?_cons_zero, List.getElem?_cons_succ] at h0 h3
  have l1 := World.block_lt_of_cell? w _ h0
  have q1 : nodeB n i = true := by simp [nodeB]; omega
  have q2 : nodeB n k = true := by simp [nodeB]; omega
  have Q1 := Lib.hid q1
  have Q2 := Lib.hid q2
  clear q1 q2 hw
  go_enter Try.func27, Try.ntmps27
  go_wp2_with fail
  refine (has_any wb n cs A1 i _ (by go_simp)).mono ?_
  rintro e w' ⟨rfl, rfl⟩
  rw [Q1.out]
  go_wp2_with fail
  refine (has_any wb n cs A1 k _ (by go_simp)).mono ?_
  rintro e w' ⟨rfl, rfl⟩
  rw [Q2.out]
  go_wp2
  go_returns
  exact ⟨rfl, Below.toAlloc _⟩

theorem Read_ok (wb sb rb n cs cr i : Nat) (s t r : Int) (w : World)
    (h0 : w.cell? ⟨wb, 0, none⟩ = some (.slice (some ⟨sb, 0, none⟩) n cs)) (h1 : w.cell? ⟨wb, 1, none⟩ = some (.slice (some ⟨rb, 0, none⟩) n cr)) (h2 : w.cell? ⟨wb, 2, none⟩ = some (.int .i64 t))
    (hs : w.cell? ⟨sb, i, none⟩ = some (.int .i64 s)) (hr : w.cell? ⟨rb, i, none⟩ = some (.int .i64 r)) (hi : i < n)
    (b1 : 0 ≤ t) (b2 : t ≤ 1000000000) (b3 : -1000 ≤ r) (b4 : r ≤ 1000) (b5 : 0 ≤ s) (b6 : s ≤ 1000000) :
    Calls Try.prog 25 #[.pointer (some ⟨wb, 0, none⟩), .int .i64 i] w fun e w' => e = .returned (.tuple #[.int .i64 (s + t + t * r / 1000000), .nilIface]) ∧ ∃ q, w' = w.drewN q := by
  have q1 : nodeB n i = true := by simp [nodeB]; omega
  have Q1 := Lib.hid q1
  clear q1
  go_enter Try.func25, Try.ntmps25
  go_wp2_with fail
  refine (has_any wb n cs (some ⟨sb, 0, none⟩) i _ (by go_simp)).mono ?_
  rintro e w' ⟨rfl, rfl⟩
  rw [Q1.out]
  go_wp2_with fail
  refine (read_any wb sb rb n cs cr i s t r _ (by go_simp) (by go_simp) (by go_simp) (by go_simp) (by go_simp) hi b1 b2 b3 b4 b5 b6).mono ?_
  rintro e w' ⟨rfl, q, rfl⟩
  go_wp2
  go_returns
  exact ⟨rfl, q, rfl⟩
theorem Read_no (wb n cs : Nat) (A : Option Addr) (i : Int) (w : World) (h0 : w.cell? ⟨wb, 0, none⟩ = some (.slice A n cs)) (hi : i < 0 ∨ (n : Int) ≤ i) :
    Calls Try.prog 25 #[.pointer (some ⟨wb, 0, none⟩), .int .i64 i] w fun e w' => e = .returned (.tuple #[.int .i64 0, errV 1]) ∧ w = w' := by
  have q1 : nodeB n i = false := by simp [nodeB]; omega
  have Q1 := Lib.hid q1
  clear q1
  go_enter Try.func25, Try.ntmps25
  go_wp2_with fail
  refine (has_any wb n cs A i _ (by go_simp)).mono ?_
  rintro e w' ⟨rfl, rfl⟩
  rw [Q1.out]
  go_wp2
  go_returns
  exact ⟨rfl, rfl⟩
end Go.Proofs.Ytjohngeaifgcgaa

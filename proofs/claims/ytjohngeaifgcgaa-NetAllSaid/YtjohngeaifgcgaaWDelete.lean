/- slices.Delete of one letter out of a row of letters that the call owns. -/
import Derived.Test.YtjohngeaifgcgaaWWorld
import Derived.Laws.CopyRow
namespace Go.Proofs.Ytjohngeaifgcgaa
open Go.RowKit
open Go.Proofs.YtjohngeaifgcgaaW.PrintLast

theorem ownsRow_cut {w : World} {base e g n c : Nat} {size : Nat} {xs : List Value} (h : w.ownsRow base e size (.slice (some ⟨g, 0, none⟩) n c) n xs) {k : Nat} (hk : k ≤ n) :
    w.ownsRow base e size (.slice (some ⟨g, 0, none⟩) k c) k (xs.take (k * size)) := by
  have hle : k * size ≤ n * size := Nat.mul_le_mul_right _ hk
  rcases h.2 with ⟨h0, _⟩ | ⟨g', cap, cur, hv, hb, hh, hn, hm, hs, ht⟩
  · cases h0
  · simp only [Value.slice.injEq, Option.some.injEq, Addr.mk.injEq, and_true, true_and] at hv
    obtain ⟨rfl, rfl⟩ := hv
    refine ⟨by rw [List.length_take, h.1]; omega, .inr ⟨g, c, cur, rfl, hb, hh, by omega, hm, hs, ?_⟩⟩
    rw [← ht, List.take_take, Nat.min_eq_left hle]

theorem ownsRow_cap {w : World} {base e g n c : Nat} {size : Nat} {xs : List Value} (h : w.ownsRow base e size (.slice (some ⟨g, 0, none⟩) n c) n xs) : n ≤ c ∧ c ≤ maxLen := by
  rcases h.2 with ⟨h0, _⟩ | ⟨g', cap, cur, hv, hb, hh, hn, hm, hs, ht⟩
  · cases h0
  · simp only [Value.slice.injEq, Option.some.injEq, Addr.mk.injEq, and_true, true_and] at hv
    obtain ⟨rfl, rfl⟩ := hv
    exact ⟨hn, hm⟩

/-- zeros stored behind what a row has -/
theorem clear_tail {w : World} {base g n c k : Nat} {xs zs : List Value} {e : TypeId} {size : Nat} (h : w.ownsRow base e size (.slice (some ⟨g, 0, none⟩) n c) n xs) (hz : zs.length = k * size) (hk : n + k ≤ c) (h1 : ∀ v ∈ zs, v.oneCell' = true) (P : Program) :
    ∃ w', (storeCells ⟨g, n * size, none⟩ zs).run P w = .ok () w' ∧ w'.ownsRow base e size (.slice (some ⟨g, 0, none⟩) n c) n xs ∧ Keep (fun k => k = g) w w' := by
  rcases h.2 with ⟨h0, _⟩ | ⟨g', cap, cur, hv, hb, hh, hn, hm, hs, ht⟩
  · cases h0
  · simp only [Value.slice.injEq, Option.some.injEq, Addr.mk.injEq, and_true, true_and] at hv
    obtain ⟨rfl, rfl⟩ := hv
    have hle : (n + k) * size ≤ c * size := Nat.mul_le_mul_right _ hk
    rw [Nat.add_mul] at hle
    have hr := run_storeCells_at P g (n * size) e zs 0 cur w hh (by omega) h1
    simp only [Nat.add_zero] at hr
    refine ⟨_, hr, ⟨h.1, .inr ⟨g, c, _, rfl, hb, setRow_heap w g cur _ e _ hh, hn, hm, ?_, ?_⟩⟩, ⟨rfl, rfl, rfl, by simp, fun j _ hj => setRow_other w g j _ hj⟩⟩
    · simp only [List.size_toArray, List.length_append, List.length_take, List.length_drop, Array.length_toList]
      omega
    · rw [← ht]
      simp only [List.append_assoc]
      rw [List.take_append_of_le_length (by simp; omega), List.take_take, Nat.min_self]

theorem step_append_fits {P : Program} (w : World) {ops : Array Oper} {o : Oper} {a : Act} {K : Act → World → Prop} {Q : Exit → Act → World → Prop} {E : Prop} (hg : o.guard = none) (s x : Operand) (t : TypeId)
    (hop : o.op = Op.call { callee := Callee.builtin Builtin.append, args := #[s, x], argTypes := #[t, t] })
    (base : Nat) (e : TypeId) (i : TypeInfo) (size : Nat) (h1 : P.underlying t = some (.slice e)) (h2 : P.info? e = some i) (h4 : i.size = size)
    (g k cap : Nat) (xs : List Value) (hs : a.eval s = .slice (some ⟨g, 0, none⟩) k cap) (hown : w.ownsRow base e size (.slice (some ⟨g, 0, none⟩) k cap) k xs) (ad : Addr) (m c : Nat) (news : List Value) (hx : a.eval x = .slice (some ad) m c) (hn : news.length = m * size)
    (hc : ∀ j u, news[j]? = some u → w.cell? (ad.add j) = some u) (h1c : ∀ u ∈ news, u.oneCell' = true) (b1 : k + m ≤ cap)
    (hK : ∀ w', w'.ownsRow base e size (.slice (some ⟨g, 0, none⟩) (k + m) cap) (k + m) (xs ++ news) → w.grownBy w' (some g) → K (a.put o.dst (.slice (some ⟨g, 0, none⟩) (k + m) cap)) w') :
    if Region.wanted o (yielded ops a.tmps) = true then Oper.wp P o a w K Q else E := by
  have hw : Region.wanted o (yielded ops a.tmps) = true := by simp [Region.wanted, hg]
  rw [if_pos hw]
  obtain ⟨w', hrun, r1, r2⟩ := run_append_fits (P := P) w base t o.type e i size h1 h2 h4 g k cap xs hown ad m c news hn hc h1c b1
  unfold Oper.wp
  simp [execOp, hop, resolve, invoke, builtin, hs, hx, hrun, Result.andThen]
  exact hK w' r1 r2

theorem zeros_letter : (Builtin.zeroCells #[.int .i64 0, .int .i64 0, .bool false, .int .i64 0, .int .i64 0, .int .i64 0] 1).toList = [.int .i64 0, .int .i64 0, .bool false, .int .i64 0, .int .i64 0, .int .i64 0] := by kernel_rfl

theorem run_clear (P : Program) (w w' : World) (t e ty : TypeId) (i : TypeInfo) (z : Array Value) (n c : Nat) (ad : Addr) (ht : P.underlying t = some (.slice e)) (hi : P.info? e = some i) (hz : i.zero = some (.agg z)) (hn : n ≠ 0)
    (h : (storeCells ad (Builtin.zeroCells z n).toList).run P w = .ok () w') : (Builtin.clear_ #[t] ty #[.slice (some ad) n c]).run P w = .ok (.tuple #[]) w' := by
  obtain ⟨n, rfl⟩ : ∃ k, n = k + 1 := ⟨n - 1, by omega⟩
  simp [Builtin.clear_, run_underlying ht, zeroValue, typeInfo, hi, hz, Value.cells, h, Sem.run_bind, Result.andThen]

set_option maxRecDepth 100000 in
set_option maxHeartbeats 1000000 in
theorem delete_any (base g m c i : Nat) (xs : List Value) (w : World) (hu : w.ownsRow base 48 6 (.slice (some ⟨g, 0, none⟩) m c) m xs) (hi : i < m) (hm : m ≤ 100) (h1 : ∀ u ∈ xs, u.oneCell' = true) :
    Calls Try.prog 48 #[.slice (some ⟨g, 0, none⟩) m c, .int .i64 i, .int .i64 (i + 1 : Int)] w fun e w' => e = .returned (.slice (some ⟨g, 0, none⟩) (m - 1) c) ∧
      w'.ownsRow base 48 6 (.slice (some ⟨g, 0, none⟩) (m - 1) c) (m - 1) (xs.take (i * 6) ++ xs.drop ((i + 1) * 6)) ∧ Keep (fun k => k = g) w w' := by
  obtain ⟨i0, hi0, hz0, hz1, hz2⟩ := info_parts infoLetter
  obtain ⟨k1, k2⟩ := ownsRow_cap hu
  unfold maxLen at k2
  have hlen := hu.1
  have hc : ∀ j u, (xs.drop ((i + 1) * 6))[j]? = some u → w.cell? ((⟨g, (i + 1) * 6, none⟩ : Addr).add j) = some u := by
    intro j u hj
    rw [List.getElem?_drop] at hj
    have hlt := (List.getElem?_eq_some_iff.1 hj).1
    rw [Addr.add_lit, hu.cellAt _ (by omega), hj]
  have ho : ∀ u ∈ xs.drop ((i + 1) * 6), u.oneCell' = true := fun u hu => h1 u (List.mem_of_mem_drop hu)
  have HC := Lib.hid hc
  have HO := Lib.hid ho
  have HL := Lib.hid hlen
  have HU := Lib.hid hu
  clear hu h1 hc ho hlen
  have e1 : ((i : Int) == (i : Int) + 1) = false := by simp; omega
  have hzl : Builtin.zeroCells #[.int .i64 0, .int .i64 0, .bool false, .int .i64 0, .int .i64 0, .int .i64 0] 1 = #[.int .i64 0, .int .i64 0, .bool false, .int .i64 0, .int .i64 0, .int .i64 0] := by kernel_rfl
  by_cases hcap : i + 1 = c
  · have b1 : i ≤ c := by omega
    have b2 : i + 1 ≤ m := by omega
    have b3 : (c = i + 1) = True := by simp; omega
    have hcap' := Lib.hid hcap
    clear hcap
    have b5 : (0 : Int) ≤ (i : Int) + 1 := by omega
    have b6 : (i : Int) + 1 ≤ (m : Int) := by omega
    have b4 : ((i : Int) + 1).toNat = i + 1 := by omega
    go_enter Try.func48, Try.ntmps48
    go_wp2_with fail
    refine start_ (n := 8) (S := fun _ => True) (ds := []) #[false, false, false, false, false, false, false, false] (by kernel_rfl) rfl rfl (trivial) (fun hHeld => ?_)
    refine pure_ (i := 0) (N := some 20) (v := ?_) (a' := ?_) #[true, false, false, false, false, false, false, false] rfl rfl (by kernel_rfl) (fun _ _ _ h => h) (Or.inl ⟨by rfl, ?_⟩) ?_ ?_
    rotate_left
    · intro w'; go_simp; with_reducible rfl
    rotate_left
    · go_simp; rfl
    refine pure_ (i := 1) (N := some 21) (v := ?_) (a' := ?_) #[true, true, false, false, false, false, false, false] rfl rfl (by kernel_rfl) (fun _ _ _ h => h) (Or.inl ⟨by rfl, ?_⟩) ?_ ?_
    rotate_left
    · intro w'; go_simp; with_reducible rfl
    rotate_left
    · go_simp; rfl
    refine pure_ (i := 2) (N := some 22) (v := ?_) (a' := ?_) #[true, true, true, false, false, false, false, false] rfl rfl (by kernel_rfl) (fun _ _ _ h => h) (Or.inl ⟨by rfl, ?_⟩) ?_ ?_
    rotate_left
    · intro w'; go_simp; with_reducible rfl
    rotate_left
    · go_simp; rfl
    refine pure_ (i := 3) (N := some 23) (v := ?_) (a' := ?_) #[true, true, true, true, false, false, false, false] rfl rfl (by kernel_rfl) (fun _ _ _ h => h) (Or.inl ⟨by rfl, ?_⟩) ?_ ?_
    rotate_left
    · intro w'; go_simp; with_reducible rfl
    rotate_left
    · go_simp; rfl
    refine pure_ (i := 4) (N := some 24) (v := ?_) (a' := ?_) #[true, true, true, true, true, false, false, false] rfl rfl (by kernel_rfl) (fun _ _ _ h => h) (Or.inl ⟨by rfl, ?_⟩) ?_ ?_
    rotate_left
    · intro w'; go_simp; with_reducible rfl
    rotate_left
    · go_simp; rfl
    refine pure_ (i := 5) (N := some 25) (v := ?_) (a' := ?_) #[true, true, true, true, true, true, false, false] rfl rfl (by kernel_rfl) (fun _ _ _ h => h) (Or.inl ⟨by rfl, ?_⟩) ?_ ?_
    rotate_left
    · intro w'; go_simp; with_reducible rfl
    rotate_left
    · go_simp; rfl
    refine one_ (i := 6) (N := some 26) #[true, true, true, true, true, true, true, false] rfl rfl (by kernel_rfl) (by decide) (fun K hK => ?_)
    refine step_append_fits _ (by rfl) _ _ _ (by rfl) base 48 i0 6 Try.underlying103 hi0 hz1 g i c (xs.take (i * 6)) (by rfl) (ownsRow_cut HU.out (by omega)) ⟨g, 0, none⟩ (m - (i + 1)) (c - (i + 1)) (xs.drop ((i + 1) * 6)) (by rfl) (by have := hcap'.out; rw [List.length_drop, HL.out]; omega) (by intro j u hj; have := hcap'.out; rw [List.drop_of_length_le (by rw [HL.out]; omega)] at hj; cases hj) HO.out (by omega) ?_
    intro w1 hown hgrow
    rw [show i + (m - (i + 1)) = m - 1 by omega] at hown
    obtain ⟨w2, hr, hown2, hk2⟩ := clear_tail hown (zs := [.int .i64 0, .int .i64 0, .bool false, .int .i64 0, .int .i64 0, .int .i64 0]) (k := 1) rfl (by omega) (by simp [Value.oneCell']) Try.prog
    have HX := Lib.hid hown2
    have HK : Hid (Keep (fun k => k = g) w w2) := (((Keep.refl _ w).drew).grown hgrow (fun k hk => .inl (by cases hk; rfl))).trans hk2 (fun _ _ h => h)
    have hrun := fun ty => run_clear Try.prog w1 w2 103 48 ty i0 _ (m - (m - 1)) (c - (m - 1)) ⟨g, (m - 1) * 6, none⟩ Try.underlying103 hi0 hz0 (by omega) (by rw [show m - (m - 1) = 1 by omega, hzl]; exact hr)
    clear hown hgrow hr hown2 hk2 hzl
    refine hK.out _ _ trivial (fun hHeld => ?_)
    rw [show i + (m - (i + 1)) = m - 1 by omega]
    clear hK K
    refine norm_ (a' := ?_) ?_ ?_
    rotate_left
    · go_simp; rfl
    refine pure_ (i := 7) (N := some 0) (v := ?_) (a' := ?_) #[true, true, true, true, true, true, true, true] rfl rfl (by kernel_rfl) (fun _ _ _ h => h) (Or.inl ⟨by rfl, ?_⟩) ?_ ?_
    rotate_left
    · intro w'; go_simp; with_reducible rfl
    rotate_left
    · go_simp; rfl
    refine done_ (by kernel_rfl) ?_
    go_wp2
    go_returns
    exact ⟨rfl, HX.out, HK.out⟩
  · have b1 : i ≤ c := by omega
    have b2 : i + 1 ≤ m := by omega
    have b3 : (c = i + 1) = False := by simp; omega
    have b5 : (0 : Int) ≤ (i : Int) + 1 := by omega
    have b6 : (i : Int) + 1 ≤ (m : Int) := by omega
    have b4 : ((i : Int) + 1).toNat = i + 1 := by omega
    go_enter Try.func48, Try.ntmps48
    go_wp2_with fail
    refine start_ (n := 8) (S := fun _ => True) (ds := []) #[false, false, false, false, false, false, false, false] (by kernel_rfl) rfl rfl (trivial) (fun hHeld => ?_)
    refine pure_ (i := 0) (N := some 20) (v := ?_) (a' := ?_) #[true, false, false, false, false, false, false, false] rfl rfl (by kernel_rfl) (fun _ _ _ h => h) (Or.inl ⟨by rfl, ?_⟩) ?_ ?_
    rotate_left
    · intro w'; go_simp; with_reducible rfl
    rotate_left
    · go_simp; rfl
    refine pure_ (i := 1) (N := some 21) (v := ?_) (a' := ?_) #[true, true, false, false, false, false, false, false] rfl rfl (by kernel_rfl) (fun _ _ _ h => h) (Or.inl ⟨by rfl, ?_⟩) ?_ ?_
    rotate_left
    · intro w'; go_simp; with_reducible rfl
    rotate_left
    · go_simp; rfl
    refine pure_ (i := 2) (N := some 22) (v := ?_) (a' := ?_) #[true, true, true, false, false, false, false, false] rfl rfl (by kernel_rfl) (fun _ _ _ h => h) (Or.inl ⟨by rfl, ?_⟩) ?_ ?_
    rotate_left
    · intro w'; go_simp; with_reducible rfl
    rotate_left
    · go_simp; rfl
    refine pure_ (i := 3) (N := some 23) (v := ?_) (a' := ?_) #[true, true, true, true, false, false, false, false] rfl rfl (by kernel_rfl) (fun _ _ _ h => h) (Or.inl ⟨by rfl, ?_⟩) ?_ ?_
    rotate_left
    · intro w'; go_simp; with_reducible rfl
    rotate_left
    · go_simp; rfl
    refine pure_ (i := 4) (N := some 24) (v := ?_) (a' := ?_) #[true, true, true, true, true, false, false, false] rfl rfl (by kernel_rfl) (fun _ _ _ h => h) (Or.inl ⟨by rfl, ?_⟩) ?_ ?_
    rotate_left
    · intro w'; go_simp; with_reducible rfl
    rotate_left
    · go_simp; rfl
    refine pure_ (i := 5) (N := some 25) (v := ?_) (a' := ?_) #[true, true, true, true, true, true, false, false] rfl rfl (by kernel_rfl) (fun _ _ _ h => h) (Or.inl ⟨by rfl, ?_⟩) ?_ ?_
    rotate_left
    · intro w'; go_simp; with_reducible rfl
    rotate_left
    · go_simp; rfl
    refine one_ (i := 6) (N := some 26) #[true, true, true, true, true, true, true, false] rfl rfl (by kernel_rfl) (by decide) (fun K hK => ?_)
    refine step_append_fits _ (by rfl) _ _ _ (by rfl) base 48 i0 6 Try.underlying103 hi0 hz1 g i c (xs.take (i * 6)) (by rfl) (ownsRow_cut HU.out (by omega)) ⟨g, (i + 1) * 6, none⟩ (m - (i + 1)) (c - (i + 1)) (xs.drop ((i + 1) * 6)) (by rfl) (by rw [List.length_drop, HL.out]; omega) HC.out HO.out (by omega) ?_
    intro w1 hown hgrow
    rw [show i + (m - (i + 1)) = m - 1 by omega] at hown
    obtain ⟨w2, hr, hown2, hk2⟩ := clear_tail hown (zs := [.int .i64 0, .int .i64 0, .bool false, .int .i64 0, .int .i64 0, .int .i64 0]) (k := 1) rfl (by omega) (by simp [Value.oneCell']) Try.prog
    have HX := Lib.hid hown2
    have HK : Hid (Keep (fun k => k = g) w w2) := (((Keep.refl _ w).drew).grown hgrow (fun k hk => .inl (by cases hk; rfl))).trans hk2 (fun _ _ h => h)
    have hrun := fun ty => run_clear Try.prog w1 w2 103 48 ty i0 _ (m - (m - 1)) (c - (m - 1)) ⟨g, (m - 1) * 6, none⟩ Try.underlying103 hi0 hz0 (by omega) (by rw [show m - (m - 1) = 1 by omega, hzl]; exact hr)
    clear hown hgrow hr hown2 hk2 hzl
    refine hK.out _ _ trivial (fun hHeld => ?_)
    rw [show i + (m - (i + 1)) = m - 1 by omega]
    clear hK K
    refine norm_ (a' := ?_) ?_ ?_
    rotate_left
    · go_simp; rfl
    refine pure_ (i := 7) (N := some 0) (v := ?_) (a' := ?_) #[true, true, true, true, true, true, true, true] rfl rfl (by kernel_rfl) (fun _ _ _ h => h) (Or.inl ⟨by rfl, ?_⟩) ?_ ?_
    rotate_left
    · intro w'; go_simp; with_reducible rfl
    rotate_left
    · go_simp; rfl
    refine done_ (by kernel_rfl) ?_
    go_wp2
    go_returns
    exact ⟨rfl, HX.out, HK.out⟩
end Go.Proofs.Ytjohngeaifgcgaa

/- noonlaw4.NetAll: one node asks all others: it answers true. -/
import Derived.Test.YtjohngeaifgcgaaWNetWide
import Derived.Test.YtjohngeaifgcgaaWNetNew
import Derived.Test.YtjohngeaifgcgaaPNetAll
namespace Noon
theorem pairW_ge {s : St} (h : Good s) {i k : Nat} (hi : i < s.n) (hk : k < s.n) : 0 ≤ pairW (closedM s.n s.edges) i k := by
  unfold pairW
  split
  · rename_i q
    have := h.in_closed hi hk q
    omega
  · exact Int.le_refl _
theorem rowW_ge {s : St} (h : Good s) {i : Nat} (hi : i < s.n) : ∀ c, i + 1 + c ≤ s.n → 0 ≤ rowW (closedM s.n s.edges) i c := by
  intro c
  induction c with
  | zero => intro _; exact Int.le_refl _
  | succ c ih =>
    intro hc
    have a := ih (by omega)
    have b := pairW_ge h (i := i) (k := i + 1 + c) hi (by omega)
    unfold rowW
    omega
theorem totW_ge {s : St} (h : Good s) : ∀ i, i ≤ s.n → 0 ≤ totW (closedM s.n s.edges) s.n i ∧ (1 ≤ i → rowW (closedM s.n s.edges) 0 (s.n - 1) ≤ totW (closedM s.n s.edges) s.n i) := by
  intro i
  induction i with
  | zero => intro _; exact ⟨Int.le_refl _, fun h => absurd h (by omega)⟩
  | succ i ih =>
    intro hi
    have a := ih (by omega)
    have b := rowW_ge h (i := i) (by omega) (s.n - (i + 1)) (by omega)
    unfold totW
    refine ⟨by omega, fun _ => ?_⟩
    by_cases e : i = 0
    · subst e; have : totW (closedM s.n s.edges) s.n 0 = 0 := rfl; rw [this]; simp
    · have := a.2 (by omega); omega
theorem rowW_first {s : St} (h : Good s) : ∀ c, 1 ≤ c → 1 + c ≤ s.n → pairW (closedM s.n s.edges) 0 1 ≤ rowW (closedM s.n s.edges) 0 c := by
  intro c
  induction c with
  | zero => intro h; omega
  | succ c ih =>
    intro _ hc
    have b := pairW_ge h (i := 0) (k := 0 + 1 + c) (by omega) (by omega)
    unfold rowW
    by_cases e : c = 0
    · subst e; have : rowW (closedM s.n s.edges) 0 0 = 0 := rfl; rw [this]; simp
    · have := ih (by omega) (by omega); omega
theorem Asked.total {s : St} (h : Asked s (s.n - 1)) (hn : 2 ≤ s.n) : 0 < totW (closedM s.n s.edges) s.n s.n := by
  have a := (totW_ge h.good s.n (Nat.le_refl _)).2 (by omega)
  have b := rowW_first h.good (s.n - 1) (by omega) (by omega)
  have c := h.wide hn
  have d := h.all (a := 0) (b := 1) (by omega) (by omega)
  have e : pairW (closedM s.n s.edges) 0 1 = closedM s.n s.edges 0 1 + closedM s.n s.edges 1 0 := by unfold pairW; rw [if_pos d]
  omega

theorem Asked.five {s : St} {i : Nat} {d : Int} (h : Asked s (i - 1)) (h1 : 1 ≤ i) (hi : i < s.n) (d0 : 0 ≤ d) (d1 : d ≤ 1000) (ht : s.time + 2 * d ≤ 1000000000) :
    ∃ s1 s2 s3 s4 s5, s.does 2 0 i = (s1, 0) ∧ s1.does 1 d 0 = (s2, 0) ∧ s2.does 3 0 0 = (s3, 0) ∧ s3.does 1 d 0 = (s4, 0) ∧ s4.does 3 0 0 = (s5, 0) ∧ Good s1 ∧ Good s2 ∧ Good s3 ∧ Good s4 ∧ Asked s5 i ∧ s5.n = s.n ∧ s5.time = s.time + 2 * d := by
  have r := h.round h1 hi d0 d1 ht
  have g1 := h.good.does 2 0 i
  have g2 := Good.does g1 1 d 0
  have g3 := Good.does g2 3 0 0
  have g4 := Good.does g3 1 d 0
  exact ⟨_, _, _, _, _, Prod.ext rfl r.c1, Prod.ext rfl r.c2, Prod.ext rfl r.c3, Prod.ext rfl r.c4, Prod.ext rfl r.c5, g1, g2, g3, g4, r.asked, r.n, r.time⟩

def tens (n : Nat) : List Int := (List.range n).map fun j : Nat => 10 * (j : Int)
def fives (n : Nat) : List Int := (List.range n).map fun j : Nat => 5 * (j : Int)
theorem tens_get {n j : Nat} (h : j < n) : (tens n).getD j 0 = 10 * (j : Int) := by simp [tens, h]
theorem fives_get {n j : Nat} (h : j < n) : (fives n).getD j 0 = 5 * (j : Int) := by simp [fives, h]
theorem tens_len (n : Nat) : (tens n).length = n := by simp [tens]
theorem fives_len (n : Nat) : (fives n).length = n := by simp [fives]
theorem tens_succ (n : Nat) : tens (n + 1) = tens n ++ [10 * (n : Int)] := by simp [tens, List.range_succ]
theorem fives_succ (n : Nat) : fives (n + 1) = fives n ++ [5 * (n : Int)] := by simp [fives, List.range_succ]
end Noon
namespace Go.Proofs.Ytjohngeaifgcgaa
open Go.RowKit
open Noon (Kn Edg St)

/-- two lists of numbers, in rows of their own -/
structure TwoLists (B : Nat) (w : World) (u v : Value) (n : Nat) (xs ys : List Int) : Prop where
  o1 : w.ownsRow B 3 1 u n (xs.map (.int .i64))
  o2 : w.ownsRow B 3 1 v n (ys.map (.int .i64))
  ne : ∀ y, u.ownBlock = some y → v.ownBlock ≠ some y

theorem TwoLists.start (B : Nat) (w : World) : TwoLists B w (.slice none 0 0) (.slice none 0 0) 0 [] [] := ⟨World.ownsRow_nil _ _ _ _, World.ownsRow_nil _ _ _ _, fun _ hx => by simp [Value.ownBlock] at hx⟩

theorem grown_other {w w' : World} {row : Option Nat} (hg : w.grownBy w' row) {B e size : Nat} {v : Value} {n : Nat} {xs : List Value} (h : w.ownsRow B e size v n xs) (hne : ∀ x, v.ownBlock = some x → row ≠ some x) : w'.ownsRow B e size v n xs :=
  ownsRow_keep (S := fun k => row = some k) h (Keep.grown (Keep.refl _ w) hg (fun _ hx => .inl hx)) (fun k hk hr => hne k hk hr)

theorem NetAt.ge {w : World} {base : Nat} {m : NetMem} {s : St} (h : NetAt w base m s) : ∀ k, m.has s.n k → base ≤ k := by
  rintro k (rfl | rfl | rfl | rfl | hk | hk | ⟨j, hj, rfl⟩ | ⟨j, hj, rfl⟩)
  · exact h.gge
  · exact h.wat.wge
  · exact (h.wat.starts.lt _ rfl).1
  · exact (h.wat.rates.lt _ rfl).1
  · exact (h.wat.under.lt _ hk).1
  · exact (h.ptrs.lt _ hk).1
  · exact h.nat.nge j hj
  · exact h.nat.mge j hj

theorem TwoLists.next {B : Nat} {wr w3 w4 : World} {u v : Value} {k g' c' g'' c'' : Nat} {xs ys : List Int} {x y : Int} {o : Obj} (h : TwoLists B wr u v k xs ys) (h3 : w3.ownsRow B 3 1 (.slice (some ⟨g', 0, none⟩) (k + 1) c') (k + 1) (xs.map (.int .i64) ++ [.int .i64 x]))
    (ha : u.ownBlock = some g' ∨ g' = wr.heap.size + 1) (_hs : wr.heap.size + 1 ≤ w3.heap.size) (hl : g' < w3.heap.size) (hg : (w3.alloc o).grownBy w4 v.ownBlock) (h4 : w4.ownsRow B 3 1 (.slice (some ⟨g'', 0, none⟩) (k + 1) c'') (k + 1) (ys.map (.int .i64) ++ [.int .i64 y]))
    (hb : v.ownBlock = some g'' ∨ g'' = w3.heap.size + 1) : TwoLists B w4 (.slice (some ⟨g', 0, none⟩) (k + 1) c') (.slice (some ⟨g'', 0, none⟩) (k + 1) c'') (k + 1) (xs ++ [x]) (ys ++ [y]) := by
  have nv : v.ownBlock ≠ some g' := by
    rcases ha with e | e
    · exact h.ne g' e
    · intro hv; have := (h.o2.lt g' hv).2; omega
  refine ⟨?_, ?_, ?_⟩
  · rw [List.map_append]
    exact grown_other hg (World.ownsRow.alloc h3 o) (fun z hz => by simp only [Value.ownBlock, Option.some.injEq] at hz; subst hz; exact nv)
  · rw [List.map_append]; exact h4
  · intro z hz hz2
    simp only [Value.ownBlock, Option.some.injEq] at hz hz2
    subst hz
    rcases hb with e | e
    · exact nv (by rw [e, hz2])
    · omega

theorem ints_of_own {w : World} {B g c n : Nat} {xs : List Int} (h : w.ownsRow B 3 1 (.slice (some ⟨g, 0, none⟩) n c) n (xs.map (.int .i64))) : IntsAt w g 0 xs := by
  intro j hj
  have := World.ownsRow.cells h (g := g) rfl j (.int .i64 (xs.getD j 0)) (by simp [hj])
  rw [Nat.zero_add]
  rwa [addr_add] at this

/-- an act, as the law sees it -/
def Acted (w : World) (base G : Nat) (s' : St) (c : Nat) (e : Ending) (w' : World) : Prop :=
  e = .returned (errN c) ∧ ∃ m : NetMem, m.gb = G ∧ NetAt w' base m s' ∧ Below base w w'
theorem does_n (s : St) (what a b : Int) : (s.does what a b).1.n = s.n := by
  unfold St.does
  have hw : (s.wdo what a b).1.n = s.n := by
    unfold St.wdo
    split
    · split <;> rfl
    · split
      · split
        · rfl
        · split
          · rfl
          · split <;> rfl
      · split
        · split
          · rfl
          · show (if what = 5 then s else _ : St).n = s.n
            split <;> rfl
        · rfl
  cases (s.wdo what a b).2.2 with
  | none => exact hw
  | some l =>
    show ((s.wdo what a b).1.come l).1.n = s.n
    rw [← hw]
    unfold St.come
    by_cases q : l.an = true
    · simp only [q, if_true]; rfl
    · simp only [if_neg q]
      by_cases r : 40 ≤ ((s.wdo what a b).1.setNode l.k (((s.wdo what a b).1.nodes l.k).hear l ((s.wdo what a b).1.read l.k) (s.wdo what a b).1.ppm)).under.length
      · simp only [if_pos r]; rfl
      · simp only [if_neg r]; rfl
theorem netActed0 {w : World} {base G : Nat} {m : NetMem} {s : St} (what a b : Int) (hG : m.gb = G) (h : NetAt w base m s) (hg : Noon.Good s) (hb : base ≤ w.heap.size) :
    Calls Try.prog 8 #[.pointer (some ⟨G, 0, none⟩), .agg #[.int .i64 what, .int .i64 a, .int .i64 b]] w (Acted w base G (s.does what a b).1 (s.does what a b).2) := by
  subst hG
  refine (netDo what a b h hg hb).mono ?_
  rintro e w' ⟨rfl, uv, hn, hk, _⟩
  refine ⟨rfl, { m with uv := uv }, rfl, hn, hk.toBelow ?_ hb⟩
  intro k hk' hs
  rw [does_n] at hs
  have := h.ge k hs
  omega

theorem netActed {w : World} {base G : Nat} {m : NetMem} {s s' : St} {c : Nat} (what a b : Int) (hs : s.does what a b = (s', c)) (hG : m.gb = G) (h : NetAt w base m s) (hg : Noon.Good s) (hb : base ≤ w.heap.size) :
    Calls Try.prog 8 #[.pointer (some ⟨G, 0, none⟩), .agg #[.int .i64 what, .int .i64 a, .int .i64 b]] w (Acted w base G s' c) := by
  have := netActed0 what a b hG h hg hb
  rwa [hs] at this

set_option maxRecDepth 100000 in
set_option maxHeartbeats 8000000 in
theorem netAll_walk (n : Nat) (late : Int) (w : World) (h2 : 2 ≤ n) (h6 : n ≤ 6) (l0 : 0 ≤ late) (l1 : late ≤ 1000) :
    Calls Try.prog 4 #[.int .i64 n, .int .i64 late] w fun e w' => e = .returned (.bool true) ∧ Below w.heap.size w w' := by
  obtain ⟨i0, hi0, hz0, hz1, hz2⟩ := info_parts infoInt
  go_enter Try.func4, Try.ntmps4
  go_wp2_with fail
  go_loopg [5, 6, 7] n (fun gk s5 s6 s7 wr => ∃ k : Nat, k ≤ n ∧ gk = n - k ∧ s7 = .int .i64 k ∧ Hid (TwoLists w.heap.size wr s5 s6 k (Noon.tens k) (Noon.fives k)) ∧ Hid (Below w.heap.size w wr))
  case atStart => exact ⟨0, Nat.zero_le _, rfl, rfl, Lib.hid (TwoLists.start _ _), Lib.hid (Below.refl _ _)⟩
  case round =>
    obtain ⟨k, hk, hgk, rfl, HL, HB⟩ := hrel
    by_cases hkn : k < n
    · have hkz : (k : Int) < (n : Int) := by omega
      have hbs := HB.out.size
      obtain ⟨A, c, rfl⟩ := ownsRow_slice HL.out.o1
      obtain ⟨A2, c2, rfl⟩ := ownsRow_slice HL.out.o2
      have hw1 : IntKind.i64.wrap (10 * (k : Int)) = 10 * (k : Int) := IntWalk.i64_in _ (by omega)
      have hw2 : IntKind.i64.wrap (5 * (k : Int)) = 5 * (k : Int) := IntWalk.i64_in _ (by omega)
      go_wp2_with (first | (at_builtin; refine wpList_append_lies _ rfl (.tmp 35) (.tmp 38) 22 rfl w.heap.size 3 i0 (.int .i64 0) 1 8 Try.underlying22 hi0 hz0 hz1 hz2 rfl (by decide) _ k ((Noon.tens k).map (.int .i64)) rfl (World.ownsRow.alloc HL.out.o1 _) ⟨wr.heap.size, 0, none⟩ 1 1 [.int .i64 (10 * (k : Int))] rfl rfl (World.news_of_block (cs := #[.int .i64 (10 * (k : Int))]) (heap_alloc_new _ _)) (by simp [Value.oneCell']) (by omega) (by unfold maxLen; omega) (by omega) (by simp; omega) (wr.heap.size + 1) (by simp) ?_; intro g' c' w3 hown3 hgrow3 hat3 hlt3; have HO3 := Lib.hid hown3; have HG3 := Lib.hid hgrow3; have HAT3 := Lib.hid hat3; have HV3 : Hid (w3.ownsRow w.heap.size 3 1 (.slice A2 k c2) k ((Noon.fives k).map (.int .i64))) := Lib.hid (grown_other hgrow3 (World.ownsRow.alloc HL.out.o2 _) (fun x hx hr => HL.out.ne x hr hx)); have hz3 := hgrow3.size; simp only [World.size_alloc] at hz3; clear hown3 hgrow3 hat3) | (at_builtin; refine wpList_append_lies _ rfl (.tmp 40) (.tmp 43) 22 rfl w.heap.size 3 i0 (.int .i64 0) 1 8 Try.underlying22 hi0 hz0 hz1 hz2 rfl (by decide) _ k ((Noon.fives k).map (.int .i64)) rfl (World.ownsRow.alloc HV3.out _) ⟨w3.heap.size, 0, none⟩ 1 1 [.int .i64 (5 * (k : Int))] rfl rfl (World.news_of_block (cs := #[.int .i64 (5 * (k : Int))]) (heap_alloc_new _ _)) (by simp [Value.oneCell']) (by omega) (by unfold maxLen; omega) (by omega) (by simp; omega) (w3.heap.size + 1) (by simp) ?_; intro g'' c'' w4 hown4 hgrow4 hat4 hlt4; have HO4 := Lib.hid hown4; have HG4 := Lib.hid hgrow4; have HAT4 := Lib.hid hat4; clear hown4 hgrow4 hat4))
      have HNX := Lib.hid (HL.out.next HO3.out HAT3.out hz3 hlt3 HG4.out HO4.out HAT4.out)
      have HB4 : Hid (Below w.heap.size w w4) := Lib.hid (by
        have e3 : Below w.heap.size w w3 := Below.grown (HB.out.alloc hbs _) HG3.out (by simp; omega) (fun x hx => (HL.out.o1.lt x hx).1)
        exact Below.grown (e3.alloc (by omega) _) HG4.out (by simp; omega) (fun x hx => (HL.out.o2.lt x hx).1))
      go_roundg (n - (k + 1))
      case measure => omega
      case rel => exact ⟨k + 1, by omega, rfl, by go_num, by rw [Noon.tens_succ, Noon.fives_succ]; exact HNX, HB4⟩
    · obtain rfl : n = k := by omega
      obtain ⟨g1, c1, rfl, _, _⟩ := ownsRow_at HL.out.o1 (by omega)
      obtain ⟨g2, c2, rfl, _, _⟩ := ownsRow_at HL.out.o2 (by omega)
      have hbs := HB.out.size
      clear hgk hkn hk
      go_wp2_with fail
      refine (netNew_ok g1 0 c1 g2 0 c2 n (Noon.tens n) (Noon.fives n) 100 wr (Noon.tens_len n) (Noon.fives_len n) (by omega) h6 (by omega) (by omega) (ints_of_own HL.out.o1) (ints_of_own HL.out.o2) ?_).mono ?_
      · intro j hj
        rw [Noon.tens_len] at hj
        rw [Noon.tens_get hj, Noon.fives_get hj]
        omega
      rintro e w1 ⟨m0, rfl, hn0, hb1⟩
      obtain ⟨G, hG⟩ : ∃ G, G = m0.gb := ⟨_, rfl⟩
      have HN0 := Lib.hid hn0
      have HB1 : Hid (Below w.heap.size w w1) := Lib.hid (HB.out.trans (hb1.mono hbs))
      have hz1 := hb1.size
      have hA0 : Noon.Asked (St.first (Noon.tens n) (Noon.fives n) 100) 0 := by
        refine Noon.Asked.first (Noon.Good.first (by rw [Noon.tens_len]; omega) (by rw [Noon.tens_len]; omega) (by rw [Noon.tens_len, Noon.fives_len]) (by omega) (by omega) ?_ ?_) rfl
        · intro i hi; rw [Noon.tens_len] at hi; rw [Noon.tens_get hi]; omega
        · intro i hi; rw [Noon.tens_len] at hi; rw [Noon.fives_get hi]; omega
      have HA0 := Lib.hid hA0
      rw [← hG]
      have HGG := Lib.hid hG
      obtain ⟨B1, hB1⟩ : ∃ B1, B1 = wr.heap.size := ⟨_, rfl⟩
      rw [← hB1] at HN0 hz1
      have hB1' : w.heap.size ≤ B1 := by omega
      have HS0 : Hid (∃ m s, NetAt w1 B1 m s ∧ m.gb = G ∧ Noon.Asked s 0 ∧ s.n = n ∧ s.time ≤ 2000) := Lib.hid ⟨m0, _, HN0.out, hG.symm, hA0, Noon.tens_len n, by show (0 : Int) ≤ 2000; omega⟩
      clear hn0 hb1 hA0 hG HL HB hB1 HN0 HA0
      go_wp2_with fail
      go_loopg [10] (n - 1) (fun gk s10 wr => ∃ k : Nat, 1 ≤ k ∧ k ≤ n ∧ gk = n - k ∧ s10 = .int .i64 k ∧ Hid (∃ m s, NetAt wr B1 m s ∧ m.gb = G ∧ Noon.Asked s (k - 1) ∧ s.n = n ∧ s.time ≤ 2000 * (k : Int)) ∧ Hid (Below w.heap.size w wr) ∧ B1 ≤ wr.heap.size)
      case atStart => exact ⟨1, by omega, by omega, by omega, rfl, HS0, HB1, hz1⟩
      case round =>
        obtain ⟨k, hk1, hk, hgk, rfl, HS, HB, hzr⟩ := hrel
        clear HS0 HB1 hz1
        by_cases hkn : k < n
        · have hkz : (k : Int) < (n : Int) := by omega
          obtain ⟨m, s, hn, hG, hA, hsn, hst⟩ := HS.out
          obtain ⟨s1, s2, s3, s4, s5, e1, e2, e3, e4, e5, g1, g2, g3, g4, hA5, n5, t5⟩ := hA.five (d := late) hk1 (by omega) l0 l1 (by omega)
          have F1 := Lib.hid (netActed 2 0 k e1 hG hn hA.good hzr)
          have F2 := Lib.hid (fun (w : World) m (hG : m.gb = G) (h : NetAt w B1 m s1) (hb : B1 ≤ w.heap.size) => netActed 1 late 0 e2 hG h g1 hb)
          have F3 := Lib.hid (fun (w : World) m (hG : m.gb = G) (h : NetAt w B1 m s2) (hb : B1 ≤ w.heap.size) => netActed 3 0 0 e3 hG h g2 hb)
          have F4 := Lib.hid (fun (w : World) m (hG : m.gb = G) (h : NetAt w B1 m s3) (hb : B1 ≤ w.heap.size) => netActed 1 late 0 e4 hG h g3 hb)
          have F5 := Lib.hid (fun (w : World) m (hG : m.gb = G) (h : NetAt w B1 m s4) (hb : B1 ≤ w.heap.size) => netActed 3 0 0 e5 hG h g4 hb)
          have HA5 := Lib.hid hA5
          have HT5 : Hid (s5.n = n ∧ s5.time ≤ 2000 * ((k + 1 : Nat) : Int)) := Lib.hid ⟨by rw [n5, hsn], by rw [t5]; omega⟩
          clear hn hG hA hsn hst e1 e2 e3 e4 e5 g1 g2 g3 g4 hA5 n5 t5
          go_wp2_with fail
          refine F1.out.mono ?_
          rintro e w2 ⟨rfl, m2, hG2, hn2, hb2⟩
          rw [show errN 0 = .nilIface from rfl]
          have hz2 := hb2.size
          have HB2 : Hid (Below w.heap.size w w2) := Lib.hid (HB.out.trans (hb2.mono hB1'))
          have K2 := Lib.hid (F2.out w2 m2 hG2 hn2 (by omega))
          clear hb2 hG2 hn2 F1 F2
          go_wp2_with fail
          refine K2.out.mono ?_
          rintro e w3 ⟨rfl, m3, hG3, hn3, hb3⟩
          rw [show errN 0 = .nilIface from rfl]
          have hz3 := hb3.size
          have HB3 : Hid (Below w.heap.size w w3) := Lib.hid (HB2.out.trans (hb3.mono hB1'))
          have K3 := Lib.hid (F3.out w3 m3 hG3 hn3 (by omega))
          clear hb3 hG3 hn3 K2 F3
          go_wp2_with fail
          refine K3.out.mono ?_
          rintro e w4 ⟨rfl, m4, hG4, hn4, hb4⟩
          rw [show errN 0 = .nilIface from rfl]
          have hz4 := hb4.size
          have HB4 : Hid (Below w.heap.size w w4) := Lib.hid (HB3.out.trans (hb4.mono hB1'))
          have K4 := Lib.hid (F4.out w4 m4 hG4 hn4 (by omega))
          clear hb4 hG4 hn4 K3 F4
          go_wp2_with fail
          refine K4.out.mono ?_
          rintro e w5 ⟨rfl, m5, hG5, hn5, hb5⟩
          rw [show errN 0 = .nilIface from rfl]
          have hz5 := hb5.size
          have HB5 : Hid (Below w.heap.size w w5) := Lib.hid (HB4.out.trans (hb5.mono hB1'))
          have K5 := Lib.hid (F5.out w5 m5 hG5 hn5 (by omega))
          clear hb5 hG5 hn5 K4 F5
          go_wp2_with fail
          refine K5.out.mono ?_
          rintro e w6 ⟨rfl, m6, hG6, hn6, hb6⟩
          rw [show errN 0 = .nilIface from rfl]
          have hz6 := hb6.size
          have HB6 : Hid (Below w.heap.size w w6) := Lib.hid (HB5.out.trans (hb6.mono hB1'))
          have HS6 : Hid (∃ m s, NetAt w6 B1 m s ∧ m.gb = G ∧ Noon.Asked s (k + 1 - 1) ∧ s.n = n ∧ s.time ≤ 2000 * ((k + 1 : Nat) : Int)) := Lib.hid ⟨m6, s5, hn6, hG6, HA5.out, HT5.out.1, HT5.out.2⟩
          clear hb6 hG6 hn6 K5
          go_wp2
          go_roundg (n - (k + 1))
          case measure => omega
          case rel => exact ⟨k + 1, by omega, by omega, rfl, by go_num, HS6, HB6, by omega⟩
        · obtain rfl : n = k := by omega
          obtain ⟨m, s, hn, hG, hA, hsn, _⟩ := HS.out
          subst hG
          have HN := Lib.hid hn
          have HA : Hid (Noon.Asked s (s.n - 1)) := Lib.hid (by rw [hsn]; exact hA)
          have HSN := Lib.hid hsn
          obtain ⟨wo, rfl⟩ : ∃ wo : World, wo = wr := ⟨_, rfl⟩
          have hOff : ∀ a b, a < n → b < n → ∀ w, Below wo.heap.size wo w → Calls Try.prog 9 #[.pointer (some ⟨m.gb, 0, none⟩), .int .i64 a, .int .i64 b] w fun e w' => (∃ x y : Int, e = .returned (.tuple #[.agg #[.int .i64 x, .int .i64 y], .nilIface]) ∧ (a = b → x = 0 ∧ y = 0)) ∧ Below w.heap.size w w' := by
            intro a b ha hb w' hw
            refine (netOffset (hn.below hw) hA.good (a := a) (b := b) (by omega) (by omega)).mono ?_
            rintro e w2 ⟨rfl, hb2⟩
            refine ⟨⟨_, _, congrArg Ending.returned (if_pos (HA.out.all (by omega) (by omega))), fun e => ?_⟩, hb2⟩
            subst e
            have := HA.out.zero (a := a) (by omega)
            omega
          have HOff := Lib.hid hOff
          clear hn hA hsn HS hOff hgk hkn hk
          go_wp2_with fail
          go_loopg [11, 12, 13, 14] n (fun gk s11 s12 s13 s14 wx => ∃ a : Nat, a ≤ n ∧ gk = n - a ∧ s11 = .int .i64 a ∧ Hid (Below wo.heap.size wo wx))
          case atStart => exact ⟨0, Nat.zero_le _, rfl, rfl, Lib.hid (Below.refl _ _)⟩
          case round =>
            obtain ⟨a, ha, hgk, rfl, HX⟩ := hrel
            by_cases han : a < n
            · have haz : (a : Int) < (n : Int) := by omega
              go_wp2_with fail
              go_loopg [12, 13, 14] n (fun gk s12 s13 s14 wy => ∃ b : Nat, b ≤ n ∧ gk = n - b ∧ s12 = .int .i64 b ∧ Hid (Below wo.heap.size wo wy))
              case atStart => exact ⟨0, Nat.zero_le _, rfl, rfl, HX⟩
              case round =>
                obtain ⟨b, hb, hgk2, rfl, HY⟩ := hrel
                clear HX
                by_cases hbn : b < n
                · have hbz : (b : Int) < (n : Int) := by omega
                  go_wp2_with fail
                  refine (HOff.out a b han hbn _ HY.out).mono ?_
                  rintro e w7 ⟨⟨x, y, rfl, hxy⟩, hb7⟩
                  have HB7 : Hid (Below wo.heap.size wo w7) := Lib.hid (HY.out.trans (hb7.mono HY.out.size))
                  have hz7 := HB7.out.size
                  have HB8 : Hid (Below wo.heap.size wo (w7.alloc (.cells #[.int .i64 x, .int .i64 y] 34))) := Lib.hid (HB7.out.alloc hz7 _)
                  clear hb7
                  by_cases hab : a = b
                  · obtain ⟨rfl, rfl⟩ := hxy hab
                    have hq : ((a : Int) == (b : Int)) = true := by simp; omega
                    clear hxy hab
                    go_wp2
                    go_roundg (n - (b + 1))
                    case measure => omega
                    case rel => exact ⟨b + 1, by omega, rfl, by go_num, HB8⟩
                  · have hq : ((a : Int) == (b : Int)) = false := by simp; omega
                    clear hxy hab
                    go_wp2
                    go_roundg (n - (b + 1))
                    case measure => omega
                    case rel => exact ⟨b + 1, by omega, rfl, by go_num, HB8⟩
                · obtain rfl : n = b := by omega
                  go_wp2
                  go_roundg (n - (a + 1))
                  case measure => omega
                  case rel => exact ⟨a + 1, by omega, rfl, by go_num, HY⟩
            · obtain rfl : n = a := by omega
              have hw := netWide (HN.out.below HX.out) HA.out.good
              have htot := HA.out.total (by have := HSN.out; omega)
              generalize Noon.totW (Noon.closedM s.n s.edges) s.n s.n = tot at hw htot
              have HW := Lib.hid hw
              clear hw hgk han ha
              go_wp2_with fail
              refine HW.out.mono ?_
              rintro e w8 ⟨rfl, hb8⟩
              have HB8 : Hid (Below w.heap.size w w8) := Lib.hid ((HB.out.trans (HX.out.mono HB.out.size)).trans (hb8.mono (Nat.le_trans HB.out.size HX.out.size)))
              have hq : decide (0 < tot) = true := by simpa using htot
              clear hb8
              go_wp2
              go_ret
              exact ⟨rfl, HB8.out⟩
end Go.Proofs.Ytjohngeaifgcgaa

/- A map from int to what is known of a node (three numbers), as a block of memory. -/
import Derived.Test.YtjohngeaifgcgaaWKit
import Derived.Carry
import Derived.Test.YtjohngeaifgcgaaPNet
namespace Go.Proofs.Ytjohngeaifgcgaa
open Go.RowKit

open Noon (Kn)

def knV (k : Kn) : Value := .agg #[.int .i64 k.lo, .int .i64 k.hi, .int .i64 k.at_]
def entOf (g : Nat → Kn) (p : Nat × Nat) : MapEntry := { key := .int .i64 (p.1 : Int), val := knV (g p.1), born := p.2 }

/-- block mb is a map that has just this -/
def MapIs (w : World) (mb : Nat) (of : Nat → Option Kn) : Prop :=
  ∃ (l : List (Nat × Nat)) (g : Nat → Kn) (clk : Nat), w.heap[mb]? = some (.map (l.map (entOf g)).toArray clk) ∧ (l.map (·.1)).Nodup ∧ ∀ j, of j = if j ∈ l.map (·.1) then some (g j) else none

theorem findNow_no (g : Nat → Kn) (j : Nat) : ∀ (l : List (Nat × Nat)) (n : Nat), j ∉ l.map (·.1) → Instr.findNow (.int .i64) (.int .i64 (j : Int)) (l.map (entOf g)) n = some none
  | [], n, _ => rfl
  | p :: l, n, h => by
    have h1 : ¬ j = p.1 := fun e => h (by simp [e])
    have h2 := findNow_no g j l (n + 1) (fun e => h (List.mem_cons_of_mem _ e))
    have h3 : ((j : Int) == (p.1 : Int)) = false := by simp; omega
    simp only [List.map_cons, Instr.findNow, entOf, Instr.sameNow, if_true, h3]
    exact h2
theorem findNow_yes (g : Nat → Kn) (j : Nat) : ∀ (l : List (Nat × Nat)) (n : Nat), j ∈ l.map (·.1) → ∃ i b, l[i]? = some (j, b) ∧ Instr.findNow (.int .i64) (.int .i64 (j : Int)) (l.map (entOf g)) n = some (some (n + i, knV (g j)))
  | [], n, h => by simp at h
  | p :: l, n, h => by
    by_cases h1 : j = p.1
    · subst h1
      refine ⟨0, p.2, rfl, ?_⟩
      simp [Instr.findNow, entOf, Instr.sameNow]
    · have h' : j ∈ l.map (·.1) := by
        rcases List.mem_cons.1 (by simpa using h : j ∈ p.1 :: l.map (·.1)) with e | e
        · exact absurd e h1
        · exact e
      obtain ⟨i, b, hi, hf⟩ := findNow_yes g j l (n + 1) h'
      have h3 : ((j : Int) == (p.1 : Int)) = false := by simp; omega
      refine ⟨i + 1, b, by simpa using hi, ?_⟩
      simp only [List.map_cons, Instr.findNow, entOf, Instr.sameNow, if_true, h3]
      rw [show n + (i + 1) = n + 1 + i by omega]
      exact hf

theorem checkKey_int (P : Program) {t : TypeId} {k : IntKind} (ht : P.underlying t = some (.int k)) (b : Bool) (n : Nat) (x : Int) (w : World) : (Instr.checkKey b (n + 1) t (.int .i64 x)).run P w = .ok () w := by
  simp [Instr.checkKey, run_underlying ht]

variable {P : Program} {w : World} {mb : Nat} {of : Nat → Option Kn}

theorem run_lookup_no (h : MapIs w mb of) {T K E : TypeId} (hT : P.underlying T = some (.map K E)) (hK : P.underlying K = some (.int .i64)) {z : Value} (hz : (zeroValue E).run P w = .ok z w) {j : Nat} (hj : of j = none) :
    (Instr.lookup T (.map (some mb)) (.int .i64 (j : Int)) true).run P w = .ok (.tuple #[z, .bool false]) w := by
  obtain ⟨l, g, clk, hb, _, hof⟩ := h
  have hn : j ∉ l.map (·.1) := by intro hm; rw [hof, if_pos hm] at hj; cases hj
  have hf := findNow_no g j l 0 hn
  have hc : (Instr.checkKey l.isEmpty 10000 K (.int .i64 (j : Int))).run P w = .ok () w := checkKey_int P hK _ 9999 _ w
  simp [Instr.lookup, run_underlying hT, getObj, Sem.run, hb, hc, Instr.findKey, run_underlying hK, hf, hz, Sem.run_bind, Result.andThen]

theorem run_lookup_yes (h : MapIs w mb of) {T K E : TypeId} (hT : P.underlying T = some (.map K E)) (hK : P.underlying K = some (.int .i64)) {j : Nat} {k : Kn} (hj : of j = some k) :
    (Instr.lookup T (.map (some mb)) (.int .i64 (j : Int)) true).run P w = .ok (.tuple #[knV k, .bool true]) w := by
  obtain ⟨l, g, clk, hb, _, hof⟩ := h
  have hm : j ∈ l.map (·.1) := by
    by_cases hm : j ∈ l.map (·.1)
    · exact hm
    · rw [hof, if_neg hm] at hj; cases hj
  have hk : g j = k := by rw [hof, if_pos hm] at hj; exact Option.some.inj hj
  obtain ⟨i, b, hi, hf⟩ := findNow_yes g j l 0 hm
  have hc : (Instr.checkKey l.isEmpty 10000 K (.int .i64 (j : Int))).run P w = .ok () w := checkKey_int P hK _ 9999 _ w
  subst hk
  simp [Instr.lookup, run_underlying hT, getObj, Sem.run, hb, hc, Instr.findKey, run_underlying hK, hf, Sem.run_bind, Result.andThen]

/-- 'm[j] = k' -/
def ofPut (of : Nat → Option Kn) (j : Nat) (k : Kn) : Nat → Option Kn := fun i => if i = j then some k else of i

theorem keyStays (P : Program) (w : World) (x : Int) : (Instr.keyThatStays (.int .i64 x) (.int .i64 x)).run P w = .ok (.int .i64 x) w := by
  simp [Instr.keyThatStays, Instr.sameBits]

theorem map_modify (g : Nat → Kn) (l : List (Nat × Nat)) (hn : (l.map (·.1)).Nodup) {i j b : Nat} (hi : l[i]? = some (j, b)) (k : Kn) :
    (l.map (entOf g)).toArray.modify i (fun e => { e with key := .int .i64 (j : Int), val := knV k }) = (l.map (entOf (fun x => if x = j then k else g x))).toArray := by
  have hlt := (List.getElem?_eq_some_iff.1 hi).1
  apply Array.ext
  · simp
  · intro n h1 h2
    simp only [Array.getElem_modify, List.getElem_toArray, List.getElem_map]
    have hn' : n < l.length := by simpa using h2
    by_cases e : i = n
    · subst e
      have hl : l[i] = (j, b) := by have := List.getElem?_eq_getElem hlt; rw [hi] at this; exact (Option.some.inj this).symm
      simp [entOf, hl]
    · rw [if_neg e]
      have hne : (l[n]).1 ≠ j := by
        intro h
        have hl : l[i] = (j, b) := by have := List.getElem?_eq_getElem hlt; rw [hi] at this; exact (Option.some.inj this).symm
        have h3 : (l.map (·.1))[i]'(by simpa using hlt) = (l.map (·.1))[n]'(by simpa using hn') := by simp [hl, h]
        rcases Nat.lt_or_gt_of_ne e with hlt' | hlt'
        · exact (List.pairwise_iff_getElem.1 hn i n _ _ hlt') h3
        · exact (List.pairwise_iff_getElem.1 hn n i _ _ hlt') h3.symm
      simp [entOf, hne]

theorem run_mapUpdate (h : MapIs w mb of) {T K E : TypeId} (hT : P.underlying T = some (.map K E)) (hK : P.underlying K = some (.int .i64)) (j : Nat) (k : Kn) :
    ∃ w', (Instr.mapUpdate T (.map (some mb)) (.int .i64 (j : Int)) (knV k)).run P w = .ok () w' ∧ MapIs w' mb (ofPut of j k) ∧ Keep (fun x => x = mb) w w' := by
  obtain ⟨l, g, clk, hb, hn, hof⟩ := h
  have hlt := Blk.lt hb
  have hc : (Instr.checkKey false 10000 K (.int .i64 (j : Int))).run P w = .ok () w := checkKey_int P hK _ 9999 _ w
  have hkeep : ∀ o, Keep (fun x => x = mb) w { w with heap := w.heap.setIfInBounds mb o } := fun o =>
    ⟨rfl, rfl, rfl, by simp, fun i hi hne => by
      show (w.heap.setIfInBounds mb o)[i]? = _
      rw [Array.getElem?_setIfInBounds_ne (by omega)]⟩
  have hat : ∀ o, ({ w with heap := w.heap.setIfInBounds mb o } : World).heap[mb]? = some o := fun o => by
    show (w.heap.setIfInBounds mb o)[mb]? = _
    simp [hlt]
  by_cases hm : j ∈ l.map (·.1)
  · obtain ⟨i, b, hi, hf⟩ := findNow_yes g j l 0 hm
    have hil := (List.getElem?_eq_some_iff.1 hi).1
    have hkey : (l.map (entOf g)).toArray[i]?.map (·.key) = some (.int .i64 (j : Int)) := by simp [hi, entOf]
    refine ⟨{ w with heap := w.heap.setIfInBounds mb (.map (l.map (entOf (fun x => if x = j then k else g x))).toArray clk) }, ?_, ⟨l, _, clk, hat _, hn, ?_⟩, hkeep _⟩
    · rw [← map_modify g l hn hi k]
      simp only [Nat.zero_add] at hf
      simp [Instr.mapUpdate, run_underlying hT, getObj, setObj, Sem.run, hb, hc, Instr.findKey, run_underlying hK, hf, Sem.run_bind, Result.andThen, hi, entOf, keyStays]
    · intro x
      unfold ofPut
      by_cases e : x = j
      · subst e; simp [hm]
      · rw [if_neg e, hof]; simp [e]
  · have hf := findNow_no g j l 0 hm
    have hmap : (l.map (entOf g)).toArray.push { key := .int .i64 (j : Int), val := knV k, born := clk } = ((l ++ [(j, clk)]).map (entOf (fun x => if x = j then k else g x))).toArray := by
      rw [List.push_toArray, List.map_append]
      congr 2
      · apply List.map_congr_left
        intro p hp
        have : p.1 ≠ j := fun e => hm (by rw [← e]; exact List.mem_map_of_mem hp)
        simp [entOf, this]
      · simp [entOf]
    refine ⟨{ w with heap := w.heap.setIfInBounds mb (.map ((l ++ [(j, clk)]).map (entOf (fun x => if x = j then k else g x))).toArray (clk + 1)) }, ?_, ⟨l ++ [(j, clk)], _, clk + 1, hat _, ?_, ?_⟩, hkeep _⟩
    · rw [← hmap]
      simp [Instr.mapUpdate, run_underlying hT, getObj, setObj, Sem.run, hb, hc, Instr.findKey, run_underlying hK, hf, Sem.run_bind, Result.andThen]
    · rw [List.map_append, List.nodup_append]
      exact ⟨hn, by simp, by intro a ha b hb e; simp at hb; subst hb; subst e; exact hm ha⟩
    · intro x
      unfold ofPut
      by_cases e : x = j
      · subst e; simp
      · rw [if_neg e, hof, List.map_append]
        simp only [List.mem_append, List.map_cons, List.map_nil, List.mem_singleton, e, or_false, if_false]

theorem MapIs.keep {w' : World} {S : Nat → Prop} (h : MapIs w mb of) (hk : Keep S w w') (hn : ¬ S mb) : MapIs w' mb of := by
  obtain ⟨l, g, clk, hb, h1, h2⟩ := h
  exact ⟨l, g, clk, Blk.keep hb hk hn, h1, h2⟩
theorem MapIs.lt (h : MapIs w mb of) : mb < w.heap.size := by
  obtain ⟨l, g, clk, hb, h1, h2⟩ := h
  exact Blk.lt hb
theorem MapIs.ne (h : MapIs w mb of) {g : Nat} {cs : Array Value} {t : TypeId} (hb : Blk w g cs t) : mb ≠ g := by
  rintro rfl
  obtain ⟨l, g, clk, hb', _⟩ := h
  unfold Blk at hb
  rw [hb] at hb'
  cases hb'
theorem MapIs.made (h : w.heap[mb]? = some (.map #[] 0)) : MapIs w mb (fun _ => none) := ⟨[], fun _ => ⟨0, 0, 0⟩, 0, h, by simp, by simp⟩
end Go.Proofs.Ytjohngeaifgcgaa

/- An act of the net, as plain data. -/
import Derived.Test.YtjohngeaifgcgaaPNet
namespace Noon

/-- the world's part of an act: the state, the fault (0: none), the letter that comes -/
def St.wdo (s : St) (what a b : Int) : St × Nat × Option Ltr :=
  if what = 1 then
    if a < 0 ∨ 1000000 < a ∨ 1000000000 < s.time + a then (s, 1, none) else ({ s with time := s.time + a }, 0, none)
  else if what = 2 then
    if a < 0 ∨ s.n ≤ a ∨ b < 0 ∨ s.n ≤ b then (s, 1, none)
    else if a = b then (s, 3, none)
    else if 40 ≤ s.under.length then (s, 4, none)
    else ({ s with under := s.under ++ [⟨a.toNat, b.toNat, false, 0, 0, s.read a.toNat⟩] }, 0, none)
  else if what = 3 ∨ what = 4 ∨ what = 5 then
    if a < 0 ∨ s.under.length ≤ a then (s, 5, none)
    else (if what = 5 then s else { s with under := s.under.eraseIdx a.toNat }, 0, if what = 4 then none else s.under[a.toNat]?)
  else (s, 1, none)

/-- an act: what the state is then, and the fault (0: none) -/
def St.does (s : St) (what a b : Int) : St × Nat :=
  match (s.wdo what a b).2.2 with
  | none => ((s.wdo what a b).1, (s.wdo what a b).2.1)
  | some l => (s.wdo what a b).1.come l

/-- what holds of every state -/
structure Fine (s : St) : Prop where
  n1 : 1 ≤ s.n
  n2 : s.n ≤ 6
  p1 : 0 ≤ s.ppm
  p2 : s.ppm ≤ 1000
  sl : s.starts.length = s.n
  rl : s.rates.length = s.n
  sb : ∀ i, i < s.n → 0 ≤ s.starts.getD i 0 ∧ s.starts.getD i 0 ≤ 1000000
  rb : ∀ i, i < s.n → -s.ppm ≤ s.rates.getD i 0 ∧ s.rates.getD i 0 ≤ s.ppm
  t1 : 0 ≤ s.time
  t2 : s.time ≤ 1000000000
  ul : s.under.length ≤ 40
  us : ∀ l ∈ s.under, l.f < s.n ∧ l.k < s.n ∧ l.f ≠ l.k ∧ (l.an = false → l.t1 = 0 ∧ l.t2 = 0)

end Noon

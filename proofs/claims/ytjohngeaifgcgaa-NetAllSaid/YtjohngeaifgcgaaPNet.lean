/- The net of clocks as plain data: what its state is, and what an act makes of it. No program in sight. -/
namespace Noon

/-- what is known of another node: between which two numbers its clock less one's own was, when one's own showed at_ -/
structure Kn where
  lo : Int
  hi : Int
  at_ : Int
deriving DecidableEq

structure Ltr where
  f : Nat
  k : Nat
  an : Bool
  t1 : Int
  t2 : Int
  t : Int
deriving DecidableEq

structure NodeSt where
  here : Int
  of : Nat → Option Kn

structure St where
  n : Nat
  ppm : Int
  starts : List Int
  rates : List Int
  time : Int
  under : List Ltr
  nodes : Nat → NodeSt

/-- what clock i shows -/
def St.read (s : St) (i : Nat) : Int := s.starts.getD i 0 + s.time + s.time * s.rates.getD i 0 / 1000000

def up (a b : Int) : Int := (a + b - 1) / b
def slack (n ppm : Int) : Int := 2 + up (n * (3 * ppm)) 1000000

def aged (k : Kn) (here ppm : Int) : Int × Int := (k.lo - slack (here - k.at_) ppm, k.hi + slack (here - k.at_) ppm)

/-- the span of an answer -/
def offs (l : Ltr) (here ppm : Int) : Int × Int := (l.t - here, l.t2 - l.t1 + slack (here - l.t1) ppm)

def NodeSt.hear (x : NodeSt) (l : Ltr) (here ppm : Int) : NodeSt :=
  if l.an = false then { x with here := here }
  else
    let s := offs l here ppm
    let r := match x.of l.f with
      | none => s
      | some k => (max (aged k here ppm).1 s.1, min (aged k here ppm).2 s.2)
    { here := here, of := fun j => if j = l.f then some ⟨r.1, r.2, here⟩ else x.of j }

def St.setNode (s : St) (i : Nat) (x : NodeSt) : St := { s with nodes := fun j => if j = i then x else s.nodes j }

/-- a letter comes: the node hears it; a question is answered -/
def St.come (s : St) (l : Ltr) : St × Nat :=
  let s1 := s.setNode l.k ((s.nodes l.k).hear l (s.read l.k) s.ppm)
  if l.an then (s1, 0)
  else if 40 ≤ s1.under.length then (s1, 4)
  else ({ s1 with under := s1.under ++ [⟨l.k, l.f, true, l.t, s.read l.k, s.read l.k⟩] }, 0)

/-- an act: what the state is then, and the fault (0: none) -/
def St.act (s : St) (what a b : Int) : St × Nat :=
  if what = 1 then
    if a < 0 ∨ 1000000 < a ∨ 1000000000 < s.time + a then (s, 1) else ({ s with time := s.time + a }, 0)
  else if what = 2 then
    if a < 0 ∨ s.n ≤ a ∨ b < 0 ∨ s.n ≤ b then (s, 1)
    else if a = b then (s, 3)
    else if 40 ≤ s.under.length then (s, 4)
    else ({ s with under := s.under ++ [⟨a.toNat, b.toNat, false, 0, 0, s.read a.toNat⟩] }, 0)
  else if what = 3 ∨ what = 4 ∨ what = 5 then
    if a < 0 ∨ s.under.length ≤ a then (s, 5)
    else
      let s1 := if what = 5 then s else { s with under := s.under.eraseIdx a.toNat }
      if what = 4 then (s1, 0)
      else match s.under[a.toNat]? with
        | none => (s1, 0)
        | some l => s1.come l
  else (s, 1)

/-- the state at first -/
def St.first (starts rates : List Int) (ppm : Int) : St :=
  { n := starts.length, ppm := ppm, starts := starts, rates := rates, time := 0, under := [], nodes := fun _ => ⟨-1, fun _ => none⟩ }

end Noon

/-
  No cell of these rows narrows 'for every input' (looked for: loops, veiled, ifaces, maps, wideKeys, modest, calm, conditions, laid).
  DERIVED. THE GIVEN ROWS OF THIS SEAT. 3 by the template 'for every input the law returns true; each argument reads behind the call as it read before'; 0 by the template 'total and deterministic' (their statements: YtjohngeaifgcgaaTotals.lean).
  GIVEN WITH THE SEED: the statements are not yours to turn. If you find one false, say at which input.
  Laid BY PROGRAM, IN A SANDBOX (cutbox-rows.mjs): the forced cells as the released guide's own fill.sh prints them over the translation e8fbd73f7b2d02da… (all of the seat's roots in one cut). By AI agents, Wed Nov 11 2026. No macro, syntax, notation, axiom, sorry.
-/
import Derived.Test.YtjohngeaifgcgaaChecked
import GoSem.Claim
import GoSem.ClaimJoined
import GoSem.ClaimMapViews
import Derived.JoinedTies
import Derived.KernelRfl
namespace Go.Proofs.Ytjohngeaifgcgaa
/- THE CELL 'sum', in the pinned program and in every row, IS THE sha256 OF THE DUMP (.gsa) THAT YtjohngeaifgcgaaProg.lean LOADS. Nothing in Lean hashes anything: it is a label: what it is worth is what the hold of that sum in a sandbox is worth. -/
noncomputable def Try.pinned : Pinned := { name := "ytjohngeaifgcgaa", sum := "e8fbd73f7b2d02da3708c0890448baa4088c761f18478b3e6d006906e23e145f", checked := Try.checked }
namespace Rows
def none {H : Type} : Left H := { results := [], args := [] }

/-- 'noontop.TopWires': WHATEVER THE INPUT: true; the input reads as it did. -/
def topWiresSpec : ChangeSpec := { name := "topWires", fn := fun _ => fun
  | [d1, d2, d3, d4, d5, d6] => { results := [.lit (.bool true)], args := [d1, d2, d3, d4, d5, d6] }
  | _ => none }
def topWiresRow : OpenClaim := { program := "ytjohngeaifgcgaa", sum := "e8fbd73f7b2d02da3708c0890448baa4088c761f18478b3e6d006906e23e145f", func := "noonmark/noontop.TopWires", spec := "topWires", unfollowed := true, recurses := true, apart := false }
def TopWiresSaid : Prop := topWiresRow.holds Try.pinned (OpenSpec.ofChange topWiresSpec)

/-- ITS FALSE NEIGHBOUR: 'it returns false'. Refute it at one input. -/
def topWiresWrong : ChangeSpec := { name := "topWires", fn := fun _ => fun
  | [d1, d2, d3, d4, d5, d6] => { results := [.lit (.bool false)], args := [d1, d2, d3, d4, d5, d6] }
  | _ => none }
def TopWiresWrongFalsely : Prop := topWiresRow.holds Try.pinned (OpenSpec.ofChange topWiresWrong)

/-- 'noonlaw4.NetAll': WHATEVER THE INPUT: true; the input reads as it did. -/
def netAllSpec : ChangeSpec := { name := "netAll", fn := fun _ => fun
  | [d1, d2] => { results := [.lit (.bool true)], args := [d1, d2] }
  | _ => none }
def netAllRow : OpenClaim := { program := "ytjohngeaifgcgaa", sum := "e8fbd73f7b2d02da3708c0890448baa4088c761f18478b3e6d006906e23e145f", func := "noonmark/noonlaw4.NetAll", spec := "netAll", unfollowed := true, recurses := true, apart := false }
def NetAllSaid : Prop := netAllRow.holds Try.pinned (OpenSpec.ofChange netAllSpec)

/-- ITS FALSE NEIGHBOUR: 'it returns false'. Refute it at one input. -/
def netAllWrong : ChangeSpec := { name := "netAll", fn := fun _ => fun
  | [d1, d2] => { results := [.lit (.bool false)], args := [d1, d2] }
  | _ => none }
def NetAllWrongFalsely : Prop := netAllRow.holds Try.pinned (OpenSpec.ofChange netAllWrong)

/-- 'noonlaw1.HullHolds': WHATEVER THE INPUT: true; the input reads as it did. -/
def hullHoldsSpec : ChangeSpec := { name := "hullHolds", fn := fun _ => fun
  | [d1, d2, d3] => { results := [.lit (.bool true)], args := [d1, d2, d3] }
  | _ => none }
def hullHoldsRow : OpenClaim := { program := "ytjohngeaifgcgaa", sum := "e8fbd73f7b2d02da3708c0890448baa4088c761f18478b3e6d006906e23e145f", func := "noonmark/noonlaw1.HullHolds", spec := "hullHolds", unfollowed := true, recurses := true, apart := false }
def HullHoldsSaid : Prop := hullHoldsRow.holds Try.pinned (OpenSpec.ofChange hullHoldsSpec)

/-- ITS FALSE NEIGHBOUR: 'it returns false'. Refute it at one input. -/
def hullHoldsWrong : ChangeSpec := { name := "hullHolds", fn := fun _ => fun
  | [d1, d2, d3] => { results := [.lit (.bool false)], args := [d1, d2, d3] }
  | _ => none }
def HullHoldsWrongFalsely : Prop := hullHoldsRow.holds Try.pinned (OpenSpec.ofChange hullHoldsWrong)

/- THE SECOND FORM. 'bulk': how many values and letters a reading holds, each counted each time it is reached (what is shared counts as often as it is met; a slice's spare places count too). A statement '..UptoSaid' is the law's where the arguments, and the package variables that the reading takes, are together of bulk at most 1048576: NARROWER than '..Said'. Prove '..Said' where nothing that the law and all that it calls make is longer than what came in: it says more and counts as full. Else prove '..UptoSaid'. A law counts once. -/
mutual
def uptoBulk {H : Type} : DataW H → Nat
  | .lit (.string bytes) => bytes.length + 1
  | .lit _ => 1
  | .nil => 1
  | .ptr d => uptoBulk d + 1
  | .slice elems spare => uptoBulkAll elems + uptoBulkAll spare + 1
  | .agg parts => uptoBulkAll parts + 1
  | .iface _ d => uptoBulk d + 1
  | .map entries => uptoBulkEntries entries + 1
  | .held _ => 1
def uptoBulkAll {H : Type} : List (DataW H) → Nat
  | [] => 0
  | d :: r => uptoBulk d + uptoBulkAll r
def uptoBulkEntries {H : Type} : List (Lit × DataW H) → Nat
  | [] => 0
  | x :: r => uptoBulkEntry x + uptoBulkEntries r
def uptoBulkEntry {H : Type} : Lit × DataW H → Nat
  | (.string bytes, d) => bytes.length + uptoBulk d + 1
  | (_, d) => uptoBulk d + 1
 end
def uptoSmall : (H : Type) → List (DataW H) → Bool := fun _ ds => decide (uptoBulkAll ds ≤ 1048576)
def OpenSpec.upto (s : _root_.Go.ChangeSpec) : _root_.Go.OpenSpec := { _root_.Go.OpenSpec.ofChange s with cond := some uptoSmall }

/-- 'noontop.TopWires', WHERE WHAT IT READS IS OF BULK AT MOST 1048576: true; the input reads as it did. -/
def topWiresUptoRow : OpenClaim := { program := "ytjohngeaifgcgaa", sum := "e8fbd73f7b2d02da3708c0890448baa4088c761f18478b3e6d006906e23e145f", func := "noonmark/noontop.TopWires", spec := "topWires", unfollowed := true, recurses := true, apart := false, narrowed := true }
def TopWiresUptoSaid : Prop := topWiresUptoRow.holds Try.pinned (OpenSpec.upto topWiresSpec)

/-- 'noonlaw4.NetAll', WHERE WHAT IT READS IS OF BULK AT MOST 1048576: true; the input reads as it did. -/
def netAllUptoRow : OpenClaim := { program := "ytjohngeaifgcgaa", sum := "e8fbd73f7b2d02da3708c0890448baa4088c761f18478b3e6d006906e23e145f", func := "noonmark/noonlaw4.NetAll", spec := "netAll", unfollowed := true, recurses := true, apart := false, narrowed := true }
def NetAllUptoSaid : Prop := netAllUptoRow.holds Try.pinned (OpenSpec.upto netAllSpec)

/-- 'noonlaw1.HullHolds', WHERE WHAT IT READS IS OF BULK AT MOST 1048576: true; the input reads as it did. -/
def hullHoldsUptoRow : OpenClaim := { program := "ytjohngeaifgcgaa", sum := "e8fbd73f7b2d02da3708c0890448baa4088c761f18478b3e6d006906e23e145f", func := "noonmark/noonlaw1.HullHolds", spec := "hullHolds", unfollowed := true, recurses := true, apart := false, narrowed := true }
def HullHoldsUptoSaid : Prop := hullHoldsUptoRow.holds Try.pinned (OpenSpec.upto hullHoldsSpec)

end Rows
end Go.Proofs.Ytjohngeaifgcgaa

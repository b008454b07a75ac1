/- How a net lies in memory. -/
import Derived.Test.YtjohngeaifgcgaaWHear
import Derived.Test.YtjohngeaifgcgaaWWorld3
import Derived.Test.YtjohngeaifgcgaaWWorld4
import Derived.Test.YtjohngeaifgcgaaWWorldNew
import Derived.Test.YtjohngeaifgcgaaWNodeNew
namespace Go.Proofs.Ytjohngeaifgcgaa
open Go.RowKit
open Noon (Kn Ltr NodeSt St)

/-- where the parts of a net lie -/
structure NetMem where
  gb : Nat
  wb : Nat
  sb : Nat
  sc : Nat
  rb : Nat
  rc : Nat
  uv : Value
  nv : Value
  nb : Nat → Nat
  mb : Nat → Nat

def lettersC (l : List Ltr) : List Value := l.flatMap fun x => ltrC x.f x.k x.an x.t1 x.t2 x.t
def ptrsC (n : Nat) (nb : Nat → Nat) : List Value := (List.range n).map fun j => .pointer (some ⟨nb j, 0, none⟩)

/-- the world's part -/
structure WorldAt (w : World) (base : Nat) (m : NetMem) (s : St) : Prop where
  wblk : Blk w m.wb #[.slice (some ⟨m.sb, 0, none⟩) s.n m.sc, .slice (some ⟨m.rb, 0, none⟩) s.n m.rc, .int .i64 s.time, m.uv] 105
  wge : base ≤ m.wb
  starts : w.ownsRow base 3 1 (.slice (some ⟨m.sb, 0, none⟩) s.n m.sc) s.n (s.starts.map (.int .i64))
  rates : w.ownsRow base 3 1 (.slice (some ⟨m.rb, 0, none⟩) s.n m.rc) s.n (s.rates.map (.int .i64))
  under : w.ownsRow base 48 6 m.uv s.under.length (lettersC s.under)

/-- k nodes of a net -/
structure NodesAt (w : World) (base : Nat) (m : NetMem) (k n : Nat) (ppm : Int) (nodes : Nat → NodeSt) : Prop where
  blk : ∀ j, j < k → Blk w (m.nb j) (nodeC j n ppm (nodes j).here (m.mb j)) 108
  map : ∀ j, j < k → MapIs w (m.mb j) (nodes j).of
  nge : ∀ j, j < k → base ≤ m.nb j
  mge : ∀ j, j < k → base ≤ m.mb j
  ninj : ∀ i j, i < k → j < k → m.nb i = m.nb j → i = j
  minj : ∀ i j, i < k → j < k → m.mb i = m.mb j → i = j

structure NetAt (w : World) (base : Nat) (m : NetMem) (s : St) : Prop where
  gblk : Blk w m.gb #[.pointer (some ⟨m.wb, 0, none⟩), m.nv] 71
  gge : base ≤ m.gb
  wat : WorldAt w base m s
  ptrs : w.ownsRow base 72 1 m.nv s.n (ptrsC s.n m.nb)
  nat : NodesAt w base m s.n s.n s.ppm s.nodes

/-- the blocks of a net -/
def NetMem.has (m : NetMem) (n k : Nat) : Prop :=
  k = m.gb ∨ k = m.wb ∨ k = m.sb ∨ k = m.rb ∨ m.uv.ownBlock = some k ∨ m.nv.ownBlock = some k ∨ (∃ j, j < n ∧ k = m.nb j) ∨ (∃ j, j < n ∧ k = m.mb j)

theorem WorldAt.keep {w w' : World} {base : Nat} {m : NetMem} {s : St} {S : Nat → Prop} (h : WorldAt w base m s) (hk : Keep S w w') (h1 : ¬ S m.wb) (h2 : ¬ S m.sb) (h3 : ¬ S m.rb) (h4 : ∀ k, m.uv.ownBlock = some k → ¬ S k) : WorldAt w' base m s :=
  ⟨Blk.keep h.wblk hk h1, h.wge, ownsRow_keep h.starts hk (fun k e => by cases e; exact h2), ownsRow_keep h.rates hk (fun k e => by cases e; exact h3), ownsRow_keep h.under hk h4⟩
theorem NodesAt.keep {w w' : World} {base : Nat} {m : NetMem} {k n : Nat} {ppm : Int} {nodes : Nat → NodeSt} {S : Nat → Prop} (h : NodesAt w base m k n ppm nodes) (hk : Keep S w w') (h1 : ∀ j, j < k → ¬ S (m.nb j)) (h2 : ∀ j, j < k → ¬ S (m.mb j)) : NodesAt w' base m k n ppm nodes :=
  ⟨fun j hj => Blk.keep (h.blk j hj) hk (h1 j hj), fun j hj => (h.map j hj).keep hk (h2 j hj), h.nge, h.mge, h.ninj, h.minj⟩
theorem NetAt.keep {w w' : World} {base : Nat} {m : NetMem} {s : St} {S : Nat → Prop} (h : NetAt w base m s) (hk : Keep S w w') (hn : ∀ k, m.has s.n k → ¬ S k) : NetAt w' base m s :=
  ⟨Blk.keep h.gblk hk (hn _ (.inl rfl)), h.gge,
    h.wat.keep hk (hn _ (.inr (.inl rfl))) (hn _ (.inr (.inr (.inl rfl)))) (hn _ (.inr (.inr (.inr (.inl rfl))))) (fun k e => hn k (.inr (.inr (.inr (.inr (.inl e)))))),
    ownsRow_keep h.ptrs hk (fun k e => hn k (.inr (.inr (.inr (.inr (.inr (.inl e))))))),
    h.nat.keep hk (fun j hj => hn _ (.inr (.inr (.inr (.inr (.inr (.inr (.inl ⟨j, hj, rfl⟩)))))))) (fun j hj => hn _ (.inr (.inr (.inr (.inr (.inr (.inr (.inr ⟨j, hj, rfl⟩))))))))⟩
theorem NetAt.below {w w' : World} {base : Nat} {m : NetMem} {s : St} (h : NetAt w base m s) (hb : Below w.heap.size w w') : NetAt w' base m s := h.keep (Keep.ofBelow (S := fun _ => False) hb) (fun _ _ h => h)
end Go.Proofs.Ytjohngeaifgcgaa

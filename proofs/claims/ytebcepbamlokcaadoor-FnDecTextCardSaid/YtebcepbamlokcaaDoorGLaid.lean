/- What the package-level variables that the program reads hold, as the row's premises give it, carried along from world to world. -/
import Derived.Test.YtebcepbamlokcaaDoorProg
import Derived.Below
import Derived.Lib.LaidTab
import Derived.Lib.ItoaMem
import Derived.Shelf.Vars
import Derived.KernelRfl
namespace Go.Proofs.YtebcepbamlokcaaDoor.Q
open Go.RowKit

/-- The world's shape, and of each variable that the mask names what it holds. -/
def LaidAt (m : Nat) (w : World) : Prop :=
  w.ShapedOpen Tryd.prog ∧
  (m.testBit 0 = true → Lib.TabIs Tryd.prog w "internal/strconv.uint64pow10" .u64 Lib.pow10Tab)

def LaidG (m : Nat) (w : World) : Prop := ∃ W0, LaidAt m W0 ∧ Below W0.heap.size W0 w

theorem below_trans' {w w1 w2 : World} (h : Below w.heap.size w w1) (k : Below w1.heap.size w1 w2) : Below w.heap.size w w2 :=
  h.trans ⟨k.os, k.tape, k.output, k.size, fun i hi => k.block i (Nat.lt_of_lt_of_le hi h.size)⟩

theorem LaidAt.sub {m m' : Nat} (hs : m &&& m' = m) {w : World} (h : LaidAt m' w) : LaidAt m w := by
  have hb : ∀ i, m.testBit i = true → m'.testBit i = true := by
    intro i hi
    rw [← hs, Nat.testBit_and] at hi
    exact (Bool.and_eq_true_iff.mp hi).2
  exact ⟨h.1, fun hi => h.2 (hb 0 hi)⟩

theorem LaidG.below {m m' : Nat} {w W : World} (hs : m &&& m' = m) (h : LaidG m' w) (hb : Below w.heap.size w W) : LaidG m W := by
  obtain ⟨W0, h0, h1⟩ := h
  exact ⟨W0, h0.sub hs, below_trans' h1 hb⟩

theorem LaidG.of_at {m : Nat} {w : World} (h : LaidAt m w) : LaidG m w := ⟨w, h, Below.refl _ _⟩

/-- A variable's cells stay. -/
theorem var_below {P : Program} {w W : World} {name : String} {cs : Array Value} (h : Below w.heap.size w W) (hv : w.var? P name = some cs) : W.var? P name = some cs := by
  unfold World.var? at hv ⊢
  cases hg : P.globalNamed name with
  | none => rw [hg] at hv; cases hv
  | some g =>
    rw [hg] at hv
    simp only [Option.bind_some] at hv ⊢
    cases hh : w.heap[g]? with
    | none => rw [hh] at hv; cases hv
    | some o =>
      have hlt : g < w.heap.size := (Array.getElem?_eq_some_iff.1 hh).1
      rw [h.block g hlt, hh]
      rw [hh] at hv
      exact hv

theorem LaidG.pow10 {m : Nat} {w : World} (h : LaidG m w) (hm : m.testBit 0 = true) : Lib.TabIs Tryd.prog w "internal/strconv.uint64pow10" .u64 Lib.pow10Tab := by
  obtain ⟨W0, h0, h1⟩ := h
  exact var_below h1 (h0.2 hm)

theorem LaidG.cell {m : Nat} {w : World} (h : LaidG m w) {a : Addr} {v : World → Value → Prop} (hc : ∀ W0, W0.ShapedOpen Tryd.prog → ∃ x, W0.cell? a = some x ∧ v W0 x) : ∃ x, w.cell? a = some x := by
  obtain ⟨W0, h0, h1⟩ := h
  obtain ⟨x, hx, _⟩ := hc W0 h0.1
  exact ⟨x, (h1.cell (World.block_lt_of_cell? W0 a hx)).trans hx⟩

end Go.Proofs.YtebcepbamlokcaaDoor.Q

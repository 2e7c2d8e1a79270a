/- A part of the proof of ValueBack. -/
import Derived.Test.YtcjidlgmbjebjaaDoorVbn
import Derived.Deep.DeepCutAuto
set_option linter.unusedVariables false
set_option linter.unusedSimpArgs false
set_option maxRecDepth 100000
namespace Go.Proofs.YtcjidlgmbjebjaaDoor
open Go Go.RowKit Go.Proofs.YtcjidlgmbjebjaaDoorW.PrintWords
def BlkAt (w : World) (b : Nat) (cs : Array Value) (T : Nat) : Prop := w.heap[b]? = some (.cells cs T (0, 0))
theorem blk_below {w w' : World} {b : Nat} {cs : Array Value} {T : Nat} (h : BlkAt w b cs T) (hb : Below w.heap.size w w') : BlkAt w' b cs T := (hb.block b (Array.getElem?_eq_some_iff.1 h).1).trans h
theorem blk_alloc {w : World} {b : Nat} {cs : Array Value} {T : Nat} (h : BlkAt w b cs T) (o : Obj) : BlkAt (w.alloc o) b cs T := blk_below h ((Below.refl _ _).alloc (Nat.le_refl _) o)
theorem blk_cell {w : World} {b : Nat} {cs : Array Value} {T : Nat} (h : BlkAt w b cs T) (i : Nat) (x : Value) (hx : cs[i]? = some x) : w.cell? ⟨b, i, none⟩ = some x := by rw [Lib.cell_of_heap h]; exact hx
theorem blk_lt {w : World} {b : Nat} {cs : Array Value} {T : Nat} (h : BlkAt w b cs T) : b < w.heap.size := (Array.getElem?_eq_some_iff.1 h).1
def colB (c : Col) : List Int := nmL c.1 ++ [c.2.1, if c.2.2 then 1 else 0]
def colsB (cs : List Col) : List Int := cs.flatMap colB
end Go.Proofs.YtcjidlgmbjebjaaDoor

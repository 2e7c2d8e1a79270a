/- A part of the proof of ValueReads. -/
import Derived.Test.YtcjidlgmbjebjaaGreatDoorVrs
import Derived.Deep.DeepCutAuto
import Derived.Test.YtcjidlgmbjebjaaGreatDoorVro
import Derived.Laws.CopyOwn
import Derived.Deep.MidRow
import Derived.Deep.RegionHeldLaw
set_option linter.unusedVariables false
set_option linter.unusedSimpArgs false
set_option maxRecDepth 100000
namespace Go.Proofs.YtcjidlgmbjebjaaGreatDoor
open Go Go.RowKit Go.Proofs.YtcjidlgmbjebjaaGreatDoorW.PrintWords
def BlkAt (w : World) (b : Nat) (cs : Array Value) (T : Nat) : Prop := w.heap[b]? = some (.cells cs T (0, 0))
theorem blk_below {w w' : World} {b : Nat} {cs : Array Value} {T : Nat} (h : BlkAt w b cs T) (hb : Below w.heap.size w w') : BlkAt w' b cs T := (hb.block b (Array.getElem?_eq_some_iff.1 h).1).trans h
theorem blk_alloc {w : World} {b : Nat} {cs : Array Value} {T : Nat} (h : BlkAt w b cs T) (o : Obj) : BlkAt (w.alloc o) b cs T := blk_below h ((Below.refl _ _).alloc (Nat.le_refl _) o)
theorem blk_cell {w : World} {b : Nat} {cs : Array Value} {T : Nat} (h : BlkAt w b cs T) (i : Nat) (x : Value) (hx : cs[i]? = some x) : w.cell? ⟨b, i, none⟩ = some x := by rw [Lib.cell_of_heap h]; exact hx
theorem blk_lt {w : World} {b : Nat} {cs : Array Value} {T : Nat} (h : BlkAt w b cs T) : b < w.heap.size := (Array.getElem?_eq_some_iff.1 h).1
end Go.Proofs.YtcjidlgmbjebjaaGreatDoor

namespace Go.Proofs.YtcjidlgmbjebjaaGreatDoor
open Go Go.RowKit Go.Proofs.YtcjidlgmbjebjaaGreatDoorW.PrintWords
theorem blk_set {w : World} {b q i : Nat} {cs : Array Value} {T : Nat} {u : Value} (h : BlkAt w b cs T) (hq : b ≠ q) : BlkAt (w.setCell ⟨q, i, none⟩ u) b cs T := (Below.heap_setCell w _ u b hq).trans h
theorem blk_keep {w w' : World} {p b : Nat} {cs : Array Value} {T : Nat} (h : BlkAt w b cs T) (hk : Keep1 p w w') (hp : b ≠ p) : BlkAt w' b cs T := (hk.block (blk_lt h) hp).trans h
end Go.Proofs.YtcjidlgmbjebjaaGreatDoor

namespace Go.Proofs.YtcjidlgmbjebjaaGreatDoor
open Go Go.RowKit Go.Proofs.YtcjidlgmbjebjaaGreatDoorW.PrintWords
def nilS : Value := .slice none 0 0
def zeroE : Ent := Sb.Ent.zero
theorem keep_grown {p : Nat} {w w' : World} (h : Keep1 p w w') : w.grownBy w' (some p) := ⟨h.os, h.tape, h.output, h.size, fun k hk hp => h.block hk (fun e => hp (by rw [e]))⟩
structure PS (W : World) (R q p E B : Nat) (s : Sb.Src) (e : Ent) (v : Value) (w : World) : Prop where
  src : SrcP w p s
  qb : BlkAt w q #[.pointer (some ⟨p, 0, none⟩)] 47
  eb : BlkAt w E (entL e v) 67
  rb : BlkAt w R (entL zeroE nilS) 67
  own : w.ownsRow B 75 3 v e.cs.length (flat e.cs)
  bel : Below W.heap.size W w
  le : B ≤ w.heap.size
structure PN (W : World) (R q p E B : Nat) : Prop where
  hR : W.heap.size ≤ R
  hp : W.heap.size ≤ p
  hE : W.heap.size ≤ E
  hB : W.heap.size ≤ B
  pq : p ≠ q
  pE : p ≠ E
  pR : p ≠ R
  qE : q ≠ E
  RE : R ≠ E
  lp : p < B
  lq : q < B
  lE : E < B
  lR : R < B
theorem src_grown {w w' : World} {p B : Nat} {s : Sb.Src} {row : Option Nat} (h : SrcP w p s) (hg : w.grownBy w' row) (hr : ∀ k, row = some k → B ≤ k) (hp : p < B) (hB : B ≤ w.heap.size) : SrcP w' p s := by
  have hl := src_lt h
  obtain ⟨v, ⟨h1, hv⟩, A, c, rfl, hc, hC⟩ := h
  refine ⟨_, ⟨(hg.block p hl (fun e => by have := hr p e.symm; omega)).trans h1, hv⟩, A, c, rfl, hc, kC_mk hC.2.1 fun hpos => ?_⟩
  obtain ⟨ad, rfl, hcell⟩ := kC_at hC hpos
  have hlt := hv ad _ _ rfl
  refine ⟨ad, rfl, fun j x hx => ?_⟩
  have hb : (ad.add j).block = ad.block := by unfold Addr.add; split <;> rfl
  have := hcell j x hx
  unfold World.cell? at this ⊢
  rw [hg.block _ (by rw [hb]; omega) (fun e => by have := hr _ e.symm; rw [hb] at this; omega)]
  exact this
section
variable {W w w' : World} {R q p E B : Nat} {s s' : Sb.Src} {e e' : Ent} {v v' : Value}
theorem PS.op (n : PN W R q p E B) (h : PS W R q p E B s e v w) (hs : SrcP w' p s') (hk : Keep1 p w w') : PS W R q p E B s' e v w' :=
  ⟨hs, blk_keep h.qb hk n.pq.symm, blk_keep h.eb hk n.pE.symm, blk_keep h.rb hk n.pR.symm, h.own.kept (keep_grown hk) (by
    cases hv : v.ownBlock with
    | none => exact .inl rfl
    | some k => exact .inr fun e => by have := h.own.lt k hv; injection e with e; have := n.lp; omega), hk.below h.bel n.hp (Nat.le_trans n.hB h.le), Nat.le_trans h.le hk.size⟩
theorem PS.below (n : PN W R q p E B) (h : PS W R q p E B s e v w) (hb : Below w.heap.size w w') : PS W R q p E B s e v w' :=
  ⟨src_below h.src hb, blk_below h.qb hb, blk_below h.eb hb, blk_below h.rb hb, own_below h.own hb, below_step h.bel hb, Nat.le_trans h.le hb.size⟩
theorem PS.alloc (n : PN W R q p E B) (h : PS W R q p E B s e v w) (o : Obj) : PS W R q p E B s e v (w.alloc o) := h.below n ((Below.refl _ _).alloc (Nat.le_refl _) o)
theorem nobyte_ent {T b : Nat} {A : Option Addr} {m c : Nat} (h : BlkAt w b (entL e (.slice A m c)) T) : NoByte w b := by
  refine nobyte_of h fun i x hi => ?_
  unfold entL at hi
  match i, hi with
  | 0, hi => simp at hi
  | 1, hi => simp at hi
  | 2, hi => simp at hi
  | 3, hi => simp at hi
  | 4, hi => simp at hi
  | 5, hi => simp at hi
  | 6, hi => simp at hi
  | 7, hi => simp at hi
  | 8, hi => simp at hi
  | 9, hi => simp at hi
  | 10, hi => simp at hi
  | 11, hi => simp at hi
  | 12, hi => simp at hi
  | 13, hi => simp at hi
  | 14, hi => simp at hi
  | 15, hi => simp at hi
  | i + 16, hi => simp at hi
theorem own_shape {w : World} {base t sz n : Nat} {v : Value} {xs : List Value} (h : w.ownsRow base t sz v n xs) : ∃ A c, v = .slice A n c := by
  rcases h.2 with ⟨hv, hn⟩ | ⟨g, cap, cur, hv, _⟩
  · exact ⟨none, 0, by rw [hv, hn]⟩
  · exact ⟨_, _, hv⟩
theorem PS.nobyte (h : PS W R q p E B s e v w) : NoByte w E := by
  obtain ⟨A, c, rfl⟩ := own_shape h.own
  exact nobyte_ent h.eb
theorem PS.set (n : PN W R q p E B) (h : PS W R q p E B s e v w) (i : Nat) (u : Value) (he : (entL e v).setIfInBounds i u = entL e' v) (hc : e'.cs = e.cs) : PS W R q p E B s e' v (w.setCell ⟨E, i, none⟩ u) := by
  refine ⟨src_set h.src n.pE.symm h.nobyte, blk_set h.qb n.qE, ?_, blk_set h.rb n.RE, ?_, h.bel.setCell n.hE _, by simp [World.setCell]; exact h.le⟩
  · have := heap_setCell_same w E i _ _ u h.eb
    rw [he] at this
    exact this
  · rw [hc]
    exact own_set h.own E i u n.lE
theorem PS.put (n : PN W R q p E B) (h : PS W R q p E B s e v w) (c i : Nat) (u : Value) (hc : B ≤ c) (hv : v.ownBlock ≠ some c) (hnb : NoByte w c) : PS W R q p E B s e v (w.setCell ⟨c, i, none⟩ u) := by
  have := n.lp; have := n.lq; have := n.lE; have := n.lR
  exact ⟨src_set h.src (by omega) hnb, blk_set h.qb (by omega), blk_set h.eb (by omega), blk_set h.rb (by omega),
    h.own.kept (row := some c) ⟨rfl, rfl, rfl, by simp [World.setCell], fun k _ hk => heap_setCell_other _ _ _ _ (fun e => hk (by simp [e]))⟩ (.inr hv), h.bel.setCell (Nat.le_trans n.hB hc) _, by simp [World.setCell]; exact h.le⟩
end
end Go.Proofs.YtcjidlgmbjebjaaGreatDoor

namespace Go.Proofs.YtcjidlgmbjebjaaGreatDoor
open Go Go.RowKit Go.Proofs.YtcjidlgmbjebjaaGreatDoorW.PrintWords
def okV (v : Sb.V3) : Bool := goodV v.1 v.2.1 v.2.2
def flat3 (vs : List Sb.V3) : List Value := vs.flatMap fun v => [.int .i64 v.1, .int .i64 v.2.1, .string v.2.2]
theorem flat3_snoc (vs : List Sb.V3) (v : Sb.V3) : flat3 (vs ++ [v]) = flat3 vs ++ [.int .i64 v.1, .int .i64 v.2.1, .string v.2.2] := by simp [flat3]
def ftL (row : Int) (b v : Value) : Array Value := #[.int .i64 row, b, v]
def isSl (v : Value) : Prop := ∃ A n c, v = .slice A n c
theorem nobyte_ft {w : World} {F T : Nat} {row : Int} {b v : Value} (h : BlkAt w F (ftL row b v) T) (hb : isSl b) (hv : isSl v) : NoByte w F := by
  obtain ⟨A, n, c, rfl⟩ := hb
  obtain ⟨A', n', c', rfl⟩ := hv
  refine nobyte_of h fun i x hi => ?_
  unfold ftL at hi
  match i, hi with
  | 0, hi => simp at hi
  | 1, hi => simp at hi
  | 2, hi => simp at hi
  | i + 3, hi => simp at hi
structure PF (p R F B : Nat) (W : World) (row : Int) (lb : List Int) (bv : Value) (vs : List Sb.V3) (v : Value) (s : Sb.Src) (w : World) : Prop where
  src : SrcP w p s
  fb : BlkAt w F (ftL row bv v) 28
  rb : BlkAt w R (ftL 0 nilS nilS) 28
  own : w.ownsRow B 32 3 v vs.length (flat3 vs)
  bl : SlB w bv lb
  bb : ∀ ad n c, bv = .slice (some ad) n c → 0 < lb.length → ad.block < B
  kp : Keep1 p W w
  le : B ≤ w.heap.size
structure NF (p R F B : Nat) (W : World) : Prop where
  hp : p < W.heap.size
  hR : W.heap.size ≤ R
  hF : W.heap.size ≤ F
  hB : W.heap.size ≤ B
  RF : R ≠ F
  lF : F < B
  lR : R < B
section
variable {W w w' : World} {p R F B : Nat} {row : Int} {lb : List Int} {bv : Value} {vs : List Sb.V3} {v v' : Value} {s s' : Sb.Src}
theorem PF.bsl (h : PF p R F B W row lb bv vs v s w) : isSl bv := by obtain ⟨A, c, e, _⟩ := h.bl; exact ⟨_, _, _, e⟩
theorem PF.vsl (h : PF p R F B W row lb bv vs v s w) : isSl v := by obtain ⟨A, c, e⟩ := own_shape h.own; exact ⟨_, _, _, e⟩
theorem PF.nobyte (h : PF p R F B W row lb bv vs v s w) : NoByte w F := nobyte_ft h.fb h.bsl h.vsl
theorem PF.op (n : NF p R F B W) (h : PF p R F B W row lb bv vs v s w) (hs : SrcP w' p s') (hk : Keep1 p w w') : PF p R F B W row lb bv vs v s' w' := by
  have := n.hp; have := n.hR; have := n.hF; have := n.hB
  refine ⟨hs, blk_keep h.fb hk (by omega), blk_keep h.rb hk (by omega), h.own.kept (keep_grown hk) ?_, slb_keep h.bl (src_nobyte h.src) hk, h.bb, h.kp.trans hk, Nat.le_trans h.le hk.size⟩
  cases hv : v.ownBlock with
  | none => exact .inl rfl
  | some k => exact .inr fun e => by have := h.own.lt k hv; injection e with e; omega
theorem PF.below (h : PF p R F B W row lb bv vs v s w) (hb : Below w.heap.size w w') : PF p R F B W row lb bv vs v s w' :=
  ⟨src_below h.src hb, blk_below h.fb hb, blk_below h.rb hb, own_below h.own hb, slb_below h.bl hb, h.bb, h.kp.trans (Keep1.of_below hb), Nat.le_trans h.le hb.size⟩
theorem PF.vals (n : NF p R F B W) (h : PF p R F B W row lb bv vs v s w) (x : Sb.V3) (hg : w.grownBy w' v.ownBlock) (ho : w'.ownsRow B 32 3 v' (vs.length + 1) (flat3 vs ++ [.int .i64 x.1, .int .i64 x.2.1, .string x.2.2])) :
    PF p R F B W row lb bv (vs ++ [x]) v' s (w'.setCell ⟨F, 2, none⟩ v') := by
  have hp := n.hp; have hR := n.hR; have hF := n.hF; have hB := n.hB
  have lF := n.lF; have lR := n.lR
  have hno : ∀ k, k < B → some k ≠ v.ownBlock := fun k hk e => by have := h.own.lt k e.symm; omega
  have hst : ∀ {b : Nat} {cs : Array Value} {T : Nat}, BlkAt w b cs T → b < B → BlkAt w' b cs T := fun hb hl => (hg.block _ (blk_lt hb) (hno _ hl)).trans hb
  have hv' : isSl v' := by obtain ⟨A, c, e⟩ := own_shape ho; exact ⟨_, _, _, e⟩
  have hnb : NoByte w' F := nobyte_ft (hst h.fb lF) h.bsl h.vsl
  have hsrc : SrcP w' p s := src_grown h.src hg (fun k hk => (h.own.lt k hk).1) (by omega) h.le
  have hbl : SlB w' bv lb := by
    obtain ⟨A, c, e, h1, h2⟩ := h.bl
    refine ⟨A, c, e, h1, kC_mk h2.2.1 fun hpos => ?_⟩
    obtain ⟨ad, rfl, hcell⟩ := kC_at h2 hpos
    have hlt := h.bb ad _ _ e hpos
    refine ⟨ad, rfl, fun j x hx => ?_⟩
    have hb : (ad.add j).block = ad.block := by unfold Addr.add; split <;> rfl
    have := hcell j x hx
    unfold World.cell? at this ⊢
    rw [hg.block _ (by rw [hb]; have := h.le; omega) (by rw [hb]; exact hno _ hlt)]
    exact this
  have hlen : (vs ++ [x]).length = vs.length + 1 := by simp
  refine ⟨src_set hsrc (by omega) hnb, ?_, blk_set (hst h.rb lR) n.RF, ?_, slb_keep hbl hnb ((Keep1.refl F w').set 2 v'), h.bb, ?_, by simp [World.setCell]; exact Nat.le_trans h.le hg.size⟩
  · exact heap_setCell_same w' F 2 _ _ v' (hst h.fb lF)
  · rw [hlen, flat3_snoc]
    exact own_set ho F 2 v' lF
  · exact Keep1.setNew (p := p) (a := W) ⟨hg.os.trans h.kp.os, hg.tape.trans h.kp.tape, hg.output.trans h.kp.output, Nat.le_trans h.kp.size hg.size, fun {k} hk hkp => (hg.block k (Nat.lt_of_lt_of_le hk h.kp.size) (hno k (by omega))).trans (h.kp.block hk hkp)⟩ F 2 v' hF
end
end Go.Proofs.YtcjidlgmbjebjaaGreatDoor

namespace Go.Proofs.YtcjidlgmbjebjaaGreatDoor
open Go Go.RowKit Go.Proofs.YtcjidlgmbjebjaaGreatDoorW.PrintWords
end Go.Proofs.YtcjidlgmbjebjaaGreatDoor

namespace Go.Proofs.YtcjidlgmbjebjaaGreatDoor
open Go Go.RowKit Go.Proofs.YtcjidlgmbjebjaaGreatDoorW.PrintWords
def Inv (s : Sb.Src) : Prop := Byt s.2 ∧ s.2.length ≤ 140737488355000
theorem inv_take {s : Sb.Src} (n : Nat) (h : Inv s) : Inv (Sb.sTake n s).2 := ⟨(take_byt h.1).2, take_small h.2⟩
theorem inv_byte {s : Sb.Src} (h : Inv s) : Inv (Sb.sByte s).2 := inv_take 1 h
theorem inv_int {s : Sb.Src} (h : Inv s) : Inv (Sb.sInt s).2 := inv_take 8 h
def PbE (l : List Int) (W : World) (q p E : Nat) (w' : World) : Prop :=
  ∃ (sr : Sb.Src) (en : Ent) (v : Value), Sb.raw l = (some en, sr) ∧ en.nm.size ≤ 255 ∧ (∀ c ∈ en.cs, c.1.size ≤ 255) ∧ Inv sr ∧ PS W W.heap.size q p E (E + 1) sr en v w'
theorem PbE.mk {l : List Int} {W : World} {q p E : Nat} {w' : World} {sr : Sb.Src} {en : Ent} {v : Value} (h1 : Sb.raw l = (some en, sr)) (h2 : en.nm.size ≤ 255) (h3 : ∀ c ∈ en.cs, c.1.size ≤ 255) (h4 : Inv sr) (h5 : PS W W.heap.size q p E (E + 1) sr en v w') : PbE l W q p E w' :=
  ⟨sr, en, v, h1, h2, h3, h4, h5⟩
end Go.Proofs.YtcjidlgmbjebjaaGreatDoor

namespace Go.Proofs.YtcjidlgmbjebjaaGreatDoor
open Go Go.RowKit Go.Proofs.YtcjidlgmbjebjaaGreatDoorW.PrintWords
end Go.Proofs.YtcjidlgmbjebjaaGreatDoor

namespace Go.Proofs.YtcjidlgmbjebjaaGreatDoor
open Go Go.RowKit Go.Proofs.YtcjidlgmbjebjaaGreatDoorW.PrintWords
end Go.Proofs.YtcjidlgmbjebjaaGreatDoor

namespace Go.Proofs.YtcjidlgmbjebjaaGreatDoor
open Go Go.RowKit Go.Proofs.YtcjidlgmbjebjaaGreatDoorW.PrintWords
end Go.Proofs.YtcjidlgmbjebjaaGreatDoor

/- A part of the proof of SchemaForms. -/
import Derived.Test.YtcjidlgmbjebjaaDoorSfi
import Derived.Test.YtcjidlgmbjebjaaDoorSfo
import Derived.Test.YtcjidlgmbjebjaaDoorSfp
import Derived.Test.YtcjidlgmbjebjaaDoorSfm
import Derived.Deep.MidRow
import Derived.Deep.RegionHeldLaw
import Derived.Test.YtcjidlgmbjebjaaDoorSfe
set_option linter.unusedVariables false
set_option linter.unusedSimpArgs false
set_option maxRecDepth 100000
namespace Go.Proofs.YtcjidlgmbjebjaaDoor.Sb
open Go
def BytL (l : List Int) : Prop := ∀ x ∈ l, 0 ≤ x ∧ x < 256
structure Rng (e : Ent) : Prop where
  srs : I64 e.srs
  id : I64 e.id
  tb : I64 e.tb
  t0 : I64 e.t0
  t1 : I64 e.t1
  t2 : I64 e.t2
  ct : I64 e.ct
  nx : I64 e.nx
  lx : I64 e.lx
  ly : I64 e.ly
  hx : I64 e.hx
  hy : I64 e.hy
def Bx (e : Ent) : Prop := (e.bn = true → e.lx = 0 ∧ e.ly = 0 ∧ e.hx = 0 ∧ e.hy = 0) ∧ (e.bn = false → e.lx ≤ e.hx ∧ e.ly ≤ e.hy)
theorem fit_of {e : Ent} (h : Rng e) (b : Bx e) : Fit e := ⟨h.srs, h.id, h.tb, h.t0, h.t1, h.t2, h.ct, h.nx, h.lx, h.ly, h.hx, h.hy, b.1, b.2⟩
theorem be_go : ∀ (l : List Int) (a : Int), BytL l → 0 ≤ a → 0 ≤ l.foldl (fun n b => n * 256 + b) a ∧ l.foldl (fun n b => n * 256 + b) a < (a + 1) * 256 ^ l.length
  | [], a, _, ha => by simp only [List.foldl_nil, List.length_nil, Int.pow_zero]; omega
  | x :: l, a, h, ha => by
    have hx := h x List.mem_cons_self
    have ih := be_go l (a * 256 + x) (fun y hy => h y (List.mem_cons_of_mem _ hy)) (by omega)
    refine ⟨ih.1, ?_⟩
    have hp : (0 : Int) < 256 ^ l.length := Int.pow_pos (by decide)
    have h2 : (a * 256 + x + 1) * 256 ^ l.length ≤ ((a + 1) * 256) * 256 ^ l.length := Int.mul_le_mul_of_nonneg_right (by omega) (by omega)
    have h3 : (a + 1) * 256 ^ (x :: l).length = ((a + 1) * 256) * 256 ^ l.length := by
      rw [List.length_cons, Int.pow_succ, Int.mul_comm (256 ^ l.length) 256, Int.mul_assoc]
    rw [h3]
    exact Int.lt_of_lt_of_le ih.2 h2
theorem be_rng {l : List Int} (h : BytL l) (hl : l.length ≤ 8) : 0 ≤ be l ∧ be l < 18446744073709551616 := by
  have h1 := be_go l 0 h (by decide)
  refine ⟨h1.1, Int.lt_of_lt_of_le h1.2 ?_⟩
  have : ∀ n : Nat, n ≤ 8 → (0 + 1 : Int) * 256 ^ n ≤ 18446744073709551616 := by
    intro n hn
    match n, hn with
    | 0, _ => decide
    | 1, _ => decide
    | 2, _ => decide
    | 3, _ => decide
    | 4, _ => decide
    | 5, _ => decide
    | 6, _ => decide
    | 7, _ => decide
    | 8, _ => decide
  exact this _ hl
theorem sTake_bytL {n : Nat} {s : Src} (h : BytL s.2) : BytL (sTake n s).1 ∧ BytL (sTake n s).2.2 ∧ (sTake n s).1.length ≤ n := by
  unfold sTake
  split
  · split
    · exact ⟨fun x hx => by simp at hx, fun x hx => by simp at hx, by simp⟩
    · exact ⟨fun x hx => h x (List.mem_of_mem_take hx), fun x hx => h x (List.mem_of_mem_drop hx), by simp; omega⟩
  · exact ⟨fun x hx => by simp at hx, h, by simp⟩
theorem sInt_rng {s : Src} (h : BytL s.2) : I64 (sInt s).1 := by
  obtain ⟨h1, _, h3⟩ := sTake_bytL (n := 8) h
  obtain ⟨a, b⟩ := be_rng h1 h3
  unfold sInt i64of I64
  dsimp only
  split <;> omega
theorem sByte_b {s : Src} (h : BytL s.2) : BytL (sByte s).2.2 := (sTake_bytL h).2.1
theorem sInt_b {s : Src} (h : BytL s.2) : BytL (sInt s).2.2 := (sTake_bytL h).2.1
theorem sName_b {s : Src} (h : BytL s.2) : BytL (sName s).2.2 := (sTake_bytL (sByte_b h)).2.1
theorem sCol_b {s : Src} (h : BytL s.2) : BytL (sCol s).2.2 := sByte_b (sByte_b (sName_b h))
theorem sCols_b : ∀ (n : Nat) {s : Src}, BytL s.2 → BytL (sCols n s).2.2
  | 0, s, h => h
  | n + 1, s, h => by
    unfold sCols
    split
    · exact sCols_b n (sCol_b h)
    · exact h
theorem z64 : I64 0 := by unfold I64; omega
theorem rHead_rng {l : List Int} (h : BytL l) : Rng (rHead l).1 ∧ BytL (rHead l).2.2 := by
  have a1 := sName_b (s := (0, l)) h
  have a2 := sByte_b a1
  have a3 := sInt_b a2
  have a4 := sByte_b a3
  have a5 := sCols_b (sByte (sInt (sByte (sName (0, l)).2).2).2).1.toNat a4
  have b0 := sInt_b a5
  have b1 := sInt_b b0
  have b2 := sInt_b b1
  have b3 := sInt_b b2
  have b4 := sInt_b b3
  have b5 := sInt_b b4
  have b6 := sInt_b b5
  exact ⟨⟨sInt_rng a2, sInt_rng a5, sInt_rng b0, sInt_rng b1, sInt_rng b2, sInt_rng b3, sInt_rng b4, sInt_rng b5, z64, z64, z64, z64⟩, b6⟩
theorem boxOf_rng {l : List Int} (h : BytL l) {x : Int × Int × Int × Int} (hx : boxOf l = some x) : I64 x.1 ∧ I64 x.2.1 ∧ I64 x.2.2.1 ∧ I64 x.2.2.2 := by
  have c0 : BytL ((0, l) : Src).2 := h
  have c1 := sInt_b c0
  have c2 := sInt_b c1
  have c3 := sInt_b c2
  unfold boxOf at hx
  split at hx
  · split at hx
    · injection hx with hx
      subst hx
      exact ⟨sInt_rng c0, sInt_rng c2, sInt_rng c1, sInt_rng c3⟩
    · cases hx
  · cases hx
theorem raw_rng {l : List Int} (h : BytL l) {e : Ent} {s : Src} (hr : raw l = (some e, s)) : Rng e := by
  obtain ⟨r, hb⟩ := rHead_rng h
  unfold raw at hr
  split at hr
  · injection hr with h1 h2
    obtain ⟨x, hx, he⟩ := Option.map_eq_some_iff.1 h1
    subst he
    obtain ⟨x1, x2, x3, x4⟩ := boxOf_rng (sTake_bytL (sByte_b hb)).1 hx
    exact ⟨r.srs, r.id, r.tb, r.t0, r.t1, r.t2, r.ct, r.nx, x1, x2, x3, x4⟩
  · injection hr with h1 h2
    injection h1 with h1
    subst h1
    exact r
open Classical in
noncomputable def okR (ok : Ent → Bool) (e : Ent) : Bool := ok e && decide (Rng e)
theorem okR_fit {ok : Ent → Bool} (hok : ∀ e, ok e = true → Bx e) (e : Ent) (h : okR ok e = true) : Fit e := by
  unfold okR at h
  simp only [Bool.and_eq_true, decide_eq_true_eq] at h
  exact fit_of h.2 (hok e h.1)
theorem okR_eq {ok : Ent → Bool} {e : Ent} (h : Rng e) : okR ok e = ok e := by unfold okR; simp [h]
theorem entB_okR {ok : Ent → Bool} {e : Ent} (h : Rng e) : entB (okR ok) e = entB ok e := by unfold entB; rw [okR_eq h]
theorem parse_okR {ok : Ent → Bool} {l : List Int} (h : BytL l) : parse (okR ok) l = parse ok l := by
  unfold parse
  cases hr : raw l with
  | mk a s =>
    cases a with
    | none => rfl
    | some e =>
      dsimp only
      rw [entB_okR (raw_rng h hr)]
/-- An entry comes back from its bytes. -/
theorem back {ok : Ent → Bool} (hok : ∀ e, ok e = true → Bx e) {e : Ent} (hr : Rng e) (h : ok e = true) (hb : BytL (entB ok e)) : parse ok (entB ok e) = some e := by
  have := parse_back (okR ok) (okR_fit hok) e (by rw [okR_eq hr]; exact h)
  rw [entB_okR hr, parse_okR hb] at this
  exact this
/-- .. cut it does not. -/
theorem cut {ok : Ent → Bool} (hok : ∀ e, ok e = true → Bx e) {e : Ent} (hr : Rng e) (n : Nat) (hn : n < (entB ok e).length) (hb : BytL (entB ok e)) : parse ok ((entB ok e).take n) = none := by
  have := parse_cut (okR ok) (okR_fit hok) e n (by rw [entB_okR hr]; exact hn)
  rw [entB_okR hr, parse_okR (fun x hx => hb x (List.mem_of_mem_take hx))] at this
  exact this
/-- .. nor with one byte more. -/
theorem more {ok : Ent → Bool} (hok : ∀ e, ok e = true → Bx e) {e : Ent} (hr : Rng e) (h : entB ok e ≠ []) (hb : BytL (entB ok e)) : parse ok (entB ok e ++ [0]) = none := by
  have := parse_more (okR ok) (okR_fit hok) e 0 [] (by rw [entB_okR hr]; exact h)
  rw [entB_okR hr, parse_okR (fun x hx => by
    rcases List.mem_append.1 hx with hx | hx
    · exact hb x hx
    · simp at hx; subst hx; decide)] at this
  exact this
end Go.Proofs.YtcjidlgmbjebjaaDoor.Sb

namespace Go.Proofs.YtcjidlgmbjebjaaDoor
open Go Go.RowKit Go.Proofs.YtcjidlgmbjebjaaDoorW.PrintWords
/-- What Parse tells: an entry and an error's number. -/
def presE (l : List Int) : Ent := match Sb.parse okE l with | some en => en | none => zeroE
def presN (l : List Int) : Int := match Sb.parse okE l with | some _ => 0 | none => 9
def RetPx (l : List Int) (W : World) (e : Ending) (w' : World) : Prop := ∃ v, e = .returned (.tuple #[entV (presE l) v, .int .i64 (presN l)]) ∧ ColsV w' v (presE l).cs ∧ Below W.heap.size W w'
theorem pe_px {l : List Int} {W : World} {e : Ending} {w' : World} (h : RetPe l W e w') : RetPx l W e w' := by
  rcases h with ⟨en, v, h1, h2, h3, h4⟩ | ⟨h1, h2, h3⟩
  · refine ⟨v, ?_, ?_, h4⟩
    · unfold presE presN; rw [h1]; exact h2
    · unfold presE; rw [h1]; exact h3
  · refine ⟨nilS, ?_, ?_, h3⟩
    · unfold presE presN; rw [h1]; exact h2
    · unfold presE; rw [h1]
      exact ⟨none, 0, 0, 0, rfl, Nat.le_refl _, fun h => absurd h (by simp [zeroE, Sb.Ent.zero]), fun i c hc => by simp [zeroE, Sb.Ent.zero] at hc⟩
theorem good_len {nm : ByteArray} {k srs : Int} {cs : List Col} (h : goodSch nm k srs cs = 0) : cs.length ≤ 50 := by
  cases hh : headOk nm k srs cs.length with
  | false => rw [good_head hh] at h; cases h
  | true =>
    unfold headOk at hh
    simp only [Bool.and_eq_true, decide_eq_true_eq] at hh
    omega
theorem okE_good {e : Ent} (h : okE e = true) : goodSch e.nm e.kd e.srs e.cs = 0 := by
  unfold okE at h
  simp only [Bool.and_eq_true, decide_eq_true_eq] at h
  exact h.1
theorem entB_of {e : Ent} (h : okE e = true) : Sb.entB okE e = Sb.body e := by unfold Sb.entB; rw [h]; rfl
theorem parse_ok {l : List Int} {en : Ent} (h : Sb.parse okE l = some en) : okE en = true := by
  obtain ⟨h1, h2⟩ := Sb.parse_some h
  apply Sb.ok_of_ne
  intro h0
  rw [h0] at h2
  subst h2
  rw [Sb.parse_nil] at h
  cases h
theorem pres_len (l : List Int) : (presE l).cs.length ≤ 50 := by
  unfold presE
  cases h : Sb.parse okE l with
  | none => simp [zeroE, Sb.Ent.zero]
  | some en => exact good_len (okE_good (parse_ok h))
theorem okE_bx : ∀ e, okE e = true → Sb.Bx e := by
  intro e h
  unfold okE at h
  simp only [Bool.and_eq_true] at h
  have hg := h.2.2
  unfold boxG at hg
  cases hn : e.bn with
  | true =>
    rw [hn] at hg
    simp only [if_true, Bool.and_eq_true, decide_eq_true_eq] at hg
    exact ⟨fun _ => ⟨hg.1.1, hg.1.2, hg.2.1, hg.2.2⟩, fun h => by rw [hn] at h; cases h⟩
  | false =>
    rw [hn] at hg
    simp only [Bool.false_eq_true, if_false, Bool.and_eq_true, decide_eq_true_eq] at hg
    exact ⟨fun h => (by rw [hn] at h; cases h), fun _ => hg⟩
theorem sbytes_any (e : Ent) (p : Option Addr) (q c : Nat) (lb : List Int) (hlb : Sb.entB okE e = lb) (hf : EntFits e) (w : World) (hv : ColsV w (.slice p q c) e.cs) : Calls Tryd.prog 40 #[.agg #[.string e.nm, .int .i64 e.kd, .int .i64 e.srs, .slice p q c, .int .i64 e.id, .int .i64 e.tb, .int .i64 e.t0, .int .i64 e.t1, .int .i64 e.t2, .int .i64 e.ct, .int .i64 e.nx, .bool e.bn, .int .i64 e.lx, .int .i64 e.ly, .int .i64 e.hx, .int .i64 e.hy]] w (RetRow lb w) := by
  subst hlb
  exact sbytes_row e (.slice p q c) w hf hv
theorem rsbytes_any (e : Ent) (p : Option Addr) (q c : Nat) (lb : List Int) (hlb : Sb.entB okE e = lb) (hf : EntFits e) (w : World) (hv : ColsV w (.slice p q c) e.cs) : Calls Tryd.prog 41 #[.agg #[.string e.nm, .int .i64 e.kd, .int .i64 e.srs, .slice p q c, .int .i64 e.id, .int .i64 e.tb, .int .i64 e.t0, .int .i64 e.t1, .int .i64 e.t2, .int .i64 e.ct, .int .i64 e.nx, .bool e.bn, .int .i64 e.lx, .int .i64 e.ly, .int .i64 e.hx, .int .i64 e.hy]] w (RetRow lb w) := by
  subst hlb
  exact rsbytes_row e (.slice p q c) w hf hv
theorem entry_any (e : Ent) (p : Option Addr) (q c : Nat) (hl : e.cs.length ≤ 50) (w : World) (hv : ColsV w (.slice p q c) e.cs) :
    Calls Tryd.prog 42 #[.agg #[.string e.nm, .int .i64 e.kd, .int .i64 e.srs, .slice p q c, .int .i64 e.id, .int .i64 e.tb, .int .i64 e.t0, .int .i64 e.t1, .int .i64 e.t2, .int .i64 e.ct, .int .i64 e.nx, .bool e.bn, .int .i64 e.lx, .int .i64 e.ly, .int .i64 e.hx, .int .i64 e.hy]] w (fun x w' => ∃ (p' : Option Addr) (q' c' : Nat), x = .returned (.agg #[.string e.nm, .int .i64 e.kd, .int .i64 e.srs, .slice p' q' c', .int .i64 e.id, .int .i64 e.tb, .int .i64 e.t0, .int .i64 e.t1, .int .i64 e.t2, .int .i64 e.ct, .int .i64 e.nx, .bool e.bn, .int .i64 e.lx, .int .i64 e.ly, .int .i64 e.hx, .int .i64 e.hy]) ∧ ColsV w' (.slice p' q' c') e.cs ∧ Below w.heap.size w w') := by
  refine (entry_val e (.slice p q c) w hl hv).mono ?_
  rintro x w' ⟨v, rfl, h1, h2⟩
  obtain ⟨p', q', c', rfl⟩ := colsV_shape h1
  exact ⟨p', q', c', rfl, h1, h2⟩
theorem requal_any (e : Ent) (hl : e.cs.length ≤ 50) (p : Option Addr) (q c : Nat) (p' : Option Addr) (q' c' : Nat) (w : World) (h1 : ColsV w (.slice p q c) e.cs) (h2 : ColsV w (.slice p' q' c') e.cs) :
    Calls Tryd.prog 43 #[.agg #[.string e.nm, .int .i64 e.kd, .int .i64 e.srs, .slice p q c, .int .i64 e.id, .int .i64 e.tb, .int .i64 e.t0, .int .i64 e.t1, .int .i64 e.t2, .int .i64 e.ct, .int .i64 e.nx, .bool e.bn, .int .i64 e.lx, .int .i64 e.ly, .int .i64 e.hx, .int .i64 e.hy], .agg #[.string e.nm, .int .i64 e.kd, .int .i64 e.srs, .slice p' q' c', .int .i64 e.id, .int .i64 e.tb, .int .i64 e.t0, .int .i64 e.t1, .int .i64 e.t2, .int .i64 e.ct, .int .i64 e.nx, .bool e.bn, .int .i64 e.lx, .int .i64 e.ly, .int .i64 e.hx, .int .i64 e.hy]] w (RetBool true w) := requal_val e _ _ w hl h1 h2
end Go.Proofs.YtcjidlgmbjebjaaDoor

namespace Go.Proofs.YtcjidlgmbjebjaaDoor
open Go Go.RowKit Go.Proofs.YtcjidlgmbjebjaaDoorW.PrintWords
theorem yieldsIf_load_blk {P : Program} {ops : Array Oper} {S : World → Prop} {op : Oper} {a : Act} (hw : Region.wanted op (yielded ops a.tmps) = true) (ty : TypeId) (x : Operand) (ho : op.op = .load ty x)
    (R T : Nat) (hx : a.eval x = .pointer (some ⟨R, 0, none⟩)) (xs : Array Value) {fs : Array Field} (hS : ∀ w, S w → BlkAt w R xs T) (hu : P.underlying ty = some (.struct fs)) (hi : (P.info? ty).map (·.size) = some xs.size) : YieldsIf P ops S op (.agg xs) a :=
  .inl ⟨hw, fun w hw' => by
    unfold execOp
    simp only [ho, hx, Instr.loadAt, Instr.sureAddr, Sem.run_bind, Sem.run_pure, Result.andThen_ok, run_loadVar_row w R T ty xs (0, 0) _ (hS w hw') hu rfl hi]⟩
theorem wpAnyH_mono {P : Program} {md : Region.Mode} {ops : Array Oper} {Q : Exit → Act → World → Prop} {S S' : World → Prop} (h : ∀ w, S' w → S w) : ∀ (fuel : Nat) (listed : Array Bool) (a : Act) (w : World), wpAnyH P md ops Q S' fuel listed a w → wpAnyH P md ops Q S fuel listed a w
  | 0, _, _, _, hh => hh
  | fuel + 1, _, _, _, hh => ⟨hh.1, fun i hi => wpOp_mono (fun a' w' h' => ⟨h _ h'.1, wpAnyH_mono h fuel _ a' w' h'.2⟩) (hh.2 i hi)⟩
theorem entry_ent (e : Ent) (v : Value) (hl : e.cs.length ≤ 50) (w : World) (hv : ColsV w v e.cs) :
    Calls Tryd.prog 42 #[entV e v] w (fun x w' => ∃ v', x = .returned (entV e v') ∧ ColsV w' v' e.cs ∧ Below w.heap.size w w') := entry_val e v w hl hv
theorem sbytes_rowE (e : Ent) (v : Value) (lb : List Int) (hlb : Sb.entB okE e = lb) (hf : EntFits e) (w : World) (hv : ColsV w v e.cs) : Calls Tryd.prog 40 #[entV e v] w (RetRow lb w) := by
  subst hlb
  exact sbytes_row e v w hf hv
theorem rsbytes_rowE (e : Ent) (v : Value) (lb : List Int) (hlb : Sb.entB okE e = lb) (hf : EntFits e) (w : World) (hv : ColsV w v e.cs) : Calls Tryd.prog 41 #[entV e v] w (RetRow lb w) := by
  subst hlb
  exact rsbytes_row e v w hf hv
/-- What stands while SchemaForms's last region goes. -/
structure SF (W : World) (b1 b2 b3 : Nat) (e x : Ent) (v1 v3 v4 : Value) (w : World) : Prop where
  a : BlkAt w b1 (entL e v1) 67
  b : BlkAt w b2 (entL x v3) 67
  c : BlkAt w b3 (entL x v4) 72
  h1 : ColsV w v1 e.cs
  h3 : ColsV w v3 x.cs
  h4 : ColsV w v4 x.cs
  bel : Below W.heap.size W w
theorem SF.step {W : World} {b1 b2 b3 : Nat} {e x : Ent} {v1 v3 v4 : Value} {w w' : World} (h : SF W b1 b2 b3 e x v1 v3 v4 w) (hb : Below w.heap.size w w') : SF W b1 b2 b3 e x v1 v3 v4 w' :=
  ⟨blk_below h.a hb, blk_below h.b hb, blk_below h.c hb, colsV_stays h.h1 hb, colsV_stays h.h3 hb, colsV_stays h.h4 hb, below_step h.bel hb⟩
end Go.Proofs.YtcjidlgmbjebjaaDoor

namespace Go.Proofs.YtcjidlgmbjebjaaDoor.sb
open Go Go.ChangeShapes Go.WideShapes Go.RowKit Go.Joins Go.Proofs.YtcjidlgmbjebjaaDoor.sa
theorem c5 : Tryd.prog.cellsOf 5 = 1 := by kernel_rfl
theorem gatherA {α : Type} {P : Nat → α → Prop} {len : Nat} (h : ∀ i, i < len → ∃ c, P i c) : ∀ n, n ≤ len → ∃ l : List α, l.length = n ∧ ∀ i c, l[i]? = some c → P i c
  | 0, _ => ⟨[], rfl, fun i c hc => by simp at hc⟩
  | n + 1, hn => by
    obtain ⟨l, hl, hp⟩ := gatherA h n (by omega)
    obtain ⟨c, hc⟩ := h n (by omega)
    refine ⟨l ++ [c], by simp [hl], fun i d hd => ?_⟩
    by_cases hi : i < n
    · rw [List.getElem?_append_left (by omega)] at hd
      exact hp i d hd
    · have hlt : i < (l ++ [c]).length := (List.getElem?_eq_some_iff.1 hd).1
      have : i = n := by simp [hl] at hlt; omega
      subst this
      rw [List.getElem?_append_right (by omega), hl] at hd
      simp at hd
      subst hd
      exact hc
theorem add_add (a : Addr) (i j : Nat) : (a.add i).add j = a.add (i + j) := by
  unfold Addr.add
  by_cases hi : i = 0 <;> by_cases hj : j = 0 <;> simp [hi, hj, Nat.add_assoc]
theorem c61 : Tryd.prog.cellsOf 61 = 3 := by kernel_rfl
theorem c63 : Tryd.prog.cellsOf 63 = 2 := by kernel_rfl
theorem c65 : Tryd.prog.cellsOf 65 = 5 := by kernel_rfl
theorem c67 : Tryd.prog.cellsOf 67 = 16 := by kernel_rfl
theorem array16 {α : Type} {cs : Array α} (h : cs.size = 16) : ∃ c0 c1 c2 c3 c4 c5 c6 c7 c8 c9 c10 c11 c12 c13 c14 c15, cs = #[c0, c1, c2, c3, c4, c5, c6, c7, c8, c9, c10, c11, c12, c13, c14, c15] := by
  obtain ⟨l⟩ := cs
  match l, h with
  | [c0, c1, c2, c3, c4, c5, c6, c7, c8, c9, c10, c11, c12, c13, c14, c15], _ => exact ⟨c0, c1, c2, c3, c4, c5, c6, c7, c8, c9, c10, c11, c12, c13, c14, c15, rfl⟩
section
variable {H : Type} {enc : TypeId × Value → H} {P : Program} {w : World} {base : Nat} {spare : Nat → Bool} {held : Bool}
theorem trod_struct7 {t : TypeId} {f0 f1 f2 f3 f4 f5 f6 : Field} {fuel : Nat} {cs : List Value} {x : DataW H × List MemPlace} (ht : P.underlying t = some (.struct #[f0, f1, f2, f3, f4, f5, f6])) (h : DataW.trod enc P w base spare held fuel t cs = some x) :
    ∃ y0 y1 y2 y3 y4 y5 y6 n, DataW.trod enc P w base spare held n f0.type ((cs.drop f0.offset).take (P.cellsOf f0.type)) = some y0 ∧ DataW.trod enc P w base spare held n f1.type ((cs.drop f1.offset).take (P.cellsOf f1.type)) = some y1 ∧
      DataW.trod enc P w base spare held n f2.type ((cs.drop f2.offset).take (P.cellsOf f2.type)) = some y2 ∧ DataW.trod enc P w base spare held n f3.type ((cs.drop f3.offset).take (P.cellsOf f3.type)) = some y3 ∧
      DataW.trod enc P w base spare held n f4.type ((cs.drop f4.offset).take (P.cellsOf f4.type)) = some y4 ∧ DataW.trod enc P w base spare held n f5.type ((cs.drop f5.offset).take (P.cellsOf f5.type)) = some y5 ∧
      DataW.trod enc P w base spare held n f6.type ((cs.drop f6.offset).take (P.cellsOf f6.type)) = some y6 := by
  obtain ⟨xs, n, _, rfl, hl, hlen, hf⟩ := DataW.trod_struct ht h
  match xs, hlen with
  | [y0, y1, y2, y3, y4, y5, y6], _ => exact ⟨y0, y1, y2, y3, y4, y5, y6, n, by simpa using hf 0 f0 rfl, by simpa using hf 1 f1 rfl, by simpa using hf 2 f2 rfl, by simpa using hf 3 f3 rfl, by simpa using hf 4 f4 rfl, by simpa using hf 5 f5 rfl, by simpa using hf 6 f6 rfl⟩
end
theorem wf64 {n : Int} (h : (Lit.int .i64 n).wf = true) : Sb.I64 n := by
  simp only [Lit.wf, Bool.and_eq_true, decide_eq_true_eq] at h
  obtain ⟨h1, h2⟩ := h
  have e1 : IntKind.i64.min = -9223372036854775808 := by decide
  have e2 : IntKind.i64.max = 9223372036854775807 := by decide
  unfold Sb.I64
  omega
theorem wfu64 {n : Int} (h : (Lit.int .u64 n).wf = true) : 0 ≤ n ∧ n < 18446744073709551616 := by
  simp only [Lit.wf, Bool.and_eq_true, decide_eq_true_eq] at h
  obtain ⟨h1, h2⟩ := h
  have e1 : IntKind.u64.min = 0 := by decide
  have e2 : IntKind.u64.max = 18446744073709551615 := by decide
  omega
theorem wf8 {n : Int} (h : (Lit.int .u8 n).wf = true) : 0 ≤ n ∧ n < 256 := by
  simp only [Lit.wf, Bool.and_eq_true, decide_eq_true_eq] at h
  obtain ⟨h1, h2⟩ := h
  have e1 : IntKind.u8.min = 0 := by decide
  have e2 : IntKind.u8.max = 255 := by decide
  omega
section
variable {H : Type} {enc : TypeId × Value → H} {W : World} {b0 : Nat} {sp : Nat → Bool} {held : Bool}
theorem open_ent {r : Reach} {v : Value} {d : DataW H} {p : List MemPlace} (hv : Value.okWide Tryd.prog W r b0 67 v) (h : DataW.Trod enc Tryd.prog W 0 sp held 67 v d p) :
    ∃ (e : Ent) (c : Value), v = entV e c ∧ e.nm.size ≤ 9223372036854775807 ∧ ColsV W c e.cs ∧ e.cs.length ≤ 9223372036854775807 ∧ (∀ d ∈ e.cs, d.1.size ≤ 9223372036854775807) ∧ Sb.Rng e := by
  obtain ⟨cs, rfl, hsz⟩ := okWide_struct Tryd.underlying67 hv
  obtain ⟨v0, v1, v2, v3, v4, v5, v6, v7, v8, v9, v10, v11, v12, v13, v14, v15, rfl⟩ := array16 (hsz.trans c67)
  obtain ⟨fuel, hf⟩ := h
  obtain ⟨z0, z1, z2, z3, z4, z5, z6, m, k0, k1, k2, k3, k4, k5, k6⟩ := trod_struct7 Tryd.underlying67 hf
  simp only [Value.cells, c3, c24, c61, c65, List.drop_zero, List.drop_succ_cons, List.take_succ_cons, List.take_zero] at k0 k1 k2 k3 k4 k5 k6
  obtain ⟨_, _, _, _, m0, _, _, s0, s1, s2, s3⟩ := trod_struct4 Tryd.underlying24 k0
  simp only [c3, c9, c22, List.drop_zero, List.drop_succ_cons, List.take_succ_cons, List.take_zero] at s0 s1 s2 s3
  obtain ⟨sn, e0, _, hs⟩ := DataW.trod_string Tryd.underlying9 s0
  obtain ⟨sk, e1, _, _⟩ := DataW.trod_int Tryd.underlying3 s1
  obtain ⟨sr, e2, _, r2⟩ := DataW.trod_int Tryd.underlying3 s2
  obtain ⟨cs, hco, hl, hz⟩ := open_cols s3
  obtain ⟨a4, e4, _, r4⟩ := DataW.trod_int Tryd.underlying3 k1
  obtain ⟨a5, e5, _, r5⟩ := DataW.trod_int Tryd.underlying3 k2
  obtain ⟨_, _, _, m3, _, _, t0, t1, t2⟩ := Go.Deep.trod_struct3 Tryd.underlying61 k3
  simp only [c3, List.drop_zero, List.drop_succ_cons, List.take_succ_cons, List.take_zero] at t0 t1 t2
  obtain ⟨a6, e6, _, r6⟩ := DataW.trod_int Tryd.underlying3 t0
  obtain ⟨a7, e7, _, r7⟩ := DataW.trod_int Tryd.underlying3 t1
  obtain ⟨a8, e8, _, r8⟩ := DataW.trod_int Tryd.underlying3 t2
  obtain ⟨a9, e9, _, r9⟩ := DataW.trod_int Tryd.underlying3 k4
  obtain ⟨a10, e10, _, r10⟩ := DataW.trod_int Tryd.underlying3 k5
  obtain ⟨_, _, _, m6, _, _, u0, u1, u2⟩ := Go.Deep.trod_struct3 Tryd.underlying65 k6
  simp only [c4, c63, List.drop_zero, List.drop_succ_cons, List.take_succ_cons, List.take_zero] at u0 u1 u2
  obtain ⟨a11, e11, _⟩ := DataW.trod_bool Tryd.underlying4 u0
  obtain ⟨_, _, m7, _, _, g0, g1⟩ := trod_struct2 Tryd.underlying63 u1
  obtain ⟨_, _, m8, _, _, g2, g3⟩ := trod_struct2 Tryd.underlying63 u2
  simp only [c3, List.drop_zero, List.drop_succ_cons, List.take_succ_cons, List.take_zero] at g0 g1 g2 g3
  obtain ⟨a12, e12, _, r12⟩ := DataW.trod_int Tryd.underlying3 g0
  obtain ⟨a13, e13, _, r13⟩ := DataW.trod_int Tryd.underlying3 g1
  obtain ⟨a14, e14, _, r14⟩ := DataW.trod_int Tryd.underlying3 g2
  obtain ⟨a15, e15, _, r15⟩ := DataW.trod_int Tryd.underlying3 g3
  simp only [List.cons.injEq, and_true] at e0 e1 e2 e4 e5 e6 e7 e8 e9 e10 e11 e12 e13 e14 e15
  subst e0 e1 e2 e4 e5 e6 e7 e8 e9 e10 e11 e12 e13 e14 e15
  exact ⟨⟨sn, sk, sr, cs, a4, a5, a6, a7, a8, a9, a10, a11, a12, a13, a14, a15⟩, _, rfl, hs, hco, hl, hz, ⟨wf64 r2, wf64 r4, wf64 r5, wf64 r6, wf64 r7, wf64 r8, wf64 r9, wf64 r10, wf64 r12, wf64 r13, wf64 r14, wf64 r15⟩⟩
theorem open_uint {r : Reach} {v : Value} {d : DataW H} {p : List MemPlace} (hv : Value.okWide Tryd.prog W r b0 80 v) (h : DataW.Trod enc Tryd.prog W 0 sp held 80 v d p) : ∃ n : Int, v = .int .u64 n ∧ 0 ≤ n ∧ n < 18446744073709551616 := by
  obtain ⟨n, rfl⟩ := okWide_int Tryd.underlying80 hv
  obtain ⟨fuel, hf⟩ := h
  obtain ⟨m, e, _, hw⟩ := DataW.trod_int Tryd.underlying80 hf
  simp [Value.cells] at e
  subst e
  exact ⟨n, rfl, wfu64 hw⟩
theorem open_bytesB {r : Reach} {v : Value} {d : DataW H} {p : List MemPlace} (hv : Value.okWide Tryd.prog W r b0 43 v) (h : DataW.Trod enc Tryd.prog W 0 sp held 43 v d p) : ∃ (A : Option Addr) (cb : Nat) (lb : List Int), v = .slice A lb.length cb ∧ SlB W (.slice A lb.length cb) lb ∧ Byt lb := by
  obtain ⟨a0, len0, cap0, rfl⟩ := okWide_slice Tryd.underlying43 hv
  obtain ⟨fuel, h⟩ := h
  rcases DataW.trod_slice Tryd.underlying43 h with ⟨hc, _⟩ | ⟨a, len, cap, elems, rest, m, _, hc, _, hb, hl, hcap, he, hel, _⟩
  · simp [Value.cells] at hc
    obtain ⟨rfl, rfl, rfl⟩ := hc
    exact ⟨none, 0, [], rfl, slb_nil W none 0, fun x hx => by simp at hx⟩
  · simp [Value.cells] at hc
    obtain ⟨rfl, rfl, rfl⟩ := hc
    have hcap : cap0 ≤ 9223372036854775807 := hcap
    rw [c5] at hel
    have hcell : ∀ i, i < len0 → ∃ d : Int, (0 ≤ d ∧ d < 256) ∧ W.cell? (a.add i) = some (.int .u8 d) := fun i hi => by
      have h1 := hel i hi
      rw [List.getElem?_eq_getElem (by omega)] at h1
      obtain ⟨cs, h2, h3⟩ := Option.bind_eq_some_iff.1 h1
      obtain ⟨_, hlen, hcs⟩ := World.cells?_some h2
      obtain ⟨z, e1, _, hz⟩ := DataW.trod_int Tryd.underlying5 h3
      subst e1
      have := hcs 0 (by simp)
      rw [add_add, Nat.mul_one, Nat.add_zero] at this
      exact ⟨z, wf8 hz, this⟩
    obtain ⟨l, hll, hlp⟩ := gatherA hcell len0 (Nat.le_refl _)
    refine ⟨some a, cap0, l, by rw [hll], ⟨some a, cap0, rfl, by omega, rfl, by omega, fun _ => ⟨a, rfl, fun j p hp => ⟨[.int .u8 p], rfl, rfl, fun i u hu => ?_⟩⟩⟩, fun x hx => ?_⟩
    · have hi : i = 0 := by
        have := (List.getElem?_eq_some_iff.1 hu).1
        simp at this
        exact this
      subst hi
      simp at hu
      subst hu
      have h2 := (hlp j p hp).2
      show W.cell? (Addr.add a (j * 1 + 0)) = _
      rw [Nat.mul_one, Nat.add_zero]
      exact h2
    · obtain ⟨i, hi, rfl⟩ := List.getElem_of_mem hx
      exact (hlp i _ (List.getElem?_eq_getElem hi)).1
end
end Go.Proofs.YtcjidlgmbjebjaaDoor.sb

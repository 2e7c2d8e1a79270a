/- The evaluator: an environment out of a program; a form that the kernel runs faster; from a run to a contract of a call. -/
import Derived.Test.YtcjidlgmbjebjaaDoorEvC
import Derived.KernelRfl
import Derived.OpenShut
import Derived.ChangeVars
import Derived.Below
import Derived.FnData
import Derived.Lib.SmallJoins
set_option linter.unusedVariables false
set_option linter.unusedSimpArgs false
/- An environment out of a program. -/
namespace Go.Proofs.YtcjidlgmbjebjaaDoor.Ev
open Go
noncomputable section

def tiOf (P : Program) (t : Nat) (i : TypeInfo) (d : TypeDesc) : TI :=
  { desc := d, size := i.size, bytes := i.bytes, agg := aggD d, zero := i.zero.bind (constV 8), comparable := i.comparable, methods := i.methods.toList,
    guard := P.eqGuardType P.depth t, stood := P.stoodInHeld t }
theorem info_eq {P : Program} {t : Nat} {i : TypeInfo} (h : P.types[t]? = some i) : P.info? t = some i := by
  have hlt : t < P.types.size := (Array.getElem?_eq_some_iff.1 h).1
  show P.toTables.info? t = _
  unfold Tables.info?
  rw [if_pos hlt]
  exact h
theorem tiOf_ok {P : Program} {t : Nat} {i : TypeInfo} {d : TypeDesc} (h1 : P.types[t]? = some i) (h2 : P.underlying t = some d) : ∃ i', TIOk P t (tiOf P t i d) i' :=
  ⟨i, info_eq h1, h2, rfl, rfl, rfl, fun z hz => by
    have hz : i.zero.bind (constV 8) = some z := hz
    obtain ⟨z', hz', h⟩ := Option.bind_eq_some_iff.1 hz
    exact ⟨z', hz', fun φ => constV_ok 8 _ _ h⟩, rfl, rfl, rfl, rfl⟩
/-- What holds of each entry of a tree. -/
def AllT {α : Type} (p : Nat → α → Prop) (t : T α) : Prop := ∀ k v, t.get k = some v → p k v
theorem AllT.e {α : Type} {p : Nat → α → Prop} : AllT p .e := fun k v h => by rw [T.get_e] at h; cases h
theorem AllT.n {α : Type} {p : Nat → α → Prop} {l r : T α} {x : α} (h0 : p 0 x) (hl : AllT (fun k => p (2 * k + 1)) l) (hr : AllT (fun k => p (2 * k + 2)) r) : AllT p (.n l (some x) r) := by
  intro k v h
  rw [T.get_n] at h
  by_cases hk : k = 0
  · rw [if_pos hk] at h
    have := Option.some.inj h; subst this
    rw [hk]; exact h0
  · rw [if_neg hk] at h
    by_cases h2 : k % 2 = 1
    · rw [if_pos h2] at h
      have : p (2 * (k / 2) + 1) v := hl (k / 2) v h
      rwa [show 2 * (k / 2) + 1 = k by omega] at this
    · rw [if_neg h2] at h
      have : p (2 * (k / 2 - 1) + 2) v := hr (k / 2 - 1) v h
      rwa [show 2 * (k / 2 - 1) + 2 = k by omega] at this
def TiP (P : Program) (t : Nat) (x : TI) : Prop := ∃ i, TIOk P t x i
def FnP (P : Program) (f : Nat) (x : Func) : Prop := P.funcs[f]? = some x ∧ (x.name == "runtime.NumGoroutine") = false
def ExP (P : Program) (f k : Nat) : Prop := k ≠ 0 → ExtOk P f k
def ekOf (eks : T Nat) (f : Nat) : Nat :=
  match eks.get f with
  | some k => k
  | none => 0
def envOf (tis : T TI) (fns : T Func) (eks : T Nat) (n : Nat) (base : Nat → Option Pl) : Env := { ti := tis.get, fn := fns.get, nglob := n, base := base, ek := ekOf eks }
theorem envOf_ok {P : Program} {tis : T TI} {fns : T Func} {eks : T Nat} (n : Nat) (base : Nat → Option Pl) (h1 : AllT (TiP P) tis) (h2 : AllT (FnP P) fns) (h3 : AllT (ExP P) eks) (h5 : P.follows .mixedOrders = true) : EnvOk (envOf tis fns eks n base) P :=
  ⟨fun f h => by
    have hk : (envOf tis fns eks n base).ek f = ekOf eks f := rfl
    rw [hk] at h ⊢
    unfold ekOf at h ⊢
    cases hg : eks.get f with
    | none => rw [hg] at h; exact absurd rfl h
    | some k => rw [hg] at h; exact h3 f k hg h, fun t x h => h1 t x h, fun f x h => h2 f x h, h5⟩
/-- A tree's entry, none here. -/
theorem AllT.skip {α : Type} {p : Nat → α → Prop} {l r : T α} (hl : AllT (fun k => p (2 * k + 1)) l) (hr : AllT (fun k => p (2 * k + 2)) r) : AllT p (.n l none r) := by
  intro k v h
  rw [T.get_n] at h
  by_cases hk : k = 0
  · rw [if_pos hk] at h; cases h
  · rw [if_neg hk] at h
    by_cases h2 : k % 2 = 1
    · rw [if_pos h2] at h
      have : p (2 * (k / 2) + 1) v := hl (k / 2) v h
      rwa [show 2 * (k / 2) + 1 = k by omega] at this
    · rw [if_neg h2] at h
      have : p (2 * (k / 2 - 1) + 2) v := hr (k / 2 - 1) v h
      rwa [show 2 * (k / 2 - 1) + 2 = k by omega] at this
end
end Go.Proofs.YtcjidlgmbjebjaaDoor.Ev

/- The evaluator again, laid so that the kernel runs it faster; that it is the same. -/
namespace Go.Proofs.YtcjidlgmbjebjaaDoor.Ev
open Go
noncomputable section

def constQ (v : Value) : Option V :=
  match v with
  | .int k m => some (.int k m)
  | .bool b => some (.bool b)
  | .string s => some (.str s.data.toList.length (packBytes s.data.toList))
  | v => constV 8 v
theorem constQ_eq (v : Value) : constQ v = constV 8 v := by cases v <;> rfl
def valQ (x : Operand) : Env → T V → Option V :=
  match x with
  | .tmp t => fun _ tm => some ((tm.get t).getD vundef)
  | .const v => fun _ _ => constQ v
  | .global g => fun E _ =>
    match Nat.blt g E.nglob with
    | true => some (.ptr g 0)
    | false => none
  | .func f => fun _ _ => some (.func (.func f) [] [])
theorem valQ_eq (x : Operand) (E : Env) (tm : T V) : valQ x E tm = valO E tm x := by
  cases x <;> simp only [valQ, valO, constQ_eq] <;> rfl
def readQ (op : Op) : Env → Heap → T V → Option V :=
  match op with
  | .move x => fun E _ tm => valQ x E tm
  | .assign x => fun E _ tm => valQ x E tm
  | .pick c x y => fun E _ tm => (valQ c E tm).bind fun v =>
    match v with
    | .bool b =>
      match b with
      | true => valQ x E tm
      | false => valQ y E tm
    | _ => none
  | .build t parts => fun E _ tm => (partsO E tm parts.toList).bind fun ps => buildV E t ps
  | .load t x => fun E H tm => (valQ x E tm).bind fun v =>
    match v with
    | .ptr r off => loadVar E H t r off
    | _ => none
  | .nilCheck x => fun E _ tm => (valQ x E tm).bind fun v => nilCheckV v
  | .binOp op t x y _ => fun E _ tm => (valQ x E tm).bind fun u => (valQ y E tm).bind fun v => binOpV E op t (isConstO x) (isConstO y) u v
  | .unOp op _ x => fun E _ tm => (valQ x E tm).bind fun u => unOpV op u
  | .convert src dst x => fun E H tm => (valQ x E tm).bind fun u => convertR E H src dst u
  | .makeInterface t x => fun E _ tm => (valQ x E tm).bind fun u => makeIfaceV E t u
  | .slice t x lo hi mx => fun E H tm => (valQ x E tm).bind fun u => (optO E tm lo).bind fun lo => (optO E tm hi).bind fun hi => (optO E tm mx).bind fun mx => sliceV E H t u lo hi mx
  | .fieldAddr t x f => fun E _ tm => (valQ x E tm).bind fun u => fieldAddrV E t u f
  | .field t x f => fun E _ tm => (valQ x E tm).bind fun u => fieldV E t u f
  | .indexAddr t x i => fun E _ tm => (valQ x E tm).bind fun u => (valQ i E tm).bind fun v => indexAddrV E t u v
  | .index t x i => fun E _ tm => (valQ x E tm).bind fun u => (valQ i E tm).bind fun v => indexV E t u v
  | .typeAssert x _ t ok => fun E _ tm => (valQ x E tm).bind fun u => typeAssertV E u t ok
  | .extract x i => fun E _ tm => (valQ x E tm).bind fun u => extractV u i
  | .entry x => fun E H tm => (valQ x E tm).bind fun u => entryV H u
  | .lookup t x i ok => fun E H tm => (valQ x E tm).bind fun u => (valQ i E tm).bind fun v => lookupV E H t u v ok
  | op => fun E H tm => readOp E H tm op
theorem readQ_eq (op : Op) (E : Env) (H : Heap) (tm : T V) : readQ op E H tm = readOp E H tm op := by
  cases op <;> simp only [readQ, readOp, valQ_eq] <;> rfl
def stepQ (E : Env) (H : Heap) (tm : T V) (op : Op) : Option NX :=
  match kindOp op with
  | 0 => (readQ op E H tm).bind fun v => some (.value v H)
  | 1 => (allocOp E H.next tm op).bind fun q => some (.value q.1 (H.new q.2))
  | 2 => actOp E H tm op
  | _ =>
    match readQ op E H tm with
    | some v => some (.value v H)
    | none => actOp E H tm op
theorem stepQ_eq (E : Env) (H : Heap) (tm : T V) (op : Op) : stepQ E H tm op = stepOp E H tm op := by
  unfold stepQ stepOp
  simp only [readQ_eq]
  rfl
def nxQ (nx : NX) : Rec → K → Fm → Heap → Option (V × List DV × Heap) :=
  match nx with
  | .value v H' => fun _ _ fr _ => some (v, fr.df, H')
  | .same v => fun _ _ fr H => some (v, fr.df, H)
  | .enter f args => fun rec_ _ fr H => (runCall rec_ f args false H).bind fun r => some (r.1, fr.df, r.2)
  | .round l args => fun rec_ _ fr H => (runRound rec_ l args H).bind fun r => some (.bool r.1, fr.df, r.2)
  | .defer f args caps => fun _ q fr H =>
    match q.ro with
    | none => some (vundef, .call f args caps :: fr.df, H)
    | some _ => none
  | .recover => fun _ q fr H =>
    match q.rc with
    | true => some (.nilIface, fr.df, H)
    | false => none
def fullQ (E : Env) (rec_ : Rec) (q : K) (fr : Fm) (H : Heap) (op : Op) : Option (V × List DV × Heap) := (stepQ E H fr.tm op).bind fun nx => nxQ nx rec_ q fr H
theorem fullQ_eq (E : Env) (rec_ : Rec) (q : K) (fr : Fm) (H : Heap) (op : Op) : fullQ E rec_ q fr H op = fullOp E rec_ q fr H op := by
  unfold fullQ fullOp
  rw [stepQ_eq]
  congr 1
  funext nx
  cases nx <;> rfl
def runQ (E : Env) (rec_ : Rec) (q : K) (ops : List Oper) : List Oper → T V → List DV → Heap → Option (Fm × Heap)
  | [], tm, df, H => some ({ tm := tm, df := df }, H)
  | o :: rest, tm, df, H =>
    match o.guard with
    | none =>
      match kindOp o.op with
      | 0 => (readQ o.op E H tm).bind fun v => (putT q.nt tm o.dst v).bind fun tm => runQ E rec_ q ops rest tm df H
      | _ => (fullQ E rec_ q { tm := tm, df := df } H o.op).bind fun r => (putT q.nt tm o.dst r.1).bind fun tm => runQ E rec_ q ops rest tm r.2.1 r.2.2
    | some _ => (wantedV ops tm o).bind fun w =>
      match w with
      | false => (putT q.nt tm o.dst vundef).bind fun tm => runQ E rec_ q ops rest tm df H
      | true => (fullQ E rec_ q { tm := tm, df := df } H o.op).bind fun r => (putT q.nt tm o.dst r.1).bind fun tm => runQ E rec_ q ops rest tm r.2.1 r.2.2
theorem runQ_eq (E : Env) (rec_ : Rec) (q : K) (ops : List Oper) : ∀ (l : List Oper) (tm : T V) (df : List DV) (H : Heap), runQ E rec_ q ops l tm df H = runOps E rec_ q ops l { tm := tm, df := df } H
  | [], tm, df, H => rfl
  | o :: rest, tm, df, H => by
    have ih := runQ_eq E rec_ q ops rest
    rw [runQ, runOps]
    cases hg : o.guard with
    | some g =>
      simp only [fullQ_eq, ih]
      rfl
    | none =>
      have hw : wantedV ops tm o = some true := by unfold wantedV; rw [hg]
      rw [hw]
      simp only [Option.bind_some]
      split
      · rename_i hk
        unfold fullOp stepOp
        rw [hk]
        simp only [readQ_eq]
        cases readOp E H tm o.op with
        | none => rfl
        | some v => simp only [Option.bind_some, ih]
      · simp only [fullQ_eq, ih]

def codeQ (c : Code) : Env → Rec → K → Fm → Heap → Option Out :=
  match c with
  | .skip => fun _ _ _ fr H => some (.code .normal fr H)
  | .label _ => fun _ _ _ fr H => some (.code .normal fr H)
  | .region _ ops draw =>
    match draw with
    | false => fun E rec_ q fr H => (runQ E rec_ q ops.toList ops.toList fr.tm fr.df H).bind fun r => some (.code .normal r.1 r.2)
    | true => fun E rec_ q fr H => (drawV E rec_ q ops.toList fr H).bind fun r => some (.code .normal r.1 r.2)
  | .seq x y => fun _ rec_ q fr H => (runCode rec_ q x fr H).bind fun s => thenV s fun fr H => rec_ (.code q y fr) H
  | .cond c x y => fun E rec_ q fr H => (valQ c E fr.tm).bind fun v =>
    match v with
    | .bool b =>
      match b with
      | true => rec_ (.code q x fr) H
      | false => rec_ (.code q y fr) H
    | _ => none
  | .block id c => fun _ rec_ q fr H => (runCode rec_ q c fr H).bind fun s =>
    match s.1 with
    | .exit id' =>
      match Nat.beq id' id with
      | true => some (.code .normal s.2.1 s.2.2)
      | false => some (.code (.exit id') s.2.1 s.2.2)
    | x => some (.code x s.2.1 s.2.2)
  | .loop c => fun _ rec_ q fr H => (runCode rec_ q c fr H).bind fun s => thenV s fun fr H => rec_ (.again q c fr) H
  | .exit id => fun _ _ _ fr H => some (.code (.exit id) fr H)
  | .goto l => fun _ _ _ fr H => some (.code (.goto l) fr H)
  | .ret => fun _ _ _ fr H => some (.code .ret fr H)
  | .rangeFunc g ps asg body => fun E rec_ q fr H => rangeFuncV E rec_ q g ps.toList asg body fr H
  | .scope c => fun _ rec_ q fr H => rec_ (.within q c c fr) H
  | .refuse _ => fun _ _ _ _ _ => none
theorem codeQ_eq (c : Code) (E : Env) (rec_ : Rec) (q : K) (fr : Fm) (H : Heap) : codeQ c E rec_ q fr H = codeV E rec_ q c fr H := by
  cases c <;> try rfl
  case region i ops d => cases d <;> simp only [codeQ, codeV, runQ_eq]
  case cond c x y => simp only [codeQ, codeV, valQ_eq]; rfl
def stepEQ (t : Task) : Env → Rec → Heap → Option Out :=
  match t with
  | .code q c fr => fun E rec_ H => codeQ c E rec_ q fr H
  | .again q c fr => fun _ rec_ H => (runCode rec_ q c fr H).bind fun s => thenV s fun fr H => rec_ (.again q c fr) H
  | .within q body c fr => fun _ rec_ H => withinV rec_ q body c fr H
  | .call f args df => fun E rec_ H => callV E rec_ f args df H
def evalQ (E : Env) : Nat → Rec
  | 0 => fun _ _ => none
  | n + 1 => fun t H => stepEQ t E (evalQ E n) H
theorem evalQ_eq (E : Env) : ∀ n, evalQ E n = eval E n
  | 0 => rfl
  | n + 1 => by
    funext t H
    show stepEQ t E (evalQ E n) H = stepE E (eval E n) t H
    rw [evalQ_eq E n]
    cases t <;> simp only [stepEQ, stepE, codeQ_eq]
end
end Go.Proofs.YtcjidlgmbjebjaaDoor.Ev

/- From a run of the evaluator to what a call comes to. -/
namespace Go.Proofs.YtcjidlgmbjebjaaDoor.Ev
open Go Go.RowKit
noncomputable section

theorem Fr.below {φ φ' : Pm} {G G' : Look} {W W' : World} (h : Fr φ G W φ' G' W') (hro : ∀ b, ¬ Wr φ G b) : Below W.heap.size W W' :=
  ⟨h.os, h.tape, h.output, h.size, fun k hk => h.keep k hk (hro k)⟩

/-- A call whose run the evaluator ends, from a world of which nothing may be written. -/
theorem calls_of_run {E : Env} {P : Program} (hE : EnvOk E P) {φ : Pm} {H : Heap} {W : World} {n : Nat} {f : FuncId} {args : List V} {v : V} {H' : Heap} (h : evalQ E n (.call f args false) H = some (.call v H'))
    {args' : Array Value} (hs : St E φ H W) (hg : GR E φ) (ha : VRs φ args args'.toList) (hro : ∀ b, ¬ Wr φ H.look b) :
    Calls P f args' W fun e W' => ∃ φ' v', e = .returned v' ∧ VR φ' v v' ∧ Below W.heap.size W W' := by
  rw [evalQ_eq] at h
  exact (calls_of_eval hE h hs hg ha).mono fun e W' ⟨φ', v', h1, h2, h3⟩ => ⟨φ', v', h1, h2, h3.fr.below hro⟩

/- ### the state at the beginning -/
/-- A package-level variable that may be read. -/
structure Glob where
  elem : Nat
  esz : Nat
  cells : Cells
def globP (gs : Nat → Option Glob) (g : Nat) : Pl :=
  match gs g with
  | some x => ⟨g, 0, x.cells.toList.length, x.cells.toList.length, x.esz, false, true, none⟩
  | none => ⟨g, 0, 0, 0, 0, false, true, none⟩
def phi0 (gs : Nat → Option Glob) (n : Nat) (base : Nat → Option Pl) : Pm := fun g => if g < n then some (globP gs g) else base g
def objOf (x : Glob) : Obj := .row x.elem x.cells false true
structure GlobOk (E : Env) (W : World) (g : Nat) (x : Glob) : Prop where
  esz : E.size x.elem = some x.esz
  blk : g < W.heap.size
  cell : ∃ l', VRs (fun _ => none) x.cells.toList l' ∧ (∀ v ∈ l', v.oneCell' = true) ∧ ∀ (i : Nat) (v : Value), l'[i]? = some v → W.cell? ⟨g, i, none⟩ = some v
theorem Le.none (φ : Pm) : Le (fun _ => none) φ := fun _ _ h => by cases h
/-- The state at the beginning: n package-level variables, opaque inputs by number from n on. -/
theorem St.begin {E : Env} {W : World} {gs : Nat → Option Glob} {n : Nat} {base : Nat → Option Pl} {H : Heap} (hn : n ≤ H.next) (hbase : ∀ r p, base r = some p → r < H.next) (hlook : ∀ r o, H.look r = some o → ∃ x, gs r = some x ∧ o = objOf x ∧ r < n)
    (hok : ∀ g x, gs g = some x → g < n → GlobOk E W g x) : St E (phi0 gs n base) H W ∧ ∀ b, ¬ Wr (phi0 gs n base) H.look b := by
  have hro : ∀ r p, r < n → phi0 gs n base r = some p → p.ro = true := fun r p hr h => by
    unfold phi0 at h
    rw [if_pos hr] at h
    have := Option.some.inj h; subst this
    unfold globP
    split <;> rfl
  refine ⟨⟨fun r p h => ?_, ?_, ?_, ?_⟩, ?_⟩
  · unfold phi0 at h
    split at h
    · omega
    · exact hbase r p h
  · intro r o p ho hp
    obtain ⟨x, hx, rfl, hr⟩ := hlook r o ho
    obtain ⟨h1, hblk, l', h2, h3, h4⟩ := hok r x hx hr
    unfold phi0 at hp
    rw [if_pos hr] at hp
    have := Option.some.inj hp; subst this
    have hg : globP gs r = ⟨r, 0, x.cells.toList.length, x.cells.toList.length, x.esz, false, true, .none⟩ := by unfold globP; rw [hx]
    rw [hg]
    have hcell : ∀ i v, x.cells.toList[i]? = some v → ∃ v', W.cell? ⟨r, 0 + i, Option.none⟩ = some v' ∧ VR (phi0 gs n base) v v' ∧ v'.oneCell' = true := fun i v hv => by
      obtain ⟨v', hv', hvr⟩ := h2.get hv
      exact ⟨v', by rw [Nat.zero_add]; exact h4 i v' hv', hvr.mono (Le.none _), h3 v' (List.mem_of_getElem? hv')⟩
    refine ⟨h1, rfl, Nat.le_refl _, rfl, rfl, fun _ => rfl, hcell, fun i hi => ?_, fun h => by cases h⟩
    obtain ⟨v', h5, _⟩ := hcell i _ (List.getElem?_eq_getElem hi)
    have : adr ⟨r, 0, x.cells.toList.length, x.cells.toList.length, x.esz, false, true, .none⟩ i = ⟨r, 0 + i, Option.none⟩ := rfl
    rw [this, h5]; rfl
  · intro r r' o o' p p' hne ho ho' _ _ hp hp' hf
    obtain ⟨x, hx, _, hr⟩ := hlook r o ho
    rw [hro r p hr hp] at hf; cases hf
  · intro r o p ho hl hp
    obtain ⟨x, hx, rfl, hr⟩ := hlook r o ho
    obtain ⟨h1, hblk, l', h2, h3, h4⟩ := hok r x hx hr
    unfold phi0 at hp
    rw [if_pos hr] at hp
    have := Option.some.inj hp; subst this
    have hg : (globP gs r).blk = r := by unfold globP; rw [hx]
    rw [hg]; exact hblk
  · rintro b ⟨r, o, p, ho, _, hp, hf, _⟩
    obtain ⟨x, hx, _, hr⟩ := hlook r o ho
    rw [hro r p hr hp] at hf; cases hf
theorem GR.begin {E : Env} {gs : Nat → Option Glob} (hb : ∀ r p, E.base r = some p → E.nglob ≤ r) : GR E (phi0 gs E.nglob E.base) := by
  refine ⟨fun g hg => ⟨globP gs g, by unfold phi0; rw [if_pos hg], ?_, ?_⟩, fun r p h => ?_⟩
  · unfold globP; split <;> rfl
  · unfold globP; split <;> rfl
  · unfold phi0
    rw [if_neg (Nat.not_lt.2 (hb r p h))]; exact h

/-- A laid table of whole numbers. -/
theorem tab_ints {H : Type} {enc : TypeId × Value → H} {P : Program} {w : World} {base : Nat} {sp : Nat → Bool} {held : Bool} {fuel : Nat} {t e n : Nat} {k : IntKind} {cs : List Value} {zs : List Int} {ps : List MemPlace}
    (ht : P.underlying t = some (.array n e)) (he : P.underlying e = some (.int k)) (hc : P.cellsOf e = 1) (hC : P.cellsOf t = n)
    (h : DataW.trod enc P w base sp held fuel t cs = some (.agg (zs.map fun z => .lit (.int k z)), ps)) : cs = zs.map (Value.int k) := by
  obtain ⟨xs, m, rfl, hx, hl, hn, hi⟩ := DataW.trod_array ht h
  simp only [Prod.mk.injEq, DataW.agg.injEq] at hx
  obtain ⟨hx, _⟩ := hx
  have hlen : zs.length = n := by
    have := congrArg List.length hx
    simp at this
    omega
  apply List.ext_getElem?
  intro i
  by_cases hin : i < n
  · have h1 := hi i hin
    rw [hc, Nat.mul_one] at h1
    have hci : i < cs.length := by omega
    have h2 : (cs.drop i).take 1 = [cs[i]] := by
      rw [List.drop_eq_getElem_cons hci, List.take_succ_cons, List.take_zero]
    rw [h2] at h1
    obtain ⟨y, hy⟩ : ∃ y, xs[i]? = some y := ⟨_, List.getElem?_eq_getElem (by omega)⟩
    rw [hy] at h1
    have h3 : (zs.map fun z => (DataW.lit (.int k z) : DataW H))[i]? = (xs.map (·.1))[i]? := by rw [hx]
    rw [List.getElem?_map, List.getElem?_map, hy] at h3
    have hzi : i < zs.length := by omega
    rw [List.getElem?_eq_getElem hzi] at h3
    simp only [Option.map_some, Option.some.injEq] at h3
    rw [List.getElem?_eq_getElem hci, List.getElem?_map, List.getElem?_eq_getElem hzi]
    cases m with
    | zero => simp [DataW.trod] at h1
    | succ m =>
      cases hcv : cs[i] with
      | int k' z' =>
        rw [hcv] at h1
        simp only [DataW.trod, he] at h1
        split at h1
        · rename_i hk
          simp only [Option.some.injEq] at h1
          rw [← h1] at h3
          simp only [DataW.lit.injEq, Lit.int.injEq] at h3
          simp [hk.1, h3.2]
        · cases h1
      | _ => rw [hcv] at h1; simp [DataW.trod, he] at h1
  · rw [List.getElem?_eq_none (by omega), List.getElem?_eq_none (by rw [List.length_map]; omega)]
theorem VRs_ints (k : IntKind) : ∀ zs : List Int, VRs (fun _ => none) (zs.map (V.int k)) (zs.map (Value.int k))
  | [] => .nil
  | z :: r => .cons (.int k z) (VRs_ints k r)
/-- Out of the variable's cells. -/
theorem GlobOk.ints {E : Env} {P : Program} {W : World} {name : String} {g : Nat} {k : IntKind} {zs : List Int} {cs : Array Value} (hg : P.globalNamed name = some g) (hv : W.var? P name = some cs) (hcs : cs.toList = zs.map (Value.int k))
    {x : Glob} (hx : x.cells.toList = zs.map (V.int k)) (hsz : E.size x.elem = some x.esz) : GlobOk E W g x := by
  refine ⟨hsz, ?_, zs.map (Value.int k), by rw [hx]; exact VRs_ints k zs, ?_, ?_⟩
  · unfold World.var? at hv
    rw [hg] at hv
    simp only [Option.bind_some] at hv
    cases hh : W.heap[g]? with
    | none => rw [hh] at hv; cases hv
    | some o => exact (Array.getElem?_eq_some_iff.1 hh).1
  · intro v hv
    obtain ⟨z, _, rfl⟩ := List.mem_map.1 hv
    rfl
  · intro i v hi
    rw [World.var?_cell hg hv i, ← Array.getElem?_toList, hcs]
    exact hi
/-- One cell that reads as a whole number. -/
theorem trod_one_int {H : Type} {enc : TypeId × Value → H} {P : Program} {w : World} {base : Nat} {sp : Nat → Bool} {held : Bool} {m e : Nat} {k : IntKind} {c : Value} {y : DataW H × List MemPlace}
    (he : P.underlying e = some (.int k)) (h : DataW.trod enc P w base sp held m e [c] = some y) : ∃ z, c = .int k z := by
  cases m with
  | zero => simp [DataW.trod] at h
  | succ m =>
    cases c <;> simp [DataW.trod, he] at h
    rename_i k' z
    exact ⟨z, by rw [h.1.1]⟩
/-- A struct of whole numbers of one kind, by value. -/
theorem agg_ints {H : Type} {enc : TypeId × Value → H} {P : Program} {w : World} {base b0 : Nat} {sp : Nat → Bool} {held : Bool} {r : Reach} {t m : Nat} {k : IntKind} {fs : Array Field} {v : Value} {d : DataW H} {p : List MemPlace}
    (hs : P.underlying t = some (.struct fs)) (hC : P.cellsOf t = m) (hf : ∀ i, i < m → ∃ f, fs[i]? = some f ∧ f.offset = i ∧ P.cellsOf f.type = 1 ∧ P.underlying f.type = some (.int k))
    (hv : Value.okWide P w r b0 t v) (h : DataW.Trod enc P w base sp held t v d p) : ∃ zs : List Int, zs.length = m ∧ v = .agg (zs.map (Value.int k)).toArray := by
  obtain ⟨cs, rfl, hsz⟩ := WideShapes.okWide_struct hs hv
  obtain ⟨fuel, hfu⟩ := h
  obtain ⟨xs, n, _, hx, hl, hlen, hg⟩ := DataW.trod_struct hs hfu
  have hall : ∀ i (hi : i < cs.size), ∃ z, cs[i] = .int k z := fun i hi => by
    obtain ⟨f, h1, h2, h3, h4⟩ := hf i (by omega)
    have h5 := hg i f h1
    rw [h2, h3] at h5
    have hci : i < cs.toList.length := by simpa using hi
    have h6 : (cs.toList.drop i).take 1 = [cs.toList[i]] := by
      rw [List.drop_eq_getElem_cons hci, List.take_succ_cons, List.take_zero]
    have hxi : i < xs.length := by
      rw [hlen]
      exact (Array.getElem?_eq_some_iff.1 h1).1
    rw [show (Value.agg cs).cells = cs from rfl, h6, List.getElem?_eq_getElem hxi] at h5
    obtain ⟨z, hz⟩ := trod_one_int h4 h5
    exact ⟨z, by simpa using hz⟩
  refine ⟨cs.toList.map fun c => match c with | .int _ z => z | _ => 0, by simp; omega, ?_⟩
  congr 1
  apply Array.ext'
  simp only [List.map_map]
  apply List.ext_getElem?
  intro i
  rw [List.getElem?_map]
  by_cases hi : i < cs.size
  · obtain ⟨z, hz⟩ := hall i hi
    rw [Array.getElem?_toList, Array.getElem?_eq_getElem hi, hz]
    rfl
  · rw [Array.getElem?_toList, Array.getElem?_eq_none (by omega)]
    rfl
theorem aggV_ints {φ : Pm} (k : IntKind) (zs : List Int) : VR φ (.agg (zs.map (V.int k))) (.agg (zs.map (Value.int k)).toArray) :=
  .agg (by simpa using (VRs_ints k zs).mono (Le.none φ)) (fun v hv => by obtain ⟨z, _, rfl⟩ := List.mem_map.1 hv; rfl)
end
end Go.Proofs.YtcjidlgmbjebjaaDoor.Ev

/- The evaluator with the results of some calls told: what was run once is not run again. -/
namespace Go.Proofs.YtcjidlgmbjebjaaDoor.Ev
open Go
noncomputable section

def kEq (a b : Ent3) : Bool := and (vEq 50 a.1 b.1) (and (vEq 50 a.2.1 b.2.1) (Nat.beq a.2.2 b.2.2))
def entsEq : List Ent3 → List Ent3 → Bool
  | [], [] => true
  | a :: r, b :: s =>
    match kEq a b with
    | true => entsEq r s
    | false => false
  | _, _ => false
theorem entsEq_ok : ∀ {l m : List Ent3}, entsEq l m = true → l = m
  | [], [], _ => rfl
  | [], _ :: _, h => by cases h
  | _ :: _, [], h => by cases h
  | (a1, a2, a3) :: r, (b1, b2, b3) :: s, h => by
    rw [entsEq] at h
    cases hk : kEq (a1, a2, a3) (b1, b2, b3) with
    | false => rw [hk] at h; cases h
    | true =>
      rw [hk] at h
      simp only [kEq, Bool.and_eq_true] at hk
      rw [vEq_ok _ _ _ hk.1, vEq_ok _ _ _ hk.2.1, of_beq_t hk.2.2, entsEq_ok h]
def natsEq : List Nat → List Nat → Bool
  | [], [] => true
  | a :: r, b :: s =>
    match Nat.beq a b with
    | true => natsEq r s
    | false => false
  | _, _ => false
theorem natsEq_ok : ∀ {l m : List Nat}, natsEq l m = true → l = m
  | [], [], _ => rfl
  | [], _ :: _, h => by cases h
  | _ :: _, [], h => by cases h
  | a :: r, b :: s, h => by
    rw [natsEq] at h
    cases hk : Nat.beq a b with
    | false => rw [hk] at h; cases h
    | true => rw [hk] at h; rw [of_beq_t hk, natsEq_ok h]
def obEq (a b : Obj) : Bool :=
  match a with
  | .row e c opn ro =>
    match b with
    | .row e' c' opn' ro' => and (and (Nat.beq e e') (cellsEq c c')) (and (opn == opn') (ro == ro'))
    | _ => false
  | .map es clock =>
    match b with
    | .map es' clock' => and (entsEq es es') (Nat.beq clock clock')
    | _ => false
  | .strIter l n p =>
    match b with
    | .strIter l' n' p' => and (Nat.beq l l') (and (Nat.beq n n') (Nat.beq p p'))
    | _ => false
  | .mapIter m s l t =>
    match b with
    | .mapIter m' s' l' t' => and (m == m') (and (Nat.beq s s') (and (natsEq l l') (Nat.beq t t')))
    | _ => false
  | .deferred =>
    match b with
    | .deferred => true
    | _ => false
  | .dead =>
    match b with
    | .dead => true
    | _ => false
  | .loop _ => false
theorem obEq_ok {a b : Obj} (h : obEq a b = true) : a = b := by
  unfold obEq at h
  cases a <;> simp only at h <;> try (cases h; done)
  all_goals cases b <;> simp only at h <;> try (cases h; done)
  case row.row =>
    simp only [Bool.and_eq_true, beq_iff_eq] at h
    rw [of_beq_t h.1.1, cellsEq_ok h.1.2, h.2.1, h.2.2]
  case map.map =>
    simp only [Bool.and_eq_true] at h
    rw [entsEq_ok h.1, of_beq_t h.2]
  case strIter.strIter =>
    simp only [Bool.and_eq_true] at h
    rw [of_beq_t h.1, of_beq_t h.2.1, of_beq_t h.2.2]
  case mapIter.mapIter =>
    simp only [Bool.and_eq_true, beq_iff_eq] at h
    rw [h.1, of_beq_t h.2.1, natsEq_ok h.2.2.1, of_beq_t h.2.2.2]
  case deferred.deferred => rfl
  case dead.dead => rfl
def oobEq (a b : Option Obj) : Bool :=
  match a with
  | none =>
    match b with
    | none => true
    | some _ => false
  | some x =>
    match b with
    | none => false
    | some y => obEq x y
theorem oobEq_ok {a b : Option Obj} (h : oobEq a b = true) : a = b := by
  cases a <;> cases b <;> simp only [oobEq] at h <;> first | rfl | (cases h; done) | (rw [obEq_ok h])
def treeEq : T Obj → T Obj → Bool
  | .e, .e => true
  | .n l v r, .n l' v' r' =>
    match oobEq v v' with
    | true =>
      match treeEq l l' with
      | true => treeEq r r'
      | false => false
    | false => false
  | _, _ => false
theorem treeEq_ok : ∀ {a b : T Obj}, treeEq a b = true → a = b
  | .e, .e, _ => rfl
  | .e, .n _ _ _, h => by cases h
  | .n _ _ _, .e, h => by cases h
  | .n l v r, .n l' v' r', h => by
    rw [treeEq] at h
    cases h1 : oobEq v v' with
    | false => rw [h1] at h; cases h
    | true =>
      rw [h1] at h
      simp only at h
      cases h2 : treeEq l l' with
      | false => rw [h2] at h; cases h
      | true =>
        rw [h2] at h
        rw [oobEq_ok h1, treeEq_ok h2, treeEq_ok h]
def heapEq (a b : Heap) : Bool := and (Nat.beq a.next b.next) (treeEq a.objs b.objs)
theorem heapEq_ok {a b : Heap} (h : heapEq a b = true) : a = b := by
  unfold heapEq at h
  simp only [Bool.and_eq_true] at h
  cases a; cases b
  simp only at h
  rw [of_beq_t h.1, treeEq_ok h.2]

/-- A call that was run. -/
structure Mem where
  f : Nat
  args : List V
  H : Heap
  v : V
  H' : Heap
def memFind : List Mem → Nat → List V → Heap → Option (V × Heap)
  | [], _, _, _ => none
  | e :: r, f, args, H =>
    match Nat.beq e.f f with
    | false => memFind r f args H
    | true =>
      match and (vsEq (vEq 50) e.args args) (heapEq e.H H) with
      | true => some (e.v, e.H')
      | false => memFind r f args H
theorem memFind_ok : ∀ {l : List Mem} {f : Nat} {args : List V} {H : Heap} {v : V} {H' : Heap}, memFind l f args H = some (v, H') → ∃ e ∈ l, e.f = f ∧ e.args = args ∧ e.H = H ∧ e.v = v ∧ e.H' = H'
  | [], _, _, _, _, _, h => by cases h
  | e :: r, f, args, H, v, H', h => by
    rw [memFind] at h
    cases hb : Nat.beq e.f f with
    | false =>
      rw [hb] at h
      obtain ⟨e', h1, h2⟩ := memFind_ok h
      exact ⟨e', List.mem_cons_of_mem _ h1, h2⟩
    | true =>
      rw [hb] at h
      simp only at h
      cases hc : and (vsEq (vEq 50) e.args args) (heapEq e.H H) with
      | false =>
        rw [hc] at h
        obtain ⟨e', h1, h2⟩ := memFind_ok h
        exact ⟨e', List.mem_cons_of_mem _ h1, h2⟩
      | true =>
        rw [hc] at h
        simp only [Option.some.injEq, Prod.mk.injEq] at h
        simp only [Bool.and_eq_true] at hc
        exact ⟨e, List.mem_cons_self .., of_beq_t hb, vsEq_ok (vEq_ok 50) _ _ hc.1, heapEq_ok hc.2, h.1, h.2⟩
def stepM (ms : List Mem) (t : Task) : Env → Rec → Heap → Option Out :=
  match t with
  | .code q c fr => fun E rec_ H => codeQ c E rec_ q fr H
  | .again q c fr => fun _ rec_ H => (runCode rec_ q c fr H).bind fun s => thenV s fun fr H => rec_ (.again q c fr) H
  | .within q body c fr => fun _ rec_ H => withinV rec_ q body c fr H
  | .call f args df => fun E rec_ H =>
    match df with
    | true => callV E rec_ f args true H
    | false =>
      match memFind ms f args H with
      | some r => some (.call r.1 r.2)
      | none => callV E rec_ f args false H
def evalM (ms : List Mem) (E : Env) : Nat → Rec
  | 0 => fun _ _ => none
  | n + 1 => fun t H => stepM ms t E (evalM ms E n) H

section
variable {E : Env} {P : Program}
/-- What is asked of a call that is told. -/
def CallOk (E : Env) (P : Program) (f : FuncId) (args : List V) (df : Bool) (H : Heap) (v : V) (H' : Heap) : Prop :=
  ∀ (φ : Pm) (W : World) (args' : Array Value) (cs : List Frame), St E φ H W → GR E φ → VRs φ args args'.toList →
    (df = true → ∃ c cs0, cs = c :: cs0 ∧ c.mode = .returning) →
    ∃ φ' v' W' fr, To E φ H W φ' H' W' ∧ VR φ' v v' ∧ Steps P (lone (Frame.enter P f args' (kindOf df)) cs W) (lone fr cs W') ∧
      fr.fn = f ∧ fr.kind = (kindOf df) ∧ fr.mode = .returning ∧ fr.defers = [] ∧ ∃ fn, P.funcs[fr.fn]? = some fn ∧ (results fn fr.tmps).run P W' = .ok v' W'
def MemOk (E : Env) (P : Program) (ms : List Mem) : Prop := ∀ e ∈ ms, CallOk E P e.f e.args false e.H e.v e.H'
theorem MemOk.nil : MemOk E P [] := fun e h => by simp at h
theorem evalM_ok (hE : EnvOk E P) {ms : List Mem} (hm : MemOk E P ms) : ∀ n, RecOk E P (evalM ms E n)
  | 0 => ⟨fun _ _ _ _ _ _ _ h => (by cases h), fun _ _ _ _ _ _ _ h => (by cases h), fun _ _ _ _ _ _ _ _ h => (by cases h), fun _ _ _ _ _ _ h => (by cases h)⟩
  | n + 1 => by
    have ih := evalM_ok hE hm n
    refine ⟨fun q c fr H x fr' H' h => codeV_ok hE ih (by rw [← codeQ_eq]; exact h), ?_, fun q body c fr H x fr' H' h φ W b a k cs hs hf hk => withinV_ok ih (h : withinV (evalM ms E n) q body c fr H = _) k hs hf hk, ?_⟩
    · intro q c fr H x fr' H' h φ W b a k cs hs hf hk
      have h : ((runCode (evalM ms E n) q c fr H).bind fun s => thenV s fun fr H => evalM ms E n (.again q c fr) H) = some (.code x fr' H') := h
      obtain ⟨s, hs1, h⟩ := Option.bind_eq_some_iff.1 h
      obtain ⟨φ', a', W', h1, h2, h3⟩ := then_ok ih hs1 (it := .inLoop c) rfl h (fun fr1 H1 hn => ih.again q c fr1 H1 _ _ _ hn) k hs hf hk
      exact ⟨φ', a', W', h1, h2, .of_steps (.one stepR_inLoop) h3⟩
    · intro f args df H v H' h φ W args' cs hs hg ha hdf
      cases df with
      | true => exact callV_ok hE ih (h : callV E (evalM ms E n) f args true H = _) hs hg ha hdf
      | false =>
        have h : (match memFind ms f args H with
          | some r => some (Out.call r.1 r.2)
          | none => callV E (evalM ms E n) f args false H) = some (.call v H') := h
        cases hf : memFind ms f args H with
        | none => rw [hf] at h; exact callV_ok hE ih h hs hg ha hdf
        | some r =>
          rw [hf] at h
          simp only [Option.some.injEq, Out.call.injEq] at h
          obtain ⟨rfl, rfl⟩ := h
          obtain ⟨e, he, rfl, rfl, rfl, h1, h2⟩ := memFind_ok hf
          have := hm e he φ W args' cs hs hg ha hdf
          rw [h1, h2] at this
          exact this
theorem MemOk.cons (hE : EnvOk E P) {ms : List Mem} (hm : MemOk E P ms) {ms' : List Mem} (hm' : MemOk E P ms') {n : Nat} {e : Mem} (h : evalM ms E n (.call e.f e.args false) e.H = some (.call e.v e.H')) : MemOk E P (e :: ms') := fun x hx => by
  rcases List.mem_cons.1 hx with rfl | hx
  · exact (evalM_ok hE hm n).call _ _ _ _ _ _ h
  · exact hm' x hx
theorem calls_of_runM (hE : EnvOk E P) {ms : List Mem} (hm : MemOk E P ms) {φ : Pm} {H : Heap} {W : World} {n : Nat} {f : FuncId} {args : List V} {v : V} {H' : Heap} (h : evalM ms E n (.call f args false) H = some (.call v H'))
    {args' : Array Value} (hs : St E φ H W) (hg : GR E φ) (ha : VRs φ args args'.toList) (hro : ∀ b, ¬ Wr φ H.look b) :
    Calls P f args' W fun e W' => ∃ φ' v', e = .returned v' ∧ VR φ' v v' ∧ Go.RowKit.Below W.heap.size W W' := by
  intro cs
  obtain ⟨φ', v', W', fr, hto, hv, hst, hfn, hkd, hmd, hdf, fn, hpf, hres⟩ := (evalM_ok hE hm n).call f args false H v H' h φ W args' cs hs hg ha (fun e => by cases e)
  exact ⟨.returned v', W', fr, ⟨φ', v', rfl, hv, hto.fr.below hro⟩, hst, hfn, hmd, hdf, hkd, fn, hpf, hres⟩
end
end
end Go.Proofs.YtcjidlgmbjebjaaDoor.Ev

/- The evaluator inside the kit's walk: code whose run ends is code of which the kit's rule holds. -/
namespace Go.Proofs.YtcjidlgmbjebjaaDoor.Ev
open Go
noncomputable section

def X.exit' : X → Exit
  | .normal => .normal
  | .exit id => .exit id
  | .goto l => .goto l
  | .ret => .ret
theorem at_eq (b : Frame) (a : Act) (k : List Item) : b.at a k = ({ b with roundOf := none } : Frame).atR a k := rfl
theorem Ends.arrives {P : Program} {b : Frame} {k : List Item} {cs : List Frame} {m : Machine} {x : X} {a : Act} {w : World} (h : Ends P { b with roundOf := none } k cs m x a w) : Arrives P m b k cs x.exit' a w := by
  cases x with
  | normal => exact h
  | exit id =>
    obtain ⟨k1, h1, h2⟩ := h
    intro k' hk
    exact h2.trans (.one (stepR_exit (h1.trans hk)))
  | goto l =>
    obtain ⟨k1, h1, h2⟩ := h
    intro k' hk
    exact h2.trans (.one (stepR_goto (h1.trans hk)))
  | ret =>
    obtain ⟨k1, h2⟩ := h
    exact ⟨_, h2.trans (.one (stepR_ret rfl))⟩
/-- Code whose run the evaluator ends, whatever the function's number. -/
theorem wp_of_evalM {E : Env} {P : Program} (hE : EnvOk E P) {ms : List Mem} (hm : MemOk E P ms) {n nt : Nat} {c : Code} {fr : Fm} {H : Heap} {x : X} {fr' : FuncId → Fm} {H' : FuncId → Heap}
    (h : ∀ f, evalM ms E n (.code ⟨f, nt, none, false⟩ c fr) H = some (.code x (fr' f) (H' f)))
    {φ : Pm} {W : World} {a : Act} (hs : St E φ H W) (hf : FR E φ nt fr a) {Q : Exit → Act → World → Prop}
    (hq : ∀ f φ' a' W', To E φ H W φ' (H' f) W' → FR E φ' nt (fr' f) a' → Q x.exit' a' W') : c.wp P Q a W := by
  intro b k cs
  obtain ⟨φ', a', W', h1, h2, h3⟩ := (evalM_ok hE hm n).code ⟨b.fn, nt, none, false⟩ c fr H x (fr' b.fn) (H' b.fn) (h b.fn) φ W { b with roundOf := none } a k cs hs hf
    ⟨rfl, fun _ => rfl, fun l hl => (by cases hl), fun hl => (by cases hl)⟩
  exact ⟨x.exit', a', W', hq b.fn φ' a' W' h1 h2, h3.arrives⟩
end
end Go.Proofs.YtcjidlgmbjebjaaDoor.Ev

/- A state of rows that are only read, wherever they lie. A frame out of a list. -/
namespace Go.Proofs.YtcjidlgmbjebjaaDoor.Ev
open Go Go.RowKit
noncomputable section

structure RoRow (E : Env) (φ : Pm) (W : World) (p : Pl) (x : Glob) : Prop where
  pl : ∃ b o, p = ⟨b, o, x.cells.toList.length, x.cells.toList.length, x.esz, false, true, none⟩
  esz : E.size x.elem = some x.esz
  blk : p.blk < W.heap.size
  cell : ∀ (i : Nat) (v : V), x.cells.toList[i]? = some v → ∃ v', W.cell? ⟨p.blk, p.base + i, none⟩ = some v' ∧ VR φ v v' ∧ v'.oneCell' = true
theorem St.ofRows {E : Env} {φ : Pm} {H : Heap} {W : World} (hdom : ∀ r p, φ r = some p → r < H.next) (hlook : ∀ r o, H.look r = some o → ∃ x p, o = objOf x ∧ φ r = some p ∧ RoRow E φ W p x) :
    St E φ H W ∧ ∀ b, ¬ Wr φ H.look b := by
  have hro : ∀ r o p, H.look r = some o → φ r = some p → p.ro = true := fun r o p ho hp => by
    obtain ⟨x, p', _, hp', ⟨⟨b, o, rfl⟩, _, _, _⟩⟩ := hlook r o ho
    obtain rfl := Option.some.inj (hp.symm.trans hp')
    rfl
  refine ⟨⟨hdom, ?_, ?_, ?_⟩, ?_⟩
  · intro r o p ho hp
    obtain ⟨x, p', rfl, hp', ⟨⟨b, o, rfl⟩, h1, hblk, h2⟩⟩ := hlook r o ho
    obtain rfl := Option.some.inj (hp.symm.trans hp')
    refine ⟨h1, rfl, Nat.le_refl _, rfl, rfl, fun _ => rfl, h2, fun i hi => ?_, fun h => by cases h⟩
    obtain ⟨v', h5, _⟩ := h2 i _ (List.getElem?_eq_getElem hi)
    have : adr ⟨b, o, x.cells.toList.length, x.cells.toList.length, x.esz, false, true, .none⟩ i = ⟨b, o + i, Option.none⟩ := rfl
    rw [this, h5]; rfl
  · intro r r' o o' p p' hne ho ho' _ _ hp hp' hf
    rw [hro r o p ho hp] at hf; cases hf
  · intro r o p ho hl hp
    obtain ⟨x, p', rfl, hp', h⟩ := hlook r o ho
    obtain rfl := Option.some.inj (hp.symm.trans hp')
    exact h.blk
  · rintro b ⟨r, o, p, ho, _, hp, hf, _⟩
    rw [hro r o p ho hp] at hf; cases hf

/-- A frame whose temporaries are the list's. -/
def tmOf : Nat → List (Option V) → T V → T V
  | _, [], t => t
  | i, none :: r, t => tmOf (i + 1) r t
  | i, some v :: r, t => tmOf (i + 1) r (t.set i v)
theorem tmOf_get : ∀ (l : List (Option V)) (i : Nat) (t : T V) (k : Nat), (tmOf i l t).get k = if i ≤ k then (match l[k - i]? with | some (some v) => some v | _ => t.get k) else t.get k
  | [], i, t, k => by simp [tmOf]
  | none :: r, i, t, k => by
    rw [tmOf, tmOf_get r (i + 1) t k]
    by_cases h : i + 1 ≤ k
    · rw [if_pos h, if_pos (by omega), show k - i = (k - (i + 1)) + 1 by omega, List.getElem?_cons_succ]
    · rw [if_neg h]
      by_cases h2 : i ≤ k
      · rw [if_pos h2, show k - i = 0 by omega, List.getElem?_cons_zero]
      · rw [if_neg h2]
  | some v :: r, i, t, k => by
    rw [tmOf, tmOf_get r (i + 1) (t.set i v) k]
    by_cases h : i + 1 ≤ k
    · rw [if_pos h, if_pos (by omega), show k - i = (k - (i + 1)) + 1 by omega, List.getElem?_cons_succ, T.get_set]
      rw [if_neg (by omega)]
    · rw [if_neg h, T.get_set]
      by_cases h2 : i ≤ k
      · rw [if_pos h2, show k - i = 0 by omega, List.getElem?_cons_zero, if_pos (by omega)]
      · rw [if_neg h2, if_neg (by omega)]
/-- What the list tells of the temporaries. -/
inductive Told (φ : Pm) : List (Option V) → List Value → Prop
  | nil : Told φ [] []
  | skip {l : List (Option V)} {l' : List Value} (h : Told φ l l') : Told φ (none :: l) (undef :: l')
  | cons {v : V} {v' : Value} {l : List (Option V)} {l' : List Value} (h : VR φ v v') (hs : Told φ l l') : Told φ (some v :: l) (v' :: l')
def oo (x : Option (Option V)) : Option V :=
  match x with
  | some (some v) => some v
  | _ => none
theorem Told.get {φ : Pm} (hu : VR φ vundef undef) : ∀ {l : List (Option V)} {l' : List Value}, Told φ l l' → ∀ k : Nat, VR φ ((oo l[k]?).getD vundef) ((l'[k]?).getD undef)
  | _, _, .nil, k => by simpa [oo] using hu
  | _, _, .skip h, 0 => by simpa [oo] using hu
  | _, _, .skip h, k + 1 => by simpa using h.get hu k
  | _, _, .cons h hs, 0 => by simpa [oo] using h
  | _, _, .cons h hs, k + 1 => by simpa using hs.get hu k
theorem FR.ofList {E : Env} {φ : Pm} {nt : Nat} {l : List (Option V)} {l' : List Value} (hg : GR E φ) (hu : VR φ vundef undef) (h : Told φ l l') (hn : l'.length = nt) : FR E φ nt { tm := tmOf 0 l .e, df := [] } { tmps := l'.toArray, defers := [] } := by
  refine ⟨⟨hg, fun t => ?_⟩, by simpa using hn, .nil⟩
  have := h.get hu t
  rw [Array.getD_eq_getD_getElem?]
  simp only [List.getElem?_toArray]
  have h2 : (tmOf 0 l .e).get t = oo l[t]? := by
    rw [tmOf_get, if_pos (Nat.zero_le _), Nat.sub_zero]
    unfold oo
    split <;> simp_all [T.get_e]
  show VR φ (((tmOf 0 l T.e).get t).getD vundef) _
  rw [h2]; exact this
end
end Go.Proofs.YtcjidlgmbjebjaaDoor.Ev

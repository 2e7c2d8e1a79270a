/- The evaluator: operations, regions (in text order and drawn), code, calls: what it ends in, the machine ends in. -/
import Derived.Test.YtcjidlgmbjebjaaDoorEvB
import Derived.AtR
import Derived.Defers
import Derived.Recover
import Derived.Orders
import Derived.RangeFuncIn
set_option linter.unusedVariables false
set_option linter.unusedSimpArgs false
/- Operands; the operations that only read. -/
namespace Go.Proofs.YtcjidlgmbjebjaaDoor.Ev
open Go
noncomputable section

/- ### constants -/
def constsV (f : Value → Option V) : List Value → Option (List V)
  | [] => some []
  | v :: r => (f v).bind fun u => (constsV f r).bind fun l => some (u :: l)
def constV : Nat → Value → Option V
  | 0, _ => none
  | n + 1, v =>
    match v with
    | .int k m => some (.int k m)
    | .bool b => some (.bool b)
    | .string s => some (.str s.data.toList.length (packBytes s.data.toList))
    | .pointer p =>
      match p with
      | none => some .nilPtr
      | some _ => none
    | .slice p l c =>
      match p with
      | none =>
        match l with
        | 0 =>
          match c with
          | 0 => some .nilSlice
          | _ + 1 => none
        | _ + 1 => none
      | some _ => none
    | .map m =>
      match m with
      | none => some .nilMap
      | some _ => none
    | .nilFunc => some .nilFunc
    | .nilIface => some .nilIface
    | .func fn first cap =>
      match fn with
      | .func f => (constsV (constV n) first.toList).bind fun a => (constsV (constV n) cap.toList).bind fun b => some (.func (.func f) a b)
      | .yield _ => none
      | _ => none
    | .iface t w => (constV n w).bind fun u => some (.iface t u)
    | .agg cs => (constsV (constV n) cs.toList).bind fun l =>
      match allOne l with
      | true => some (.agg l)
      | false => none
    | .tuple cs => (constsV (constV n) cs.toList).bind fun l => some (.tuple l)
    | _ => none
theorem constsV_ok {φ : Pm} {f : Value → Option V} (hf : ∀ v u, f v = some u → VR φ u v) : ∀ (l : List Value) (r : List V), constsV f l = some r → VRs φ r l
  | [], r, h => by simp only [constsV, Option.some.injEq] at h; subst h; exact .nil
  | v :: l, r, h => by
    unfold constsV at h
    obtain ⟨u, hu, hnew⟩ := Option.bind_eq_some_iff.1 h; clear h; have h := hnew; clear hnew
    obtain ⟨m, hm, hnew⟩ := Option.bind_eq_some_iff.1 h; clear h; have h := hnew; clear hnew
    simp only [Option.some.injEq] at h
    subst h
    exact .cons (hf v u hu) (constsV_ok hf l m hm)
theorem constV_ok {φ : Pm} : ∀ (n : Nat) (v : Value) (u : V), constV n v = some u → VR φ u v
  | 0, v, u, h => by cases h
  | n + 1, v, u, h => by
    unfold constV at h
    cases v <;> simp only at h <;> try (cases h; done)
    case int k m => simp only [Option.some.injEq] at h; subst h; exact .int _ _
    case bool b => simp only [Option.some.injEq] at h; subst h; exact .bool _
    case string s => simp only [Option.some.injEq] at h; subst h; exact .str s
    case nilFunc => simp only [Option.some.injEq] at h; subst h; exact .nilFunc
    case nilIface => simp only [Option.some.injEq] at h; subst h; exact .nilIface
    case pointer p =>
      cases p <;> simp only at h <;> try (cases h; done)
      simp only [Option.some.injEq] at h; subst h; exact .nilPtr
    case map p =>
      cases p <;> simp only at h <;> try (cases h; done)
      simp only [Option.some.injEq] at h; subst h; exact .nilMap
    case slice p l c =>
      cases p <;> simp only at h <;> try (cases h; done)
      cases l <;> simp only at h <;> try (cases h; done)
      cases c <;> simp only at h <;> try (cases h; done)
      simp only [Option.some.injEq] at h; subst h; exact .nilSlice
    case func fn a b =>
      cases fn <;> simp only at h <;> try (cases h; done)
      case func f =>
        obtain ⟨x, hx, hnew⟩ := Option.bind_eq_some_iff.1 h; clear h; have h := hnew; clear hnew
        obtain ⟨y, hy, hnew⟩ := Option.bind_eq_some_iff.1 h; clear h; have h := hnew; clear hnew
        simp only [Option.some.injEq] at h; subst h
        exact .func (.func f) (constsV_ok (fun v u => constV_ok n v u) _ _ hx) (constsV_ok (fun v u => constV_ok n v u) _ _ hy)
    case iface t w =>
      obtain ⟨x, hx, hnew⟩ := Option.bind_eq_some_iff.1 h; clear h; have h := hnew; clear hnew
      simp only [Option.some.injEq] at h; subst h
      exact .iface t (constV_ok n _ _ hx)
    case agg cs =>
      obtain ⟨l, hl, hnew⟩ := Option.bind_eq_some_iff.1 h; clear h; have h := hnew; clear hnew
      cases hb : allOne l with
      | false => rw [hb] at h; cases h
      | true =>
        rw [hb] at h
        simp only [Option.some.injEq] at h; subst h
        exact .agg (constsV_ok (fun v u => constV_ok n v u) _ _ hl) ((allOne_iff l).1 hb)
    case tuple cs =>
      obtain ⟨l, hl, hnew⟩ := Option.bind_eq_some_iff.1 h; clear h; have h := hnew; clear hnew
      simp only [Option.some.injEq] at h; subst h
      exact .tuple (constsV_ok (fun v u => constV_ok n v u) _ _ hl)

/- ### operands -/
structure GR (E : Env) (φ : Pm) : Prop where
  glob : ∀ g, g < E.nglob → ∃ p, φ g = some p ∧ p.blk = g ∧ p.base = 0
  base : Le E.base φ
theorem GR.mono {E : Env} {φ ψ : Pm} (hle : Le φ ψ) (h : GR E φ) : GR E ψ := ⟨fun g hg => let ⟨p, h1, h2⟩ := h.glob g hg; ⟨p, hle _ _ h1, h2⟩, h.base.trans hle⟩
def valO (E : Env) (tm : T V) (x : Operand) : Option V :=
  match x with
  | .tmp t => some ((tm.get t).getD vundef)
  | .const v => constV 8 v
  | .global g =>
    match Nat.blt g E.nglob with
    | true => some (.ptr g 0)
    | false => none
  | .func f => some (.func (.func f) [] [])
def valsO (E : Env) (tm : T V) : List Operand → Option (List V)
  | [] => some []
  | x :: r => (valO E tm x).bind fun v => (valsO E tm r).bind fun l => some (v :: l)
def optO (E : Env) (tm : T V) (x : Option Operand) : Option (Option V) :=
  match x with
  | none => some none
  | some x => (valO E tm x).bind fun v => some (some v)
def partsO (E : Env) (tm : T V) : List (Nat × Operand) → Option (List (Nat × V))
  | [] => some []
  | x :: r => (valO E tm x.2).bind fun v => (partsO E tm r).bind fun l => some ((x.1, v) :: l)

/-- How an activation's temporaries stand. -/
structure AR (E : Env) (φ : Pm) (tm : T V) (a : Act) : Prop where
  glob : GR E φ
  at_ : ∀ t, VR φ ((tm.get t).getD vundef) (a.tmps.getD t undef)
section
variable {E : Env} {P : Program} {φ : Pm} {H : Heap} {W : World} {tm : T V} {a : Act}
theorem valO_ok (h : AR E φ tm a) {x : Operand} {v : V} (hx : valO E tm x = some v) : VR φ v (a.eval x) := by
  unfold valO at hx
  cases x <;> simp only at hx
  case tmp t => simp only [Option.some.injEq] at hx; subst hx; exact h.at_ t
  case const c => exact constV_ok _ _ _ hx
  case global g =>
    cases hb : Nat.blt g E.nglob with
    | false => rw [hb] at hx; cases hx
    | true =>
      rw [hb] at hx
      simp only [Option.some.injEq] at hx; subst hx
      obtain ⟨p, h1, h2, h3⟩ := h.glob.glob g (of_blt_t hb)
      have := VR.ptr (φ := φ) 0 h1
      have he : adr p 0 = ⟨g, 0, none⟩ := by simp [adr, h2, h3]
      rw [he] at this
      exact this
  case func f => simp only [Option.some.injEq] at hx; subst hx; exact .func (.func f) .nil .nil
theorem valsO_ok (h : AR E φ tm a) : ∀ (l : List Operand) (r : List V), valsO E tm l = some r → VRs φ r (l.map a.eval)
  | [], r, hr => by simp only [valsO, Option.some.injEq] at hr; subst hr; exact .nil
  | x :: l, r, hr => by
    unfold valsO at hr
    obtain ⟨v, hv, hnew⟩ := Option.bind_eq_some_iff.1 hr; clear hr; have hr := hnew; clear hnew
    obtain ⟨m, hm, hnew⟩ := Option.bind_eq_some_iff.1 hr; clear hr; have hr := hnew; clear hnew
    simp only [Option.some.injEq] at hr; subst hr
    exact .cons (valO_ok h hv) (valsO_ok h l m hm)
theorem optO_ok (h : AR E φ tm a) {x : Option Operand} {r : Option V} (hr : optO E tm x = some r) : OptR φ r (x.map a.eval) := by
  unfold optO at hr
  cases x <;> simp only at hr
  case none => simp only [Option.some.injEq] at hr; subst hr; exact .none
  case some x =>
    obtain ⟨v, hv, hnew⟩ := Option.bind_eq_some_iff.1 hr; clear hr; have hr := hnew; clear hnew
    simp only [Option.some.injEq] at hr; subst hr
    exact .some (valO_ok h hv)
theorem partsO_ok (h : AR E φ tm a) : ∀ (l : List (Nat × Operand)) (r : List (Nat × V)), partsO E tm l = some r →
    r.map (·.1) = (l.map fun x => (x.1, a.eval x.2)).map (·.1) ∧ VRs φ (r.map (·.2)) ((l.map fun x => (x.1, a.eval x.2)).map (·.2))
  | [], r, hr => by simp only [partsO, Option.some.injEq] at hr; subst hr; exact ⟨rfl, .nil⟩
  | x :: l, r, hr => by
    unfold partsO at hr
    obtain ⟨v, hv, hnew⟩ := Option.bind_eq_some_iff.1 hr; clear hr; have hr := hnew; clear hnew
    obtain ⟨m, hm, hnew⟩ := Option.bind_eq_some_iff.1 hr; clear hr; have hr := hnew; clear hnew
    simp only [Option.some.injEq] at hr; subst hr
    obtain ⟨h1, h2⟩ := partsO_ok h l m hm
    exact ⟨by simp only [List.map_cons]; rw [h1], .cons (valO_ok h hv) h2⟩
theorem AR.mono {ψ : Pm} (hle : Le φ ψ) (h : AR E φ tm a) : AR E ψ tm a := ⟨h.glob.mono hle, fun t => (h.at_ t).mono hle⟩

/-- Conversions that only read. -/
def convertR (E : Env) (H : Heap) (src dst : Nat) (v : V) : Option V :=
  (E.desc src).bind fun ds => (E.desc dst).bind fun dd =>
    match dd with
    | .int k =>
      match v with
      | .int _ n => some (.int k (wrapF k n))
      | _ => none
    | .string =>
      match ds with
      | .string =>
        match v with
        | .str l n => some (.str l n)
        | _ => none
      | .slice e =>
        match isU8 E e with
        | false => none
        | true =>
          match v with
          | .nilSlice => some (.str 0 0)
          | .slice r off len _ => (H.look r).bind fun o =>
            match o with
            | .row _ cs _ _ =>
              match Nat.ble (Nat.add off len) cs.size with
              | true => strOfCells (cs.extract off len)
              | false => none
            | _ => none
          | _ => none
      | .int _ =>
        match v with
        | .int _ n => some (.str (Utf8.encode n).data.toList.length (packBytes (Utf8.encode n).data.toList))
        | _ => none
      | _ => none
    | .unsafePointer =>
      match ds with
      | .pointer t => unsafeTo E H t v
      | _ => none
    | .pointer u =>
      match ds with
      | .unsafePointer => unsafeOf E H u v
      | _ => none
    | _ => none
theorem convertR_ok (hE : EnvOk E P) (hs : St E φ H W) (src dst : Nat) {v : V} {v' : Value} (hv : VR φ v v') : SndP P φ W (convertR E H src dst v) (convert src dst v') := by
  intro u h
  unfold convertR at h
  obtain ⟨ds, hds, hnew⟩ := Option.bind_eq_some_iff.1 h; clear h; have h := hnew; clear hnew
  obtain ⟨dd, hdd, hnew⟩ := Option.bind_eq_some_iff.1 h; clear h; have h := hnew; clear hnew
  have hsd := hE.desc hds
  have hdd' := hE.desc hdd
  cases dd <;> simp only at h <;> try (cases h; done)
  case int k =>
    cases v <;> simp only at h <;> try (cases h; done)
    case int q n =>
      simp only [Option.some.injEq] at h
      subst h
      have := hv.int_inv; subst this
      refine ⟨_, ?_, .int _ _⟩
      rw [wrapF_eq]
      simp [convert, run_underlying hsd, run_underlying hdd', Conv.intToInt]
  case string =>
    cases ds <;> simp only at h <;> try (cases h; done)
    case string =>
      cases v <;> simp only at h <;> try (cases h; done)
      case str l n =>
        simp only [Option.some.injEq] at h
        subst h
        obtain ⟨s, rfl, rfl, rfl⟩ := hv.str_inv
        refine ⟨_, ?_, .str s⟩
        simp [convert, run_underlying hsd, run_underlying hdd']
    case slice e =>
      cases h8 : isU8 E e with
      | false => rw [h8] at h; cases h
      | true =>
        rw [h8] at h
        have he := isU8_ok hE h8
        cases v <;> simp only at h <;> try (cases h; done)
        case nilSlice =>
          simp only [Option.some.injEq] at h
          subst h
          have := hv.nilSlice_inv; subst this
          exact ⟨_, run_convert_bytes_nil W src e hsd he 0 0 dst hdd', VR.str ByteArray.empty⟩
        case slice r off len cap =>
          obtain ⟨o, ho, hnew⟩ := Option.bind_eq_some_iff.1 h; clear h; have h := hnew; clear hnew
          obtain ⟨p, cap', hp, hcap, rfl⟩ := hv.slice_inv
          cases o <;> simp only at h <;> try (cases h; done)
          case row e' cs opn ro =>
            cases hle : Nat.ble (Nat.add off len) cs.size with
            | false => rw [hle] at h; cases h
            | true =>
              rw [hle] at h
              have hle := of_ble_t hle
              have hr : RowR E φ p e' cs opn ro W := hs.hr.obj _ _ _ ho hp
              obtain ⟨l', hl1, hl2, hl3, _⟩ := hr.cells off len hle
              obtain ⟨bs, hb1, hb2, rfl⟩ := strOfCells_ok h hl3
              have hbl : bs.length = len := by rw [hb2] at hl1; simpa using hl1
              refine ⟨_, run_convert_bytes_arg W src e hsd he p.blk (p.base + off) len cap' (bs.map fun b => (b.toNat : Int)) (by simp [hbl]) ?_ dst hdd', ?_⟩
              · intro i hi
                have hib : i < bs.length := by omega
                have := hl2 i (.int .u8 (bs[i].toNat : Int)) (by rw [hb2, List.getElem?_map, List.getElem?_eq_getElem hib]; rfl)
                rw [adr_add] at this
                have h9 : (⟨p.blk, p.base + off + i, none⟩ : Addr) = adr p (off + i) := by simp [adr, Nat.add_assoc]
                rw [h9, this]
                simp [List.getD, List.getElem?_eq_getElem hib]
              · have h9 : (strOfNums (bs.map fun b => (b.toNat : Int))).data.toList = bs := by
                  rw [strOfNums_data, List.map_map]
                  conv => rhs; rw [← List.map_id bs]
                  apply List.map_congr_left
                  intro b _
                  simp
                have := VR.str (φ := φ) (strOfNums (bs.map fun b => (b.toNat : Int)))
                rw [h9] at this
                exact this
    case int q =>
      cases v <;> simp only at h <;> try (cases h; done)
      case int q' n =>
        simp only [Option.some.injEq] at h
        subst h
        have := hv.int_inv; subst this
        refine ⟨_, ?_, .str (Utf8.encode n)⟩
        simp [convert, run_underlying hsd, run_underlying hdd', Conv.intToString]
  case unsafePointer =>
    cases ds <;> simp only at h <;> try (cases h; done)
    case pointer t => exact unsafeTo_ok hE hs hsd hdd' hv u h
  case pointer t =>
    cases ds <;> simp only at h <;> try (cases h; done)
    case unsafePointer => exact unsafeOf_ok hE hs hsd hdd' hv u h

end
end
end Go.Proofs.YtcjidlgmbjebjaaDoor.Ev

/- The operations that only read, as the machine runs them. -/
namespace Go.Proofs.YtcjidlgmbjebjaaDoor.Ev
open Go
noncomputable section

def arrayAtV (E : Env) (arr : Nat) (x : V) : Option V :=
  (E.desc arr).bind fun d =>
    match d with
    | .array n _ =>
      match x with
      | .slice r off len _ =>
        match Nat.ble n len with
        | true => some (.ptr r off)
        | false => none
      | _ => none
    | _ => none
def fnPlain (fn : Fn) : Bool :=
  match fn with
  | .func _ => true
  | .method _ => true
  | .methodOf _ _ => true
  | _ => false
/-- A builtin that only reads. -/
def readB (E : Env) (H : Heap) (b : Builtin) (ts : List TypeId) (vs : List V) : Option V :=
  match b with
  | .len =>
    match ts with
    | [t] =>
      match vs with
      | [x] => lenV E H t x
      | _ => none
    | _ => none
  | .cap =>
    match ts with
    | [t] =>
      match vs with
      | [x] => capV E H t x
      | _ => none
    | _ => none
  | .min => minV vs
  | .max => maxV vs
  | .unsafeSliceData =>
    match vs with
    | [x] => sliceDataV x
    | _ => none
  | _ => none
def readOp (E : Env) (H : Heap) (tm : T V) (op : Op) : Option V :=
  match op with
  | .move x => valO E tm x
  | .assign x => valO E tm x
  | .pick c x y => (valO E tm c).bind fun v =>
    match v with
    | .bool b =>
      match b with
      | true => valO E tm x
      | false => valO E tm y
    | _ => none
  | .build t parts => (partsO E tm parts.toList).bind fun ps => buildV E t ps
  | .load t x => (valO E tm x).bind fun v =>
    match v with
    | .ptr r off => loadVar E H t r off
    | _ => none
  | .nilCheck x => (valO E tm x).bind fun v => nilCheckV v
  | .binOp op t x y _ => (valO E tm x).bind fun u => (valO E tm y).bind fun v => binOpV E op t (isConstO x) (isConstO y) u v
  | .unOp op _ x => (valO E tm x).bind fun u => unOpV op u
  | .convert src dst x => (valO E tm x).bind fun u => convertR E H src dst u
  | .sliceToArrayPointer arr x => (valO E tm x).bind fun u => arrayAtV E arr u
  | .makeInterface t x => (valO E tm x).bind fun u => makeIfaceV E t u
  | .makeFunc fn first cap =>
    match fnPlain fn with
    | true => (valsO E tm first.toList).bind fun u => (valsO E tm cap.toList).bind fun v => some (.func fn u v)
    | false => none
  | .slice t x lo hi mx => (valO E tm x).bind fun u => (optO E tm lo).bind fun lo => (optO E tm hi).bind fun hi => (optO E tm mx).bind fun mx => sliceV E H t u lo hi mx
  | .fieldAddr t x f => (valO E tm x).bind fun u => fieldAddrV E t u f
  | .field t x f => (valO E tm x).bind fun u => fieldV E t u f
  | .indexAddr t x i => (valO E tm x).bind fun u => (valO E tm i).bind fun v => indexAddrV E t u v
  | .index t x i => (valO E tm x).bind fun u => (valO E tm i).bind fun v => indexV E t u v
  | .typeAssert x _ t ok => (valO E tm x).bind fun u => typeAssertV E u t ok
  | .extract x i => (valO E tm x).bind fun u => extractV u i
  | .entry x => (valO E tm x).bind fun u => entryV H u
  | .lookup t x i ok => (valO E tm x).bind fun u => (valO E tm i).bind fun v => lookupV E H t u v ok
  | .call c =>
    match c.callee with
    | .builtin b => (valsO E tm c.args.toList).bind fun vs => readB E H b c.argTypes.toList vs
    | _ => none
  | _ => none

section
variable {E : Env} {P : Program} {φ : Pm} {H : Heap} {W : World} {tm : T V} {a : Act}

theorem v_run {s : Sem Value} {v' : Value} {W' : World} (h : s.run P W = .ok v' W') : (do pure (.value (← s)) : Sem Next).run P W = .ok (.value v') W' := by
  simp [h]
theorem v_sndP {x : Option V} {s : Sem Value} (hx : SndP P φ W x s) {v : V} (h : x = some v) : ∃ v', (do pure (.value (← s)) : Sem Next).run P W = .ok (.value v') W ∧ VR φ v v' :=
  let ⟨v', h1, h2⟩ := hx v h; ⟨v', v_run h1, h2⟩
theorem arrayAtV_ok (hE : EnvOk E P) {t : Nat} {x : V} {x' : Value} (hv : VR φ x x') : SndP P φ W (arrayAtV E t x) (Instr.arrayAt t x') := by
  intro v h
  unfold arrayAtV at h
  obtain ⟨d, hd, hnew⟩ := Option.bind_eq_some_iff.1 h; clear h; have h := hnew; clear hnew
  have hdu := hE.desc hd
  cases d <;> simp only at h <;> try (cases h; done)
  case array n e =>
    cases x <;> simp only at h <;> try (cases h; done)
    case slice r off len cap =>
      cases hb : Nat.ble n len with
      | false => rw [hb] at h; cases h
      | true =>
        rw [hb] at h
        simp only [Option.some.injEq] at h
        subst h
        obtain ⟨p, cap', hp, hc, rfl⟩ := hv.slice_inv
        have hle := of_ble_t hb
        refine ⟨_, ?_, .ptr off hp⟩
        simp [Instr.arrayAt, run_underlying hdu, show ¬ len < n by omega]
theorem toList_one {α : Type} {l : Array α} {x : α} (h : l.toList = [x]) : l = #[x] := Array.ext' h
theorem toList_two {α : Type} {l : Array α} {x y : α} (h : l.toList = [x, y]) : l = #[x, y] := Array.ext' h
theorem VRs.one_inv {v : V} {l : List Value} (h : VRs φ [v] l) : ∃ v', l = [v'] ∧ VR φ v v' := by
  cases h with
  | cons h1 h2 => cases h2; exact ⟨_, rfl, h1⟩
theorem VRs.two_inv {u v : V} {l : List Value} (h : VRs φ [u, v] l) : ∃ u' v', l = [u', v'] ∧ VR φ u u' ∧ VR φ v v' := by
  cases h with
  | cons h1 h2 => obtain ⟨v', rfl, h3⟩ := h2.one_inv; exact ⟨_, _, rfl, h1, h3⟩
theorem readB_ok (hE : EnvOk E P) (hs : St E φ H W) {b : Builtin} {ts : Array TypeId} {vs : List V} {vs' : Array Value} (hv : VRs φ vs vs'.toList) {v : V} (h : readB E H b ts.toList vs = some v) (ty : TypeId) (cs : Array Bool) :
    ∃ v', (builtin b ts ty cs vs').run P W = .ok (.value v') W ∧ VR φ v v' := by
  unfold readB at h
  cases b <;> simp only at h <;> try (cases h; done)
  case len =>
    split at h <;> try (cases h; done)
    rename_i t ht
    split at h <;> try (cases h; done)
    rename_i x
    obtain ⟨x', h1, h2⟩ := hv.one_inv
    rw [toList_one ht, toList_one h1]
    exact v_sndP (lenV_ok hE hs h2 ty) h
  case cap =>
    split at h <;> try (cases h; done)
    rename_i t ht
    split at h <;> try (cases h; done)
    rename_i x
    obtain ⟨x', h1, h2⟩ := hv.one_inv
    rw [toList_one ht, toList_one h1]
    exact v_sndP (capV_ok hE hs h2 ty) h
  case min => exact v_sndP (minV_ok hv ts ty) h
  case max => exact v_sndP (maxV_ok hv ts ty) h
  case unsafeSliceData =>
    split at h <;> try (cases h; done)
    rename_i x
    obtain ⟨x', h1, h2⟩ := hv.one_inv
    rw [toList_one h1]
    exact v_sndP (sliceDataV_ok h2 ts ty) h

theorem readOp_ok (hE : EnvOk E P) (hs : St E φ H W) (ha : AR E φ tm a) {o : Oper} {v : V} (h : readOp E H tm o.op = some v) :
    ∃ v', (execOp a.eval o).run P W = .ok (.value v') W ∧ VR φ v v' := by
  unfold execOp
  cases hop : o.op <;> rw [hop] at h <;> simp only [readOp] at h <;> try (cases h; done)
  case move x => exact ⟨_, rfl, valO_ok ha h⟩
  case assign x => exact ⟨_, rfl, valO_ok ha h⟩
  case pick c x y =>
    obtain ⟨cv, hc, hnew⟩ := Option.bind_eq_some_iff.1 h; clear h; have h := hnew; clear hnew
    have hcv := valO_ok ha hc
    cases cv <;> simp only at h <;> try (cases h; done)
    case bool b =>
      have hcv := hcv.bool_inv
      cases b with
      | true => exact ⟨_, by simp [hcv, asBool], valO_ok ha h⟩
      | false => exact ⟨_, by simp [hcv, asBool], valO_ok ha h⟩
  case build t parts =>
    obtain ⟨ps, hps, hnew⟩ := Option.bind_eq_some_iff.1 h; clear h; have h := hnew; clear hnew
    obtain ⟨h1, h2⟩ := partsO_ok ha _ _ hps
    have := buildV_ok (P := P) (W := W) hE t ps (parts.map fun x => (x.1, a.eval x.2)) (by rw [Array.toList_map]; exact h1) (by rw [Array.toList_map]; exact h2)
    exact v_sndP this h
  case load t x =>
    obtain ⟨u, hu, hnew⟩ := Option.bind_eq_some_iff.1 h; clear h; have h := hnew; clear hnew
    have hu' := valO_ok ha hu
    cases u <;> simp only at h <;> try (cases h; done)
    case ptr r off =>
      obtain ⟨p, hp, he⟩ := hu'.ptr_inv
      obtain ⟨v', h1, h2⟩ := loadVar_ok (P := P) hE hs hp h
      refine ⟨v', v_run ?_, h2⟩
      rw [he]
      simp [Instr.loadAt, Instr.sureAddr, h1]
  case nilCheck x =>
    obtain ⟨u, hu, hnew⟩ := Option.bind_eq_some_iff.1 h; clear h; have h := hnew; clear hnew
    obtain ⟨h1, rfl⟩ := nilCheckV_ok (P := P) (W := W) (valO_ok ha hu) h
    exact ⟨_, h1, valO_ok ha hu⟩
  case binOp op t x y yt =>
    obtain ⟨u, hu, hnew⟩ := Option.bind_eq_some_iff.1 h; clear h; have h := hnew; clear hnew
    obtain ⟨w, hw, hnew⟩ := Option.bind_eq_some_iff.1 h; clear h; have h := hnew; clear hnew
    obtain ⟨v', h1, h2⟩ := binOpV_ok (P := P) (W := W) hE (valO_ok ha hu) (valO_ok ha hw) h
    exact ⟨v', v_run h1, h2⟩
  case unOp op t x =>
    obtain ⟨u, hu, hnew⟩ := Option.bind_eq_some_iff.1 h; clear h; have h := hnew; clear hnew
    exact v_sndP (unOpV_ok (valO_ok ha hu)) h
  case convert src dst x =>
    obtain ⟨u, hu, hnew⟩ := Option.bind_eq_some_iff.1 h; clear h; have h := hnew; clear hnew
    exact v_sndP (convertR_ok hE hs src dst (valO_ok ha hu)) h
  case sliceToArrayPointer arr x =>
    obtain ⟨u, hu, hnew⟩ := Option.bind_eq_some_iff.1 h; clear h; have h := hnew; clear hnew
    exact v_sndP (arrayAtV_ok hE (valO_ok ha hu)) h
  case makeInterface t x =>
    obtain ⟨u, hu, hnew⟩ := Option.bind_eq_some_iff.1 h; clear h; have h := hnew; clear hnew
    exact v_sndP (makeIfaceV_ok hE (valO_ok ha hu)) h
  case makeFunc fn first cap =>
    cases hf : fnPlain fn with
    | false => rw [hf] at h; cases h
    | true =>
      rw [hf] at h
      obtain ⟨u, hu, hnew⟩ := Option.bind_eq_some_iff.1 h; clear h; have h := hnew; clear hnew
      obtain ⟨w, hw, hnew⟩ := Option.bind_eq_some_iff.1 h; clear h; have h := hnew; clear hnew
      simp only [Option.some.injEq] at h
      subst h
      have hfn : FnR φ fn fn := by
        cases fn <;> simp only [fnPlain] at hf <;> try (cases hf; done)
        · exact .func _
        · exact .method _
        · exact .methodOf _ _
      refine ⟨_, v_run rfl, .func hfn ?_ ?_⟩
      · rw [Array.toList_map]; exact valsO_ok ha _ _ hu
      · rw [Array.toList_map]; exact valsO_ok ha _ _ hw
  case slice t x lo hi mx =>
    obtain ⟨u, hu, hnew⟩ := Option.bind_eq_some_iff.1 h; clear h; have h := hnew; clear hnew
    obtain ⟨l, hl, hnew⟩ := Option.bind_eq_some_iff.1 h; clear h; have h := hnew; clear hnew
    obtain ⟨m, hm, hnew⟩ := Option.bind_eq_some_iff.1 h; clear h; have h := hnew; clear hnew
    obtain ⟨n, hn, hnew⟩ := Option.bind_eq_some_iff.1 h; clear h; have h := hnew; clear hnew
    exact v_sndP (sliceV_ok hE hs (valO_ok ha hu) (optO_ok ha hl) (optO_ok ha hm) (optO_ok ha hn)) h
  case fieldAddr t x f =>
    obtain ⟨u, hu, hnew⟩ := Option.bind_eq_some_iff.1 h; clear h; have h := hnew; clear hnew
    exact v_sndP (fieldAddrV_ok hE (valO_ok ha hu)) h
  case field t x f =>
    obtain ⟨u, hu, hnew⟩ := Option.bind_eq_some_iff.1 h; clear h; have h := hnew; clear hnew
    exact v_sndP (fieldV_ok hE (valO_ok ha hu)) h
  case indexAddr t x i =>
    obtain ⟨u, hu, hnew⟩ := Option.bind_eq_some_iff.1 h; clear h; have h := hnew; clear hnew
    obtain ⟨w, hw, hnew⟩ := Option.bind_eq_some_iff.1 h; clear h; have h := hnew; clear hnew
    exact v_sndP (indexAddrV_ok hE (valO_ok ha hu) (valO_ok ha hw)) h
  case index t x i =>
    obtain ⟨u, hu, hnew⟩ := Option.bind_eq_some_iff.1 h; clear h; have h := hnew; clear hnew
    obtain ⟨w, hw, hnew⟩ := Option.bind_eq_some_iff.1 h; clear h; have h := hnew; clear hnew
    exact v_sndP (indexV_ok hE (valO_ok ha hu) (valO_ok ha hw)) h
  case typeAssert x xt t ok =>
    obtain ⟨u, hu, hnew⟩ := Option.bind_eq_some_iff.1 h; clear h; have h := hnew; clear hnew
    exact v_sndP (typeAssertV_ok hE (valO_ok ha hu) xt t ok) h
  case extract x i =>
    obtain ⟨u, hu, hnew⟩ := Option.bind_eq_some_iff.1 h; clear h; have h := hnew; clear hnew
    exact v_sndP (extractV_ok (valO_ok ha hu) i) h
  case entry x =>
    obtain ⟨u, hu, hnew⟩ := Option.bind_eq_some_iff.1 h; clear h; have h := hnew; clear hnew
    exact v_sndP (entryV_ok hs (valO_ok ha hu)) h
  case lookup t x i ok =>
    obtain ⟨u, hu, hnew⟩ := Option.bind_eq_some_iff.1 h; clear h; have h := hnew; clear hnew
    obtain ⟨w, hw, hnew⟩ := Option.bind_eq_some_iff.1 h; clear h; have h := hnew; clear hnew
    exact v_sndP (lookupV_ok hE hs (valO_ok ha hu) (valO_ok ha hw) ok) h
  case call c =>
    cases hc : c.callee <;> rw [hc] at h <;> simp only at h <;> try (cases h; done)
    case builtin b =>
      obtain ⟨vs, hvs, hnew⟩ := Option.bind_eq_some_iff.1 h; clear h; have h := hnew; clear hnew
      have h1 := valsO_ok ha _ _ hvs
      obtain ⟨v', h2, h3⟩ := readB_ok (P := P) (vs' := c.args.map a.eval) hE hs (by rw [Array.toList_map]; exact h1) h o.type (c.args.map fun | .const _ => true | _ => false)
      refine ⟨v', ?_, h3⟩
      simp only [resolve, hc, Sem.run_bind, Sem.run_pure, Result.andThen_ok, invoke]
      exact h2

end
end
end Go.Proofs.YtcjidlgmbjebjaaDoor.Ev

/- The operations that lay a new object and do no more. -/
namespace Go.Proofs.YtcjidlgmbjebjaaDoor.Ev
open Go
noncomputable section

/-- n: the new object's number. -/
def allocOp (E : Env) (n : Nat) (tm : T V) (op : Op) : Option (V × Obj) :=
  match op with
  | .alloc t => (E.ti t).bind fun x => x.zero.bind fun z => (oneCells z).bind fun l => some (.ptr n 0, .row t (Cells.ofList l) false false)
  | .box t x => (E.ti t).bind fun _ => (valO E tm x).bind fun v => (oneCells v).bind fun l => some (.ptr n 0, .row t (Cells.ofList l) false false)
  | .buildSlice t len parts =>
    (E.ti t).bind fun y =>
      match y.desc with
      | .slice e =>
        (E.ti e).bind fun x =>
          match Nat.ble (Nat.mul len x.size) 16777216 with
          | true => (partsO E tm parts.toList).bind fun ps => (zeroCellsV x len).bind fun zc => (fillV (fun i => some (Nat.mul i x.size, x.size)) zc ps).bind fun l =>
              some (.slice n 0 len len, .row e (Cells.ofList l) false false)
          | false => none
      | _ => none
  | .makeMap _ r =>
    match r with
    | none => some (.map n, .map [] 0)
    | some _ => none
  | _ => none

def AllocSnd (E : Env) (P : Program) (φ : Pm) (W : World) (n : Nat) (v : V) (o : Obj) (s : Sem Value) : Prop :=
  ∃ o' p v', s.run P W = .ok v' (W.alloc o') ∧ p.blk = W.heap.size ∧ o.live = true ∧ ∀ ψ, Le φ ψ → ψ n = some p → VR ψ v v' ∧ ObjR E ψ p o (W.alloc o')

section
variable {E : Env} {P : Program} {φ : Pm} {H : Heap} {W : World} {tm : T V} {a : Act}

theorem rowRaw (W : World) (t sz : Nat) (hsz : E.size t = some sz) (cs : Cells) (l' : List Value) (hv : VRs φ cs.toList l') (h1 : ∀ v ∈ l', v.oneCell' = true) :
    ∀ ψ, Le φ ψ → RowR E ψ ⟨W.heap.size, 0, l'.length, l'.length, sz, false, false, none⟩ t cs false false (W.alloc (.cells l'.toArray t)) := by
  intro ψ hle
  have hcell : ∀ i, (W.alloc (.cells l'.toArray t)).cell? (adr ⟨W.heap.size, 0, l'.length, l'.length, sz, false, false, none⟩ i) = l'[i]? := fun i => by
    have : adr ⟨W.heap.size, 0, l'.length, l'.length, sz, false, false, none⟩ i = ⟨W.heap.size, i, none⟩ := by simp [adr]
    rw [this, alloc_cell]
    simp
  refine ⟨hsz, hv.length.symm, Nat.le_refl _, rfl, rfl, fun _ => rfl, ?_, ?_, ?_⟩
  · intro i v hi
    obtain ⟨v', hg, hr⟩ := hv.get hi
    exact ⟨v', by rw [hcell]; exact hg, hr.mono hle, h1 _ (List.mem_of_getElem? hg)⟩
  · intro i hi
    rw [hcell, List.getElem?_eq_getElem hi]
    rfl
  · intro _
    refine ⟨l'.toArray, (0, 0), ?_, by simp, Nat.zero_mod _, .inl rfl⟩
    show (W.heap.push _)[W.heap.size]? = _
    simp

theorem boxRaw {t n : Nat} {x : TI} (hx : E.ti t = some x) {v : V} {v' : Value} (hv : VR φ v v') {l : List V} (hl : oneCells v = some l) :
    AllocSnd E P φ W n (.ptr n 0) (.row t (Cells.ofList l) false false) (Instr.box t v') := by
  obtain ⟨h1, h2, _⟩ := oneCells_ok hv hl
  have hr := rowRaw W t x.size (ti_size hx) (Cells.ofList l) v'.cells.toList (by rw [Cells.toList_ofList]; exact h1) h2
  rw [Array.toArray_toList] at hr
  refine ⟨_, _, .pointer (some ⟨W.heap.size, 0, none⟩), ?_, rfl, rfl, fun ψ hle hp => ⟨?_, hr ψ hle⟩⟩
  · simp [Instr.box, newVar, newRow]
  · exact VR.ptr 0 hp

theorem allocOp_ok (hE : EnvOk E P) (ha : AR E φ tm a) {o : Oper} {n : Nat} {v : V} {ob : Obj} (h : allocOp E n tm o.op = some (v, ob)) :
    ∃ s : Sem Value, execOp a.eval o = (do pure (.value (← s))) ∧ AllocSnd E P φ W n v ob s := by
  unfold execOp
  cases hop : o.op <;> rw [hop] at h <;> simp only [allocOp] at h <;> try (cases h; done)
  case alloc t =>
    obtain ⟨x, hx, hnew⟩ := Option.bind_eq_some_iff.1 h; clear h; have h := hnew; clear hnew
    obtain ⟨z, hz, hnew⟩ := Option.bind_eq_some_iff.1 h; clear h; have h := hnew; clear hnew
    obtain ⟨l, hl, hnew⟩ := Option.bind_eq_some_iff.1 h; clear h; have h := hnew; clear hnew
    simp only [Option.some.injEq, Prod.mk.injEq] at h
    obtain ⟨rfl, rfl⟩ := h
    obtain ⟨i, hi⟩ := hE.ti t x hx
    obtain ⟨z', hz', hzr⟩ := hi.zero z hz
    refine ⟨_, rfl, ?_⟩
    obtain ⟨o', p, v', h1, h2⟩ := boxRaw (P := P) (W := W) (n := n) hx (hzr φ) hl
    refine ⟨o', p, v', ?_, h2⟩
    rw [← h1]
    simp [Instr.alloc, Instr.box, run_zeroValue hi.info hz']
  case box t x =>
    obtain ⟨y, hy, hnew⟩ := Option.bind_eq_some_iff.1 h; clear h; have h := hnew; clear hnew
    obtain ⟨u, hu, hnew⟩ := Option.bind_eq_some_iff.1 h; clear h; have h := hnew; clear hnew
    obtain ⟨l, hl, hnew⟩ := Option.bind_eq_some_iff.1 h; clear h; have h := hnew; clear hnew
    simp only [Option.some.injEq, Prod.mk.injEq] at h
    obtain ⟨rfl, rfl⟩ := h
    exact ⟨_, rfl, boxRaw hy (valO_ok ha hu) hl⟩
  case buildSlice t len parts =>
    obtain ⟨y, hy, hnew⟩ := Option.bind_eq_some_iff.1 h; clear h; have h := hnew; clear hnew
    obtain ⟨j, hj⟩ := hE.ti t y hy
    have hdd := hj.desc
    cases hd : y.desc <;> rw [hd] at h hdd <;> simp only at h <;> try (cases h; done)
    case slice e =>
      obtain ⟨x, hx, hnew⟩ := Option.bind_eq_some_iff.1 h; clear h; have h := hnew; clear hnew
      obtain ⟨i, hi⟩ := hE.ti e x hx
      cases hb : Nat.ble (Nat.mul len x.size) 16777216 with
      | false => rw [hb] at h; cases h
      | true =>
        rw [hb] at h
        obtain ⟨ps, hps, hnew⟩ := Option.bind_eq_some_iff.1 h; clear h; have h := hnew; clear hnew
        obtain ⟨zc, hzc, hnew⟩ := Option.bind_eq_some_iff.1 h; clear h; have h := hnew; clear hnew
        obtain ⟨l, hl, hnew⟩ := Option.bind_eq_some_iff.1 h; clear h; have h := hnew; clear hnew
        simp only [Option.some.injEq, Prod.mk.injEq] at h
        obtain ⟨rfl, rfl⟩ := h
        obtain ⟨hm0, hp0⟩ := partsO_ok ha _ _ hps
        have hm : ps.map (·.1) = (parts.map fun x => (x.1, a.eval x.2)).toList.map (·.1) := by rw [Array.toList_map]; exact hm0
        have hp : VRs φ (ps.map (·.2)) ((parts.map fun x => (x.1, a.eval x.2)).toList.map (·.2)) := by rw [Array.toList_map]; exact hp0
        obtain ⟨z', hz', hzs, hzl, hzr⟩ := zeroCellsV_ok hi hzc
        obtain ⟨k1, k2, k3⟩ := hzr φ
        obtain ⟨c', e1, e2, e3, e4⟩ := fillV_ok (φ := φ) (fun i => some (Nat.mul i x.size, x.size)) ps _ zc ((Array.range (len * i.size)).map (z'.cells[· % z'.cells.size]!)) l k1 k2 hm hp hl
        have hr := rowRaw W e x.size (ti_size hx) (Cells.ofList l) c'.toList (by rw [Cells.toList_ofList]; exact e2) (oneCell_of_agg e2 e3)
        rw [Array.toArray_toList] at hr
        refine ⟨_, rfl, _, _, .slice (some ⟨W.heap.size, 0, none⟩) len len, ?_, rfl, rfl, fun ψ hle hp => ⟨?_, hr ψ hle⟩⟩
        · have hble : len * i.size ≤ 16777216 := by rw [hi.size]; exact of_ble_t hb
          have e1' : Instr.fill (fun j => some (j * i.size, i.size)) ((Array.range (len * i.size)).map (z'.cells[· % z'.cells.size]!)) (parts.map fun x => (x.1, a.eval x.2)).toList = some c' := by rw [← e1, hi.size]; rfl
          unfold Instr.buildSlice
          simp only [Sem.run_bind, run_underlying hdd, Result.andThen_ok, run_sizeOf hi.info]
          rw [if_neg (by omega)]
          by_cases h0 : len * i.size = 0
          · have r0 : ∀ f : Nat → Value, (Array.range 0).map f = #[] := fun f => by apply Array.ext'; simp
            simp only [h0, if_true]
            rw [h0, r0] at e1'
            simp only [Sem.run_bind, Sem.run_pure, Result.andThen_ok, r0, e1']
            simp [newRow]
          · simp only [h0, if_false, Sem.run_bind, run_zeroValue hi.info hz', Result.andThen_ok, Sem.run_pure]
            rw [e1']
            simp [newRow]
        · exact VR.slice 0 len hp (.inl rfl)
  case makeMap t r =>
    cases r <;> simp only at h <;> try (cases h; done)
    case none =>
      simp only [Option.some.injEq, Prod.mk.injEq] at h
      obtain ⟨rfl, rfl⟩ := h
      refine ⟨_, rfl, .map #[] 0, ⟨W.heap.size, 0, 0, 0, 0, false, false, none⟩, .map (some W.heap.size), by simp [Instr.makeMap], rfl, rfl, fun ψ hle hp => ⟨.map hp, rfl, #[], heap_new _ _, .nil⟩⟩

/-- A new object, at its time. -/
theorem AllocSnd.now (hs : St E φ H W) {v : V} {o : Obj} {s : Sem Value} (h : AllocSnd E P φ W H.next v o s) : ∃ φ' v' W', s.run P W = .ok v' W' ∧ VR φ' v v' ∧ To E φ H W φ' (H.new o) W' := by
  obtain ⟨o', p, v', h1, h2, h3, h4⟩ := h
  obtain ⟨h5, h6⟩ := h4 _ (hs.dom.le_ext p) (ext_same _ _ _)
  exact ⟨_, v', _, h1, h5, To.alloc hs o o' p h2 h6⟩

end
end
end Go.Proofs.YtcjidlgmbjebjaaDoor.Ev

/- The operations that act: stores, appends, calls. -/
namespace Go.Proofs.YtcjidlgmbjebjaaDoor.Ev
open Go
noncomputable section

inductive NX where
  | value (v : V) (H : Heap)
  | same (v : V)
  | enter (f : FuncId) (args : List V)
  | round (l : Nat) (args : List V)
  | defer (f : FuncId) (args caps : List V)
  | recover

/-- A function without a body. -/
def extV (k : Nat) (args : List V) : Option V :=
  match k with
  | 0 => none
  | 1 =>
    match args with
    | [.int _ (.ofNat x), .int _ (.ofNat y), .int _ (.ofNat c)] =>
      match Nat.ble c 1 with
      | true => some (.tuple [.int .u64 (.ofNat (Nat.mod (Nat.add (Nat.add x y) c) 18446744073709551616)), .int .u64 (.ofNat (Nat.div (Nat.add (Nat.add x y) c) 18446744073709551616))])
      | false => none
    | _ => none
  | 2 =>
    match args with
    | [.int _ (.ofNat x), .int _ (.ofNat y), .int _ (.ofNat c)] =>
      match Nat.ble c 1 with
      | true => some (.tuple [.int .u64 (.ofNat (Nat.mod (Nat.sub (Nat.sub (Nat.add x 18446744073709551616) y) c) 18446744073709551616)), .int .u64 (.ofNat (match Nat.blt x (Nat.add y c) with | true => 1 | false => 0))])
      | false => none
    | _ => none
  | 3 =>
    match args with
    | [x] => some x
    | _ => none
  | _ => none
/-- A function without a body that makes memory. -/
def extH (H : Heap) (k : Nat) (args : List V) : Option (V × Heap) :=
  match k with
  | 4 =>
    match args with
    | x :: r =>
      match r with
      | [] =>
        match x with
        | .iface t m =>
          match m with
          | .map r => (H.look r).bind fun o =>
            match o with
            | .map es clock => some (.iface t (.map H.next), H.new (.map es clock))
            | _ => none
          | _ => none
        | _ => none
      | _ :: _ => none
    | [] => none
  | _ => none
def enterV (E : Env) (H : Heap) (f : FuncId) (args : List V) : Option NX :=
  (E.fn f).bind fun x =>
    match x.body with
    | some _ => some (.enter f args)
    | none =>
      match extV (E.ek f) args with
      | some v => some (.same v)
      | none => (extH H (E.ek f) args).bind fun q => some (.value q.1 q.2)
def findM (ms : List Method) (name : String) : Option Method :=
  match ms with
  | [] => none
  | m :: r =>
    match m.name == name with
    | true => some m
    | false => findM r name
def callMethodV (E : Env) (H : Heap) (recv : V) (name : String) (args : List V) : Option NX :=
  match recv with
  | .iface t v =>
    (E.ti t).bind fun x => (findM x.methods name).bind fun m =>
      match m.path.toList with
      | [] =>
        m.func.bind fun q =>
          match x.desc with
          | .pointer _ =>
            match q.2 with
            | true => enterV E H q.1 (v :: args)
            | false => none
          | .interface _ => none
          | _ =>
            match q.2 with
            | true => none
            | false => enterV E H q.1 (v :: args)
      | _ :: _ => none
  | _ => none
def callValueV (E : Env) (H : Heap) (g : V) (args : List V) : Option NX :=
  match g with
  | .func fn first caps =>
    match fn with
    | .func f => enterV E H f (first ++ args ++ caps)
    | .yield l => some (.round l (first ++ args))
    | .method name =>
      match first ++ args with
      | r :: rest => callMethodV E H r name rest
      | [] => none
    | _ => none
  | _ => none
def actB (E : Env) (H : Heap) (b : Builtin) (ts : List TypeId) (vs : List V) : Option NX :=
  match b with
  | .append =>
    match ts with
    | [t0, t1] =>
      match vs with
      | [x, y] => (appendV E H t0 t1 x y).bind fun q => some (.value q.1 q.2)
      | _ => none
    | _ => none
  | .copy =>
    match ts with
    | [t0, _] =>
      match vs with
      | [x, y] => (copyV E H t0 x y).bind fun q => some (.value q.1 q.2)
      | _ => none
    | _ => none
  | .delete =>
    match ts with
    | t0 :: _ =>
      match vs with
      | [x, y] => (deleteV E H t0 x y).bind fun q => some (.value q.1 q.2)
      | _ => none
    | _ => none
  | .clear =>
    match ts with
    | t0 :: _ =>
      match vs with
      | [x] => (clearV E H t0 x).bind fun q => some (.value q.1 q.2)
      | _ => none
    | _ => none
  | .unsafeString =>
    match ts with
    | [t0, _] =>
      match vs with
      | [x, y] => (unsafeStrV E H t0 x y).bind fun q => some (.value q.1 q.2)
      | _ => none
    | _ => none
  | .recover => some .recover
  | _ => none
def actOp (E : Env) (H : Heap) (tm : T V) (op : Op) : Option NX :=
  match op with
  | .store t x y => (valO E tm x).bind fun u => (valO E tm y).bind fun v =>
    match u with
    | .ptr r off => (storeVar E H t r off v).bind fun H' => some (.value vundef H')
    | _ => none
  | .convert src dst x => (valO E tm x).bind fun u => (convertV E H src dst u).bind fun q => some (.value q.1 q.2)
  | .makeSlice t l c => (valO E tm l).bind fun u => (valO E tm c).bind fun v => (makeSliceV E H t u v).bind fun q => some (.value q.1 q.2)
  | .range t x => (valO E tm x).bind fun u => (rangeV E H t u).bind fun q => some (.value q.1 q.2)
  | .next x isStr => (valO E tm x).bind fun u =>
    match isStr with
    | true => (nextStrV H u).bind fun q => some (.value q.1 q.2)
    | false => (nextMapV H u).bind fun q => some (.value q.1 q.2)
  | .mapUpdate t m k x => (valO E tm m).bind fun m => (valO E tm k).bind fun k => (valO E tm x).bind fun x => (mapUpdateV E H t m k x).bind fun H' => some (.value vundef H')
  | .insert t m k x => (valO E tm m).bind fun m => (valO E tm k).bind fun k => (valO E tm x).bind fun x => (mapUpdateV E H t m k x).bind fun H' => some (.value vundef H')
  | .mapEntry t m k => (valO E tm m).bind fun m => (valO E tm k).bind fun k => (mapEntryV E H t m k).bind fun q => some (.value q.1 q.2)
  | .entryStore _ m s x => (valO E tm m).bind fun m => (valO E tm s).bind fun s => (valO E tm x).bind fun x => (entryStoreV H m s x).bind fun H' => some (.value vundef H')
  | .call c => (valsO E tm c.args.toList).bind fun vs =>
    match c.callee with
    | .builtin b => actB E H b c.argTypes.toList vs
    | .invoke recv name => (valO E tm recv).bind fun r => callMethodV E H r name vs
    | .value f => (valO E tm f).bind fun g => callValueV E H g vs
  | .defer c => (valsO E tm c.args.toList).bind fun vs =>
    match c.callee with
    | .value f => (valO E tm f).bind fun g =>
      match g with
      | .func fn first caps =>
        match fn with
        | .func f => some (.defer f (first ++ vs) caps)
        | _ => none
      | _ => none
    | _ => none
  | _ => none

section
variable {E : Env} {P : Program} {φ : Pm} {H : Heap} {W : World} {tm : T V} {a : Act}

def NXR (E : Env) (P : Program) (φ : Pm) (H : Heap) (W : World) (nx : NX) (r : Result Next) : Prop :=
  match nx with
  | .value v H' => ∃ φ' v' W', (r = .ok (.value v') W' ∨ (r = .ok .skip W' ∧ v' = Go.undef)) ∧ VR φ' v v' ∧ To E φ H W φ' H' W'
  | .same v => ∃ v', r = .ok (.value v') W ∧ VR φ v v'
  | .enter f args => ∃ args', r = .ok (.enter f args') W ∧ VRs φ args args'.toList
  | .round l args => ∃ p args', φ l = some p ∧ r = (Instr.yield p.blk args').run P W ∧ VRs φ args args'.toList
  | .defer f args caps => ∃ args' caps', r = .ok (.defer { target := .fn (.func f) caps', args := args' }) W ∧ VRs φ args args'.toList ∧ VRs φ caps caps'.toList
  | .recover => r = .ok .recover W

theorem nxr_snd {x : Option (V × Heap)} {s : Sem Value} (hx : Snd E P φ H W x s) {nx : NX} (h : (x.bind fun q => some (.value q.1 q.2)) = some nx) : NXR E P φ H W nx ((do pure (.value (← s)) : Sem Next).run P W) := by
  obtain ⟨q, hq, h⟩ := Option.bind_eq_some_iff.1 h
  simp only [Option.some.injEq] at h
  subst h
  obtain ⟨φ', v', W', h1, h2, h3⟩ := hx q.1 q.2 hq
  exact ⟨φ', v', W', .inl (v_run h1), h2, h3⟩

theorem run_callFunc (hE : EnvOk E P) {f : FuncId} {fn : Func} (hf : E.fn f = some fn) {c : Code} (hb : fn.body = some c) (args : Array Value) : (callFunc f args).run P W = .ok (.enter f args) W := by
  obtain ⟨h1, h2⟩ := hE.fn f fn hf
  have h3 : fn.name ≠ "runtime.NumGoroutine" := by simpa using h2
  unfold callFunc
  simp [h1, h3, hb]
theorem three_run {name : String} {kx ky kc : IntKind} {x y c : Nat} (hc : c ≤ 1) : (Extern.MathBitsCarry.three name #[.int kx (.ofNat x), .int ky (.ofNat y), .int kc (.ofNat c)]).run P W = .ok (x, y, c) W := by
  have h1 : ¬ (c > 1) := by omega
  have h2 : Extern.MathBitsCarry.three name #[.int kx (.ofNat x), .int ky (.ofNat y), .int kc (.ofNat c)] = (do
    let c := (← asInt (.int kc (.ofNat c))).toNat
    if c > 1 then unsupported (.noEntry ("extern/math/bits." ++ name ++ ": a carry that is neither 0 nor 1"))
    pure ((← asInt (.int kx (.ofNat x))).toNat, (← asInt (.int ky (.ofNat y))).toNat, c)) := rfl
  rw [h2]
  simp [asInt, asIntOf, h1]
  omega
theorem extV_ok {k : Nat} {args : List V} {v : V} (h : extV k args = some v) {args' : Array Value} (ha : VRs φ args args'.toList) : ∃ v', (extSem k args').run P W = .ok v' W ∧ VR φ v v' := by
  unfold extV at h
  split at h
  · cases h
  · split at h
    · rename_i kx x ky y kc c
      obtain ⟨a, b, d, he, h1, h2, h3⟩ : ∃ a b d, args' = #[a, b, d] ∧ VR φ (.int kx (.ofNat x)) a ∧ VR φ (.int ky (.ofNat y)) b ∧ VR φ (.int kc (.ofNat c)) d := by
        cases args' with
        | mk l =>
          simp only at ha
          cases ha with
          | cons x1 r1 => cases r1 with
            | cons x2 r2 => cases r2 with
              | cons x3 r3 => cases r3; exact ⟨_, _, _, rfl, x1, x2, x3⟩
      have := h1.int_inv; subst this
      have := h2.int_inv; subst this
      have := h3.int_inv; subst this
      subst he
      cases hc : Nat.ble c 1 with
      | false => rw [hc] at h; cases h
      | true =>
        rw [hc] at h
        simp only [Option.some.injEq] at h
        subst h
        refine ⟨_, ?_, VR.tuple (cs' := #[_, _]) (.cons (.int _ _) (.cons (.int _ _) .nil))⟩
        simp only [extSem, Sem.run_bind, three_run (of_ble_t hc), Result.andThen_ok]
        rfl
    · cases h
  · split at h
    · rename_i kx x ky y kc c
      obtain ⟨a, b, d, he, h1, h2, h3⟩ : ∃ a b d, args' = #[a, b, d] ∧ VR φ (.int kx (.ofNat x)) a ∧ VR φ (.int ky (.ofNat y)) b ∧ VR φ (.int kc (.ofNat c)) d := by
        cases args' with
        | mk l =>
          simp only at ha
          cases ha with
          | cons x1 r1 => cases r1 with
            | cons x2 r2 => cases r2 with
              | cons x3 r3 => cases r3; exact ⟨_, _, _, rfl, x1, x2, x3⟩
      have := h1.int_inv; subst this
      have := h2.int_inv; subst this
      have := h3.int_inv; subst this
      subst he
      cases hc : Nat.ble c 1 with
      | false => rw [hc] at h; cases h
      | true =>
        rw [hc] at h
        simp only [Option.some.injEq] at h
        subst h
        refine ⟨_, ?_, VR.tuple (cs' := #[_, _]) (.cons (.int _ _) (.cons (.int _ _) .nil))⟩
        simp only [extSem, Sem.run_bind, three_run (of_ble_t hc), Result.andThen_ok]
        have hlt : (match Nat.blt x (Nat.add y c) with | true => 1 | false => 0) = if x < y + c then 1 else 0 := by
          cases hb : Nat.blt x (Nat.add y c) with
          | true => exact (if_pos (show x < y + c from of_blt_t hb)).symm
          | false => exact (if_neg (show ¬ x < y + c from Nat.not_lt.2 (of_blt_f hb))).symm
        rw [hlt]
        rfl
    · cases h
  · split at h
    · rename_i x
      obtain ⟨a, he, h1⟩ : ∃ a, args' = #[a] ∧ VR φ x a := by
        cases args' with
        | mk l =>
          simp only at ha
          cases ha with
          | cons x1 r1 => cases r1; exact ⟨_, rfl, x1⟩
      simp only [Option.some.injEq] at h
      subst h he
      exact ⟨a, rfl, h1⟩
    · cases h
  · cases h
theorem extH_ok (hs : St E φ H W) {k : Nat} {args : List V} {v : V} {H' : Heap} (h : extH H k args = some (v, H')) {args' : Array Value} (ha : VRs φ args args'.toList) :
    ∃ φ' v' W', (extSem k args').run P W = .ok v' W' ∧ VR φ' v v' ∧ To E φ H W φ' H' W' := by
  unfold extH at h
  split at h <;> try (cases h; done)
  cases args with
  | nil => cases h
  | cons x r =>
    cases r with
    | cons _ _ => cases h
    | nil =>
      simp only at h
      obtain ⟨a, he, h1⟩ : ∃ a, args' = #[a] ∧ VR φ x a := by
        cases args' with
        | mk l =>
          simp only at ha
          cases ha with
          | cons x1 r1 => cases r1; exact ⟨_, rfl, x1⟩
      subst he
      cases x <;> simp only at h <;> try (cases h; done)
      case iface t m =>
        obtain ⟨m', hm, rfl⟩ := h1.iface_inv
        cases m <;> simp only at h <;> try (cases h; done)
        case map r =>
          obtain ⟨p, hp, rfl⟩ := hm.map_inv
          obtain ⟨o, ho, hnew⟩ := Option.bind_eq_some_iff.1 h; clear h; have h := hnew; clear hnew
          cases o <;> simp only at h <;> try (cases h; done)
          case map es clock =>
            simp only [Option.some.injEq, Prod.mk.injEq] at h
            obtain ⟨rfl, rfl⟩ := h
            obtain ⟨_, es', h2, h3⟩ := hs.hr.obj _ _ _ ho hp
            have hto := To.newObj hs (.map es clock) (.map es' clock) (fun ψ hle _ => ⟨rfl, es', heap_new _ _, h3.mono hle⟩)
            refine ⟨_, .iface t (.map (some W.heap.size)), _, ?_, VR.iface t (VR.map (p := ⟨W.heap.size, 0, 0, 0, 0, false, false, none⟩) (ext_same _ _ _)), hto⟩
            have hg : (getObj p.blk).run P W = .ok (.map es' clock) W := by simp [getObj, Sem.run, h2]
            show ((getObj p.blk) >>= fun o => (match o with
              | .map entries clock => (do pure (.iface t (.map (some (← newObj (.map entries clock))))) : Sem Value)
              | _ => stuck "maps.clone: a map expected")).run P W = _
            rw [Sem.run_bind, hg]
            simp
theorem enterV_ok (hE : EnvOk E P) (hs : St E φ H W) {f : FuncId} {args : List V} {nx : NX} (h : enterV E H f args = some nx) {args' : Array Value} (ha : VRs φ args args'.toList) : NXR E P φ H W nx ((callFunc f args').run P W) := by
  unfold enterV at h
  obtain ⟨x, hx, hnew⟩ := Option.bind_eq_some_iff.1 h; clear h; have h := hnew; clear hnew
  cases hb : x.body with
  | none =>
    rw [hb] at h
    simp only at h
    have hrun : ∀ (_ : E.ek f ≠ 0) {v' : Value} {W' : World}, (extSem (E.ek f) args').run P W = .ok v' W' → (callFunc f args').run P W = .ok (.value v') W' := fun hk v' W' h6 => by
      obtain ⟨y, h1, h2, h3, h4, h5⟩ := (hE.ext f hk).fn
      have h3' : y.name ≠ "runtime.NumGoroutine" := by simpa using h2
      have h4' : Extern.findNext y = none := by simpa using h4
      have h5' : y.body = none := by simpa using h3
      unfold callFunc
      simp [h1, h3', h5', h4', h5, h6, mark, Sem.run]
    cases hv : extV (E.ek f) args with
    | some v =>
      rw [hv] at h
      simp only [Option.some.injEq] at h
      subst h
      have hk : E.ek f ≠ 0 := fun e => by rw [e] at hv; cases hv
      obtain ⟨v', h6, h7⟩ := extV_ok (P := P) (W := W) hv ha
      exact ⟨v', hrun hk h6, h7⟩
    | none =>
      rw [hv] at h
      simp only at h
      obtain ⟨q, hq, hnew⟩ := Option.bind_eq_some_iff.1 h; clear h; have h := hnew; clear hnew
      simp only [Option.some.injEq] at h
      subst h
      have hk : E.ek f ≠ 0 := fun e => by rw [e] at hq; cases hq
      obtain ⟨φ', v', W', h6, h7, h8⟩ := extH_ok (P := P) hs hq ha
      exact ⟨φ', v', W', .inl (hrun hk h6), h7, h8⟩
  | some c =>
    rw [hb] at h
    simp only [Option.some.injEq] at h
    subst h
    exact ⟨args', run_callFunc hE hx hb args', ha⟩
theorem findM_eq (ms : List Method) (name : String) : findM ms name = ms.find? (·.name == name) := by
  induction ms with
  | nil => rfl
  | cons m r ih =>
    simp only [findM, List.find?_cons]
    cases m.name == name <;> simp [ih]
theorem callMethodV_ok (hE : EnvOk E P) (hs : St E φ H W) {recv : V} {recv' : Value} (hr : VR φ recv recv') {name : String} {args : List V} {args' : Array Value} (ha : VRs φ args args'.toList) {nx : NX} (h : callMethodV E H recv name args = some nx) :
    NXR E P φ H W nx ((callMethod recv' name args').run P W) := by
  unfold callMethodV at h
  cases recv <;> simp only at h <;> try (cases h; done)
  case iface t v =>
    obtain ⟨w, hw, rfl⟩ := hr.iface_inv
    obtain ⟨x, hx, hnew⟩ := Option.bind_eq_some_iff.1 h; clear h; have h := hnew; clear hnew
    obtain ⟨m, hm, hnew⟩ := Option.bind_eq_some_iff.1 h; clear h; have h := hnew; clear hnew
    obtain ⟨i, hi⟩ := hE.ti t x hx
    rw [findM_eq, ← hi.methods, Array.find?_toList] at hm
    cases hp : m.path.toList with
    | cons s r => rw [hp] at h; cases h
    | nil =>
      rw [hp] at h
      obtain ⟨q, hq, hnew⟩ := Option.bind_eq_some_iff.1 h; clear h; have h := hnew; clear hnew
      have hrun : ∀ (d : TypeDesc), x.desc = d → (receiverAt t (.val w) q.2 (some ((name.splitOn ".").getLastD name))).run P W = .ok w W →
          (callMethod (.iface t w) name args').run P W = (callFunc q.1 (#[w] ++ args')).run P W := fun d hd hrec => by
        have hemp : m.path.isEmpty = true := by
          rw [← Array.isEmpty_toList, hp]; rfl
        have hprog : (program).run P W = .ok P W := rfl
        unfold callMethod
        simp only [Sem.run_bind, hprog, Result.andThen_ok]
        have hfuel : P.types.size + Made.depth = (P.types.size + (Made.depth - 1)) + 1 := by
          have : 1 ≤ Made.depth := by decide
          omega
        rw [hfuel]
        unfold Go.method
        simp only [Sem.run_bind, run_typeInfo hi.info, Result.andThen_ok, hm, hp, follow, Sem.run_pure, hq, hemp, if_true]
        rw [hrec]
        rfl
      have hargs : VRs φ (v :: args) (#[w] ++ args').toList := by simpa using VRs.cons hw ha
      have hdesc := hi.desc
      cases hd : x.desc <;> rw [hd] at h hdesc <;> simp only at h <;> try (cases h; done)
      case pointer e =>
        cases hq2 : q.2 with
        | false => rw [hq2] at h; cases h
        | true =>
          rw [hq2] at h
          rw [hrun _ hd (by rw [hq2]; simp [receiverAt, run_underlying hdesc, Place.get])]
          exact enterV_ok hE hs h hargs
      all_goals
        cases hq2 : q.2 with
        | true => rw [hq2] at h; cases h
        | false =>
          rw [hq2] at h
          rw [hrun _ hd (by rw [hq2]; simp [receiverAt, run_underlying hdesc, Place.get])]
          exact enterV_ok hE hs h hargs

theorem callValueV_ok (hE : EnvOk E P) (hs : St E φ H W) {g : V} {g' : Value} (hg : VR φ g g') {args : List V} {args' : Array Value} (ha : VRs φ args args'.toList) {nx : NX} (h : callValueV E H g args = some nx) :
    NXR E P φ H W nx ((do let d ← Deferred.ofValue g' args'; invoke d.target d.args : Sem Next).run P W) := by
  unfold callValueV at h
  cases g <;> simp only at h <;> try (cases h; done)
  case func fn first caps =>
    obtain ⟨fn', first', caps', hfn, h1, h2, rfl⟩ := hg.func_inv
    have happ : VRs φ (first ++ args) (first' ++ args').toList := by rw [Array.toList_append]; exact h1.append ha
    simp only [Deferred.ofValue, Sem.run_bind, Sem.run_pure, Result.andThen_ok]
    cases hfn with
    | func f =>
      simp only at h
      have : VRs φ (first ++ args ++ caps) (first' ++ args' ++ caps').toList := by rw [Array.toList_append]; exact happ.append h2
      exact enterV_ok hE hs h this
    | yield hp =>
      simp only [Option.some.injEq] at h
      subst h
      exact ⟨_, _, hp, rfl, happ⟩
    | method name =>
      simp only at h
      generalize hl : first ++ args = l at h happ
      cases l with
      | nil => cases h
      | cons r rest =>
        simp only at h
        generalize hl' : first' ++ args' = l' at happ
        have hsplit : ∃ r' rest', l'.toList = r' :: rest' ∧ VR φ r r' ∧ VRs φ rest rest' := by
          cases hh : l'.toList with
          | nil => rw [hh] at happ; cases happ
          | cons r' rest' => rw [hh] at happ; cases happ with | cons x y => exact ⟨r', rest', rfl, x, y⟩
        obtain ⟨r', rest', e1, e2, e3⟩ := hsplit
        have h0 : l'[0]? = some r' := by rw [← Array.getElem?_toList, e1]; rfl
        have hex : (l'.extract 1 l'.size).toList = rest' := by
          rw [Array.toList_extract, List.extract_eq_take_drop, e1]
          have : l'.size = rest'.length + 1 := by rw [← Array.length_toList, e1]; rfl
          simp [this]
        have := callMethodV_ok (P := P) (H := H) (W := W) hE hs e2 (args' := l'.extract 1 l'.size) (by rw [hex]; exact e3) h
        simpa [invoke, h0] using this
    | methodOf t s => cases h

theorem actB_ok (hE : EnvOk E P) (hs : St E φ H W) {b : Builtin} {ts : Array TypeId} {vs : List V} {vs' : Array Value} (hv : VRs φ vs vs'.toList) {nx : NX} (h : actB E H b ts.toList vs = some nx) (ty : TypeId) (cs : Array Bool) :
    NXR E P φ H W nx ((builtin b ts ty cs vs').run P W) := by
  unfold actB at h
  cases b <;> simp only at h <;> try (cases h; done)
  case append =>
    split at h <;> try (cases h; done)
    rename_i t0 t1 ht
    split at h <;> try (cases h; done)
    rename_i x y
    obtain ⟨x', y', h1, h2, h3⟩ := hv.two_inv
    rw [toList_two ht, toList_two h1]
    exact nxr_snd (appendV_ok hE hs h2 h3 ty) h
  case unsafeString =>
    split at h <;> try (cases h; done)
    rename_i t0 t1 ht
    split at h <;> try (cases h; done)
    rename_i x y
    obtain ⟨x', y', h1, h2, h3⟩ := hv.two_inv
    rw [toList_two ht, toList_two h1]
    exact nxr_snd (unsafeStrV_ok hE hs h2 h3) h
  case copy =>
    split at h <;> try (cases h; done)
    rename_i t0 t1 ht
    split at h <;> try (cases h; done)
    rename_i x y
    obtain ⟨x', y', h1, h2, h3⟩ := hv.two_inv
    rw [toList_two ht, toList_two h1]
    exact nxr_snd (copyV_ok hE hs t1 h2 h3 ty) h
  case delete =>
    split at h <;> try (cases h; done)
    rename_i t0 tr ht
    split at h <;> try (cases h; done)
    rename_i x y
    obtain ⟨x', y', h1, h2, h3⟩ := hv.two_inv
    rw [toList_two h1]
    exact nxr_snd (deleteV_ok hE hs h2 h3 ts (by rw [← Array.getElem?_toList, ht]; rfl) ty) h
  case clear =>
    split at h <;> try (cases h; done)
    rename_i t0 tr ht
    split at h <;> try (cases h; done)
    rename_i x
    obtain ⟨x', h1, h2⟩ := hv.one_inv
    rw [toList_one h1]
    exact nxr_snd (clearV_ok hE hs h2 ts (by rw [← Array.getElem?_toList, ht]; rfl) ty) h
  case recover =>
    simp only [Option.some.injEq] at h
    subst h
    rfl

theorem actOp_ok (hE : EnvOk E P) (hs : St E φ H W) (ha : AR E φ tm a) {o : Oper} {nx : NX} (h : actOp E H tm o.op = some nx) :
    NXR E P φ H W nx ((execOp a.eval o).run P W) := by
  unfold execOp
  cases hop : o.op <;> rw [hop] at h <;> simp only [actOp] at h <;> try (cases h; done)
  case store t x y =>
    obtain ⟨u, hu, hnew⟩ := Option.bind_eq_some_iff.1 h; clear h; have h := hnew; clear hnew
    obtain ⟨v, hv, hnew⟩ := Option.bind_eq_some_iff.1 h; clear h; have h := hnew; clear hnew
    cases u <;> simp only at h <;> try (cases h; done)
    case ptr r off =>
      obtain ⟨H', hH, hnew⟩ := Option.bind_eq_some_iff.1 h; clear h; have h := hnew; clear hnew
      simp only [Option.some.injEq] at h
      subst h
      obtain ⟨p, hp, he⟩ := (valO_ok ha hu).ptr_inv
      obtain ⟨W', h1, h2⟩ := storeVar_ok (P := P) hE hs hp (valO_ok ha hv) H' hH
      refine ⟨φ, Go.undef, W', .inr ⟨?_, rfl⟩, .undef, h2⟩
      show (do Instr.storeAt t (a.eval x) (a.eval y); pure .skip : Sem Next).run P W = _
      rw [he]
      simp [Instr.storeAt, Instr.sureAddr, h1]
  case convert src dst x =>
    obtain ⟨u, hu, hnew⟩ := Option.bind_eq_some_iff.1 h; clear h; have h := hnew; clear hnew
    exact nxr_snd (convertV_ok hE hs src dst (valO_ok ha hu)) h
  case makeSlice t l c =>
    obtain ⟨u, hu, hnew⟩ := Option.bind_eq_some_iff.1 h; clear h; have h := hnew; clear hnew
    obtain ⟨v, hv, hnew⟩ := Option.bind_eq_some_iff.1 h; clear h; have h := hnew; clear hnew
    exact nxr_snd (makeSliceV_ok hE hs (valO_ok ha hu) (valO_ok ha hv)) h
  case range t x =>
    obtain ⟨u, hu, hnew⟩ := Option.bind_eq_some_iff.1 h; clear h; have h := hnew; clear hnew
    exact nxr_snd (rangeV_ok hE hs (valO_ok ha hu)) h
  case next x isStr =>
    obtain ⟨u, hu, hnew⟩ := Option.bind_eq_some_iff.1 h; clear h; have h := hnew; clear hnew
    cases isStr with
    | false => exact nxr_snd (nextMapV_ok hs (valO_ok ha hu) o.type) h
    | true => exact nxr_snd (nextStrV_ok hs (valO_ok ha hu) o.type) h
  case mapUpdate t m k x =>
    obtain ⟨u, hu, hnew⟩ := Option.bind_eq_some_iff.1 h; clear h; have h := hnew; clear hnew
    obtain ⟨v, hv, hnew⟩ := Option.bind_eq_some_iff.1 h; clear h; have h := hnew; clear hnew
    obtain ⟨w, hw, hnew⟩ := Option.bind_eq_some_iff.1 h; clear h; have h := hnew; clear hnew
    obtain ⟨H', hH, hnew⟩ := Option.bind_eq_some_iff.1 h; clear h; have h := hnew; clear hnew
    simp only [Option.some.injEq] at h
    subst h
    obtain ⟨W', h1, h2⟩ := mapUpdateV_ok (P := P) hE hs (valO_ok ha hu) (valO_ok ha hv) (valO_ok ha hw) H' hH
    refine ⟨φ, Go.undef, W', .inr ⟨?_, rfl⟩, .undef, h2⟩
    simp [h1]
  case insert t m k x =>
    obtain ⟨u, hu, hnew⟩ := Option.bind_eq_some_iff.1 h; clear h; have h := hnew; clear hnew
    obtain ⟨v, hv, hnew⟩ := Option.bind_eq_some_iff.1 h; clear h; have h := hnew; clear hnew
    obtain ⟨w, hw, hnew⟩ := Option.bind_eq_some_iff.1 h; clear h; have h := hnew; clear hnew
    obtain ⟨H', hH, hnew⟩ := Option.bind_eq_some_iff.1 h; clear h; have h := hnew; clear hnew
    simp only [Option.some.injEq] at h
    subst h
    obtain ⟨W', h1, h2⟩ := mapUpdateV_ok (P := P) hE hs (valO_ok ha hu) (valO_ok ha hv) (valO_ok ha hw) H' hH
    refine ⟨φ, Go.undef, W', .inr ⟨?_, rfl⟩, .undef, h2⟩
    simp [h1]
  case mapEntry t m k =>
    obtain ⟨u, hu, hnew⟩ := Option.bind_eq_some_iff.1 h; clear h; have h := hnew; clear hnew
    obtain ⟨v, hv, hnew⟩ := Option.bind_eq_some_iff.1 h; clear h; have h := hnew; clear hnew
    exact nxr_snd (mapEntryV_ok hE hs (valO_ok ha hu) (valO_ok ha hv)) h
  case entryStore t m s x =>
    obtain ⟨u, hu, hnew⟩ := Option.bind_eq_some_iff.1 h; clear h; have h := hnew; clear hnew
    obtain ⟨v, hv, hnew⟩ := Option.bind_eq_some_iff.1 h; clear h; have h := hnew; clear hnew
    obtain ⟨w, hw, hnew⟩ := Option.bind_eq_some_iff.1 h; clear h; have h := hnew; clear hnew
    obtain ⟨H', hH, hnew⟩ := Option.bind_eq_some_iff.1 h; clear h; have h := hnew; clear hnew
    simp only [Option.some.injEq] at h
    subst h
    obtain ⟨W', h1, h2⟩ := entryStoreV_ok (P := P) (E := E) hs t (valO_ok ha hu) (valO_ok ha hv) (valO_ok ha hw) H' hH
    refine ⟨φ, Go.undef, W', .inr ⟨?_, rfl⟩, .undef, h2⟩
    simp [h1]
  case call c =>
    obtain ⟨vs, hvs, hnew⟩ := Option.bind_eq_some_iff.1 h; clear h; have h := hnew; clear hnew
    have h1 : VRs φ vs (c.args.map a.eval).toList := by rw [Array.toList_map]; exact valsO_ok ha _ _ hvs
    cases hc : c.callee <;> rw [hc] at h <;> simp only at h <;> try (cases h; done)
    case builtin b =>
      have := actB_ok (P := P) hE hs h1 h o.type (c.args.map fun | .const _ => true | _ => false)
      simp only [resolve, hc, Sem.run_bind, Sem.run_pure, Result.andThen_ok, invoke]
      exact this
    case invoke recv name =>
      obtain ⟨r, hr, hnew⟩ := Option.bind_eq_some_iff.1 h; clear h; have h := hnew; clear hnew
      have := callMethodV_ok (P := P) (H := H) (W := W) hE hs (valO_ok ha hr) h1 h
      simp only [resolve, hc, Sem.run_bind, Sem.run_pure, Result.andThen_ok, invoke]
      have h0 : (#[a.eval recv] ++ c.args.map a.eval)[0]? = some (a.eval recv) := by
        rw [← Array.getElem?_toList, Array.toList_append]; rfl
      have hex : (#[a.eval recv] ++ c.args.map a.eval).extract 1 (#[a.eval recv] ++ c.args.map a.eval).size = c.args.map a.eval := by
        apply Array.ext'
        rw [Array.toList_extract, List.extract_eq_take_drop]
        simp only [Array.toList_append, Array.size_append, Array.toList_map, List.size_toArray, List.length_cons, List.length_nil, List.cons_append, List.nil_append, List.drop_succ_cons, List.drop_zero, Array.size_map]
        rw [List.take_of_length_le (by simp)]
      rw [h0]
      simp only
      rw [hex]
      exact this
    case value f =>
      obtain ⟨g, hg, hnew⟩ := Option.bind_eq_some_iff.1 h; clear h; have h := hnew; clear hnew
      have := callValueV_ok (P := P) (H := H) (W := W) hE hs (valO_ok ha hg) h1 h
      simp only [resolve, hc]
      exact this
  case defer c =>
    obtain ⟨vs, hvs, hnew⟩ := Option.bind_eq_some_iff.1 h; clear h; have h := hnew; clear hnew
    have h1 : VRs φ vs (c.args.map a.eval).toList := by rw [Array.toList_map]; exact valsO_ok ha _ _ hvs
    cases hc : c.callee <;> rw [hc] at h <;> simp only at h <;> try (cases h; done)
    case value f =>
      obtain ⟨g, hg, hnew⟩ := Option.bind_eq_some_iff.1 h; clear h; have h := hnew; clear hnew
      cases g <;> simp only at h <;> try (cases h; done)
      case func fn first caps =>
        obtain ⟨fn', first', caps', hfn, h2, h3, he⟩ := (valO_ok ha hg).func_inv
        cases hfn <;> simp only at h <;> try (cases h; done)
        case func f =>
          simp only [Option.some.injEq] at h
          subst h
          refine ⟨first' ++ c.args.map a.eval, caps', ?_, ?_, h3⟩
          · simp [resolve, hc, he, Deferred.ofValue]
          · rw [Array.toList_append]; exact h2.append h1

end
end
end Go.Proofs.YtcjidlgmbjebjaaDoor.Ev

/- One operation; an activation; how code ends. -/
namespace Go.Proofs.YtcjidlgmbjebjaaDoor.Ev
open Go
noncomputable section

def kindOp (op : Op) : Nat :=
  match op with
  | .alloc _ => 1
  | .box _ _ => 1
  | .buildSlice _ _ _ => 1
  | .makeMap _ _ => 1
  | .store _ _ _ => 2
  | .makeSlice _ _ _ => 2
  | .range _ _ => 2
  | .next _ _ => 2
  | .mapUpdate _ _ _ _ => 2
  | .insert _ _ _ _ => 2
  | .mapEntry _ _ _ => 2
  | .entryStore _ _ _ _ => 2
  | .defer _ => 2
  | .convert _ _ _ => 3
  | .call c =>
    match c.callee with
    | .builtin b =>
      match b with
      | .append => 2
      | .copy => 2
      | .recover => 2
      | .delete => 2
      | .clear => 2
      | .unsafeString => 2
      | _ => 0
    | _ => 2
  | _ => 0
def stepOp (E : Env) (H : Heap) (tm : T V) (op : Op) : Option NX :=
  match kindOp op with
  | 0 => (readOp E H tm op).bind fun v => some (.value v H)
  | 1 => (allocOp E H.next tm op).bind fun q => some (.value q.1 (H.new q.2))
  | 2 => actOp E H tm op
  | _ =>
    match readOp E H tm op with
    | some v => some (.value v H)
    | none => actOp E H tm op

section
variable {E : Env} {P : Program} {φ : Pm} {H : Heap} {W : World} {tm : T V} {a : Act}
theorem stepOp_ok (hE : EnvOk E P) (hs : St E φ H W) (ha : AR E φ tm a) {o : Oper} {nx : NX} (h : stepOp E H tm o.op = some nx) :
    NXR E P φ H W nx ((execOp a.eval o).run P W) := by
  have hread : ∀ v, readOp E H tm o.op = some v → nx = .value v H → NXR E P φ H W nx ((execOp a.eval o).run P W) := fun v hv he => by
    subst he
    obtain ⟨v', h1, h2⟩ := readOp_ok hE hs ha hv
    exact ⟨φ, v', W, .inl h1, h2, To.refl hs⟩
  unfold stepOp at h
  split at h
  · obtain ⟨v, hv, hnew⟩ := Option.bind_eq_some_iff.1 h; clear h; have h := hnew; clear hnew
    simp only [Option.some.injEq] at h
    exact hread v hv h.symm
  · obtain ⟨q, hq, hnew⟩ := Option.bind_eq_some_iff.1 h; clear h; have h := hnew; clear hnew
    simp only [Option.some.injEq] at h
    subst h
    obtain ⟨s, h1, h2⟩ := allocOp_ok (P := P) (W := W) hE ha (o := o) (n := H.next) (v := q.1) (ob := q.2) hq
    obtain ⟨φ', v', W', h3, h4, h5⟩ := h2.now hs
    exact ⟨φ', v', W', .inl (by rw [h1]; exact v_run h3), h4, h5⟩
  · exact actOp_ok hE hs ha h
  · split at h
    · rename_i v hv
      simp only [Option.some.injEq] at h
      exact hread v hv h.symm
    · exact actOp_ok hE hs ha h
end

/- ### an activation -/
inductive DV where
  | call (f : FuncId) (args caps : List V)
  | mark (r : Nat)
structure Fm where
  tm : T V
  df : List DV
inductive X where
  | normal
  | exit (id : Nat)
  | goto (l : Nat)
  | ret

inductive DR (φ : Pm) : DV → Deferred → Prop
  | call (f : FuncId) {args caps : List V} {args' caps' : Array Value} (h1 : VRs φ args args'.toList) (h2 : VRs φ caps caps'.toList) : DR φ (.call f args caps) { target := .fn (.func f) caps', args := args' }
  | mark {r : Nat} {p : Pl} (h : φ r = some p) : DR φ (.mark r) { target := .collected p.blk, args := #[] }
theorem DR.mono {φ ψ : Pm} (hle : Le φ ψ) {d : DV} {d' : Deferred} (h : DR φ d d') : DR ψ d d' := by
  cases h with
  | call f h1 h2 => exact .call f (h1.mono hle) (h2.mono hle)
  | mark h => exact .mark (hle _ _ h)
inductive DRs (φ : Pm) : List DV → List Deferred → Prop
  | nil : DRs φ [] []
  | cons {d : DV} {d' : Deferred} {l : List DV} {l' : List Deferred} (h : DR φ d d') (hs : DRs φ l l') : DRs φ (d :: l) (d' :: l')
theorem DRs.mono {φ ψ : Pm} (hle : Le φ ψ) : ∀ {l : List DV} {l' : List Deferred}, DRs φ l l' → DRs ψ l l'
  | _, _, .nil => .nil
  | _, _, .cons h hs => .cons (h.mono hle) (hs.mono hle)

structure FR (E : Env) (φ : Pm) (nt : Nat) (fr : Fm) (a : Act) : Prop where
  ar : AR E φ fr.tm a
  size : a.tmps.size = nt
  df : DRs φ fr.df a.defers
theorem FR.mono {E : Env} {φ ψ : Pm} (hle : Le φ ψ) {nt : Nat} {fr : Fm} {a : Act} (h : FR E φ nt fr a) : FR E ψ nt fr a := ⟨h.ar.mono hle, h.size, h.df.mono hle⟩

def putT (nt : Nat) (tm : T V) (d : Option Tmp) (v : V) : Option (T V) :=
  match d with
  | none => some tm
  | some t =>
    match Nat.blt t nt with
    | true => some (tm.set t v)
    | false => none
theorem putT_ok {E : Env} {φ : Pm} {nt : Nat} {fr : Fm} {a : Act} (h : FR E φ nt fr a) {d : Option Tmp} {v : V} {v' : Value} (hv : VR φ v v') {tm' : T V} (hp : putT nt fr.tm d v = some tm') :
    FR E φ nt { tm := tm', df := fr.df } (a.put d v') := by
  unfold putT at hp
  cases d with
  | none => simp only [Option.some.injEq] at hp; subst hp; exact h
  | some t =>
    cases hb : Nat.blt t nt with
    | false => simp only [hb] at hp; cases hp
    | true =>
      simp only [hb, Option.some.injEq] at hp
      subst hp
      have ht := of_blt_t hb
      have := TR.put (φ := φ) (tm := fr.tm) (n := nt) (tmps := a.tmps) ⟨h.size, h.ar.at_⟩ ht hv
      exact ⟨⟨h.ar.glob, this.at_⟩, this.size, h.df⟩

/-- Is an operation run? -/
def wantedV (ops : List Oper) (tm : T V) (o : Oper) : Option Bool :=
  match o.guard with
  | none => some true
  | some q =>
    (listGet ops q.1).bind fun oj => oj.dst.bind fun d => (tm.get d).bind fun v =>
      match v with
      | .bool b => some (b == q.2)
      | .tuple _ => some false
      | _ => none
theorem wantedV_ok {E : Env} {φ : Pm} {tm : T V} {a : Act} (h : AR E φ tm a) {ops : Array Oper} {o : Oper} {b : Bool} (hw : wantedV ops.toList tm o = some b) :
    Region.wanted o (yielded ops a.tmps) = b := by
  unfold wantedV at hw
  unfold Region.wanted
  cases hg : o.guard with
  | none =>
    rw [hg] at hw
    simp only [Option.some.injEq] at hw
    exact hw
  | some q =>
    rw [hg] at hw
    obtain ⟨j, want⟩ := q
    simp only at hw ⊢
    obtain ⟨oj, hoj, hnew⟩ := Option.bind_eq_some_iff.1 hw; clear hw; have hw := hnew; clear hnew
    obtain ⟨d, hd, hnew⟩ := Option.bind_eq_some_iff.1 hw; clear hw; have hw := hnew; clear hnew
    obtain ⟨v, hv, hnew⟩ := Option.bind_eq_some_iff.1 hw; clear hw; have hw := hnew; clear hnew
    have hat := h.at_ d
    rw [hv] at hat
    simp only [Option.getD_some] at hat
    rw [listGet_eq, Array.getElem?_toList] at hoj
    have hy : ∀ x, (a.tmps.getD d undef = x) → x ≠ undef → a.tmps[d]? = some x := fun x hx hne => by
      rw [Array.getD_eq_getD_getElem?] at hx
      cases hh : a.tmps[d]? with
      | none => rw [hh] at hx; exact absurd hx.symm hne
      | some y => rw [hh] at hx; simp at hx; rw [hx]
    unfold yielded
    simp only [hoj, Option.bind_some, hd]
    cases v <;> simp only at hw <;> try (cases hw; done)
    case bool t =>
      simp only [Option.some.injEq] at hw
      subst hw
      have := hy _ hat.bool_inv (by simp [undef])
      rw [this]
      cases t <;> cases want <;> rfl
    case tuple l =>
      simp only [Option.some.injEq] at hw
      subst hw
      obtain ⟨cs', _, he⟩ := hat.tuple_inv
      have : a.tmps[d]? = none ∨ ∃ c, a.tmps[d]? = some (.tuple c) := by
        rw [Array.getD_eq_getD_getElem?] at he
        cases hh : a.tmps[d]? with
        | none => exact .inl rfl
        | some y => rw [hh] at he; simp at he; exact .inr ⟨_, by rw [he]⟩
      rcases this with h1 | ⟨c, h1⟩ <;> rw [h1] <;> rfl

/-- How code ends, as the machine stands. -/
def Ends (P : Program) (b : Frame) (k : List Item) (cs : List Frame) (m : Machine) : X → Act → World → Prop
  | .normal, a, w => Steps P m (lone (b.atR a k) cs w)
  | .exit id, a, w => ∃ k1, exitTo id k1 = exitTo id k ∧ Steps P m (lone (b.atR a (.code (.exit id) :: k1)) cs w)
  | .goto l, a, w => ∃ k1, gotoIn l k1 = gotoIn l k ∧ Steps P m (lone (b.atR a (.code (.goto l) :: k1)) cs w)
  | .ret, a, w => ∃ k1, Steps P m (lone (b.atR a (.code .ret :: k1)) cs w)
theorem Ends.of_steps {P : Program} {b : Frame} {k : List Item} {cs : List Frame} {m m1 : Machine} {x : X} {a : Act} {w : World} (h : Steps P m m1) (h1 : Ends P b k cs m1 x a w) : Ends P b k cs m x a w := by
  cases x with
  | normal => exact h.trans h1
  | exit id => obtain ⟨k1, h2, h3⟩ := h1; exact ⟨k1, h2, h.trans h3⟩
  | goto l => obtain ⟨k1, h2, h3⟩ := h1; exact ⟨k1, h2, h.trans h3⟩
  | ret => obtain ⟨k1, h3⟩ := h1; exact ⟨k1, h.trans h3⟩

/-- Of which function, with how many temporaries, in which round, how called. -/
structure K where
  fn : FuncId
  nt : Nat
  ro : Option Nat
  rc : Bool
structure KR (φ : Pm) (q : K) (b : Frame) (cs : List Frame) : Prop where
  fn : b.fn = q.fn
  none_ : q.ro = none → b.roundOf = none
  some_ : ∀ l, q.ro = some l → ∃ p, φ l = some p ∧ b.roundOf = some p.blk
  rc : q.rc = true → b.kind = .deferred ∧ b.roundOf = none ∧ ∃ c cs0, cs = c :: cs0 ∧ c.mode = .returning
theorem KR.mono {φ ψ : Pm} (hle : Le φ ψ) {q : K} {b : Frame} {cs : List Frame} (h : KR φ q b cs) : KR ψ q b cs :=
  ⟨h.fn, h.none_, fun l hl => let ⟨p, h1, h2⟩ := h.some_ l hl; ⟨p, hle _ _ h1, h2⟩, h.rc⟩

end
end Go.Proofs.YtcjidlgmbjebjaaDoor.Ev

/- The machine's steps at one operation. -/
namespace Go.Proofs.YtcjidlgmbjebjaaDoor.Ev
open Go
noncomputable section

section
variable {P : Program} {b : Frame} {a : Act} {k : List Item} {cs : List Frame} {w w' : World} {ops : Array Oper} {i : Nat} {rest : List Nat} {o : Oper}

theorem fin_eq (ho : ops[i]? = some o) (v : Value) : (b.atR a (.inRegion ops (i :: rest) :: k)).finish v = b.atR (a.put o.dst v) (.inRegion ops rest :: k) := by
  rw [Frame.finish_atR, ho]; rfl
theorem opR_value (ho : ops[i]? = some o) (hw : Region.wanted o (yielded ops a.tmps) = true) {v : Value} (hr : (o.semAt b.roundOf a.eval).run P w = .ok (.value v) w') :
    step P (lone (b.atR a (.inRegion ops (i :: rest) :: k)) cs w) = .next (lone (b.atR (a.put o.dst v) (.inRegion ops rest :: k)) cs w') :=
  step_lone_go (by
    rw [stepGR_op (P := P) (b := b) (k := k) (cs := cs) (w := w) (rest := rest) ho hw, ← fin_eq ho]
    simp [stepG.apply, hr])
theorem opR_skip (ho : ops[i]? = some o) (hw : Region.wanted o (yielded ops a.tmps) = true) (hr : (o.semAt b.roundOf a.eval).run P w = .ok .skip w') :
    step P (lone (b.atR a (.inRegion ops (i :: rest) :: k)) cs w) = .next (lone (b.atR (a.put o.dst undef) (.inRegion ops rest :: k)) cs w') :=
  step_lone_go (by
    rw [stepGR_op (P := P) (b := b) (k := k) (cs := cs) (w := w) (rest := rest) ho hw, ← fin_eq ho]
    simp [stepG.apply, hr])
theorem opR_defer (ho : ops[i]? = some o) (hw : Region.wanted o (yielded ops a.tmps) = true) {d : Deferred} (hr : (o.semAt b.roundOf a.eval).run P w = .ok (.defer d) w') :
    step P (lone (b.atR a (.inRegion ops (i :: rest) :: k)) cs w) = .next (lone (b.atR ({ a with defers := d :: a.defers }.put o.dst undef) (.inRegion ops rest :: k)) cs w') :=
  step_lone_go (by
    have hf : ({ b.atR a (.inRegion ops (i :: rest) :: k) with defers := d :: a.defers } : Frame).finish undef =
        b.atR ({ a with defers := d :: a.defers }.put o.dst undef) (.inRegion ops rest :: k) := fin_eq (a := { a with defers := d :: a.defers }) ho undef
    rw [stepGR_op (P := P) (b := b) (k := k) (cs := cs) (w := w) (rest := rest) ho hw]
    simp only [stepG.apply, Sem.runT_eq, hr, GStep.bare_after]
    exact congrArg (fun fr => GStep.go { frame := fr, callers := cs, status := .running, dying := none } w') hf)
theorem opR_enter (ho : ops[i]? = some o) (hw : Region.wanted o (yielded ops a.tmps) = true) {f : FuncId} {args : Array Value} (hr : (o.semAt b.roundOf a.eval).run P w = .ok (.enter f args) w') :
    step P (lone (b.atR a (.inRegion ops (i :: rest) :: k)) cs w) = .next (lone (Frame.enter P f args .normal) (b.atR a (.inRegion ops (i :: rest) :: k) :: cs) w') :=
  step_lone_go (by
    rw [stepGR_op (P := P) (b := b) (k := k) (cs := cs) (w := w) (rest := rest) ho hw]
    simp [stepG.apply, hr, Frame.atR])
theorem opR_round (ho : ops[i]? = some o) (hw : Region.wanted o (yielded ops a.tmps) = true) {l : Nat} {f : FuncId} {tmps : Array Value} {as body : Code} (hr : (o.semAt b.roundOf a.eval).run P w = .ok (.round l f tmps as body) w') :
    step P (lone (b.atR a (.inRegion ops (i :: rest) :: k)) cs w) = .next (lone (Frame.round l f tmps as body .normal) (b.atR a (.inRegion ops (i :: rest) :: k) :: cs) w') :=
  step_lone_go (by
    rw [stepGR_op (P := P) (b := b) (k := k) (cs := cs) (w := w) (rest := rest) ho hw]
    simp [stepG.apply, hr, Frame.atR])
theorem opR_recover (ho : ops[i]? = some o) (hw : Region.wanted o (yielded ops a.tmps) = true) (hr : (o.semAt b.roundOf a.eval).run P w = .ok .recover w') (hb : b.kind = .deferred) (hro : b.roundOf = none)
    {c : Frame} {cs0 : List Frame} (hcs : cs = c :: cs0) (hc : c.mode = .returning) :
    step P (lone (b.atR a (.inRegion ops (i :: rest) :: k)) cs w) = .next (lone (b.atR (a.put o.dst .nilIface) (.inRegion ops rest :: k)) cs w') :=
  step_lone_go (by
    have htr := tryRecover_deferred (fr := b.atR a (.inRegion ops (i :: rest) :: k)) (show (b.atR a (.inRegion ops (i :: rest) :: k)).kind = .deferred from hb) cs
    have hrec : recoverD cs = none := by rw [hcs]; simp [recoverD, hc]
    rw [hrec] at htr
    rw [stepGR_op (P := P) (b := b) (k := k) (cs := cs) (w := w) (rest := rest) ho hw, ← fin_eq ho]
    simp only [Frame.atR, hro] at htr hr ⊢
    simp [stepG.apply, hr, htr])
end

/- ### the evaluator -/
inductive Task where
  | code (q : K) (c : Code) (fr : Fm)
  | again (q : K) (c : Code) (fr : Fm)
  | within (q : K) (body c : Code) (fr : Fm)
  | call (f : FuncId) (args : List V) (df : Bool)
inductive Out where
  | code (x : X) (fr : Fm) (H : Heap)
  | call (v : V) (H : Heap)
abbrev Rec := Task → Heap → Option Out
def runCall (rec_ : Rec) (f : FuncId) (args : List V) (df : Bool) (H : Heap) : Option (V × Heap) :=
  (rec_ (.call f args df) H).bind fun o =>
    match o with
    | .call v H' => some (v, H')
    | .code _ _ _ => none
def runCode (rec_ : Rec) (q : K) (c : Code) (fr : Fm) (H : Heap) : Option (X × Fm × Heap) :=
  (rec_ (.code q c fr) H).bind fun o =>
    match o with
    | .code x fr' H' => some (x, fr', H')
    | .call _ _ => none
def zipSet : List Tmp → List V → T V → T V
  | t :: ts, v :: vs, tm => zipSet ts vs (tm.set t v)
  | _, _, tm => tm
def allLt (n : Nat) : List Nat → Bool
  | [] => true
  | t :: r =>
    match Nat.blt t n with
    | true => allLt n r
    | false => false
def jumpOf (x : X) : Option Code :=
  match x with
  | .normal => none
  | .exit id => some (.exit id)
  | .goto l => some (.goto l)
  | .ret => some .ret
def loopAt (H : Heap) (l : Nat) : Option LoopRec :=
  (H.look l).bind fun o =>
    match o with
    | .loop r => some r
    | _ => none
/-- One round of a loop over a function. -/
def runRound (rec_ : Rec) (l : Nat) (args : List V) (H : Heap) : Option (Bool × Heap) :=
  (loopAt H l).bind fun r =>
    match Nat.beq args.length r.params.length with
    | false => none
    | true =>
      match allLt r.ntmps r.params with
      | false => none
      | true =>
        (runCode rec_ { fn := r.fn, nt := r.ntmps, ro := some l, rc := false } r.assign { tm := zipSet r.params args r.tmps, df := [] } H).bind fun s =>
          match s.1 with
          | .normal =>
            (loopAt s.2.2 l).bind fun r1 =>
              match r1.state with
              | .ready =>
                (runCode rec_ { fn := r.fn, nt := r.ntmps, ro := some l, rc := false } r.body s.2.1 (s.2.2.put l (.loop { r1 with state := .busy }))).bind fun s2 =>
                  (loopAt s2.2.2 l).bind fun r2 =>
                    match jumpOf s2.1 with
                    | none => some (true, s2.2.2.put l (.loop { r2 with state := .ready, pending := none }))
                    | some j => some (false, s2.2.2.put l (.loop { r2 with state := .done, pending := some j }))
              | _ => none
          | _ => none
/-- What an operation that calls comes to. -/
def fullOp (E : Env) (rec_ : Rec) (q : K) (fr : Fm) (H : Heap) (op : Op) : Option (V × List DV × Heap) :=
  (stepOp E H fr.tm op).bind fun nx =>
    match nx with
    | .value v H' => some (v, fr.df, H')
    | .same v => some (v, fr.df, H)
    | .enter f args => (runCall rec_ f args false H).bind fun r => some (r.1, fr.df, r.2)
    | .round l args => (runRound rec_ l args H).bind fun r => some (.bool r.1, fr.df, r.2)
    | .defer f args caps =>
      match q.ro with
      | none => some (vundef, .call f args caps :: fr.df, H)
      | some _ => none
    | .recover =>
      match q.rc with
      | true => some (.nilIface, fr.df, H)
      | false => none
def runOps (E : Env) (rec_ : Rec) (q : K) (ops : List Oper) : List Oper → Fm → Heap → Option (Fm × Heap)
  | [], fr, H => some (fr, H)
  | o :: rest, fr, H =>
    (wantedV ops fr.tm o).bind fun w =>
      match w with
      | false => (putT q.nt fr.tm o.dst vundef).bind fun tm => runOps E rec_ q ops rest { tm := tm, df := fr.df } H
      | true => (fullOp E rec_ q fr H o.op).bind fun r => (putT q.nt fr.tm o.dst r.1).bind fun tm => runOps E rec_ q ops rest { tm := tm, df := r.2.1 } r.2.2

def kindOf (df : Bool) : CallKind :=
  match df with
  | true => .deferred
  | false => .normal
/-- What is known of the evaluator one floor below. -/
structure RecOk (E : Env) (P : Program) (rec_ : Rec) : Prop where
  code : ∀ (q : K) (c : Code) (fr : Fm) (H : Heap) (x : X) (fr' : Fm) (H' : Heap), rec_ (.code q c fr) H = some (.code x fr' H') →
    ∀ (φ : Pm) (W : World) (b : Frame) (a : Act) (k : List Item) (cs : List Frame), St E φ H W → FR E φ q.nt fr a → KR φ q b cs →
    ∃ φ' a' W', To E φ H W φ' H' W' ∧ FR E φ' q.nt fr' a' ∧ Ends P b k cs (lone (b.atR a (.code c :: k)) cs W) x a' W'
  again : ∀ (q : K) (c : Code) (fr : Fm) (H : Heap) (x : X) (fr' : Fm) (H' : Heap), rec_ (.again q c fr) H = some (.code x fr' H') →
    ∀ (φ : Pm) (W : World) (b : Frame) (a : Act) (k : List Item) (cs : List Frame), St E φ H W → FR E φ q.nt fr a → KR φ q b cs →
    ∃ φ' a' W', To E φ H W φ' H' W' ∧ FR E φ' q.nt fr' a' ∧ Ends P b k cs (lone (b.atR a (.inLoop c :: k)) cs W) x a' W'
  within : ∀ (q : K) (body c : Code) (fr : Fm) (H : Heap) (x : X) (fr' : Fm) (H' : Heap), rec_ (.within q body c fr) H = some (.code x fr' H') →
    ∀ (φ : Pm) (W : World) (b : Frame) (a : Act) (k : List Item) (cs : List Frame), St E φ H W → FR E φ q.nt fr a → KR φ q b cs →
    ∃ φ' a' W', To E φ H W φ' H' W' ∧ FR E φ' q.nt fr' a' ∧ Ends P b k cs (lone (b.atR a (.code c :: .inScope body :: k)) cs W) x a' W'
  call : ∀ (f : FuncId) (args : List V) (df : Bool) (H : Heap) (v : V) (H' : Heap), rec_ (.call f args df) H = some (.call v H') →
    ∀ (φ : Pm) (W : World) (args' : Array Value) (cs : List Frame), St E φ H W → GR E φ → VRs φ args args'.toList →
    (df = true → ∃ c cs0, cs = c :: cs0 ∧ c.mode = .returning) →
    ∃ φ' v' W' fr, To E φ H W φ' H' W' ∧ VR φ' v v' ∧ Steps P (lone (Frame.enter P f args' (kindOf df)) cs W) (lone fr cs W') ∧
      fr.fn = f ∧ fr.kind = (kindOf df) ∧ fr.mode = .returning ∧ fr.defers = [] ∧ ∃ fn, P.funcs[fr.fn]? = some fn ∧ (results fn fr.tmps).run P W' = .ok v' W'

end
end Go.Proofs.YtcjidlgmbjebjaaDoor.Ev

/- A round; a region in text order. -/
namespace Go.Proofs.YtcjidlgmbjebjaaDoor.Ev
open Go
noncomputable section

section
variable {E : Env} {P : Program} {φ : Pm} {H : Heap} {W : World}

theorem allLt_iff (n : Nat) : ∀ (l : List Nat), allLt n l = true → ∀ t ∈ l, t < n
  | [], _, t, ht => by simp at ht
  | x :: r, h, t, ht => by
    unfold allLt at h
    cases hb : Nat.blt x n with
    | false => rw [hb] at h; cases h
    | true =>
      rw [hb] at h
      rcases List.mem_cons.1 ht with rfl | ht
      · exact of_blt_t hb
      · exact allLt_iff n r h t ht
theorem zipSet_ok {n : Nat} : ∀ (ps : List Tmp) (vs : List V) (vs' : List Value) (tm : T V) (tmps : Array Value), (∀ t ∈ ps, t < n) → VRs φ vs vs' → TR φ tm n tmps →
    TR φ (zipSet ps vs tm) n ((ps.zip vs').foldl (fun tmps x => tmps.setIfInBounds x.1 x.2) tmps)
  | [], vs, vs', tm, tmps, _, _, h => by simpa [zipSet] using h
  | t :: ps, _, _, tm, tmps, _, .nil, h => by simpa [zipSet] using h
  | t :: ps, _, _, tm, tmps, hp, .cons hv hvs, h => by
    simp only [zipSet, List.zip_cons_cons, List.foldl_cons]
    exact zipSet_ok ps _ _ _ _ (fun x hx => hp x (by simp [hx])) hvs (h.put (hp t (by simp)) hv)

theorem loopAt_ok (hs : St E φ H W) {l : Nat} {r : LoopRec} (h : loopAt H l = some r) {p : Pl} (hp : φ l = some p) :
    H.look l = some (.loop r) ∧ p.ro = false ∧ ∃ l', W.heap[p.blk]? = some (.loop l') ∧ LoopR φ r l' := by
  unfold loopAt at h
  obtain ⟨o, ho, hnew⟩ := Option.bind_eq_some_iff.1 h; clear h; have h := hnew; clear hnew
  cases o <;> simp only at h <;> try (cases h; done)
  case loop r0 =>
    simp only [Option.some.injEq] at h
    subst h
    obtain ⟨h0, l', h1, h2⟩ := hs.hr.obj _ _ _ ho hp
    exact ⟨ho, h0, l', h1, h2⟩
theorem run_getLoop {l : Nat} {r : Loop} (h : W.heap[l]? = some (.loop r)) : (Instr.getLoop l).run P W = .ok r W := by
  unfold Instr.getLoop
  rw [Sem.run_bind, getObj_at h (fun _ _ _ => by simp), Result.andThen_ok]
  rfl

theorem beginRound_ok (hs : St E φ H W) {l : Nat} {r : LoopRec} (h : loopAt H l = some r) {p : Pl} (hp : φ l = some p) (hst : r.state = .ready) :
    ∃ W', (Instr.beginRound p.blk).run P W = .ok () W' ∧ To E φ H W φ (H.put l (.loop { r with state := .busy })) W' := by
  obtain ⟨hl, hro, l', h1, h2⟩ := loopAt_ok hs h hp
  obtain ⟨W', hw, hto⟩ := To.setObj (P := P) hs hl (o2 := .loop { r with state := .busy }) rfl hp hro h1 (fun _ _ _ => by simp) (.loop { l' with state := .busy })
    (fun W2 h3 => ⟨hro, _, h3, ⟨h2.defers, rfl, h2.pending, h2.fn, h2.tmps, h2.params, h2.assign, h2.body⟩⟩)
  refine ⟨W', ?_, hto⟩
  unfold Instr.beginRound
  rw [Sem.run_bind, run_getLoop h1, Result.andThen_ok, Sem.run_bind, hw, Result.andThen_ok]
  have : l'.state = .ready := by rw [← h2.state, hst]
  rw [this]
  rfl
theorem endRound_ok (hs : St E φ H W) {l : Nat} {r : LoopRec} (h : loopAt H l = some r) {p : Pl} (hp : φ l = some p) (j : Option Code) :
    ∃ W', (Instr.endRound p.blk j).run P W = .ok (.bool j.isNone) W' ∧ To E φ H W φ (H.put l (.loop { r with state := (if j.isNone then .ready else .done), pending := j })) W' := by
  obtain ⟨hl, hro, l', h1, h2⟩ := loopAt_ok hs h hp
  obtain ⟨W', hw, hto⟩ := To.setObj (P := P) hs hl (o2 := .loop { r with state := (if j.isNone then .ready else .done), pending := j }) rfl hp hro h1 (fun _ _ _ => by simp) (.loop { l' with state := (if j.isNone then .ready else .done), pending := j })
    (fun W2 h3 => ⟨hro, _, h3, ⟨h2.defers, rfl, rfl, h2.fn, h2.tmps, h2.params, h2.assign, h2.body⟩⟩)
  refine ⟨W', ?_, hto⟩
  unfold Instr.endRound
  rw [Sem.run_bind, run_getLoop h1, Result.andThen_ok, Sem.run_bind, hw, Result.andThen_ok]
  rfl

theorem runCode_ok {rec_ : Rec} (hrec : RecOk E P rec_) {q : K} {c : Code} {fr : Fm} {s : X × Fm × Heap} (h : runCode rec_ q c fr H = some s) {b : Frame} {a : Act} (k : List Item) {cs : List Frame}
    (hs : St E φ H W) (hf : FR E φ q.nt fr a) (hk : KR φ q b cs) :
    ∃ φ' a' W', To E φ H W φ' s.2.2 W' ∧ FR E φ' q.nt s.2.1 a' ∧ Ends P b k cs (lone (b.atR a (.code c :: k)) cs W) s.1 a' W' := by
  unfold runCode at h
  obtain ⟨o, ho, hnew⟩ := Option.bind_eq_some_iff.1 h; clear h; have h := hnew; clear hnew
  cases o with
  | call v H' => cases h
  | code x fr' H' =>
    simp only [Option.some.injEq] at h
    subst h
    exact hrec.code q c fr H x fr' H' ho φ W b a k cs hs hf hk

theorem runRound_ok {rec_ : Rec} (hrec : RecOk E P rec_) (hs : St E φ H W) (hg : GR E φ) {l : Nat} {p : Pl} (hp : φ l = some p) {args : List V} {args' : Array Value} (ha : VRs φ args args'.toList)
    {t : Bool} {H' : Heap} (h : runRound rec_ l args H = some (t, H')) :
    ∃ fn tmps' as body, (Instr.yield p.blk args').run P W = .ok (.round p.blk fn tmps' as body) W ∧ ∀ (c : Frame) (cs : List Frame),
      ∃ φ' W', To E φ H W φ' H' W' ∧ Steps P (lone (Frame.round p.blk fn tmps' as body .normal) (c :: cs) W) (lone (c.finish (.bool t)) cs W') := by
  unfold runRound at h
  obtain ⟨r, hr, hnew⟩ := Option.bind_eq_some_iff.1 h; clear h; have h := hnew; clear hnew
  obtain ⟨hl, hro, l', h1, h2⟩ := loopAt_ok hs hr hp
  cases hlen : Nat.beq args.length r.params.length with
  | false => rw [hlen] at h; cases h
  | true =>
  rw [hlen] at h
  simp only at h
  cases hlt : allLt r.ntmps r.params with
  | false => rw [hlt] at h; cases h
  | true =>
  rw [hlt] at h
  simp only at h
  obtain ⟨s, hs1, hnew⟩ := Option.bind_eq_some_iff.1 h; clear h; have h := hnew; clear hnew
  have hsz : args'.size = l'.params.size := by
    have e1 : args.length = r.params.length := of_beq_t hlen
    have e2 := ha.length
    rw [h2.params] at e1
    simp only [Array.length_toList] at e1 e2
    omega
  refine ⟨l'.fn, (l'.params.zip args').foldl (fun tmps x => tmps.setIfInBounds x.1 x.2) l'.tmps, l'.assign, l'.body, ?_, fun c cs => ?_⟩
  · unfold Instr.yield
    rw [Sem.run_bind, run_getLoop h1, Result.andThen_ok, if_neg (by simpa using hsz)]
    rfl
  · let b : Frame := { (default : Frame) with fn := l'.fn, kind := .normal, roundOf := some p.blk }
    have htr : TR φ (zipSet r.params args r.tmps) r.ntmps ((l'.params.zip args').foldl (fun tmps x => tmps.setIfInBounds x.1 x.2) l'.tmps) := by
      have := zipSet_ok (φ := φ) r.params args args'.toList r.tmps l'.tmps (allLt_iff _ _ hlt) ha h2.tmps
      rw [h2.params] at this
      rw [← Array.foldl_toList, Array.toList_zip]
      rw [h2.params]
      exact this
    have hfr : FR E φ r.ntmps { tm := zipSet r.params args r.tmps, df := [] } { tmps := (l'.params.zip args').foldl (fun tmps x => tmps.setIfInBounds x.1 x.2) l'.tmps, defers := [] } :=
      ⟨⟨hg, htr.at_⟩, htr.size, .nil⟩
    have hk : ∀ ψ, Le φ ψ → KR ψ { fn := r.fn, nt := r.ntmps, ro := some l, rc := false } b (c :: cs) := fun ψ hle =>
      ⟨h2.fn.symm, fun e => (by cases e), fun l2 e => (by simp only [Option.some.injEq] at e; subst e; exact ⟨p, hle _ _ hp, rfl⟩), fun e => (by cases e)⟩
    have hb0 : ∀ tmps, Frame.round p.blk l'.fn tmps l'.assign l'.body .normal = b.atR { tmps := tmps, defers := [] } [.code l'.assign, .beginRound, .code l'.body] := fun tmps => by
      simp [Frame.round, Frame.atR, b]
    rw [hb0, ← h2.assign, ← h2.body]
    obtain ⟨φ1, a1, W1, hto1, hf1, he1⟩ := runCode_ok hrec hs1 [.beginRound, .code r.body] hs hfr (hk φ (Le.refl _))
    obtain ⟨x1, fr1, H1⟩ := s
    simp only at h hto1 hf1 he1
    cases x1 <;> simp only at h <;> try (cases h; done)
    case normal =>
    obtain ⟨r1, hr1, hnew⟩ := Option.bind_eq_some_iff.1 h; clear h; have h := hnew; clear hnew
    cases hst : r1.state <;> rw [hst] at h <;> simp only at h <;> try (cases h; done)
    case ready =>
    obtain ⟨s2, hs2, hnew⟩ := Option.bind_eq_some_iff.1 h; clear h; have h := hnew; clear hnew
    obtain ⟨r2, hr2, hnew⟩ := Option.bind_eq_some_iff.1 h; clear h; have h := hnew; clear hnew
    have hp1 := hto1.le _ _ hp
    obtain ⟨W2, hbr, hto2⟩ := beginRound_ok (P := P) hto1.st hr1 hp1 hst
    obtain ⟨φ3, a3, W3, hto3, hf3, he3⟩ := runCode_ok hrec hs2 [] hto2.st hf1 (hk φ1 hto1.le)
    obtain ⟨x3, fr3, H3⟩ := s2
    simp only at h hto3 hf3 he3 hr2
    have hp3 := hto3.le _ _ hp1
    obtain ⟨W4, hend, hto4⟩ := endRound_ok (P := P) hto3.st hr2 hp3 (jumpOf x3)
    have hres : H' = H3.put l (.loop { r2 with state := (if (jumpOf x3).isNone then .ready else .done), pending := jumpOf x3 }) ∧ t = (jumpOf x3).isNone := by
      cases hj : jumpOf x3 with
      | none => rw [hj] at h; simp only [Option.some.injEq, Prod.mk.injEq] at h; exact ⟨h.2.symm, h.1.symm⟩
      | some j => rw [hj] at h; simp only [Option.some.injEq, Prod.mk.injEq] at h; exact ⟨h.2.symm, h.1.symm⟩
    obtain ⟨rfl, rfl⟩ := hres
    have hs12 : Steps P (lone (b.atR { tmps := (l'.params.zip args').foldl (fun tmps x => tmps.setIfInBounds x.1 x.2) l'.tmps, defers := [] } [.code r.assign, .beginRound, .code r.body]) (c :: cs) W) (lone (b.atR a1 [.code r.body]) (c :: cs) W2) :=
      Steps.trans he1 (.one (stepR_beginRound rfl hbr))
    refine ⟨φ3, W4, ((hto1.trans hto2).trans hto3).trans hto4, hs12.trans ?_⟩
    cases x3 with
    | normal => exact Steps.trans he3 (.one (stepR_round_end rfl rfl hend))
    | exit id =>
      obtain ⟨k1, hk1, hst1⟩ := he3
      exact hst1.trans (.one (stepR_round_exit rfl rfl hk1 hend))
    | goto g =>
      obtain ⟨k1, hk1, hst1⟩ := he3
      exact hst1.trans (.one (stepR_round_goto rfl rfl hk1 hend))
    | ret =>
      obtain ⟨k1, hst1⟩ := he3
      exact hst1.trans (.one (stepR_round_ret rfl rfl hend))

end
end
end Go.Proofs.YtcjidlgmbjebjaaDoor.Ev

/- A region in text order. -/
namespace Go.Proofs.YtcjidlgmbjebjaaDoor.Ev
open Go
noncomputable section

theorem stepOp_defer {E : Env} {H : Heap} {tm : T V} {c : Call} {nx : NX} (h : stepOp E H tm (.defer c) = some nx) : ∃ f a cp, nx = .defer f a cp := by
  have h : actOp E H tm (.defer c) = some nx := h
  unfold actOp at h
  simp only at h
  obtain ⟨vs, hvs, hnew⟩ := Option.bind_eq_some_iff.1 h; clear h; have h := hnew; clear hnew
  cases hc : c.callee <;> rw [hc] at h <;> simp only at h <;> try (cases h; done)
  obtain ⟨g, hg, hnew⟩ := Option.bind_eq_some_iff.1 h; clear h; have h := hnew; clear hnew
  cases g <;> simp only at h <;> try (cases h; done)
  case func fn first caps =>
    cases fn <;> simp only at h <;> try (cases h; done)
    simp only [Option.some.injEq] at h
    exact ⟨_, _, _, h.symm⟩

section
variable {E : Env} {P : Program} {φ : Pm} {H : Heap} {W : World}

theorem runCall_ok {rec_ : Rec} (hrec : RecOk E P rec_) {f : FuncId} {args : List V} {df : Bool} {r : V × Heap} (h : runCall rec_ f args df H = some r) {args' : Array Value} (cs : List Frame)
    (hs : St E φ H W) (hg : GR E φ) (ha : VRs φ args args'.toList) (hdf : df = true → ∃ c cs0, cs = c :: cs0 ∧ c.mode = .returning) :
    ∃ φ' v' W' fr, To E φ H W φ' r.2 W' ∧ VR φ' r.1 v' ∧ Steps P (lone (Frame.enter P f args' (kindOf df)) cs W) (lone fr cs W') ∧
      fr.fn = f ∧ fr.kind = (kindOf df) ∧ fr.mode = .returning ∧ fr.defers = [] ∧ ∃ fn, P.funcs[fr.fn]? = some fn ∧ (results fn fr.tmps).run P W' = .ok v' W' := by
  unfold runCall at h
  obtain ⟨o, ho, hnew⟩ := Option.bind_eq_some_iff.1 h; clear h; have h := hnew; clear hnew
  cases o with
  | code x fr' H' => cases h
  | call v H' =>
    simp only [Option.some.injEq] at h
    subst h
    exact hrec.call f args df H v H' ho φ W args' cs hs hg ha hdf

theorem fullOp_ok (hE : EnvOk E P) {rec_ : Rec} (hrec : RecOk E P rec_) (hs : St E φ H W) {q : K} {fr : Fm} {a : Act} {b : Frame} {k : List Item} {cs : List Frame} (hf : FR E φ q.nt fr a) (hk : KR φ q b cs)
    {ops : Array Oper} {i : Nat} {rest : List Nat} {o : Oper} (ho : ops[i]? = some o) (hw : Region.wanted o (yielded ops a.tmps) = true) {v : V} {df : List DV} {H' : Heap} (h : fullOp E rec_ q fr H o.op = some (v, df, H')) :
    ∃ φ' v' W' a0, To E φ H W φ' H' W' ∧ VR φ' v v' ∧ FR E φ' q.nt { tm := fr.tm, df := df } a0 ∧
      Steps P (lone (b.atR a (.inRegion ops (i :: rest) :: k)) cs W) (lone (b.atR (a0.put o.dst v') (.inRegion ops rest :: k)) cs W') := by
  unfold fullOp at h
  obtain ⟨nx, hnx, hnew⟩ := Option.bind_eq_some_iff.1 h; clear h; have h := hnew; clear hnew
  have hx := stepOp_ok (P := P) hE hs hf.ar hnx
  have hsem : (∀ f a c, nx ≠ .defer f a c) → o.semAt b.roundOf a.eval = execOp a.eval o := fun hne =>
    Oper.semAt_eq _ _ _ (fun c e => by
      rw [e] at hnx
      obtain ⟨f, a, cp, h1⟩ := stepOp_defer hnx
      exact hne _ _ _ h1)
  cases nx with
  | value v0 H0 =>
    simp only [Option.some.injEq, Prod.mk.injEq] at h
    obtain ⟨rfl, rfl, rfl⟩ := h
    obtain ⟨φ', v', W', hr, hv, hto⟩ := hx
    rw [← hsem (fun _ _ _ => by simp)] at hr
    refine ⟨φ', v', W', a, hto, hv, hf.mono hto.le, .one ?_⟩
    rcases hr with hr | ⟨hr, rfl⟩
    · exact opR_value ho hw hr
    · exact opR_skip ho hw hr
  | same v0 =>
    simp only [Option.some.injEq, Prod.mk.injEq] at h
    obtain ⟨rfl, rfl, rfl⟩ := h
    obtain ⟨v', hr, hv⟩ := hx
    rw [← hsem (fun _ _ _ => by simp)] at hr
    exact ⟨φ, v', W, a, To.refl hs, hv, hf, .one (opR_value ho hw hr)⟩
  | enter f args =>
    simp only at h
    obtain ⟨r, hr, hnew⟩ := Option.bind_eq_some_iff.1 h; clear h; have h := hnew; clear hnew
    simp only [Option.some.injEq, Prod.mk.injEq] at h
    obtain ⟨rfl, rfl, rfl⟩ := h
    obtain ⟨args', hrun, hargs⟩ := hx
    rw [← hsem (fun _ _ _ => by simp)] at hrun
    obtain ⟨φ', v', W', fr', hto, hv, hst, hfn, hkind, hmode, hdef, fn, hpf, hres⟩ := runCall_ok hrec hr (b.atR a (.inRegion ops (i :: rest) :: k) :: cs) hs hf.ar.glob hargs (fun e => by cases e)
    refine ⟨φ', v', W', a, hto, hv, hf.mono hto.le, .head (opR_enter ho hw hrun) (hst.trans (.one ?_))⟩
    rw [← fin_eq ho]
    exact step_leave_returned ⟨hmode, hdef, hkind, fn, hpf, hres⟩
  | round l args =>
    simp only at h
    obtain ⟨r, hr, hnew⟩ := Option.bind_eq_some_iff.1 h; clear h; have h := hnew; clear hnew
    simp only [Option.some.injEq, Prod.mk.injEq] at h
    obtain ⟨rfl, rfl, rfl⟩ := h
    obtain ⟨p, args', hp, hrun, hargs⟩ := hx
    obtain ⟨fn, tmps', as, body, hy, hround⟩ := runRound_ok (P := P) hrec hs hf.ar.glob hp hargs (t := r.1) (H' := r.2) hr
    rw [hy, ← hsem (fun _ _ _ => by simp)] at hrun
    obtain ⟨φ', W', hto, hst⟩ := hround (b.atR a (.inRegion ops (i :: rest) :: k)) cs
    refine ⟨φ', .bool r.1, W', a, hto, .bool _, hf.mono hto.le, .head (opR_round ho hw hrun) ?_⟩
    rw [← fin_eq ho]
    exact hst
  | defer f args caps =>
    simp only at h
    cases hro : q.ro with
    | some l => rw [hro] at h; cases h
    | none =>
      rw [hro] at h
      simp only [Option.some.injEq, Prod.mk.injEq] at h
      obtain ⟨rfl, rfl, rfl⟩ := h
      obtain ⟨args', caps', hrun, h1, h2⟩ := hx
      have hb := hk.none_ hro
      rw [← Oper.semAt_none, ← hb] at hrun
      exact ⟨φ, undef, W, { a with defers := { target := .fn (.func f) caps', args := args' } :: a.defers }, To.refl hs, .undef, ⟨⟨hf.ar.glob, hf.ar.at_⟩, hf.size, .cons (.call f h1 h2) hf.df⟩, .one (opR_defer ho hw hrun)⟩
  | recover =>
    simp only at h
    cases hrc : q.rc with
    | false => rw [hrc] at h; cases h
    | true =>
      rw [hrc] at h
      simp only [Option.some.injEq, Prod.mk.injEq] at h
      obtain ⟨rfl, rfl, rfl⟩ := h
      obtain ⟨hkd, hro, c, cs0, hcs, hcm⟩ := hk.rc hrc
      have hrun : (execOp a.eval o).run P W = .ok .recover W := hx
      rw [← hsem (fun _ _ _ => by simp)] at hrun
      exact ⟨φ, .nilIface, W, a, To.refl hs, .nilIface, hf, .one (opR_recover ho hw hrun hkd hro hcs hcm)⟩

theorem runOps_ok (hE : EnvOk E P) {rec_ : Rec} (hrec : RecOk E P rec_) {q : K} {b : Frame} {k : List Item} {cs : List Frame} {ops : Array Oper} :
    ∀ (rest : List Oper) (i : Nat), ops.toList.drop i = rest → ∀ (φ : Pm) (H : Heap) (W : World) (fr : Fm) (a : Act) (fr' : Fm) (H' : Heap), St E φ H W → FR E φ q.nt fr a → KR φ q b cs → runOps E rec_ q ops.toList rest fr H = some (fr', H') →
    ∃ φ' a' W', To E φ H W φ' H' W' ∧ FR E φ' q.nt fr' a' ∧ Steps P (lone (b.atR a (.inRegion ops (List.range' i rest.length) :: k)) cs W) (lone (b.atR a' k) cs W')
  | [], i, _, φ, H, W, fr, a, fr', H', hs, hf, _, h => by
    simp only [runOps, Option.some.injEq, Prod.mk.injEq] at h
    obtain ⟨rfl, rfl⟩ := h
    exact ⟨φ, a, W, To.refl hs, hf, .one stepR_region_end⟩
  | o :: rest, i, hi, φ, H, W, fr, a, fr', H', hs, hf, hk, h => by
    have ho : ops[i]? = some o := by
      have : (ops.toList.drop i)[0]? = some o := by rw [hi]; rfl
      rw [List.getElem?_drop] at this
      simpa using this
    have hi' : ops.toList.drop (i + 1) = rest := by
      rw [← List.drop_drop, hi]; rfl
    unfold runOps at h
    obtain ⟨w, hw, hnew⟩ := Option.bind_eq_some_iff.1 h; clear h; have h := hnew; clear hnew
    have hwant := wantedV_ok hf.ar hw
    rw [List.length_cons, List.range'_succ]
    cases w with
    | false =>
      simp only at h
      obtain ⟨tm, htm, hnew⟩ := Option.bind_eq_some_iff.1 h; clear h; have h := hnew; clear hnew
      have hf1 := putT_ok hf .undef htm
      obtain ⟨φ', a', W', hto, hf2, hst⟩ := runOps_ok hE hrec rest (i + 1) hi' φ H W _ _ fr' H' hs hf1 hk h
      refine ⟨φ', a', W', hto, hf2, .head ?_ hst⟩
      have := stepR_op_skip (P := P) (b := b) (a := a) (k := k) (cs := cs) (w := W) (ops := ops) (i := i) (rest := List.range' (i + 1) rest.length) (by rw [ho]; simpa using hwant)
      rw [ho] at this
      exact this
    | true =>
      simp only at h
      obtain ⟨r, hr, hnew⟩ := Option.bind_eq_some_iff.1 h; clear h; have h := hnew; clear hnew
      obtain ⟨tm, htm, hnew⟩ := Option.bind_eq_some_iff.1 h; clear h; have h := hnew; clear hnew
      obtain ⟨v, df, H1⟩ := r
      obtain ⟨φ1, v', W1, a0, hto1, hv, hf0, hst1⟩ := fullOp_ok (P := P) hE hrec hs hf hk (rest := List.range' (i + 1) rest.length) (k := k) ho hwant hr
      have hf1 := putT_ok hf0 hv htm
      obtain ⟨φ', a', W', hto, hf2, hst⟩ := runOps_ok hE hrec rest (i + 1) hi' φ1 H1 W1 _ _ fr' H' hto1.st hf1 (hk.mono hto1.le) h
      exact ⟨φ', a', W', hto1.trans hto, hf2, hst1.trans hst⟩

end
end
end Go.Proofs.YtcjidlgmbjebjaaDoor.Ev

/- For regions whose order is drawn: objects that are laid before or after their number. -/
namespace Go.Proofs.YtcjidlgmbjebjaaDoor.Ev
open Go
noncomputable section

section
variable {E : Env} {P : Program} {φ : Pm} {H : Heap} {W : World}

/-- A number for an object that is not laid yet. -/
theorem St.ghost (h : St E φ H W) (o : Obj) : St E φ (H.new o) W := by
  have hnone : φ H.next = none := by
    cases hh : φ H.next with
    | none => rfl
    | some p => exact absurd (h.dom _ _ hh) (Nat.lt_irrefl _)
  have hlook : ∀ r x p, (H.new o).look r = some x → φ r = some p → H.look r = some x := fun r x p hx hp => by
    rw [Heap.look_new] at hx
    by_cases hr : r = H.next
    · subst hr; rw [hnone] at hp; cases hp
    · rwa [if_neg hr] at hx
  refine ⟨fun r p hp => Nat.lt_succ_of_lt (h.dom r p hp), fun r x p hx hp => h.hr.obj r x p (hlook r x p hx hp) hp, ?_, fun r x p hx hl hp => h.hr.lt r x p (hlook r x p hx hp) hl hp⟩
  intro r r' x x' p p' hne hx hx' hl hl' hp hp' hro
  exact h.hr.inj r r' x x' p p' hne (hlook r x p hx hp) (hlook r' x' p' hx' hp') hl hl' hp hp' hro
theorem Fr.ghost (h : St E φ H W) (o : Obj) : Fr φ H.look W φ (H.new o).look W := by
  refine ⟨rfl, rfl, rfl, Nat.le_refl _, fun _ _ _ => rfl, ?_⟩
  rintro b ⟨r, x, p, hx, hl, hp, hro, rfl⟩
  rw [Heap.look_new] at hx
  by_cases hr : r = H.next
  · subst hr; exact absurd (h.dom _ _ hp) (Nat.lt_irrefl _)
  · rw [if_neg hr] at hx
    exact .inl ⟨r, x, p, hx, hl, hp, hro, rfl⟩

/-- An object laid late: its number stands in the heap already. -/
theorem St.late (h : St E φ H W) {n : Nat} {o : Obj} (hn : n < H.next) (hφ : φ n = none) (hlook : H.look n = some o) {p : Pl} (hp : p.blk = W.heap.size) {o' : Go.Obj}
    (ho : ObjR E (Ev.ext φ n p) p o (W.alloc o')) : Le φ (Ev.ext φ n p) ∧ St E (Ev.ext φ n p) H (W.alloc o') ∧ Fr φ H.look W (Ev.ext φ n p) H.look (W.alloc o') := by
  have hle : Le φ (Ev.ext φ n p) := fun r q e => by
    by_cases hr : r = n
    · subst hr; rw [hφ] at e; cases e
    · rw [ext_ne _ _ hr]; exact e
  have hheap : ∀ b, b < W.heap.size → (W.alloc o').heap[b]? = W.heap[b]? := fun b hb => heap_alloc_lt W o' b hb
  have hold : ∀ r q, Ev.ext φ n p r = some q → r ≠ n → φ r = some q := fun r q e hr => by rwa [ext_ne _ _ hr] at e
  have hsame : ∀ q, Ev.ext φ n p n = some q → q = p := fun q e => by rw [ext_same] at e; exact (Option.some.inj e).symm
  refine ⟨hle, ⟨?_, ?_, ?_, ?_⟩, rfl, rfl, rfl, by simp, fun b hb _ => hheap b hb, ?_⟩
  · intro r q e
    by_cases hr : r = n
    · subst hr; exact hn
    · exact h.dom r q (hold r q e hr)
  · intro r x q hx hq
    by_cases hr : r = n
    · subst hr
      have := hsame q hq; subst this
      rw [hlook] at hx
      have := Option.some.inj hx; subst this
      exact ho
    · have hq' := hold r q hq hr
      by_cases hl : x.live = true
      · exact ((h.hr.obj r x q hx hq').mono hle).same (hheap _ (h.hr.lt r x q hx hl hq'))
      · cases x <;> simp [Obj.live] at hl
        trivial
  · intro r r' x x' q q' hne hx hx' hl hl' hq hq' hro
    by_cases hr : r = n
    · subst hr
      have hr' : r' ≠ r := Ne.symm hne
      have := h.hr.lt r' x' q' hx' hl' (hold _ _ hq' hr')
      have := hsame q hq; subst this
      omega
    · by_cases hr' : r' = n
      · subst hr'
        have := h.hr.lt r x q hx hl (hold _ _ hq hr)
        have := hsame q' hq'; subst this
        omega
      · exact h.hr.inj r r' x x' q q' hne hx hx' hl hl' (hold _ _ hq hr) (hold _ _ hq' hr') hro
  · intro r x q hx hl hq
    simp only [World.size_alloc]
    by_cases hr : r = n
    · subst hr
      have := hsame q hq; subst this
      omega
    · have := h.hr.lt r x q hx hl (hold _ _ hq hr)
      omega
  · rintro b ⟨r, x, q, hx, hl, hq, hro, rfl⟩
    by_cases hr : r = n
    · subst hr
      have := hsame q hq; subst this
      right; omega
    · exact .inl ⟨r, x, q, hx, hl, hold _ _ hq hr, hro, rfl⟩

end
end
end Go.Proofs.YtcjidlgmbjebjaaDoor.Ev

/- Equality of abstract values and objects. -/
namespace Go.Proofs.YtcjidlgmbjebjaaDoor.Ev
open Go
noncomputable section

def vsEq (f : V → V → Bool) : List V → List V → Bool
  | [], [] => true
  | a :: r, b :: s =>
    match f a b with
    | true => vsEq f r s
    | false => false
  | _, _ => false
theorem vsEq_ok {f : V → V → Bool} (hf : ∀ a b, f a b = true → a = b) : ∀ (l m : List V), vsEq f l m = true → l = m
  | [], [], _ => rfl
  | [], _ :: _, h => by cases h
  | _ :: _, [], h => by cases h
  | a :: r, b :: s, h => by
    unfold vsEq at h
    cases hb : f a b with
    | false => rw [hb] at h; cases h
    | true =>
      rw [hb] at h
      rw [hf a b hb, vsEq_ok hf r s h]
def fnEq (a b : Fn) : Bool :=
  match a with
  | .func f =>
    match b with
    | .func g => Nat.beq f g
    | _ => false
  | .method s =>
    match b with
    | .method t => decide (s = t)
    | _ => false
  | .methodOf x s =>
    match b with
    | .methodOf y t => and (Nat.beq x y) (decide (s = t))
    | _ => false
  | .yield l =>
    match b with
    | .yield m => Nat.beq l m
    | _ => false
  | _ => false
theorem fnEq_ok {a b : Fn} (h : fnEq a b = true) : a = b := by
  unfold fnEq at h
  cases a <;> simp only at h <;> try (cases h; done)
  all_goals cases b <;> simp only at h <;> try (cases h; done)
  case func.func => rw [of_beq_t h]
  case method.method => simp only [decide_eq_true_eq] at h; rw [h]
  case methodOf.methodOf => simp only [Bool.and_eq_true, decide_eq_true_eq] at h; rw [of_beq_t h.1, h.2]
  case yield.yield => rw [of_beq_t h]
def vEq : Nat → V → V → Bool
  | 0, _, _ => false
  | n + 1, a, b =>
    match a with
    | .int k m =>
      match b with
      | .int k' m' => and (decide (k = k')) (eqF m m')
      | _ => false
    | .bool x =>
      match b with
      | .bool y => x == y
      | _ => false
    | .str l m =>
      match b with
      | .str l' m' => and (Nat.beq l l') (Nat.beq m m')
      | _ => false
    | .ptr r o =>
      match b with
      | .ptr r' o' => and (Nat.beq r r') (Nat.beq o o')
      | _ => false
    | .nilPtr =>
      match b with
      | .nilPtr => true
      | _ => false
    | .slice r o l c =>
      match b with
      | .slice r' o' l' c' => and (and (Nat.beq r r') (Nat.beq o o')) (and (Nat.beq l l') (Nat.beq c c'))
      | _ => false
    | .nilSlice =>
      match b with
      | .nilSlice => true
      | _ => false
    | .emptyS =>
      match b with
      | .emptyS => true
      | _ => false
    | .map r =>
      match b with
      | .map r' => Nat.beq r r'
      | _ => false
    | .nilMap =>
      match b with
      | .nilMap => true
      | _ => false
    | .func fn x y =>
      match b with
      | .func fn' x' y' => and (fnEq fn fn') (and (vsEq (vEq n) x x') (vsEq (vEq n) y y'))
      | _ => false
    | .nilFunc =>
      match b with
      | .nilFunc => true
      | _ => false
    | .iface t v =>
      match b with
      | .iface t' v' => and (Nat.beq t t') (vEq n v v')
      | _ => false
    | .nilIface =>
      match b with
      | .nilIface => true
      | _ => false
    | .agg l =>
      match b with
      | .agg l' => vsEq (vEq n) l l'
      | _ => false
    | .tuple l =>
      match b with
      | .tuple l' => vsEq (vEq n) l l'
      | _ => false
    | .unk => false
    | .par r =>
      match b with
      | .par r' => Nat.beq r r'
      | _ => false
    | .pin k r =>
      match b with
      | .pin k' r' => and (k == k') (Nat.beq r r')
      | _ => false
theorem vEq_ok : ∀ (n : Nat) (a b : V), vEq n a b = true → a = b
  | 0, _, _, h => by cases h
  | n + 1, a, b, h => by
    have ih := vsEq_ok (vEq_ok n)
    unfold vEq at h
    cases a <;> simp only at h <;> try (cases h; done)
    all_goals cases b <;> simp only at h <;> try (cases h; done)
    all_goals try simp only [Bool.and_eq_true, decide_eq_true_eq, eqF_eq, beq_iff_eq] at h
    case int.int k m k' m' => obtain ⟨rfl, h⟩ := h; rw [h]
    case bool.bool => rw [h]
    case str.str => rw [of_beq_t h.1, of_beq_t h.2]
    case ptr.ptr => rw [of_beq_t h.1, of_beq_t h.2]
    case nilPtr.nilPtr => rfl
    case slice.slice => rw [of_beq_t h.1.1, of_beq_t h.1.2, of_beq_t h.2.1, of_beq_t h.2.2]
    case nilSlice.nilSlice => rfl
    case emptyS.emptyS => rfl
    case map.map => rw [of_beq_t h]
    case nilMap.nilMap => rfl
    case func.func => rw [fnEq_ok h.1, ih _ _ h.2.1, ih _ _ h.2.2]
    case nilFunc.nilFunc => rfl
    case iface.iface => rw [of_beq_t h.1, vEq_ok n _ _ h.2]
    case nilIface.nilIface => rfl
    case agg.agg => rw [ih _ _ h]
    case tuple.tuple => rw [ih _ _ h]
    case par.par => rw [of_beq_t h]
    case pin.pin => rw [h.1, of_beq_t h.2]

def cellsEq (a b : Cells) : Bool :=
  match a with
  | .bytes l n =>
    match b with
    | .bytes l' n' => and (Nat.beq l l') (Nat.beq n n')
    | .vals _ => false
  | .vals l =>
    match b with
    | .vals l' => vsEq (vEq 50) l l'
    | .bytes _ _ => false
theorem cellsEq_ok {a b : Cells} (h : cellsEq a b = true) : a = b := by
  unfold cellsEq at h
  cases a <;> cases b <;> simp only at h <;> try (cases h; done)
  case vals.vals => rw [vsEq_ok (vEq_ok 50) _ _ h]
  case bytes.bytes =>
    simp only [Bool.and_eq_true] at h
    rw [of_beq_t h.1, of_beq_t h.2]
/-- Only what an allocation lays. -/
def objEq (a b : Obj) : Bool :=
  match a with
  | .row e c opn ro =>
    match b with
    | .row e' c' opn' ro' => and (and (Nat.beq e e') (cellsEq c c')) (and (opn == opn') (ro == ro'))
    | _ => false
  | .map es clock =>
    match b with
    | .map es' clock' =>
      match es with
      | [] =>
        match es' with
        | [] => Nat.beq clock clock'
        | _ :: _ => false
      | _ :: _ => false
    | _ => false
  | _ => false
theorem objEq_ok {a b : Obj} (h : objEq a b = true) : a = b := by
  unfold objEq at h
  cases a <;> simp only at h <;> try (cases h; done)
  all_goals cases b <;> simp only at h <;> try (cases h; done)
  case row.row =>
    simp only [Bool.and_eq_true, beq_iff_eq] at h
    rw [of_beq_t h.1.1, cellsEq_ok h.1.2, h.2.1, h.2.2]
  case map.map es c es' c' =>
    cases es <;> simp only at h <;> try (cases h; done)
    cases es' <;> simp only at h <;> try (cases h; done)
    rw [of_beq_t h]

end
end Go.Proofs.YtcjidlgmbjebjaaDoor.Ev

/- Operations look at their operands alone. -/
namespace Go.Proofs.YtcjidlgmbjebjaaDoor.Ev
open Go
noncomputable section

/-- Two sets of temporaries agree on what an operation looks at. -/
def Agree (E : Env) (tm tm' : T V) (op : Op) : Prop := ∀ x ∈ op.operands.toList, valO E tm x = valO E tm' x
section
variable {E : Env} {tm tm' : T V} {H : Heap}

theorem valsO_congr : ∀ (l : List Operand), (∀ x ∈ l, valO E tm x = valO E tm' x) → valsO E tm l = valsO E tm' l
  | [], _ => rfl
  | x :: r, h => by
    simp only [valsO]
    rw [h x (by simp), valsO_congr r (fun y hy => h y (by simp [hy]))]
theorem partsO_congr : ∀ (l : List (Nat × Operand)), (∀ x ∈ l.map (·.2), valO E tm x = valO E tm' x) → partsO E tm l = partsO E tm' l
  | [], _ => rfl
  | x :: r, h => by
    simp only [partsO]
    rw [h x.2 (by simp), partsO_congr r (fun y hy => h y (by simp at hy ⊢; exact .inr hy))]
theorem optO_congr (x : Option Operand) (h : ∀ y ∈ x.toArray.toList, valO E tm y = valO E tm' y) : optO E tm x = optO E tm' x := by
  cases x with
  | none => rfl
  | some x => simp only [optO]; rw [h x (by simp)]

theorem readOp_congr {op : Op} (h : Agree E tm tm' op) : readOp E H tm op = readOp E H tm' op := by
  unfold Agree at h
  cases op <;> simp only [readOp] <;> simp only [Op.operands] at h
  case move x => exact h x (by simp)
  case assign x => exact h x (by simp)
  case pick c x y => rw [h c (by simp), h x (by simp), h y (by simp)]
  case build t ps => rw [partsO_congr ps.toList (by simpa using h)]
  case load t x => rw [h x (by simp)]
  case nilCheck x => rw [h x (by simp)]
  case binOp op t x y yt => rw [h x (by simp), h y (by simp)]
  case unOp op t x => rw [h x (by simp)]
  case convert s d x => rw [h x (by simp)]
  case sliceToArrayPointer t x => rw [h x (by simp)]
  case makeInterface t x => rw [h x (by simp)]
  case makeFunc fn a b => rw [valsO_congr a.toList (fun y hy => h y (by simp [hy])), valsO_congr b.toList (fun y hy => h y (by simp [hy]))]
  case slice t x lo hi mx => rw [h x (by simp), optO_congr lo (fun y hy => h y (by simp_all)), optO_congr hi (fun y hy => h y (by simp_all)), optO_congr mx (fun y hy => h y (by simp_all))]
  case fieldAddr t x f => rw [h x (by simp)]
  case field t x f => rw [h x (by simp)]
  case indexAddr t x i => rw [h x (by simp), h i (by simp)]
  case index t x i => rw [h x (by simp), h i (by simp)]
  case typeAssert x xt t ok => rw [h x (by simp)]
  case extract x i => rw [h x (by simp)]
  case entry x => rw [h x (by simp)]
  case lookup t x i ok => rw [h x (by simp), h i (by simp)]
  case call c => rw [valsO_congr c.args.toList (fun y hy => h y (by simp [Call.operands, hy]))]
theorem allocOp_congr {op : Op} {n : Nat} (h : Agree E tm tm' op) : allocOp E n tm op = allocOp E n tm' op := by
  unfold Agree at h
  cases op <;> simp only [allocOp] <;> simp only [Op.operands] at h
  case box t x => rw [h x (by simp)]
  case buildSlice t l ps => rw [partsO_congr ps.toList (by simpa using h)]
theorem actOp_congr {op : Op} (h : Agree E tm tm' op) : actOp E H tm op = actOp E H tm' op := by
  unfold Agree at h
  cases op <;> simp only [actOp] <;> simp only [Op.operands] at h
  case store t x y => rw [h x (by simp), h y (by simp)]
  case convert s d x => rw [h x (by simp)]
  case makeSlice t x y => rw [h x (by simp), h y (by simp)]
  case range t x => rw [h x (by simp)]
  case next x b => rw [h x (by simp)]
  case mapUpdate t m k x => rw [h m (by simp), h k (by simp), h x (by simp)]
  case insert t m k x => rw [h m (by simp), h k (by simp), h x (by simp)]
  case mapEntry t m k => rw [h m (by simp), h k (by simp)]
  case entryStore t m k x => rw [h m (by simp), h k (by simp), h x (by simp)]
  case call c =>
    rw [valsO_congr c.args.toList (fun y hy => h y (by simp [Call.operands, hy]))]
    congr 1; funext vs
    cases hc : c.callee <;> simp only
    case value f => rw [h f (by simp [Call.operands, hc])]
    case invoke r n => rw [h r (by simp [Call.operands, hc])]
  case defer c =>
    rw [valsO_congr c.args.toList (fun y hy => h y (by simp [Call.operands, hy]))]
    congr 1; funext vs
    cases hc : c.callee <;> simp only
    case value f => rw [h f (by simp [Call.operands, hc])]
theorem stepOp_congr {op : Op} (h : Agree E tm tm' op) : stepOp E H tm op = stepOp E H tm' op := by
  unfold stepOp
  rw [readOp_congr h, allocOp_congr h, actOp_congr h]
end
end
end Go.Proofs.YtcjidlgmbjebjaaDoor.Ev

/- What is read stays when the heap grows. -/
namespace Go.Proofs.YtcjidlgmbjebjaaDoor.Ev
open Go
noncomputable section

def Sub (H H2 : Heap) : Prop := ∀ r o, H.look r = some o → H2.look r = some o
theorem Sub.new {H : Heap} (o : Obj) (h : H.look H.next = none) : Sub H (H.new o) := fun r x hx => by
  rw [Heap.look_new]
  by_cases hr : r = H.next
  · subst hr; rw [h] at hx; cases hx
  · rw [if_neg hr]; exact hx
section
variable {E : Env} {H H2 : Heap}
theorem look_mono {α : Type} (h : Sub H H2) {r : Nat} {f g : Obj → Option α} {v : α} (hfg : ∀ o v, f o = some v → g o = some v) (hx : (H.look r).bind f = some v) : (H2.look r).bind g = some v := by
  obtain ⟨o, ho, hx⟩ := Option.bind_eq_some_iff.1 hx
  rw [h r o ho]
  exact hfg o v hx
theorem bind_mono {α β : Type} {x y : Option α} {f g : α → Option β} {v : β} (hxy : ∀ a, x = some a → y = some a) (hfg : ∀ a v, f a = some v → g a = some v) (hx : x.bind f = some v) : y.bind g = some v := by
  obtain ⟨a, ha, hx⟩ := Option.bind_eq_some_iff.1 hx
  rw [hxy a ha]
  exact hfg a v hx
theorem loadVar_mono (h : Sub H H2) {t r off : Nat} {v : V} (hx : loadVar E H t r off = some v) : loadVar E H2 t r off = some v := by
  unfold loadVar at hx ⊢
  exact look_mono h (fun _ _ k => k) hx
theorem liesV_mono (h : Sub H H2) {r off u k : Nat} (hx : liesV E H r off u k = true) : liesV E H2 r off u k = true := by
  unfold liesV at hx ⊢
  split at hx
  · rename_i e cs opn ho
    rw [h _ _ ho]
    exact hx
  · cases hx
theorem convertR_mono (h : Sub H H2) {s d : Nat} {x v : V} (hx : convertR E H s d x = some v) : convertR E H2 s d x = some v := by
  unfold convertR at hx ⊢
  obtain ⟨ds, hds, hnew⟩ := Option.bind_eq_some_iff.1 hx; clear hx; have hx := hnew; clear hnew
  obtain ⟨dd, hdd, hnew⟩ := Option.bind_eq_some_iff.1 hx; clear hx; have hx := hnew; clear hnew
  rw [hds, hdd]
  simp only [Option.bind_some]
  cases dd <;> simp only at hx ⊢ <;> try (cases hx; done)
  case int => exact hx
  case string =>
    cases ds <;> simp only at hx ⊢ <;> try (cases hx; done)
    case string => exact hx
    case slice e =>
      cases hb : isU8 E e with
      | false => rw [hb] at hx; cases hx
      | true =>
        rw [hb] at hx
        cases x <;> simp only at hx ⊢ <;> try (cases hx; done)
        case nilSlice => exact hx
        case slice r off len cap => exact look_mono h (fun _ _ k => k) hx
    case int q => exact hx
  case unsafePointer =>
    cases ds <;> simp only at hx ⊢ <;> try (cases hx; done)
    case pointer t =>
      unfold unsafeTo at hx ⊢
      cases x <;> simp only at hx ⊢ <;> try (exact hx)
      case ptr r off => exact look_mono h (fun _ _ k => k) hx
  case pointer t =>
    cases ds <;> simp only at hx ⊢ <;> try (cases hx; done)
    case unsafePointer =>
      unfold unsafeOf at hx ⊢
      cases x <;> simp only at hx ⊢ <;> try (exact hx)
      case ptr r off =>
        cases hc : liesV E H r off t 1 with
        | false => rw [hc] at hx; cases hx
        | true =>
          rw [hc] at hx
          rw [liesV_mono h hc]
          exact hx
theorem lenV_mono (h : Sub H H2) {t : Nat} {x v : V} (hx : lenV E H t x = some v) : lenV E H2 t x = some v := by
  unfold lenV at hx ⊢
  refine bind_mono (fun _ k => k) (fun d v hx => ?_) hx
  cases d <;> simp only at hx ⊢ <;> try (exact hx)
  case map k e =>
    cases x <;> simp only at hx ⊢ <;> try (exact hx)
    case map r => exact look_mono h (fun _ _ k => k) hx
theorem capV_mono (h : Sub H H2) {t : Nat} {x v : V} (hx : capV E H t x = some v) : capV E H2 t x = some v := by
  unfold capV at hx ⊢
  refine bind_mono (fun _ k => k) (fun d v hx => ?_) hx
  cases d <;> simp only at hx ⊢ <;> try (exact hx)
  case slice e =>
    cases x <;> simp only at hx ⊢ <;> try (exact hx)
    case slice r off l c => exact look_mono h (fun _ _ k => k) hx
theorem sliceV_mono (h : Sub H H2) {t : Nat} {x v : V} {lo hi mx : Option V} (hx : sliceV E H t x lo hi mx = some v) : sliceV E H2 t x lo hi mx = some v := by
  unfold sliceV at hx ⊢
  obtain ⟨d, hd, hnew⟩ := Option.bind_eq_some_iff.1 hx; clear hx; have hx := hnew; clear hnew
  rw [hd]
  simp only [Option.bind_some]
  cases d <;> simp only at hx ⊢ <;> try (exact hx)
  case slice e =>
    cases x <;> simp only at hx ⊢ <;> try (exact hx)
    case slice r off len cap =>
      obtain ⟨s, hs, hnew⟩ := Option.bind_eq_some_iff.1 hx; clear hx; have hx := hnew; clear hnew
      rw [hs]
      simp only [Option.bind_some]
      cases mx <;> simp only at hx ⊢ <;> try (exact hx)
      case none =>
        cases hb : Nat.ble len cap with
        | false => rw [hb] at hx; cases hx
        | true =>
          rw [hb] at hx
          simp only at hx ⊢
          obtain ⟨b, hb1, hnew⟩ := Option.bind_eq_some_iff.1 hx; clear hx; have hx := hnew; clear hnew
          obtain ⟨a, ha, hnew⟩ := Option.bind_eq_some_iff.1 hx; clear hx; have hx := hnew; clear hnew
          rw [hb1, Option.bind_some, ha, Option.bind_some]
          exact look_mono h (fun _ _ k => k) hx

theorem mapOf_mono (h : Sub H H2) {t : Nat} {x : V} {v : Nat × Nat × TypeDesc × List Ent3} (hx : mapOf E H t x = some v) : mapOf E H2 t x = some v := by
  unfold mapOf at hx ⊢
  refine bind_mono (fun _ k => k) (fun d v hx => ?_) hx
  cases d <;> simp only at hx ⊢ <;> try (exact hx)
  case map kt et =>
    refine bind_mono (fun _ k => k) (fun d v hx => ?_) hx
    cases hp : plainK d with
    | false => rw [hp] at hx; cases hx
    | true =>
      rw [hp] at hx
      simp only at hx ⊢
      cases x <;> simp only at hx ⊢ <;> try (exact hx)
      case map r => exact look_mono h (fun _ _ k => k) hx
theorem lookupV_mono (h : Sub H H2) {t : Nat} {x k v : V} {ok : Bool} (hx : lookupV E H t x k ok = some v) : lookupV E H2 t x k ok = some v := by
  unfold lookupV at hx ⊢
  exact bind_mono (fun _ k => mapOf_mono h k) (fun _ _ k => k) hx
theorem entryV_mono (h : Sub H H2) {x v : V} (hx : entryV H x = some v) : entryV H2 x = some v := by
  unfold entryV at hx ⊢
  cases x <;> simp only at hx ⊢ <;> try (cases hx; done)
  case ptr r off =>
    cases hb : Nat.beq off 0 with
    | false => rw [hb] at hx; cases hx
    | true =>
      rw [hb] at hx
      refine look_mono h (fun o v hx => ?_) hx
      cases o <;> simp only at hx ⊢ <;> try (cases hx; done)
      case mapIter m since seen stepped =>
        cases m with
        | none => exact hx
        | some mr =>
          simp only at hx ⊢
          refine bind_mono (fun _ k => k) (fun st v hx => ?_) hx
          exact look_mono h (fun _ _ k => k) hx
theorem readOp_mono (h : Sub H H2) {tm : T V} {op : Op} {v : V} (hx : readOp E H tm op = some v) : readOp E H2 tm op = some v := by
  cases op <;> simp only [readOp] at hx ⊢
  case load t x =>
    obtain ⟨u, hu, hnew⟩ := Option.bind_eq_some_iff.1 hx; clear hx; have hx := hnew; clear hnew
    rw [hu]
    simp only [Option.bind_some]
    cases u <;> simp only at hx ⊢ <;> try (exact hx)
    case ptr r off => exact loadVar_mono h hx
  case convert s d x =>
    obtain ⟨u, hu, hnew⟩ := Option.bind_eq_some_iff.1 hx; clear hx; have hx := hnew; clear hnew
    rw [hu]
    exact convertR_mono h hx
  case entry x =>
    obtain ⟨u, hu, hnew⟩ := Option.bind_eq_some_iff.1 hx; clear hx; have hx := hnew; clear hnew
    rw [hu]
    exact entryV_mono h hx
  case lookup t x i ok =>
    obtain ⟨u, hu, hnew⟩ := Option.bind_eq_some_iff.1 hx; clear hx; have hx := hnew; clear hnew
    obtain ⟨w, hw, hnew⟩ := Option.bind_eq_some_iff.1 hx; clear hx; have hx := hnew; clear hnew
    rw [hu, Option.bind_some, hw, Option.bind_some]
    exact lookupV_mono h hx
  case slice t x lo hi mx =>
    obtain ⟨u, hu, hnew⟩ := Option.bind_eq_some_iff.1 hx; clear hx; have hx := hnew; clear hnew
    obtain ⟨l, hl, hnew⟩ := Option.bind_eq_some_iff.1 hx; clear hx; have hx := hnew; clear hnew
    obtain ⟨m, hm, hnew⟩ := Option.bind_eq_some_iff.1 hx; clear hx; have hx := hnew; clear hnew
    obtain ⟨n, hn, hnew⟩ := Option.bind_eq_some_iff.1 hx; clear hx; have hx := hnew; clear hnew
    rw [hu, Option.bind_some, hl, Option.bind_some, hm, Option.bind_some, hn, Option.bind_some]
    exact sliceV_mono h hx
  case call c =>
    cases hc : c.callee <;> rw [hc] at hx <;> simp only at hx ⊢ <;> try (cases hx; done)
    case builtin b =>
      obtain ⟨vs, hvs, hnew⟩ := Option.bind_eq_some_iff.1 hx; clear hx; have hx := hnew; clear hnew
      rw [hvs, Option.bind_some]
      cases b <;> simp only [readB] at hx ⊢ <;> try (cases hx; done)
      case len =>
        split at hx <;> try (cases hx; done)
        split at hx <;> try (cases hx; done)
        exact lenV_mono h hx
      case cap =>
        split at hx <;> try (cases hx; done)
        split at hx <;> try (cases hx; done)
        exact capV_mono h hx
      case min => exact hx
      case unsafeSliceData => exact hx
      case max => exact hx
  all_goals (first | exact hx | (cases hx; done))
end
end
end Go.Proofs.YtcjidlgmbjebjaaDoor.Ev

/- Regions whose order is drawn: their plans. -/
namespace Go.Proofs.YtcjidlgmbjebjaaDoor.Ev
open Go
noncomputable section

/- ### what stands before what -/
def befOf (bs : List Nat) : List Edge → Nat
  | [] => 0
  | e :: r =>
    match Region.binds .any e with
    | true => Nat.lor (Nat.lor (Nat.shiftLeft 1 e.on) ((listGet bs e.on).getD 0)) (befOf bs r)
    | false => befOf bs r
def befsF : List Nat → List Oper → List Nat
  | bs, [] => bs
  | bs, o :: r => befsF (bs ++ [befOf bs o.after.toList]) r
theorem befsF_eq : ∀ (l : List Oper) (bs : List Nat), ∃ t, befsF bs l = bs ++ t ∧ t.length = l.length
  | [], bs => ⟨[], by simp [befsF], rfl⟩
  | o :: r, bs => by
    obtain ⟨t, h1, h2⟩ := befsF_eq r (bs ++ [befOf bs o.after.toList])
    exact ⟨befOf bs o.after.toList :: t, by rw [befsF, h1]; simp, by simp [h2]⟩
theorem befsF_get : ∀ (l : List Oper) (bs : List Nat) (i : Nat) (o : Oper), l[i]? = some o → (befsF bs l)[bs.length + i]? = some (befOf ((befsF bs l).take (bs.length + i)) o.after.toList)
  | [], bs, i, o, h => by simp at h
  | o' :: r, bs, 0, o, h => by
    simp at h; subst h
    obtain ⟨t, h1, _⟩ := befsF_eq r (bs ++ [befOf bs o'.after.toList])
    rw [befsF, h1]
    simp
  | o' :: r, bs, i + 1, o, h => by
    have := befsF_get r (bs ++ [befOf bs o'.after.toList]) i o (by simpa using h)
    rw [befsF]
    rw [List.length_append] at this
    simp only [List.length_cons, List.length_nil, Nat.zero_add] at this
    rw [show bs.length + (i + 1) = bs.length + 1 + i by omega]
    exact this
def bit (m i : Nat) : Bool := Nat.testBit m i
theorem bit_lor (a b i : Nat) : bit (Nat.lor a b) i = (bit a i || bit b i) := Nat.testBit_or a b i
theorem bit_land (a b i : Nat) : bit (Nat.land a b) i = (bit a i && bit b i) := Nat.testBit_and a b i
theorem bit_one (k i : Nat) : bit (Nat.shiftLeft 1 k) i = decide (k = i) := by
  show Nat.testBit (1 <<< k) i = _
  rw [Nat.one_shiftLeft, Nat.testBit_two_pow]
theorem bit_zero (i : Nat) : bit 0 i = false := Nat.zero_testBit i
theorem bit_sub {a b : Nat} (h : Nat.land a b = a) {i : Nat} (hi : bit a i = true) : bit b i = true := by
  have := bit_land a b i
  rw [h, hi] at this
  simpa using this.symm
theorem befOf_bit (bs : List Nat) : ∀ (l : List Edge) (j : Nat), bit (befOf bs l) j = true → ∃ e ∈ l, Region.binds .any e = true ∧ (j = e.on ∨ bit ((listGet bs e.on).getD 0) j = true)
  | [], j, h => by simp [befOf, bit_zero] at h
  | e :: r, j, h => by
    rw [befOf] at h
    cases hb : Region.binds .any e with
    | false =>
      rw [hb] at h
      obtain ⟨e', h1, h2⟩ := befOf_bit bs r j h
      exact ⟨e', by simp [h1], h2⟩
    | true =>
      rw [hb] at h
      simp only [bit_lor, bit_one, Bool.or_eq_true, decide_eq_true_eq] at h
      rcases h with (h | h) | h
      · exact ⟨e, by simp, hb, .inl h.symm⟩
      · exact ⟨e, by simp, hb, .inr h⟩
      · obtain ⟨e', h1, h2⟩ := befOf_bit bs r j h
        exact ⟨e', by simp [h1], h2⟩

def edgesOk (i : Nat) : List Edge → Bool
  | [] => true
  | e :: r =>
    match Region.binds .any e with
    | true => and (Nat.blt e.on i) (edgesOk i r)
    | false => edgesOk i r
theorem edgesOk_ok {i : Nat} : ∀ {l : List Edge}, edgesOk i l = true → ∀ e ∈ l, Region.binds .any e = true → e.on < i
  | [], _, e, he => by simp at he
  | x :: r, h, e, he => by
    intro hb
    rw [edgesOk] at h
    rcases List.mem_cons.1 he with rfl | he
    · rw [hb] at h
      simp only [Bool.and_eq_true] at h
      exact of_blt_t h.1
    · cases hx : Region.binds .any x with
      | true => rw [hx] at h; simp only [Bool.and_eq_true] at h; exact edgesOk_ok h.2 e he hb
      | false => rw [hx] at h; exact edgesOk_ok h e he hb
def allEdges : Nat → List Oper → Bool
  | _, [] => true
  | i, o :: r => and (edgesOk i o.after.toList) (allEdges (i + 1) r)
theorem allEdges_ok : ∀ (l : List Oper) (i : Nat), allEdges i l = true → ∀ (k : Nat) (o : Oper), l[k]? = some o → ∀ e ∈ o.after.toList, Region.binds .any e = true → e.on < i + k
  | [], _, _, k, o, h => by simp at h
  | x :: r, i, h, k, o, hk => by
    simp only [allEdges, Bool.and_eq_true] at h
    cases k with
    | zero => simp at hk; subst hk; exact edgesOk_ok h.1
    | succ k =>
      have := allEdges_ok r (i + 1) h.2 k o (by simpa using hk)
      intro e he hb
      have := this e he hb
      omega

/- ### what is looked at -/
def opnds (op : Op) : List Operand :=
  match op with
  | .alloc _ => []
  | .ready _ => []
  | .waits _ => []
  | .move x => [x]
  | .assign x => [x]
  | .box _ x => [x]
  | .load _ x => [x]
  | .nilCheck x => [x]
  | .unOp _ _ x => [x]
  | .convert _ _ x => [x]
  | .sliceToArrayPointer _ x => [x]
  | .makeInterface _ x => [x]
  | .makeChan _ x => [x]
  | .fieldAddr _ x _ => [x]
  | .field _ x _ => [x]
  | .range _ x => [x]
  | .next x _ => [x]
  | .entry x => [x]
  | .typeAssert x _ _ _ => [x]
  | .extract x _ => [x]
  | .panic x => [x]
  | .recv _ x _ => [x]
  | .pick c a b => [c, a, b]
  | .build _ ps => ps.toList.map (·.2)
  | .buildSlice _ _ ps => ps.toList.map (·.2)
  | .store _ a v => [a, v]
  | .binOp _ _ a v _ => [a, v]
  | .makeSlice _ a v => [a, v]
  | .indexAddr _ a v => [a, v]
  | .index _ a v => [a, v]
  | .lookup _ a v _ => [a, v]
  | .mapEntry _ a v => [a, v]
  | .send a v => [a, v]
  | .makeFunc _ first captured => first.toList ++ captured.toList
  | .makeMap _ r => r.toList
  | .slice _ x l h m => [x] ++ l.toList ++ h.toList ++ m.toList
  | .mapUpdate _ m k v => [m, k, v]
  | .entryStore _ m k v => [m, k, v]
  | .insert _ m k v => [m, k, v]
  | .call c =>
    match c.callee with
    | .value f => f :: c.args.toList
    | .invoke r _ => r :: c.args.toList
    | .builtin _ => c.args.toList
  | .go c => c.operands.toList
  | .defer c =>
    match c.callee with
    | .value f => f :: c.args.toList
    | .invoke r _ => r :: c.args.toList
    | .builtin _ => c.args.toList
  | .select cs _ => (cs.flatMap fun c => #[c.chan] ++ c.send.toArray).toList
theorem opnds_eq (op : Op) : op.operands.toList = opnds op := by
  cases op <;> simp [Op.operands, opnds]
  case call c => unfold Call.operands; cases c.callee <;> simp
  case defer c => unfold Call.operands; cases c.callee <;> simp
def tmpsOf : List Operand → List Tmp
  | [] => []
  | x :: r =>
    match x with
    | .tmp t => t :: tmpsOf r
    | _ => tmpsOf r
theorem tmpsOf_mem {t : Tmp} : ∀ {l : List Operand}, Operand.tmp t ∈ l → t ∈ tmpsOf l
  | [], h => by simp at h
  | x :: r, h => by
    rcases List.mem_cons.1 h with rfl | h
    · simp [tmpsOf]
    · have := tmpsOf_mem h
      cases x <;> simp [tmpsOf, this]
def guardT (ops : List Oper) (o : Oper) : List Tmp :=
  match o.guard with
  | none => []
  | some q =>
    match listGet ops q.1 with
    | none => []
    | some oj =>
      match oj.dst with
      | none => []
      | some d => [d]
def looks (ops : List Oper) (o : Oper) : List Tmp := guardT ops o ++ tmpsOf (opnds o.op)
theorem looks_agree {E : Env} {ops : List Oper} {o : Oper} {s t : T V} (h : ∀ x ∈ looks ops o, s.get x = t.get x) : Agree E s t o.op := by
  intro x hx
  rw [opnds_eq] at hx
  cases x with
  | tmp u => simp only [valO]; rw [h u (by unfold looks; exact List.mem_append_right _ (tmpsOf_mem hx))]
  | _ => rfl
theorem looks_wanted {ops : List Oper} {o : Oper} {s t : T V} (h : ∀ x ∈ looks ops o, s.get x = t.get x) : wantedV ops s o = wantedV ops t o := by
  unfold wantedV
  cases hg : o.guard with
  | none => rfl
  | some q =>
    simp only
    cases ho : listGet ops q.1 with
    | none => rfl
    | some oj =>
      simp only [Option.bind_some]
      cases hd : oj.dst with
      | none => rfl
      | some d =>
        simp only [Option.bind_some]
        rw [h d (by simp [looks, guardT, hg, ho, hd])]

/- ### who writes -/
def wmapF : Nat → List Oper → T Nat → Option (T Nat)
  | _, [], w => some w
  | i, o :: r, w =>
    match o.dst with
    | none => wmapF (i + 1) r w
    | some d =>
      match w.get d with
      | some _ => none
      | none => wmapF (i + 1) r (w.set d i)
theorem wmapF_ok : ∀ (l : List Oper) (i : Nat) (w w' : T Nat), wmapF i l w = some w' →
    (∀ d x, w.get d = some x → w'.get d = some x) ∧ (∀ (j : Nat) (o : Oper) (d : Nat), l[j]? = some o → o.dst = some d → w'.get d = some (i + j))
  | [], i, w, w', h => by
    simp only [wmapF, Option.some.injEq] at h; subst h
    exact ⟨fun _ _ h => h, fun j o d h => by simp at h⟩
  | o :: r, i, w, w', h => by
    rw [wmapF] at h
    cases hd : o.dst with
    | none =>
      rw [hd] at h
      obtain ⟨h1, h2⟩ := wmapF_ok r (i + 1) w w' h
      refine ⟨h1, fun j o' d hj hd' => ?_⟩
      cases j with
      | zero => simp at hj; subst hj; rw [hd] at hd'; cases hd'
      | succ j => rw [h2 j o' d (by simpa using hj) hd']; congr 1; omega
    | some d =>
      rw [hd] at h
      simp only at h
      cases hg : w.get d with
      | some x => rw [hg] at h; cases h
      | none =>
        rw [hg] at h
        simp only at h
        obtain ⟨h1, h2⟩ := wmapF_ok r (i + 1) _ w' h
        refine ⟨fun d' x hx => h1 d' x ?_, fun j o' d' hj hd' => ?_⟩
        · rw [T.get_set_ne _ _ (fun e => by subst e; rw [hg] at hx; cases hx)]; exact hx
        · cases j with
          | zero =>
            simp at hj; subst hj
            rw [hd] at hd'
            have := Option.some.inj hd'; subst this
            exact h1 d i (T.get_set_same _ _ _)
          | succ j => rw [h2 j o' d' (by simpa using hj) hd']; congr 1; omega
def chkX (bs : List Nat) (wm : T Nat) (i : Nat) : List Tmp → Bool
  | [] => true
  | x :: r =>
    match wm.get x with
    | none => chkX bs wm i r
    | some j => and (or (or (bit ((listGet bs i).getD 0) j) (bit ((listGet bs j).getD 0) i)) (Nat.beq i j)) (chkX bs wm i r)
def chkL (ops : List Oper) (bs : List Nat) (wm : T Nat) : Nat → List Oper → Bool
  | _, [] => true
  | i, o :: r => and (chkX bs wm i (looks ops o)) (chkL ops bs wm (i + 1) r)
theorem chkX_ok {bs : List Nat} {wm : T Nat} {i : Nat} : ∀ {l : List Tmp}, chkX bs wm i l = true → ∀ x ∈ l, ∀ j, wm.get x = some j →
    bit ((listGet bs i).getD 0) j = true ∨ bit ((listGet bs j).getD 0) i = true ∨ i = j
  | [], _, x, hx => by simp at hx
  | y :: r, h, x, hx => by
    intro j hj
    rw [chkX] at h
    rcases List.mem_cons.1 hx with rfl | hx
    · rw [hj] at h
      simp only [Bool.and_eq_true, Bool.or_eq_true] at h
      rcases h.1 with (h | h) | h
      · exact .inl h
      · exact .inr (.inl h)
      · exact .inr (.inr (of_beq_t h))
    · cases hy : wm.get y with
      | none => rw [hy] at h; exact chkX_ok h x hx j hj
      | some k => rw [hy] at h; simp only [Bool.and_eq_true] at h; exact chkX_ok h.2 x hx j hj
theorem chkL_ok {ops : List Oper} {bs : List Nat} {wm : T Nat} : ∀ {l : List Oper} {i : Nat}, chkL ops bs wm i l = true → ∀ (k : Nat) (o : Oper), l[k]? = some o → chkX bs wm (i + k) (looks ops o) = true
  | [], _, _, k, o, h => by simp at h
  | x :: r, i, h, k, o, hk => by
    simp only [chkL, Bool.and_eq_true] at h
    cases k with
    | zero => simp at hk; subst hk; exact h.1
    | succ k =>
      have := chkL_ok h.2 k o (by simpa using hk)
      rw [show i + (k + 1) = i + 1 + k by omega]; exact this

/- ### the plan -/
structure Stp where
  i : Nat
  o : Oper
  b : Nat
def okSteps (n : Nat) (ops : List Oper) (bs : List Nat) : List Nat → Nat → Option (List Stp)
  | [], m =>
    match Nat.beq m (Nat.shiftLeft 1 n - 1) with
    | true => some []
    | false => none
  | i :: r, m => (listGet ops i).bind fun o => (listGet bs i).bind fun b =>
    match bit m i with
    | true => none
    | false =>
      match Nat.beq (Nat.land b m) b with
      | true => (okSteps n ops bs r (Nat.lor m (Nat.shiftLeft 1 i))).bind fun l => some (⟨i, o, b⟩ :: l)
      | false => none
def actish (o : Oper) : Bool := Nat.beq (kindOp o.op) 2
def pickO (act : Bool) (bs : List Nat) : Nat → List Oper → Nat → Option Nat
  | _, [], _ => none
  | i, o :: r, m =>
    match and (or act (not (actish o))) (and (not (bit m i)) (Nat.beq (Nat.land ((listGet bs i).getD 0) m) ((listGet bs i).getD 0))) with
    | true => some i
    | false => pickO act bs (i + 1) r m
def orderF (ops : List Oper) (bs : List Nat) : Nat → Nat → List Nat
  | 0, _ => []
  | f + 1, m =>
    match pickO false bs 0 ops m with
    | some i => i :: orderF ops bs f (Nat.lor m (Nat.shiftLeft 1 i))
    | none =>
      match pickO true bs 0 ops m with
      | some i => i :: orderF ops bs f (Nat.lor m (Nat.shiftLeft 1 i))
      | none => []
def planOf (ops : List Oper) : Option (List Stp) :=
  match allEdges 0 ops with
  | false => none
  | true =>
    (wmapF 0 ops .e).bind fun wm =>
      match chkL ops (befsF [] ops) wm 0 ops with
      | false => none
      | true => okSteps ops.length ops (befsF [] ops) (orderF ops (befsF [] ops) ops.length 0) 0

def Wt (ops : List Oper) (j : Nat) (d : Tmp) : Prop := ∃ o, ops[j]? = some o ∧ o.dst = some d
structure PlanR (ops : List Oper) (B : Nat → Nat → Prop) : Prop where
  step : ∀ i j, B i j → ∃ o e, ops[i]? = some o ∧ e ∈ o.after.toList ∧ Region.binds .any e = true ∧ (j = e.on ∨ B e.on j)
  lt : ∀ i j, B i j → j < i
  edge : ∀ i o e, ops[i]? = some o → e ∈ o.after.toList → Region.binds .any e = true → e.on < i
  looks : ∀ i j o x, ops[i]? = some o → x ∈ looks ops o → Wt ops j x → B i j ∨ B j i ∨ i = j
  dst : ∀ i j d, Wt ops i d → Wt ops j d → i = j
def RestOk (ops : List Oper) (B : Nat → Nat → Prop) : List Stp → (Nat → Prop) → Prop
  | [], m => ∀ i, i < ops.length → m i
  | s :: r, m => ops[s.i]? = some s.o ∧ (∀ j, bit s.b j = true → B s.i j) ∧ ¬ m s.i ∧ (∀ j, B s.i j → m j) ∧ RestOk ops B r (fun j => m j ∨ j = s.i)
theorem RestOk.congr {ops : List Oper} {B : Nat → Nat → Prop} : ∀ {l : List Stp} {m m' : Nat → Prop}, (∀ j, m j ↔ m' j) → RestOk ops B l m → RestOk ops B l m'
  | [], m, m', h, hr => fun i hi => (h i).1 (hr i hi)
  | s :: r, m, m', h, ⟨h1, h2, h3, h4, h5⟩ => ⟨h1, h2, fun k => h3 ((h _).2 k), fun j hj => (h j).1 (h4 j hj), h5.congr (fun j => by rw [h j])⟩
def bOf (ops : List Oper) (i j : Nat) : Prop := bit ((listGet (befsF [] ops) i).getD 0) j = true
theorem okSteps_ok {ops : List Oper} : ∀ (l : List Nat) (m : Nat) (steps : List Stp), okSteps ops.length ops (befsF [] ops) l m = some steps → RestOk ops (bOf ops) steps (fun j => bit m j = true)
  | [], m, steps, h => by
    rw [okSteps] at h
    cases hb : Nat.beq m (Nat.shiftLeft 1 ops.length - 1) with
    | false => rw [hb] at h; cases h
    | true =>
      rw [hb] at h
      simp only [Option.some.injEq] at h
      subst h
      intro i hi
      have := of_beq_t hb
      subst this
      show Nat.testBit (1 <<< ops.length - 1) i = true
      rw [Nat.one_shiftLeft, Nat.testBit_two_pow_sub_one]
      simpa using hi
  | i :: r, m, steps, h => by
    rw [okSteps] at h
    obtain ⟨o, ho, hnew⟩ := Option.bind_eq_some_iff.1 h; clear h; have h := hnew; clear hnew
    obtain ⟨b, hb, hnew⟩ := Option.bind_eq_some_iff.1 h; clear h; have h := hnew; clear hnew
    cases hm : bit m i with
    | true => rw [hm] at h; cases h
    | false =>
      rw [hm] at h
      simp only at h
      cases hs : Nat.beq (Nat.land b m) b with
      | false => rw [hs] at h; cases h
      | true =>
        rw [hs] at h
        simp only at h
        obtain ⟨l, hl, hnew⟩ := Option.bind_eq_some_iff.1 h; clear h; have h := hnew; clear hnew
        simp only [Option.some.injEq] at h
        subst h
        have ih := okSteps_ok r _ l hl
        have hB : ∀ j, bOf ops i j ↔ bit b j = true := fun j => by unfold bOf; rw [hb]; rfl
        refine ⟨by rw [← listGet_eq]; exact ho, fun j hj => (hB j).2 hj, by simp [hm], fun j hj => bit_sub (of_beq_t hs) ((hB j).1 hj), ih.congr (fun j => ?_)⟩
        rw [bit_lor, bit_one]
        simp only [Bool.or_eq_true, decide_eq_true_eq]
        constructor
        · rintro (h | h)
          · exact .inl h
          · exact .inr h.symm
        · rintro (h | h)
          · exact .inl h
          · exact .inr h.symm

theorem planOf_ok {ops : List Oper} {steps : List Stp} (h : planOf ops = some steps) : PlanR ops (bOf ops) ∧ RestOk ops (bOf ops) steps (fun _ => False) := by
  unfold planOf at h
  cases he : allEdges 0 ops with
  | false => rw [he] at h; cases h
  | true =>
  rw [he] at h
  simp only at h
  obtain ⟨wm, hwm, hnew⟩ := Option.bind_eq_some_iff.1 h; clear h; have h := hnew; clear hnew
  cases hc : chkL ops (befsF [] ops) wm 0 ops with
  | false => rw [hc] at h; cases h
  | true =>
  rw [hc] at h
  simp only at h
  have hedge := allEdges_ok ops 0 he
  obtain ⟨_, hw⟩ := wmapF_ok ops 0 .e wm hwm
  have hlen : (befsF [] ops).length = ops.length := by
    obtain ⟨t, h1, h2⟩ := befsF_eq ops []
    rw [h1]; simpa using h2
  have hstep : ∀ i j, bOf ops i j → ∃ o e, ops[i]? = some o ∧ e ∈ o.after.toList ∧ Region.binds .any e = true ∧ (j = e.on ∨ bOf ops e.on j) := by
    intro i j hb
    unfold bOf at hb
    rw [listGet_eq] at hb
    by_cases hi : i < ops.length
    · obtain ⟨o, ho⟩ : ∃ o, ops[i]? = some o := ⟨_, List.getElem?_eq_getElem hi⟩
      have hg := befsF_get ops [] i o ho
      simp only [List.length_nil, Nat.zero_add] at hg
      rw [hg] at hb
      obtain ⟨e, h1, h2, h3⟩ := befOf_bit _ _ _ hb
      have hlt := hedge i o ho e h1 h2
      refine ⟨o, e, ho, h1, h2, h3.imp id fun h3 => ?_⟩
      unfold bOf
      rw [listGet_eq] at h3 ⊢
      rwa [List.getElem?_take, if_pos (by omega)] at h3
    · rw [List.getElem?_eq_none (by omega)] at hb
      simp [bit_zero] at hb
  have hlt : ∀ i j, bOf ops i j → j < i := by
    intro i
    induction i using Nat.strongRecOn with
    | _ i ih =>
      intro j hb
      obtain ⟨o, e, ho, h1, h2, h3⟩ := hstep i j hb
      have := hedge i o ho e h1 h2
      rcases h3 with rfl | h3
      · omega
      · have := ih e.on (by omega) j h3
        omega
  refine ⟨⟨hstep, hlt, fun i o e ho h1 h2 => by have := hedge i o ho e h1 h2; omega, ?_, ?_⟩, ?_⟩
  · rintro i j o x ho hx ⟨oj, hoj, hd⟩
    have hwj := hw j oj x hoj hd
    rw [Nat.zero_add] at hwj
    have := chkL_ok hc i o ho
    rw [Nat.zero_add] at this
    exact chkX_ok this x hx j hwj
  · rintro i j d ⟨oi, hoi, hdi⟩ ⟨oj, hoj, hdj⟩
    have h1 := hw i oi d hoi hdi
    have h2 := hw j oj d hoj hdj
    rw [h1] at h2
    simpa using h2
  · exact (okSteps_ok _ _ _ h).congr (fun j => by simp [bit_zero])

end
end Go.Proofs.YtcjidlgmbjebjaaDoor.Ev

/- Regions whose order is drawn: the run, and that every order comes to the same. -/
namespace Go.Proofs.YtcjidlgmbjebjaaDoor.Ev
open Go
noncomputable section

inductive EK where
  | undef
  | read (v : V)
  | obj (v : V) (n : Nat) (ob : Obj)
def EK.val : EK → V
  | .undef => vundef
  | .read v => v
  | .obj v _ _ => v
/-- What was run and may still come later. -/
structure Ent where
  i : Nat
  o : Oper
  s : T V
  k : EK
structure DSt where
  tm : T V
  df : List DV
  H : Heap
  am : Nat
  fl : List Ent
def stands (E : Env) (H : Heap) (e : Ent) : Bool :=
  match e.k with
  | .undef => true
  | .read v =>
    match readOp E H e.s e.o.op with
    | some u => vEq 50 u v
    | none => false
  | .obj _ n ob =>
    match H.look n with
    | some x => objEq x ob
    | none => false
def recheck (E : Env) (H : Heap) (b : Nat) : List Ent → Option (List Ent)
  | [] => some []
  | e :: r =>
    match bit b e.i with
    | true => recheck E H b r
    | false =>
      match stands E H e with
      | true => (recheck E H b r).bind fun l => some (e :: l)
      | false => none
def drawQuiet (nt : Nat) (st : DSt) (p : Stp) (k : EK) (H : Heap) : Option DSt :=
  (putT nt st.tm p.o.dst k.val).bind fun tm => some { tm := tm, df := st.df, H := H, am := st.am, fl := ⟨p.i, p.o, st.tm, k⟩ :: st.fl }
def drawAct (E : Env) (rec_ : Rec) (q : K) (st : DSt) (p : Stp) : Option DSt :=
  (fullOp E rec_ q { tm := st.tm, df := st.df } st.H p.o.op).bind fun r => (recheck E r.2.2 p.b st.fl).bind fun fl => (putT q.nt st.tm p.o.dst r.1).bind fun tm =>
    some { tm := tm, df := r.2.1, H := r.2.2, am := Nat.lor st.am (Nat.shiftLeft 1 p.i), fl := fl }
def drawStep (E : Env) (rec_ : Rec) (q : K) (ops : List Oper) (st : DSt) (p : Stp) : Option DSt :=
  match Nat.beq (Nat.land st.am p.b) st.am with
  | false => none
  | true => (wantedV ops st.tm p.o).bind fun w =>
    match w with
    | false => drawQuiet q.nt st p .undef st.H
    | true =>
      match kindOp p.o.op with
      | 0 => (readOp E st.H st.tm p.o.op).bind fun v => drawQuiet q.nt st p (.read v) st.H
      | 1 =>
        match st.H.look st.H.next with
        | some _ => none
        | none => (allocOp E st.H.next st.tm p.o.op).bind fun r => drawQuiet q.nt st p (.obj r.1 st.H.next r.2) (st.H.new r.2)
      | 2 => drawAct E rec_ q st p
      | _ =>
        match readOp E st.H st.tm p.o.op with
        | some v => drawQuiet q.nt st p (.read v) st.H
        | none => drawAct E rec_ q st p
def drawRun (E : Env) (rec_ : Rec) (q : K) (ops : List Oper) : List Stp → DSt → Option DSt
  | [], st => some st
  | p :: r, st => (drawStep E rec_ q ops st p).bind fun st1 => drawRun E rec_ q ops r st1
def drawV (E : Env) (rec_ : Rec) (q : K) (ops : List Oper) (fr : Fm) (H : Heap) : Option (Fm × Heap) :=
  (planOf ops).bind fun steps => (drawRun E rec_ q ops steps { tm := fr.tm, df := fr.df, H := H, am := 0, fl := [] }).bind fun st => some ({ tm := st.tm, df := st.df }, st.H)

theorem recheck_mem {E : Env} {H : Heap} {b : Nat} : ∀ {l l' : List Ent}, recheck E H b l = some l' → (∀ e ∈ l', e ∈ l ∧ stands E H e = true) ∧ (∀ e ∈ l, bit b e.i = false → e ∈ l')
  | [], l', h => by
    simp only [recheck, Option.some.injEq] at h; subst h
    exact ⟨fun e he => by simp at he, fun e he => by simp at he⟩
  | x :: r, l', h => by
    rw [recheck] at h
    cases hb : bit b x.i with
    | true =>
      rw [hb] at h
      obtain ⟨h1, h2⟩ := recheck_mem (l := r) h
      refine ⟨fun e he => ⟨List.mem_cons_of_mem _ (h1 e he).1, (h1 e he).2⟩, fun e he hf => ?_⟩
      rcases List.mem_cons.1 he with rfl | he
      · rw [hb] at hf; cases hf
      · exact h2 e he hf
    | false =>
      rw [hb] at h
      simp only at h
      cases hs : stands E H x with
      | false => rw [hs] at h; cases h
      | true =>
        rw [hs] at h
        simp only at h
        obtain ⟨l, hl, hnew⟩ := Option.bind_eq_some_iff.1 h; clear h; have h := hnew; clear hnew
        simp only [Option.some.injEq] at h
        subst h
        obtain ⟨h1, h2⟩ := recheck_mem (l := r) hl
        refine ⟨fun e he => ?_, fun e he hf => ?_⟩
        · rcases List.mem_cons.1 he with rfl | he
          · exact ⟨List.mem_cons_self .., hs⟩
          · exact ⟨List.mem_cons_of_mem _ (h1 e he).1, (h1 e he).2⟩
        · rcases List.mem_cons.1 he with rfl | he
          · exact List.mem_cons_self ..
          · exact List.mem_cons_of_mem _ (h2 e he hf)

/- ### the simulation -/
/-- What an entry says. -/
def KOk (E : Env) (ops : List Oper) (H : Heap) (e : Ent) : Prop :=
  match e.k with
  | .undef => wantedV ops e.s e.o = some false
  | .read v => wantedV ops e.s e.o = some true ∧ readOp E H e.s e.o.op = some v
  | .obj v n ob => wantedV ops e.s e.o = some true ∧ allocOp E n e.s e.o.op = some (v, ob) ∧ H.look n = some ob ∧ n < H.next
structure EntOk (E : Env) (ops : List Oper) (B : Nat → Nat → Prop) (nt : Nat) (tm0 : T V) (st : DSt) (m : Nat → Prop) (e : Ent) : Prop where
  o : ops[e.i]? = some e.o
  m : m e.i
  k : KOk E ops st.H e
  dst : ∀ d, e.o.dst = some d → d < nt ∧ st.tm.get d = some e.k.val
  t1 : ∀ x ∈ looks ops e.o, ∀ j, Wt ops j x → B e.i j → e.s.get x = st.tm.get x
  t2 : ∀ x ∈ looks ops e.o, (∀ j, Wt ops j x → ¬ B e.i j) → e.s.get x = tm0.get x
structure Inv (E : Env) (ops : List Oper) (B : Nat → Nat → Prop) (nt : Nat) (tm0 : T V) (φ0 : Pm) (H0 : Heap) (W0 : World) (st : DSt) (m L : Nat → Prop) (φ : Pm) (W : World) (tmM : T V) (a : Act) : Prop where
  to : To E φ0 H0 W0 φ st.H W
  fr : FR E φ nt { tm := tmM, df := st.df } a
  sub : ∀ i, L i → m i
  mcl : ∀ i j, m i → B i j → m j
  lcl : ∀ i j, L i → B i j → L j
  pend : ∀ i, m i → ¬ L i → ∃ e ∈ st.fl, e.i = i
  ents : ∀ e ∈ st.fl, EntOk E ops B nt tm0 st m e
  phi : ∀ e ∈ st.fl, ¬ L e.i → ∀ v n ob, e.k = .obj v n ob → φ n = none ∧ H0.next ≤ n
  dist : ∀ e ∈ st.fl, ∀ e' ∈ st.fl, ∀ v n ob v' ob', e.k = .obj v n ob → e'.k = .obj v' n ob' → e.i = e'.i
  am : ∀ w, bit st.am w = true → L w
  r1 : ∀ j d, L j → Wt ops j d → tmM.get d = st.tm.get d
  r2 : ∀ d, (∀ j, L j → ¬ Wt ops j d) → tmM.get d = tm0.get d
  r3 : ∀ d, (∀ j, m j → ¬ Wt ops j d) → st.tm.get d = tm0.get d

theorem putT_some {nt : Nat} {tm tm' : T V} {d : Option Tmp} {v : V} (h : putT nt tm d v = some tm') :
    (∀ t, d = some t → t < nt) ∧ (∀ t, tm'.get t = if d = some t then some v else tm.get t) := by
  unfold putT at h
  cases d with
  | none =>
    simp only [Option.some.injEq] at h; subst h
    exact ⟨fun t e => (by cases e), fun t => by simp⟩
  | some x =>
    simp only at h
    cases hb : Nat.blt x nt with
    | false => rw [hb] at h; cases h
    | true =>
      rw [hb] at h
      simp only [Option.some.injEq] at h; subst h
      refine ⟨fun t e => by simp only [Option.some.injEq] at e; subst e; exact of_blt_t hb, fun t => ?_⟩
      rw [T.get_set]
      by_cases ht : t = x
      · subst ht; simp
      · rw [if_neg ht, if_neg (fun e => ht (Option.some.inj e).symm)]
theorem putT_again {nt : Nat} (tm2 : T V) {d : Option Tmp} (v : V) (h : ∀ t, d = some t → t < nt) : ∃ tm2', putT nt tm2 d v = some tm2' := by
  unfold putT
  cases d with
  | none => exact ⟨_, rfl⟩
  | some x =>
    have := Nat.ble_eq_true_of_le (h x rfl)
    have hb : Nat.blt x nt = true := this
    simp only [hb]
    exact ⟨_, rfl⟩

section
variable {E : Env} {P : Program} {ops : Array Oper} {B : Nat → Nat → Prop} {nt : Nat} {tm0 : T V} {φ0 : Pm} {H0 : Heap} {W0 : World} {st : DSt} {m L : Nat → Prop} {φ : Pm} {W : World} {tmM : T V} {a : Act}

/-- What a pending operation looks at, the machine has just so. -/
theorem Inv.agree (hp : PlanR ops.toList B) (h : Inv E ops.toList B nt tm0 φ0 H0 W0 st m L φ W tmM a) {e : Ent} (he : e ∈ st.fl) (hl : ¬ L e.i) (hready : ∀ j, B e.i j → L j) :
    ∀ x ∈ looks ops.toList e.o, e.s.get x = tmM.get x := by
  intro x hx
  have hk := h.ents e he
  by_cases hw : ∃ j, Wt ops.toList j x
  · obtain ⟨j, hj⟩ := hw
    by_cases hb : B e.i j
    · rw [hk.t1 x hx j hj hb, h.r1 j x (hready j hb) hj]
    · have hlj : ¬ L j := by
        rcases hp.looks e.i j e.o x hk.o hx hj with h1 | h1 | h1
        · exact absurd h1 hb
        · exact fun h2 => hl (h.lcl j e.i h2 h1)
        · rwa [← h1]
      rw [hk.t2 x hx (fun j' hj' => by rw [hp.dst j' j x hj' hj]; exact hb), h.r2 x (fun j' hl' hj' => hlj (by rwa [hp.dst j' j x hj' hj] at hl'))]
  · rw [hk.t2 x hx (fun j hj => absurd ⟨j, hj⟩ hw), h.r2 x (fun j _ hj => hw ⟨j, hj⟩)]

/-- What the next operation looks at, before it is run by either. -/
theorem Inv.agree_act (hp : PlanR ops.toList B) (h : Inv E ops.toList B nt tm0 φ0 H0 W0 st m L φ W tmM a) {i : Nat} {o : Oper} (ho : ops.toList[i]? = some o) (hm : ¬ m i) (hready : ∀ j, B i j → L j) :
    ∀ x ∈ looks ops.toList o, st.tm.get x = tmM.get x := by
  intro x hx
  by_cases hw : ∃ j, Wt ops.toList j x
  · obtain ⟨j, hj⟩ := hw
    by_cases hb : B i j
    · exact (h.r1 j x (hready j hb) hj).symm
    · have hmj : ¬ m j := by
        rcases hp.looks i j o x ho hx hj with h1 | h1 | h1
        · exact absurd h1 hb
        · exact fun h2 => hm (h.mcl j i h2 h1)
        · rwa [← h1]
      rw [h.r3 x (fun j' hm' hj' => hmj (by rwa [hp.dst j' j x hj' hj] at hm')), h.r2 x (fun j' hl' hj' => hmj (by rw [hp.dst j' j x hj' hj] at hl'; exact h.sub j hl'))]
  · rw [h.r3 x (fun j _ hj => hw ⟨j, hj⟩), h.r2 x (fun j _ hj => hw ⟨j, hj⟩)]

/-- The run goes on by an operation that does not act: it is pending. -/
theorem Inv.quiet (hp : PlanR ops.toList B) (h : Inv E ops.toList B nt tm0 φ0 H0 W0 st m L φ W tmM a) {p : Stp} (ho : ops.toList[p.i]? = some p.o) (hm : ¬ m p.i) (hB : ∀ j, B p.i j → m j)
    {k : EK} {H' : Heap} {st1 : DSt} (hq : drawQuiet nt st p k H' = some st1)
    (hk : KOk E ops.toList H' ⟨p.i, p.o, st.tm, k⟩)
    (hH : (H' = st.H ∧ ∀ v n ob, k ≠ .obj v n ob) ∨ (∃ v ob, st.H.look st.H.next = none ∧ H' = st.H.new ob ∧ k = .obj v st.H.next ob)) :
    Inv E ops.toList B nt tm0 φ0 H0 W0 st1 (fun j => m j ∨ j = p.i) L φ W tmM a := by
  unfold drawQuiet at hq
  obtain ⟨tm, htm, hnew⟩ := Option.bind_eq_some_iff.1 hq; clear hq; have hq := hnew; clear hnew
  simp only [Option.some.injEq] at hq
  subst hq
  obtain ⟨hlt, hget⟩ := putT_some htm
  have hnot : ∀ j d, m j → Wt ops.toList j d → tm.get d = st.tm.get d := fun j d hj hw => by
    rw [hget]
    rw [if_neg]
    intro e
    have := hp.dst j p.i d hw ⟨p.o, ho, e⟩
    subst this
    exact hm hj
  have hto : To E φ0 H0 W0 φ H' W := by
    rcases hH with ⟨rfl, _⟩ | ⟨v, ob, _, rfl, _⟩
    · exact h.to
    · exact ⟨h.to.le, Nat.le_succ_of_le h.to.nx, h.to.st.ghost ob, h.to.fr.trans (Fr.ghost h.to.st ob), h.to.old⟩
  have hkold : ∀ e ∈ st.fl, KOk E ops.toList H' e := by
    intro e he
    have hk2 := (h.ents e he).k
    clear hk
    rcases hH with ⟨rfl, _⟩ | ⟨v, ob, hnone, rfl, _⟩
    · exact hk2
    · have hk := hk2
      unfold KOk at hk ⊢
      cases hke : e.k with
      | undef => rw [hke] at hk; exact hk
      | read u => rw [hke] at hk; exact ⟨hk.1, readOp_mono (Sub.new ob hnone) hk.2⟩
      | obj u n x =>
        rw [hke] at hk
        refine ⟨hk.1, hk.2.1, ?_, Nat.lt_succ_of_lt hk.2.2.2⟩
        have hk3 := hk.2.2.1
        have hk4 := hk.2.2.2
        show (st.H.new ob).look n = some x
        rw [Heap.look_new, if_neg (Nat.ne_of_lt hk4)]
        exact hk3
  have hents : ∀ e ∈ (⟨p.i, p.o, st.tm, k⟩ : Ent) :: st.fl, EntOk E ops.toList B nt tm0 { tm := tm, df := st.df, H := H', am := st.am, fl := (⟨p.i, p.o, st.tm, k⟩ : Ent) :: st.fl } (fun j => m j ∨ j = p.i) e := by
    intro e he
    rcases List.mem_cons.1 he with rfl | he
    · refine ⟨ho, .inr rfl, hk, fun d hd => ⟨hlt d hd, ?_⟩, fun x hx j hj hb => (hnot j x (hB j hb) hj).symm, fun x hx hb => ?_⟩
      · show tm.get d = _
        rw [hget, if_pos hd]
      · show st.tm.get x = _
        refine h.r3 x (fun j hmj hj => ?_)
        rcases hp.looks p.i j p.o x ho hx hj with h1 | h1 | h1
        · exact hb j hj h1
        · exact hm (h.mcl j p.i hmj h1)
        · subst h1; exact hm hmj
    · have ek := h.ents e he
      refine ⟨ek.o, .inl ek.m, hkold e he, fun d hd => ⟨(ek.dst d hd).1, ?_⟩, fun x hx j hj hb => ?_, ek.t2⟩
      · show tm.get d = _
        rw [hnot e.i d ek.m ⟨e.o, ek.o, hd⟩]
        exact (ek.dst d hd).2
      · show e.s.get x = tm.get x
        rw [hnot j x (h.mcl _ _ ek.m hb) hj]
        exact ek.t1 x hx j hj hb
  have hphi : ∀ e ∈ (⟨p.i, p.o, st.tm, k⟩ : Ent) :: st.fl, ¬ L e.i → ∀ v n ob, e.k = .obj v n ob → φ n = none ∧ H0.next ≤ n := by
    intro e he hl v n ob hek
    rcases List.mem_cons.1 he with rfl | he
    · rcases hH with ⟨_, hne⟩ | ⟨v', ob', _, _, hk'⟩
      · exact absurd hek (hne v n ob)
      · have hek : k = .obj v n ob := hek
        rw [hk'] at hek
        simp only [EK.obj.injEq] at hek
        obtain ⟨_, rfl, _⟩ := hek
        refine ⟨?_, h.to.nx⟩
        cases hh : φ st.H.next with
        | none => rfl
        | some q => exact absurd (h.to.st.dom _ _ hh) (Nat.lt_irrefl _)
    · exact h.phi e he hl v n ob hek
  have hnew : ∀ e ∈ st.fl, ∀ v n ob v' ob', e.k = .obj v n ob → k = .obj v' n ob' → False := by
    intro e he v n ob v' ob' h1 h2
    have hk := (h.ents e he).k
    unfold KOk at hk
    rw [h1] at hk
    rcases hH with ⟨_, hne⟩ | ⟨v2, ob2, _, _, hk'⟩
    · exact hne _ _ _ h2
    · rw [hk'] at h2
      simp only [EK.obj.injEq] at h2
      have := hk.2.2.2
      omega
  refine ⟨hto, h.fr, fun i hi => .inl (h.sub i hi), ?_, h.lcl, ?_, hents, hphi, ?_, h.am, ?_, h.r2, ?_⟩
  · rintro i j (hi | rfl) hb
    · exact .inl (h.mcl i j hi hb)
    · exact .inl (hB j hb)
  · rintro i (hi | rfl) hl
    · obtain ⟨e, he, hei⟩ := h.pend i hi hl
      exact ⟨e, List.mem_cons_of_mem _ he, hei⟩
    · exact ⟨_, List.mem_cons_self .., rfl⟩
  · intro e he e' he' v n ob v' ob' h1 h2
    rcases List.mem_cons.1 he with rfl | he
    · rcases List.mem_cons.1 he' with rfl | he'
      · rfl
      · exact (hnew e' he' v' n ob' v ob h2 h1).elim
    · rcases List.mem_cons.1 he' with rfl | he'
      · exact (hnew e he v n ob v' ob' h1 h2).elim
      · exact h.dist e he e' he' v n ob v' ob' h1 h2
  · intro j d hj hw
    show tmM.get d = tm.get d
    rw [hnot j d (h.sub j hj) hw]
    exact h.r1 j d hj hw
  · intro d hd
    show tm.get d = tm0.get d
    rw [hget, if_neg (fun e => hd p.i (.inr rfl) ⟨p.o, ho, e⟩)]
    exact h.r3 d (fun j hj => hd j (.inl hj))

/-- The machine's step at a pending operation. -/
theorem Inv.late (hE : EnvOk E P) (hp : PlanR ops.toList B) (h : Inv E ops.toList B nt tm0 φ0 H0 W0 st m L φ W tmM a) {i : Nat} (hm : m i) (hl : ¬ L i) (hready : ∀ j, B i j → L j) {b : Frame} {k : List Item} {cs : List Frame} (rest : List Nat) :
    ∃ φ' W' tmM' a', Inv E ops.toList B nt tm0 φ0 H0 W0 st m (fun j => L j ∨ j = i) φ' W' tmM' a' ∧ Le φ φ' ∧
      Steps P (lone (b.atR a (.inRegion ops (i :: rest) :: k)) cs W) (lone (b.atR a' (.inRegion ops rest :: k)) cs W') := by
  obtain ⟨e, he, rfl⟩ := h.pend i hm hl
  have ek := h.ents e he
  have hag := h.agree hp he hl hready
  have ho : ops[e.i]? = some e.o := by rw [← Array.getElem?_toList]; exact ek.o
  have hwant := looks_wanted (ops := ops.toList) (o := e.o) hag
  have hopag := looks_agree (E := E) hag
  obtain ⟨tm2, htm2⟩ := putT_again tmM e.k.val (fun t ht => (ek.dst t ht).1)
  obtain ⟨hlt2, hget2⟩ := putT_some htm2
  -- all but the machine's own step
  have key : ∀ (φ' : Pm) (W' : World) (a' : Act), To E φ0 H0 W0 φ' st.H W' → FR E φ' nt { tm := tm2, df := st.df } a' → Le φ φ' → (∀ e' ∈ st.fl, e'.i ≠ e.i → ∀ v n ob, e'.k = .obj v n ob → φ n = none → φ' n = none) →
      Inv E ops.toList B nt tm0 φ0 H0 W0 st m (fun j => L j ∨ j = e.i) φ' W' tm2 a' := by
    intro φ' W' a' hto hfr hle hph
    refine ⟨hto, hfr, ?_, h.mcl, ?_, ?_, h.ents, ?_, h.dist, fun w hw => .inl (h.am w hw), ?_, ?_, h.r3⟩
    · rintro j (hj | rfl)
      · exact h.sub j hj
      · exact hm
    · rintro j j' (hj | rfl) hb
      · exact .inl (h.lcl j j' hj hb)
      · exact .inl (hready j' hb)
    · intro j hj hlj
      exact h.pend j hj (fun hh => hlj (.inl hh))
    · intro e' he' hl' v n ob hek
      have h1 := h.phi e' he' (fun hh => hl' (.inl hh)) v n ob hek
      exact ⟨hph e' he' (fun hh => hl' (.inr hh)) v n ob hek h1.1, h1.2⟩
    · rintro j d (hj | rfl) hw
      · rw [hget2, if_neg]
        · exact h.r1 j d hj hw
        · intro ed
          have := hp.dst j e.i d hw ⟨e.o, ek.o, ed⟩
          subst this
          exact hl hj
      · obtain ⟨o', ho', hd⟩ := hw
        rw [ek.o] at ho'
        have := Option.some.inj ho'; subst this
        rw [hget2, if_pos hd]
        exact (ek.dst d hd).2.symm
    · intro d hd
      rw [hget2, if_neg (fun ed => hd e.i (.inr rfl) ⟨e.o, ek.o, ed⟩)]
      exact h.r2 d (fun j hj => hd j (.inl hj))
  have hkk := ek.k
  unfold KOk at hkk
  cases hke : e.k with
  | undef =>
    rw [hke] at hkk
    simp only at hkk
    rw [hwant] at hkk
    have hw := wantedV_ok h.fr.ar hkk
    rw [hke] at htm2
    have hf := putT_ok h.fr .undef htm2
    refine ⟨φ, W, tm2, _, key φ W _ h.to hf (Le.refl _) (fun _ _ _ _ _ _ _ hh => hh), Le.refl _, .one ?_⟩
    have := stepR_op_skip (P := P) (b := b) (a := a) (k := k) (cs := cs) (w := W) (ops := ops) (i := e.i) (rest := rest) (by rw [ho]; simpa using hw)
    rw [ho] at this
    exact this
  | read v =>
    rw [hke] at hkk
    simp only at hkk
    obtain ⟨hk1, hk2⟩ := hkk
    rw [hwant] at hk1
    rw [readOp_congr hopag] at hk2
    have hw := wantedV_ok h.fr.ar hk1
    obtain ⟨v', hrun, hv⟩ := readOp_ok (P := P) (W := W) hE h.to.st h.fr.ar (o := e.o) hk2
    rw [hke] at htm2
    have hf := putT_ok h.fr hv htm2
    have hsem : e.o.semAt b.roundOf a.eval = execOp a.eval e.o := Oper.semAt_eq _ _ _ (fun c ec => by rw [ec] at hk2; cases hk2)
    exact ⟨φ, W, tm2, _, key φ W _ h.to hf (Le.refl _) (fun _ _ _ _ _ _ _ hh => hh), Le.refl _, .one (opR_value ho hw (by rw [hsem]; exact hrun))⟩
  | obj v n ob =>
    rw [hke] at hkk
    simp only at hkk
    obtain ⟨hk1, hk2, hk3, hk4⟩ := hkk
    rw [hwant] at hk1
    rw [allocOp_congr hopag] at hk2
    have hw := wantedV_ok h.fr.ar hk1
    obtain ⟨hnone, hnx⟩ := h.phi e he hl v n ob hke
    obtain ⟨s, hs, o', pl, v', hrun, hblk, hlive, hall⟩ := allocOp_ok (P := P) (W := W) hE h.fr.ar (o := e.o) (n := n) hk2
    have hext := ext_same φ n pl
    have hle : Le φ (Ev.ext φ n pl) := fun r q hq => by
      by_cases hr : r = n
      · subst hr; rw [hnone] at hq; cases hq
      · rw [ext_ne _ _ hr]; exact hq
    obtain ⟨hv, hobj⟩ := hall _ hle hext
    obtain ⟨_, hst', hfr'⟩ := h.to.st.late hk4 hnone hk3 hblk hobj
    rw [hke] at htm2
    have hf := putT_ok (h.fr.mono hle) hv htm2
    have hsem : e.o.semAt b.roundOf a.eval = execOp a.eval e.o := Oper.semAt_eq _ _ _ (fun c ec => by rw [ec] at hk2; cases hk2)
    refine ⟨Ev.ext φ n pl, W.alloc o', tm2, _, key _ _ _ ⟨h.to.le.trans hle, h.to.nx, hst', h.to.fr.trans hfr', fun r hr => ?_⟩ hf hle ?_, hle, .one (opR_value ho hw (by rw [hsem, hs]; exact v_run hrun))⟩
    · rw [ext_ne _ _ (by omega)]; exact h.to.old r hr
    · intro e' he' hne v2 n2 ob2 hek hn2
      rw [ext_ne _ _ ?_]
      · exact hn2
      · intro en
        subst en
        exact hne (h.dist e' he' e he v2 n2 ob2 v ob hek hke)

theorem stands_ok {H H' : Heap} {e : Ent} (h : KOk E ops.toList H e) (hs : stands E H' e = true) (hn : H.next ≤ H'.next) : KOk E ops.toList H' e := by
  unfold KOk at h ⊢
  unfold stands at hs
  cases hk : e.k with
  | undef => rw [hk] at h; exact h
  | read v =>
    rw [hk] at h hs
    simp only at hs
    cases hr : readOp E H' e.s e.o.op with
    | none => rw [hr] at hs; cases hs
    | some u =>
      rw [hr] at hs
      simp only at hs
      simp only [hr]
      exact ⟨h.1, by rw [vEq_ok _ _ _ hs]⟩
  | obj v n ob =>
    rw [hk] at h hs
    simp only at hs
    cases hr : H'.look n with
    | none => rw [hr] at hs; cases hs
    | some x =>
      rw [hr] at hs
      simp only at hs
      simp only [hr]
      exact ⟨h.1, h.2.1, by rw [objEq_ok hs], Nat.lt_of_lt_of_le h.2.2.2 hn⟩

/-- An operation that acts: both at once. -/
theorem Inv.act (hE : EnvOk E P) {rec_ : Rec} (hrec : RecOk E P rec_) {q : K} (hp : PlanR ops.toList B) (h : Inv E ops.toList B q.nt tm0 φ0 H0 W0 st m L φ W tmM a) {b : Frame} {k : List Item} {cs : List Frame} (hkr : KR φ q b cs)
    {p : Stp} (ho : ops.toList[p.i]? = some p.o) (hb : ∀ j, bit p.b j = true → B p.i j) (hm : ¬ m p.i) (hready : ∀ j, B p.i j → L j)
    (hw : wantedV ops.toList st.tm p.o = some true) {st1 : DSt} (hd : drawAct E rec_ q st p = some st1) (rest : List Nat) :
    ∃ φ' W' tmM' a', Inv E ops.toList B q.nt tm0 φ0 H0 W0 st1 (fun j => m j ∨ j = p.i) (fun j => L j ∨ j = p.i) φ' W' tmM' a' ∧ Le φ φ' ∧
      Steps P (lone (b.atR a (.inRegion ops (p.i :: rest) :: k)) cs W) (lone (b.atR a' (.inRegion ops rest :: k)) cs W') := by
  have ho' : ops[p.i]? = some p.o := by rw [← Array.getElem?_toList]; exact ho
  have hag := h.agree_act hp ho hm hready
  have hl : ¬ L p.i := fun hh => hm (h.sub _ hh)
  rw [looks_wanted hag] at hw
  have hwant := wantedV_ok h.fr.ar hw
  unfold drawAct at hd
  obtain ⟨r, hr, hnew⟩ := Option.bind_eq_some_iff.1 hd; clear hd; have hd := hnew; clear hnew
  obtain ⟨fl, hfl, hnew⟩ := Option.bind_eq_some_iff.1 hd; clear hd; have hd := hnew; clear hnew
  obtain ⟨tm, htm, hnew⟩ := Option.bind_eq_some_iff.1 hd; clear hd; have hd := hnew; clear hnew
  simp only [Option.some.injEq] at hd
  subst hd
  obtain ⟨hlt, hget⟩ := putT_some htm
  have hr' : fullOp E rec_ q { tm := tmM, df := st.df } st.H p.o.op = some r := by
    unfold fullOp at hr ⊢
    simp only at hr ⊢
    rw [stepOp_congr (looks_agree (E := E) hag)] at hr
    exact hr
  obtain ⟨v, df, H1⟩ := r
  obtain ⟨φ1, v', W1, a0, hto1, hv, hf0, hst1⟩ := fullOp_ok (P := P) hE hrec h.to.st h.fr hkr (rest := rest) (k := k) ho' hwant hr'
  obtain ⟨tm2, htm2⟩ := putT_again tmM v hlt
  obtain ⟨_, hget2⟩ := putT_some htm2
  have hf1 := putT_ok hf0 hv htm2
  obtain ⟨hsub, hkeep⟩ := recheck_mem hfl
  have hnot : ∀ j d, m j → Wt ops.toList j d → tm.get d = st.tm.get d := fun j d hj hw => by
    rw [hget, if_neg]
    intro e
    have := hp.dst j p.i d hw ⟨p.o, ho, e⟩
    subst this
    exact hm hj
  refine ⟨φ1, W1, tm2, _, ⟨h.to.trans hto1, hf1, ?_, ?_, ?_, ?_, ?_, ?_, ?_, ?_, ?_, ?_, ?_⟩, hto1.le, hst1⟩
  · rintro i (hi | rfl)
    · exact .inl (h.sub i hi)
    · exact .inr rfl
  · rintro i j (hi | rfl) hbj
    · exact .inl (h.mcl i j hi hbj)
    · exact .inl (h.sub j (hready j hbj))
  · rintro i j (hi | rfl) hbj
    · exact .inl (h.lcl i j hi hbj)
    · exact .inl (hready j hbj)
  · rintro i (hi | rfl) hli
    · obtain ⟨e, he, rfl⟩ := h.pend i hi (fun hh => hli (.inl hh))
      refine ⟨e, hkeep e he ?_, rfl⟩
      cases hbb : bit p.b e.i with
      | false => rfl
      | true => exact absurd (.inl (hready _ (hb _ hbb))) hli
    · exact absurd (.inr rfl) hli
  · intro e he
    obtain ⟨he1, hst⟩ := hsub e he
    have ek := h.ents e he1
    refine ⟨ek.o, .inl ek.m, stands_ok ek.k hst hto1.nx, fun d hd => ⟨(ek.dst d hd).1, ?_⟩, fun x hx j hj hbj => ?_, ek.t2⟩
    · show tm.get d = _
      rw [hnot e.i d ek.m ⟨e.o, ek.o, hd⟩]
      exact (ek.dst d hd).2
    · show e.s.get x = tm.get x
      rw [hnot j x (h.mcl _ _ ek.m hbj) hj]
      exact ek.t1 x hx j hj hbj
  · intro e he hle v n ob hek
    obtain ⟨he1, hst⟩ := hsub e he
    have h1 := h.phi e he1 (fun hh => hle (.inl hh)) v n ob hek
    refine ⟨?_, h1.2⟩
    have hk := (h.ents e he1).k
    unfold KOk at hk
    rw [hek] at hk
    rw [hto1.old n hk.2.2.2]
    exact h1.1
  · intro e he e' he' v n ob v' ob' h1 h2
    exact h.dist e (hsub e he).1 e' (hsub e' he').1 v n ob v' ob' h1 h2
  · intro w hw2
    have hw2 : bit (Nat.lor st.am (Nat.shiftLeft 1 p.i)) w = true := hw2
    rw [bit_lor, bit_one] at hw2
    simp only [Bool.or_eq_true, decide_eq_true_eq] at hw2
    rcases hw2 with hw2 | hw2
    · exact .inl (h.am w hw2)
    · exact .inr hw2.symm
  · rintro j d (hj | rfl) hwj
    · show tm2.get d = tm.get d
      rw [hnot j d (h.sub j hj) hwj, hget2, if_neg]
      · exact h.r1 j d hj hwj
      · intro ed
        have := hp.dst j p.i d hwj ⟨p.o, ho, ed⟩
        subst this
        exact hl hj
    · obtain ⟨o', h1, h2⟩ := hwj
      rw [ho] at h1
      have := Option.some.inj h1; subst this
      show tm2.get d = tm.get d
      rw [hget2, if_pos h2, hget, if_pos h2]
  · intro d hd
    rw [hget2, if_neg (fun ed => hd p.i (.inr rfl) ⟨p.o, ho, ed⟩)]
    exact h.r2 d (fun j hj => hd j (.inl hj))
  · intro d hd
    show tm.get d = tm0.get d
    rw [hget, if_neg (fun ed => hd p.i (.inr rfl) ⟨p.o, ho, ed⟩)]
    exact h.r3 d (fun j hj => hd j (.inl hj))

end
end
end Go.Proofs.YtcjidlgmbjebjaaDoor.Ev

/- Regions whose order is drawn: whatever the order, the same. -/
namespace Go.Proofs.YtcjidlgmbjebjaaDoor.Ev
open Go
noncomputable section

section
variable {E : Env} {P : Program} {ops : Array Oper} {B : Nat → Nat → Prop}

theorem drawStep_am {rec_ : Rec} {q : K} {st st1 : DSt} {p : Stp} {l : List Oper} (h : drawStep E rec_ q l st p = some st1) : (∀ w, bit st.am w = true → bit p.b w = true) ∧ ∀ w, bit st.am w = true → bit st1.am w = true := by
  unfold drawStep at h
  cases hb : Nat.beq (Nat.land st.am p.b) st.am with
  | false => rw [hb] at h; cases h
  | true =>
  rw [hb] at h
  simp only at h
  refine ⟨fun w hw => bit_sub (of_beq_t hb) hw, fun w hw => ?_⟩
  obtain ⟨wt, hwt, hnew⟩ := Option.bind_eq_some_iff.1 h; clear h; have h := hnew; clear hnew
  have hquiet : ∀ k H', drawQuiet q.nt st p k H' = some st1 → bit st1.am w = true := fun k H' hq => by
    unfold drawQuiet at hq
    obtain ⟨tm, htm, hnew⟩ := Option.bind_eq_some_iff.1 hq; clear hq; have hq := hnew; clear hnew
    simp only [Option.some.injEq] at hq; subst hq; exact hw
  have hact : drawAct E rec_ q st p = some st1 → bit st1.am w = true := fun hq => by
    unfold drawAct at hq
    obtain ⟨r, hr, hnew⟩ := Option.bind_eq_some_iff.1 hq; clear hq; have hq := hnew; clear hnew
    obtain ⟨fl, hfl, hnew⟩ := Option.bind_eq_some_iff.1 hq; clear hq; have hq := hnew; clear hnew
    obtain ⟨tm, htm, hnew⟩ := Option.bind_eq_some_iff.1 hq; clear hq; have hq := hnew; clear hnew
    simp only [Option.some.injEq] at hq; subst hq
    show bit (Nat.lor st.am (Nat.shiftLeft 1 p.i)) w = true
    rw [bit_lor, hw]; rfl
  cases wt with
  | false => exact hquiet _ _ h
  | true =>
    simp only at h
    split at h
    · obtain ⟨v, hv, hnew⟩ := Option.bind_eq_some_iff.1 h; clear h; have h := hnew; clear hnew; exact hquiet _ _ h
    · cases hn : st.H.look st.H.next with
      | some x => rw [hn] at h; cases h
      | none => rw [hn] at h; simp only at h; obtain ⟨r, hr, hnew⟩ := Option.bind_eq_some_iff.1 h; clear h; have h := hnew; clear hnew; exact hquiet _ _ h
    · exact hact h
    · split at h
      · exact hquiet _ _ h
      · exact hact h

/-- What acted stands before all that is run later. -/
theorem drawRun_future {rec_ : Rec} {q : K} {l : List Oper} : ∀ (r : List Stp) (st stF : DSt), drawRun E rec_ q l r st = some stF → ∀ s ∈ r, ∀ w, bit st.am w = true → bit s.b w = true
  | [], _, _, _, s, hs => by simp at hs
  | p :: r, st, stF, h, s, hs => by
    intro w hw
    rw [drawRun] at h
    obtain ⟨st1, h1, hnew⟩ := Option.bind_eq_some_iff.1 h; clear h; have h := hnew; clear hnew
    obtain ⟨ha, hb⟩ := drawStep_am h1
    rcases List.mem_cons.1 hs with rfl | hs
    · exact ha w hw
    · exact drawRun_future r st1 stF h s hs w (hb w hw)

theorem RestOk.mem : ∀ {r : List Stp} {m : Nat → Prop}, RestOk ops.toList B r m → ∀ i, i < ops.toList.length → m i ∨ ∃ s ∈ r, s.i = i ∧ ∀ j, bit s.b j = true → B i j
  | [], m, h, i, hi => .inl (h i hi)
  | s :: r, m, ⟨h1, h2, h3, h4, h5⟩, i, hi => by
    rcases h5.mem i hi with (h | rfl) | ⟨s', hs', h6⟩
    · exact .inl h
    · exact .inr ⟨s, List.mem_cons_self .., rfl, h2⟩
    · exact .inr ⟨s', List.mem_cons_of_mem _ hs', h6⟩

/-- The machine's next operation. -/
theorem draw_one (hE : EnvOk E P) {rec_ : Rec} (hrec : RecOk E P rec_) {q : K} (hp : PlanR ops.toList B) {tm0 : T V} {φ0 : Pm} {H0 : Heap} {W0 : World} {b : Frame} {k : List Item} {cs : List Frame} {stF : DSt} (rest : List Nat) :
    ∀ (r : List Stp) (st : DSt) (m L : Nat → Prop) (φ : Pm) (W : World) (tmM : T V) (a : Act), KR φ q b cs → RestOk ops.toList B r m → Inv E ops.toList B q.nt tm0 φ0 H0 W0 st m L φ W tmM a →
      drawRun E rec_ q ops.toList r st = some stF → ∀ i, i < ops.toList.length → ¬ L i → (∀ j, B i j → L j) →
      ∃ r' st' m' φ' W' tmM' a', RestOk ops.toList B r' m' ∧ Inv E ops.toList B q.nt tm0 φ0 H0 W0 st' m' (fun j => L j ∨ j = i) φ' W' tmM' a' ∧ drawRun E rec_ q ops.toList r' st' = some stF ∧ Le φ φ' ∧
        Steps P (lone (b.atR a (.inRegion ops (i :: rest) :: k)) cs W) (lone (b.atR a' (.inRegion ops rest :: k)) cs W')
  | r, st, m, L, φ, W, tmM, a, hkr, hr, h, hrun, i, hi, hl, hready => by
    by_cases hm : m i
    · obtain ⟨φ', W', tmM', a', h1, h2, h3⟩ := h.late hE hp hm hl hready (b := b) (k := k) (cs := cs) rest
      exact ⟨r, st, m, φ', W', tmM', a', hr, h1, hrun, h2, h3⟩
    · match r, hr, hrun with
      | [], hr, _ => exact absurd (hr i hi) hm
      | p :: r, ⟨ho, hpb, hpm, hpB, hr1⟩, hrun =>
        rw [drawRun] at hrun
        obtain ⟨st1, hst1, hnew⟩ := Option.bind_eq_some_iff.1 hrun; clear hrun; have hrun := hnew; clear hnew
        -- what follows a quiet operation
        have go : ∀ kk H', drawQuiet q.nt st p kk H' = some st1 → KOk E ops.toList H' ⟨p.i, p.o, st.tm, kk⟩ →
            ((H' = st.H ∧ ∀ v n ob, kk ≠ .obj v n ob) ∨ (∃ v ob, st.H.look st.H.next = none ∧ H' = st.H.new ob ∧ kk = .obj v st.H.next ob)) →
            ∃ r' st' m' φ' W' tmM' a', RestOk ops.toList B r' m' ∧ Inv E ops.toList B q.nt tm0 φ0 H0 W0 st' m' (fun j => L j ∨ j = i) φ' W' tmM' a' ∧ drawRun E rec_ q ops.toList r' st' = some stF ∧ Le φ φ' ∧
              Steps P (lone (b.atR a (.inRegion ops (i :: rest) :: k)) cs W) (lone (b.atR a' (.inRegion ops rest :: k)) cs W') := fun kk H' hq hk hH => by
          have hi1 := h.quiet hp ho hpm hpB hq hk hH
          exact draw_one hE hrec hp rest r st1 _ L φ W tmM a hkr hr1 hi1 hrun i hi hl hready
        have hact : wantedV ops.toList st.tm p.o = some true → drawAct E rec_ q st p = some st1 →
            ∃ r' st' m' φ' W' tmM' a', RestOk ops.toList B r' m' ∧ Inv E ops.toList B q.nt tm0 φ0 H0 W0 st' m' (fun j => L j ∨ j = i) φ' W' tmM' a' ∧ drawRun E rec_ q ops.toList r' st' = some stF ∧ Le φ φ' ∧
              Steps P (lone (b.atR a (.inRegion ops (i :: rest) :: k)) cs W) (lone (b.atR a' (.inRegion ops rest :: k)) cs W') := fun hw hd => by
          by_cases hpi : p.i = i
          · subst hpi
            obtain ⟨φ', W', tmM', a', h1, h2, h3⟩ := h.act hE hrec hp hkr ho hpb hpm hready hw hd (k := k) rest
            exact ⟨r, st1, _, φ', W', tmM', a', hr1, h1, hrun, h2, h3⟩
          · exfalso
            have ham : bit st1.am p.i = true := by
              unfold drawAct at hd
              obtain ⟨r0, hr0, hnew⟩ := Option.bind_eq_some_iff.1 hd; clear hd; have hd := hnew; clear hnew
              obtain ⟨fl, hfl, hnew⟩ := Option.bind_eq_some_iff.1 hd; clear hd; have hd := hnew; clear hnew
              obtain ⟨tm, htm, hnew⟩ := Option.bind_eq_some_iff.1 hd; clear hd; have hd := hnew; clear hnew
              simp only [Option.some.injEq] at hd; subst hd
              show bit (Nat.lor st.am (Nat.shiftLeft 1 p.i)) p.i = true
              rw [bit_lor, bit_one]; simp
            rcases hr1.mem i hi with (h1 | h1) | ⟨s, hs, hsi, hsb⟩
            · exact hm h1
            · exact hpi h1.symm
            · exact hpm (h.sub _ (hready _ (hsb _ (drawRun_future r st1 stF hrun s hs _ ham))))
        have hst := hst1
        unfold drawStep at hst
        cases hb : Nat.beq (Nat.land st.am p.b) st.am with
        | false => rw [hb] at hst; cases hst
        | true =>
        rw [hb] at hst
        simp only at hst
        obtain ⟨w, hw, hnew⟩ := Option.bind_eq_some_iff.1 hst; clear hst; have hst := hnew; clear hnew
        cases w with
        | false => exact go _ _ hst hw (.inl ⟨rfl, fun _ _ _ e => by cases e⟩)
        | true =>
          simp only at hst
          split at hst
          · obtain ⟨v, hv, hnew⟩ := Option.bind_eq_some_iff.1 hst; clear hst; have hst := hnew; clear hnew
            exact go _ _ hst ⟨hw, hv⟩ (.inl ⟨rfl, fun _ _ _ e => by cases e⟩)
          · cases hn : st.H.look st.H.next with
            | some x => rw [hn] at hst; cases hst
            | none =>
              rw [hn] at hst
              simp only at hst
              obtain ⟨r0, hr0, hnew⟩ := Option.bind_eq_some_iff.1 hst; clear hst; have hst := hnew; clear hnew
              exact go _ _ hst ⟨hw, hr0, by rw [Heap.look_new, if_pos rfl], Nat.lt_succ_self _⟩ (.inr ⟨r0.1, r0.2, hn, rfl, rfl⟩)
          · exact hact hw hst
          · split at hst
            · rename_i v hv
              exact go _ _ hst ⟨hw, hv⟩ (.inl ⟨rfl, fun _ _ _ e => by cases e⟩)
            · exact hact hw hst
  termination_by r => r.length

def LB (listed : Array Bool) (i : Nat) : Prop := listed[i]? = some true
theorem LB_set {listed : Array Bool} {i : Nat} (hi : i < listed.size) (j : Nat) : LB (listed.setIfInBounds i true) j ↔ LB listed j ∨ j = i := by
  unfold LB
  by_cases h : j = i
  · subst h
    rw [Array.getElem?_setIfInBounds_self_of_lt hi]
    simp
  · rw [Array.getElem?_setIfInBounds_ne (Ne.symm h)]
    simp [h]
theorem ready_mem {listed : Array Bool} (hsz : listed.size = ops.size) {i : Nat} (h : i ∈ Region.ready .any ops listed) :
    i < ops.size ∧ ¬ LB listed i ∧ ∃ o, ops[i]? = some o ∧ ∀ e ∈ o.after.toList, Region.binds .any e = true → LB listed e.on := by
  unfold Region.ready at h
  obtain ⟨h1, h2⟩ := List.mem_filter.1 h
  have hi := List.mem_range.1 h1
  obtain ⟨o, ho⟩ : ∃ o, ops[i]? = some o := ⟨_, Array.getElem?_eq_getElem hi⟩
  rw [ho] at h2
  simp only [Option.map_some, Option.getD_some, Bool.and_eq_true, Array.all_eq_true_iff_forall_mem] at h2
  refine ⟨hi, ?_, o, ho, fun e he hb => ?_⟩
  · intro hl
    unfold LB at hl
    have := h2.1
    rw [Array.getD_eq_getD_getElem?, hl] at this
    simp at this
  · have := h2.2 e (Array.mem_toList_iff.1 he)
    rw [hb] at this
    simp only [Bool.not_true, Bool.false_or] at this
    rw [Array.getD_eq_getD_getElem?] at this
    unfold LB
    cases hh : listed[e.on]? with
    | none => rw [hh] at this; simp at this
    | some t => rw [hh] at this; simp at this; rw [this]
theorem ready_some (hp : PlanR ops.toList B) {listed : Array Bool} (hsz : listed.size = ops.size) : ∀ i, i < ops.size → ¬ LB listed i → Region.ready .any ops listed ≠ [] := by
  intro i
  induction i using Nat.strongRecOn with
  | _ i ih =>
    intro hi hl he
    by_cases hall : ∀ j, j < i → LB listed j
    · obtain ⟨o, ho⟩ : ∃ o, ops[i]? = some o := ⟨_, Array.getElem?_eq_getElem hi⟩
      have hmem : i ∈ Region.ready .any ops listed := by
        unfold Region.ready
        refine List.mem_filter.2 ⟨List.mem_range.2 hi, ?_⟩
        rw [ho]
        simp only [Option.map_some, Option.getD_some, Bool.and_eq_true, Array.all_eq_true_iff_forall_mem]
        refine ⟨?_, fun e hme => ?_⟩
        · unfold LB at hl
          have hi' : i < listed.size := by omega
          rw [Array.getD_eq_getD_getElem?]
          rw [Array.getElem?_eq_getElem hi'] at hl ⊢
          simpa using hl
        · cases hb : Region.binds .any e with
          | false => rfl
          | true =>
            have := hall e.on (hp.edge i o e (by rw [Array.getElem?_toList]; exact ho) (Array.mem_toList_iff.2 hme) hb)
            unfold LB at this
            rw [Array.getD_eq_getD_getElem?, this]
            rfl
      rw [he] at hmem
      simp at hmem
    · simp only [Classical.not_forall] at hall
      obtain ⟨j, hj, hlj⟩ := hall
      exact ih j hj (by omega) hlj he

/-- How many are still to come. -/
def todo (listed : Array Bool) : Nat := (listed.toList.filter (fun x => !x)).length
theorem todo_set {listed : Array Bool} {i : Nat} (h : listed[i]? = some false) : todo listed = todo (listed.setIfInBounds i true) + 1 := by
  unfold todo
  rw [Array.toList_setIfInBounds]
  have : ∀ (l : List Bool) (i : Nat), l[i]? = some false → (l.filter (fun x => !x)).length = ((l.set i true).filter (fun x => !x)).length + 1 := by
    intro l
    induction l with
    | nil => intro i h; simp at h
    | cons x l ih =>
      intro i h
      cases i with
      | zero => simp at h; subst h; simp
      | succ i =>
        have := ih i (by simpa using h)
        cases x <;> simp [List.filter_cons, this]
  exact this _ _ (by rw [Array.getElem?_toList]; exact h)
theorem todo_zero {listed : Array Bool} (h : todo listed = 0) (i : Nat) (hi : i < listed.size) : LB listed i := by
  unfold todo at h
  unfold LB
  have h2 : listed.toList.filter (fun x => !x) = [] := List.length_eq_zero_iff.1 h
  rw [List.filter_eq_nil_iff] at h2
  have := h2 listed[i] (by rw [Array.mem_toList_iff]; exact Array.getElem_mem hi)
  rw [Array.getElem?_eq_getElem hi]
  simpa using this

theorem draw_go (hE : EnvOk E P) {rec_ : Rec} (hrec : RecOk E P rec_) {q : K} (hp : PlanR ops.toList B) {tm0 : T V} {φ0 : Pm} {H0 : Heap} {W0 : World} {b : Frame} {k : List Item} {cs : List Frame} {stF : DSt} (hkr : KR φ0 q b cs) :
    ∀ (fuel t : Nat) (listed : Array Bool) (r : List Stp) (st : DSt) (m : Nat → Prop) (φ : Pm) (W : World) (tmM : T V) (a : Act), listed.size = ops.size → todo listed = fuel → RestOk ops.toList B r m →
      Inv E ops.toList B q.nt tm0 φ0 H0 W0 st m (LB listed) φ W tmM a → drawRun E rec_ q ops.toList r st = some stF →
      ∃ φ' a' W', To E φ0 H0 W0 φ' stF.H W' ∧ FR E φ' q.nt { tm := stF.tm, df := stF.df } a' ∧
        Steps P (lone (b.atR a (.inRegion ops (Region.linearise.go .any ops fuel t listed []) :: k)) cs W) (lone (b.atR a' k) cs W')
  | 0, t, listed, r, st, m, φ, W, tmM, a, hsz, htd, hr, h, hrun => by
    have hall : ∀ i, i < ops.size → LB listed i := fun i hi => todo_zero htd i (by omega)
    have hr0 : r = [] := by
      cases r with
      | nil => rfl
      | cons p r =>
        obtain ⟨h1, _, h3, _, _⟩ := hr
        have : p.i < ops.size := by
          rw [Array.getElem?_toList] at h1
          exact (Array.getElem?_eq_some_iff.1 h1).1
        exact absurd (h.sub _ (hall _ this)) h3
    subst hr0
    simp only [drawRun, Option.some.injEq] at hrun
    subst hrun
    have htm : ∀ d, tmM.get d = st.tm.get d := fun d => by
      by_cases hw : ∃ j, Wt ops.toList j d
      · obtain ⟨j, hj⟩ := hw
        have hjs : j < ops.size := by
          obtain ⟨o, h1, _⟩ := hj
          rw [Array.getElem?_toList] at h1
          exact (Array.getElem?_eq_some_iff.1 h1).1
        exact h.r1 j d (hall j hjs) hj
      · rw [h.r2 d (fun j _ hj => hw ⟨j, hj⟩), h.r3 d (fun j _ hj => hw ⟨j, hj⟩)]
    refine ⟨φ, a, W, h.to, ⟨⟨h.fr.ar.glob, fun t => ?_⟩, h.fr.size, h.fr.df⟩, .one ?_⟩
    · have := h.fr.ar.at_ t
      simp only at this ⊢
      rw [← htm t]; exact this
    · exact stepR_region_end
  | fuel + 1, t, listed, r, st, m, φ, W, tmM, a, hsz, htd, hr, h, hrun => by
    have hne : Region.ready .any ops listed ≠ [] := by
      obtain ⟨i, hi, hl⟩ : ∃ i, i < listed.size ∧ ¬ LB listed i := by
        apply Classical.byContradiction
        intro hno
        have hall : ∀ i, i < listed.size → LB listed i := fun i hi => Classical.byContradiction fun hh => hno ⟨i, hi, hh⟩
        have : todo listed = 0 := by
          unfold todo
          rw [List.length_eq_zero_iff, List.filter_eq_nil_iff]
          intro x hx
          obtain ⟨i, hi⟩ := List.getElem?_of_mem hx
          rw [Array.getElem?_toList] at hi
          have hlt := (Array.getElem?_eq_some_iff.1 hi).1
          have := hall i hlt
          unfold LB at this
          rw [hi] at this
          simp at this
          simp [this]
        omega
      exact ready_some hp hsz i (by omega) hl
    simp only [Region.linearise.go]
    change ∃ φ' a' W', To E φ0 H0 W0 φ' stF.H W' ∧ FR E φ' q.nt { tm := stF.tm, df := stF.df } a' ∧
      Steps P (lone (b.atR a (.inRegion ops (match (Region.ready .any ops listed)[t % (Region.ready .any ops listed).length]? with
        | some i => Region.linearise.go .any ops fuel (t / (Region.ready .any ops listed).length) (listed.setIfInBounds i true) [i]
        | none => [].reverse) :: k)) cs W) (lone (b.atR a' k) cs W')
    have hlen : 0 < (Region.ready .any ops listed).length := List.length_pos_iff.2 hne
    obtain ⟨i, hi⟩ : ∃ i, (Region.ready .any ops listed)[t % (Region.ready .any ops listed).length]? = some i := ⟨_, List.getElem?_eq_getElem (Nat.mod_lt _ hlen)⟩
    rw [hi]
    simp only
    rw [linearise_go_acc]
    simp only [List.reverse_cons, List.reverse_nil, List.nil_append, List.cons_append]
    obtain ⟨his, hnl, o, ho, hafter⟩ := ready_mem hsz (List.mem_of_getElem? hi)
    have hready : ∀ j, B i j → LB listed j := fun j hb => by
      obtain ⟨o', e, h1, h2, h3, h4⟩ := hp.step i j hb
      rw [Array.getElem?_toList, ho] at h1
      have := Option.some.inj h1; subst this
      have hon := hafter e h2 h3
      rcases h4 with rfl | h4
      · exact hon
      · exact h.lcl _ _ hon h4
    obtain ⟨r', st', m', φ', W', tmM', a', h1, h2, h3, h4, h5⟩ := draw_one hE hrec hp (b := b) (k := k) (cs := cs) (Region.linearise.go .any ops fuel (t / (Region.ready .any ops listed).length) (listed.setIfInBounds i true) []) r st m (LB listed) φ W tmM a (hkr.mono h.to.le) hr h hrun i (by simpa using his) hnl hready
    have hset := LB_set (listed := listed) (i := i) (by omega)
    have hfun : (fun j => LB listed j ∨ j = i) = LB (listed.setIfInBounds i true) := by
      funext j
      exact propext (hset j).symm
    rw [hfun] at h2
    have hfalse : listed[i]? = some false := by
      have hi' : i < listed.size := by omega
      unfold LB at hnl
      rw [Array.getElem?_eq_getElem hi'] at hnl ⊢
      simpa using hnl
    have := todo_set hfalse
    obtain ⟨φ2, a2, W2, h6, h7, h8⟩ := draw_go hE hrec hp hkr fuel (t / (Region.ready .any ops listed).length) (listed.setIfInBounds i true) r' st' m' φ' W' tmM' a' (by simpa using hsz) (by omega) h1 h2 h3
    exact ⟨φ2, a2, W2, h6, h7, h5.trans h8⟩

theorem drawV_ok (hE : EnvOk E P) (hmix : P.follows .mixedOrders = true) {rec_ : Rec} (hrec : RecOk E P rec_) {q : K} {φ : Pm} {H H' : Heap} {W : World} {fr fr' : Fm} {a : Act} {b : Frame} {k : List Item} {cs : List Frame} {id : Nat}
    (hs : St E φ H W) (hf : FR E φ q.nt fr a) (hk : KR φ q b cs) (h : drawV E rec_ q ops.toList fr H = some (fr', H')) :
    ∃ φ' a' W', To E φ H W φ' H' W' ∧ FR E φ' q.nt fr' a' ∧ Steps P (lone (b.atR a (.code (.region id ops true) :: k)) cs W) (lone (b.atR a' k) cs W') := by
  unfold drawV at h
  obtain ⟨steps, hsteps, hnew⟩ := Option.bind_eq_some_iff.1 h; clear h; have h := hnew; clear hnew
  obtain ⟨st, hst, hnew⟩ := Option.bind_eq_some_iff.1 h; clear h; have h := hnew; clear hnew
  simp only [Option.some.injEq, Prod.mk.injEq] at h
  obtain ⟨rfl, rfl⟩ := h
  obtain ⟨hp, hr⟩ := planOf_ok hsteps
  have hdrew : St E φ H { W with drawn := W.drawn + 1 } := hs.drew
  have hno : ∀ i, ¬ LB (Array.replicate ops.size false) i := fun i hl => by
    unfold LB at hl
    rw [Array.getElem?_replicate] at hl
    split at hl <;> simp at hl
  have htodo : todo (Array.replicate ops.size false) = ops.size := by
    unfold todo
    rw [Array.toList_replicate, List.filter_replicate]
    simp
  have hfun : (fun _ : Nat => False) = LB (Array.replicate ops.size false) := by
    funext i
    exact propext ⟨False.elim, hno i⟩
  have hinv : Inv E ops.toList (bOf ops.toList) q.nt fr.tm φ H { W with drawn := W.drawn + 1 } { tm := fr.tm, df := fr.df, H := H, am := 0, fl := [] } (fun _ => False) (LB (Array.replicate ops.size false)) φ { W with drawn := W.drawn + 1 } fr.tm a :=
    ⟨To.refl hdrew, hf, fun i hi => absurd hi (hno i), fun _ _ hh => hh.elim, fun i _ hi => absurd hi (hno i), fun _ hh => hh.elim, fun e he => by simp at he, fun e he => by simp at he,
      fun e he => by simp at he, fun w hw => by simp [bit_zero] at hw, fun j d hj => absurd hj (hno j), fun _ _ => rfl, fun _ _ => rfl⟩
  obtain ⟨φ', a', W', h1, h2, h3⟩ := draw_go (P := P) (b := b) (k := k) (cs := cs) hE hrec hp hk ops.size (W.tape W.drawn (.order b.fn id)) (Array.replicate ops.size false) steps _ _ φ _ fr.tm a (by simp) htodo hr hinv hst
  refine ⟨φ', a', W', (To.drew hs).trans h1, h2, Steps.head stepR_region_draw ?_⟩
  simp only [Region.schedule, hmix, Bool.true_or, if_true]
  exact h3

end
end
end Go.Proofs.YtcjidlgmbjebjaaDoor.Ev

/- Code; calls; deferred calls. -/
namespace Go.Proofs.YtcjidlgmbjebjaaDoor.Ev
open Go
noncomputable section

def outOf (x : X) (fr : Fm) (H : Heap) : Option Out := some (.code x fr H)
/-- On after a piece of code. -/
def thenV (s : X × Fm × Heap) (next : Fm → Heap → Option Out) : Option Out :=
  match s.1 with
  | .normal => next s.2.1 s.2.2
  | .exit id => some (.code (.exit id) s.2.1 s.2.2)
  | .goto l => some (.code (.goto l) s.2.1 s.2.2)
  | .ret => some (.code .ret s.2.1 s.2.2)
/-- A loop over a function: its record, the call, the pending jump. -/
def enterLoopV (q : K) (ps : List Tmp) (as body : Code) (fr : Fm) (H : Heap) : Option (Nat × List DV × Heap) :=
  match q.ro with
  | none =>
    some ((H.new .deferred).next, .mark H.next :: fr.df, (H.new .deferred).new (.loop { state := .ready, pending := none, fn := q.fn, tmps := fr.tm, ntmps := q.nt, params := ps, assign := as, body := body, defers := H.next }))
  | some l0 =>
    (loopAt H l0).bind fun r0 =>
      some (H.next, fr.df, H.new (.loop { state := .ready, pending := none, fn := q.fn, tmps := fr.tm, ntmps := q.nt, params := ps, assign := as, body := body, defers := r0.defers }))
def notBusy (s : LoopState) : Bool :=
  match s with
  | .busy => false
  | _ => true
def rangeFuncV (E : Env) (rec_ : Rec) (q : K) (g : Operand) (ps : List Tmp) (as body : Code) (fr : Fm) (H : Heap) : Option Out :=
  (valO E fr.tm g).bind fun gv => (enterLoopV q ps as body fr H).bind fun e =>
    (callValueV E e.2.2 gv [.func (.yield e.1) [] []]).bind fun nx =>
      match nx with
      | .enter f args => (runCall rec_ f args false e.2.2).bind fun r => (loopAt r.2 e.1).bind fun lr =>
        match notBusy lr.state with
        | false => none
        | true =>
          match lr.pending with
          | none => some (.code .normal { tm := fr.tm, df := e.2.1 } (r.2.put e.1 .dead))
          | some c => rec_ (.code q c { tm := fr.tm, df := e.2.1 }) (r.2.put e.1 .dead)
      | _ => none
def codeV (E : Env) (rec_ : Rec) (q : K) (c : Code) (fr : Fm) (H : Heap) : Option Out :=
  match c with
  | .skip => some (.code .normal fr H)
  | .label _ => some (.code .normal fr H)
  | .region _ ops draw =>
    match draw with
    | false => (runOps E rec_ q ops.toList ops.toList fr H).bind fun r => some (.code .normal r.1 r.2)
    | true => (drawV E rec_ q ops.toList fr H).bind fun r => some (.code .normal r.1 r.2)
  | .seq x y => (runCode rec_ q x fr H).bind fun s => thenV s fun fr H => rec_ (.code q y fr) H
  | .cond c x y => (valO E fr.tm c).bind fun v =>
    match v with
    | .bool b =>
      match b with
      | true => rec_ (.code q x fr) H
      | false => rec_ (.code q y fr) H
    | _ => none
  | .block id c => (runCode rec_ q c fr H).bind fun s =>
    match s.1 with
    | .exit id' =>
      match Nat.beq id' id with
      | true => some (.code .normal s.2.1 s.2.2)
      | false => some (.code (.exit id') s.2.1 s.2.2)
    | x => some (.code x s.2.1 s.2.2)
  | .loop c => (runCode rec_ q c fr H).bind fun s => thenV s fun fr H => rec_ (.again q c fr) H
  | .exit id => some (.code (.exit id) fr H)
  | .goto l => some (.code (.goto l) fr H)
  | .ret => some (.code .ret fr H)
  | .rangeFunc g ps as body => rangeFuncV E rec_ q g ps.toList as body fr H
  | .scope c => rec_ (.within q c c fr) H
  | .refuse _ => none
/-- A piece of code within a scope whose labels are body's. -/
def withinV (rec_ : Rec) (q : K) (body c : Code) (fr : Fm) (H : Heap) : Option Out :=
  (runCode rec_ q c fr H).bind fun s =>
    match s.1 with
    | .goto l =>
      match findLabel body l with
      | some rest => rec_ (.within q body rest s.2.1) s.2.2
      | none => some (.code (.goto l) s.2.1 s.2.2)
    | .normal => some (.code .normal s.2.1 s.2.2)
    | .exit id => some (.code (.exit id) s.2.1 s.2.2)
    | .ret => some (.code .ret s.2.1 s.2.2)

section
variable {E : Env} {P : Program} {φ : Pm} {H : Heap} {W : World}

theorem Ends.pass {b : Frame} {k : List Item} {cs : List Frame} {m : Machine} {x : X} {a : Act} {w : World} {it : Item} (hp : it.plain = true) (hx : x ≠ .normal) (h : Ends P b (it :: k) cs m x a w) : Ends P b k cs m x a w := by
  cases x with
  | normal => exact absurd rfl hx
  | exit id =>
    obtain ⟨k1, h1, h2⟩ := h
    exact ⟨k1, h1.trans (by cases it <;> first | rfl | simp [Item.plain] at hp), h2⟩
  | goto l =>
    obtain ⟨k1, h1, h2⟩ := h
    exact ⟨k1, h1.trans (by cases it <;> first | rfl | simp [Item.plain] at hp), h2⟩
  | ret => exact h

/-- What is asked of code. -/
def CodeOk (E : Env) (P : Program) (q : K) (it : Item) (fr : Fm) (H : Heap) (x : X) (fr' : Fm) (H' : Heap) : Prop :=
  ∀ (φ : Pm) (W : World) (b : Frame) (a : Act) (k : List Item) (cs : List Frame), St E φ H W → FR E φ q.nt fr a → KR φ q b cs →
    ∃ φ' a' W', To E φ H W φ' H' W' ∧ FR E φ' q.nt fr' a' ∧ Ends P b k cs (lone (b.atR a (it :: k)) cs W) x a' W'

/-- A piece of code and what follows it. -/
theorem then_ok {rec_ : Rec} (hrec : RecOk E P rec_) {q : K} {c : Code} {fr : Fm} {s : X × Fm × Heap} (h1 : runCode rec_ q c fr H = some s) {next : Fm → Heap → Option Out} {it : Item} (hit : it.plain = true)
    {x : X} {fr' : Fm} {H' : Heap} (h2 : thenV s next = some (.code x fr' H')) (hnext : ∀ fr1 H1, next fr1 H1 = some (.code x fr' H') → CodeOk E P q it fr1 H1 x fr' H')
    {b : Frame} {a : Act} (k : List Item) {cs : List Frame} (hs : St E φ H W) (hf : FR E φ q.nt fr a) (hk : KR φ q b cs) :
    ∃ φ' a' W', To E φ H W φ' H' W' ∧ FR E φ' q.nt fr' a' ∧ Ends P b k cs (lone (b.atR a (.code c :: it :: k)) cs W) x a' W' := by
  obtain ⟨φ1, a1, W1, hto1, hf1, he1⟩ := runCode_ok hrec h1 (it :: k) hs hf hk
  obtain ⟨x1, fr1, H1⟩ := s
  unfold thenV at h2
  simp only at h2 hto1 hf1 he1
  cases x1 with
  | normal =>
    obtain ⟨φ2, a2, W2, hto2, hf2, he2⟩ := hnext fr1 H1 h2 φ1 W1 b a1 k cs hto1.st hf1 (hk.mono hto1.le)
    exact ⟨φ2, a2, W2, hto1.trans hto2, hf2, .of_steps he1 he2⟩
  | exit id =>
    simp only [Option.some.injEq, Out.code.injEq] at h2
    obtain ⟨rfl, rfl, rfl⟩ := h2
    exact ⟨φ1, a1, W1, hto1, hf1, he1.pass hit (by simp)⟩
  | goto l =>
    simp only [Option.some.injEq, Out.code.injEq] at h2
    obtain ⟨rfl, rfl, rfl⟩ := h2
    exact ⟨φ1, a1, W1, hto1, hf1, he1.pass hit (by simp)⟩
  | ret =>
    simp only [Option.some.injEq, Out.code.injEq] at h2
    obtain ⟨rfl, rfl, rfl⟩ := h2
    exact ⟨φ1, a1, W1, hto1, hf1, he1.pass hit (by simp)⟩

theorem enterLoopV_ok (hs : St E φ H W) {q : K} {ps : Array Tmp} {as body : Code} {fr : Fm} {a : Act} {b : Frame} {cs : List Frame} (hf : FR E φ q.nt fr a) (hk : KR φ q b cs) {e : Nat × List DV × Heap} (h : enterLoopV q ps.toList as body fr H = some e) :
    ∃ φ' W' p mark, (Instr.enterLoop b.fn a.tmps ps as body b.roundOf).run P W = .ok (p.blk, mark) W' ∧ To E φ H W φ' e.2.2 W' ∧ φ' e.1 = some p ∧ FR E φ' q.nt { tm := fr.tm, df := e.2.1 } { a with defers := mark ++ a.defers } := by
  unfold enterLoopV at h
  cases hro : q.ro with
  | none =>
    rw [hro] at h
    simp only [Option.some.injEq] at h
    subst h
    have hb := hk.none_ hro
    have hn1 := To.newObj hs .deferred (.deferred (some [])) (fun ψ _ _ => ⟨rfl, heap_new _ _⟩)
    have hn2 := To.newObj hn1.st (.loop { state := .ready, pending := none, fn := q.fn, tmps := fr.tm, ntmps := q.nt, params := ps.toList, assign := as, body := body, defers := H.next })
      (.loop { state := .ready, pending := none, fn := b.fn, tmps := a.tmps, params := ps, assign := as, body := body, defers := W.heap.size })
      (fun ψ hle _ => ⟨rfl, _, heap_new _ _, ⟨⟨_, hle _ _ (ext_same _ _ _), rfl⟩, rfl, rfl, hk.fn.symm, ⟨hf.size, fun t => (hf.ar.at_ t).mono (hn1.le.trans hle)⟩, rfl, rfl, rfl⟩⟩)
    refine ⟨_, _, _, [{ target := .collected W.heap.size, args := #[] }], ?_, hn1.trans hn2, ext_same _ _ _, ⟨⟨hf.ar.glob.mono (hn1.le.trans hn2.le), fun t => (hf.ar.at_ t).mono (hn1.le.trans hn2.le)⟩, hf.size, .cons (.mark (hn2.le _ _ (ext_same _ _ _))) (hf.df.mono (hn1.le.trans hn2.le))⟩⟩
    rw [hb]
    simp [Instr.enterLoop]
  | some l0 =>
    rw [hro] at h
    simp only at h
    obtain ⟨r0, hr0, hnew⟩ := Option.bind_eq_some_iff.1 h; clear h; have h := hnew; clear hnew
    simp only [Option.some.injEq] at h
    subst h
    obtain ⟨p0, hp0, hb⟩ := hk.some_ l0 hro
    obtain ⟨hl, hro2, l', h1, h2⟩ := loopAt_ok hs hr0 hp0
    obtain ⟨qd, hqd, hqe⟩ := h2.defers
    have hn2 := To.newObj hs (.loop { state := .ready, pending := none, fn := q.fn, tmps := fr.tm, ntmps := q.nt, params := ps.toList, assign := as, body := body, defers := r0.defers })
      (.loop { state := .ready, pending := none, fn := b.fn, tmps := a.tmps, params := ps, assign := as, body := body, defers := l'.defers })
      (fun ψ hle _ => ⟨rfl, _, heap_new _ _, ⟨⟨qd, hle _ _ hqd, hqe⟩, rfl, rfl, hk.fn.symm, ⟨hf.size, fun t => (hf.ar.at_ t).mono hle⟩, rfl, rfl, rfl⟩⟩)
    refine ⟨_, _, _, [], ?_, hn2, ext_same _ _ _, ⟨⟨hf.ar.glob.mono hn2.le, fun t => (hf.ar.at_ t).mono hn2.le⟩, hf.size, hf.df.mono hn2.le⟩⟩
    rw [hb]
    simp [Instr.enterLoop, run_getLoop h1]

theorem endLoop_ok (hs : St E φ H W) {l : Nat} {r : LoopRec} (h : loopAt H l = some r) {p : Pl} (hp : φ l = some p) (hb : notBusy r.state = true) :
    ∃ W', (Instr.endLoop p.blk).run P W = .ok r.pending W' ∧ To E φ H W φ (H.put l .dead) W' := by
  obtain ⟨hl, hro, l', h1, h2⟩ := loopAt_ok hs h hp
  obtain ⟨W', hw, hto⟩ := To.setObj (P := P) hs hl (o2 := .dead) rfl hp hro h1 (fun _ _ _ => by simp) (.loop { l' with state := .exhausted })
    (fun W2 h3 => trivial)
  refine ⟨W', ?_, hto⟩
  unfold Instr.endLoop
  rw [Sem.run_bind, run_getLoop h1, Result.andThen_ok]
  have : (l'.state == .busy) = false := by
    rw [← h2.state]
    cases hst : r.state <;> rw [hst] at hb <;> first | rfl | cases hb
  rw [this, h2.pending]
  simp [hw]

theorem rangeFuncV_ok (hE : EnvOk E P) {rec_ : Rec} (hrec : RecOk E P rec_) {q : K} {g : Operand} {ps : Array Tmp} {as body : Code} {fr : Fm} {x : X} {fr' : Fm} {H' : Heap} (h : rangeFuncV E rec_ q g ps.toList as body fr H = some (.code x fr' H')) :
    CodeOk E P q (.code (.rangeFunc g ps as body)) fr H x fr' H' := by
  intro φ W b a k cs hs hf hk
  unfold rangeFuncV at h
  obtain ⟨gv, hgv, hnew⟩ := Option.bind_eq_some_iff.1 h; clear h; have h := hnew; clear hnew
  obtain ⟨e, he, hnew⟩ := Option.bind_eq_some_iff.1 h; clear h; have h := hnew; clear hnew
  obtain ⟨nx, hnx, hnew⟩ := Option.bind_eq_some_iff.1 h; clear h; have h := hnew; clear hnew
  obtain ⟨φ1, W1, p, mark, hent, hto1, hp, hf1⟩ := enterLoopV_ok (P := P) hs hf hk he
  cases nx <;> simp only at h <;> try (cases h; done)
  case enter f args =>
    obtain ⟨r, hr, hnew⟩ := Option.bind_eq_some_iff.1 h; clear h; have h := hnew; clear hnew
    obtain ⟨lr, hlr, hnew⟩ := Option.bind_eq_some_iff.1 h; clear h; have h := hnew; clear hnew
    cases hnb : notBusy lr.state with
    | false => rw [hnb] at h; cases h
    | true =>
    rw [hnb] at h
    simp only at h
    have hy : VRs φ1 [V.func (.yield e.1) [] []] (#[Value.func (.yield p.blk) #[] #[]] : Array Value).toList := .cons (.func (.yield hp) .nil .nil) .nil
    have hcall := callValueV_ok (P := P) (H := e.2.2) (W := W1) hE hto1.st ((valO_ok hf.ar hgv).mono hto1.le) hy hnx
    obtain ⟨args', hrun, hargs⟩ := hcall
    obtain ⟨d, w1', hres, hinv⟩ : ∃ d w1', (resolve a.eval (rangeCall g p.blk) 0).run P W1 = .ok d w1' ∧ (invoke d.target d.args).run P w1' = .ok (.enter f args') W1 := by
      rw [Sem.run_bind] at hrun
      have hreq : (resolve a.eval (rangeCall g p.blk) 0).run P W1 = (Deferred.ofValue (a.eval g) #[Value.func (.yield p.blk) #[] #[]]).run P W1 := by
        simp [resolve, rangeCall, Act.eval]
      rw [hreq]
      cases hd : (Deferred.ofValue (a.eval g) #[Value.func (.yield p.blk) #[] #[]]).run P W1 with
      | ok d w => rw [hd] at hrun; exact ⟨d, w, rfl, hrun⟩
      | halt x w => rw [hd] at hrun; cases hrun
    have hstep := stepR_rangeFunc (P := P) (b := b) (a := a) (k := k) (cs := cs) (w := W) hent hres hinv
    obtain ⟨φ2, v2, W2, fr2, hto2, hv2, hst2, hfn2, hkd2, hm2, hdf2, fn2, hpf2, hres2⟩ := runCall_ok hrec hr (b.atR { a with defers := mark ++ a.defers } (.inRangeFunc p.blk :: k) :: cs) hto1.st (hf.ar.glob.mono hto1.le) hargs (fun e => by cases e)
    have hback := step_leave_returned (P := P) (fr := fr2) (c := b.atR { a with defers := mark ++ a.defers } (.inRangeFunc p.blk :: k)) (cs := cs) (w := W2) (v := v2) ⟨hm2, hdf2, hkd2, fn2, hpf2, hres2⟩
    rw [finish_atR_inRangeFunc] at hback
    have hp2 := hto2.le _ _ hp
    obtain ⟨W3, hend, hto3⟩ := endLoop_ok (P := P) hto2.st hlr hp2 hnb
    have hstep3 := stepR_endRangeFunc (P := P) (b := b) (a := { a with defers := mark ++ a.defers }) (k := k) (cs := cs) hend
    have hall : Steps P (lone (b.atR a (.code (.rangeFunc g ps as body) :: k)) cs W) (lone (b.atR { a with defers := mark ++ a.defers } ((lr.pending.map Item.code).toList ++ k)) cs W3) :=
      Steps.head hstep (Steps.trans hst2 (Steps.head hback (.one hstep3)))
    have hto := (hto1.trans hto2).trans hto3
    have hf3 := hf1.mono hto2.le
    cases hpd : lr.pending with
    | none =>
      rw [hpd] at h hall
      simp only [Option.some.injEq, Out.code.injEq] at h
      obtain ⟨rfl, rfl, rfl⟩ := h
      exact ⟨φ2, _, W3, hto, hf3, hall⟩
    | some c =>
      rw [hpd] at h hall
      simp only at h
      obtain ⟨φ4, a4, W4, hto4, hf4, he4⟩ := hrec.code q c _ _ _ _ _ h φ2 W3 b _ k cs hto.st hf3 (hk.mono hto.le)
      exact ⟨φ4, a4, W4, hto.trans hto4, hf4, .of_steps hall he4⟩

theorem stepR_scope {b : Frame} {a : Act} {k : List Item} {cs : List Frame} {w : World} {c : Code} : step P (lone (b.atR a (.code (.scope c) :: k)) cs w) = .next (lone (b.atR a (.code c :: .inScope c :: k)) cs w) :=
  step_lone_go (by simp [stepG, stepG.exec, Frame.atR])
theorem stepR_inScope {b : Frame} {a : Act} {k : List Item} {cs : List Frame} {w : World} {c : Code} : step P (lone (b.atR a (.inScope c :: k)) cs w) = .next (lone (b.atR a k) cs w) :=
  step_lone_go (by simp [stepG, stepG.exec, Frame.atR])
theorem withinV_ok {rec_ : Rec} (hrec : RecOk E P rec_) {q : K} {body c : Code} {fr : Fm} {x : X} {fr' : Fm} {H' : Heap} (h : withinV rec_ q body c fr H = some (.code x fr' H'))
    {b : Frame} {a : Act} (k : List Item) {cs : List Frame} (hs : St E φ H W) (hf : FR E φ q.nt fr a) (hk : KR φ q b cs) :
    ∃ φ' a' W', To E φ H W φ' H' W' ∧ FR E φ' q.nt fr' a' ∧ Ends P b k cs (lone (b.atR a (.code c :: .inScope body :: k)) cs W) x a' W' := by
  unfold withinV at h
  obtain ⟨s, hs1, hnew⟩ := Option.bind_eq_some_iff.1 h; clear h; have h := hnew; clear hnew
  obtain ⟨φ1, a1, W1, hto1, hf1, he1⟩ := runCode_ok hrec hs1 (.inScope body :: k) hs hf hk
  obtain ⟨x1, fr1, H1⟩ := s
  simp only at h hto1 hf1 he1
  cases x1 with
  | normal =>
    simp only [Option.some.injEq, Out.code.injEq] at h
    obtain ⟨rfl, rfl, rfl⟩ := h
    exact ⟨φ1, a1, W1, hto1, hf1, Steps.trans he1 (.one stepR_inScope)⟩
  | exit id =>
    simp only [Option.some.injEq, Out.code.injEq] at h
    obtain ⟨rfl, rfl, rfl⟩ := h
    obtain ⟨k1, hk1, hst⟩ := he1
    exact ⟨φ1, a1, W1, hto1, hf1, k1, hk1, hst⟩
  | ret =>
    simp only [Option.some.injEq, Out.code.injEq] at h
    obtain ⟨rfl, rfl, rfl⟩ := h
    obtain ⟨k1, hst⟩ := he1
    exact ⟨φ1, a1, W1, hto1, hf1, k1, hst⟩
  | goto l =>
    obtain ⟨k1, hk1, hst⟩ := he1
    simp only at h
    have hg : gotoIn l (.inScope body :: k) = match findLabel body l with | some rest => some (.code rest :: .inScope body :: k) | none => gotoIn l k := rfl
    cases hfl : findLabel body l with
    | some rest =>
      rw [hfl] at h
      simp only at h
      rw [hg, hfl] at hk1
      obtain ⟨φ2, a2, W2, hto2, hf2, he2⟩ := hrec.within q body rest fr1 H1 _ _ _ h φ1 W1 b a1 k cs hto1.st hf1 (hk.mono hto1.le)
      exact ⟨φ2, a2, W2, hto1.trans hto2, hf2, .of_steps (hst.trans (.one (stepR_goto hk1))) he2⟩
    | none =>
      rw [hfl] at h
      simp only [Option.some.injEq, Out.code.injEq] at h
      obtain ⟨rfl, rfl, rfl⟩ := h
      rw [hg, hfl] at hk1
      exact ⟨φ1, a1, W1, hto1, hf1, k1, hk1, hst⟩

theorem codeV_ok (hE : EnvOk E P) {rec_ : Rec} (hrec : RecOk E P rec_) {q : K} {c : Code} {fr : Fm} {x : X} {fr' : Fm} {H' : Heap} (h : codeV E rec_ q c fr H = some (.code x fr' H')) :
    CodeOk E P q (.code c) fr H x fr' H' := by
  intro φ W b a k cs hs hf hk
  unfold codeV at h
  cases c <;> simp only at h <;> try (cases h; done)
  case skip =>
    simp only [Option.some.injEq, Out.code.injEq] at h
    obtain ⟨rfl, rfl, rfl⟩ := h
    exact ⟨φ, a, W, To.refl hs, hf, Steps.one stepR_skip⟩
  case label l =>
    simp only [Option.some.injEq, Out.code.injEq] at h
    obtain ⟨rfl, rfl, rfl⟩ := h
    exact ⟨φ, a, W, To.refl hs, hf, Steps.one stepR_label⟩
  case region id ops draw =>
    cases draw with
    | true =>
      obtain ⟨r, hr, hnew⟩ := Option.bind_eq_some_iff.1 h; clear h; have h := hnew; clear hnew
      simp only [Option.some.injEq, Out.code.injEq] at h
      obtain ⟨rfl, rfl, rfl⟩ := h
      exact drawV_ok hE hE.mix hrec hs hf hk hr
    | false =>
      obtain ⟨r, hr, hnew⟩ := Option.bind_eq_some_iff.1 h; clear h; have h := hnew; clear hnew
      simp only [Option.some.injEq, Out.code.injEq] at h
      obtain ⟨rfl, rfl, rfl⟩ := h
      obtain ⟨φ', a', W', hto, hf', hst⟩ := runOps_ok (k := k) hE hrec ops.toList 0 rfl φ H W fr a r.1 r.2 hs hf hk hr
      refine ⟨φ', a', W', hto, hf', Steps.head stepR_region ?_⟩
      rw [List.range_eq_range']
      rw [Array.length_toList] at hst
      exact hst
  case scope c =>
    obtain ⟨φ1, a1, W1, hto1, hf1, he1⟩ := hrec.within q c c fr H _ _ _ h φ W b a k cs hs hf hk
    exact ⟨φ1, a1, W1, hto1, hf1, .of_steps (.one stepR_scope) he1⟩
  case seq x y =>
    obtain ⟨s, hs1, hnew⟩ := Option.bind_eq_some_iff.1 h; clear h; have h := hnew; clear hnew
    obtain ⟨φ', a', W', h1, h2, h3⟩ := then_ok hrec hs1 (it := .code y) rfl h (fun fr1 H1 hn => hrec.code q y fr1 H1 _ _ _ hn) k hs hf hk
    exact ⟨φ', a', W', h1, h2, .of_steps (.one stepR_seq) h3⟩
  case cond c x y =>
    obtain ⟨v, hv, hnew⟩ := Option.bind_eq_some_iff.1 h; clear h; have h := hnew; clear hnew
    have hc := valO_ok hf.ar hv
    cases v <;> simp only at h <;> try (cases h; done)
    case bool t =>
      have hc := hc.bool_inv
      cases t with
      | true =>
        obtain ⟨φ', a', W', h1, h2, h3⟩ := hrec.code q x fr H _ _ _ h φ W b a k cs hs hf hk
        exact ⟨φ', a', W', h1, h2, .of_steps (.one (stepR_cond hc)) h3⟩
      | false =>
        obtain ⟨φ', a', W', h1, h2, h3⟩ := hrec.code q y fr H _ _ _ h φ W b a k cs hs hf hk
        exact ⟨φ', a', W', h1, h2, .of_steps (.one (stepR_cond hc)) h3⟩
  case block id c =>
    obtain ⟨s, hs1, hnew⟩ := Option.bind_eq_some_iff.1 h; clear h; have h := hnew; clear hnew
    obtain ⟨φ1, a1, W1, hto1, hf1, he1⟩ := runCode_ok hrec hs1 (.inBlock id :: k) hs hf hk
    obtain ⟨x1, fr1, H1⟩ := s
    simp only at h hto1 hf1 he1
    cases x1 with
    | normal =>
      simp only [Option.some.injEq, Out.code.injEq] at h
      obtain ⟨rfl, rfl, rfl⟩ := h
      exact ⟨φ1, a1, W1, hto1, hf1, Steps.head stepR_block (Steps.trans he1 (.one stepR_inBlock))⟩
    | exit id' =>
      obtain ⟨k1, hk1, hst⟩ := he1
      simp only at h
      cases hb : Nat.beq id' id with
      | true =>
        rw [hb] at h
        simp only [Option.some.injEq, Out.code.injEq] at h
        obtain ⟨rfl, rfl, rfl⟩ := h
        have := of_beq_t hb
        subst this
        refine ⟨φ1, a1, W1, hto1, hf1, Steps.head stepR_block (Steps.trans hst (.one (stepR_exit ?_)))⟩
        rw [hk1]; simp [exitTo]
      | false =>
        rw [hb] at h
        simp only [Option.some.injEq, Out.code.injEq] at h
        obtain ⟨rfl, rfl, rfl⟩ := h
        have hne := of_beq_f hb
        refine ⟨φ1, a1, W1, hto1, hf1, k1, ?_, Steps.head stepR_block hst⟩
        rw [hk1]
        have : (id == id') = false := by simp; exact fun e => hne e.symm
        simp [exitTo, this]
    | goto l =>
      simp only [Option.some.injEq, Out.code.injEq] at h
      obtain ⟨rfl, rfl, rfl⟩ := h
      obtain ⟨k1, hk1, hst⟩ := he1
      exact ⟨φ1, a1, W1, hto1, hf1, k1, hk1.trans rfl, Steps.head stepR_block hst⟩
    | ret =>
      simp only [Option.some.injEq, Out.code.injEq] at h
      obtain ⟨rfl, rfl, rfl⟩ := h
      obtain ⟨k1, hst⟩ := he1
      exact ⟨φ1, a1, W1, hto1, hf1, k1, Steps.head stepR_block hst⟩
  case loop c =>
    obtain ⟨s, hs1, hnew⟩ := Option.bind_eq_some_iff.1 h; clear h; have h := hnew; clear hnew
    obtain ⟨φ', a', W', h1, h2, h3⟩ := then_ok hrec hs1 (it := .inLoop c) rfl h (fun fr1 H1 hn => hrec.again q c fr1 H1 _ _ _ hn) k hs hf hk
    exact ⟨φ', a', W', h1, h2, .of_steps (.one stepR_loop) h3⟩
  case exit id =>
    simp only [Option.some.injEq, Out.code.injEq] at h
    obtain ⟨rfl, rfl, rfl⟩ := h
    exact ⟨φ, a, W, To.refl hs, hf, k, rfl, Steps.refl P _⟩
  case goto l =>
    simp only [Option.some.injEq, Out.code.injEq] at h
    obtain ⟨rfl, rfl, rfl⟩ := h
    exact ⟨φ, a, W, To.refl hs, hf, k, rfl, Steps.refl P _⟩
  case ret =>
    simp only [Option.some.injEq, Out.code.injEq] at h
    obtain ⟨rfl, rfl, rfl⟩ := h
    exact ⟨φ, a, W, To.refl hs, hf, k, Steps.refl P _⟩
  case rangeFunc g ps as body => exact rangeFuncV_ok hE hrec h φ W b a k cs hs hf hk

end
end
end Go.Proofs.YtcjidlgmbjebjaaDoor.Ev

/- Calls; deferred calls; the evaluator. -/
namespace Go.Proofs.YtcjidlgmbjebjaaDoor.Ev
open Go
noncomputable section

def resultV (E : Env) (H : Heap) (tm : T V) (r : ResultVar) : Option V :=
  match r with
  | .tmp t => some ((tm.get t).getD vundef)
  | .cell x t => (tm.get x).bind fun v =>
    match v with
    | .ptr r off => loadVar E H t r off
    | _ => none
def resultsL (E : Env) (H : Heap) (tm : T V) : List ResultVar → Option (List V)
  | [] => some []
  | r :: l => (resultV E H tm r).bind fun v => (resultsL E H tm l).bind fun vs => some (v :: vs)
def resultsV (E : Env) (H : Heap) (tm : T V) (rs : List ResultVar) : Option V :=
  (resultsL E H tm rs).bind fun vs =>
    match vs with
    | [v] => some v
    | vs => some (.tuple vs)
def leavesV (E : Env) (rec_ : Rec) (rs : List ResultVar) (tm : T V) : List DV → Heap → Option (V × Heap)
  | [], H => (resultsV E H tm rs).bind fun v => some (v, H)
  | d :: ds, H =>
    match d with
    | .call f args caps => (E.fn f).bind fun x => x.body.bind fun _ => (runCall rec_ f (args ++ caps) true H).bind fun r => leavesV E rec_ rs tm ds r.2
    | .mark r => (H.look r).bind fun o =>
      match o with
      | .deferred => leavesV E rec_ rs tm ds (H.put r .dead)
      | _ => none
def callV (E : Env) (rec_ : Rec) (f : FuncId) (args : List V) (df : Bool) (H : Heap) : Option Out :=
  (E.fn f).bind fun fn => fn.body.bind fun c =>
    match Nat.ble args.length fn.ntmps with
    | false => none
    | true =>
      (runCode rec_ { fn := f, nt := fn.ntmps, ro := none, rc := df } c { tm := T.ofList args, df := [] } H).bind fun s =>
        match s.1 with
        | .normal => (leavesV E rec_ fn.results.toList s.2.1.tm s.2.1.df s.2.2).bind fun r => some (.call r.1 r.2)
        | .ret => (leavesV E rec_ fn.results.toList s.2.1.tm s.2.1.df s.2.2).bind fun r => some (.call r.1 r.2)
        | _ => none
def stepE (E : Env) (rec_ : Rec) (t : Task) (H : Heap) : Option Out :=
  match t with
  | .code q c fr => codeV E rec_ q c fr H
  | .again q c fr => (runCode rec_ q c fr H).bind fun s => thenV s fun fr H => rec_ (.again q c fr) H
  | .within q body c fr => withinV rec_ q body c fr H
  | .call f args df => callV E rec_ f args df H
def eval (E : Env) : Nat → Rec
  | 0 => fun _ _ => none
  | n + 1 => stepE E (eval E n)

section
variable {E : Env} {P : Program} {φ : Pm} {H : Heap} {W : World}

def resF (tmps : Array Value) (r : ResultVar) : Sem Value :=
  match r with
  | .tmp t => pure (tmps.getD t Go.undef)
  | .cell x t => do Go.loadVar t (← asAddr (tmps.getD x Go.undef))
theorem results_eq (fn : Func) (tmps : Array Value) : results fn tmps = (do
    let vs ← fn.results.mapM (resF tmps)
    pure (if h : vs.size = 1 then vs[0] else .tuple vs)) := by
  unfold results
  congr 1
theorem resultsL_ok (hE : EnvOk E P) (hs : St E φ H W) {tm : T V} {a : Act} (ha : AR E φ tm a) : ∀ (l : List ResultVar) (vs : List V), resultsL E H tm l = some vs →
    ∃ vs' : List Value, (l.mapM (resF a.tmps)).run P W = .ok vs' W ∧ VRs φ vs vs'
  | [], vs, h => by simp only [resultsL, Option.some.injEq] at h; subst h; exact ⟨[], by simp, .nil⟩
  | r :: l, vs, h => by
    unfold resultsL at h
    obtain ⟨v, hv, hnew⟩ := Option.bind_eq_some_iff.1 h; clear h; have h := hnew; clear hnew
    obtain ⟨ws, hws, hnew⟩ := Option.bind_eq_some_iff.1 h; clear h; have h := hnew; clear hnew
    simp only [Option.some.injEq] at h
    subst h
    obtain ⟨vs', h1, h2⟩ := resultsL_ok hE hs ha l ws hws
    have hone : ∃ v', (resF a.tmps r).run P W = .ok v' W ∧ VR φ v v' := by
      unfold resultV at hv
      cases r with
      | tmp t =>
        simp only [Option.some.injEq] at hv
        subst hv
        exact ⟨_, rfl, ha.at_ t⟩
      | cell x t =>
        simp only at hv
        obtain ⟨u, hu, hnew⟩ := Option.bind_eq_some_iff.1 hv; clear hv; have hv := hnew; clear hnew
        cases u <;> simp only at hv <;> try (cases hv; done)
        case ptr r off =>
          have hat := ha.at_ x
          rw [hu] at hat
          obtain ⟨p, hp, he⟩ := VR.ptr_inv (show VR φ (.ptr r off) _ from hat)
          obtain ⟨v', h3, h4⟩ := loadVar_ok (P := P) hE hs hp hv
          refine ⟨v', ?_, h4⟩
          simp only [resF, he]
          simp [asAddr, h3]
    obtain ⟨v', h3, h4⟩ := hone
    refine ⟨v' :: vs', ?_, .cons h4 h2⟩
    rw [List.mapM_cons]
    simp only [Sem.run_bind, Sem.run_pure, Result.andThen_ok, h3, h1]
theorem resultsV_ok (hE : EnvOk E P) (hs : St E φ H W) {tm : T V} {a : Act} (ha : AR E φ tm a) {fn : Func} {v : V} (h : resultsV E H tm fn.results.toList = some v) :
    ∃ v', (results fn a.tmps).run P W = .ok v' W ∧ VR φ v v' := by
  unfold resultsV at h
  obtain ⟨vs, hvs, hnew⟩ := Option.bind_eq_some_iff.1 h; clear h; have h := hnew; clear hnew
  obtain ⟨vs', h1, h2⟩ := resultsL_ok (P := P) hE hs ha _ _ hvs
  have hrun : (results fn a.tmps).run P W = .ok (if h : vs'.toArray.size = 1 then vs'.toArray[0] else .tuple vs'.toArray) W := by
    rw [results_eq, Sem.run_bind, Array.mapM_eq_mapM_toList, Sem.run_map, h1]
    rfl
  rw [hrun]
  cases h2 with
  | nil =>
    simp only [Option.some.injEq] at h
    subst h
    exact ⟨_, rfl, .tuple (cs' := #[]) .nil⟩
  | cons hv hr =>
    cases hr with
    | nil =>
      simp only [Option.some.injEq] at h
      subst h
      exact ⟨_, rfl, hv⟩
    | cons hv2 hr2 =>
      simp only [Option.some.injEq] at h
      subst h
      refine ⟨_, rfl, ?_⟩
      have : ∀ (x y : Value) (l : List Value), (if h : (x :: y :: l).toArray.size = 1 then (x :: y :: l).toArray[0] else Value.tuple (x :: y :: l).toArray) = .tuple (x :: y :: l).toArray := fun x y l => by
        rw [dif_neg (by simp)]
      rw [this]
      exact .tuple (.cons hv (.cons hv2 hr2))

theorem step_mark {fr : Frame} {cs : List Frame} {w w' : World} {blk : Nat} {ds : List Deferred} (hm : fr.mode = .returning) (hd : fr.defers = { target := .collected blk, args := #[] } :: ds)
    (ht : (Instr.takeDeferred blk).run P w = .ok [] w') : step P (lone fr cs w) = .next (lone { fr with defers := ds } cs w') :=
  step_lone_go (by simp [stepG, unwind, hm, hd, Sem.runT_eq, ht, GStep.bare_after])

theorem leavesV_ok (hE : EnvOk E P) {rec_ : Rec} (hrec : RecOk E P rec_) {fn : Func} {tm : T V} {cs : List Frame} : ∀ (ds : List DV) (ds' : List Deferred) (φ : Pm) (H : Heap) (W : World) (fr : Frame) (v : V) (H' : Heap),
    St E φ H W → AR E φ tm { tmps := fr.tmps, defers := [] } → DRs φ ds ds' → fr.mode = .returning → fr.defers = ds' → leavesV E rec_ fn.results.toList tm ds H = some (v, H') →
    ∃ φ' v' W' fr', To E φ H W φ' H' W' ∧ VR φ' v v' ∧ Steps P (lone fr cs W) (lone fr' cs W') ∧ fr'.fn = fr.fn ∧ fr'.kind = fr.kind ∧ fr'.mode = .returning ∧ fr'.defers = [] ∧ (results fn fr'.tmps).run P W' = .ok v' W'
  | [], _, φ, H, W, fr, v, H', hs, ha, .nil, hm, hd, h => by
    unfold leavesV at h
    obtain ⟨u, hu, hnew⟩ := Option.bind_eq_some_iff.1 h; clear h; have h := hnew; clear hnew
    simp only [Option.some.injEq, Prod.mk.injEq] at h
    obtain ⟨rfl, rfl⟩ := h
    obtain ⟨v', h1, h2⟩ := resultsV_ok (P := P) hE hs ha hu
    exact ⟨φ, v', W, fr, To.refl hs, h2, Steps.refl P _, rfl, rfl, hm, hd, h1⟩
  | d :: ds, _, φ, H, W, fr, v, H', hs, ha, .cons (d' := d') (l' := l') hdr hds, hm, hd, h => by
    unfold leavesV at h
    cases hdr with
    | call f h1 h2 =>
      rename_i args caps args' caps'
      simp only at h
      obtain ⟨x, hx, hnew⟩ := Option.bind_eq_some_iff.1 h; clear h; have h := hnew; clear hnew
      obtain ⟨bd, hbd, hnew⟩ := Option.bind_eq_some_iff.1 h; clear h; have h := hnew; clear hnew
      obtain ⟨r, hr, hnew⟩ := Option.bind_eq_some_iff.1 h; clear h; have h := hnew; clear hnew
      have hinv : (invoke (.fn (.func f) caps') args').run P W = (callFunc f (args' ++ caps')).run P W := rfl
      have happ : VRs φ (args ++ caps) (args' ++ caps').toList := by rw [Array.toList_append]; exact h1.append h2
      obtain ⟨φ1, v1, W1, fr1, hto1, hv1, hst1, hfn1, hkd1, hm1, hdf1, fn1, hpf1, hres1⟩ := runCall_ok hrec hr ({ fr with defers := l' } :: cs) hs ha.glob happ (fun _ => ⟨_, _, rfl, hm⟩)
      have hent : (callFunc f (args' ++ caps')).run P W = .ok (.enter f (args' ++ caps')) W := run_callFunc hE hx hbd _
      have hstep1 := step_defer (P := P) (fr := fr) (cs := cs) (w := W) (fv := .func f) (cap := caps') (args := args' ++ caps') (f := f) (by rw [hm]; simp) hd rfl (hinv.trans hent)
      have hstep2 := step_going_returned (P := P) (fr := fr1) (c := { fr with defers := l' }) (cs := cs) (w := W1) (v := v1) hkd1 ⟨hm1, hdf1, fn1, hpf1, hres1⟩
      have hset : ({ { fr with defers := l' } with mode := settle ({ fr with defers := l' } : Frame).mode } : Frame) = { fr with defers := l' } := by
        have : settle ({ fr with defers := l' } : Frame).mode = fr.mode := by
          show settle fr.mode = fr.mode
          rw [hm]; rfl
        rw [this]
      rw [hset] at hstep2
      obtain ⟨φ2, v2, W2, fr2, hto2, hv2, hst2, hfn2, hkd2, hm2, hdf2, hres2⟩ := leavesV_ok hE hrec ds l' φ1 r.2 W1 { fr with defers := l' } v H' hto1.st (ha.mono hto1.le) (hds.mono hto1.le) hm rfl h
      exact ⟨φ2, v2, W2, fr2, hto1.trans hto2, hv2, (Steps.head hstep1 (hst1.trans (.one hstep2))).trans hst2, hfn2, hkd2, hm2, hdf2, hres2⟩
    | mark hp =>
      rename_i r p
      simp only at h
      obtain ⟨o, ho, hnew⟩ := Option.bind_eq_some_iff.1 h; clear h; have h := hnew; clear hnew
      cases o <;> simp only at h <;> try (cases h; done)
      case deferred =>
        obtain ⟨hro, hw⟩ := hs.hr.obj _ _ _ ho hp
        obtain ⟨W1, hset, hto1⟩ := To.setObj (P := P) hs ho (o2 := .dead) rfl hp hro hw (fun _ _ _ => by simp) (.deferred none) (fun _ _ => trivial)
        have htake : (Instr.takeDeferred p.blk).run P W = .ok [] W1 := by
          unfold Instr.takeDeferred
          rw [Sem.run_bind, getObj_at hw (fun _ _ _ => by simp), Result.andThen_ok]
          simp only [Sem.run_bind, hset, Result.andThen_ok, Sem.run_pure]
        obtain ⟨φ2, v2, W2, fr2, hto2, hv2, hst2, hfn2, hkd2, hm2, hdf2, hres2⟩ := leavesV_ok hE hrec ds l' φ _ W1 { fr with defers := l' } v H' hto1.st ha hds hm rfl h
        exact ⟨φ2, v2, W2, fr2, hto1.trans hto2, hv2, Steps.head (step_mark hm hd htake) hst2, hfn2, hkd2, hm2, hdf2, hres2⟩

theorem enter_eq {f : FuncId} {fn : Func} {c : Code} (hf : P.funcs[f]? = some fn) (hb : fn.body = some c) (args : Array Value) (kind : CallKind) :
    Frame.enter P f args kind = ({ (default : Frame) with fn := f, kind := kind } : Frame).atR { tmps := args ++ Array.replicate (fn.ntmps - args.size) Go.undef, defers := [] } [.code c] := by
  simp [Frame.enter, Frame.atR, hf, hb]
  rfl
theorem callV_ok (hE : EnvOk E P) {rec_ : Rec} (hrec : RecOk E P rec_) {f : FuncId} {args : List V} {df : Bool} {v : V} {H' : Heap} (h : callV E rec_ f args df H = some (.call v H')) {args' : Array Value} {cs : List Frame}
    (hs : St E φ H W) (hg : GR E φ) (ha : VRs φ args args'.toList) (hdf : df = true → ∃ c cs0, cs = c :: cs0 ∧ c.mode = .returning) :
    ∃ φ' v' W' fr, To E φ H W φ' H' W' ∧ VR φ' v v' ∧ Steps P (lone (Frame.enter P f args' (kindOf df)) cs W) (lone fr cs W') ∧
      fr.fn = f ∧ fr.kind = kindOf df ∧ fr.mode = .returning ∧ fr.defers = [] ∧ ∃ fn, P.funcs[fr.fn]? = some fn ∧ (results fn fr.tmps).run P W' = .ok v' W' := by
  unfold callV at h
  obtain ⟨fn, hfn, hnew⟩ := Option.bind_eq_some_iff.1 h; clear h; have h := hnew; clear hnew
  obtain ⟨c, hc, hnew⟩ := Option.bind_eq_some_iff.1 h; clear h; have h := hnew; clear hnew
  obtain ⟨hpf, _⟩ := hE.fn f fn hfn
  have hlen := ha.length
  simp only [Array.length_toList] at hlen
  cases hb : Nat.ble args.length fn.ntmps with
  | false => rw [hb] at h; cases h
  | true =>
  rw [hb] at h
  simp only at h
  have hle := of_ble_t hb
  obtain ⟨s, hs1, hnew⟩ := Option.bind_eq_some_iff.1 h; clear h; have h := hnew; clear hnew
  let b : Frame := { (default : Frame) with fn := f, kind := kindOf df }
  have hsize : (args' ++ Array.replicate (fn.ntmps - args'.size) Go.undef).size = fn.ntmps := by simp; omega
  have hat : ∀ t, VR φ (((T.ofList args).get t).getD vundef) ((args' ++ Array.replicate (fn.ntmps - args'.size) Go.undef).getD t Go.undef) := fun t => by
    rw [T.get_ofList, Array.getD_eq_getD_getElem?]
    by_cases ht : t < args.length
    · obtain ⟨v', h1, h2⟩ := ha.get (List.getElem?_eq_getElem ht)
      rw [List.getElem?_eq_getElem ht, Array.getElem?_append_left (by omega), ← Array.getElem?_toList, h1]
      exact h2
    · rw [List.getElem?_eq_none (by omega), Array.getElem?_append_right (by omega)]
      have : ((Array.replicate (fn.ntmps - args'.size) Go.undef)[t - args'.size]?).getD Go.undef = Go.undef := by
        rw [Array.getElem?_replicate]
        split <;> rfl
      rw [this]
      exact .undef
  have hf : FR E φ fn.ntmps { tm := T.ofList args, df := [] } { tmps := args' ++ Array.replicate (fn.ntmps - args'.size) Go.undef, defers := [] } := ⟨⟨hg, hat⟩, hsize, .nil⟩
  have hbro : b.roundOf = none := rfl
  have hk : KR φ { fn := f, nt := fn.ntmps, ro := none, rc := df } b cs := ⟨rfl, fun _ => rfl, fun l e => (by cases e), fun e => by
    have e : df = true := e
    exact ⟨by simp [b, e, kindOf], rfl, hdf e⟩⟩
  obtain ⟨φ1, a1, W1, hto1, hf1, he1⟩ := runCode_ok hrec hs1 [] hs hf hk
  rw [enter_eq hpf hc]
  have hend : ∀ (todo : List Item), Steps P (lone (b.atR { tmps := args' ++ Array.replicate (fn.ntmps - args'.size) Go.undef, defers := [] } [.code c]) cs W) (lone { b.atR a1 todo with mode := .returning } cs W1) →
      (leavesV E rec_ fn.results.toList s.2.1.tm s.2.1.df s.2.2).bind (fun r => some (Out.call r.1 r.2)) = some (.call v H') →
      ∃ φ' v' W' fr, To E φ H W φ' H' W' ∧ VR φ' v v' ∧ Steps P (lone (b.atR { tmps := args' ++ Array.replicate (fn.ntmps - args'.size) Go.undef, defers := [] } [.code c]) cs W) (lone fr cs W') ∧
        fr.fn = f ∧ fr.kind = kindOf df ∧ fr.mode = .returning ∧ fr.defers = [] ∧ ∃ fn, P.funcs[fr.fn]? = some fn ∧ (results fn fr.tmps).run P W' = .ok v' W' := fun todo hst hl => by
    obtain ⟨r, hr, hnew⟩ := Option.bind_eq_some_iff.1 hl; clear hl; have hl := hnew; clear hnew
    simp only [Option.some.injEq, Out.call.injEq] at hl
    obtain ⟨rfl, rfl⟩ := hl
    obtain ⟨φ2, v2, W2, fr2, hto2, hv2, hst2, hfn2, hkd2, hm2, hdf2, hres2⟩ := leavesV_ok (P := P) (cs := cs) hE hrec s.2.1.df a1.defers φ1 s.2.2 W1 { b.atR a1 todo with mode := .returning } r.1 r.2 hto1.st ⟨hf1.ar.glob, hf1.ar.at_⟩ hf1.df rfl rfl hr
    have hfn3 : fr2.fn = f := hfn2
    exact ⟨φ2, v2, W2, fr2, hto1.trans hto2, hv2, hst.trans hst2, hfn3, hkd2, hm2, hdf2, fn, by rw [hfn3]; exact hpf, hres2⟩
  obtain ⟨x, fr1, H1⟩ := s
  cases x <;> simp only at h <;> try (cases h; done)
  case normal => exact hend [] (Steps.trans he1 (.one (stepR_end hbro))) h
  case ret =>
    obtain ⟨k1, hst⟩ := he1
    exact hend _ (hst.trans (.one (stepR_ret hbro))) h

theorem eval_ok (hE : EnvOk E P) : ∀ n, RecOk E P (eval E n)
  | 0 => ⟨fun _ _ _ _ _ _ _ h => (by cases h), fun _ _ _ _ _ _ _ h => (by cases h), fun _ _ _ _ _ _ _ _ h => (by cases h), fun _ _ _ _ _ _ h => (by cases h)⟩
  | n + 1 => by
    have ih := eval_ok hE n
    refine ⟨fun q c fr H x fr' H' h => codeV_ok hE ih (h : codeV E (eval E n) q c fr H = _), ?_,
      fun q body c fr H x fr' H' h φ W b a k cs hs hf hk => withinV_ok ih (h : withinV (eval E n) q body c fr H = _) k hs hf hk, fun f args df H v H' h φ W args' cs hs hg ha hdf => callV_ok hE ih (h : callV E (eval E n) f args df H = _) hs hg ha hdf⟩
    intro q c fr H x fr' H' h φ W b a k cs hs hf hk
    have h : ((runCode (eval E n) q c fr H).bind fun s => thenV s fun fr H => eval E n (.again q c fr) H) = some (.code x fr' H') := h
    obtain ⟨s, hs1, hnew⟩ := Option.bind_eq_some_iff.1 h; clear h; have h := hnew; clear hnew
    obtain ⟨φ', a', W', h1, h2, h3⟩ := then_ok ih hs1 (it := .inLoop c) rfl h (fun fr1 H1 hn => ih.again q c fr1 H1 _ _ _ hn) k hs hf hk
    exact ⟨φ', a', W', h1, h2, .of_steps (.one stepR_inLoop) h3⟩

/-- THE EVALUATOR IS SOUND: what it ends in, the machine's call ends in. -/
theorem calls_of_eval (hE : EnvOk E P) {n : Nat} {f : FuncId} {args : List V} {v : V} {H' : Heap} (h : eval E n (.call f args false) H = some (.call v H')) {args' : Array Value}
    (hs : St E φ H W) (hg : GR E φ) (ha : VRs φ args args'.toList) :
    Calls P f args' W fun e W' => ∃ φ' v', e = .returned v' ∧ VR φ' v v' ∧ To E φ H W φ' H' W' := by
  intro cs
  obtain ⟨φ', v', W', fr, hto, hv, hst, hfn, hkd, hm, hdf, fn, hpf, hres⟩ := (eval_ok hE n).call f args false H v H' h φ W args' cs hs hg ha (fun e => by cases e)
  exact ⟨.returned v', W', fr, ⟨φ', v', rfl, hv, hto⟩, hst, hfn, hm, hdf, hkd, fn, hpf, hres⟩

end
end
end Go.Proofs.YtcjidlgmbjebjaaDoor.Ev

/- The evaluator: whole numbers, equality, operations, conversions, strings ranged over, maps. -/
import Derived.Test.YtcjidlgmbjebjaaDoorEvA
import Derived.IntWalk
import Derived.Laws.StructEq
import Derived.Laws.Cover3
import Derived.LaidEql
import Derived.Laws.BytesString
import Derived.Laws.Concat
import Derived.Laws.IdiomStrings
import Derived.Laws.BytesArg
import Derived.Lib.UnsafeStr
set_option linter.unusedVariables false
set_option linter.unusedSimpArgs false
/- Whole numbers: fast forms that the kernel reckons well, and that they are the model's. -/
namespace Go.Proofs.YtcjidlgmbjebjaaDoor.Ev
open Go
noncomputable section

def ltF (x y : Int) : Bool :=
  match x with
  | .ofNat a =>
    match y with
    | .ofNat b => Nat.blt a b
    | .negSucc _ => false
  | .negSucc a =>
    match y with
    | .ofNat _ => true
    | .negSucc b => Nat.blt b a
def eqF (x y : Int) : Bool :=
  match x with
  | .ofNat a =>
    match y with
    | .ofNat b => Nat.beq a b
    | .negSucc _ => false
  | .negSucc a =>
    match y with
    | .ofNat _ => false
    | .negSucc b => Nat.beq a b
theorem blt_dec (a b : Nat) : Nat.blt a b = decide (a < b) := by
  by_cases h : a < b
  · rw [decide_eq_true h]; exact Nat.ble_eq_true_of_le h
  · rw [decide_eq_false h]
    cases hb : Nat.blt a b
    · rfl
    · exact absurd (of_blt_t hb) h
theorem beq_dec (a b : Nat) : Nat.beq a b = decide (a = b) := by
  by_cases h : a = b
  · rw [decide_eq_true h]; exact beq_t h
  · rw [decide_eq_false h]; exact beq_f h
theorem ltF_eq (x y : Int) : ltF x y = decide (x < y) := by
  cases x <;> cases y <;> simp only [ltF, blt_dec]
  · rename_i a b; exact decide_eq_decide.2 (by show a < b ↔ (a : Int) < (b : Int); omega)
  · rename_i a b; symm; exact decide_eq_false (by show ¬ ((a : Int) < Int.negSucc b); omega)
  · rename_i a b; symm; exact decide_eq_true (by show Int.negSucc a < (b : Int); omega)
  · rename_i a b; exact decide_eq_decide.2 (by omega)
theorem eqF_eq (x y : Int) : eqF x y = (x == y) := by
  have : (x == y) = decide (x = y) := by
    by_cases h : x = y <;> simp [h]
  rw [this]
  cases x <;> cases y <;> simp only [eqF, beq_dec]
  · rename_i a b; exact decide_eq_decide.2 (by show a = b ↔ (a : Int) = (b : Int); omega)
  · rename_i a b; symm; exact decide_eq_false (by show ¬ ((a : Int) = Int.negSucc b); omega)
  · rename_i a b; symm; exact decide_eq_false (by show ¬ (Int.negSucc a = (b : Int)); omega)
  · rename_i a b; exact decide_eq_decide.2 (by omega)

def cmpF (op : BinOp) (x y : Int) : Option Bool :=
  match op with
  | .eql => some (eqF x y)
  | .neq => some (not (eqF x y))
  | .lss => some (ltF x y)
  | .leq => some (not (ltF y x))
  | .gtr => some (ltF y x)
  | .geq => some (not (ltF x y))
  | _ => none
theorem cmpF_ok {P : Program} {W : World} {op : BinOp} {x y : Int} {b : Bool} (h : cmpF op x y = some b) : (Op.intCmp op x y).run P W = .ok (.bool b) W := by
  unfold cmpF at h
  cases op <;> simp only [Option.some.injEq] at h <;> try (cases h; done)
  all_goals
    subst h
    simp only [Op.intCmp, ltF_eq, eqF_eq, Sem.run_pure]
  · rfl
  · congr 2
    by_cases h : y < x
    · rw [decide_eq_true h, decide_eq_false (by omega)]; rfl
    · rw [decide_eq_false h, decide_eq_true (by omega)]; rfl
  · congr 2
    by_cases h : x < y
    · rw [decide_eq_true h, decide_eq_false (by omega)]; rfl
    · rw [decide_eq_false h, decide_eq_true (by omega)]; rfl

/-- Two to the bits, written out. -/
def fullF : IntKind → Nat
  | .i8 | .u8 => 256
  | .i16 | .u16 => 65536
  | .i32 | .u32 => 4294967296
  | .i64 | .u64 => 18446744073709551616
def halfF : IntKind → Nat
  | .i8 => 128
  | .i16 => 32768
  | .i32 => 2147483648
  | .i64 => 9223372036854775808
  | .u8 => 256
  | .u16 => 65536
  | .u32 => 4294967296
  | .u64 => 18446744073709551616
theorem fullF_eq (k : IntKind) : fullF k = 2 ^ k.bits := by cases k <;> decide
def wrapF (k : IntKind) (n : Int) : Int :=
  match n with
  | .ofNat m =>
    match Nat.blt m (halfF k) with
    | true => .ofNat m
    | false =>
      match k.signed with
      | false => .ofNat (Nat.mod m (fullF k))
      | true => k.wrap (.ofNat m)
  | .negSucc m =>
    match k.signed with
    | true =>
      match Nat.blt m (halfF k) with
      | true => .negSucc m
      | false => k.wrap (.negSucc m)
    | false => k.wrap (.negSucc m)
theorem wrapF_eq (k : IntKind) (n : Int) : wrapF k n = k.wrap n := by
  cases n with
  | ofNat m =>
    simp only [wrapF]
    cases hb : Nat.blt m (halfF k) with
    | true =>
      have h := of_blt_t hb
      simp only
      symm
      cases k <;> simp only [halfF] at h
      · exact IntWalk.i8_in (m : Int) (by omega)
      · exact IntWalk.i16_in (m : Int) (by omega)
      · exact IntWalk.i32_in (m : Int) (by omega)
      · exact IntWalk.i64_in (m : Int) (by omega)
      · exact IntWalk.u8_in (m : Int) (by omega)
      · exact IntWalk.u16_in (m : Int) (by omega)
      · exact IntWalk.u32_in (m : Int) (by omega)
      · exact IntWalk.u64_in (m : Int) (by omega)
    | false =>
      simp only
      cases hs : k.signed with
      | true => rfl
      | false =>
        simp only [IntKind.wrap, hs, Bool.false_and]
        rw [fullF_eq]
        show ((m % 2 ^ k.bits : Nat) : Int) = _
        simp
  | negSucc m =>
    simp only [wrapF]
    cases hs : k.signed with
    | false => rfl
    | true =>
      simp only
      cases hb : Nat.blt m (halfF k) with
      | false => rfl
      | true =>
        have h := of_blt_t hb
        simp only
        symm
        cases k <;> simp only [halfF] at h
        case i8 => exact IntWalk.i8_in _ (by omega)
        case i16 => exact IntWalk.i16_in _ (by omega)
        case i32 => exact IntWalk.i32_in _ (by omega)
        case i64 => exact IntWalk.i64_in _ (by omega)
        all_goals simp [IntKind.signed] at hs

/-- As a number of the kind without sign. -/
def toU (k : IntKind) (n : Int) : Nat :=
  match n with
  | .ofNat m => Nat.mod m (fullF k)
  | .negSucc m => Nat.sub (Nat.sub (fullF k) 1) (Nat.mod m (fullF k))
theorem toU_eq (k : IntKind) (n : Int) : toU k n = (BitVec.ofInt k.bits n).toNat := by
  rw [BitVec.toNat_ofInt]
  cases n with
  | ofNat m =>
    show m % fullF k = _
    rw [fullF_eq]
    show _ = ((m : Int) % (2 ^ k.bits : Nat)).toNat
    omega
  | negSucc m =>
    show fullF k - 1 - m % fullF k = _
    rw [fullF_eq]
    have hp : 0 < 2 ^ k.bits := Nat.pow_pos (by omega)
    generalize 2 ^ k.bits = q at hp ⊢
    have h1 := Nat.mod_lt m hp
    have h2 : (Int.negSucc m) % (q : Int) = ((q - 1 - m % q : Nat) : Int) := by
      rw [Int.negSucc_emod _ (by omega)]
      omega
    rw [h2]
    simp

def bitsF (op : BinOp) (k : IntKind) (x y : Int) : Option Int :=
  match op with
  | .and => some (wrapF k (.ofNat (Nat.land (toU k x) (toU k y))))
  | .or => some (wrapF k (.ofNat (Nat.lor (toU k x) (toU k y))))
  | .xor => some (wrapF k (.ofNat (Nat.xor (toU k x) (toU k y))))
  | .andNot => some (wrapF k (.ofNat (Nat.land (toU k x) (Nat.sub (Nat.sub (fullF k) 1) (toU k y)))))
  | _ => none
theorem bitsF_ok {P : Program} {W : World} {op : BinOp} {k : IntKind} {x y r : Int} (h : bitsF op k x y = some r) : (Op.intBits op k x y).run P W = .ok (.int k r) W := by
  unfold bitsF at h
  cases op <;> simp only [Option.some.injEq] at h <;> try (cases h; done)
  all_goals
    subst h
    simp only [Op.intBits, Sem.run_pure, wrapF_eq, toU_eq]
    congr 3
  · rw [BitVec.toNat_and, fullF_eq, BitVec.toNat_not]; rfl

def shlF (k : IntKind) (x : Int) (n : Nat) : Int := wrapF k (x * .ofNat (Nat.shiftLeft 1 n))
def shrF (x : Int) (n : Nat) : Int :=
  match x with
  | .ofNat m => .ofNat (Nat.shiftRight m n)
  | .negSucc m => .negSucc (Nat.shiftRight m n)
theorem shrF_eq (x : Int) (n : Nat) : shrF x n = x.fdiv (2 ^ n) := by
  have hp : (2 ^ n : Int) = ((2 ^ n : Nat) : Int) := by simp
  rw [hp]
  cases x with
  | ofNat m =>
    show Int.ofNat (m >>> n) = _
    rw [Nat.shiftRight_eq_div_pow]
    generalize 2 ^ n = q
    cases m
    · rw [Nat.zero_div]; exact (Int.zero_fdiv _).symm
    · rfl
  | negSucc m =>
    show Int.negSucc (m >>> n) = _
    rw [Nat.shiftRight_eq_div_pow]
    have h0 : 0 < 2 ^ n := Nat.pow_pos (by omega)
    obtain ⟨q, hq⟩ : ∃ q, 2 ^ n = q + 1 := ⟨2 ^ n - 1, by omega⟩
    rw [hq]
    rfl
theorem shlF_eq (k : IntKind) (x : Int) (n : Nat) : shlF k x n = k.wrap (x * 2 ^ n) := by
  rw [shlF, wrapF_eq]
  congr 2
  show ((1 <<< n : Nat) : Int) = _
  rw [Nat.one_shiftLeft]
  simp
def bitsN : IntKind → Nat
  | .i8 | .u8 => 8
  | .i16 | .u16 => 16
  | .i32 | .u32 => 32
  | .i64 | .u64 => 64
def minN (a b : Nat) : Nat :=
  match Nat.ble a b with
  | true => a
  | false => b
theorem minN_eq (a b : Nat) : minN a b = min a b := by
  unfold minN
  cases h : Nat.ble a b
  · have := of_ble_f h; simp only; omega
  · have := of_ble_t h; simp only; omega
def shiftF (op : BinOp) (k : IntKind) (x y : Int) : Option Int :=
  match y with
  | .ofNat n =>
    match op with
    | .shl => some (shlF k x (minN n (bitsN k)))
    | .shr => some (shrF x (minN n (bitsN k)))
    | _ => none
  | .negSucc _ => none
theorem shiftF_ok {P : Program} {W : World} {op : BinOp} {k yk : IntKind} {x y r : Int} (h : shiftF op k x y = some r) : (Op.shift op k x yk y).run P W = .ok (.int k r) W := by
  unfold shiftF at h
  cases y with
  | negSucc n => cases h
  | ofNat n =>
    have hb : bitsN k = k.bits := by cases k <;> rfl
    have hn : ¬ ((Int.ofNat n : Int) < 0) := by show ¬ ((n : Int) < 0); omega
    unfold Op.shift
    rw [if_neg hn]
    cases op <;> simp only [Option.some.injEq] at h <;> try (cases h; done)
    · subst h
      simp only [shlF_eq, minN_eq, hb, Sem.run_pure]; rfl
    · subst h
      simp only [shrF_eq, minN_eq, hb, Sem.run_pure]; rfl

def arithF (op : BinOp) (k : IntKind) (x y : Int) : Option Int :=
  match op with
  | .add => some (wrapF k (x + y))
  | .sub => some (wrapF k (x - y))
  | .mul => some (wrapF k (x * y))
  | .quo =>
    match eqF y 0 with
    | true => none
    | false => some (wrapF k (x.tdiv y))
  | .rem =>
    match eqF y 0 with
    | true => none
    | false => some (x.tmod y)
  | .and => bitsF .and k x y
  | .or => bitsF .or k x y
  | .xor => bitsF .xor k x y
  | .andNot => bitsF .andNot k x y
  | _ => none
theorem eqF_f {x y : Int} (h : eqF x y = false) : x ≠ y := by
  rw [eqF_eq] at h
  simpa using h
def intOp2 (op : BinOp) (k k' : IntKind) (x y : Int) : Option V :=
  match decide (k = k') with
  | true =>
    match cmpF op x y with
    | some b => some (.bool b)
    | none => (arithF op k x y).bind fun r => some (.int k r)
  | false => none
/-- Numbers with numbers. -/
def intOp (op : BinOp) (k k' : IntKind) (x y : Int) : Option V :=
  match op with
  | .shl => (shiftF .shl k x y).bind fun r => some (.int k r)
  | .shr => (shiftF .shr k x y).bind fun r => some (.int k r)
  | op => intOp2 op k k' x y

end
end Go.Proofs.YtcjidlgmbjebjaaDoor.Ev

/- Equality; the binary and unary operations. -/
namespace Go.Proofs.YtcjidlgmbjebjaaDoor.Ev
open Go
noncomputable section

mutual
def eqV (E : Env) : Nat → Nat → V → V → Option Bool
  | 0, _, _, _ => none
  | d + 1, t, x, y =>
    (E.ti t).bind fun ti =>
      match ti.desc with
      | .bool =>
        match x with
        | .bool a =>
          match y with
          | .bool b => some (a == b)
          | _ => none
        | _ => none
      | .int _ =>
        match x with
        | .int k a =>
          match y with
          | .int k' b =>
            match decide (k = k') with
            | true => some (eqF a b)
            | false => none
          | _ => none
        | _ => none
      | .string =>
        match x with
        | .str l n =>
          match y with
          | .str l' n' => some (Nat.beq l l' && Nat.beq n n')
          | _ => none
        | _ => none
      | .pointer e =>
        match x with
        | .nilPtr =>
          match y with
          | .nilPtr => some true
          | .ptr _ _ => some false
          | _ => none
        | .ptr r o =>
          match y with
          | .nilPtr => some false
          | .ptr r' o' =>
            (E.size e).bind fun s =>
              match Nat.beq s 0 with
              | true => none
              | false =>
                match Nat.beq r r' with
                | true => some (Nat.beq o o')
                | false => none
          | _ => none
        | _ => none
      | .interface _ =>
        match x with
        | .nilIface =>
          match y with
          | .nilIface => some true
          | .iface _ _ => some false
          | _ => none
        | .iface tx vx =>
          match y with
          | .nilIface => some false
          | .iface ty vy =>
            match Nat.beq tx ty with
            | false => some false
            | true => (E.ti tx).bind fun tj =>
              match tj.comparable with
              | true => eqV E d tx vx vy
              | false => none
          | _ => none
        | _ => none
      | .struct fs =>
        match ti.stood with
        | true => none
        | false =>
          match x with
          | .agg xs =>
            match y with
            | .agg ys => eqFieldsV E d fs.toList xs ys
            | _ => none
          | _ => none
      | .array n e =>
        match x with
        | .agg xs =>
          match y with
          | .agg ys => (E.size e).bind fun s => eqElems E d e s n xs ys
          | _ => none
        | _ => none
      | .slice _ =>
        match x with
        | .nilSlice =>
          match y with
          | .nilSlice => some true
          | .slice _ _ _ _ => some false
          | .emptyS => some false
          | _ => none
        | .slice _ _ _ _ =>
          match y with
          | .nilSlice => some false
          | _ => none
        | .emptyS =>
          match y with
          | .nilSlice => some false
          | _ => none
        | _ => none
      | .map _ _ =>
        match x with
        | .nilMap =>
          match y with
          | .nilMap => some true
          | .map _ => some false
          | _ => none
        | .map _ =>
          match y with
          | .nilMap => some false
          | _ => none
        | _ => none
      | .func _ _ _ =>
        match x with
        | .nilFunc =>
          match y with
          | .nilFunc => some true
          | .func _ _ _ => some false
          | _ => none
        | .func _ _ _ =>
          match y with
          | .nilFunc => some false
          | _ => none
        | _ => none
      | _ => none
def eqFieldsV (E : Env) : Nat → List Field → List V → List V → Option Bool
  | 0, _, _, _ => none
  | _ + 1, [], _, _ => some true
  | d + 1, f :: fs, xs, ys =>
    match f.name == "_" with
    | true => none
    | false =>
      (partV E f.type xs f.offset).bind fun a => (partV E f.type ys f.offset).bind fun b => (eqV E d f.type a b).bind fun r =>
        match r with
        | true => eqFieldsV E d fs xs ys
        | false => some false
def eqElems (E : Env) : Nat → Nat → Nat → Nat → List V → List V → Option Bool
  | 0, _, _, _, _, _ => none
  | _ + 1, _, _, 0, _, _ => some true
  | d + 1, e, s, n + 1, xs, ys =>
    (partV E e xs 0).bind fun a => (partV E e ys 0).bind fun b => (eqV E d e a b).bind fun r =>
      match r with
      | true => eqElems E d e s n (dropV xs s) (dropV ys s)
      | false => some false
end

section
variable {E : Env} {P : Program} {φ : Pm} {H : Heap} {W : World}

/-- More depth, the same answer: the model's equality hangs on its depth alone by falling. -/
theorem str_eq {a b : ByteArray} : (Nat.beq a.data.toList.length b.data.toList.length && Nat.beq (packBytes a.data.toList) (packBytes b.data.toList)) = (a.toList == b.toList) := by
  rw [beq_dec, beq_dec, ByteArray.toList_eq, ByteArray.toList_eq]
  by_cases h : a.data.toList = b.data.toList
  · rw [h]; simp
  · have h1 : (a.data.toList == b.data.toList) = false := by simpa using h
    rw [h1]
    by_cases hl : a.data.toList.length = b.data.toList.length
    · have : packBytes a.data.toList ≠ packBytes b.data.toList := fun e => h (packBytes_inj hl e)
      simp [this]
    · simp only [Bool.and_eq_false_iff, decide_eq_false_iff_not]
      exact .inl hl

theorem partV_drop (t m : Nat) (xs : List V) : partV E t (dropV xs m) 0 = partV E t xs m := by
  unfold partV
  simp only [takeV_eq, dropV_eq, listGet_eq, List.drop_zero, List.getElem?_drop, Nat.add_zero]

/-- The elements of two arrays, one behind the other. -/
def elemsS (d : Nat) (e : TypeId) (n : Nat) (xs ys : Array Value) : Nat → Nat → Sem Bool
  | _, 0 => pure true
  | k, c + 1 => do
    let a ← part e xs (k * n)
    let b ← part e ys (k * n)
    let r ← Op.equalIn d e a b
    if (!r) = true then pure false else elemsS d e n xs ys (k + 1) c
theorem run_equalIn_array (d : Nat) {t e : TypeId} {len : Nat} {i : TypeInfo} (xs ys : Array Value) (ht : P.underlying t = some (.array len e)) (hi : P.info? e = some i) :
    (Op.equalIn (d + 1) t (.agg xs) (.agg ys)).run P W = (elemsS d e i.size xs ys 0 len).run P W := by
  simp only [Op.equalIn, Sem.run_bind, run_underlying ht, Result.andThen_ok, run_sizeOf hi]
  rw [Std.Legacy.Range.forIn_eq_forIn_range']
  have hsz : Std.Legacy.Range.size [:len] = len := by simp [Std.Legacy.Range.size]
  rw [hsz]
  show _ = (elemsS d e i.size xs ys 0 len).run P W
  clear ht hsz
  generalize 0 = k
  induction len generalizing W k with
  | zero => simp [elemsS]
  | succ c ih =>
    simp only [List.range'_succ, List.forIn_cons, elemsS, Sem.run_bind]
    generalize (part e xs (k * i.size)).run P W = r1
    cases r1 with
    | halt x w1 => simp [Result.andThen]
    | ok a w1 =>
      simp only [Result.andThen_ok]
      generalize (part e ys (k * i.size)).run P w1 = r2
      cases r2 with
      | halt x w2 => simp [Result.andThen]
      | ok b w2 =>
        simp only [Result.andThen_ok]
        generalize (Op.equalIn d e a b).run P w2 = r3
        cases r3 with
        | halt x w3 => simp [Result.andThen]
        | ok r w3 =>
          cases r
          · simp only [Result.andThen_ok, Bool.not_false, if_true, Sem.run_pure]
          · simp only [Result.andThen_ok, Bool.not_true, Bool.false_eq_true, if_false, Sem.run_pure]
            have := ih (W := w3) (k + 1)
            simp only [Sem.run_bind] at this
            exact this

set_option maxHeartbeats 2000000 in
theorem eq_ok (hE : EnvOk E P) : ∀ (d : Nat),
    (∀ (t : Nat) (x y : V) (x' y' : Value) (r : Bool) (D : Nat), d ≤ D → VR φ x x' → VR φ y y' → eqV E d t x y = some r → (Op.equalIn D t x' y').run P W = .ok r W) ∧
    (∀ (fs : List Field) (xs ys : List V) (xs' ys' : Array Value) (r : Bool) (D : Nat), d ≤ D + 1 → VRs φ xs xs'.toList → VRs φ ys ys'.toList → (∀ v ∈ xs, v.one = true) → (∀ v ∈ ys, v.one = true) → eqFieldsV E d fs xs ys = some r → (Op.eqFields D xs' ys' fs).run P W = .ok r W) ∧
    (∀ (e s c k : Nat) (xs ys : List V) (xs' ys' : Array Value) (r : Bool) (D : Nat), d ≤ D + 1 → VRs φ xs xs'.toList → VRs φ ys ys'.toList → (∀ v ∈ xs, v.one = true) → (∀ v ∈ ys, v.one = true) → eqElems E d e s c (dropV xs (k * s)) (dropV ys (k * s)) = some r → (elemsS D e s xs' ys' k c).run P W = .ok r W) := by
  intro d
  induction d with
  | zero => exact ⟨fun t x y x' y' r D _ _ _ h => (by cases h), fun fs xs ys xs' ys' r D _ _ _ _ _ h => (by cases h), fun e s c k xs ys xs' ys' r D _ _ _ _ _ h => (by cases h)⟩
  | succ d ih =>
    obtain ⟨ihA, ihB, ihC⟩ := ih
    refine ⟨?_, ?_, ?_⟩
    · intro t x y x' y' r D hD hx hy h
      obtain ⟨D, rfl⟩ : ∃ D', D = D' + 1 := ⟨D - 1, by omega⟩
      simp only [eqV] at h
      obtain ⟨ti, hti, h⟩ := Option.bind_eq_some_iff.1 h
      obtain ⟨i, hi⟩ := hE.ti t ti hti
      have hu := hi.desc
      cases hd : ti.desc <;> rw [hd] at h hu <;> simp only at h <;> try (cases h; done)
      case bool =>
        cases x <;> simp only at h <;> try (cases h; done)
        cases y <;> simp only at h <;> try (cases h; done)
        simp only [Option.some.injEq] at h
        subst h
        rw [hx.bool_inv, hy.bool_inv]
        exact run_equalIn_bool W D t _ _ hu
      case int k =>
        cases x <;> simp only at h <;> try (cases h; done)
        cases y <;> simp only at h <;> try (cases h; done)
        rw [hx.int_inv, hy.int_inv]
        split at h
        · rename_i hk
          simp only [Option.some.injEq] at h
          subst h
          rw [eqF_eq]
          have := of_decide_eq_true hk
          subst this
          exact run_equalIn_int W D t _ _ _ _ hu
        · cases h
      case string =>
        cases x <;> simp only at h <;> try (cases h; done)
        cases y <;> simp only at h <;> try (cases h; done)
        obtain ⟨a, rfl, rfl, rfl⟩ := hx.str_inv
        obtain ⟨b, rfl, rfl, rfl⟩ := hy.str_inv
        simp only [Option.some.injEq] at h
        subst h
        rw [str_eq]
        exact run_equalIn_string W D t _ _ hu
      case pointer e =>
        cases x <;> simp only at h <;> try (cases h; done)
        case ptr r1 o1 _ =>
          obtain ⟨p, hp, rfl⟩ := hx.ptr_inv
          cases y <;> simp only at h <;> try (cases h; done)
          case ptr r2 o2 _ =>
            obtain ⟨q, hq, rfl⟩ := hy.ptr_inv
            obtain ⟨s, hs, h⟩ := Option.bind_eq_some_iff.1 h
            obtain ⟨j, hj, hjs⟩ := hE.size hs
            cases hb : Nat.beq s 0 with
            | true => rw [hb] at h; cases h
            | false =>
              rw [hb] at h
              simp only at h
              cases hb2 : Nat.beq r1 r2 with
              | false => rw [hb2] at h; cases h
              | true =>
                rw [hb2] at h
                simp only [Option.some.injEq] at h
                subst h
                have hr := of_beq_t hb2
                subst hr
                rw [hp] at hq
                simp only [Option.some.injEq] at hq
                subst hq
                have hne : ¬ j.size = 0 := by rw [hjs]; exact of_beq_f hb
                have hadr : (adr p o1 == adr p o2) = Nat.beq o1 o2 := by
                  rw [beq_dec]
                  by_cases ho : o1 = o2
                  · subst ho; simp
                  · have : adr p o1 ≠ adr p o2 := fun e => ho (by simp [adr] at e; exact e)
                    simp [ho, this]
                have hblk : (adr p o1).block = (adr p o2).block := rfl
                simp [Op.equalIn, run_underlying hu, run_sizeOf hj, hne, sameAddr, hblk, hadr]
          case nilPtr =>
            have := hy.nilPtr_inv
            subst this
            simp only [Option.some.injEq] at h
            subst h
            simp [Op.equalIn, run_underlying hu]
        case nilPtr =>
          have := hx.nilPtr_inv
          subst this
          cases y <;> simp only at h <;> try (cases h; done)
          case ptr r2 o2 _ =>
            obtain ⟨q, hq, rfl⟩ := hy.ptr_inv
            simp only [Option.some.injEq] at h
            subst h
            simp [Op.equalIn, run_underlying hu]
          case nilPtr =>
            have := hy.nilPtr_inv
            subst this
            simp only [Option.some.injEq] at h
            subst h
            simp [Op.equalIn, run_underlying hu]
      case interface ms =>
        cases x <;> simp only at h <;> try (cases h; done)
        case iface tx vx _ =>
          obtain ⟨vx', hvx, rfl⟩ := hx.iface_inv
          cases y <;> simp only at h <;> try (cases h; done)
          case iface ty vy _ =>
            obtain ⟨vy', hvy, rfl⟩ := hy.iface_inv
            cases hb : Nat.beq tx ty with
            | false =>
              rw [hb] at h
              simp only [Option.some.injEq] at h
              subst h
              have hne : tx ≠ ty := of_beq_f hb
              simp [Op.equalIn, run_underlying hu, hne]
            | true =>
              rw [hb] at h
              have he : tx = ty := of_beq_t hb
              simp only at h
              obtain ⟨tj, htj, h9⟩ := Option.bind_eq_some_iff.1 h
              obtain ⟨j, hj⟩ := hE.ti tx tj htj
              cases hc : tj.comparable with
              | false => rw [hc] at h9; cases h9
              | true =>
                rw [hc] at h9
                simp only at h9
                have hq := ihA tx vx vy vx' vy' r D (by omega) hvx hvy h9
                rw [← he]
                simp [Op.equalIn, run_underlying hu, typeInfo, hj.info, hj.comparable, hc, hq]
          case nilIface =>
            have := hy.nilIface_inv
            subst this
            simp only [Option.some.injEq] at h
            subst h
            simp [Op.equalIn, run_underlying hu]
        case nilIface =>
          have := hx.nilIface_inv
          subst this
          cases y <;> simp only at h <;> try (cases h; done)
          case iface ty vy _ =>
            obtain ⟨vy', hvy, rfl⟩ := hy.iface_inv
            simp only [Option.some.injEq] at h
            subst h
            simp [Op.equalIn, run_underlying hu]
          case nilIface =>
            have := hy.nilIface_inv
            subst this
            simp only [Option.some.injEq] at h
            subst h
            simp [Op.equalIn, run_underlying hu]
      case struct fs =>
        cases hst : ti.stood with
        | true => rw [hst] at h; cases h
        | false =>
          rw [hst] at h
          simp only at h
          cases x <;> simp only at h <;> try (cases h; done)
          cases y <;> simp only at h <;> try (cases h; done)
          obtain ⟨xs', hxs, h1, rfl⟩ := hx.agg_inv
          obtain ⟨ys', hys, h2, rfl⟩ := hy.agg_inv
          have hfs : P.fieldsOf t = fs := by unfold Program.fieldsOf; rw [hu]
          rw [run_equalIn_struct W D t xs' ys' (by rw [hfs]; exact hu) (by rw [← hi.stood]; exact hst), hfs]
          exact ihB _ _ _ _ _ r D (by omega) hxs hys h1 h2 h
      case array n e =>
        cases x <;> simp only at h <;> try (cases h; done)
        cases y <;> simp only at h <;> try (cases h; done)
        obtain ⟨xs', hxs, h1, rfl⟩ := hx.agg_inv
        obtain ⟨ys', hys, h2, rfl⟩ := hy.agg_inv
        obtain ⟨s, hs, h⟩ := Option.bind_eq_some_iff.1 h
        obtain ⟨j, hj, hjs⟩ := hE.size hs
        rw [run_equalIn_array D xs' ys' hu hj, hjs]
        refine ihC e s n 0 _ _ xs' ys' r D (by omega) hxs hys h1 h2 ?_
        rw [Nat.zero_mul, dropV_eq, dropV_eq, List.drop_zero, List.drop_zero]
        exact h
      case slice e =>
        cases x <;> simp only at h <;> try (cases h; done)
        case nilSlice =>
          have := hx.nilSlice_inv
          subst this
          cases y <;> simp only at h <;> try (cases h; done)
          case nilSlice =>
            have := hy.nilSlice_inv
            subst this
            simp only [Option.some.injEq] at h
            subst h
            simp [Op.equalIn, run_underlying hu]
          case slice a b c d' _ =>
            obtain ⟨p, c', _, _, rfl⟩ := hy.slice_inv
            simp only [Option.some.injEq] at h
            subst h
            simp [Op.equalIn, run_underlying hu]
          case emptyS =>
            obtain ⟨p, c', rfl⟩ := hy.emptyS_inv
            simp only [Option.some.injEq] at h
            subst h
            simp [Op.equalIn, run_underlying hu]
        case slice a b c d' _ =>
          obtain ⟨p, c', _, _, rfl⟩ := hx.slice_inv
          cases y <;> simp only at h <;> try (cases h; done)
          have := hy.nilSlice_inv
          subst this
          simp only [Option.some.injEq] at h
          subst h
          simp [Op.equalIn, run_underlying hu]
        case emptyS =>
          obtain ⟨p, c', rfl⟩ := hx.emptyS_inv
          cases y <;> simp only at h <;> try (cases h; done)
          have := hy.nilSlice_inv
          subst this
          simp only [Option.some.injEq] at h
          subst h
          simp [Op.equalIn, run_underlying hu]
      case map k e =>
        cases x <;> simp only at h <;> try (cases h; done)
        case map a _ =>
          obtain ⟨p, _, rfl⟩ := hx.map_inv
          cases y <;> simp only at h <;> try (cases h; done)
          have := hy.nilMap_inv
          subst this
          simp only [Option.some.injEq] at h
          subst h
          simp [Op.equalIn, run_underlying hu]
        case nilMap =>
          have := hx.nilMap_inv
          subst this
          cases y <;> simp only at h <;> try (cases h; done)
          case map a _ =>
            obtain ⟨p, _, rfl⟩ := hy.map_inv
            simp only [Option.some.injEq] at h
            subst h
            simp [Op.equalIn, run_underlying hu]
          case nilMap =>
            have := hy.nilMap_inv
            subst this
            simp only [Option.some.injEq] at h
            subst h
            simp [Op.equalIn, run_underlying hu]
      case func a b c =>
        cases x <;> simp only at h <;> try (cases h; done)
        case func f1 f2 f3 _ =>
          obtain ⟨_, _, _, _, _, _, rfl⟩ := hx.func_inv
          cases y <;> simp only at h <;> try (cases h; done)
          have := hy.nilFunc_inv
          subst this
          simp only [Option.some.injEq] at h
          subst h
          simp [Op.equalIn, run_underlying hu]
        case nilFunc =>
          have := hx.nilFunc_inv
          subst this
          cases y <;> simp only at h <;> try (cases h; done)
          case func f1 f2 f3 _ =>
            obtain ⟨_, _, _, _, _, _, rfl⟩ := hy.func_inv
            simp only [Option.some.injEq] at h
            subst h
            simp [Op.equalIn, run_underlying hu]
          case nilFunc =>
            have := hy.nilFunc_inv
            subst this
            simp only [Option.some.injEq] at h
            subst h
            simp [Op.equalIn, run_underlying hu]
    · intro fs xs ys xs' ys' r D hD hx hy h1 h2 h
      cases fs with
      | nil => simp only [eqFieldsV, Option.some.injEq] at h; subst h; rfl
      | cons f fs =>
        simp only [eqFieldsV] at h
        cases hn : f.name == "_" with
        | true => rw [hn] at h; cases h
        | false =>
          rw [hn] at h
          simp only at h
          obtain ⟨a, ha, h⟩ := Option.bind_eq_some_iff.1 h
          obtain ⟨b, hb, h⟩ := Option.bind_eq_some_iff.1 h
          obtain ⟨q, hq, h⟩ := Option.bind_eq_some_iff.1 h
          obtain ⟨a', ga, va⟩ := partV_ok (W := W) hE hx h1 a ha
          obtain ⟨b', gb, vb⟩ := partV_ok (W := W) hE hy h2 b hb
          have hne : f.name ≠ "_" := by simpa using hn
          have hq' := ihA f.type a b a' b' q D (by omega) va vb hq
          simp only [Op.eqFields, if_pos hne, Sem.run_bind, ga, gb, hq', Result.andThen_ok]
          cases q with
          | false => simp only [Option.some.injEq] at h; subst h; rfl
          | true => exact ihB fs xs ys xs' ys' r D (by omega) hx hy h1 h2 h
    · intro e s c k xs ys xs' ys' r D hD hx hy h1 h2 h
      cases c with
      | zero => simp only [eqElems, Option.some.injEq] at h; subst h; rfl
      | succ c =>
        simp only [eqElems] at h
        obtain ⟨a, ha, h⟩ := Option.bind_eq_some_iff.1 h
        obtain ⟨b, hb, h⟩ := Option.bind_eq_some_iff.1 h
        obtain ⟨q, hq, h⟩ := Option.bind_eq_some_iff.1 h
        rw [partV_drop] at ha hb
        obtain ⟨a', ga, va⟩ := partV_ok (W := W) hE hx h1 a ha
        obtain ⟨b', gb, vb⟩ := partV_ok (W := W) hE hy h2 b hb
        have hq' := ihA e a b a' b' q D (by omega) va vb hq
        simp only [elemsS, Sem.run_bind, ga, gb, hq', Result.andThen_ok]
        cases q with
        | false => simp only [Option.some.injEq] at h; subst h; rfl
        | true =>
          refine ihC e s c (k + 1) xs ys xs' ys' r D (by omega) hx hy h1 h2 ?_
          simp only [dropV_eq, List.drop_drop] at h ⊢
          rw [Nat.add_mul, Nat.one_mul]
          exact h

end
end
end Go.Proofs.YtcjidlgmbjebjaaDoor.Ev

/- Binary and unary operations, strings. -/
namespace Go.Proofs.YtcjidlgmbjebjaaDoor.Ev
open Go
noncomputable section

def lessN : Nat → Nat → Nat → Nat → Bool
  | 0, _, l2, _ => Nat.blt 0 l2
  | l1 + 1, n1, l2, n2 =>
    match l2 with
    | 0 => false
    | l2 + 1 =>
      match Nat.blt (Nat.mod n1 256) (Nat.mod n2 256) with
      | true => true
      | false =>
        match Nat.beq (Nat.mod n1 256) (Nat.mod n2 256) with
        | true => lessN l1 (Nat.div n1 256) l2 (Nat.div n2 256)
        | false => false
theorem lessN_eq : ∀ (a b : List UInt8), lessN a.length (packBytes a) b.length (packBytes b) = Op.bytesLess a b
  | [], [] => rfl
  | [], y :: b => rfl
  | x :: a, [] => by simp [lessN, Op.bytesLess]
  | x :: a, y :: b => by
    have hx := x.toNat_lt
    have hy := y.toNat_lt
    have e1 : Nat.mod (x.toNat + 256 * packBytes a) 256 = x.toNat := by show (x.toNat + 256 * packBytes a) % 256 = _; omega
    have e2 : Nat.mod (y.toNat + 256 * packBytes b) 256 = y.toNat := by show (y.toNat + 256 * packBytes b) % 256 = _; omega
    have e3 : Nat.div (x.toNat + 256 * packBytes a) 256 = packBytes a := by show (x.toNat + 256 * packBytes a) / 256 = _; omega
    have e4 : Nat.div (y.toNat + 256 * packBytes b) 256 = packBytes b := by show (y.toNat + 256 * packBytes b) / 256 = _; omega
    simp only [List.length_cons, packBytes, lessN, e1, e2, e3, e4, Op.bytesLess, lessN_eq a b]
    by_cases h : x < y
    · have : Nat.blt x.toNat y.toNat = true := Nat.ble_eq_true_of_le (UInt8.lt_iff_toNat_lt.1 h)
      simp [this, h]
    · have h1 : Nat.blt x.toNat y.toNat = false := by
        cases hb : Nat.blt x.toNat y.toNat
        · rfl
        · exact absurd (UInt8.lt_iff_toNat_lt.2 (of_blt_t hb)) h
      rw [h1]
      simp only [h, decide_false, Bool.false_or]
      by_cases he : x = y
      · subst he
        have : Nat.beq x.toNat x.toNat = true := Nat.beq_refl _
        simp [this]
      · have : Nat.beq x.toNat y.toNat = false := beq_f (fun e => he (UInt8.toNat_inj.1 e))
        have hxy : (x == y) = false := by simpa using he
        simp [this, hxy]

def strOp (op : BinOp) (l1 n1 l2 n2 : Nat) : Option V :=
  match op with
  | .add =>
    match Nat.ble (Nat.add l1 l2) 1000000000000 with
    | true => some (.str (Nat.add l1 l2) (glueB l1 n1 n2))
    | false => none
  | .eql => some (.bool (Nat.beq l1 l2 && Nat.beq n1 n2))
  | .neq => some (.bool (not (Nat.beq l1 l2 && Nat.beq n1 n2)))
  | .lss => some (.bool (lessN l1 n1 l2 n2))
  | .geq => some (.bool (not (lessN l1 n1 l2 n2)))
  | .leq => some (.bool (lessN l1 n1 l2 n2 || (Nat.beq l1 l2 && Nat.beq n1 n2)))
  | .gtr => some (.bool (not (lessN l1 n1 l2 n2 || (Nat.beq l1 l2 && Nat.beq n1 n2))))
  | _ => none

def isConstO : Operand → Bool
  | .const _ => true
  | _ => false
/-- That the model compares at all. -/
def guardV (E : Env) (t : Nat) (xc yc : Bool) (a b : V) : Bool :=
  match a with
  | .nilIface =>
    match b with
    | .nilIface =>
      match xc || yc with
      | true => true
      | false => false
    | .unk => false
    | .par _ => false
    | _ => true
  | .agg _ =>
    match b with
    | .agg _ =>
      match E.ti t with
      | some x => not x.guard
      | none => false
    | .unk => false
    | .par _ => false
    | _ => true
  | .unk => false
  | .par _ => false
  | _ =>
    match b with
    | .unk => false
    | .par _ => false
    | _ => true

/-- An opaque number with itself. -/
def pinOp (op : BinOp) : Option V :=
  match op with
  | .eql => some (.bool true)
  | .neq => some (.bool false)
  | _ => none
def binOpV (E : Env) (op : BinOp) (t : Nat) (xc yc : Bool) (a b : V) : Option V :=
  match a with
  | .int k m =>
    match b with
    | .int k' n => intOp op k k' m n
    | _ => none
  | .str l1 n1 =>
    match b with
    | .str l2 n2 => strOp op l1 n1 l2 n2
    | _ => none
  | .pin _ r =>
    match b with
    | .pin _ r' =>
      match Nat.beq r r' with
      | true => pinOp op
      | false => none
    | _ => none
  | a =>
    match op with
    | .eql =>
      match guardV E t xc yc a b with
      | true => (eqV E 1000 t a b).bind fun r => some (.bool r)
      | false => none
    | .neq =>
      match guardV E t xc yc a b with
      | true => (eqV E 1000 t a b).bind fun r => some (.bool (not r))
      | false => none
    | _ => none

section
variable {E : Env} {P : Program} {φ : Pm} {H : Heap} {W : World}

theorem str_append (a b : ByteArray) : VR φ (.str (a.data.toList.length + b.data.toList.length) (glueB a.data.toList.length (packBytes a.data.toList) (packBytes b.data.toList))) (.string (a ++ b)) := by
  have hd : (a ++ b).data.toList = a.data.toList ++ b.data.toList := by rw [ByteArray.data_append, Array.toList_append]
  have h := VR.str (φ := φ) (a ++ b)
  rw [hd, List.length_append] at h
  have hp : packBytes (a.data.toList ++ b.data.toList) = glueB a.data.toList.length (packBytes a.data.toList) (packBytes b.data.toList) := by
    rw [glueB_eq, packBytes_eq, packBytes_eq, packBytes_eq, List.map_append, packN_append, List.length_map]
  rw [hp] at h
  exact h

theorem strOp_ok {op : BinOp} {a b : ByteArray} {v : V} (h : strOp op a.data.toList.length (packBytes a.data.toList) b.data.toList.length (packBytes b.data.toList) = some v) :
    ∃ v', (Op.stringOp op a b).run P W = .ok v' W ∧ VR φ v v' := by
  have hl := lessN_eq a.data.toList b.data.toList
  unfold strOp at h
  rw [hl] at h
  have hse := str_eq (a := a) (b := b)
  have hta : a.toList = a.data.toList := ByteArray.toList_eq a
  have htb : b.toList = b.data.toList := ByteArray.toList_eq b
  cases op <;> simp only at h <;> try (cases h; done)
  case add =>
    cases hb : Nat.ble (Nat.add a.data.toList.length b.data.toList.length) 1000000000000 with
    | false => rw [hb] at h; cases h
    | true =>
      rw [hb] at h
      simp only [Option.some.injEq] at h
      subst h
      have hle : a.data.toList.length + b.data.toList.length ≤ 1000000000000 := of_ble_t hb
      refine ⟨.string (a ++ b), run_string_add_sum W a b ?_, str_append a b⟩
      rw [Array.length_toList, Array.length_toList] at hle
      show a.data.size + b.data.size ≤ _
      omega
  all_goals
    simp only [Option.some.injEq] at h
    subst h
    simp only [Op.stringOp, Sem.run_pure, hta, htb] at hse ⊢
    refine ⟨_, rfl, ?_⟩
    first
      | (rw [hse]; exact .bool _)
      | exact .bool _

theorem intOp_ok {op : BinOp} {t : Nat} {k k' : IntKind} {m n : Int} {v : V} (h : intOp op k k' m n = some v) : ∃ v', (binOp op t (.int k m) (.int k' n)).run P W = .ok v' W ∧ VR φ v v' := by
  unfold intOp at h
  have hk : ∀ {o : BinOp}, intOp2 o k k' m n = some v →
      k = k' ∧ ((∃ b, cmpF o m n = some b ∧ v = .bool b) ∨ (cmpF o m n = none ∧ ∃ r, arithF o k m n = some r ∧ v = .int k r)) := fun {o} h => by
    unfold intOp2 at h
    cases hd : decide (k = k') with
    | false => rw [hd] at h; cases h
    | true =>
      rw [hd] at h
      simp only at h
      refine ⟨of_decide_eq_true hd, ?_⟩
      cases hc : cmpF o m n with
      | some b => rw [hc] at h; simp only [Option.some.injEq] at h; exact .inl ⟨b, rfl, h.symm⟩
      | none =>
        rw [hc] at h
        simp only at h
        obtain ⟨r, hr, h⟩ := Option.bind_eq_some_iff.1 h
        simp only [Option.some.injEq] at h
        exact .inr ⟨rfl, r, hr, h.symm⟩
  cases op
  case shl =>
    obtain ⟨r, hr, h⟩ := Option.bind_eq_some_iff.1 h
    simp only [Option.some.injEq] at h
    subst h
    exact ⟨_, by simp only [binOp]; exact shiftF_ok hr, .int _ _⟩
  case shr =>
    obtain ⟨r, hr, h⟩ := Option.bind_eq_some_iff.1 h
    simp only [Option.some.injEq] at h
    subst h
    exact ⟨_, by simp only [binOp]; exact shiftF_ok hr, .int _ _⟩
  all_goals
    simp only at h
    obtain ⟨rfl, h8⟩ := hk h
    rcases h8 with ⟨b, hc, rfl⟩ | ⟨hc, r, hr, rfl⟩
    · first
        | (simp only [cmpF] at hc; cases hc; done)
        | (refine ⟨.bool b, ?_, .bool _⟩
           simp only [binOp]
           simp only [ne_eq, not_true_eq_false, if_false]
           exact cmpF_ok hc)
    · first
        | (simp only [cmpF] at hc; cases hc; done)
        | (simp only [arithF] at hr; cases hr; done)
        | (refine ⟨.int k r, ?_, .int _ _⟩
           simp only [binOp]
           simp only [ne_eq, not_true_eq_false, if_false]
           simp only [arithF] at hr
           first
             | exact bitsF_ok hr
             | (simp only [Option.some.injEq] at hr; subst hr; simp only [Op.intArith, Sem.run_pure, wrapF_eq]; done)
             | (cases he : eqF n 0 with
                | true => rw [he] at hr; cases hr
                | false =>
                  rw [he] at hr
                  simp only [Option.some.injEq] at hr
                  subst hr
                  have hn := eqF_f he
                  simp only [Op.intDiv, if_neg hn, Sem.run_pure, wrapF_eq]))

/-- The guard of a comparison lets it through. -/
theorem guardV_ok (hE : EnvOk E P) {op : BinOp} (hop : op = .eql ∨ op = .neq) {t : Nat} {x y : Operand} {a b : V} {a' b' : Value} (ha : VR φ a a') (hb : VR φ b b') (h : guardV E t (isConstO x) (isConstO y) a b = true) :
    (eqGuard op t x y a' b').run P W = .ok () W := by
  have hm : (!(match op with | .eql => true | .neq => true | _ => false)) = false := by rcases hop with rfl | rfl <;> rfl
  cases ha <;> cases hb <;> simp only [guardV] at h <;> try (cases h; done)
  case agg.agg xs xs' h1 h2 ys ys' h3 h4 =>
    split at h
    · rename_i ti hti
      obtain ⟨i, hi⟩ := hE.ti t ti hti
      have hg : P.eqGuardType P.depth t = false := by
        rw [← hi.guard]
        simpa using h
      exact run_eqGuard_agg W op t x y _ _ hg
    · cases h
  case nilIface.nilIface =>
    have hc : (isConstO x || isConstO y) = true := by
      cases hc : (isConstO x || isConstO y)
      · rw [hc] at h; cases h
      · rfl
    rcases hop with rfl | rfl <;> cases x <;> cases y <;> simp_all [isConstO, eqGuard]
  all_goals rcases hop with rfl | rfl <;> simp [eqGuard]

theorem eqGuard_int (op : BinOp) (t : Nat) (x y : Operand) (k : IntKind) (m : Int) (b' : Value) : (eqGuard op t x y (.int k m) b').run P W = .ok () W := by
  cases op <;> simp [eqGuard]
theorem eqGuard_str (op : BinOp) (t : Nat) (x y : Operand) (s : ByteArray) (b' : Value) : (eqGuard op t x y (.string s) b').run P W = .ok () W := by
  cases op <;> simp [eqGuard]
theorem binOp_eql {t : Nat} {a : V} {a' b' : Value} (ha : VR φ a a') (hn : ∀ k n, a ≠ .int k n) (hs : ∀ l n, a ≠ .str l n) (hu : a ≠ .unk) (hpar : ∀ r, a ≠ .par r) (hpin : ∀ k r, a ≠ .pin k r) : binOp .eql t a' b' = (do pure (.bool (← Op.equal t a' b')) : Sem Value) := by
  cases ha <;> first
    | rfl
    | (exact absurd rfl (hn _ _))
    | (exact absurd rfl (hs _ _))
    | (exact absurd rfl hu)
    | (exact absurd rfl (hpar _))
    | (exact absurd rfl (hpin _ _))
theorem binOp_neq {t : Nat} {a : V} {a' b' : Value} (ha : VR φ a a') (hn : ∀ k n, a ≠ .int k n) (hs : ∀ l n, a ≠ .str l n) (hu : a ≠ .unk) (hpar : ∀ r, a ≠ .par r) (hpin : ∀ k r, a ≠ .pin k r) : binOp .neq t a' b' = (do pure (.bool (!(← Op.equal t a' b'))) : Sem Value) := by
  cases ha <;> first
    | rfl
    | (exact absurd rfl (hn _ _))
    | (exact absurd rfl (hs _ _))
    | (exact absurd rfl hu)
    | (exact absurd rfl (hpar _))
    | (exact absurd rfl (hpin _ _))

theorem VR.pin_inv {k : IntKind} {r : Nat} {v' : Value} (h : VR φ (.pin k r) v') : ∃ p n, φ r = some p ∧ p.val = some (.int k n) ∧ v' = .int k n := by
  cases h with
  | pin h hv => exact ⟨_, _, h, hv, rfl⟩
theorem binOpV_ok (hE : EnvOk E P) {op : BinOp} {t : Nat} {x y : Operand} {a b : V} {a' b' : Value} (ha : VR φ a a') (hb : VR φ b b') {v : V} (h : binOpV E op t (isConstO x) (isConstO y) a b = some v) :
    ∃ v', (do eqGuard op t x y a' b'; binOp op t a' b' : Sem Value).run P W = .ok v' W ∧ VR φ v v' := by
  by_cases h1 : ∃ k n, a = .int k n
  · obtain ⟨k, n, rfl⟩ := h1
    cases b <;> simp only [binOpV] at h <;> try (cases h; done)
    rw [ha.int_inv, hb.int_inv]
    obtain ⟨v', e1, e2⟩ := intOp_ok (P := P) (φ := φ) (W := W) (t := t) h
    exact ⟨v', by rw [Sem.run_bind, eqGuard_int, Result.andThen_ok]; exact e1, e2⟩
  by_cases h2 : ∃ l n, a = .str l n
  · obtain ⟨l, n, rfl⟩ := h2
    cases b <;> simp only [binOpV] at h <;> try (cases h; done)
    obtain ⟨s1, rfl, rfl, rfl⟩ := ha.str_inv
    obtain ⟨s2, rfl, rfl, rfl⟩ := hb.str_inv
    obtain ⟨v', e1, e2⟩ := strOp_ok (P := P) (φ := φ) (W := W) h
    refine ⟨v', ?_, e2⟩
    rw [Sem.run_bind, eqGuard_str, Result.andThen_ok, ← e1]
    cases op <;> first | rfl | (simp only [strOp] at h; cases h; done)
  by_cases h3 : ∃ k r, a = .pin k r
  · obtain ⟨k, r, rfl⟩ := h3
    cases b <;> simp only [binOpV] at h <;> try (cases h; done)
    rename_i k' r'
    cases hr : Nat.beq r r' with
    | false => rw [hr] at h; cases h
    | true =>
      rw [hr] at h
      obtain rfl := of_beq_t hr
      obtain ⟨p, n, q1, q2, rfl⟩ := ha.pin_inv
      obtain ⟨p', n', q1', q2', rfl⟩ := hb.pin_inv
      obtain rfl := Option.some.inj (q1.symm.trans q1')
      have := Option.some.inj (q2.symm.trans q2')
      cases this
      have hd : decide (n = n) = true := decide_eq_true rfl
      cases op <;> simp only [pinOp, Option.some.injEq] at h <;> try (cases h; done)
      all_goals
        subst h
        refine ⟨_, ?_, .bool _⟩
        rw [Sem.run_bind, eqGuard_int, Result.andThen_ok]
        simp [binOp, Op.intCmp]
  have hpin : ∀ k r, a ≠ .pin k r := fun k r e => h3 ⟨k, r, e⟩
  have hn : ∀ k n, a ≠ .int k n := fun k n e => h1 ⟨k, n, e⟩
  have hs : ∀ l n, a ≠ .str l n := fun k n e => h2 ⟨k, n, e⟩
  have hb2 : binOpV E op t (isConstO x) (isConstO y) a b = (match op with
      | .eql => (match guardV E t (isConstO x) (isConstO y) a b with | true => (eqV E 1000 t a b).bind fun r => some (.bool r) | false => none)
      | .neq => (match guardV E t (isConstO x) (isConstO y) a b with | true => (eqV E 1000 t a b).bind fun r => some (.bool (not r)) | false => none)
      | _ => none) := by
    cases a <;> first | (cases op <;> rfl) | exact absurd rfl (hn _ _) | exact absurd rfl (hs _ _) | exact absurd rfl (hpin _ _)
  rw [hb2] at h
  have hu : guardV E t (isConstO x) (isConstO y) a b = true → a ≠ .unk := fun hg e => by subst e; simp [guardV] at hg
  have hpar : guardV E t (isConstO x) (isConstO y) a b = true → ∀ r, a ≠ .par r := fun hg r e => by subst e; simp [guardV] at hg
  cases op <;> simp only at h <;> try (cases h; done)
  case eql =>
    cases hg : guardV E t (isConstO x) (isConstO y) a b with
    | false => rw [hg] at h; cases h
    | true =>
      rw [hg] at h
      simp only at h
      obtain ⟨r, hr, h⟩ := Option.bind_eq_some_iff.1 h
      simp only [Option.some.injEq] at h
      subst h
      have he := (eq_ok (φ := φ) (W := W) hE 1000).1 t a b a' b' r 10000 (by omega) ha hb hr
      refine ⟨.bool r, ?_, .bool _⟩
      rw [Sem.run_bind, guardV_ok hE (.inl rfl) ha hb hg, Result.andThen_ok, binOp_eql ha hn hs (hu hg) (hpar hg) hpin]
      simp only [Sem.run_bind, Op.equal, Op.maxDepth, he, Result.andThen_ok, Sem.run_pure]
  case neq =>
    cases hg : guardV E t (isConstO x) (isConstO y) a b with
    | false => rw [hg] at h; cases h
    | true =>
      rw [hg] at h
      simp only at h
      obtain ⟨r, hr, h⟩ := Option.bind_eq_some_iff.1 h
      simp only [Option.some.injEq] at h
      subst h
      have he := (eq_ok (φ := φ) (W := W) hE 1000).1 t a b a' b' r 10000 (by omega) ha hb hr
      refine ⟨.bool (!r), ?_, .bool _⟩
      rw [Sem.run_bind, guardV_ok hE (.inr rfl) ha hb hg, Result.andThen_ok, binOp_neq ha hn hs (hu hg) (hpar hg) hpin]
      simp only [Sem.run_bind, Op.equal, Op.maxDepth, he, Result.andThen_ok, Sem.run_pure]

def unOpV (op : UnOp) (a : V) : Option V :=
  match op with
  | .neg =>
    match a with
    | .int k n => some (.int k (wrapF k (0 - n)))
    | _ => none
  | .not =>
    match a with
    | .bool b => some (.bool (not b))
    | _ => none
  | .xor =>
    match a with
    | .int k n =>
      match k.signed with
      | true => (bitsF .xor k (-1) n).bind fun r => some (.int k r)
      | false => none
    | _ => none
  | _ => none
theorem unOpV_ok {op : UnOp} {a : V} {a' : Value} (ha : VR φ a a') : SndP P φ W (unOpV op a) (Op.unary op a') := by
  intro v h
  cases op <;> simp only [unOpV] at h <;> try (cases h; done)
  case neg =>
    cases a <;> simp only at h <;> try (cases h; done)
    simp only [Option.some.injEq] at h
    subst h
    rw [ha.int_inv, wrapF_eq]
    exact ⟨_, rfl, .int _ _⟩
  case not =>
    cases a <;> simp only at h <;> try (cases h; done)
    simp only [Option.some.injEq] at h
    subst h
    rw [ha.bool_inv]
    exact ⟨_, rfl, .bool _⟩
  case xor =>
    cases a <;> simp only at h <;> try (cases h; done)
    rw [ha.int_inv]
    split at h
    · rename_i k n hs
      obtain ⟨r, hr, h⟩ := Option.bind_eq_some_iff.1 h
      simp only [Option.some.injEq] at h
      subst h
      refine ⟨.int _ r, ?_, .int _ _⟩
      simp only [Op.unary, hs, if_true]
      exact bitsF_ok hr
    · cases h

end
end
end Go.Proofs.YtcjidlgmbjebjaaDoor.Ev

/- Conversions. -/
namespace Go.Proofs.YtcjidlgmbjebjaaDoor.Ev
open Go
noncomputable section

def isU8 (E : Env) (e : Nat) : Bool :=
  match E.desc e with
  | some d =>
    match d with
    | .int k =>
      match k with
      | .u8 => true
      | _ => false
    | _ => false
  | none => false
theorem isU8_ok {E : Env} {P : Program} (hE : EnvOk E P) {e : Nat} (h : isU8 E e = true) : P.underlying e = some (.int .u8) := by
  unfold isU8 at h
  split at h
  · rename_i d hd
    split at h
    · split at h
      · exact hE.desc hd
      · cases h
    · cases h
  · cases h

/-- A row's bytes as a string. -/
def strOfCells (c : Cells) : Option V :=
  match c with
  | .bytes l n => some (.str l (cutB n 0 l))
  | .vals l => (packV l).bind fun n => some (.str l.length n)

def convertV (E : Env) (H : Heap) (src dst : Nat) (v : V) : Option (V × Heap) :=
  (E.desc src).bind fun ds => (E.desc dst).bind fun dd =>
    match dd with
    | .int k =>
      match v with
      | .int _ n => some (.int k (wrapF k n), H)
      | _ => none
    | .string =>
      match ds with
      | .string =>
        match v with
        | .str l n => some (.str l n, H)
        | _ => none
      | .slice e =>
        match isU8 E e with
        | false => none
        | true =>
          match v with
          | .nilSlice => some (.str 0 0, H)
          | .slice r off len _ => (H.look r).bind fun o =>
            match o with
            | .row _ cs _ _ =>
              match Nat.ble (Nat.add off len) cs.size with
              | true => (strOfCells (cs.extract off len)).bind fun s => some (s, H)
              | false => none
            | _ => none
          | _ => none
      | _ => none
    | .slice e =>
      match ds with
      | .string =>
        match isU8 E e with
        | false => none
        | true =>
          match v with
          | .str l n => (E.ti e).bind fun x =>
            match Nat.beq x.size 1 with
            | true => some (.slice H.next 0 l l, H.new (.row e (.bytes l n) true false))
            | false => none
          | _ => none
      | .slice _ =>
        match isU8 E e with
        | false => none
        | true =>
          match Nat.beq src dst with
          | false => none
          | true =>
            match v with
            | .slice r off len cap => (H.look r).bind fun o =>
              match o with
              | .row e' cs opn ro =>
                match ro with
                | false =>
                  match Nat.beq cs.size 0 with
                  | false => some (.slice r off len cap, H.put r (.row e' cs opn false))
                  | true => none
                | true => none
              | _ => none
            | _ => none
      | _ => none
    | _ => none

section
variable {E : Env} {P : Program} {φ : Pm} {H : Heap} {W : World}

theorem strOfCells_ok {c : Cells} {v : V} (h : strOfCells c = some v) {l' : List Value} (hv : VRs φ c.toList l') :
    ∃ bs : List UInt8, c.toList = bs.map (fun b => bv b.toNat) ∧ l' = bs.map (fun b => Value.int .u8 b.toNat) ∧ v = .str bs.length (packBytes bs) := by
  obtain ⟨n, hn, hv2, hc⟩ : ∃ n, n < 256 ^ c.toList.length ∧ v = .str c.toList.length n ∧ c.toList = unpackV c.toList.length n := by
    cases c with
    | bytes l n =>
      simp only [strOfCells, Option.some.injEq] at h
      subst h
      refine ⟨cutB n 0 l, ?_, ?_, ?_⟩
      · show _ < 256 ^ (unpackV l n).length
        rw [unpackV_length]; exact cutB_lt _ _ _
      · show _ = V.str (unpackV l n).length _
        rw [unpackV_length]
      · show unpackV l n = unpackV (unpackV l n).length _
        rw [unpackV_length, cut0]
    | vals l =>
      simp only [strOfCells] at h
      obtain ⟨n, hn, h⟩ := Option.bind_eq_some_iff.1 h
      simp only [Option.some.injEq] at h
      subst h
      obtain ⟨h1, h2⟩ := packV_some l n hn
      exact ⟨n, h2, rfl, h1.symm⟩
  refine ⟨(unpackN c.toList.length n).map UInt8.ofNat, ?_, ?_, ?_⟩
  · refine hc.trans ?_
    rw [unpackV_eq, List.map_map]
    apply List.map_congr_left
    intro b hb
    have := unpackN_lt _ _ b hb
    simp [Nat.mod_eq_of_lt this]
  · have hl := hv.length
    apply List.ext_getElem?
    intro j
    by_cases hj : j < c.toList.length
    · have hcj : c.toList[j]? = some (bv (byteAt n j)) := by
        rw [hc]; exact unpackV_get _ _ _ hj
      obtain ⟨v', h1, h2⟩ := hv.get hcj
      have h3 := h2.int_inv
      subst h3
      rw [h1, List.map_map, List.getElem?_map, unpackN_get _ _ _ hj]
      have : byteAt n j < 256 := Nat.mod_lt _ (by omega)
      simp [Nat.mod_eq_of_lt this]
    · rw [List.getElem?_eq_none (by omega), List.getElem?_eq_none (by simp [unpackN_length]; omega)]
  · rw [hv2, List.length_map, unpackN_length, packBytes_eq, List.map_map]
    have : (unpackN c.toList.length n).map (UInt8.toNat ∘ UInt8.ofNat) = unpackN c.toList.length n := by
      conv => rhs; rw [← List.map_id (unpackN c.toList.length n)]
      apply List.map_congr_left
      intro b hb
      have := unpackN_lt _ _ b hb
      simp [Nat.mod_eq_of_lt this]
    rw [this, pack_unpack _ _ hn]

theorem shape_of {p : Pl} {c : Array Value} {t : TypeId} {fz : Nat × Nat} (h : W.heap[p.blk]? = some (.cells c t fz)) : W.shape? p.blk = some (t, c.size) := by
  unfold World.shape?
  rw [h]

/-- The run-time's mark behind a row's end. -/
theorem To.mark (hs : St E φ H W) {r e : Nat} {cs : Cells} {opn : Bool} {p : Pl} (ho : H.look r = some (.row e cs opn false)) (hp : φ r = some p) (off : Nat) (hcs : 0 < cs.toList.length) :
    ∃ W', (markStringish (adr p off)).run P W = .ok () W' ∧ To E φ H W φ (H.put r (.row e cs opn false)) W' := by
  have hr : RowR E φ p e cs opn false W := hs.hr.obj _ _ _ ho hp
  obtain ⟨c, fz, h1, hcz, hbm, h2⟩ := hr.free hr.roq
  obtain ⟨t, ht⟩ : ∃ t, t = e := ⟨_, rfl⟩
  subst ht
  have hsz : p.base + p.lim ≤ c.size := by
    have hal := hr.alen
    have hle := hr.ale
    by_cases h0 : p.lim = 0
    · omega
    · have := hr.some_ (p.lim - 1) (by omega)
      unfold World.cell? at this
      have hb : (adr p (p.lim - 1)).block = p.blk := rfl
      rw [hb, h1] at this
      have ho' : (adr p (p.lim - 1)).off = p.base + (p.lim - 1) := rfl
      have hsp : (adr p (p.lim - 1)).spot = none := rfl
      simp only [hsp, Option.isSome_none, Bool.false_eq_true, if_false, ho'] at this
      have := (Array.getElem?_eq_some_iff.1 (Option.isSome_iff_exists.1 this).choose_spec).1
      omega
  refine ⟨W.freeze { block := p.blk, off := c.size } 1, ?_, ?_⟩
  · have hsh : (shape (adr p off).block).run P W = .ok (some (t, c.size)) W := by
      show Result.ok (W.shape? p.blk) W = _
      rw [shape_of h1]
    unfold markStringish
    rw [Sem.run_bind, hsh, Result.andThen_ok]
    rfl
  · have hfr : W.freeze { block := p.blk, off := c.size } 1 = { W with heap := W.heap.modify p.blk fun
      | .cells c' elem (lo, hi) => .cells c' elem (if lo == hi then (c.size, c.size + 1) else (min lo c.size, max hi (c.size + 1)))
      | o => o } := by
      unfold World.freeze
      rw [if_neg (by decide)]
      rfl
    have hblk : (W.freeze { block := p.blk, off := c.size } 1).heap[p.blk]? = some (.cells c t (if fz.1 == fz.2 then (c.size, c.size + 1) else (min fz.1 c.size, max fz.2 (c.size + 1)))) := by
      rw [hfr]
      show (W.heap.modify p.blk _)[p.blk]? = _
      rw [Array.getElem?_modify, if_pos rfl, h1]
      rfl
    have hcell : ∀ i, (W.freeze { block := p.blk, off := c.size } 1).cell? (adr p i) = W.cell? (adr p i) := fun i => by
      unfold World.cell?
      have hb : (adr p i).block = p.blk := rfl
      rw [hb, hblk, h1]
    refine To.put hs ho rfl hp hr.roq ?_ ?_ ?_ ?_ ?_ ?_
    · rw [hfr]
    · rw [hfr]
    · rw [hfr]
    · rw [hfr]; simp
    · intro b hb
      rw [hfr]
      show (W.heap.modify p.blk _)[b]? = _
      rw [Array.getElem?_modify, if_neg (Ne.symm hb)]
    · refine ⟨hr.esz, hr.alen, hr.ale, hr.opq, hr.roq, hr.clo, fun i v hi => by rw [hcell]; exact hr.cell i v hi, fun i hi => by rw [hcell]; exact hr.some_ i hi, fun _ => ⟨c, _, hblk, hcz, hbm, ?_⟩⟩
      by_cases hz : fz.1 = fz.2
      · rw [if_pos (by simpa using hz)]; exact .inr hsz
      · rw [if_neg (by simpa using hz)]
        have h2' := h2.resolve_left hz
        exact .inr (by show _ ≤ min fz.1 c.size; omega)

/-- What '[]byte(s)' lays, in terms of the abstract heap. -/
theorem To.bytes (hs : St E φ H W) {e : Nat} {x : TI} (hx : E.ti e = some x) (h1 : x.size = 1) (s : ByteArray) :
    ∃ φ', VR φ' (.slice H.next 0 s.data.toList.length s.data.toList.length) (.slice (some ⟨W.heap.size, 0, none⟩) s.size (grownCap W s.size 0 e)) ∧
      To E φ H W φ' (H.new (.row e (.bytes s.data.toList.length (packBytes s.data.toList)) true false))
        (W.drew.alloc (.cells (bytesRow s (grownCap W s.size 0 e)) e ((bytesRow s (grownCap W s.size 0 e)).size, (bytesRow s (grownCap W s.size 0 e)).size + 1))) := by
  have hge := grownCap_ge W s.size 0 e
  generalize grownCap W s.size 0 e = g at hge
  have hlen : s.data.toList.length = s.size := rfl
  have hsz : (bytesRow s g).size = g := by simp [bytesRow]; have : s.data.size = s.size := rfl; omega
  have hrow : ∀ j v, (unpackV s.data.toList.length (packBytes s.data.toList))[j]? = some v → ∃ v', (bytesRow s g)[j]? = some v' ∧ (∀ ψ, VR ψ v v') ∧ v'.oneCell' = true := fun j v hj => by
    obtain ⟨v', h1, _⟩ := (unpackV_bytes (φ := φ) s).get hj
    refine ⟨v', ?_, fun ψ => ?_, ?_⟩
    · have hjl := (List.getElem?_eq_some_iff.1 h1).1
      simp only [Array.length_toList] at hjl
      rw [Array.getElem?_toList] at h1
      unfold bytesRow
      rw [Array.getElem?_append_left hjl]
      exact h1
    · obtain ⟨v2, h2, h3⟩ := (unpackV_bytes (φ := ψ) s).get hj
      rw [h1] at h2
      simp only [Option.some.injEq] at h2
      subst h2
      exact h3
    · rw [Array.getElem?_toList] at h1
      simp only [Array.getElem?_map, Option.map_eq_some_iff] at h1
      obtain ⟨b, _, rfl⟩ := h1
      rfl
  have hcell : ∀ (i : Nat), (W.drew.alloc (.cells (bytesRow s g) e ((bytesRow s g).size, (bytesRow s g).size + 1))).cell? ⟨W.heap.size, i, none⟩ = (bytesRow s g)[i]? := fun i => by
    have : ∀ W2 : World, ∀ c t z, (W2.alloc (.cells c t z)).cell? ⟨W2.heap.size, i, none⟩ = c[i]? := fun W2 c t z => by
      unfold World.cell?
      have : (W2.alloc (.cells c t z)).heap[W2.heap.size]? = some (.cells c t z) := by
        show (W2.heap.push _)[W2.heap.size]? = _
        rw [Array.getElem?_push_size]
      simp only [this]
      rfl
    exact this W.drew _ _ _
  refine ⟨Ev.ext φ H.next ⟨W.heap.size, 0, s.size, g, 1, true, false, none⟩, ?_, (To.drew hs).trans (To.alloc hs.drew _ _ _ rfl ?_)⟩
  · have hp : Ev.ext φ H.next ⟨W.heap.size, 0, s.size, g, 1, true, false, none⟩ H.next = some _ := ext_same _ _ _
    have := VR.slice (φ := Ev.ext φ H.next ⟨W.heap.size, 0, s.size, g, 1, true, false, none⟩) 0 s.size (cap := s.size) (cap' := g) hp (.inr ⟨rfl, by simp, hge, by simp⟩)
    exact this
  · refine ⟨?_, ?_, hge, rfl, rfl, (fun h => by cases h), ?_, ?_, ?_⟩
    · rw [ti_size hx, h1]
    · show s.size = (unpackV _ _).length
      rw [unpackV_length]; rfl
    · intro i v hi
      obtain ⟨v', h2, h3, h4⟩ := hrow i v hi
      refine ⟨v', ?_, h3 _, h4⟩
      have : adr ⟨W.heap.size, 0, s.size, g, 1, true, false, none⟩ i = ⟨W.heap.size, i, none⟩ := by simp [adr]
      rw [this, hcell]
      exact h2
    · intro i hi
      have : adr ⟨W.heap.size, 0, s.size, g, 1, true, false, none⟩ i = ⟨W.heap.size, i, none⟩ := by simp [adr]
      rw [this, hcell]
      have : i < (bytesRow s g).size := by rw [hsz]; exact hi
      rw [Array.getElem?_eq_getElem this]
      rfl
    · intro _
      refine ⟨_, _, by
        show (W.drew.heap.push _)[W.heap.size]? = _
        have : W.heap.size = W.drew.heap.size := rfl
        rw [this, Array.getElem?_push_size], by show (bytesRow s g).size = 0 + g; rw [hsz]; omega, Nat.zero_mod _, .inr ?_⟩
      show 0 + g ≤ (bytesRow s g).size
      rw [hsz]; omega

theorem convertV_ok (hE : EnvOk E P) (hs : St E φ H W) (src dst : Nat) {v : V} {v' : Value} (hv : VR φ v v') : Snd E P φ H W (convertV E H src dst v) (convert src dst v') := by
  intro u H' h
  unfold convertV at h
  obtain ⟨ds, hds, h⟩ := Option.bind_eq_some_iff.1 h
  obtain ⟨dd, hdd, h⟩ := Option.bind_eq_some_iff.1 h
  have hsd := hE.desc hds
  have hdd' := hE.desc hdd
  cases dd with
  | int k =>
    cases v with
    | int q n =>
      simp only [Option.some.injEq, Prod.mk.injEq] at h
      obtain ⟨rfl, rfl⟩ := h
      have := hv.int_inv; subst this
      refine ⟨φ, _, W, ?_, .int _ _, To.refl hs⟩
      rw [wrapF_eq]
      simp [convert, run_underlying hsd, run_underlying hdd', Conv.intToInt]
    | _ => try (cases h; done)
  | string =>
    cases ds with
    | string =>
      cases v with
      | str l n =>
        simp only [Option.some.injEq, Prod.mk.injEq] at h
        obtain ⟨rfl, rfl⟩ := h
        obtain ⟨s, rfl, rfl, rfl⟩ := hv.str_inv
        refine ⟨φ, _, W, ?_, .str s, To.refl hs⟩
        simp [convert, run_underlying hsd, run_underlying hdd']
      | _ => try (cases h; done)
    | slice e =>
      simp only at h
      split at h
      · cases h
      · rename_i h8
        have he := isU8_ok hE h8
        cases v with
        | nilSlice =>
          simp only [Option.some.injEq, Prod.mk.injEq] at h
          obtain ⟨rfl, rfl⟩ := h
          have := hv.nilSlice_inv; subst this
          refine ⟨φ, _, W, run_convert_bytes_nil W src e hsd he 0 0 dst hdd', ?_, To.refl hs⟩
          exact VR.str ByteArray.empty
        | slice r off len cap =>
          obtain ⟨o, ho, h⟩ := Option.bind_eq_some_iff.1 h
          obtain ⟨p, cap', hp, hcap, rfl⟩ := hv.slice_inv
          cases o with
          | row e' cs opn ro =>
            simp only at h
            split at h
            · rename_i hle
              have hle := Nat.le_of_ble_eq_true hle
              obtain ⟨s, hsx, h⟩ := Option.bind_eq_some_iff.1 h
              simp only [Option.some.injEq, Prod.mk.injEq] at h
              obtain ⟨rfl, rfl⟩ := h
              have hr : RowR E φ p e' cs opn ro W := hs.hr.obj _ _ _ ho hp
              obtain ⟨l', hl1, hl2, hl3, _⟩ := hr.cells off len hle
              obtain ⟨bs, hb1, hb2, rfl⟩ := strOfCells_ok hsx hl3
              have hbl : bs.length = len := by rw [hb2] at hl1; simpa using hl1
              refine ⟨φ, _, W, run_convert_bytes_arg W src e hsd he p.blk (p.base + off) len cap' (bs.map fun b => (b.toNat : Int)) (by simp [hbl]) ?_ dst hdd', ?_, To.refl hs⟩
              · intro i hi
                have hib : i < bs.length := by omega
                have := hl2 i (.int .u8 (bs[i].toNat : Int)) (by rw [hb2, List.getElem?_map, List.getElem?_eq_getElem hib]; rfl)
                rw [adr_add] at this
                have h9 : (⟨p.blk, p.base + off + i, none⟩ : Addr) = adr p (off + i) := by simp [adr, Nat.add_assoc]
                rw [h9, this]
                simp [List.getD, List.getElem?_eq_getElem hib]
              · have h9 : (strOfNums (bs.map fun b => (b.toNat : Int))).data.toList = bs := by
                  rw [strOfNums_data, List.map_map]
                  conv => rhs; rw [← List.map_id bs]
                  apply List.map_congr_left
                  intro b _
                  simp
                have := VR.str (φ := φ) (strOfNums (bs.map fun b => (b.toNat : Int)))
                rw [h9] at this
                exact this
            · cases h
          | _ => try (cases h; done)
        | _ => try (cases h; done)
    | _ => try (cases h; done)
  | slice e =>
    cases ds with
    | string =>
      simp only at h
      split at h
      · cases h
      · rename_i h8
        have he := isU8_ok hE h8
        cases v with
        | str l n =>
          obtain ⟨x, hx, h⟩ := Option.bind_eq_some_iff.1 h
          split at h
          · rename_i h1
            have h1 := Nat.eq_of_beq_eq_true h1
            simp only [Option.some.injEq, Prod.mk.injEq] at h
            obtain ⟨rfl, rfl⟩ := h
            obtain ⟨s, rfl, rfl, rfl⟩ := hv.str_inv
            obtain ⟨φ', h2, h3⟩ := To.bytes hs hx h1 s
            exact ⟨φ', _, _, run_bytes_of_string W src dst e s hsd hdd' he, h2, h3⟩
          · cases h
        | _ => try (cases h; done)
    | slice e2 =>
      simp only at h
      split at h
      · cases h
      · rename_i h8
        have he := isU8_ok hE h8
        split at h
        · cases h
        · rename_i hsd2
          have hsd2 : src = dst := Nat.eq_of_beq_eq_true hsd2
          cases v with
          | slice r off len cap =>
            obtain ⟨o, ho, h⟩ := Option.bind_eq_some_iff.1 h
            obtain ⟨p, cap', hp, hcap, rfl⟩ := hv.slice_inv
            cases o with
            | row e' cs opn ro =>
              simp only at h
              split at h
              · split at h
                · rename_i hz
                  simp only [Option.some.injEq, Prod.mk.injEq] at h
                  obtain ⟨rfl, rfl⟩ := h
                  have hz' : 0 < cs.toList.length := by
                    have := cs.size_eq
                    have h0 : cs.size ≠ 0 := fun e => by rw [e] at hz; exact absurd hz (by decide)
                    omega
                  obtain ⟨W', hw, hto⟩ := To.mark (P := P) hs ho hp off hz'
                  refine ⟨φ, _, W', ?_, hv, hto⟩
                  simp [convert, run_underlying hsd, run_underlying hdd', run_underlying he, hw, hsd2]
                · cases h
              · cases h
            | _ => try (cases h; done)
          | _ => try (cases h; done)
    | _ => try (cases h; done)
  | _ => try (cases h; done)

end
end
end Go.Proofs.YtcjidlgmbjebjaaDoor.Ev

/- len, cap, copy, min, max, make of a slice. -/
namespace Go.Proofs.YtcjidlgmbjebjaaDoor.Ev
open Go
noncomputable section

/-- One bind of a hypothesis taken apart. -/

def goI (n : Nat) : V := .int .i64 (.ofNat n)
theorem goI_ok {φ : Pm} (n : Nat) : VR φ (goI n) (goInt n) := .int _ _

def lenV (E : Env) (H : Heap) (t : Nat) (x : V) : Option V :=
  (E.desc t).bind fun d =>
    match d with
    | .string =>
      match x with
      | .str l _ => some (goI l)
      | _ => none
    | .array n _ => some (goI n)
    | .pointer a => (E.desc a).bind fun da =>
      match da with
      | .array n _ => some (goI n)
      | _ => none
    | .slice _ =>
      match x with
      | .nilSlice => some (goI 0)
      | .emptyS => some (goI 0)
      | .slice _ _ l _ => some (goI l)
      | _ => none
    | .map _ _ =>
      match x with
      | .nilMap => some (goI 0)
      | .map r => (H.look r).bind fun o =>
        match o with
        | .map es _ => some (goI es.length)
        | _ => none
      | _ => none
    | _ => none

section
variable {E : Env} {P : Program} {φ : Pm} {H : Heap} {W : World}

theorem getObj_at {r : Nat} {o : Go.Obj} (h : W.heap[r]? = some o) (hc : ∀ c t f, o ≠ .cells c t f) : (getObj r).run P W = .ok o W := by
  cases o <;> first | exact absurd rfl (hc _ _ _) | simp [getObj, Sem.run, h]
theorem setObj_at {r : Nat} {o : Go.Obj} (h : W.heap[r]? = some o) (hc : ∀ c t f, o ≠ .cells c t f) (o2 : Go.Obj) : (setObj r o2).run P W = .ok () { W with heap := W.heap.setIfInBounds r o2 } := by
  cases o <;> first | exact absurd rfl (hc _ _ _) | simp [setObj, Sem.run, h]
theorem EntsR.length : ∀ {l : List (V × V × Nat)} {l' : List MapEntry}, EntsR φ l l' → l.length = l'.length
  | _, _, .nil => rfl
  | _, _, .cons _ hs => by simp [hs.length]

theorem lenV_ok (hE : EnvOk E P) (hs : St E φ H W) {t : Nat} {x : V} {x' : Value} (hv : VR φ x x') (ty : TypeId) : SndP P φ W (lenV E H t x) (Builtin.len_ #[t] ty #[x']) := by
  intro v h
  unfold lenV at h
  obtain ⟨d, hd, hnew⟩ := Option.bind_eq_some_iff.1 h; clear h; have h := hnew; clear hnew
  have hdu := hE.desc hd
  cases d <;> simp only at h <;> try (cases h; done)
  case string =>
    cases x <;> simp only at h <;> try (cases h; done)
    case str l n =>
      simp only [Option.some.injEq] at h
      subst h
      obtain ⟨s, rfl, rfl, rfl⟩ := hv.str_inv
      exact ⟨_, by simp [Builtin.len_, run_underlying hdu] <;> rfl, goI_ok s.size⟩
  case array n e =>
    simp only [Option.some.injEq] at h
    subst h
    exact ⟨_, by simp [Builtin.len_, run_underlying hdu] <;> rfl, goI_ok n⟩
  case pointer a =>
    obtain ⟨da, hda, hnew⟩ := Option.bind_eq_some_iff.1 h; clear h; have h := hnew; clear hnew
    have hdau := hE.desc hda
    cases da <;> simp only at h <;> try (cases h; done)
    case array n e =>
      simp only [Option.some.injEq] at h
      subst h
      exact ⟨_, by simp [Builtin.len_, run_underlying hdu, run_underlying hdau] <;> rfl, goI_ok n⟩
  case slice e =>
    cases x <;> simp only at h <;> try (cases h; done)
    case nilSlice =>
      simp only [Option.some.injEq] at h
      subst h
      have := hv.nilSlice_inv; subst this
      exact ⟨_, by simp [Builtin.len_, run_underlying hdu] <;> rfl, goI_ok 0⟩
    case emptyS =>
      simp only [Option.some.injEq] at h
      subst h
      obtain ⟨a, c, rfl⟩ := hv.emptyS_inv
      exact ⟨_, by simp [Builtin.len_, run_underlying hdu] <;> rfl, goI_ok 0⟩
    case slice r off l c =>
      simp only [Option.some.injEq] at h
      subst h
      obtain ⟨p, cap', _, _, rfl⟩ := hv.slice_inv
      exact ⟨_, by simp [Builtin.len_, run_underlying hdu] <;> rfl, goI_ok l⟩
  case map k e =>
    cases x <;> simp only at h <;> try (cases h; done)
    case nilMap =>
      simp only [Option.some.injEq] at h
      subst h
      have := hv.nilMap_inv; subst this
      exact ⟨_, by simp [Builtin.len_, run_underlying hdu] <;> rfl, goI_ok 0⟩
    case map r =>
      obtain ⟨o, ho, hnew⟩ := Option.bind_eq_some_iff.1 h; clear h; have h := hnew; clear hnew
      obtain ⟨p, hp, rfl⟩ := hv.map_inv
      cases o <;> simp only at h <;> try (cases h; done)
      case map es clock =>
        simp only [Option.some.injEq] at h
        subst h
        obtain ⟨_, es', h1, h2⟩ := hs.hr.obj _ _ _ ho hp
        refine ⟨_, ?_, goI_ok es.length⟩
        simp [Builtin.len_, run_underlying hdu, getObj_at h1 (fun _ _ _ => by simp)]
        rw [h2.length]; simp

/-- Is a capacity known? -/
def capV (E : Env) (H : Heap) (t : Nat) (x : V) : Option V :=
  (E.desc t).bind fun d =>
    match d with
    | .slice _ =>
      match x with
      | .nilSlice => some (goI 0)
      | .slice r off _ cap => (H.look r).bind fun o =>
        match o with
        | .row e cs opn _ =>
          match opn with
          | false => some (goI cap)
          | true => (E.size e).bind fun s =>
            match Nat.beq (Nat.add off (Nat.mul cap s)) cs.size with
            | true => none
            | false => some (goI cap)
        | _ => none
      | _ => none
    | _ => none
theorem capV_ok (hE : EnvOk E P) (hs : St E φ H W) {t : Nat} {x : V} {x' : Value} (hv : VR φ x x') (ty : TypeId) : SndP P φ W (capV E H t x) (Builtin.cap_ #[t] ty #[x']) := by
  intro v h
  unfold capV at h
  obtain ⟨d, hd, hnew⟩ := Option.bind_eq_some_iff.1 h; clear h; have h := hnew; clear hnew
  have hdu := hE.desc hd
  cases d <;> simp only at h <;> try (cases h; done)
  case slice e =>
    cases x <;> simp only at h <;> try (cases h; done)
    case nilSlice =>
      simp only [Option.some.injEq] at h
      subst h
      have := hv.nilSlice_inv; subst this
      exact ⟨_, by simp [Builtin.cap_, run_underlying hdu] <;> rfl, goI_ok 0⟩
    case slice r off l cap =>
      obtain ⟨o, ho, hnew⟩ := Option.bind_eq_some_iff.1 h; clear h; have h := hnew; clear hnew
      obtain ⟨p, cap', hp, hc, rfl⟩ := hv.slice_inv
      cases o <;> simp only at h <;> try (cases h; done)
      case row e' cs opn ro =>
        have hr : RowR E φ p e' cs opn ro W := hs.hr.obj _ _ _ ho hp
        have hcc : cap' = cap ∧ v = goI cap := by
          cases opn with
          | false =>
            simp only [Option.some.injEq] at h
            refine ⟨?_, h.symm⟩
            rcases hc with h1 | ⟨h1, _⟩
            · exact h1
            · rw [hr.opq] at h1; cases h1
          | true =>
            obtain ⟨s, hsz, hnew⟩ := Option.bind_eq_some_iff.1 h; clear h; have h := hnew; clear hnew
            cases hb : Nat.beq (Nat.add off (Nat.mul cap s)) cs.size with
            | true => rw [hb] at h; cases h
            | false =>
              rw [hb] at h
              simp only [Option.some.injEq] at h
              refine ⟨?_, h.symm⟩
              rcases hc with h1 | ⟨_, h1, _⟩
              · exact h1
              · exfalso
                have h2 := hr.esz
                rw [hsz] at h2
                simp only [Option.some.injEq] at h2
                subst h2
                have h3 := hr.alen
                rw [← Cells.size_eq] at h3
                rw [h3] at h1
                have : Nat.beq (Nat.add off (Nat.mul cap p.esz)) cs.size = true := by
                  show Nat.beq (off + cap * p.esz) cs.size = true
                  rw [h1]; exact Nat.beq_refl _
                rw [hb] at this
                cases this
        obtain ⟨rfl, rfl⟩ := hcc
        exact ⟨_, by simp [Builtin.cap_, run_underlying hdu] <;> rfl, goI_ok cap'⟩

/- ### copy -/
def lenS (v : V) : Option Nat :=
  match v with
  | .nilSlice => some 0
  | .emptyS => some 0
  | .str l _ => some l
  | .slice _ _ l _ => some l
  | _ => none
/-- The first n elements. -/
def firstN (H : Heap) (size : Nat) (v : V) (n : Nat) : Option Cells :=
  match v with
  | .nilSlice => some (.bytes 0 0)
  | .emptyS => some (.bytes 0 0)
  | .str _ m =>
    match Nat.beq size 1 with
    | true => some (.bytes n (cutB m 0 n))
    | false => none
  | .slice r off _ _ => (H.look r).bind fun o =>
    match o with
    | .row _ cs _ _ =>
      match Nat.ble (Nat.add off (Nat.mul n size)) cs.size with
      | true => some (cs.extract off (Nat.mul n size))
      | false => none
    | _ => none
  | _ => none
theorem lenS_ok {v : V} {v' : Value} (hv : VR φ v v') {n : Nat} (h : lenS v = some n) : (Builtin.lenOf v').run P W = .ok n W := by
  unfold lenS at h
  cases v <;> simp only at h <;> try (cases h; done)
  case nilSlice =>
    simp only [Option.some.injEq] at h
    subst h
    have := hv.nilSlice_inv; subst this
    rfl
  case emptyS =>
    simp only [Option.some.injEq] at h
    subst h
    obtain ⟨a, c, rfl⟩ := hv.emptyS_inv
    rfl
  case str l m =>
    simp only [Option.some.injEq] at h
    subst h
    obtain ⟨s, rfl, rfl, rfl⟩ := hv.str_inv
    rfl
  case slice r off l c =>
    simp only [Option.some.injEq] at h
    subst h
    obtain ⟨p, cap', _, _, rfl⟩ := hv.slice_inv
    rfl
theorem firstN_ok (hs : St E φ H W) {v : V} {v' : Value} (hv : VR φ v v') {m n size : Nat} (hm : lenS v = some m) (hn : n ≤ m) {new : Cells} (h : firstN H size v n = some new) :
    ∃ news : List Value, (Builtin.firstCells size n v').run P W = .ok news.toArray W ∧ VRs φ new.toList news ∧ (∀ u ∈ news, u.oneCell' = true) ∧ news.length = n * size := by
  unfold firstN at h
  unfold lenS at hm
  cases v <;> simp only at h <;> try (cases h; done)
  case nilSlice =>
    simp only [Option.some.injEq] at h hm
    subst h hm
    have := hv.nilSlice_inv; subst this
    have : n = 0 := by omega
    subst this
    exact ⟨[], rfl, .nil, by simp, by simp⟩
  case emptyS =>
    simp only [Option.some.injEq] at h hm
    subst h hm
    obtain ⟨a, c, rfl⟩ := hv.emptyS_inv
    have : n = 0 := by omega
    subst this
    refine ⟨[], ?_, .nil, by simp, by simp⟩
    simp [Builtin.firstCells, run_loadCells_zero]
  case str l k =>
    simp only [Option.some.injEq] at hm
    subst hm
    cases hb : Nat.beq size 1 with
    | false => rw [hb] at h; cases h
    | true =>
      rw [hb] at h
      simp only [Option.some.injEq] at h
      subst h
      have hs1 := of_beq_t hb
      subst hs1
      obtain ⟨s, rfl, rfl, rfl⟩ := hv.str_inv
      have hsz : s.data.toList.length = s.size := rfl
      have hd : ((s.extract 0 n).data.map fun b => Value.int .u8 b.toNat).toList = (s.data.map fun b => Value.int .u8 b.toNat).toList.take n := by
        have : (s.extract 0 n).data.toList = s.data.toList.take n := by
          rw [ByteArray.data_extract, Array.toList_extract, List.extract_eq_take_drop]
          simp
        simp [Array.toList_map, this, List.map_take]
      refine ⟨((s.extract 0 n).data.map fun b => Value.int .u8 b.toNat).toList, by rw [Array.toArray_toList]; rfl, ?_, ?_, ?_⟩
      · rw [hd]
        show VRs φ (unpackV n (cutB _ 0 n)) _
        rw [cut0, unpackV_take _ n _ hn]
        exact (unpackV_bytes s).take n
      · intro u hu
        simp only [Array.toList_map, List.mem_map] at hu
        obtain ⟨b, _, rfl⟩ := hu
        rfl
      · rw [hd]; simp; have : s.data.size = s.size := rfl; omega
  case slice r off l c =>
    obtain ⟨o, ho, hnew⟩ := Option.bind_eq_some_iff.1 h; clear h; have h := hnew; clear hnew
    obtain ⟨p, cap', hp, hc, rfl⟩ := hv.slice_inv
    cases o <;> simp only at h <;> try (cases h; done)
    case row e' cs opn ro =>
      cases hb : Nat.ble (Nat.add off (Nat.mul n size)) cs.size with
      | false => rw [hb] at h; cases h
      | true =>
        rw [hb] at h
        simp only [Option.some.injEq] at h
        subst h
        have hr : RowR E φ p e' cs opn ro W := hs.hr.obj _ _ _ ho hp
        obtain ⟨l', h1, h2, h3, h4, h5⟩ := hr.cells off (n * size) (of_ble_t hb)
        refine ⟨l', ?_, h3, h4, h1⟩
        have hl := run_loadCells_list (P := P) W (adr p off) l' h2
        rw [h1] at hl
        exact hl

def copyV (E : Env) (H : Heap) (t0 : Nat) (d s : V) : Option (V × Heap) :=
  (E.desc t0).bind fun dd =>
    match dd with
    | .slice e => (E.size e).bind fun size => (lenS s).bind fun sl =>
      match d with
      | .nilSlice => (firstN H size s 0).bind fun _ => some (goI 0, H)
      | .emptyS => (firstN H size s 0).bind fun _ => some (goI 0, H)
      | .slice r off dl _ =>
        let n := match Nat.ble sl dl with
          | true => sl
          | false => dl
        (firstN H size s n).bind fun new =>
          match Nat.beq new.size 0 with
          | true => some (goI n, H)
          | false => (H.look r).bind fun o =>
            match o with
            | .row e' cs opn ro =>
              match ro with
              | true => none
              | false =>
                match Nat.ble (Nat.add off new.size) cs.size with
                | true => some (goI n, H.put r (.row e' (cs.splice off new) opn ro))
                | false => none
            | _ => none
      | _ => none
    | _ => none
theorem copyV_ok (hE : EnvOk E P) (hs : St E φ H W) {t0 : Nat} (t1 : TypeId) {d s : V} {d' s' : Value} (hd : VR φ d d') (hsv : VR φ s s') (ty : TypeId) :
    Snd E P φ H W (copyV E H t0 d s) (Builtin.copy_ #[t0, t1] ty #[d', s']) := by
  intro v H' h
  unfold copyV at h
  obtain ⟨dd, hdd, hnew⟩ := Option.bind_eq_some_iff.1 h; clear h; have h := hnew; clear hnew
  have ht := hE.desc hdd
  cases dd <;> simp only at h <;> try (cases h; done)
  case slice e =>
    obtain ⟨size, hsz, hnew⟩ := Option.bind_eq_some_iff.1 h; clear h; have h := hnew; clear hnew
    obtain ⟨sl, hsl, hnew⟩ := Option.bind_eq_some_iff.1 h; clear h; have h := hnew; clear hnew
    obtain ⟨i, hi, hisz⟩ := hE.size hsz
    subst hisz
    have hlo : (Builtin.lenOf s').run P W = .ok sl W := lenS_ok hsv hsl
    cases d <;> simp only at h <;> try (cases h; done)
    case nilSlice =>
      obtain ⟨new, hnew, hnew⟩ := Option.bind_eq_some_iff.1 h; clear h; have h := hnew; clear hnew
      simp only [Option.some.injEq, Prod.mk.injEq] at h
      obtain ⟨rfl, rfl⟩ := h
      have := hd.nilSlice_inv; subst this
      obtain ⟨news, h1, h2, h3, h4⟩ := firstN_ok (P := P) hs hsv hsl (Nat.zero_le _) hnew
      refine ⟨φ, _, W, ?_, goI_ok 0, To.refl hs⟩
      unfold Builtin.copy_
      simp [run_underlying ht, hlo, run_sizeOf hi, h1]
    case emptyS =>
      obtain ⟨new, hnew, hnew⟩ := Option.bind_eq_some_iff.1 h; clear h; have h := hnew; clear hnew
      simp only [Option.some.injEq, Prod.mk.injEq] at h
      obtain ⟨rfl, rfl⟩ := h
      obtain ⟨a, c, rfl⟩ := hd.emptyS_inv
      obtain ⟨news, h1, h2, h3, h4⟩ := firstN_ok (P := P) hs hsv hsl (Nat.zero_le _) hnew
      have hnil : news = [] := List.eq_nil_of_length_eq_zero (by rw [h4, Nat.zero_mul])
      subst hnil
      refine ⟨φ, _, W, ?_, goI_ok 0, To.refl hs⟩
      unfold Builtin.copy_
      simp [run_underlying ht, hlo, run_sizeOf hi, h1, storeCells]
    case slice r off dl c =>
      obtain ⟨p, cap', hp, hc, rfl⟩ := hd.slice_inv
      obtain ⟨new, hnew, hnew⟩ := Option.bind_eq_some_iff.1 h; clear h; have h := hnew; clear hnew
      have hmin : (match Nat.ble sl dl with | true => sl | false => dl) = Nat.min sl dl := by
        cases hb : Nat.ble sl dl with
        | true => have := of_ble_t hb; exact (Nat.min_eq_left this).symm
        | false =>
          have : ¬ sl ≤ dl := fun hle => by rw [Nat.ble_eq_true_of_le hle] at hb; cases hb
          exact (Nat.min_eq_right (show dl ≤ sl by omega)).symm
      rw [hmin] at hnew h
      obtain ⟨news, h1, h2, h3, h4⟩ := firstN_ok (P := P) hs hsv hsl (Nat.min_le_left _ _) hnew
      have hrun : ∀ W' : World, (storeCells (adr p off) news).run P W = .ok () W' → (Builtin.copy_ #[t0, t1] ty #[.slice (some (adr p off)) dl cap', s']).run P W = .ok (goInt (Nat.min sl dl)) W' := fun W' hst => by
        unfold Builtin.copy_
        simp [run_underlying ht, hlo, run_sizeOf hi, h1, hst]
      cases hb : Nat.beq new.size 0 with
      | true =>
        rw [hb] at h
        simp only [Option.some.injEq, Prod.mk.injEq] at h
        obtain ⟨rfl, rfl⟩ := h
        have hnil : news = [] := List.eq_nil_of_length_eq_zero (by rw [← h2.length, ← Cells.size_eq]; exact of_beq_t hb)
        subst hnil
        exact ⟨φ, _, W, hrun W rfl, goI_ok _, To.refl hs⟩
      | false =>
        rw [hb] at h
        obtain ⟨o, ho, hnew⟩ := Option.bind_eq_some_iff.1 h; clear h; have h := hnew; clear hnew
        cases o <;> simp only at h <;> try (cases h; done)
        case row e' cs opn ro =>
          cases ro <;> simp only at h <;> try (cases h; done)
          cases hb2 : Nat.ble (Nat.add off new.size) cs.size with
          | false => rw [hb2] at h; cases h
          | true =>
            rw [hb2] at h
            simp only [Option.some.injEq, Prod.mk.injEq] at h
            obtain ⟨rfl, rfl⟩ := h
            have hle : off + new.size ≤ cs.size := of_ble_t hb2
            have hsp := To.splice (P := P) hs ho hp off new news h2 h3 hle (cs.splice off new) (Cells.toList_splice _ _ _ hle)
            exact ⟨φ, _, _, hrun _ hsp.1, goI_ok _, hsp.2⟩

/- ### min, max -/
def min2V (a b : V) : Option V :=
  match a, b with
  | .int k x, .int _ y => some (.int k (match ltF y x with | true => y | false => x))
  | _, _ => none
def max2V (a b : V) : Option V :=
  match a, b with
  | .int k x, .int _ y => some (.int k (match ltF x y with | true => y | false => x))
  | _, _ => none
def foldV (f : V → V → Option V) : V → List V → Option V
  | a, [] => some a
  | a, b :: r => (f a b).bind fun c => foldV f c r
theorem min2V_ok {a b : V} {a' b' : Value} (ha : VR φ a a') (hb : VR φ b b') : SndP P φ W (min2V a b) (Builtin.min2 a' b') := by
  intro v h
  unfold min2V at h
  split at h
  · rename_i k x k2 y
    simp only [Option.some.injEq] at h
    subst h
    have := ha.int_inv; subst this
    have := hb.int_inv; subst this
    refine ⟨_, rfl, ?_⟩
    have : (match ltF y x with | true => y | false => x) = if y < x then y else x := by
      rw [ltF_eq]
      by_cases hxy : y < x <;> simp [hxy]
    rw [this]
    exact .int _ _
  · cases h
theorem max2V_ok {a b : V} {a' b' : Value} (ha : VR φ a a') (hb : VR φ b b') : SndP P φ W (max2V a b) (Builtin.max2 a' b') := by
  intro v h
  unfold max2V at h
  split at h
  · rename_i k x k2 y
    simp only [Option.some.injEq] at h
    subst h
    have := ha.int_inv; subst this
    have := hb.int_inv; subst this
    refine ⟨_, rfl, ?_⟩
    have : (match ltF x y with | true => y | false => x) = if x < y then y else x := by
      rw [ltF_eq]
      by_cases hxy : x < y <;> simp [hxy]
    rw [this]
    exact .int _ _
  · cases h
theorem foldV_ok {f : V → V → Option V} {g : Value → Value → Sem Value} (hf : ∀ a b a' b', VR φ a a' → VR φ b b' → SndP P φ W (f a b) (g a' b')) :
    ∀ (l : List V) (l' : List Value) (a : V) (a' : Value), VRs φ l l' → VR φ a a' → SndP P φ W (foldV f a l) (l'.foldlM g a')
  | [], _, a, a', .nil, ha => fun v h => by
    simp only [foldV, Option.some.injEq] at h
    subst h
    exact ⟨a', rfl, ha⟩
  | b :: l, _, a, a', .cons hb hl, ha => fun v h => by
    obtain ⟨c, hc, hnew⟩ := Option.bind_eq_some_iff.1 h; clear h; have h := hnew; clear hnew
    obtain ⟨c', h1, h2⟩ := hf a b a' _ ha hb c hc
    obtain ⟨v', h3, h4⟩ := foldV_ok hf l _ c c' hl h2 v h
    refine ⟨v', ?_, h4⟩
    rw [List.foldlM_cons, Sem.run_bind, h1, Result.andThen_ok, h3]
def minV (l : List V) : Option V :=
  match l with
  | [] => none
  | a :: r => foldV min2V a r
def maxV (l : List V) : Option V :=
  match l with
  | [] => none
  | a :: r => foldV max2V a r
theorem minV_ok {l : List V} {l' : Array Value} (h : VRs φ l l'.toList) (ts : Array TypeId) (ty : TypeId) : SndP P φ W (minV l) (Builtin.min_ ts ty l') := by
  intro v hv
  cases l with
  | nil => cases hv
  | cons a r =>
    unfold Builtin.min_
    generalize hl : l'.toList = ll at h
    cases h with
    | cons ha hr => exact foldV_ok (fun _ _ _ _ h1 h2 => min2V_ok h1 h2) r _ a _ hr ha v hv
theorem maxV_ok {l : List V} {l' : Array Value} (h : VRs φ l l'.toList) (ts : Array TypeId) (ty : TypeId) : SndP P φ W (maxV l) (Builtin.max_ ts ty l') := by
  intro v hv
  cases l with
  | nil => cases hv
  | cons a r =>
    unfold Builtin.max_
    generalize hl : l'.toList = ll at h
    cases h with
    | cons ha hr => exact foldV_ok (fun _ _ _ _ h1 h2 => max2V_ok h1 h2) r _ a _ hr ha v hv

/- ### make -/
def makeSliceV (E : Env) (H : Heap) (t : Nat) (l c : V) : Option (V × Heap) :=
  (E.desc t).bind fun d =>
    match d with
    | .slice e =>
      (E.ti e).bind fun x =>
        match l, c with
        | .int _ l, .int _ c =>
          (inE c 140737488355328).bind fun c =>
          (inE l c).bind fun l =>
          match Nat.ble (Nat.mul x.bytes c) 140737488355328 with
          | true => (zeroCellsV x c).bind fun zc => some (.slice H.next 0 l c, H.new (.row e (Cells.ofList zc) false false))
          | false => none
        | _, _ => none
    | _ => none
theorem makeSliceV_ok (hE : EnvOk E P) (hs : St E φ H W) {t : Nat} {l c : V} {l' c' : Value} (hl : VR φ l l') (hc : VR φ c c') : Snd E P φ H W (makeSliceV E H t l c) (Instr.makeSlice t l' c') := by
  intro v H' h
  unfold makeSliceV at h
  obtain ⟨d, hd, hnew⟩ := Option.bind_eq_some_iff.1 h; clear h; have h := hnew; clear hnew
  have ht := hE.desc hd
  cases d <;> simp only at h <;> try (cases h; done)
  case slice e =>
    obtain ⟨x, hx, hnew⟩ := Option.bind_eq_some_iff.1 h; clear h; have h := hnew; clear hnew
    obtain ⟨i, hi⟩ := hE.ti e x hx
    cases l <;> try (cases h; done)
    case int kl l =>
      cases c <;> try (cases h; done)
      case int kc c =>
        have := hl.int_inv; subst this
        have := hc.int_inv; subst this
        obtain ⟨cn, hcn, hnew⟩ := Option.bind_eq_some_iff.1 h; clear h; have h := hnew; clear hnew
        obtain ⟨ln, hln, hnew⟩ := Option.bind_eq_some_iff.1 h; clear h; have h := hnew; clear hnew
        obtain ⟨rfl, hc2⟩ := inE_ok hcn
        obtain ⟨rfl, hl2⟩ := inE_ok hln
        cases hb : Nat.ble (Nat.mul x.bytes cn) 140737488355328 with
        | false => rw [hb] at h; cases h
        | true =>
          rw [hb] at h
          obtain ⟨zc, hzc, hnew⟩ := Option.bind_eq_some_iff.1 h; clear h; have h := hnew; clear hnew
          simp only [Option.some.injEq, Prod.mk.injEq] at h
          obtain ⟨rfl, rfl⟩ := h
          have hb' : i.bytes * cn ≤ 140737488355328 := by rw [hi.bytes]; exact of_ble_t hb
          obtain ⟨z', hz', hzs, hzl, hzr⟩ := zeroCellsV_ok hi hzc
          obtain ⟨k1, k2, k3⟩ := hzr φ
          have hn := To.newRow (P := P) hs e x.size (ti_size hx) (Cells.ofList zc) _ [] (by rw [Cells.toList_ofList]; exact k1) k3 false (fun _ => rfl)
          simp only [List.append_nil, Array.toArray_toList] at hn
          refine ⟨_, _, _, ?_, VR.slice 0 ln (ext_same _ _ _) (.inl rfl), hn.2⟩
          have hwl : IntKind.i64.wrap (ln : Int) = ln := IntWalk.i64_in _ (by omega)
          have hwc : IntKind.i64.wrap (cn : Int) = cn := IntWalk.i64_in _ (by omega)
          have hbi : ¬ ((281474976710656 : Int) < (i.bytes : Int) * (cn : Int)) := by
            have h1 : ((i.bytes * cn : Nat) : Int) ≤ ((140737488355328 : Nat) : Int) := Int.ofNat_le.2 hb'
            rw [Int.natCast_mul] at h1
            omega
          have e1 : ¬ ((cn : Int) < 0) := by omega
          have e2 : ¬ ((ln : Int) < 0) := by omega
          have e3 : ¬ ((cn : Int) < (ln : Int)) := by omega
          unfold Instr.makeSlice
          by_cases h0 : cn * i.size = 0
          · have hz0 : ((Array.range (cn * i.size)).map (z'.cells[· % z'.cells.size]!)) = #[] := by
              rw [h0]; apply Array.ext'; simp
            rw [hz0] at hn
            have r0 : ∀ f : Nat → Value, (Array.range 0).map f = #[] := fun f => by apply Array.ext'; simp
            simp [run_underlying ht, asInt, asIntOf, run_typeInfo hi.info, hwl, hwc, hbi, e1, e2, e3, run_sizeOf hi.info, h0, r0, hn.1, adr]
          · simp [run_underlying ht, asInt, asIntOf, run_typeInfo hi.info, hwl, hwc, hbi, e1, e2, e3, run_sizeOf hi.info, h0, run_zeroValue hi.info hz', hn.1, adr]

end
end
end Go.Proofs.YtcjidlgmbjebjaaDoor.Ev

/- Strings ranged over; checks against nil; function values; type assertions. -/
namespace Go.Proofs.YtcjidlgmbjebjaaDoor.Ev
open Go
noncomputable section

theorem byteAt_pack : ∀ (l : List UInt8) (i : Nat), byteAt (packBytes l) i = (l[i]?.getD 0).toNat := by
  intro l i
  by_cases h : i < l.length
  · have h1 := unpack_pack _ (bytes_lt l)
    rw [← packBytes_eq, List.length_map] at h1
    have h2 : (unpackN l.length (packBytes l))[i]? = some (byteAt (packBytes l) i) := unpackN_get _ _ _ h
    rw [h1, List.getElem?_map, List.getElem?_eq_getElem h] at h2
    simp only [Option.map_some, Option.some.injEq] at h2
    rw [List.getElem?_eq_getElem h]
    exact h2.symm
  · rw [List.getElem?_eq_none (by omega)]
    have h1 : packBytes l < 256 ^ l.length := by
      rw [packBytes_eq]
      have := packN_lt _ (bytes_lt l)
      rwa [List.length_map] at this
    show byteAt (packBytes l) i = 0
    have h2 : packBytes l < 256 ^ i := Nat.lt_of_lt_of_le h1 (Nat.pow_le_pow_right (by omega) (by omega))
    unfold byteAt
    have : Nat.shiftRight (packBytes l) (Nat.mul 8 i) = 0 := by
      show (packBytes l) >>> (8 * i) = 0
      rw [Nat.shiftRight_eq_div_pow, Nat.pow_mul]
      exact Nat.div_eq_of_lt h2
    rw [this]
theorem get!_eq (s : ByteArray) (i : Nat) : s.get! i = s.data.toList[i]?.getD 0 := by
  cases s with
  | mk d =>
    show d.get!Internal i = _
    rw [Array.get!Internal_eq_getElem!, getElem!_def]
    cases h : d[i]? <;> simp [h] <;> rfl

/-- The rune at a place. -/
def utf8V (len n pos : Nat) : Nat × Nat :=
  let at' (k : Nat) : Nat := byteAt n (pos + k)
  let cont (k : Nat) : Bool := pos + k < len && at' k / 64 == 2
  let b0 := at' 0
  if b0 < 0x80 then (b0, 1)
  else if b0 / 32 == 6 && cont 1 then
    let c := (b0 % 32) * 64 + at' 1 % 64
    if c ≥ 0x80 then (c, 2) else (Utf8.runeError, 1)
  else if b0 / 16 == 14 && cont 1 && cont 2 then
    let c := (b0 % 16) * 4096 + (at' 1 % 64) * 64 + at' 2 % 64
    if c ≥ 0x800 && Utf8.valid c then (c, 3) else (Utf8.runeError, 1)
  else if b0 / 8 == 30 && cont 1 && cont 2 && cont 3 then
    let c := (b0 % 8) * 262144 + (at' 1 % 64) * 4096 + (at' 2 % 64) * 64 + at' 3 % 64
    if c ≥ 0x10000 && Utf8.valid c then (c, 4) else (Utf8.runeError, 1)
  else (Utf8.runeError, 1)
theorem utf8V_eq (s : ByteArray) (pos : Nat) : utf8V s.data.toList.length (packBytes s.data.toList) pos = Utf8.decode s pos := by
  have hl : s.data.toList.length = s.size := rfl
  unfold utf8V Utf8.decode
  simp only [get!_eq, byteAt_pack, hl]

def rangeV (E : Env) (H : Heap) (t : Nat) (x : V) : Option (V × Heap) :=
  (E.desc t).bind fun d =>
    match d with
    | .string =>
      match x with
      | .str l n => some (.ptr H.next 0, H.new (.strIter l n 0))
      | _ => none
    | .map _ _ =>
      match x with
      | .nilMap => some (.ptr H.next 0, H.new (.mapIter none 0 [] 0))
      | .map r => (H.look r).bind fun o =>
        match o with
        | .map _ clock => some (.ptr H.next 0, H.new (.mapIter (some r) clock [] clock))
        | _ => none
      | _ => none
    | _ => none

section
variable {E : Env} {P : Program} {φ : Pm} {H : Heap} {W : World}

theorem rangeV_ok (hE : EnvOk E P) (hs : St E φ H W) {t : Nat} {x : V} {x' : Value} (hv : VR φ x x') : Snd E P φ H W (rangeV E H t x) (Instr.range t x') := by
  intro v H' h
  unfold rangeV at h
  obtain ⟨d, hd, hnew⟩ := Option.bind_eq_some_iff.1 h; clear h; have h := hnew; clear hnew
  have hdu := hE.desc hd
  cases d <;> simp only at h <;> try (cases h; done)
  case string =>
    cases x <;> simp only at h <;> try (cases h; done)
    case str l n =>
      simp only [Option.some.injEq, Prod.mk.injEq] at h
      obtain ⟨rfl, rfl⟩ := h
      obtain ⟨s, rfl, rfl, rfl⟩ := hv.str_inv
      have hn := To.newObj hs (.strIter s.data.toList.length (packBytes s.data.toList) 0) (.stringIter s 0) (fun ψ _ _ => ⟨⟨rfl, rfl⟩, s, heap_new _ _, rfl, rfl⟩)
      refine ⟨_, .pointer (some ⟨W.heap.size, 0, none⟩), _, ?_, .ptr 0 (ext_same _ _ _), hn⟩
      simp [Instr.range, run_underlying hdu]
  case map k e =>
    cases x <;> simp only at h <;> try (cases h; done)
    case nilMap =>
      simp only [Option.some.injEq, Prod.mk.injEq] at h
      obtain ⟨rfl, rfl⟩ := h
      have := hv.nilMap_inv; subst this
      have hn := To.newObj hs (.mapIter none 0 [] 0) (.mapIter none 0 #[] 0) (fun ψ _ _ => ⟨⟨rfl, rfl⟩, none, #[], heap_new _ _, rfl, rfl⟩)
      refine ⟨_, .pointer (some ⟨W.heap.size, 0, none⟩), _, ?_, .ptr 0 (ext_same _ _ _), hn⟩
      simp [Instr.range, run_underlying hdu]
    case map r =>
      obtain ⟨o, ho, hnew⟩ := Option.bind_eq_some_iff.1 h; clear h; have h := hnew; clear hnew
      obtain ⟨p, hp, rfl⟩ := hv.map_inv
      cases o <;> simp only at h <;> try (cases h; done)
      case map es clock =>
        simp only [Option.some.injEq, Prod.mk.injEq] at h
        obtain ⟨rfl, rfl⟩ := h
        obtain ⟨_, es', h1, h2⟩ := hs.hr.obj _ _ _ ho hp
        have hn := To.newObj hs (.mapIter (some r) clock [] clock) (.mapIter (some p.blk) clock #[] clock) (fun ψ hle _ => ⟨⟨rfl, rfl⟩, some p.blk, #[], heap_new _ _, rfl, p, hle _ _ hp, rfl⟩)
        refine ⟨_, .pointer (some ⟨W.heap.size, 0, none⟩), _, ?_, .ptr 0 (ext_same _ _ _), hn⟩
        simp [Instr.range, run_underlying hdu, getObj_at h1 (fun _ _ _ => by simp)]

/-- Another object in an object's place. -/
theorem To.setObj (hs : St E φ H W) {r : Nat} {o o2 : Obj} {p : Pl} (ho : H.look r = some o) (hl : o.live = true) (hp : φ r = some p) (hro : p.ro = false)
    {o' : Go.Obj} (h' : W.heap[p.blk]? = some o') (hc : ∀ c t f, o' ≠ .cells c t f) (o2' : Go.Obj)
    (hnew : ∀ W2 : World, W2.heap[p.blk]? = some o2' → ObjR E φ p o2 W2) :
    ∃ W', (Go.setObj p.blk o2').run P W = .ok () W' ∧ To E φ H W φ (H.put r o2) W' := by
  have hlt : p.blk < W.heap.size := (Array.getElem?_eq_some_iff.1 h').1
  refine ⟨_, setObj_at h' hc o2', ?_⟩
  refine To.put hs ho hl hp hro rfl rfl rfl (by simp) ?_ (hnew _ ?_)
  · intro b hb
    show (W.heap.setIfInBounds p.blk o2')[b]? = _
    rw [Array.getElem?_setIfInBounds_ne (Ne.symm hb)]
  · show (W.heap.setIfInBounds p.blk o2')[p.blk]? = _
    rw [Array.getElem?_setIfInBounds_self_of_lt hlt]

def nextStrV (H : Heap) (it : V) : Option (V × Heap) :=
  match it with
  | .ptr r off =>
    match Nat.beq off 0 with
    | true =>
      (H.look r).bind fun o =>
        match o with
        | .strIter len n pos =>
          match Nat.blt pos len with
          | true =>
            match utf8V len n pos with
            | (c, w) => some (.tuple [.bool true, goI pos, .int .i32 (.ofNat c)], H.put r (.strIter len n (Nat.add pos w)))
          | false => some (.tuple [.bool false], H)
        | _ => none
    | false => none
  | _ => none
theorem nextStrV_ok (hs : St E φ H W) {x : V} {x' : Value} (hv : VR φ x x') (t : TypeId) : Snd E P φ H W (nextStrV H x) (Instr.next x' true t) := by
  intro v H' h
  unfold nextStrV at h
  cases x <;> simp only at h <;> try (cases h; done)
  case ptr r off =>
    obtain ⟨p, hp, rfl⟩ := hv.ptr_inv
    cases hb : Nat.beq off 0 with
    | false => rw [hb] at h; cases h
    | true =>
      rw [hb] at h
      have hoff := of_beq_t hb
      subst hoff
      obtain ⟨o, ho, hnew⟩ := Option.bind_eq_some_iff.1 h; clear h; have h := hnew; clear hnew
      cases o <;> simp only at h <;> try (cases h; done)
      case strIter len n pos =>
        obtain ⟨⟨hro, hb0⟩, s, h1, rfl, rfl⟩ := hs.hr.obj _ _ _ ho hp
        have hadr : adr p 0 = ⟨p.blk, 0, none⟩ := by simp [adr, hb0]
        have hsz : s.data.toList.length = s.size := rfl
        cases hlt : Nat.blt pos s.data.toList.length with
        | true =>
          rw [hlt] at h
          rw [utf8V_eq] at h
          simp only [Option.some.injEq, Prod.mk.injEq] at h
          obtain ⟨rfl, rfl⟩ := h
          have hpos : pos < s.size := of_blt_t hlt
          obtain ⟨W', hw, hto⟩ := To.setObj (P := P) hs ho (o2 := .strIter s.data.toList.length (packBytes s.data.toList) (pos + (Utf8.decode s pos).2)) rfl hp hro h1 (fun _ _ _ => by simp) (.stringIter s (pos + (Utf8.decode s pos).2))
            (fun W2 h2 => ⟨⟨hro, hb0⟩, s, h2, rfl, rfl⟩)
          refine ⟨φ, _, W', ?_, VR.tuple (cs' := #[.bool true, goInt pos, .int .i32 (Utf8.decode s pos).1]) (.cons (.bool _) (.cons (goI_ok pos) (.cons (.int _ _) .nil))), hto⟩
          rw [hadr]
          unfold Instr.next
          simp only [Sem.run_bind, getObj_at h1 (fun _ _ _ => by simp), Result.andThen_ok, if_pos hpos, hw, Sem.run_pure]
        | false =>
          rw [hlt] at h
          simp only [Option.some.injEq, Prod.mk.injEq] at h
          obtain ⟨rfl, rfl⟩ := h
          have hpos : ¬ pos < s.size := fun hlt' => by
            have : Nat.blt pos s.data.toList.length = true := Nat.ble_eq_true_of_le hlt'
            rw [hlt] at this; cases this
          refine ⟨φ, _, W, ?_, VR.tuple (cs' := #[.bool false]) (.cons (.bool _) .nil), To.refl hs⟩
          rw [hadr]
          unfold Instr.next
          simp only [Sem.run_bind, getObj_at h1 (fun _ _ _ => by simp), Result.andThen_ok, if_neg hpos, Sem.run_pure]

/-- What a check against nil lets pass. -/
def nilCheckV (x : V) : Option V :=
  match x with
  | .nilPtr => none
  | .nilIface => none
  | .nilFunc => none
  | .unk => none
  | .par _ => none
  | .pin _ _ => none
  | .func fn first c =>
    match fn with
    | .func _ => some (.func fn first c)
    | .yield _ => some (.func fn first c)
    | _ => none
  | v => some v
/-- The check, as the machine does it. -/
def nilCheckM (v : Value) : Sem Next :=
  match v with
  | .pointer none | .nilIface | .nilFunc => runtimePanic .nilDeref
  | .func (.method name) first captured =>
    match (first[0]? : Option Value) with
    | some .nilIface => runtimePanic .nilDeref
    | some (.iface t w) => do
      if (← nilAhead ((← program).types.size + Made.depth) t w name) != some false then
        unsupported (.noEntry "op/nilCheck.the method's receiver behind this interface value is a nil pointer, or cannot be seen to be none, and the arguments act or may panic (ledger 612)")
      pure (.value (.func (.method name) first captured))
    | _ => pure (.value (.func (.method name) first captured))
  | x => pure (.value x)
theorem nilCheckV_ok {x v : V} {x' : Value} (hv : VR φ x x') (h : nilCheckV x = some v) : (nilCheckM x').run P W = .ok (.value x') W ∧ v = x := by
  unfold nilCheckV at h
  cases hv with
  | func hf h1 h2 =>
    cases hf with
    | func f => simp only [Option.some.injEq] at h; exact ⟨rfl, h.symm⟩
    | method s => cases h
    | methodOf t s => cases h
    | yield hp => simp only [Option.some.injEq] at h; exact ⟨rfl, h.symm⟩
  | nilPtr => cases h
  | nilIface => cases h
  | nilFunc => cases h
  | unk _ => cases h
  | par _ _ _ => cases h
  | pin _ _ => cases h
  | _ => simp only [Option.some.injEq] at h; exact ⟨rfl, h.symm⟩

/- ### type assertions -/
def hasM (ms : List Method) (name : String) (sig : TypeId) : Bool :=
  match ms with
  | [] => false
  | m :: r =>
    match m.name == name && m.sig == sig with
    | true => true
    | false => hasM r name sig
def hasAll (ms : List Method) : List (String × TypeId) → Bool
  | [] => true
  | w :: r =>
    match hasM ms w.1 w.2 with
    | true => hasAll ms r
    | false => false
theorem hasM_eq (ms : List Method) (name : String) (sig : TypeId) : hasM ms name sig = ms.any fun m => m.name == name && m.sig == sig := by
  induction ms with
  | nil => rfl
  | cons m r ih =>
    simp only [hasM, List.any_cons]
    cases hb : (m.name == name && m.sig == sig) <;> simp [ih]
theorem hasAll_eq (ms : List Method) (ws : List (String × TypeId)) : hasAll ms ws = ws.all fun w => hasM ms w.1 w.2 := by
  induction ws with
  | nil => rfl
  | cons w r ih =>
    simp only [hasAll, List.all_cons]
    cases hb : hasM ms w.1 w.2 <;> simp [ih]
theorem least_none (l : List String) : Instr.least l = none ↔ l = [] := by
  cases l <;> simp [Instr.least]
theorem missing_iff (want : Array (String × TypeId)) (ms : Array Method) : Instr.missingMethod want ms = none ↔ hasAll ms.toList want.toList = true := by
  have h1 : ∀ (name : String) (sig : TypeId), ms.any (fun m => m.name == name && m.sig == sig) = hasM ms.toList name sig := fun name sig => by
    rw [hasM_eq, Array.any_toList]
  unfold Instr.missingMethod
  rw [hasAll_eq]
  simp only [h1]
  generalize hf : (want.toList.filter fun x => match x with | (name, sig) => !hasM ms.toList name sig) = fl
  have hall : (want.toList.all fun w => hasM ms.toList w.1 w.2) = true ↔ fl = [] := by
    rw [← hf, List.filter_eq_nil_iff, List.all_eq_true]
    constructor
    · intro h x hx; simp [h x hx]
    · intro h x hx; have := h x hx; simpa using this
  rw [hall]
  constructor
  · intro h
    cases fl with
    | nil => rfl
    | cons a r =>
      exfalso
      simp only [List.map_cons, List.partition_eq_filter_filter] at h
      generalize hA : Instr.least _ = oA at h
      cases oA with
      | some s => cases h
      | none =>
      have h2 := (least_none _).1 hA
      have h3 := (least_none _).1 (show Instr.least _ = none from h)
      have h3 := List.map_eq_nil_iff.1 h3
      rw [List.filter_eq_nil_iff] at h2 h3
      have h4 := h2 a.1 (by simp)
      have h5 := h3 a.1 (by simp)
      simp_all
  · intro h; subst h; rfl

def holdsV (ok : Bool) (v : V) : Option V :=
  match ok with
  | true => some (.tuple [v, .bool true])
  | false => some v
def failsV (ok : Bool) (a : TI) : Option V :=
  match ok with
  | true => a.zero.bind fun z => some (.tuple [z, .bool false])
  | false => none
def typeAssertV (E : Env) (x : V) (asserted : Nat) (ok : Bool) : Option V :=
  (E.ti asserted).bind fun a =>
    match a.desc with
    | .interface want =>
      match x with
      | .nilIface => failsV ok a
      | .iface t w => (E.ti t).bind fun i =>
        match hasAll i.methods want.toList with
        | true => holdsV ok (.iface t w)
        | false => failsV ok a
      | _ => none
    | _ =>
      match x with
      | .nilIface => failsV ok a
      | .iface t w =>
        match Nat.beq t asserted with
        | true => holdsV ok w
        | false => failsV ok a
      | _ => none
theorem typeAssertV_ok (hE : EnvOk E P) {x : V} {x' : Value} (hv : VR φ x x') (xType asserted : Nat) (ok : Bool) : SndP P φ W (typeAssertV E x asserted ok) (Instr.typeAssert x' xType asserted ok) := by
  intro v h
  unfold typeAssertV at h
  obtain ⟨a, ha, hnew⟩ := Option.bind_eq_some_iff.1 h; clear h; have h := hnew; clear hnew
  obtain ⟨i, hi⟩ := hE.ti asserted a ha
  have hholds : ∀ (w : V) (w' : Value), VR φ w w' → holdsV ok w = some v →
      ∃ v', (pure (if ok then .tuple #[w', .bool true] else w') : Sem Value).run P W = .ok v' W ∧ VR φ v v' := fun w w' hw hh => by
    cases ok with
    | true => simp only [holdsV, Option.some.injEq] at hh; subst hh; exact ⟨_, rfl, VR.tuple (cs' := #[w', .bool true]) (.cons hw (.cons (.bool _) .nil))⟩
    | false => simp only [holdsV, Option.some.injEq] at hh; subst hh; exact ⟨_, rfl, hw⟩
  have hfails : ∀ (c : RuntimeError), failsV ok a = some v →
      ∃ v', ((if ok then (do pure (.tuple #[← zeroValue asserted, .bool false])) else runtimePanic c) : Sem Value).run P W = .ok v' W ∧ VR φ v v' := fun c hh => by
    cases ok with
    | false => cases hh
    | true =>
      obtain ⟨z, hz, hh⟩ := Option.bind_eq_some_iff.1 hh
      simp only [Option.some.injEq] at hh
      subst hh
      obtain ⟨z', hz', hzr⟩ := hi.zero z hz
      exact ⟨_, by simp [run_zeroValue hi.info hz'], VR.tuple (cs' := #[z', .bool false]) (.cons (hzr φ) (.cons (.bool _) .nil))⟩
  unfold Instr.typeAssert
  rw [Sem.run_bind, run_underlying hi.desc, Result.andThen_ok]
  cases hd : a.desc with
  | interface want =>
    rw [hd] at h
    cases x <;> simp only at h <;> try (cases h; done)
    case nilIface =>
      have := hv.nilIface_inv; subst this
      exact hfails _ h
    case iface t w =>
      obtain ⟨w', hw, rfl⟩ := hv.iface_inv
      obtain ⟨y, hy, hnew⟩ := Option.bind_eq_some_iff.1 h; clear h; have h := hnew; clear hnew
      obtain ⟨j, hj⟩ := hE.ti t y hy
      simp only [Sem.run_bind, run_typeInfo hj.info, Result.andThen_ok]
      cases hm : hasAll y.methods want.toList with
      | true =>
        rw [hm] at h
        rw [← hj.methods] at hm
        rw [(missing_iff want j.methods).2 hm]
        exact hholds _ _ (.iface t hw) h
      | false =>
        rw [hm] at h
        rw [← hj.methods] at hm
        cases hmm : Instr.missingMethod want j.methods with
        | none => rw [(missing_iff want j.methods).1 hmm] at hm; cases hm
        | some m => exact hfails _ h
  | _ =>
    rw [hd] at h
    cases x <;> simp only at h <;> try (cases h; done)
    case nilIface =>
      have := hv.nilIface_inv; subst this
      exact hfails _ h
    case iface t w =>
      obtain ⟨w', hw, rfl⟩ := hv.iface_inv
      cases hb : Nat.beq t asserted with
      | true =>
        rw [hb] at h
        simp only [if_pos (of_beq_t hb)]
        exact hholds _ _ hw h
      | false =>
        rw [hb] at h
        simp only [if_neg (of_beq_f hb)]
        exact hfails _ h

end
end
end Go.Proofs.YtcjidlgmbjebjaaDoor.Ev

/- Maps with whole numbers, strings and bools as keys. -/
namespace Go.Proofs.YtcjidlgmbjebjaaDoor.Ev
open Go
noncomputable section

abbrev Ent3 := V × V × Nat
def plainK (d : TypeDesc) : Bool :=
  match d with
  | .int _ => true
  | .string => true
  | .bool => true
  | _ => false
def sameV (d : TypeDesc) (a b : V) : Option Bool :=
  match d with
  | .int _ =>
    match a with
    | .int j x =>
      match b with
      | .int k y =>
        match decide (j = k) with
        | true => some (eqF x y)
        | false => none
      | _ => none
    | _ => none
  | .string =>
    match a with
    | .str l n =>
      match b with
      | .str l' n' =>
        match Nat.beq l l' with
        | true => some (Nat.beq n n')
        | false => some false
      | _ => none
    | _ => none
  | .bool =>
    match a with
    | .bool x =>
      match b with
      | .bool y => some (x == y)
      | _ => none
    | _ => none
  | _ => none
def findV (d : TypeDesc) (k : V) : List Ent3 → Nat → Option (Option (Nat × Ent3))
  | [], _ => some none
  | e :: r, i => (sameV d k e.1).bind fun b =>
    match b with
    | true => some (some (i, e))
    | false => findV d k r (i + 1)
def modE (f : Ent3 → Ent3) : List Ent3 → Nat → List Ent3
  | [], _ => []
  | e :: r, i =>
    match Nat.beq i 0 with
    | true => f e :: r
    | false => e :: modE f r (i - 1)
def delE : List Ent3 → Nat → List Ent3
  | [], _ => []
  | e :: r, i =>
    match Nat.beq i 0 with
    | true => r
    | false => e :: delE r (i - 1)
def bornAt (b : Nat) : List Ent3 → Nat → Option Nat
  | [], _ => none
  | e :: r, i =>
    match Nat.beq e.2.2 b with
    | true => some i
    | false => bornAt b r (i + 1)
/-- The entries of a map value, and its key and element types. -/
def mapOf (E : Env) (H : Heap) (t : Nat) (m : V) : Option (Nat × Nat × TypeDesc × List Ent3) :=
  (E.desc t).bind fun d =>
    match d with
    | .map kt et => (E.desc kt).bind fun kd =>
      match plainK kd with
      | false => none
      | true =>
        match m with
        | .nilMap => some (kt, et, kd, [])
        | .map r => (H.look r).bind fun o =>
          match o with
          | .map es _ => some (kt, et, kd, es)
          | _ => none
        | _ => none
    | _ => none
def okV (ok : Bool) (v : V) (b : Bool) : V :=
  match ok with
  | true => .tuple [v, .bool b]
  | false => v
def lookupV (E : Env) (H : Heap) (t : Nat) (m k : V) (ok : Bool) : Option V :=
  (mapOf E H t m).bind fun q => (findV q.2.2.1 k q.2.2.2 0).bind fun f =>
    match f with
    | some e => some (okV ok e.2.2.1 true)
    | none => (E.ti q.2.1).bind fun x => x.zero.bind fun z => some (okV ok z false)
/-- A map that is written: its number, its entries and clock. -/
def mapAt (E : Env) (H : Heap) (t : Nat) (m : V) : Option (Nat × Nat × TypeDesc × List Ent3 × Nat) :=
  (E.desc t).bind fun d =>
    match d with
    | .map kt et => (E.desc kt).bind fun kd =>
      match plainK kd with
      | false => none
      | true =>
        match m with
        | .map r => (H.look r).bind fun o =>
          match o with
          | .map es clock => some (r, et, kd, es, clock)
          | _ => none
        | _ => none
    | _ => none
def mapUpdateV (E : Env) (H : Heap) (t : Nat) (m k x : V) : Option Heap :=
  match x.one with
  | _ => (mapAt E H t m).bind fun q => (findV q.2.2.1 k q.2.2.2.1 0).bind fun f =>
    match f with
    | some e => some (H.put q.1 (.map (modE (fun y => (k, x, y.2.2)) q.2.2.2.1 e.1) q.2.2.2.2))
    | none => some (H.put q.1 (.map (q.2.2.2.1 ++ [(k, x, q.2.2.2.2)]) (Nat.succ q.2.2.2.2)))
def mapEntryV (E : Env) (H : Heap) (t : Nat) (m k : V) : Option (V × Heap) :=
  (mapAt E H t m).bind fun q => (findV q.2.2.1 k q.2.2.2.1 0).bind fun f =>
    match f with
    | some e => some (.tuple [e.2.2.1, goI e.2.2.2], H.put q.1 (.map (modE (fun y => (k, y.2.1, y.2.2)) q.2.2.2.1 e.1) q.2.2.2.2))
    | none => (E.ti q.2.1).bind fun x => x.zero.bind fun z =>
      some (.tuple [z, goI q.2.2.2.2], H.put q.1 (.map (q.2.2.2.1 ++ [(k, z, q.2.2.2.2)]) (Nat.succ q.2.2.2.2)))
def entryStoreV (H : Heap) (m s x : V) : Option Heap :=
  match m with
  | .map r => (H.look r).bind fun o =>
    match o with
    | .map es clock =>
      match s with
      | .int _ b =>
        match b with
        | .ofNat b => (bornAt b es 0).bind fun i => some (H.put r (.map (modE (fun y => (y.1, x, y.2.2)) es i) clock))
        | .negSucc _ => none
      | _ => none
    | _ => none
  | _ => none
def deleteV (E : Env) (H : Heap) (t : Nat) (m k : V) : Option (V × Heap) :=
  match m with
  | .nilMap => (mapOf E H t m).bind fun _ => some (.tuple [], H)
  | _ => (mapAt E H t m).bind fun q => (findV q.2.2.1 k q.2.2.2.1 0).bind fun f =>
    match f with
    | some e => some (.tuple [], H.put q.1 (.map (delE q.2.2.2.1 e.1) q.2.2.2.2))
    | none => some (.tuple [], H.put q.1 (.map q.2.2.2.1 q.2.2.2.2))
def clearV (E : Env) (H : Heap) (t : Nat) (m : V) : Option (V × Heap) :=
  (E.desc t).bind fun d =>
    match d with
    | .map _ _ =>
      match m with
      | .nilMap => some (.tuple [], H)
      | .map r => (H.look r).bind fun o =>
        match o with
        | .map _ clock => some (.tuple [], H.put r (.map [] clock))
        | _ => none
      | _ => none
    | _ => none
def memN (n : Nat) : List Nat → Bool
  | [] => false
  | x :: r =>
    match Nat.beq x n with
    | true => true
    | false => memN n r
def unseen (seen : List Nat) : List Ent3 → List Ent3
  | [] => []
  | e :: r =>
    match memN e.2.2 seen with
    | true => unseen seen r
    | false => e :: unseen seen r
def allFrom (b : Nat) : List Ent3 → Bool
  | [] => true
  | e :: r =>
    match Nat.ble b e.2.2 with
    | true => allFrom b r
    | false => false
def isNil {α : Type} : List α → Bool
  | [] => true
  | _ :: _ => false
/-- The next entry, where there is no choice. -/
def nextMapV (H : Heap) (it : V) : Option (V × Heap) :=
  match it with
  | .ptr r off =>
    match Nat.beq off 0 with
    | true => (H.look r).bind fun o =>
      match o with
      | .mapIter m since seen last =>
        match m with
        | none => some (.tuple [.bool false], H)
        | some mr => (H.look mr).bind fun mo =>
          match mo with
          | .map es clock =>
            match and (not (isNil seen)) (and (not (isNil es)) (allFrom last es)) with
            | true => none
            | false =>
              match unseen seen es with
              | [] => some (.tuple [.bool false], H)
              | e :: rest =>
                match rest with
                | [] =>
                  match Nat.blt e.2.2 since with
                  | true => some (.tuple [.bool true, e.1, e.2.1], H.put r (.mapIter (some mr) since (seen ++ [e.2.2]) clock))
                  | false => none
                | _ :: _ => none
          | _ => none
      | _ => none
    | false => none
  | _ => none

section
variable {E : Env} {P : Program} {φ : Pm} {H : Heap} {W : World}

theorem sameV_ok {d : TypeDesc} {a b : V} {a' b' : Value} (ha : VR φ a a') (hb : VR φ b b') {t : Bool} (h : sameV d a b = some t) : Instr.sameNow d a' b' = some t := by
  unfold sameV at h
  cases d <;> simp only at h <;> try (cases h; done)
  case int kk =>
    cases a <;> simp only at h <;> try (cases h; done)
    case int j x =>
      cases b <;> simp only at h <;> try (cases h; done)
      case int k y =>
        have := ha.int_inv; subst this
        have := hb.int_inv; subst this
        cases hd : decide (j = k) with
        | false => rw [hd] at h; cases h
        | true =>
          rw [hd] at h
          simp only [Option.some.injEq] at h
          subst h
          simp only [decide_eq_true_eq] at hd
          subst hd
          simp [Instr.sameNow, eqF_eq]
  case string =>
    cases a <;> simp only at h <;> try (cases h; done)
    case str l n =>
      cases b <;> simp only at h <;> try (cases h; done)
      case str l' n' =>
        obtain ⟨s, rfl, rfl, rfl⟩ := ha.str_inv
        obtain ⟨s', rfl, rfl, rfl⟩ := hb.str_inv
        have hne : s.data.toList ≠ s'.data.toList → (s == s') = false := fun hxy => by
          show (s.data == s'.data) = false
          rw [beq_eq_false_iff_ne]; intro e; exact hxy (by rw [e])
        cases hl : Nat.beq s.data.toList.length s'.data.toList.length with
        | false =>
          rw [hl] at h
          simp only [Option.some.injEq] at h
          subst h
          show some (s == s') = _
          rw [hne (fun e => of_beq_f hl (by rw [e]))]
        | true =>
          rw [hl] at h
          simp only [Option.some.injEq] at h
          subst h
          show some (s == s') = _
          congr 1
          cases hn : Nat.beq (packBytes s.data.toList) (packBytes s'.data.toList) with
          | false => exact hne (fun e => of_beq_f hn (by rw [e]))
          | true =>
            have := packBytes_inj (of_beq_t hl) (of_beq_t hn)
            show (s.data == s'.data) = true
            rw [beq_iff_eq]
            exact Array.ext' this
  case bool =>
    cases a <;> simp only at h <;> try (cases h; done)
    case bool x =>
      cases b <;> simp only at h <;> try (cases h; done)
      case bool y =>
        have := ha.bool_inv; subst this
        have := hb.bool_inv; subst this
        exact h
theorem findV_ok {d : TypeDesc} {k : V} {k' : Value} (hk : VR φ k k') : ∀ {l : List Ent3} {l' : List MapEntry} (_ : EntsR φ l l') (i : Nat) (f : Option (Nat × Ent3)), findV d k l i = some f →
    (match f with
    | none => Instr.findNow d k' l' i = some none
    | some (j, e) => ∃ e', Instr.findNow d k' l' i = some (some (j, e'.val)) ∧ i ≤ j ∧ l[j - i]? = some e ∧ l'[j - i]? = some e' ∧ EntR φ e e' ∧ sameV d k e.1 = some true)
  | _, _, .nil, i, f, h => by
    simp only [findV, Option.some.injEq] at h
    subst h
    rfl
  | _, _, .cons (a := a) (b := b) h0 hs, i, f, h => by
    unfold findV at h
    obtain ⟨t, ht, hnew⟩ := Option.bind_eq_some_iff.1 h; clear h; have h := hnew; clear hnew
    have hsm := sameV_ok hk h0.key ht
    cases t with
    | true =>
      simp only [Option.some.injEq] at h
      subst h
      exact ⟨b, by simp [Instr.findNow, hsm], Nat.le_refl _, by simp, by simp, h0, ht⟩
    | false =>
      simp only at h
      have ih := findV_ok hk hs (i + 1) f h
      cases f with
      | none =>
        simp only at ih ⊢
        simp [Instr.findNow, hsm, ih]
      | some q =>
        obtain ⟨j, e⟩ := q
        simp only at ih ⊢
        obtain ⟨e', h1, h2, h3, h4, h5, h6⟩ := ih
        have hj : j - i = (j - (i + 1)) + 1 := by omega
        exact ⟨e', by simp [Instr.findNow, hsm, h1], by omega, by rw [hj, List.getElem?_cons_succ]; exact h3, by rw [hj, List.getElem?_cons_succ]; exact h4, h5, h6⟩

theorem run_checkKey {t : TypeId} {d : TypeDesc} (h : P.underlying t = some d) (hp : plainK d = true) (b : Bool) (n : Nat) (v : Value) : (Instr.checkKey b (n + 1) t v).run P W = .ok () W := by
  unfold Instr.checkKey
  rw [Sem.run_bind, run_underlying h, Result.andThen_ok]
  cases d <;> simp only [plainK] at hp <;> first | (cases hp; done) | rfl
theorem run_checkKey0 {t : TypeId} {d : TypeDesc} (h : P.underlying t = some d) (hp : plainK d = true) (b : Bool) (v : Value) : (Instr.checkKey b 10000 t v).run P W = .ok () W := run_checkKey h hp b 9999 v
theorem run_findKey {t : TypeId} {d : TypeDesc} (h : P.underlying t = some d) {k : Value} {es : List MapEntry} {f : Option (Nat × Value)} (hf : Instr.findNow d k es 0 = some f) : (Instr.findKey t k es).run P W = .ok f W := by
  unfold Instr.findKey
  rw [Sem.run_bind, run_underlying h, Result.andThen_ok, hf]
  rfl
theorem run_stays {d : TypeDesc} {k e : V} {k' e' : Value} (hk : VR φ k k') (he : VR φ e e') (h : sameV d k e = some true) : (Instr.keyThatStays e' k').run P W = .ok k' W := by
  have hs : Instr.sameBits 10000 e' k' = true := by
    have hsm := sameV_ok hk he h
    unfold sameV at h
    cases d <;> simp only at h <;> try (cases h; done)
    case int kk =>
      cases k <;> simp only at h <;> try (cases h; done)
      cases e <;> simp only at h <;> try (cases h; done)
      have := hk.int_inv; subst this
      have := he.int_inv; subst this
      simp only [Instr.sameNow] at hsm
      split at hsm
      · rename_i hkk
        subst hkk
        simp only [Option.some.injEq, beq_iff_eq] at hsm
        subst hsm
        simp [Instr.sameBits]
      · cases hsm
    case string =>
      cases k <;> simp only at h <;> try (cases h; done)
      cases e <;> simp only at h <;> try (cases h; done)
      obtain ⟨s, rfl, _, _⟩ := hk.str_inv
      obtain ⟨s', rfl, _, _⟩ := he.str_inv
      have hsm : some (s.data == s'.data) = some true := hsm
      simp only [Option.some.injEq, beq_iff_eq] at hsm
      have hsm : s = s' := by
        cases s with | mk d => cases s' with | mk d' => congr 1
      subst hsm
      show (s.data == s.data) = true
      simp
    case bool =>
      cases k <;> simp only at h <;> try (cases h; done)
      cases e <;> simp only at h <;> try (cases h; done)
      have := hk.bool_inv; subst this
      have := he.bool_inv; subst this
      have hsm : some (_ == _) = some true := hsm
      simp only [Option.some.injEq, beq_iff_eq] at hsm
      subst hsm
      simp [Instr.sameBits]
  unfold Instr.keyThatStays
  rw [hs]
  rfl

theorem EntsR.get : ∀ {l : List Ent3} {l' : List MapEntry}, EntsR φ l l' → ∀ (i : Nat) (e : Ent3), l[i]? = some e → ∃ e', l'[i]? = some e' ∧ EntR φ e e'
  | _, _, .nil, i, e, h => by simp at h
  | _, _, .cons h0 hs, 0, e, h => by simp at h; subst h; exact ⟨_, rfl, h0⟩
  | _, _, .cons h0 hs, i + 1, e, h => by
    rw [List.getElem?_cons_succ] at h ⊢
    exact hs.get i e h
theorem EntsR.append {l m : List Ent3} {l' m' : List MapEntry} (h : EntsR φ l l') (k : EntsR φ m m') : EntsR φ (l ++ m) (l' ++ m') := by
  induction h with
  | nil => exact k
  | cons h0 _ ih => exact .cons h0 ih
theorem EntsR.modify {f : Ent3 → Ent3} {g : MapEntry → MapEntry} (hfg : ∀ a b, EntR φ a b → EntR φ (f a) (g b)) : ∀ {l : List Ent3} {l' : List MapEntry}, EntsR φ l l' → ∀ i, EntsR φ (modE f l i) (l'.modify i g)
  | _, _, .nil, i => by cases i <;> exact .nil
  | _, _, .cons h0 hs, 0 => by simp [modE]; exact .cons (hfg _ _ h0) hs
  | _, _, .cons h0 hs, i + 1 => by
    rw [List.modify_succ_cons]
    exact .cons h0 (hs.modify hfg i)
theorem EntsR.erase : ∀ {l : List Ent3} {l' : List MapEntry}, EntsR φ l l' → ∀ i, EntsR φ (delE l i) (l'.eraseIdx i)
  | _, _, .nil, i => by cases i <;> exact .nil
  | _, _, .cons h0 hs, 0 => by simp [delE]; exact hs
  | _, _, .cons h0 hs, i + 1 => by
    rw [List.eraseIdx_cons_succ]
    exact .cons h0 (hs.erase i)

/-- What a map that is read has. -/
theorem mapOf_ok (hE : EnvOk E P) (hs : St E φ H W) {t : Nat} {m : V} {m' : Value} (hm : VR φ m m') {q : Nat × Nat × TypeDesc × List Ent3} (h : mapOf E H t m = some q) :
    P.underlying t = some (.map q.1 q.2.1) ∧ P.underlying q.1 = some q.2.2.1 ∧ plainK q.2.2.1 = true ∧
      ((m' = .map none ∧ q.2.2.2 = []) ∨ ∃ r es' clock, m' = .map (some r) ∧ W.heap[r]? = some (.map es' clock) ∧ EntsR φ q.2.2.2 es'.toList) := by
  unfold mapOf at h
  obtain ⟨d, hd, hnew⟩ := Option.bind_eq_some_iff.1 h; clear h; have h := hnew; clear hnew
  have hdu := hE.desc hd
  cases d <;> simp only at h <;> try (cases h; done)
  case map kt et =>
    obtain ⟨kd, hkd, hnew⟩ := Option.bind_eq_some_iff.1 h; clear h; have h := hnew; clear hnew
    cases hp : plainK kd with
    | false => rw [hp] at h; cases h
    | true =>
      rw [hp] at h
      simp only at h
      cases m <;> simp only at h <;> try (cases h; done)
      case nilMap =>
        simp only [Option.some.injEq] at h
        subst h
        exact ⟨hdu, hE.desc hkd, hp, .inl ⟨hm.nilMap_inv, rfl⟩⟩
      case map r =>
        obtain ⟨o, ho, hnew⟩ := Option.bind_eq_some_iff.1 h; clear h; have h := hnew; clear hnew
        cases o <;> simp only at h <;> try (cases h; done)
        case map es clock =>
          simp only [Option.some.injEq] at h
          subst h
          obtain ⟨p, hp2, rfl⟩ := hm.map_inv
          obtain ⟨_, es', h1, h2⟩ := hs.hr.obj _ _ _ ho hp2
          exact ⟨hdu, hE.desc hkd, hp, .inr ⟨_, es', clock, rfl, h1, h2⟩⟩
theorem mapAt_ok (hE : EnvOk E P) (hs : St E φ H W) {t : Nat} {m : V} {m' : Value} (hm : VR φ m m') {q : Nat × Nat × TypeDesc × List Ent3 × Nat} (h : mapAt E H t m = some q) :
    ∃ kt p es', P.underlying t = some (.map kt q.2.1) ∧ P.underlying kt = some q.2.2.1 ∧ plainK q.2.2.1 = true ∧ m' = .map (some p.blk) ∧ φ q.1 = some p ∧ p.ro = false ∧ H.look q.1 = some (.map q.2.2.2.1 q.2.2.2.2) ∧
      W.heap[p.blk]? = some (.map es' q.2.2.2.2) ∧ EntsR φ q.2.2.2.1 es'.toList := by
  unfold mapAt at h
  obtain ⟨d, hd, hnew⟩ := Option.bind_eq_some_iff.1 h; clear h; have h := hnew; clear hnew
  have hdu := hE.desc hd
  cases d <;> simp only at h <;> try (cases h; done)
  case map kt et =>
    obtain ⟨kd, hkd, hnew⟩ := Option.bind_eq_some_iff.1 h; clear h; have h := hnew; clear hnew
    cases hp : plainK kd with
    | false => rw [hp] at h; cases h
    | true =>
      rw [hp] at h
      simp only at h
      cases m <;> simp only at h <;> try (cases h; done)
      case map r =>
        obtain ⟨o, ho, hnew⟩ := Option.bind_eq_some_iff.1 h; clear h; have h := hnew; clear hnew
        cases o <;> simp only at h <;> try (cases h; done)
        case map es clock =>
          simp only [Option.some.injEq] at h
          subst h
          obtain ⟨p, hp2, rfl⟩ := hm.map_inv
          obtain ⟨hro, es', h1, h2⟩ := hs.hr.obj _ _ _ ho hp2
          exact ⟨kt, p, es', hdu, hE.desc hkd, hp, rfl, hp2, hro, ho, h1, h2⟩

theorem lookupV_ok (hE : EnvOk E P) (hs : St E φ H W) {t : Nat} {m k : V} {m' k' : Value} (hm : VR φ m m') (hk : VR φ k k') (ok : Bool) : SndP P φ W (lookupV E H t m k ok) (Instr.lookup t m' k' ok) := by
  intro v h
  unfold lookupV at h
  obtain ⟨q, hq, hnew⟩ := Option.bind_eq_some_iff.1 h; clear h; have h := hnew; clear hnew
  obtain ⟨f, hf, hnew⟩ := Option.bind_eq_some_iff.1 h; clear h; have h := hnew; clear hnew
  obtain ⟨h1, h2, h3, h4⟩ := mapOf_ok (P := P) hE hs hm hq
  have hall : ∀ (es' : Array MapEntry), EntsR φ q.2.2.2 es'.toList →
      ∃ v', (do
        Instr.checkKey es'.isEmpty 10000 q.1 k'
        let (v, ok') ← match ← Instr.findKey q.1 k' es'.toList with
          | some (_, v) => pure (v, true)
          | none => pure (← zeroValue q.2.1, false)
        pure (if ok then .tuple #[v, .bool ok'] else v) : Sem Value).run P W = .ok v' W ∧ VR φ v v' := fun es' hes => by
    have hfv := findV_ok hk hes 0 f hf
    rw [Sem.run_bind, run_checkKey0 h2 h3, Result.andThen_ok, Sem.run_bind]
    cases f with
    | some e =>
      simp only [Option.some.injEq] at h
      subst h
      simp only at hfv
      obtain ⟨e', hf1, _, _, _, hf5, _⟩ := hfv
      simp only [Sem.run_bind, run_findKey h2 hf1, Result.andThen_ok, Sem.run_pure]
      cases ok with
      | true => exact ⟨_, rfl, VR.tuple (cs' := #[e'.val, .bool true]) (.cons hf5.val (.cons (.bool _) .nil))⟩
      | false => exact ⟨_, rfl, hf5.val⟩
    | none =>
      simp only at h hfv
      obtain ⟨x, hx, hnew⟩ := Option.bind_eq_some_iff.1 h; clear h; have h := hnew; clear hnew
      obtain ⟨z, hz, hnew⟩ := Option.bind_eq_some_iff.1 h; clear h; have h := hnew; clear hnew
      simp only [Option.some.injEq] at h
      subst h
      obtain ⟨i, hi⟩ := hE.ti _ x hx
      obtain ⟨z', hz', hzr⟩ := hi.zero z hz
      simp only [Sem.run_bind, run_findKey h2 hfv, Result.andThen_ok, run_zeroValue hi.info hz', Sem.run_pure]
      cases ok with
      | true => exact ⟨_, rfl, VR.tuple (cs' := #[z', .bool false]) (.cons (hzr φ) (.cons (.bool _) .nil))⟩
      | false => exact ⟨_, rfl, hzr φ⟩
  unfold Instr.lookup
  rw [Sem.run_bind, run_underlying h1, Result.andThen_ok]
  rcases h4 with ⟨rfl, hnil⟩ | ⟨r, es', clock, rfl, h5, h6⟩
  · have := hall #[] (by rw [hnil]; exact .nil)
    simp only [Sem.run_bind, Result.andThen_ok, Sem.run_pure] at this ⊢
    exact this
  · have := hall es' h6
    simp only [Sem.run_bind, getObj_at h5 (fun _ _ _ => by simp), Result.andThen_ok, Sem.run_pure] at this ⊢
    exact this

theorem toList_modify' (es : Array MapEntry) (i : Nat) (g : MapEntry → MapEntry) : (es.modify i g).toList = es.toList.modify i g := by
  apply List.ext_getElem?
  intro j
  rw [List.getElem?_modify, Array.getElem?_toList, Array.getElem?_modify, Array.getElem?_toList]
  by_cases h : i = j
  · simp [h]
  · simp [h]

theorem mapUpdateV_ok (hE : EnvOk E P) (hs : St E φ H W) {t : Nat} {m k x : V} {m' k' x' : Value} (hm : VR φ m m') (hk : VR φ k k') (hx : VR φ x x') : SndU E P φ H W (mapUpdateV E H t m k x) (Instr.mapUpdate t m' k' x') := by
  intro H' h
  unfold mapUpdateV at h
  simp only at h
  obtain ⟨q, hq, hnew⟩ := Option.bind_eq_some_iff.1 h; clear h; have h := hnew; clear hnew
  obtain ⟨f, hf, hnew⟩ := Option.bind_eq_some_iff.1 h; clear h; have h := hnew; clear hnew
  obtain ⟨kt, p, es', h1, h2, h3, rfl, hp, hro, hlook, h5, h6⟩ := mapAt_ok (P := P) hE hs hm hq
  have hfv := findV_ok hk h6 0 f hf
  unfold Instr.mapUpdate
  rw [Sem.run_bind, run_underlying h1, Result.andThen_ok]
  cases f with
  | some e =>
    obtain ⟨j, e⟩ := e
    simp only [Option.some.injEq] at h
    subst h
    simp only at hfv
    obtain ⟨e', hf1, _, _, hf4, hf5, hf6⟩ := hfv
    rw [Nat.sub_zero, Array.getElem?_toList] at hf4
    obtain ⟨W', hw, hto⟩ := To.setObj (P := P) hs hlook (o2 := .map (modE (fun y => (k, x, y.2.2)) q.2.2.2.1 j) q.2.2.2.2) rfl hp hro h5 (fun _ _ _ => by simp) (.map (es'.modify j fun e => { e with key := k', val := x' }) q.2.2.2.2)
      (fun W2 h7 => ⟨hro, _, h7, by rw [toList_modify']; exact h6.modify (f := fun y => (k, x, y.2.2)) (g := fun e => { e with key := k', val := x' }) (fun a b hab => ⟨hk, hx, hab.born⟩) j⟩)
    refine ⟨W', ?_, hto⟩
    simp only [Sem.run_bind, getObj_at h5 (fun _ _ _ => by simp), run_checkKey0 h2 h3, run_findKey h2 hf1, Result.andThen_ok, hf4, Option.map_some, Option.getD_some, run_stays hk hf5.key hf6, hw]
  | none =>
    simp only [Option.some.injEq] at h
    subst h
    simp only at hfv
    obtain ⟨W', hw, hto⟩ := To.setObj (P := P) hs hlook (o2 := .map (q.2.2.2.1 ++ [(k, x, q.2.2.2.2)]) (Nat.succ q.2.2.2.2)) rfl hp hro h5 (fun _ _ _ => by simp) (.map (es'.push { key := k', val := x', born := q.2.2.2.2 }) (q.2.2.2.2 + 1))
      (fun W2 h7 => ⟨hro, _, h7, by rw [Array.toList_push]; exact h6.append (.cons ⟨hk, hx, rfl⟩ .nil)⟩)
    refine ⟨W', ?_, hto⟩
    simp only [Sem.run_bind, getObj_at h5 (fun _ _ _ => by simp), run_checkKey0 h2 h3, run_findKey h2 hfv, Result.andThen_ok, hw]

theorem mapEntryV_ok (hE : EnvOk E P) (hs : St E φ H W) {t : Nat} {m k : V} {m' k' : Value} (hm : VR φ m m') (hk : VR φ k k') : Snd E P φ H W (mapEntryV E H t m k) (Instr.mapEntry t m' k') := by
  intro v H' h
  unfold mapEntryV at h
  obtain ⟨q, hq, hnew⟩ := Option.bind_eq_some_iff.1 h; clear h; have h := hnew; clear hnew
  obtain ⟨f, hf, hnew⟩ := Option.bind_eq_some_iff.1 h; clear h; have h := hnew; clear hnew
  obtain ⟨kt, p, es', h1, h2, h3, rfl, hp, hro, hlook, h5, h6⟩ := mapAt_ok (P := P) hE hs hm hq
  have hfv := findV_ok hk h6 0 f hf
  unfold Instr.mapEntry
  rw [Sem.run_bind, run_underlying h1, Result.andThen_ok]
  cases f with
  | some e =>
    obtain ⟨j, e⟩ := e
    simp only [Option.some.injEq, Prod.mk.injEq] at h
    obtain ⟨rfl, rfl⟩ := h
    simp only at hfv
    obtain ⟨e', hf1, _, _, hf4, hf5, hf6⟩ := hfv
    rw [Nat.sub_zero, Array.getElem?_toList] at hf4
    obtain ⟨W', hw, hto⟩ := To.setObj (P := P) hs hlook (o2 := .map (modE (fun y => (k, y.2.1, y.2.2)) q.2.2.2.1 j) q.2.2.2.2) rfl hp hro h5 (fun _ _ _ => by simp) (.map (es'.modify j fun e => { e with key := k' }) q.2.2.2.2)
      (fun W2 h7 => ⟨hro, _, h7, by rw [toList_modify']; exact h6.modify (f := fun y => (k, y.2.1, y.2.2)) (g := fun e => { e with key := k' }) (fun a b hab => ⟨hk, hab.val, hab.born⟩) j⟩)
    refine ⟨φ, .tuple #[e'.val, goInt e'.born], W', ?_, VR.tuple (.cons hf5.val (.cons (by rw [hf5.born]; exact goI_ok _) .nil)), hto⟩
    simp only [Sem.run_bind, getObj_at h5 (fun _ _ _ => by simp), run_checkKey0 h2 h3, run_findKey h2 hf1, Result.andThen_ok, hf4, Option.map_some, Option.getD_some, run_stays hk hf5.key hf6, hw, Sem.run_pure]
  | none =>
    simp only at h hfv
    obtain ⟨x, hx, hnew⟩ := Option.bind_eq_some_iff.1 h; clear h; have h := hnew; clear hnew
    obtain ⟨z, hz, hnew⟩ := Option.bind_eq_some_iff.1 h; clear h; have h := hnew; clear hnew
    simp only [Option.some.injEq, Prod.mk.injEq] at h
    obtain ⟨rfl, rfl⟩ := h
    obtain ⟨i, hi⟩ := hE.ti _ x hx
    obtain ⟨z', hz', hzr⟩ := hi.zero z hz
    obtain ⟨W', hw, hto⟩ := To.setObj (P := P) hs hlook (o2 := .map (q.2.2.2.1 ++ [(k, z, q.2.2.2.2)]) (Nat.succ q.2.2.2.2)) rfl hp hro h5 (fun _ _ _ => by simp) (.map (es'.push { key := k', val := z', born := q.2.2.2.2 }) (q.2.2.2.2 + 1))
      (fun W2 h7 => ⟨hro, _, h7, by rw [Array.toList_push]; exact h6.append (.cons ⟨hk, hzr φ, rfl⟩ .nil)⟩)
    refine ⟨φ, .tuple #[z', goInt q.2.2.2.2], W', ?_, VR.tuple (.cons (hzr φ) (.cons (goI_ok _) .nil)), hto⟩
    simp only [Sem.run_bind, getObj_at h5 (fun _ _ _ => by simp), run_checkKey0 h2 h3, run_findKey h2 hfv, Result.andThen_ok, run_zeroValue hi.info hz', hw, Sem.run_pure]

theorem bornAt_ok (b : Nat) : ∀ {l : List Ent3} {l' : List MapEntry}, EntsR φ l l' → ∀ (i j : Nat), bornAt b l i = some j → i ≤ j ∧ l'.findIdx? (fun e => (e.born : Int) == (b : Int)) = some (j - i)
  | _, _, .nil, i, j, h => by cases h
  | _, _, .cons (a := a) (b := c) h0 hs, i, j, h => by
    unfold bornAt at h
    cases hb : Nat.beq a.2.2 b with
    | true =>
      rw [hb] at h
      simp only [Option.some.injEq] at h
      subst h
      have := of_beq_t hb
      refine ⟨Nat.le_refl _, ?_⟩
      rw [List.findIdx?_cons]
      have : ((c.born : Int) == (b : Int)) = true := by rw [← h0.born, this]; simp
      simp [this]
    | false =>
      rw [hb] at h
      obtain ⟨h1, h2⟩ := bornAt_ok b hs (i + 1) j h
      refine ⟨by omega, ?_⟩
      have hne := of_beq_f hb
      have : ((c.born : Int) == (b : Int)) = false := by
        rw [← h0.born, beq_eq_false_iff_ne]; intro e; exact hne (by omega)
      rw [List.findIdx?_cons, this, h2]
      simp; omega
theorem entryStoreV_ok (hs : St E φ H W) (t : TypeId) {m s x : V} {m' s' x' : Value} (hm : VR φ m m') (hsv : VR φ s s') (hx : VR φ x x') : SndU E P φ H W (entryStoreV H m s x) (Instr.entryStore t m' s' x') := by
  intro H' h
  unfold entryStoreV at h
  cases m <;> simp only at h <;> try (cases h; done)
  case map r =>
    obtain ⟨o, ho, hnew⟩ := Option.bind_eq_some_iff.1 h; clear h; have h := hnew; clear hnew
    cases o <;> simp only at h <;> try (cases h; done)
    case map es clock =>
      cases s <;> simp only at h <;> try (cases h; done)
      case int kk b =>
        cases b <;> simp only at h <;> try (cases h; done)
        case ofNat b =>
          obtain ⟨i, hi, hnew⟩ := Option.bind_eq_some_iff.1 h; clear h; have h := hnew; clear hnew
          simp only [Option.some.injEq] at h
          subst h
          obtain ⟨p, hp, rfl⟩ := hm.map_inv
          have := hsv.int_inv; subst this
          obtain ⟨hro, es', h1, h2⟩ := hs.hr.obj _ _ _ ho hp
          obtain ⟨_, hfi⟩ := bornAt_ok b h2 0 i hi
          rw [Nat.sub_zero] at hfi
          obtain ⟨W', hw, hto⟩ := To.setObj (P := P) hs ho (o2 := .map (modE (fun y => (y.1, x, y.2.2)) es i) clock) rfl hp hro h1 (fun _ _ _ => by simp) (.map (es'.modify i fun e => { e with val := x' }) clock)
            (fun W2 h7 => ⟨hro, _, h7, by rw [toList_modify']; exact h2.modify (f := fun y => (y.1, x, y.2.2)) (g := fun e => { e with val := x' }) (fun a b hab => ⟨hab.key, hx, hab.born⟩) i⟩)
          refine ⟨W', ?_, hto⟩
          have hfi' : es'.findIdx? (fun e => (e.born : Int) == (Int.ofNat b)) = some i := by
            rw [← hfi]; cases es'; rw [List.findIdx?_toArray]; rfl
          unfold Instr.entryStore
          simp only [Sem.run_bind, getObj_at h1 (fun _ _ _ => by simp), asInt, asIntOf, Sem.run_pure, Result.andThen_ok, hfi', hw]

theorem deleteV_ok (hE : EnvOk E P) (hs : St E φ H W) {t : Nat} {m k : V} {m' k' : Value} (hm : VR φ m m') (hk : VR φ k k') (ts : Array TypeId) (hts : ts[0]? = some t) (ty : TypeId) : Snd E P φ H W (deleteV E H t m k) (Builtin.delete_ ts ty #[m', k']) := by
  intro v H' h
  unfold deleteV at h
  by_cases hn : m = .nilMap
  · subst hn
    simp only at h
    obtain ⟨q, hq, hnew⟩ := Option.bind_eq_some_iff.1 h; clear h; have h := hnew; clear hnew
    simp only [Option.some.injEq, Prod.mk.injEq] at h
    obtain ⟨rfl, rfl⟩ := h
    obtain ⟨h1, h2, h3, h4⟩ := mapOf_ok (P := P) hE hs hm hq
    have := hm.nilMap_inv; subst this
    refine ⟨φ, .tuple #[], W, ?_, VR.tuple (cs' := #[]) .nil, To.refl hs⟩
    unfold Builtin.delete_
    simp [hts, run_underlying h1, run_checkKey0 h2 h3]
  · have h : ((mapAt E H t m).bind fun q => (findV q.2.2.1 k q.2.2.2.1 0).bind fun f =>
      match f with
      | some e => some (V.tuple [], H.put q.1 (.map (delE q.2.2.2.1 e.1) q.2.2.2.2))
      | none => some (V.tuple [], H.put q.1 (.map q.2.2.2.1 q.2.2.2.2))) = some (v, H') := by
      cases m <;> first | exact h | exact absurd rfl hn
    obtain ⟨q, hq, hnew⟩ := Option.bind_eq_some_iff.1 h; clear h; have h := hnew; clear hnew
    obtain ⟨f, hf, hnew⟩ := Option.bind_eq_some_iff.1 h; clear h; have h := hnew; clear hnew
    obtain ⟨kt, p, es', h1, h2, h3, rfl, hp, hro, hlook, h5, h6⟩ := mapAt_ok (P := P) hE hs hm hq
    have hfv := findV_ok hk h6 0 f hf
    cases f with
    | some e =>
      obtain ⟨j, e⟩ := e
      simp only [Option.some.injEq, Prod.mk.injEq] at h
      obtain ⟨rfl, rfl⟩ := h
      simp only at hfv
      obtain ⟨e', hf1, _, _, hf4, hf5, hf6⟩ := hfv
      obtain ⟨W', hw, hto⟩ := To.setObj (P := P) hs hlook (o2 := .map (delE q.2.2.2.1 j) q.2.2.2.2) rfl hp hro h5 (fun _ _ _ => by simp) (.map (es'.eraseIdxIfInBounds j) q.2.2.2.2)
        (fun W2 h7 => ⟨hro, _, h7, by
          have : (es'.eraseIdxIfInBounds j).toList = es'.toList.eraseIdx j := by
            unfold Array.eraseIdxIfInBounds
            split
            · simp
            · rw [List.eraseIdx_of_length_le (by simp; omega)]
          rw [this]; exact h6.erase j⟩)
      refine ⟨φ, .tuple #[], W', ?_, VR.tuple (cs' := #[]) .nil, hto⟩
      unfold Builtin.delete_
      simp [hts, run_underlying h1, getObj_at h5, run_checkKey0 h2 h3, run_findKey h2 hf1, hw]
    | none =>
      simp only [Option.some.injEq, Prod.mk.injEq] at h
      obtain ⟨rfl, rfl⟩ := h
      simp only at hfv
      obtain ⟨W', hw, hto⟩ := To.setObj (P := P) hs hlook (o2 := .map q.2.2.2.1 q.2.2.2.2) rfl hp hro h5 (fun _ _ _ => by simp) (.map es' q.2.2.2.2)
        (fun W2 h7 => ⟨hro, _, h7, h6⟩)
      refine ⟨φ, .tuple #[], W', ?_, VR.tuple (cs' := #[]) .nil, hto⟩
      unfold Builtin.delete_
      simp [hts, run_underlying h1, getObj_at h5, run_checkKey0 h2 h3, run_findKey h2 hfv, hw]

theorem clearV_ok (hE : EnvOk E P) (hs : St E φ H W) {t : Nat} {m : V} {m' : Value} (hm : VR φ m m') (ts : Array TypeId) (hts : ts[0]? = some t) (ty : TypeId) : Snd E P φ H W (clearV E H t m) (Builtin.clear_ ts ty #[m']) := by
  intro v H' h
  unfold clearV at h
  obtain ⟨d, hd, hnew⟩ := Option.bind_eq_some_iff.1 h; clear h; have h := hnew; clear hnew
  have hdu := hE.desc hd
  cases d <;> simp only at h <;> try (cases h; done)
  case map kt et =>
    cases m <;> simp only at h <;> try (cases h; done)
    case nilMap =>
      simp only [Option.some.injEq, Prod.mk.injEq] at h
      obtain ⟨rfl, rfl⟩ := h
      have := hm.nilMap_inv; subst this
      refine ⟨φ, .tuple #[], W, ?_, VR.tuple (cs' := #[]) .nil, To.refl hs⟩
      unfold Builtin.clear_
      simp [hts, run_underlying hdu]
    case map r =>
      obtain ⟨o, ho, hnew⟩ := Option.bind_eq_some_iff.1 h; clear h; have h := hnew; clear hnew
      cases o <;> simp only at h <;> try (cases h; done)
      case map es clock =>
        simp only [Option.some.injEq, Prod.mk.injEq] at h
        obtain ⟨rfl, rfl⟩ := h
        obtain ⟨p, hp, rfl⟩ := hm.map_inv
        obtain ⟨hro, es', h1, h2⟩ := hs.hr.obj _ _ _ ho hp
        obtain ⟨W', hw, hto⟩ := To.setObj (P := P) hs ho (o2 := .map [] clock) rfl hp hro h1 (fun _ _ _ => by simp) (.map #[] clock) (fun W2 h7 => ⟨hro, _, h7, .nil⟩)
        refine ⟨φ, .tuple #[], W', ?_, VR.tuple (cs' := #[]) .nil, hto⟩
        unfold Builtin.clear_
        simp [hts, run_underlying hdu, getObj_at h1, hw]

/- ### the next entry -/
theorem memN_eq (n : Nat) : ∀ l : List Nat, memN n l = l.contains n
  | [] => rfl
  | x :: r => by
    rw [memN, List.contains_cons, memN_eq n r]
    cases h : Nat.beq x n with
    | true => have := of_beq_t h; subst this; simp
    | false => have := of_beq_f h; simp [Ne.symm this]
theorem unseen_ok {seen : List Nat} {seen' : Array Nat} (hseen : seen = seen'.toList) : ∀ {l : List Ent3} {l' : List MapEntry}, EntsR φ l l' → EntsR φ (unseen seen l) (l'.filter fun e => !seen'.contains e.born)
  | _, _, .nil => .nil
  | _, _, .cons (a := a) (b := b) h0 hs => by
    have ih := unseen_ok hseen hs
    rw [unseen, List.filter_cons]
    have hc : seen'.contains b.born = memN a.2.2 seen := by
      rw [memN_eq, h0.born, hseen, List.contains_eq_mem, Array.contains_eq_mem]; simp
    rw [hc]
    cases memN a.2.2 seen with
    | true => simp only [Bool.not_true, Bool.false_eq_true, if_false]; exact ih
    | false => simp only [Bool.not_false, if_true]; exact .cons h0 ih
theorem allFrom_ok (b : Nat) : ∀ {l : List Ent3} {l' : List MapEntry}, EntsR φ l l' → l'.all (fun e => decide (e.born ≥ b)) = allFrom b l
  | _, _, .nil => rfl
  | _, _, .cons (a := a) (b := c) h0 hs => by
    rw [List.all_cons, allFrom_ok b hs, allFrom, ← h0.born]
    cases h : Nat.ble b a.2.2 with
    | true => have := of_ble_t h; simp [this]
    | false => have := of_ble_f h; simp; intro; omega
theorem isNil_arr {α : Type} {β : Type} {l : List α} {a : Array β} (h : l.length = a.toList.length) : a.isEmpty = isNil l := by
  cases l with
  | nil =>
    simp only [List.length_nil, Array.length_toList] at h
    simp [Array.isEmpty, isNil, ← h]
  | cons x r =>
    simp only [List.length_cons, Array.length_toList] at h
    simp [Array.isEmpty, isNil, ← h]
theorem EntsR.length' : ∀ {l : List Ent3} {l' : List MapEntry}, EntsR φ l l' → l.length = l'.length := EntsR.length

theorem nextMapV_ok (hs : St E φ H W) {x : V} {x' : Value} (hv : VR φ x x') (t : TypeId) : Snd E P φ H W (nextMapV H x) (Instr.next x' false t) := by
  intro v H' h
  unfold nextMapV at h
  cases x <;> simp only at h <;> try (cases h; done)
  case ptr r off =>
    obtain ⟨p, hp, rfl⟩ := hv.ptr_inv
    cases hb : Nat.beq off 0 with
    | false => rw [hb] at h; cases h
    | true =>
      rw [hb] at h
      have hoff := of_beq_t hb
      subst hoff
      obtain ⟨o, ho, hnew⟩ := Option.bind_eq_some_iff.1 h; clear h; have h := hnew; clear hnew
      cases o <;> simp only at h <;> try (cases h; done)
      case mapIter m since seen last =>
        obtain ⟨⟨hro, hb0⟩, m', seen', h1, hseen, h3⟩ := hs.hr.obj _ _ _ ho hp
        have hadr : adr p 0 = ⟨p.blk, 0, none⟩ := by simp [adr, hb0]
        rw [hadr]
        cases m with
        | none =>
          simp only [Option.some.injEq, Prod.mk.injEq] at h
          obtain ⟨rfl, rfl⟩ := h
          simp only at h3
          subst h3
          refine ⟨φ, _, W, ?_, VR.tuple (cs' := #[.bool false]) (.cons (.bool _) .nil), To.refl hs⟩
          unfold Instr.next
          simp only [Sem.run_bind, getObj_at h1 (fun _ _ _ => by simp), Result.andThen_ok, Sem.run_pure]
        | some mr =>
          simp only at h h3
          obtain ⟨pm, hpm, rfl⟩ := h3
          obtain ⟨mo, hmo, hnew⟩ := Option.bind_eq_some_iff.1 h; clear h; have h := hnew; clear hnew
          cases mo <;> simp only at h <;> try (cases h; done)
          case map es clock =>
            obtain ⟨_, es', h4, h5⟩ := hs.hr.obj _ _ _ hmo hpm
            have hcond : (!seen'.isEmpty && !es'.isEmpty && es'.all fun e => decide (e.born ≥ last)) = and (not (isNil seen)) (and (not (isNil es)) (allFrom last es)) := by
              rw [isNil_arr (l := seen) (a := seen') (by rw [hseen]), isNil_arr (l := es) (a := es') h5.length, ← Array.all_toList, allFrom_ok last h5, Bool.and_assoc]
            cases hc : and (not (isNil seen)) (and (not (isNil es)) (allFrom last es)) with
            | true => rw [hc] at h; cases h
            | false =>
              rw [hc] at h hcond
              simp only at h
              have hleft := unseen_ok (φ := φ) hseen h5
              unfold Instr.next
              simp only [Sem.run_bind, getObj_at h1 (fun _ _ _ => by simp), getObj_at h4 (fun _ _ _ => by simp), Result.andThen_ok]
              rw [hcond]
              simp only [Bool.false_eq_true, if_false]
              generalize hlf : (es'.filter fun e => !seen'.contains e.born) = left
              have hlf' : left.toList = es'.toList.filter fun e => !seen'.contains e.born := by rw [← hlf, Array.toList_filter]
              rw [← hlf'] at hleft
              cases hu : unseen seen es with
              | nil =>
                rw [hu] at h hleft
                simp only [Option.some.injEq, Prod.mk.injEq] at h
                obtain ⟨rfl, rfl⟩ := h
                have hl0 : left = #[] := by
                  apply Array.ext'
                  cases hle : left.toList with
                  | nil => rfl
                  | cons a b => rw [hle] at hleft; cases hleft
                subst hl0
                refine ⟨φ, _, W, ?_, VR.tuple (cs' := #[.bool false]) (.cons (.bool _) .nil), To.refl hs⟩
                simp [choose, Sem.run, Question.forced]
              | cons e rest =>
                rw [hu] at h hleft
                cases rest with
                | cons _ _ => cases h
                | nil =>
                  simp only at h
                  cases hlt : Nat.blt e.2.2 since with
                  | false => rw [hlt] at h; cases h
                  | true =>
                    rw [hlt] at h
                    simp only [Option.some.injEq, Prod.mk.injEq] at h
                    obtain ⟨rfl, rfl⟩ := h
                    obtain ⟨e', he', hee⟩ : ∃ e', left = #[e'] ∧ EntR φ e e' := by
                      cases hle : left.toList with
                      | nil => rw [hle] at hleft; cases hleft
                      | cons a b =>
                        rw [hle] at hleft
                        cases hleft with
                        | cons ha hb =>
                          cases hb
                          exact ⟨a, Array.ext' hle, ha⟩
                    subst he'
                    have hborn : e'.born < since := by rw [← hee.born]; exact of_blt_t hlt
                    obtain ⟨W', hw, hto⟩ := To.setObj (P := P) hs ho (o2 := .mapIter (some mr) since (seen ++ [e.2.2]) clock) rfl hp hro h1 (fun _ _ _ => by simp) (.mapIter (some pm.blk) since (seen'.push e'.born) clock)
                      (fun W2 h7 => ⟨⟨hro, hb0⟩, some pm.blk, seen'.push e'.born, h7, by rw [Array.toList_push, hseen, hee.born], pm, hpm, rfl⟩)
                    refine ⟨φ, _, W', ?_, VR.tuple (cs' := #[.bool true, e'.key, e'.val]) (.cons (.bool _) (.cons hee.key (.cons hee.val .nil))), hto⟩
                    have hf1 : (#[e'].filter fun e => decide (e.born < since)) = #[e'] := by
                      apply Array.ext'
                      rw [Array.toList_filter]
                      simp [hborn]
                    have hf2 : (#[e'].filter fun e => decide (e.born ≥ since)) = #[] := by
                      apply Array.ext'
                      rw [Array.toList_filter]
                      simp; omega
                    rw [hf1, hf2]
                    simp [choose, Sem.run, Question.forced, hw]

end
section
variable {E : Env} {P : Program} {φ : Pm} {H : Heap} {W : World}
/-- What the last step of an iterator over a map met. -/
def lastN : List Nat → Option Nat
  | [] => none
  | x :: r =>
    match r with
    | [] => some x
    | _ :: _ => lastN r
theorem lastN_eq : ∀ l : List Nat, lastN l = l.getLast?
  | [] => rfl
  | [x] => rfl
  | x :: y :: r => by
    rw [lastN, lastN_eq (y :: r)]
    simp
def entryV (H : Heap) (it : V) : Option V :=
  match it with
  | .ptr r off =>
    match Nat.beq off 0 with
    | true => (H.look r).bind fun o =>
      match o with
      | .mapIter m _ seen stepped =>
        match m with
        | none => none
        | some mr => (lastN seen).bind fun st => (H.look mr).bind fun mo =>
          match mo with
          | .map es clock =>
            match Nat.beq clock stepped with
            | true => (bornAt st es 0).bind fun i => (listGet es i).bind fun e => some (.tuple [e.1, e.2.1])
            | false => none
          | _ => none
      | _ => none
    | false => none
  | _ => none
theorem born_find (b : Nat) : ∀ {l : List Ent3} {l' : List MapEntry}, EntsR φ l l' → ∀ (i j : Nat), bornAt b l i = some j → i ≤ j ∧ ∃ e e', l[j - i]? = some e ∧ l'.find? (fun e => e.born == b) = some e' ∧ EntR φ e e'
  | _, _, .nil, i, j, h => by cases h
  | _, _, .cons (a := a) (b := c) h0 hs, i, j, h => by
    unfold bornAt at h
    cases hb : Nat.beq a.2.2 b with
    | true =>
      rw [hb] at h
      simp only [Option.some.injEq] at h
      subst h
      have := of_beq_t hb
      refine ⟨Nat.le_refl _, a, c, by simp, ?_, h0⟩
      rw [List.find?_cons]
      have : (c.born == b) = true := by rw [← h0.born, this]; simp
      simp [this]
    | false =>
      rw [hb] at h
      obtain ⟨h1, e, e', h2, h3, h4⟩ := born_find b hs (i + 1) j h
      refine ⟨by omega, e, e', ?_, ?_, h4⟩
      · rw [show j - i = (j - (i + 1)) + 1 by omega, List.getElem?_cons_succ]; exact h2
      · have hne := of_beq_f hb
        have : (c.born == b) = false := by
          rw [← h0.born, beq_eq_false_iff_ne]; exact hne
        rw [List.find?_cons, this]; exact h3
theorem entryV_ok (hs : St E φ H W) {x : V} {x' : Value} (hv : VR φ x x') : SndP P φ W (entryV H x) (Instr.entry x') := by
  intro v h
  unfold entryV at h
  cases x <;> simp only at h <;> try (cases h; done)
  case ptr r off =>
    obtain ⟨p, hp, rfl⟩ := hv.ptr_inv
    cases hb : Nat.beq off 0 with
    | false => rw [hb] at h; cases h
    | true =>
      rw [hb] at h
      have hoff := of_beq_t hb
      subst hoff
      obtain ⟨o, ho, hnew⟩ := Option.bind_eq_some_iff.1 h; clear h; have h := hnew; clear hnew
      cases o <;> simp only at h <;> try (cases h; done)
      case mapIter m since seen stepped =>
        obtain ⟨⟨hro, hb0⟩, m', seen', h1, hseen, h3⟩ := hs.hr.obj _ _ _ ho hp
        have hadr : adr p 0 = ⟨p.blk, 0, none⟩ := by simp [adr, hb0]
        rw [hadr]
        cases m with
        | none => cases h
        | some mr =>
          simp only at h h3
          obtain ⟨pm, hpm, rfl⟩ := h3
          obtain ⟨st, hst, hnew⟩ := Option.bind_eq_some_iff.1 h; clear h; have h := hnew; clear hnew
          obtain ⟨mo, hmo, hnew⟩ := Option.bind_eq_some_iff.1 h; clear h; have h := hnew; clear hnew
          cases mo <;> simp only at h <;> try (cases h; done)
          case map es clock =>
            obtain ⟨_, es', h4, h5⟩ := hs.hr.obj _ _ _ hmo hpm
            cases hc : Nat.beq clock stepped with
            | false => rw [hc] at h; cases h
            | true =>
              rw [hc] at h
              have hcl := of_beq_t hc
              subst hcl
              simp only at h
              obtain ⟨i, hi, hnew⟩ := Option.bind_eq_some_iff.1 h; clear h; have h := hnew; clear hnew
              obtain ⟨e, he, hnew⟩ := Option.bind_eq_some_iff.1 h; clear h; have h := hnew; clear hnew
              simp only [Option.some.injEq] at h
              subst h
              obtain ⟨_, e1, e', h6, h7, h8⟩ := born_find st h5 0 i hi
              rw [listGet_eq] at he
              rw [Nat.sub_zero, he] at h6
              have := Option.some.inj h6; subst this
              refine ⟨.tuple #[e'.key, e'.val], ?_, VR.tuple (cs' := #[e'.key, e'.val]) (.cons h8.key (.cons h8.val .nil))⟩
              have hback : seen'.back? = some st := by
                rw [← hst, lastN_eq, hseen, Array.getLast?_toList]
              have hfind : es'.find? (fun e => e.born == st) = some e' := by rw [← Array.find?_toList]; exact h7
              unfold Instr.entry
              simp only [Sem.run_bind, getObj_at h1 (fun _ _ _ => by simp), getObj_at h4 (fun _ _ _ => by simp), Result.andThen_ok, hback, Sem.run_pure, bne_self_eq_false, Bool.false_eq_true, if_false, hfind]
end
end
end Go.Proofs.YtcjidlgmbjebjaaDoor.Ev

/- Pointers through package unsafe, as strings.Builder takes them. -/
namespace Go.Proofs.YtcjidlgmbjebjaaDoor.Ev
open Go
noncomputable section
def unsafeTo (E : Env) (H : Heap) (t : Nat) (v : V) : Option V :=
  match v with
  | .nilPtr => some .nilPtr
  | .ptr r off => (H.look r).bind fun o =>
    match o with
    | .row _ cs _ ro =>
      match ro with
      | true => none
      | false => (E.size t).bind fun n =>
        match and (Nat.blt 0 n) (Nat.blt off cs.size) with
        | true => some (.ptr r off)
        | false => none
    | _ => none
  | _ => none
/-- So many variables of a type lie there. -/
def liesV (E : Env) (H : Heap) (r off u k : Nat) : Bool :=
  match H.look r with
  | some (.row e cs _ false) =>
    match E.size e with
    | some n => and (and (Nat.beq e u) (Nat.blt 0 n)) (and (Nat.beq (Nat.mod off n) 0) (Nat.ble (Nat.add off (Nat.mul k n)) cs.size))
    | none => false
  | _ => false
def unsafeOf (E : Env) (H : Heap) (u : Nat) (v : V) : Option V :=
  match v with
  | .nilPtr => some .nilPtr
  | .ptr r off =>
    match liesV E H r off u 1 with
    | true => some (.ptr r off)
    | false => none
  | _ => none
section
variable {E : Env} {P : Program} {φ : Pm} {H : Heap} {W : World}
theorem run_shape (r : Nat) : (shape r).run P W = .ok (W.shape? r) W := rfl
theorem shape_cells {b : Nat} {c : Array Value} {t : TypeId} {fz : Nat × Nat} (h : W.heap[b]? = some (.cells c t fz)) : W.shape? b = some (t, c.size) := by
  unfold World.shape?
  rw [h]
theorem run_seenAt {a : Addr} {x : TypeId × Nat} (h : W.shape? a.block = some x) : (Conv.seenAt a).run P W = .ok a W := by
  unfold Conv.seenAt viewAt
  simp [run_shape, h]
theorem sameLayout_refl (e : TypeId) : sameLayout P P.depth e e = true := by
  have : P.depth = (2 * (P.types.size + Made.depth) + 1) + 1 := rfl
  rw [this, sameLayout]
  simp
theorem liesAt_same {e count off n : Nat} (h0 : 0 < P.cellsOf e) (h1 : off % P.cellsOf e = 0) (h2 : off / P.cellsOf e + n ≤ count) : liesAt P P.depth e count off e n = true := by
  have hd : P.depth = (2 * (P.types.size + Made.depth) + 1) + 1 := rfl
  have hr : rowAt P (sameLayout P P.depth · e) P.depth e count off n = true := by
    rw [hd, rowAt, ← hd]
    have hs : sameLayout P P.depth e e = true := sameLayout_refl e
    have hne : P.cellsOf e ≠ 0 := by omega
    simp only [hne, if_false, h1, hs, beq_self_eq_true, Bool.true_and, Bool.and_true, decide_eq_true h2, Bool.true_or]
  have : liesAt P ((2 * (P.types.size + Made.depth) + 1) + 1) e count off e n = true := by
    rw [liesAt, hr, Bool.true_or]
  rw [← hd] at this
  exact this
theorem cellsOf_of (hE : EnvOk E P) {e n : Nat} (h : E.size e = some n) : P.cellsOf e = n := by
  unfold Env.size at h
  obtain ⟨x, hx, h⟩ := Option.bind_eq_some_iff.1 h
  obtain ⟨i, hi⟩ := hE.ti e x hx
  simp only [Option.some.injEq] at h
  unfold Program.cellsOf
  rw [hi.info]
  simp [hi.size, h]
theorem run_sizeOf' (hE : EnvOk E P) {e n : Nat} (h : E.size e = some n) : (sizeOf e).run P W = .ok n W := by
  unfold Env.size at h
  obtain ⟨x, hx, h⟩ := Option.bind_eq_some_iff.1 h
  obtain ⟨i, hi⟩ := hE.ti e x hx
  simp only [Option.some.injEq] at h
  rw [run_sizeOf hi.info, hi.size, h]
theorem liesV_ok (hE : EnvOk E P) (hs : St E φ H W) {r off u k : Nat} (h : liesV E H r off u k = true) {p : Pl} (hp : φ r = some p) :
    ∃ e cs opn n, H.look r = some (.row e cs opn false) ∧ e = u ∧ E.size e = some n ∧ 0 < n ∧ off + k * n ≤ cs.size ∧ (variablesAt (adr p off) u k).run P W = .ok true W := by
  unfold liesV at h
  split at h
  · rename_i e cs opn ho
    split at h
    · rename_i n hn
      simp only [Bool.and_eq_true] at h
      obtain ⟨⟨h1, h2⟩, h3, h4⟩ := h
      have h1 := of_beq_t h1
      have h2 := of_blt_t h2
      have h3 : off % n = 0 := of_beq_t h3
      have h4 : off + k * n ≤ cs.size := of_ble_t h4
      subst h1
      refine ⟨e, cs, opn, n, ho, rfl, hn, h2, h4, ?_⟩
      have hr : RowR E φ p e cs opn false W := hs.hr.obj _ _ _ ho hp
      obtain ⟨c, fz, g1, g2, g3, _⟩ := hr.free hr.roq
      have hesz : p.esz = n := by have := hr.esz; rw [hn] at this; exact (Option.some.inj this).symm
      have hco := cellsOf_of hE hn
      have hal := hr.alen
      have hle := hr.ale
      rw [Cells.size_eq] at h4
      rw [hesz] at g3
      unfold variablesAt
      have hblk : (adr p off).block = p.blk := rfl
      have hoff : (adr p off).off = p.base + off := rfl
      have hsh : (shape (adr p off).block).run P W = .ok (some (e, c.size)) W := by rw [hblk, run_shape, shape_cells g1]
      have hl : liesAt P P.depth e (c.size / P.cellsOf e) (adr p off).off e k = true := by
        apply liesAt_same
        · omega
        · rw [hco, hoff, Nat.add_mod, g3, h3]; rfl
        · rw [hco, hoff, g2]
          obtain ⟨a, ha⟩ := Nat.dvd_of_mod_eq_zero g3
          obtain ⟨b, hb⟩ := Nat.dvd_of_mod_eq_zero h3
          rw [ha, hb, ← Nat.mul_add, Nat.mul_div_cancel_left _ h2, Nat.le_div_iff_mul_le h2]
          rw [hb] at h4
          rw [Nat.add_mul, Nat.add_mul, Nat.mul_comm a n, Nat.mul_comm b n]
          omega
      have hprog : (program).run P W = .ok P W := rfl
      simp only [Sem.run_bind, hprog, hsh, Result.andThen_ok, Sem.run_pure, hl]
    · cases h
  · cases h
theorem unsafeTo_ok (hE : EnvOk E P) (hs : St E φ H W) {src dst t : Nat} (hsd : P.underlying src = some (.pointer t)) (hdd : P.underlying dst = some .unsafePointer) {v : V} {v' : Value} (hv : VR φ v v') : SndP P φ W (unsafeTo E H t v) (convert src dst v') := by
  intro u h
  unfold unsafeTo at h
  cases v <;> simp only at h <;> try (cases h; done)
  case nilPtr =>
    simp only [Option.some.injEq] at h
    subst h
    have := hv.nilPtr_inv; subst this
    refine ⟨_, ?_, .nilPtr⟩
    simp [convert, Conv.unsafePointer, run_underlying hsd, run_underlying hdd]
  case ptr r off =>
    obtain ⟨p, hp, rfl⟩ := hv.ptr_inv
    obtain ⟨o, ho, h⟩ := Option.bind_eq_some_iff.1 h
    cases o <;> simp only at h <;> try (cases h; done)
    case row e cs opn ro =>
      cases ro with
      | true => cases h
      | false =>
        simp only at h
        obtain ⟨n, hn, h⟩ := Option.bind_eq_some_iff.1 h
        cases hc : and (Nat.blt 0 n) (Nat.blt off cs.size) with
        | false => rw [hc] at h; cases h
        | true =>
          rw [hc] at h
          simp only [Option.some.injEq] at h
          subst h
          simp only [Bool.and_eq_true] at hc
          have h2 := of_blt_t hc.1
          have h4 := of_blt_t hc.2
          have hr : RowR E φ p e cs opn false W := hs.hr.obj _ _ _ ho hp
          obtain ⟨c, fz, g1, g2, g3, _⟩ := hr.free hr.roq
          have hal := hr.alen
          have hle := hr.ale
          rw [Cells.size_eq] at h4
          have hsh : W.shape? (adr p off).block = some (e, c.size) := shape_cells g1
          have hci : (cellsIn (adr p off).block).run P W = .ok (some c.size) W := by
            unfold cellsIn
            simp [run_shape, hsh]
          refine ⟨.pointer (some (adr p off)), ?_, .ptr off hp⟩
          have hoff : (adr p off).off = p.base + off := rfl
          have hno : (decide ((adr p off).off ≥ c.size) && (adr p off).spot.isNone) = false := by
            rw [hoff, g2]
            have : ¬ (p.base + off ≥ p.base + p.lim) := by omega
            simp [this]
          simp only [convert, Conv.unsafePointer, Sem.run_bind, run_underlying hsd, run_underlying hdd, Result.andThen_ok, run_seenAt hsh, hci, run_sizeOf' hE hn]
          rw [if_neg]
          · rfl
          · intro hh
            simp only [Bool.or_eq_true, decide_eq_true_eq] at hh
            rcases hh with hh | hh
            · omega
            · rw [hno] at hh; cases hh
theorem unsafeOf_ok (hE : EnvOk E P) (hs : St E φ H W) {src dst t : Nat} (hsd : P.underlying src = some .unsafePointer) (hdd : P.underlying dst = some (.pointer t)) {v : V} {v' : Value} (hv : VR φ v v') : SndP P φ W (unsafeOf E H t v) (convert src dst v') := by
  intro u h
  unfold unsafeOf at h
  cases v <;> simp only at h <;> try (cases h; done)
  case nilPtr =>
    simp only [Option.some.injEq] at h
    subst h
    have := hv.nilPtr_inv; subst this
    refine ⟨_, ?_, .nilPtr⟩
    simp [convert, Conv.unsafePointer, run_underlying hsd, run_underlying hdd]
  case ptr r off =>
    obtain ⟨p, hp, rfl⟩ := hv.ptr_inv
    cases hc : liesV E H r off t 1 with
    | false => rw [hc] at h; cases h
    | true =>
      rw [hc] at h
      simp only [Option.some.injEq] at h
      subst h
      obtain ⟨e, cs, opn, n, ho, rfl, hn, h2, h4, hva⟩ := liesV_ok hE hs hc hp
      have hr : RowR E φ p e cs opn false W := hs.hr.obj _ _ _ ho hp
      obtain ⟨c, fz, g1, g2, g3, _⟩ := hr.free hr.roq
      have hsh : W.shape? (adr p off).block = some (e, c.size) := shape_cells g1
      refine ⟨.pointer (some (adr p off)), ?_, .ptr off hp⟩
      simp [convert, Conv.unsafePointer, run_underlying hsd, run_underlying hdd, run_seenAt hsh, hva, run_sizeOf' hE hn]
def sliceDataV (x : V) : Option V :=
  match x with
  | .nilSlice => some .nilPtr
  | .slice r off _ cap =>
    match Nat.blt 0 cap with
    | true => some (.ptr r off)
    | false => none
  | _ => none
theorem sliceDataV_ok {x : V} {x' : Value} (hv : VR φ x x') (ts : Array TypeId) (ty : TypeId) : SndP P φ W (sliceDataV x) (Builtin.unsafeSliceData_ ts ty #[x']) := by
  intro v h
  unfold sliceDataV at h
  cases x <;> simp only at h <;> try (cases h; done)
  case nilSlice =>
    simp only [Option.some.injEq] at h
    subst h
    have := hv.nilSlice_inv; subst this
    exact ⟨_, rfl, .nilPtr⟩
  case slice r off len cap =>
    cases hb : Nat.blt 0 cap with
    | false => rw [hb] at h; cases h
    | true =>
      rw [hb] at h
      simp only [Option.some.injEq] at h
      subst h
      have hb := of_blt_t hb
      obtain ⟨p, cap', hp, hc, rfl⟩ := hv.slice_inv
      have hcc : cap ≤ cap' := by
        rcases hc with hc | ⟨_, _, hc, _⟩ <;> omega
      refine ⟨_, ?_, .ptr off hp⟩
      have hne : cap' ≠ 0 := by omega
      show (if cap' ≠ 0 then pure (Value.pointer (some (adr p off))) else _ : Sem Value).run P W = _
      rw [if_pos hne]
      rfl
def unsafeStrV (E : Env) (H : Heap) (pt : Nat) (x n : V) : Option (V × Heap) :=
  match n with
  | .int _ z =>
    match z with
    | .ofNat m =>
      match Nat.beq m 0 with
      | true =>
        match x with
        | .nilPtr => some (.str 0 0, H)
        | .ptr _ _ => some (.str 0 0, H)
        | _ => none
      | false =>
        match x with
        | .ptr r off => (E.desc pt).bind fun d =>
          match d with
          | .pointer u =>
            match and (isU8 E u) (and (Nat.ble m 9223372036854775807) (liesV E H r off u m)) with
            | true => (H.look r).bind fun o =>
              match o with
              | .row _ cs _ _ => (strOfCells (cs.extract off m)).bind fun s => some (s, H.put r .dead)
              | _ => none
            | false => none
          | _ => none
        | _ => none
    | .negSucc _ => none
  | _ => none
theorem To.frozen (hs : St E φ H W) {r : Nat} {o : Obj} {p : Pl} (ho : H.look r = some o) (hl : o.live = true) (hp : φ r = some p) (hro : p.ro = false) (a : Addr) (ha : a.block = p.blk) (n : Nat) :
    To E φ H W φ (H.put r .dead) (W.freeze a n) := by
  refine To.put hs ho hl hp hro ?_ ?_ ?_ ?_ ?_ trivial
  · unfold World.freeze; split <;> rfl
  · unfold World.freeze; split <;> rfl
  · unfold World.freeze; split <;> rfl
  · unfold World.freeze; split <;> simp
  · intro b hb
    unfold World.freeze
    split
    · rfl
    · show (W.heap.modify a.block _)[b]? = _
      rw [Array.getElem?_modify, if_neg (by rw [ha]; exact Ne.symm hb)]
theorem run_asInt (k : IntKind) (n : Int) : (asInt (.int k n)).run P W = .ok n W := rfl
theorem ustr_eq (pt t1 ty : TypeId) (p : Option Addr) (len_ : Value) : Builtin.unsafeString_ #[pt, t1] ty #[.pointer p, len_] = (do
  let n ← asInt len_
  if n < 0 then runtimePanic (.error "unsafe.String: len out of range")
  if n > IntKind.i64.max then unsupported (.unsafePointer "String: a length above the largest int")
  match p with
  | none =>
    if n = 0 then pure (.string .empty)
    else runtimePanic (.error "unsafe.String: ptr is nil and len is not zero")
  | some a =>
    if n = 0 then pure (.string .empty)
    else if ← variablesAt a (← elemOf pt) n.toNat then do
      let s ← loadBytes a .empty n.toNat
      freeze a n.toNat
      pure (.string s)
    else unsupported (.unsafePointer "String: not so many bytes at ptr")) := rfl
theorem unsafeStrV_ok (hE : EnvOk E P) (hs : St E φ H W) {pt t1 ty : Nat} {x n : V} {x' n' : Value} (hx : VR φ x x') (hn : VR φ n n') : Snd E P φ H W (unsafeStrV E H pt x n) (Builtin.unsafeString_ #[pt, t1] ty #[x', n']) := by
  intro v H' h
  unfold unsafeStrV at h
  cases n <;> simp only at h <;> try (cases h; done)
  case int k z =>
    have := hn.int_inv; subst this
    cases z <;> simp only at h <;> try (cases h; done)
    case ofNat m =>
      cases hm : Nat.beq m 0 with
      | true =>
        rw [hm] at h
        have hm := of_beq_t hm
        subst hm
        cases x <;> simp only at h <;> try (cases h; done)
        case nilPtr =>
          simp only [Option.some.injEq, Prod.mk.injEq] at h
          obtain ⟨rfl, rfl⟩ := h
          have := hx.nilPtr_inv; subst this
          refine ⟨φ, .string .empty, W, ?_, VR.str .empty, To.refl hs⟩
          rw [ustr_eq]
          have : IntKind.max .i64 = 9223372036854775807 := rfl
          rw [Sem.run_bind, run_asInt]
          simp [this]
        case ptr r off =>
          simp only [Option.some.injEq, Prod.mk.injEq] at h
          obtain ⟨rfl, rfl⟩ := h
          obtain ⟨p, hp, rfl⟩ := hx.ptr_inv
          refine ⟨φ, .string .empty, W, ?_, VR.str .empty, To.refl hs⟩
          rw [ustr_eq]
          have : IntKind.max .i64 = 9223372036854775807 := rfl
          rw [Sem.run_bind, run_asInt]
          simp [this]
      | false =>
        rw [hm] at h
        have hm := of_beq_f hm
        cases x <;> simp only at h <;> try (cases h; done)
        case ptr r off =>
          obtain ⟨p, hp, rfl⟩ := hx.ptr_inv
          obtain ⟨d, hd, h⟩ := Option.bind_eq_some_iff.1 h
          have hdu := hE.desc hd
          cases d <;> simp only at h <;> try (cases h; done)
          case pointer u =>
            cases hc : and (isU8 E u) (and (Nat.ble m 9223372036854775807) (liesV E H r off u m)) with
            | false => rw [hc] at h; cases h
            | true =>
              rw [hc] at h
              simp only [Bool.and_eq_true] at hc
              obtain ⟨hu, hmx, hlv⟩ := hc
              have hmx := of_ble_t hmx
              obtain ⟨e, cs, opn, n, ho, rfl, hn', h2, h4, hva⟩ := liesV_ok hE hs hlv hp
              simp only at h
              obtain ⟨o, ho', h⟩ := Option.bind_eq_some_iff.1 h
              rw [ho] at ho'
              have := Option.some.inj ho'; subst this
              simp only at h
              obtain ⟨s, hs1, h⟩ := Option.bind_eq_some_iff.1 h
              simp only [Option.some.injEq, Prod.mk.injEq] at h
              obtain ⟨rfl, rfl⟩ := h
              have hr : RowR E φ p e cs opn false W := hs.hr.obj _ _ _ ho hp
              have hle : off + m ≤ cs.size := by
                have : m ≤ m * n := Nat.le_mul_of_pos_right _ h2
                omega
              obtain ⟨l', hl1, hl2, hl3, _⟩ := hr.cells off m hle
              obtain ⟨bs, hb1, hb2, rfl⟩ := strOfCells_ok hs1 hl3
              have hbl : bs.length = m := by rw [hb2] at hl1; simpa using hl1
              have hload := Go.Lib.run_loadBytes (P := P) W bs (adr p off) .empty (fun j x hj => hl2 j _ (by rw [hb2, List.getElem?_map, hj]; rfl))
              rw [hbl] at hload
              refine ⟨φ, .string ⟨⟨bs⟩⟩, W.freeze (adr p off) m, ?_, VR.str ⟨⟨bs⟩⟩, To.frozen hs ho rfl hp hr.roq _ rfl _⟩
              have hfr : (freeze (adr p off) m).run P W = .ok () (W.freeze (adr p off) m) := rfl
              have hel : (elemOf pt).run P W = .ok e W := by unfold elemOf; simp [run_underlying hdu]
              have hemp : (ByteArray.empty.data ++ bs.toArray) = ⟨bs⟩ := by
                apply Array.ext'
                rw [Array.toList_append]
                rfl
              rw [hemp] at hload
              have hz : ¬ ((m : Int) = 0) := by omega
              have hmx' : ¬ ((m : Int) > 9223372036854775807) := by omega
              have hng : ¬ ((m : Int) < 0) := by omega
              rw [ustr_eq]
              have hto : (m : Int).toNat = m := by simp
              have : IntKind.max .i64 = 9223372036854775807 := rfl
              simp only [run_asInt, Sem.run_bind, Sem.run_pure, Result.andThen_ok, Int.ofNat_eq_natCast, hng, this, hmx', hz, if_false, hel, hto, hva, if_true, hload, hfr]
end
end
end Go.Proofs.YtcjidlgmbjebjaaDoor.Ev

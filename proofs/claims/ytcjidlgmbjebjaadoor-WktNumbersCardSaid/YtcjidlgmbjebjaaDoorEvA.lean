/- An evaluator of the program over an abstract memory, and that it is sound: values, the relation to the machine, loads, stores, slices, appends. -/
import GoSem.Step
import GoSem.Extern.MathBitsCarry
import GoSem.Extern.AbiNoEscape
import Derived.Laws.IdiomCopy
import Derived.Below
import Derived.IntWalk
set_option linter.unusedVariables false
set_option linter.unusedSimpArgs false
/- The values, the trees and the rows of cells of the evaluator, and their plain laws: no program in sight. -/
namespace Go.Proofs.YtcjidlgmbjebjaaDoor.Ev
open Go

inductive V where
  | int (k : IntKind) (n : Int)
  | bool (b : Bool)
  | str (len n : Nat)
  | ptr (r off : Nat)
  | nilPtr
  | slice (r off len cap : Nat)
  | nilSlice
  | emptyS
  | map (r : Nat)
  | nilMap
  | func (fn : Fn) (first captured : List V)
  | nilFunc
  | iface (t : Nat) (v : V)
  | nilIface
  | agg (cs : List V)
  | tuple (vs : List V)
  | unk
  | par (r : Nat)
  | pin (k : IntKind) (r : Nat)

def vundef : V := .tuple []

/-- Is it what one cell holds? -/
def V.one : V → Bool
  | .agg _ => false
  | .tuple _ => false
  | _ => true

def allOne : List V → Bool
  | [] => true
  | v :: r => match v.one with
    | true => allOne r
    | false => false

theorem beq_t {a b : Nat} (h : a = b) : Nat.beq a b = true := by subst h; exact Nat.beq_refl a
theorem beq_f {a b : Nat} (h : a ≠ b) : Nat.beq a b = false := by
  cases hb : Nat.beq a b
  · rfl
  · exact absurd (Nat.eq_of_beq_eq_true hb) h
theorem of_beq_t {a b : Nat} (h : Nat.beq a b = true) : a = b := Nat.eq_of_beq_eq_true h
theorem of_beq_f {a b : Nat} (h : Nat.beq a b = false) : a ≠ b := Nat.ne_of_beq_eq_false h
theorem of_ble_t {a b : Nat} (h : Nat.ble a b = true) : a ≤ b := Nat.le_of_ble_eq_true h
theorem of_blt_t {a b : Nat} (h : Nat.blt a b = true) : a < b := Nat.le_of_ble_eq_true h
theorem of_blt_f {a b : Nat} (h : Nat.blt a b = false) : b ≤ a := by
  rcases Nat.lt_or_ge a b with h1 | h1
  · have : Nat.blt a b = true := Nat.ble_eq_true_of_le h1
    rw [h] at this; exact absurd this (by simp)
  · exact h1
theorem of_ble_f {a b : Nat} (h : Nat.ble a b = false) : b < a := by
  rcases Nat.lt_or_ge b a with h1 | h1
  · exact h1
  · have : Nat.ble a b = true := Nat.ble_eq_true_of_le h1
    rw [h] at this; exact absurd this (by simp)

inductive T (α : Type) where
  | e
  | n (l : T α) (v : Option α) (r : T α)

namespace T
variable {α : Type}
noncomputable def get (t : T α) : Nat → Option α :=
  T.rec (motive := fun _ => Nat → Option α) (fun _ => none)
    (fun _ v _ gl gr k => Bool.rec (motive := fun _ => Option α) (Bool.rec (motive := fun _ => Option α) (gr (Nat.sub (Nat.div k 2) 1)) (gl (Nat.div k 2)) (Nat.beq (Nat.mod k 2) 1)) v (Nat.beq k 0)) t
noncomputable def mk (x : α) (f : Nat) : Nat → T α :=
  Nat.rec (motive := fun _ => Nat → T α) (fun _ => .e)
    (fun _ ih k => Bool.rec (motive := fun _ => T α)
      (Bool.rec (motive := fun _ => T α) (.n .e none (ih (Nat.sub (Nat.div k 2) 1))) (.n (ih (Nat.div k 2)) none .e) (Nat.beq (Nat.mod k 2) 1))
      (.n .e (some x) .e) (Nat.beq k 0)) f
noncomputable def set (t : T α) (k : Nat) (x : α) : T α :=
  T.rec (motive := fun _ => Nat → T α) (fun k => mk x (Nat.succ k) k)
    (fun l v r sl sr k => Bool.rec (motive := fun _ => T α)
      (Bool.rec (motive := fun _ => T α) (.n l v (sr (Nat.sub (Nat.div k 2) 1))) (.n (sl (Nat.div k 2)) v r) (Nat.beq (Nat.mod k 2) 1))
      (.n l (some x) r) (Nat.beq k 0)) t k
noncomputable def ofListFrom : Nat → List α → T α → T α
  | _, [], t => t
  | i, x :: xs, t => ofListFrom (i + 1) xs (t.set i x)
noncomputable def ofList (l : List α) : T α := ofListFrom 0 l .e

theorem get_e (k : Nat) : (e : T α).get k = none := rfl
theorem get_n (l r : T α) (v : Option α) (k : Nat) :
    (n l v r).get k = if k = 0 then v else if k % 2 = 1 then l.get (k / 2) else r.get (k / 2 - 1) := by
  show Bool.rec (motive := fun _ => Option α) (Bool.rec (motive := fun _ => Option α) (r.get (k / 2 - 1)) (l.get (k / 2)) (Nat.beq (Nat.mod k 2) 1)) v (Nat.beq k 0) = _
  by_cases h : k = 0
  · subst h; rfl
  · rw [if_neg h]
    have h1 : Nat.beq k 0 = false := beq_f h
    rw [h1]
    show Bool.rec (motive := fun _ => Option α) (r.get (k / 2 - 1)) (l.get (k / 2)) (Nat.beq (Nat.mod k 2) 1) = _
    by_cases h2 : k % 2 = 1
    · have : Nat.beq (Nat.mod k 2) 1 = true := beq_t h2
      rw [this, if_pos h2]
    · have : Nat.beq (Nat.mod k 2) 1 = false := beq_f h2
      rw [this, if_neg h2]
theorem mk_zero (x : α) (f : Nat) : mk x (f + 1) 0 = n e (some x) e := rfl
theorem mk_odd (x : α) (f : Nat) {k : Nat} (h : k % 2 = 1) : mk x (f + 1) k = n (mk x f (k / 2)) none e := by
  show Bool.rec (motive := fun _ => T α) (Bool.rec (motive := fun _ => T α) _ _ (Nat.beq (Nat.mod k 2) 1)) _ (Nat.beq k 0) = _
  have h1 : Nat.beq k 0 = false := beq_f (by omega)
  have h2 : Nat.beq (Nat.mod k 2) 1 = true := beq_t h
  rw [h1, h2]; rfl
theorem mk_even (x : α) (f : Nat) {k : Nat} (h0 : k ≠ 0) (h : k % 2 ≠ 1) : mk x (f + 1) k = n e none (mk x f (k / 2 - 1)) := by
  show Bool.rec (motive := fun _ => T α) (Bool.rec (motive := fun _ => T α) _ _ (Nat.beq (Nat.mod k 2) 1)) _ (Nat.beq k 0) = _
  have h1 : Nat.beq k 0 = false := beq_f h0
  have h2 : Nat.beq (Nat.mod k 2) 1 = false := beq_f h
  rw [h1, h2]; rfl
theorem get_mk (x : α) : ∀ (f k j : Nat), k < f → (mk x f k).get j = if j = k then some x else none
  | 0, _, _, h => absurd h (Nat.not_lt_zero _)
  | f + 1, k, j, h => by
    by_cases hk : k = 0
    · subst hk
      rw [mk_zero, get_n]
      by_cases hj : j = 0
      · simp [hj]
      · rw [if_neg hj, if_neg hj]; split <;> rfl
    · by_cases h2 : k % 2 = 1
      · rw [mk_odd x f h2, get_n]
        by_cases hj : j = 0
        · rw [if_pos hj, if_neg (by omega)]
        · rw [if_neg hj]
          split
          · rw [get_mk x f (k / 2) (j / 2) (by omega)]
            by_cases hjk : j = k
            · rw [if_pos (by omega), if_pos hjk]
            · rw [if_neg (by omega), if_neg hjk]
          · rw [if_neg (by omega)]; rfl
      · rw [mk_even x f hk h2, get_n]
        by_cases hj : j = 0
        · rw [if_pos hj, if_neg (by omega)]
        · rw [if_neg hj]
          split
          · rw [if_neg (by omega)]; rfl
          · rw [get_mk x f (k / 2 - 1) (j / 2 - 1) (by omega)]
            by_cases hjk : j = k
            · rw [if_pos (by omega), if_pos hjk]
            · rw [if_neg (by omega), if_neg hjk]
theorem set_e (k : Nat) (x : α) : (e : T α).set k x = mk x (k + 1) k := rfl
theorem set_zero (l r : T α) (v : Option α) (x : α) : (n l v r).set 0 x = n l (some x) r := rfl
theorem set_odd (l r : T α) (v : Option α) (x : α) {k : Nat} (h : k % 2 = 1) : (n l v r).set k x = n (l.set (k / 2) x) v r := by
  show Bool.rec (motive := fun _ => T α) (Bool.rec (motive := fun _ => T α) _ _ (Nat.beq (Nat.mod k 2) 1)) _ (Nat.beq k 0) = _
  have h1 : Nat.beq k 0 = false := beq_f (by omega)
  have h2 : Nat.beq (Nat.mod k 2) 1 = true := beq_t h
  rw [h1, h2]; rfl
theorem set_even (l r : T α) (v : Option α) (x : α) {k : Nat} (h0 : k ≠ 0) (h : k % 2 ≠ 1) : (n l v r).set k x = n l v (r.set (k / 2 - 1) x) := by
  show Bool.rec (motive := fun _ => T α) (Bool.rec (motive := fun _ => T α) _ _ (Nat.beq (Nat.mod k 2) 1)) _ (Nat.beq k 0) = _
  have h1 : Nat.beq k 0 = false := beq_f h0
  have h2 : Nat.beq (Nat.mod k 2) 1 = false := beq_f h
  rw [h1, h2]; rfl
theorem get_set (t : T α) (x : α) : ∀ (k j : Nat), (t.set k x).get j = if j = k then some x else t.get j := by
  induction t with
  | e =>
    intro k j
    rw [set_e, get_mk x (k + 1) k j (by omega), get_e]
  | n l v r ihl ihr =>
    intro k j
    by_cases hk : k = 0
    · subst hk
      rw [set_zero, get_n, get_n]
      by_cases hj : j = 0
      · rw [if_pos hj, if_pos hj]
      · rw [if_neg hj, if_neg hj, if_neg hj]
    · by_cases h2 : k % 2 = 1
      · rw [set_odd l r v x h2, get_n, get_n]
        by_cases hj : j = 0
        · rw [if_pos hj, if_pos hj, if_neg (by omega)]
        · rw [if_neg hj, if_neg hj]
          split
          · rw [ihl]
            by_cases hjk : j = k
            · rw [if_pos (by omega), if_pos hjk]
            · rw [if_neg (by omega), if_neg hjk]
          · rw [if_neg (by omega)]
      · rw [set_even l r v x hk h2, get_n, get_n]
        by_cases hj : j = 0
        · rw [if_pos hj, if_pos hj, if_neg (by omega)]
        · rw [if_neg hj, if_neg hj]
          split
          · rw [if_neg (by omega)]
          · rw [ihr]
            by_cases hjk : j = k
            · rw [if_pos (by omega), if_pos hjk]
            · rw [if_neg (by omega), if_neg hjk]
theorem get_set_same (t : T α) (k : Nat) (x : α) : (t.set k x).get k = some x := by rw [get_set, if_pos rfl]
theorem get_set_ne (t : T α) {k j : Nat} (x : α) (h : j ≠ k) : (t.set k x).get j = t.get j := by rw [get_set, if_neg h]
theorem get_ofListFrom : ∀ (l : List α) (i : Nat) (t : T α) (j : Nat),
    (ofListFrom i l t).get j = if j < i then t.get j else if j < i + l.length then l[j - i]? else t.get j
  | [], i, t, j => by
    simp only [ofListFrom, List.length_nil, Nat.add_zero]
    split
    · rfl
    · rfl
  | x :: xs, i, t, j => by
    rw [ofListFrom, get_ofListFrom xs (i + 1) (t.set i x) j, get_set]
    by_cases h1 : j < i
    · rw [if_pos (by omega), if_neg (by omega), if_pos h1]
    · rw [if_neg h1]
      by_cases h2 : j = i
      · subst h2; simp
      · rw [if_neg (by omega), if_neg h2]
        simp only [List.length_cons]
        by_cases h3 : j < i + 1 + xs.length
        · rw [if_pos h3, if_pos (by omega), show j - i = (j - (i + 1)) + 1 by omega, List.getElem?_cons_succ]
        · rw [if_neg h3, if_neg (by omega)]
theorem get_ofList (l : List α) (j : Nat) : (ofList l).get j = l[j]? := by
  rw [ofList, get_ofListFrom, if_neg (Nat.not_lt_zero _)]
  simp only [Nat.zero_add, Nat.sub_zero]
  split
  · rfl
  · rw [List.getElem?_eq_none (by omega)]; rfl
end T

/- ### lists by number -/
def listGet {α : Type} : List α → Nat → Option α
  | [], _ => none
  | x :: xs, k => match Nat.beq k 0 with
    | true => some x
    | false => listGet xs (k - 1)
def listSet {α : Type} : List α → Nat → α → List α
  | [], _, _ => []
  | x :: xs, k, v => match Nat.beq k 0 with
    | true => v :: xs
    | false => x :: listSet xs (k - 1) v
def takeV {α : Type} : List α → Nat → List α
  | [], _ => []
  | x :: xs, k => match Nat.beq k 0 with
    | true => []
    | false => x :: takeV xs (k - 1)
def dropV {α : Type} : List α → Nat → List α
  | [], _ => []
  | x :: xs, k => match Nat.beq k 0 with
    | true => x :: xs
    | false => dropV xs (k - 1)
section
variable {α : Type}
theorem listGet_eq : ∀ (l : List α) (k : Nat), listGet l k = l[k]?
  | [], k => by simp [listGet]
  | x :: xs, 0 => rfl
  | x :: xs, k + 1 => by
    have : listGet (x :: xs) (k + 1) = listGet xs k := rfl
    rw [this, listGet_eq xs k, List.getElem?_cons_succ]
theorem listSet_eq : ∀ (l : List α) (k : Nat) (v : α), listSet l k v = l.set k v
  | [], k, v => by simp [listSet]
  | x :: xs, 0, v => rfl
  | x :: xs, k + 1, v => by
    have : listSet (x :: xs) (k + 1) v = x :: listSet xs k v := rfl
    rw [this, listSet_eq xs k v]; rfl
theorem takeV_eq : ∀ (l : List α) (k : Nat), takeV l k = l.take k
  | [], k => by simp [takeV]
  | x :: xs, 0 => rfl
  | x :: xs, k + 1 => by
    have : takeV (x :: xs) (k + 1) = x :: takeV xs k := rfl
    rw [this, takeV_eq xs k]; rfl
theorem dropV_eq : ∀ (l : List α) (k : Nat), dropV l k = l.drop k
  | [], k => by simp [dropV]
  | x :: xs, 0 => rfl
  | x :: xs, k + 1 => by
    have : dropV (x :: xs) (k + 1) = dropV xs k := rfl
    rw [this, dropV_eq xs k]; rfl
end

/- ### bytes in a number, the first lowest -/
def packBytes : List UInt8 → Nat
  | [] => 0
  | b :: r => b.toNat + 256 * packBytes r
def packN : List Nat → Nat
  | [] => 0
  | b :: r => b + 256 * packN r
def byteAt (n i : Nat) : Nat := Nat.mod (Nat.shiftRight n (Nat.mul 8 i)) 256
def cutB (n i len : Nat) : Nat := Nat.mod (Nat.shiftRight n (Nat.mul 8 i)) (Nat.shiftLeft 1 (Nat.mul 8 len))
def glueB (l1 n1 n2 : Nat) : Nat := Nat.add n1 (Nat.shiftLeft n2 (Nat.mul 8 l1))

def unpackN : Nat → Nat → List Nat
  | 0, _ => []
  | l + 1, n => Nat.mod n 256 :: unpackN l (Nat.div n 256)

theorem shr8 (n i : Nat) : Nat.shiftRight n (Nat.mul 8 i) = n / 256 ^ i := by
  show n >>> (8 * i) = _
  rw [Nat.shiftRight_eq_div_pow, Nat.pow_mul]
theorem shl8 (n i : Nat) : Nat.shiftLeft n (Nat.mul 8 i) = n * 256 ^ i := by
  show n <<< (8 * i) = _
  rw [Nat.shiftLeft_eq, Nat.pow_mul]
theorem byteAt_eq (n i : Nat) : byteAt n i = n / 256 ^ i % 256 := by rw [byteAt, shr8]; rfl
theorem cutB_eq (n i len : Nat) : cutB n i len = n / 256 ^ i % 256 ^ len := by
  rw [cutB, shr8, shl8, Nat.one_mul]; rfl
theorem glueB_eq (l1 n1 n2 : Nat) : glueB l1 n1 n2 = n1 + n2 * 256 ^ l1 := by rw [glueB, shl8]; rfl

theorem unpackN_length : ∀ (l n : Nat), (unpackN l n).length = l
  | 0, _ => rfl
  | l + 1, n => by simp [unpackN, unpackN_length l]
theorem unpackN_get : ∀ (l n i : Nat), i < l → (unpackN l n)[i]? = some (byteAt n i)
  | 0, _, _, h => absurd h (Nat.not_lt_zero _)
  | l + 1, n, 0, _ => by simp [unpackN, byteAt_eq]; rfl
  | l + 1, n, i + 1, h => by
    have := unpackN_get l (n / 256) i (by omega)
    simp only [unpackN, List.getElem?_cons_succ]
    show (unpackN l (n / 256))[i]? = _
    rw [this, byteAt_eq, byteAt_eq, Nat.div_div_eq_div_mul, Nat.pow_succ, Nat.mul_comm]
theorem packN_lt : ∀ (l : List Nat), (∀ b ∈ l, b < 256) → packN l < 256 ^ l.length
  | [], _ => by simp [packN]
  | b :: r, h => by
    have h1 := h b (by simp)
    have h2 := packN_lt r (fun x hx => h x (by simp [hx]))
    simp only [packN, List.length_cons, Nat.pow_succ]
    omega
theorem unpack_pack : ∀ (l : List Nat), (∀ b ∈ l, b < 256) → unpackN l.length (packN l) = l
  | [], _ => rfl
  | b :: r, h => by
    have h1 := h b (by simp)
    have h2 := unpack_pack r (fun x hx => h x (by simp [hx]))
    simp only [List.length_cons, unpackN, packN]
    have e1 : Nat.mod (b + 256 * packN r) 256 = b := by
      show (b + 256 * packN r) % 256 = b
      omega
    have e2 : Nat.div (b + 256 * packN r) 256 = packN r := by
      show (b + 256 * packN r) / 256 = packN r
      omega
    rw [e1, e2, h2]
theorem pack_unpack : ∀ (l n : Nat), n < 256 ^ l → packN (unpackN l n) = n
  | 0, n, h => by simp at h; simp [unpackN, packN, h]
  | l + 1, n, h => by
    simp only [unpackN, packN]
    have := pack_unpack l (n / 256) (by rw [Nat.pow_succ] at h; omega)
    have e : packN (unpackN l (Nat.div n 256)) = n / 256 := this
    rw [e]
    show n % 256 + 256 * (n / 256) = n
    omega
theorem unpackN_lt : ∀ (l n : Nat), ∀ b ∈ unpackN l n, b < 256
  | 0, _, b, h => by simp [unpackN] at h
  | l + 1, n, b, h => by
    simp only [unpackN, List.mem_cons] at h
    rcases h with rfl | h
    · exact Nat.mod_lt _ (by omega)
    · exact unpackN_lt l _ b h
theorem packN_append : ∀ (a b : List Nat), packN (a ++ b) = packN a + packN b * 256 ^ a.length
  | [], b => by simp [packN]
  | x :: a, b => by
    simp only [List.cons_append, packN, packN_append a b, List.length_cons, Nat.pow_succ]
    rw [Nat.mul_add, ← Nat.mul_assoc, Nat.mul_comm (256 ^ a.length) 256, ← Nat.mul_assoc, Nat.mul_comm (packN b) 256]
    omega
theorem packBytes_eq : ∀ (l : List UInt8), packBytes l = packN (l.map UInt8.toNat)
  | [] => rfl
  | b :: r => by simp [packBytes, packN, packBytes_eq r]
theorem bytes_lt (l : List UInt8) : ∀ b ∈ l.map UInt8.toNat, b < 256 := by
  intro b hb
  obtain ⟨x, _, rfl⟩ := List.mem_map.1 hb
  exact x.toNat_lt
theorem packBytes_inj {a b : List UInt8} (hl : a.length = b.length) (h : packBytes a = packBytes b) : a = b := by
  rw [packBytes_eq, packBytes_eq] at h
  have h1 := unpack_pack _ (bytes_lt a)
  have h2 := unpack_pack _ (bytes_lt b)
  rw [h] at h1
  simp only [List.length_map] at h1 h2
  rw [hl] at h1
  have h3 : a.map UInt8.toNat = b.map UInt8.toNat := h1.symm.trans h2
  exact (List.map_inj_right (fun x y hxy => UInt8.toNat_inj.1 hxy)).1 h3
theorem unpackN_zero (l : Nat) : unpackN l 0 = List.replicate l 0 := by
  induction l with
  | zero => rfl
  | succ l ih => simp only [unpackN]; show 0 % 256 :: unpackN l (0 / 256) = _; simp [ih, List.replicate_succ]
/-- The bytes that are cut out. -/
theorem unpackN_cut (n i len l : Nat) (h : i + len ≤ l) : unpackN len (cutB n i len) = ((unpackN l n).drop i).take len := by
  apply List.ext_getElem?
  intro j
  rw [List.getElem?_take]
  split
  · rename_i hj
    rw [List.getElem?_drop, unpackN_get _ _ _ hj, unpackN_get _ _ _ (by omega), byteAt_eq, byteAt_eq, cutB_eq]
    congr 1
    have hs : 256 ^ len = 256 ^ j * 256 ^ (len - j) := by rw [← Nat.pow_add]; congr 1; omega
    rw [hs, Nat.mod_mul_right_div_self, Nat.div_div_eq_div_mul, ← Nat.pow_add]
    exact Nat.mod_mod_of_dvd _ (by
      obtain ⟨m, hm⟩ : ∃ m, len - j = m + 1 := ⟨len - j - 1, by omega⟩
      rw [hm, Nat.pow_succ]; exact Nat.dvd_mul_left _ _)
  · rename_i hj
    rw [List.getElem?_eq_none]
    rw [unpackN_length]; omega
theorem unpackN_mod (l n : Nat) : unpackN l (n % 256 ^ l) = unpackN l n := by
  have := unpackN_cut n 0 l l (by omega)
  rw [cutB_eq, Nat.pow_zero, Nat.div_one] at this
  rw [this, List.drop_zero, List.take_of_length_le (by rw [unpackN_length]; omega)]
theorem unpackN_glue (l1 n1 l2 n2 : Nat) (h1 : n1 < 256 ^ l1) : unpackN (l1 + l2) (glueB l1 n1 n2) = unpackN l1 n1 ++ unpackN l2 n2 := by
  have e1 := pack_unpack l1 n1 h1
  have e2 : packN (unpackN l2 n2) = n2 % 256 ^ l2 := by
    rw [← unpackN_mod l2 n2]; exact pack_unpack l2 _ (Nat.mod_lt _ (Nat.pow_pos (by omega)))
  have hp := packN_append (unpackN l1 n1) (unpackN l2 n2)
  rw [unpackN_length, e1, e2] at hp
  have hu := unpack_pack (unpackN l1 n1 ++ unpackN l2 n2) (by
    intro b hb
    rcases List.mem_append.1 hb with h | h
    · exact unpackN_lt _ _ _ h
    · exact unpackN_lt _ _ _ h)
  rw [hp, List.length_append, unpackN_length, unpackN_length] at hu
  rw [← hu, glueB_eq, ← unpackN_mod (l1 + l2) (n1 + n2 * 256 ^ l1)]
  congr 1
  rw [Nat.pow_add, Nat.mod_mul, Nat.add_mul_mod_self_right, Nat.mod_eq_of_lt h1, Nat.add_mul_div_right _ _ (Nat.pow_pos (by omega)), Nat.div_eq_of_lt h1, Nat.zero_add, Nat.mul_comm]
theorem glueB_lt (l1 n1 l2 n2 : Nat) (h1 : n1 < 256 ^ l1) (h2 : n2 < 256 ^ l2) : glueB l1 n1 n2 < 256 ^ (l1 + l2) := by
  rw [glueB_eq, Nat.pow_add]
  calc n1 + n2 * 256 ^ l1 < 256 ^ l1 + n2 * 256 ^ l1 := by omega
    _ = (n2 + 1) * 256 ^ l1 := by rw [Nat.add_mul, Nat.one_mul, Nat.add_comm]
    _ ≤ 256 ^ l2 * 256 ^ l1 := Nat.mul_le_mul_right _ h2
    _ = 256 ^ l1 * 256 ^ l2 := Nat.mul_comm _ _
theorem packN_cut (l : List Nat) (h : ∀ b ∈ l, b < 256) (i len : Nat) (hle : i + len ≤ l.length) : packN ((l.drop i).take len) = cutB (packN l) i len := by
  have h1 := unpackN_cut (packN l) i len l.length hle
  rw [unpack_pack l h] at h1
  rw [← h1]
  exact pack_unpack _ _ (by rw [cutB_eq]; exact Nat.mod_lt _ (Nat.pow_pos (by omega)))
theorem cutB_lt (n i len : Nat) : cutB n i len < 256 ^ len := by rw [cutB_eq]; exact Nat.mod_lt _ (Nat.pow_pos (by omega))

end Go.Proofs.YtcjidlgmbjebjaaDoor.Ev

/- Rows of cells, objects, the abstract heap: definitions, and their plain laws. -/
namespace Go.Proofs.YtcjidlgmbjebjaaDoor.Ev
open Go
noncomputable section

def bv (b : Nat) : V := .int .u8 (Int.ofNat b)

inductive Cells where
  | vals (l : List V)
  | bytes (len n : Nat)

def unpackV : Nat → Nat → List V
  | 0, _ => []
  | l + 1, n => bv (Nat.mod n 256) :: unpackV l (Nat.div n 256)
def asByte (v : V) : Option Nat :=
  match v with
  | .int k i =>
    match k with
    | .u8 =>
      match i with
      | .ofNat x =>
        match Nat.blt x 256 with
        | true => some x
        | false => none
      | .negSucc _ => none
    | _ => none
  | _ => none
theorem asByte_some {v : V} {x : Nat} (h : asByte v = some x) : v = bv x ∧ x < 256 := by
  unfold asByte at h
  cases v with
  | int k i =>
    cases k with
    | u8 =>
      cases i with
      | ofNat y =>
        simp only at h
        cases hb : Nat.blt y 256 with
        | true =>
          rw [hb] at h
          simp only [Option.some.injEq] at h
          subst h
          exact ⟨rfl, of_blt_t hb⟩
        | false => rw [hb] at h; exact absurd h (by simp)
      | negSucc y => exact absurd h (by simp)
    | _ => exact absurd h (by simp)
  | _ => exact absurd h (by simp)
/-- All of them bytes: as a number. -/
def packV : List V → Option Nat
  | [] => some 0
  | v :: r => (asByte v).bind fun x => (packV r).bind fun n => some (Nat.add x (Nat.mul 256 n))

namespace Cells
def size : Cells → Nat
  | vals l => l.length
  | bytes len _ => len
def toList : Cells → List V
  | vals l => l
  | bytes len n => unpackV len n
def get : Cells → Nat → Option V
  | vals l, i => listGet l i
  | bytes len n, i =>
    match Nat.blt i len with
    | true => some (bv (byteAt n i))
    | false => none
def spliceB (l1 n1 i l2 n2 : Nat) : Cells :=
  bytes l1 (glueB i (cutB n1 0 i) (glueB l2 (cutB n2 0 l2) (Nat.shiftRight n1 (Nat.mul 8 (Nat.add i l2)))))
def splice : Cells → Nat → Cells → Cells
  | a, i, b =>
    match a with
    | bytes l1 n1 =>
      match b with
      | bytes l2 n2 => spliceB l1 n1 i l2 n2
      | vals m => vals (takeV (unpackV l1 n1) i ++ m ++ dropV (unpackV l1 n1) (i + m.length))
    | vals l => vals (takeV l i ++ b.toList ++ dropV l (i + b.size))
def ofList (l : List V) : Cells :=
  match packV l with
  | some n => bytes l.length n
  | none => vals l
def set (c : Cells) (i : Nat) (v : V) : Cells :=
  match c with
  | vals l => vals (listSet l i v)
  | bytes len n => splice (bytes len n) i (ofList [v])
def extract : Cells → Nat → Nat → Cells
  | vals l, i, len => vals (takeV (dropV l i) len)
  | bytes _ n, i, len => bytes len (cutB n i len)
def append (a b : Cells) : Cells :=
  match a with
  | bytes l1 n1 =>
    match b with
    | bytes l2 n2 => bytes (l1 + l2) (glueB l1 (cutB n1 0 l1) (cutB n2 0 l2))
    | vals m => vals (unpackV l1 n1 ++ m)
  | vals l => vals (l ++ b.toList)
end Cells

theorem unpackV_eq : ∀ (l n : Nat), unpackV l n = (unpackN l n).map bv
  | 0, _ => rfl
  | l + 1, n => by simp [unpackV, unpackN, unpackV_eq l]
theorem unpackV_length (l n : Nat) : (unpackV l n).length = l := by rw [unpackV_eq, List.length_map, unpackN_length]
theorem unpackV_get (l n i : Nat) (h : i < l) : (unpackV l n)[i]? = some (bv (byteAt n i)) := by
  rw [unpackV_eq, List.getElem?_map, unpackN_get _ _ _ h]; rfl
theorem unpackV_cut (n i len l : Nat) (h : i + len ≤ l) : unpackV len (cutB n i len) = ((unpackV l n).drop i).take len := by
  rw [unpackV_eq, unpackV_eq, unpackN_cut n i len l h, List.map_take, List.map_drop]
theorem cut0 (n l : Nat) : unpackV l (cutB n 0 l) = unpackV l n := by
  rw [unpackV_cut n 0 l l (by omega), List.drop_zero, List.take_of_length_le (by rw [unpackV_length]; omega)]
theorem unpackV_glue (l1 n1 l2 n2 : Nat) (h1 : n1 < 256 ^ l1) : unpackV (l1 + l2) (glueB l1 n1 n2) = unpackV l1 n1 ++ unpackV l2 n2 := by
  simp only [unpackV_eq, unpackN_glue l1 n1 l2 n2 h1, List.map_append]
theorem unpackV_shr (n i l : Nat) (h : i ≤ l) : unpackV (l - i) (Nat.shiftRight n (Nat.mul 8 i)) = (unpackV l n).drop i := by
  have := unpackV_cut n i (l - i) l (by omega)
  rw [List.take_of_length_le (by rw [List.length_drop, unpackV_length]; omega)] at this
  rw [← this, cutB_eq, shr8]
  rw [unpackV_eq, unpackV_eq, unpackN_mod]
theorem packV_some : ∀ (l : List V) (n : Nat), packV l = some n → unpackV l.length n = l ∧ n < 256 ^ l.length
  | [], n, h => by simp [packV] at h; subst h; exact ⟨rfl, by simp⟩
  | v :: r, n, h => by
    simp only [packV] at h
    obtain ⟨x, hx, h⟩ := Option.bind_eq_some_iff.1 h
    obtain ⟨m, hm, he⟩ := Option.bind_eq_some_iff.1 h
    obtain ⟨rfl, hb⟩ := asByte_some hx
    obtain ⟨h1, h2⟩ := packV_some r m hm
    simp only [Option.some.injEq] at he
    have he : x + 256 * m = n := he
    subst he
    simp only [List.length_cons, unpackV, Nat.pow_succ]
    have e1 : Nat.mod (x + 256 * m) 256 = x := by show (x + 256 * m) % 256 = x; omega
    have e2 : Nat.div (x + 256 * m) 256 = m := by show (x + 256 * m) / 256 = m; omega
    rw [e1, e2, h1]
    exact ⟨rfl, by omega⟩
theorem unpackV_take (n i l : Nat) (h : i ≤ l) : unpackV i n = (unpackV l n).take i := by
  have := unpackV_cut n 0 i l (by omega)
  rw [cut0, List.drop_zero] at this
  exact this

namespace Cells
theorem size_eq (c : Cells) : c.size = c.toList.length := by
  cases c with
  | vals l => rfl
  | bytes len n => exact (unpackV_length len n).symm
theorem get_eq (c : Cells) (i : Nat) : c.get i = c.toList[i]? := by
  cases c with
  | vals l => exact listGet_eq l i
  | bytes len n =>
    show (match Nat.blt i len with | true => some (bv (byteAt n i)) | false => none) = (unpackV len n)[i]?
    cases h : Nat.blt i len
    · exact (List.getElem?_eq_none (by rw [unpackV_length]; exact of_blt_f h)).symm
    · exact (unpackV_get len n i (of_blt_t h)).symm
theorem toList_spliceB (l1 n1 i l2 n2 : Nat) (h : i + l2 ≤ l1) :
    (spliceB l1 n1 i l2 n2).toList = (unpackV l1 n1).take i ++ unpackV l2 n2 ++ (unpackV l1 n1).drop (i + l2) := by
  show unpackV l1 _ = _
  have hl : l1 = i + (l2 + (l1 - (i + l2))) := by omega
  have e1 := unpackV_glue l2 (cutB n2 0 l2) (l1 - (i + l2)) (Nat.shiftRight n1 (Nat.mul 8 (i + l2))) (cutB_lt _ _ _)
  have e2 := unpackV_glue i (cutB n1 0 i) (l2 + (l1 - (i + l2))) (glueB l2 (cutB n2 0 l2) (Nat.shiftRight n1 (Nat.mul 8 (i + l2)))) (cutB_lt _ _ _)
  rw [← hl, e1, cut0, cut0, unpackV_shr n1 (i + l2) l1 h, unpackV_take n1 i l1 (by omega), ← List.append_assoc] at e2
  exact e2
theorem toList_splice (a : Cells) (i : Nat) (b : Cells) (h : i + b.size ≤ a.size) :
    (a.splice i b).toList = a.toList.take i ++ b.toList ++ a.toList.drop (i + b.toList.length) := by
  cases a with
  | vals l =>
    show takeV l i ++ b.toList ++ dropV l (i + b.size) = _
    rw [takeV_eq, dropV_eq, size_eq]; rfl
  | bytes l1 n1 =>
    cases b with
    | bytes l2 n2 =>
      show (spliceB l1 n1 i l2 n2).toList = _
      rw [toList_spliceB l1 n1 i l2 n2 h]
      show _ = _ ++ _ ++ (unpackV l1 n1).drop (i + (unpackV l2 n2).length)
      rw [unpackV_length]; rfl
    | vals m =>
      show takeV (unpackV l1 n1) i ++ m ++ dropV (unpackV l1 n1) (i + m.length) = _
      rw [takeV_eq, dropV_eq]; rfl
theorem toList_ofList (l : List V) : (ofList l).toList = l := by
  unfold ofList
  cases h : packV l with
  | none => rfl
  | some n => exact (packV_some l n h).1
theorem size_ofList (l : List V) : (ofList l).size = l.length := by rw [size_eq, toList_ofList]
theorem toList_set (c : Cells) (i : Nat) (v : V) (h : i < c.size) : (c.set i v).toList = c.toList.set i v := by
  cases c with
  | vals l => exact listSet_eq l i v
  | bytes len n =>
    show (splice (bytes len n) i (ofList [v])).toList = _
    have h' : i < len := h
    rw [toList_splice _ _ _ (by rw [size_ofList]; exact h), toList_ofList]
    apply List.ext_getElem?
    intro j
    have hl : (unpackV len n).length = len := unpackV_length len n
    rw [show (bytes len n).toList = unpackV len n from rfl, List.getElem?_set]
    by_cases h1 : i = j
    · subst h1
      rw [if_pos rfl, if_pos (by omega), List.append_assoc, List.getElem?_append_right (by rw [List.length_take]; omega), List.length_take, hl]
      simp [Nat.min_eq_left (Nat.le_of_lt h')]
    · rw [if_neg h1]
      by_cases h2 : j < i
      · rw [List.append_assoc, List.getElem?_append_left (by rw [List.length_take]; omega), List.getElem?_take, if_pos h2]
      · rw [List.getElem?_append_right (by simp; omega), List.getElem?_drop]
        congr 1
        simp; omega
theorem toList_extract (c : Cells) (i len : Nat) (h : i + len ≤ c.size) : (c.extract i len).toList = (c.toList.drop i).take len := by
  cases c with
  | vals l => show takeV (dropV l i) len = _; rw [takeV_eq, dropV_eq]; rfl
  | bytes l1 n => exact unpackV_cut n i len l1 h
theorem toList_append (a b : Cells) : (a.append b).toList = a.toList ++ b.toList := by
  cases a with
  | vals l => rfl
  | bytes l1 n1 =>
    cases b with
    | bytes l2 n2 =>
      show unpackV (l1 + l2) (glueB l1 (cutB n1 0 l1) (cutB n2 0 l2)) = _
      rw [unpackV_glue _ _ _ _ (cutB_lt _ _ _), cut0, cut0]; rfl
    | vals m => rfl
end Cells

theorem allOne_iff : ∀ (l : List V), allOne l = true ↔ ∀ v ∈ l, v.one = true
  | [] => by simp [allOne]
  | v :: r => by
    simp only [allOne, List.mem_cons, forall_eq_or_imp]
    cases h : v.one
    · simp
    · simp [allOne_iff r]

structure LoopRec where
  state : LoopState
  pending : Option Code
  fn : FuncId
  tmps : T V
  ntmps : Nat
  params : List Tmp
  assign : Code
  body : Code
  defers : Nat

inductive Obj where
  | row (elem : Nat) (cells : Cells) (opn ro : Bool)
  | map (es : List (V × V × Nat)) (clock : Nat)
  | strIter (len n pos : Nat)
  | mapIter (m : Option Nat) (since : Nat) (seen : List Nat) (stepped : Nat)
  | loop (l : LoopRec)
  | deferred
  | dead

structure Heap where
  objs : T Obj
  next : Nat

def Heap.look (h : Heap) (r : Nat) : Option Obj := h.objs.get r
def Heap.new (h : Heap) (o : Obj) : Heap := { objs := h.objs.set h.next o, next := h.next + 1 }
def Heap.put (h : Heap) (r : Nat) (o : Obj) : Heap := { objs := h.objs.set r o, next := h.next }
theorem Heap.look_new (h : Heap) (o : Obj) (r : Nat) : (h.new o).look r = if r = h.next then some o else h.look r := T.get_set _ _ _ _
theorem Heap.look_put (h : Heap) (k : Nat) (o : Obj) (r : Nat) : (h.put k o).look r = if r = k then some o else h.look r := T.get_set _ _ _ _
@[simp] theorem Heap.next_new (h : Heap) (o : Obj) : (h.new o).next = h.next + 1 := rfl
@[simp] theorem Heap.next_put (h : Heap) (k : Nat) (o : Obj) : (h.put k o).next = h.next := rfl

end
end Go.Proofs.YtcjidlgmbjebjaaDoor.Ev

/- How an abstract heap stands for a world: the relation, and its laws. -/
namespace Go.Proofs.YtcjidlgmbjebjaaDoor.Ev
open Go
noncomputable section

/-- What is known of a type. -/
structure TI where
  desc : TypeDesc
  size : Nat
  bytes : Nat
  agg : Bool
  zero : Option V
  comparable : Bool
  methods : List Method
  guard : Bool
  stood : Bool

/-- Where an abstract block lies. -/
structure Pl where
  blk : Nat
  base : Nat
  alen : Nat
  lim : Nat
  esz : Nat
  opn : Bool
  ro : Bool
  val : Option Value

structure Env where
  ti : Nat → Option TI
  fn : Nat → Option Func
  nglob : Nat
  base : Nat → Option Pl
  ek : Nat → Nat

def aggD : TypeDesc → Bool
  | .struct _ => true
  | .array _ _ => true
  | _ => false

def Env.desc (E : Env) (t : Nat) : Option TypeDesc := (E.ti t).bind fun x => some x.desc
def Env.size (E : Env) (t : Nat) : Option Nat := (E.ti t).bind fun x => some x.size

abbrev Pm := Nat → Option Pl
def Le (φ ψ : Pm) : Prop := ∀ r p, φ r = some p → ψ r = some p
theorem Le.refl (φ : Pm) : Le φ φ := fun _ _ h => h
theorem Le.trans {φ ψ χ : Pm} (h : Le φ ψ) (k : Le ψ χ) : Le φ χ := fun r p e => k r p (h r p e)
def Dom (φ : Pm) (n : Nat) : Prop := ∀ r p, φ r = some p → r < n
def ext (φ : Pm) (n : Nat) (p : Pl) : Pm := fun r => if r = n then some p else φ r
theorem ext_same (φ : Pm) (n : Nat) (p : Pl) : ext φ n p n = some p := if_pos rfl
theorem ext_ne (φ : Pm) {n r : Nat} (p : Pl) (h : r ≠ n) : ext φ n p r = φ r := if_neg h
theorem Dom.le_ext {φ : Pm} {n : Nat} (h : Dom φ n) (p : Pl) : Le φ (ext φ n p) := fun r q e => by
  rw [ext_ne _ _ (Nat.ne_of_lt (h r q e))]; exact e
theorem Dom.ext {φ : Pm} {n : Nat} (h : Dom φ n) (p : Pl) : Dom (ext φ n p) (n + 1) := fun r q e => by
  unfold Ev.ext at e
  split at e
  · omega
  · exact Nat.lt_succ_of_lt (h r q e)

def adr (p : Pl) (off : Nat) : Addr := ⟨p.blk, p.base + off, none⟩
theorem adr_add (p : Pl) (off n : Nat) : (adr p off).add n = adr p (off + n) := by
  unfold Addr.add adr
  split
  · rename_i h; subst h; rfl
  · simp [Nat.add_assoc]

def CapOk (p : Pl) (off cap cap' : Nat) : Prop :=
  cap' = cap ∨ (p.opn = true ∧ off + cap * p.esz = p.alen ∧ cap ≤ cap' ∧ off + cap' * p.esz ≤ p.lim)

inductive FnR (φ : Pm) : Fn → Fn → Prop
  | func (f : FuncId) : FnR φ (.func f) (.func f)
  | method (s : String) : FnR φ (.method s) (.method s)
  | methodOf (t : TypeId) (s : String) : FnR φ (.methodOf t s) (.methodOf t s)
  | yield {l : Nat} {p : Pl} (h : φ l = some p) : FnR φ (.yield l) (.yield p.blk)

mutual
inductive VR (φ : Pm) : V → Value → Prop
  | int (k : IntKind) (n : Int) : VR φ (.int k n) (.int k n)
  | bool (b : Bool) : VR φ (.bool b) (.bool b)
  | str (s : ByteArray) : VR φ (.str s.data.toList.length (packBytes s.data.toList)) (.string s)
  | ptr {r : Nat} {p : Pl} (off : Nat) (h : φ r = some p) : VR φ (.ptr r off) (.pointer (some (adr p off)))
  | nilPtr : VR φ .nilPtr (.pointer none)
  | slice {r : Nat} {p : Pl} (off len : Nat) {cap cap' : Nat} (h : φ r = some p) (hc : CapOk p off cap cap') : VR φ (.slice r off len cap) (.slice (some (adr p off)) len cap')
  | nilSlice : VR φ .nilSlice (.slice none 0 0)
  | emptyS (a : Addr) (cap : Nat) : VR φ .emptyS (.slice (some a) 0 cap)
  | map {r : Nat} {p : Pl} (h : φ r = some p) : VR φ (.map r) (.map (some p.blk))
  | nilMap : VR φ .nilMap (.map none)
  | func {fn fn' : Fn} {fs cs : List V} {fs' cs' : Array Value} (h : FnR φ fn fn') (h1 : VRs φ fs fs'.toList) (h2 : VRs φ cs cs'.toList) : VR φ (.func fn fs cs) (.func fn' fs' cs')
  | nilFunc : VR φ .nilFunc .nilFunc
  | iface (t : TypeId) {v : V} {v' : Value} (h : VR φ v v') : VR φ (.iface t v) (.iface t v')
  | nilIface : VR φ .nilIface .nilIface
  | agg {cs : List V} {cs' : Array Value} (h : VRs φ cs cs'.toList) (h1 : ∀ v ∈ cs, v.one = true) : VR φ (.agg cs) (.agg cs')
  | tuple {cs : List V} {cs' : Array Value} (h : VRs φ cs cs'.toList) : VR φ (.tuple cs) (.tuple cs')
  | unk {v' : Value} (h : v'.oneCell' = true) : VR φ .unk v'
  | par {r : Nat} {p : Pl} {v' : Value} (h : φ r = some p) (hv : p.val = some v') (h1 : v'.oneCell' = true) : VR φ (.par r) v'
  | pin {r : Nat} {p : Pl} {k : IntKind} {n : Int} (h : φ r = some p) (hv : p.val = some (.int k n)) : VR φ (.pin k r) (.int k n)
inductive VRs (φ : Pm) : List V → List Value → Prop
  | nil : VRs φ [] []
  | cons {v : V} {v' : Value} {l : List V} {l' : List Value} (h : VR φ v v') (hs : VRs φ l l') : VRs φ (v :: l) (v' :: l')
end

theorem FnR.mono {φ ψ : Pm} (hle : Le φ ψ) {a b : Fn} (h : FnR φ a b) : FnR ψ a b := by
  cases h with
  | func f => exact .func f
  | method s => exact .method s
  | methodOf t s => exact .methodOf t s
  | yield h => exact .yield (hle _ _ h)
mutual
theorem VR.mono {φ ψ : Pm} (hle : Le φ ψ) : ∀ {v : V} {v' : Value}, VR φ v v' → VR ψ v v'
  | _, _, .int k n => .int k n
  | _, _, .bool b => .bool b
  | _, _, .str s => .str s
  | _, _, .ptr off h => .ptr off (hle _ _ h)
  | _, _, .nilPtr => .nilPtr
  | _, _, .slice off len h hc => .slice off len (hle _ _ h) hc
  | _, _, .nilSlice => .nilSlice
  | _, _, .emptyS a c => .emptyS a c
  | _, _, .map h => .map (hle _ _ h)
  | _, _, .nilMap => .nilMap
  | _, _, .func h h1 h2 => .func (h.mono hle) (VRs.mono hle h1) (VRs.mono hle h2)
  | _, _, .nilFunc => .nilFunc
  | _, _, .iface t h => .iface t (VR.mono hle h)
  | _, _, .nilIface => .nilIface
  | _, _, .agg h h1 => .agg (VRs.mono hle h) h1
  | _, _, .tuple h => .tuple (VRs.mono hle h)
  | _, _, .unk h => .unk h
  | _, _, .par h hv h1 => .par (hle _ _ h) hv h1
  | _, _, .pin h hv => .pin (hle _ _ h) hv
theorem VRs.mono {φ ψ : Pm} (hle : Le φ ψ) : ∀ {l : List V} {l' : List Value}, VRs φ l l' → VRs ψ l l'
  | _, _, .nil => .nil
  | _, _, .cons h hs => .cons (VR.mono hle h) (VRs.mono hle hs)
end
theorem VRs.length {φ : Pm} : ∀ {l : List V} {l' : List Value}, VRs φ l l' → l.length = l'.length
  | _, _, .nil => rfl
  | _, _, .cons _ hs => by simp [hs.length]
theorem VRs.get {φ : Pm} : ∀ {l : List V} {l' : List Value}, VRs φ l l' → ∀ {i : Nat} {v : V}, l[i]? = some v → ∃ v', l'[i]? = some v' ∧ VR φ v v'
  | _, _, .nil, i, v, h => by simp at h
  | _, _, .cons h0 hs, 0, v, h => by simp at h; subst h; exact ⟨_, rfl, h0⟩
  | _, _, .cons h0 hs, i + 1, v, h => by
    rw [List.getElem?_cons_succ] at h ⊢
    exact hs.get h
theorem VRs.of_get {φ : Pm} : ∀ {l : List V} {l' : List Value}, l.length = l'.length → (∀ (i : Nat) (v : V) (v' : Value), l[i]? = some v → l'[i]? = some v' → VR φ v v') → VRs φ l l'
  | [], [], _, _ => .nil
  | [], _ :: _, h, _ => by simp at h
  | _ :: _, [], h, _ => by simp at h
  | v :: l, v' :: l', h, hg => .cons (hg 0 v v' rfl rfl) (VRs.of_get (by simpa using h) (fun i w w' h1 h2 => hg (i + 1) w w' (by simpa using h1) (by simpa using h2)))
theorem VRs.append {φ : Pm} : ∀ {l m : List V} {l' m' : List Value}, VRs φ l l' → VRs φ m m' → VRs φ (l ++ m) (l' ++ m')
  | _, _, _, _, .nil, h => h
  | _, _, _, _, .cons h0 hs, h => .cons h0 (hs.append h)
theorem VRs.take {φ : Pm} : ∀ {l : List V} {l' : List Value} (n : Nat), VRs φ l l' → VRs φ (l.take n) (l'.take n)
  | _, _, 0, _ => by simp; exact .nil
  | _, _, _ + 1, .nil => by simp; exact .nil
  | _, _, n + 1, .cons h0 hs => by simp only [List.take_succ_cons]; exact .cons h0 (hs.take n)
theorem VRs.drop {φ : Pm} : ∀ {l : List V} {l' : List Value} (n : Nat), VRs φ l l' → VRs φ (l.drop n) (l'.drop n)
  | _, _, 0, h => by simpa using h
  | _, _, _ + 1, .nil => by simp; exact .nil
  | _, _, n + 1, .cons h0 hs => by simp only [List.drop_succ_cons]; exact hs.drop n
theorem VR.one {φ : Pm} {v : V} {v' : Value} (h : VR φ v v') : v.one = true ↔ v'.oneCell' = true := by
  cases h <;> simp_all [V.one, Value.oneCell']

theorem VR.int_inv {φ : Pm} {k : IntKind} {n : Int} {v' : Value} (h : VR φ (.int k n) v') : v' = .int k n := by cases h; rfl
theorem VR.bool_inv {φ : Pm} {b : Bool} {v' : Value} (h : VR φ (.bool b) v') : v' = .bool b := by cases h; rfl
theorem VR.str_inv {φ : Pm} {len n : Nat} {v' : Value} (h : VR φ (.str len n) v') : ∃ s : ByteArray, v' = .string s ∧ len = s.data.toList.length ∧ n = packBytes s.data.toList := by
  cases h; exact ⟨_, rfl, rfl, rfl⟩
theorem VR.ptr_inv {φ : Pm} {r off : Nat} {v' : Value} (h : VR φ (.ptr r off) v') : ∃ p, φ r = some p ∧ v' = .pointer (some (adr p off)) := by
  cases h; exact ⟨_, by assumption, rfl⟩
theorem VR.nilPtr_inv {φ : Pm} {v' : Value} (h : VR φ .nilPtr v') : v' = .pointer none := by cases h; rfl
theorem VR.slice_inv {φ : Pm} {r off len cap : Nat} {v' : Value} (h : VR φ (.slice r off len cap) v') : ∃ p cap', φ r = some p ∧ CapOk p off cap cap' ∧ v' = .slice (some (adr p off)) len cap' := by
  cases h; exact ⟨_, _, by assumption, by assumption, rfl⟩
theorem VR.nilSlice_inv {φ : Pm} {v' : Value} (h : VR φ .nilSlice v') : v' = .slice none 0 0 := by cases h; rfl
theorem VR.emptyS_inv {φ : Pm} {v' : Value} (h : VR φ .emptyS v') : ∃ a c, v' = .slice (some a) 0 c := by cases h; exact ⟨_, _, rfl⟩
theorem VR.map_inv {φ : Pm} {r : Nat} {v' : Value} (h : VR φ (.map r) v') : ∃ p, φ r = some p ∧ v' = .map (some p.blk) := by
  cases h; exact ⟨_, by assumption, rfl⟩
theorem VR.nilMap_inv {φ : Pm} {v' : Value} (h : VR φ .nilMap v') : v' = .map none := by cases h; rfl
theorem VR.func_inv {φ : Pm} {fn : Fn} {a b : List V} {v' : Value} (h : VR φ (.func fn a b) v') : ∃ fn' a' b', FnR φ fn fn' ∧ VRs φ a a'.toList ∧ VRs φ b b'.toList ∧ v' = .func fn' a' b' := by
  cases h; exact ⟨_, _, _, by assumption, by assumption, by assumption, rfl⟩
theorem VR.nilFunc_inv {φ : Pm} {v' : Value} (h : VR φ .nilFunc v') : v' = .nilFunc := by cases h; rfl
theorem VR.iface_inv {φ : Pm} {t : Nat} {v : V} {v' : Value} (h : VR φ (.iface t v) v') : ∃ w, VR φ v w ∧ v' = .iface t w := by
  cases h; exact ⟨_, by assumption, rfl⟩
theorem VR.nilIface_inv {φ : Pm} {v' : Value} (h : VR φ .nilIface v') : v' = .nilIface := by cases h; rfl
theorem VR.agg_inv {φ : Pm} {cs : List V} {v' : Value} (h : VR φ (.agg cs) v') : ∃ cs', VRs φ cs cs'.toList ∧ (∀ v ∈ cs, v.one = true) ∧ v' = .agg cs' := by
  cases h; exact ⟨_, by assumption, by assumption, rfl⟩
theorem VR.tuple_inv {φ : Pm} {cs : List V} {v' : Value} (h : VR φ (.tuple cs) v') : ∃ cs', VRs φ cs cs'.toList ∧ v' = .tuple cs' := by
  cases h; exact ⟨_, by assumption, rfl⟩

structure TIOk (P : Program) (t : Nat) (x : TI) (i : TypeInfo) : Prop where
  info : P.info? t = some i
  desc : P.underlying t = some x.desc
  size : i.size = x.size
  bytes : i.bytes = x.bytes
  agg : x.agg = aggD x.desc
  zero : ∀ z, x.zero = some z → ∃ z', i.zero = some z' ∧ ∀ φ, VR φ z z'
  comparable : i.comparable = x.comparable
  methods : i.methods.toList = x.methods
  guard : x.guard = P.eqGuardType P.depth t
  stood : x.stood = P.stoodInHeld t

/-- The functions without a body that the evaluator takes, by number, as the model has them. -/
def extSem (k : Nat) : Array Value → Sem Value :=
  match k with
  | 1 => fun args => do
    let (x, y, c) ← Extern.MathBitsCarry.three "Add64" args
    pure (Extern.MathBitsCarry.pair ((x + y + c) % Extern.MathBitsCarry.m64) ((x + y + c) / Extern.MathBitsCarry.m64))
  | 2 => fun args => do
    let (x, y, b) ← Extern.MathBitsCarry.three "Sub64" args
    pure (Extern.MathBitsCarry.pair ((x + Extern.MathBitsCarry.m64 - y - b) % Extern.MathBitsCarry.m64) (if x < y + b then 1 else 0))
  | 4 => Extern.MapsClone.clone
  | _ => Extern.AbiNoEscape.same
structure ExtOk (P : Program) (f : FuncId) (k : Nat) : Prop where
  fn : ∃ x, P.funcs[f]? = some x ∧ (x.name == "runtime.NumGoroutine") = false ∧ x.body.isNone = true ∧ (Extern.findNext x).isNone = true ∧ Extern.find x = some (extSem k)
structure EnvOk (E : Env) (P : Program) : Prop where
  ext : ∀ f, E.ek f ≠ 0 → ExtOk P f (E.ek f)
  ti : ∀ t x, E.ti t = some x → ∃ i, TIOk P t x i
  fn : ∀ f x, E.fn f = some x → P.funcs[f]? = some x ∧ (x.name == "runtime.NumGoroutine") = false
  mix : P.follows .mixedOrders = true

theorem EnvOk.desc {E : Env} {P : Program} (h : EnvOk E P) {t : Nat} {d : TypeDesc} (hd : E.desc t = some d) : P.underlying t = some d := by
  unfold Env.desc at hd
  obtain ⟨x, hx, hd⟩ := Option.bind_eq_some_iff.1 hd
  obtain ⟨i, hi⟩ := h.ti t x hx
  simp only [Option.some.injEq] at hd
  subst hd
  exact hi.desc
theorem EnvOk.size {E : Env} {P : Program} (h : EnvOk E P) {t n : Nat} (hd : E.size t = some n) : ∃ i, P.info? t = some i ∧ i.size = n := by
  unfold Env.size at hd
  obtain ⟨x, hx, hd⟩ := Option.bind_eq_some_iff.1 hd
  obtain ⟨i, hi⟩ := h.ti t x hx
  simp only [Option.some.injEq] at hd
  exact ⟨i, hi.info, hi.size.trans hd⟩

def Obj.live : Obj → Bool
  | .dead => false
  | _ => true

structure EntR (φ : Pm) (a : V × V × Nat) (b : MapEntry) : Prop where
  key : VR φ a.1 b.key
  val : VR φ a.2.1 b.val
  born : a.2.2 = b.born
inductive EntsR (φ : Pm) : List (V × V × Nat) → List MapEntry → Prop
  | nil : EntsR φ [] []
  | cons {a : V × V × Nat} {b : MapEntry} {l : List (V × V × Nat)} {l' : List MapEntry} (h : EntR φ a b) (hs : EntsR φ l l') : EntsR φ (a :: l) (b :: l')
theorem EntsR.mono {φ ψ : Pm} (hle : Le φ ψ) : ∀ {l : List (V × V × Nat)} {l' : List MapEntry}, EntsR φ l l' → EntsR ψ l l'
  | _, _, .nil => .nil
  | _, _, .cons h hs => .cons ⟨h.key.mono hle, h.val.mono hle, h.born⟩ (hs.mono hle)

/-- Temporaries. -/
structure TR (φ : Pm) (tm : T V) (n : Nat) (tmps : Array Value) : Prop where
  size : tmps.size = n
  at_ : ∀ t, VR φ ((tm.get t).getD vundef) (tmps.getD t undef)
theorem TR.mono {φ ψ : Pm} (hle : Le φ ψ) {tm : T V} {n : Nat} {tmps : Array Value} (h : TR φ tm n tmps) : TR ψ tm n tmps := ⟨h.size, fun t => (h.at_ t).mono hle⟩
theorem VR.undef {φ : Pm} : VR φ vundef Go.undef := .tuple .nil
theorem TR.put {φ : Pm} {tm : T V} {n : Nat} {tmps : Array Value} (h : TR φ tm n tmps) {d : Nat} (hd : d < n) {v : V} {v' : Value} (hv : VR φ v v') :
    TR φ (tm.set d v) n (tmps.setIfInBounds d v') := by
  refine ⟨by rw [Array.size_setIfInBounds]; exact h.size, fun t => ?_⟩
  rw [T.get_set]
  by_cases ht : t = d
  · subst ht
    rw [if_pos rfl, Array.getD_eq_getD_getElem?, Array.getElem?_setIfInBounds_self_of_lt (by rw [h.size]; exact hd)]
    exact hv
  · rw [if_neg ht, Array.getD_eq_getD_getElem?, Array.getElem?_setIfInBounds_ne (Ne.symm ht), ← Array.getD_eq_getD_getElem?]
    exact h.at_ t

structure RowR (E : Env) (φ : Pm) (p : Pl) (e : Nat) (cells : Cells) (opn ro : Bool) (W : World) : Prop where
  esz : E.size e = some p.esz
  alen : p.alen = cells.toList.length
  ale : p.alen ≤ p.lim
  opq : p.opn = opn
  roq : p.ro = ro
  clo : opn = false → p.lim = p.alen
  cell : ∀ i v, cells.toList[i]? = some v → ∃ v', W.cell? (adr p i) = some v' ∧ VR φ v v' ∧ v'.oneCell' = true
  some_ : ∀ i, i < p.lim → (W.cell? (adr p i)).isSome = true
  free : p.ro = false → ∃ c fz, W.heap[p.blk]? = some (.cells c e fz) ∧ c.size = p.base + p.lim ∧ p.base % p.esz = 0 ∧ (fz.1 = fz.2 ∨ p.base + p.lim ≤ fz.1)

structure LoopR (φ : Pm) (a : LoopRec) (b : Loop) : Prop where
  defers : ∃ q, φ a.defers = some q ∧ b.defers = q.blk
  state : a.state = b.state
  pending : a.pending = b.pending
  fn : a.fn = b.fn
  tmps : TR φ a.tmps a.ntmps b.tmps
  params : a.params = b.params.toList
  assign : a.assign = b.assign
  body : a.body = b.body

def ObjR (E : Env) (φ : Pm) (p : Pl) : Obj → World → Prop
  | .row e cells opn ro, W => RowR E φ p e cells opn ro W
  | .map es clock, W => p.ro = false ∧ ∃ es', W.heap[p.blk]? = some (.map es' clock) ∧ EntsR φ es es'.toList
  | .strIter len n pos, W => (p.ro = false ∧ p.base = 0) ∧ ∃ s, W.heap[p.blk]? = some (.stringIter s pos) ∧ len = s.data.toList.length ∧ n = packBytes s.data.toList
  | .mapIter m since seen stepped, W => (p.ro = false ∧ p.base = 0) ∧ ∃ m' seen', W.heap[p.blk]? = some (.mapIter m' since seen' stepped) ∧ seen = seen'.toList ∧
      (match m with
       | none => m' = none
       | some r => ∃ q, φ r = some q ∧ m' = some q.blk)
  | .loop l, W => p.ro = false ∧ ∃ l', W.heap[p.blk]? = some (.loop l') ∧ LoopR φ l l'
  | .deferred, W => p.ro = false ∧ W.heap[p.blk]? = some (.deferred (some []))
  | .dead, _ => True

theorem RowR.frozen {E : Env} {φ : Pm} {p : Pl} {e : Nat} {c : Cells} {opn ro : Bool} {W : World} (h : RowR E φ p e c opn ro W) (hr : ro = false) {i : Nat} (hi : i < p.lim) : W.frozen? (adr p i) = false := by
  obtain ⟨c', fz, h1, hcs, _, h2⟩ := h.free (h.roq.trans hr)
  unfold World.frozen?
  have : (adr p i).block = p.blk := rfl
  rw [this, h1]
  have ho : (adr p i).off = p.base + i := rfl
  rw [ho]
  obtain ⟨lo, hi'⟩ := fz
  simp only at h2 ⊢
  simp only [Bool.and_eq_false_iff, decide_eq_false_iff_not]
  omega
theorem RowR.mono {E : Env} {φ ψ : Pm} (hle : Le φ ψ) {p : Pl} {e : Nat} {c : Cells} {opn ro : Bool} {W : World} (h : RowR E φ p e c opn ro W) : RowR E ψ p e c opn ro W :=
  ⟨h.esz, h.alen, h.ale, h.opq, h.roq, h.clo, fun i v hi => let ⟨v', h1, h2, h3⟩ := h.cell i v hi; ⟨v', h1, h2.mono hle, h3⟩, h.some_, h.free⟩
theorem ObjR.mono {E : Env} {φ ψ : Pm} (hle : Le φ ψ) {p : Pl} {o : Obj} {W : World} (h : ObjR E φ p o W) : ObjR E ψ p o W := by
  cases o with
  | row e c opn ro => exact RowR.mono hle h
  | map es clock => obtain ⟨h0, es', h1, h2⟩ := h; exact ⟨h0, es', h1, h2.mono hle⟩
  | strIter len n pos => exact h
  | mapIter m since seen stepped =>
    obtain ⟨h0, m', seen', h1, h2, h3⟩ := h
    refine ⟨h0, m', seen', h1, h2, ?_⟩
    cases m with
    | none => exact h3
    | some r => obtain ⟨q, hq, h4⟩ := h3; exact ⟨q, hle _ _ hq, h4⟩
  | deferred => exact h
  | loop l => obtain ⟨h0, l', h1, h2⟩ := h; exact ⟨h0, l', h1, ⟨let ⟨q, hq, h3⟩ := h2.defers; ⟨q, hle _ _ hq, h3⟩, h2.state, h2.pending, h2.fn, h2.tmps.mono hle, h2.params, h2.assign, h2.body⟩⟩
  | dead => trivial
theorem ObjR.same {E : Env} {φ : Pm} {p : Pl} {o : Obj} {W W' : World} (h : ObjR E φ p o W) (hw : W'.heap[p.blk]? = W.heap[p.blk]?) : ObjR E φ p o W' := by
  cases o with
  | row e c opn ro =>
    have hc : ∀ i, W'.cell? (adr p i) = W.cell? (adr p i) := fun i => World.cell?_of_block (a := adr p i) hw
    have h : RowR E φ p e c opn ro W := h
    exact ⟨h.esz, h.alen, h.ale, h.opq, h.roq, h.clo, fun i v hi => by rw [hc]; exact h.cell i v hi, fun i hi => by rw [hc]; exact h.some_ i hi, fun hr => by rw [hw]; exact h.free hr⟩
  | map es clock => obtain ⟨h0, es', h1, h2⟩ := h; exact ⟨h0, es', hw.trans h1, h2⟩
  | strIter len n pos => obtain ⟨h0, s, h1, h2⟩ := h; exact ⟨h0, s, hw.trans h1, h2⟩
  | mapIter m since seen stepped => obtain ⟨h0, m', seen', h1, h2⟩ := h; exact ⟨h0, m', seen', hw.trans h1, h2⟩
  | loop l => obtain ⟨h0, l', h1, h2⟩ := h; exact ⟨h0, l', hw.trans h1, h2⟩
  | deferred => obtain ⟨h0, h1⟩ := h; exact ⟨h0, hw.trans h1⟩
  | dead => trivial

abbrev Look := Nat → Option Obj

structure HR (E : Env) (φ : Pm) (G : Look) (W : World) : Prop where
  obj : ∀ r o p, G r = some o → φ r = some p → ObjR E φ p o W
  inj : ∀ r r' o o' p p', r ≠ r' → G r = some o → G r' = some o' → o.live = true → o'.live = true → φ r = some p → φ r' = some p' → p.ro = false → p.blk ≠ p'.blk
  lt : ∀ r o p, G r = some o → o.live = true → φ r = some p → p.blk < W.heap.size

/-- The blocks that may be written. -/
def Wr (φ : Pm) (G : Look) (b : Nat) : Prop := ∃ r o p, G r = some o ∧ o.live = true ∧ φ r = some p ∧ p.ro = false ∧ p.blk = b

structure Fr (φ : Pm) (G : Look) (W : World) (φ' : Pm) (G' : Look) (W' : World) : Prop where
  os : W'.os = W.os
  tape : W'.tape = W.tape
  output : W'.output = W.output
  size : W.heap.size ≤ W'.heap.size
  keep : ∀ b, b < W.heap.size → ¬ Wr φ G b → W'.heap[b]? = W.heap[b]?
  wr : ∀ b, Wr φ' G' b → Wr φ G b ∨ W.heap.size ≤ b
theorem Fr.refl (φ : Pm) (G : Look) (W : World) : Fr φ G W φ G W := ⟨rfl, rfl, rfl, Nat.le_refl _, fun _ _ _ => rfl, fun _ h => .inl h⟩
theorem Fr.trans {φ φ1 φ2 : Pm} {G G1 G2 : Look} {W W1 W2 : World} (h : Fr φ G W φ1 G1 W1) (k : Fr φ1 G1 W1 φ2 G2 W2) : Fr φ G W φ2 G2 W2 where
  os := k.os.trans h.os
  tape := k.tape.trans h.tape
  output := k.output.trans h.output
  size := Nat.le_trans h.size k.size
  keep := fun b hb hw => by
    rw [k.keep b (Nat.lt_of_lt_of_le hb h.size) (fun hw1 => (h.wr b hw1).elim hw (fun hle => absurd hb (Nat.not_lt.2 hle)))]
    exact h.keep b hb hw
  wr := fun b hb => (k.wr b hb).elim (h.wr b) (fun hle => .inr (Nat.le_trans h.size hle))
theorem Fr.drew (φ : Pm) (G : Look) (W : World) : Fr φ G W φ G W.drew := ⟨rfl, rfl, rfl, Nat.le_refl _, fun _ _ _ => rfl, fun _ h => .inl h⟩

theorem HR.drew {E : Env} {φ : Pm} {G : Look} {W : World} (h : HR E φ G W) : HR E φ G W.drew :=
  ⟨fun r o p h1 h2 => (h.obj r o p h1 h2).same rfl, h.inj, h.lt⟩

/-- The state as a whole. -/
structure St (E : Env) (φ : Pm) (H : Heap) (W : World) : Prop where
  dom : Dom φ H.next
  hr : HR E φ H.look W
theorem St.drew {E : Env} {φ : Pm} {H : Heap} {W : World} (h : St E φ H W) : St E φ H W.drew := ⟨h.dom, h.hr.drew⟩

/-- What an operation comes to. -/
structure To (E : Env) (φ : Pm) (H : Heap) (W : World) (φ' : Pm) (H' : Heap) (W' : World) : Prop where
  le : Le φ φ'
  nx : H.next ≤ H'.next
  st : St E φ' H' W'
  fr : Fr φ H.look W φ' H'.look W'
  old : ∀ r, r < H.next → φ' r = φ r
theorem To.refl {E : Env} {φ : Pm} {H : Heap} {W : World} (h : St E φ H W) : To E φ H W φ H W := ⟨Le.refl _, Nat.le_refl _, h, Fr.refl _ _ _, fun _ _ => rfl⟩
theorem To.trans {E : Env} {φ φ1 φ2 : Pm} {H H1 H2 : Heap} {W W1 W2 : World} (h : To E φ H W φ1 H1 W1) (k : To E φ1 H1 W1 φ2 H2 W2) : To E φ H W φ2 H2 W2 :=
  ⟨h.le.trans k.le, Nat.le_trans h.nx k.nx, k.st, h.fr.trans k.fr, fun r hr => (k.old r (Nat.lt_of_lt_of_le hr h.nx)).trans (h.old r hr)⟩
theorem To.drew {E : Env} {φ : Pm} {H : Heap} {W : World} (h : St E φ H W) : To E φ H W φ H W.drew := ⟨Le.refl _, Nat.le_refl _, h.drew, Fr.drew _ _ _, fun _ _ => rfl⟩

theorem heap_alloc_lt (w : World) (o : Go.Obj) (k : Nat) (h : k < w.heap.size) : (w.alloc o).heap[k]? = w.heap[k]? := by
  show (w.heap.push o)[k]? = w.heap[k]?
  rw [Array.getElem?_push, if_neg (Nat.ne_of_lt h)]

/-- A new object. -/
theorem To.alloc {E : Env} {φ : Pm} {H : Heap} {W : World} (h : St E φ H W) (o : Obj) (o' : Go.Obj) (p : Pl) (hp : p.blk = W.heap.size)
    (ho : ObjR E (Ev.ext φ H.next p) p o (W.alloc o')) : To E φ H W (Ev.ext φ H.next p) (H.new o) (W.alloc o') := by
  have hle : Le φ (Ev.ext φ H.next p) := h.dom.le_ext p
  have hheap : ∀ b, b < W.heap.size → (W.alloc o').heap[b]? = W.heap[b]? := fun b hb => heap_alloc_lt W o' b hb
  have hold : ∀ r q, Ev.ext φ H.next p r = some q → r ≠ H.next → φ r = some q := fun r q e hr => by rwa [ext_ne _ _ hr] at e
  refine ⟨hle, Nat.le_succ _, ⟨h.dom.ext p, ?_, ?_, ?_⟩, ⟨rfl, rfl, rfl, by simp, fun b hb _ => hheap b hb, ?_⟩, fun r hr => ext_ne _ _ (Nat.ne_of_lt hr)⟩
  · intro r x q hx hq
    rw [Heap.look_new] at hx
    by_cases hr : r = H.next
    · subst hr
      rw [if_pos rfl] at hx
      rw [ext_same] at hq
      simp only [Option.some.injEq] at hx hq
      subst hx hq
      exact ho
    · rw [if_neg hr] at hx
      have hq' := hold r q hq hr
      by_cases hl : x.live = true
      · exact ((h.hr.obj r x q hx hq').mono hle).same (hheap _ (h.hr.lt r x q hx hl hq'))
      · cases x <;> simp [Obj.live] at hl
        trivial
  · intro r r' x x' q q' hne hx hx' hl hl' hq hq' hro
    rw [Heap.look_new] at hx hx'
    by_cases hr : r = H.next
    · subst hr
      have hr' : r' ≠ H.next := Ne.symm hne
      rw [if_neg hr'] at hx'
      have := h.hr.lt r' x' q' hx' hl' (hold _ _ hq' hr')
      rw [ext_same] at hq
      simp only [Option.some.injEq] at hq
      subst hq
      omega
    · rw [if_neg hr] at hx
      by_cases hr' : r' = H.next
      · subst hr'
        have := h.hr.lt r x q hx hl (hold _ _ hq hr)
        rw [ext_same] at hq'
        simp only [Option.some.injEq] at hq'
        subst hq'
        omega
      · rw [if_neg hr'] at hx'
        exact h.hr.inj r r' x x' q q' hne hx hx' hl hl' (hold _ _ hq hr) (hold _ _ hq' hr') hro
  · intro r x q hx hl hq
    rw [Heap.look_new] at hx
    simp only [World.size_alloc]
    by_cases hr : r = H.next
    · subst hr
      rw [ext_same] at hq
      simp only [Option.some.injEq] at hq
      subst hq
      omega
    · rw [if_neg hr] at hx
      have := h.hr.lt r x q hx hl (hold _ _ hq hr)
      omega
  · rintro b ⟨r, x, q, hx, hl, hq, hro, rfl⟩
    rw [Heap.look_new] at hx
    by_cases hr : r = H.next
    · subst hr
      rw [ext_same] at hq
      simp only [Option.some.injEq] at hq
      subst hq
      right; omega
    · rw [if_neg hr] at hx
      exact .inl ⟨r, x, q, hx, hl, hold _ _ hq hr, hro, rfl⟩

/-- An object that is turned where it lies. -/
theorem To.put {E : Env} {φ : Pm} {H : Heap} {W W' : World} (h : St E φ H W) {r : Nat} {o o2 : Obj} {p : Pl} (ho : H.look r = some o) (hl : o.live = true) (hp : φ r = some p) (hro : p.ro = false)
    (hos : W'.os = W.os) (htape : W'.tape = W.tape) (hout : W'.output = W.output) (hsize : W'.heap.size = W.heap.size)
    (hkeep : ∀ b, b ≠ p.blk → W'.heap[b]? = W.heap[b]?) (hnew : ObjR E φ p o2 W') : To E φ H W φ (H.put r o2) W' := by
  have hdiff : ∀ s x q, H.look s = some x → x.live = true → φ s = some q → s ≠ r → q.blk ≠ p.blk := fun s x q hx hlx hq hne he =>
    h.hr.inj r s o x p q (Ne.symm hne) ho hx hl hlx hp hq hro he.symm
  refine ⟨Le.refl _, Nat.le_refl _, ⟨h.dom, ?_, ?_, ?_⟩, ⟨hos, htape, hout, by omega, ?_, ?_⟩, fun _ _ => rfl⟩
  · intro s x q hx hq
    rw [Heap.look_put] at hx
    by_cases hs : s = r
    · subst hs
      rw [if_pos rfl] at hx
      simp only [Option.some.injEq] at hx
      rw [hp] at hq
      simp only [Option.some.injEq] at hq
      subst hx hq
      exact hnew
    · rw [if_neg hs] at hx
      by_cases hlx : x.live = true
      · exact (h.hr.obj s x q hx hq).same (hkeep _ (hdiff s x q hx hlx hq hs))
      · cases x <;> simp [Obj.live] at hlx
        trivial
  · intro s s' x x' q q' hne hx hx' hlx hlx' hq hq' hr1
    rw [Heap.look_put] at hx hx'
    by_cases hs : s = r
    · subst hs
      rw [if_neg (Ne.symm hne)] at hx'
      exact h.hr.inj s s' o x' q q' hne ho hx' hl hlx' hq hq' hr1
    · rw [if_neg hs] at hx
      by_cases hs' : s' = r
      · subst hs'
        exact h.hr.inj s s' x o q q' hne hx ho hlx hl hq hq' hr1
      · rw [if_neg hs'] at hx'
        exact h.hr.inj s s' x x' q q' hne hx hx' hlx hlx' hq hq' hr1
  · intro s x q hx hlx hq
    rw [hsize]
    rw [Heap.look_put] at hx
    by_cases hs : s = r
    · subst hs
      exact h.hr.lt s o q ho hl hq
    · rw [if_neg hs] at hx
      exact h.hr.lt s x q hx hlx hq
  · intro b hb hw
    exact hkeep b (fun e => hw ⟨r, o, p, ho, hl, hp, hro, e.symm⟩)
  · rintro b ⟨s, x, q, hx, hlx, hq, hr1, rfl⟩
    rw [Heap.look_put] at hx
    by_cases hs : s = r
    · subst hs
      exact .inl ⟨s, o, q, ho, hl, hq, hr1, rfl⟩
    · rw [if_neg hs] at hx
      exact .inl ⟨s, x, q, hx, hlx, hq, hr1, rfl⟩

/-- An object that is let go; what stands for it may stand for another one. -/
theorem To.kill {E : Env} {φ : Pm} {H : Heap} {W : World} (h : St E φ H W) (r : Nat) : To E φ H W φ (H.put r .dead) W := by
  have hlook : ∀ s x, (H.put r .dead).look s = some x → x.live = true → H.look s = some x ∧ s ≠ r := fun s x hx hlx => by
    rw [Heap.look_put] at hx
    by_cases hs : s = r
    · rw [if_pos hs] at hx
      simp only [Option.some.injEq] at hx
      subst hx
      simp [Obj.live] at hlx
    · rw [if_neg hs] at hx; exact ⟨hx, hs⟩
  refine ⟨Le.refl _, Nat.le_refl _, ⟨h.dom, ?_, ?_, ?_⟩, ⟨rfl, rfl, rfl, Nat.le_refl _, fun _ _ _ => rfl, ?_⟩, fun _ _ => rfl⟩
  · intro s x q hx hq
    by_cases hlx : x.live = true
    · exact h.hr.obj s x q (hlook s x hx hlx).1 hq
    · cases x <;> simp [Obj.live] at hlx
      trivial
  · intro s s' x x' q q' hne hx hx' hlx hlx' hq hq' hr1
    exact h.hr.inj s s' x x' q q' hne (hlook s x hx hlx).1 (hlook s' x' hx' hlx').1 hlx hlx' hq hq' hr1
  · intro s x q hx hlx hq
    exact h.hr.lt s x q (hlook s x hx hlx).1 hlx hq
  · rintro b ⟨s, x, q, hx, hlx, hq, hr1, rfl⟩
    exact .inl ⟨s, x, q, (hlook s x hx hlx).1, hlx, hq, hr1, rfl⟩

/-- A new object in the block of one that is let go (an append in place). -/
theorem To.again {E : Env} {φ : Pm} {H : Heap} {W W' : World} (h : St E φ H W) {r : Nat} {o : Obj} {p : Pl} (ho : H.look r = some o) (hl : o.live = true) (hp : φ r = some p) (hro : p.ro = false)
    (o2 : Obj) (p2 : Pl) (hb : p2.blk = p.blk)
    (hos : W'.os = W.os) (htape : W'.tape = W.tape) (hout : W'.output = W.output) (hsize : W'.heap.size = W.heap.size)
    (hkeep : ∀ b, b ≠ p.blk → W'.heap[b]? = W.heap[b]?) (hnew : ObjR E (Ev.ext φ H.next p2) p2 o2 W') : To E φ H W (Ev.ext φ H.next p2) ((H.put r .dead).new o2) W' := by
  have hle : Le φ (Ev.ext φ H.next p2) := h.dom.le_ext p2
  have hrn : r ≠ H.next := Nat.ne_of_lt (h.dom r p hp)
  have hold : ∀ s q, Ev.ext φ H.next p2 s = some q → s ≠ H.next → φ s = some q := fun s q e hr => by rwa [ext_ne _ _ hr] at e
  have hlook : ∀ s x, ((H.put r .dead).new o2).look s = some x → x.live = true → (s = H.next ∧ x = o2) ∨ (s ≠ H.next ∧ s ≠ r ∧ H.look s = some x) := fun s x hx hlx => by
    rw [Heap.look_new, Heap.look_put] at hx
    by_cases hs : s = H.next
    · rw [Heap.next_put, if_pos hs] at hx
      simp only [Option.some.injEq] at hx
      exact .inl ⟨hs, hx.symm⟩
    · rw [Heap.next_put, if_neg hs] at hx
      by_cases hs' : s = r
      · rw [if_pos hs'] at hx
        simp only [Option.some.injEq] at hx
        subst hx
        simp [Obj.live] at hlx
      · rw [if_neg hs'] at hx; exact .inr ⟨hs, hs', hx⟩
  have hdiff : ∀ s x q, H.look s = some x → x.live = true → φ s = some q → s ≠ r → q.blk ≠ p.blk := fun s x q hx hlx hq hne he =>
    h.hr.inj r s o x p q (Ne.symm hne) ho hx hl hlx hp hq hro he.symm
  have hplt := h.hr.lt r o p ho hl hp
  refine ⟨hle, by simp, ⟨?_, ?_, ?_, ?_⟩, ⟨hos, htape, hout, by omega, ?_, ?_⟩, fun r hr => ext_ne _ _ (Nat.ne_of_lt hr)⟩
  · exact h.dom.ext p2
  · intro s x q hx hq
    by_cases hlx : x.live = true
    · rcases hlook s x hx hlx with ⟨rfl, rfl⟩ | ⟨h1, h2, h3⟩
      · rw [ext_same] at hq
        simp only [Option.some.injEq] at hq
        subst hq
        exact hnew
      · have hq' := hold s q hq h1
        exact ((h.hr.obj s x q h3 hq').mono hle).same (hkeep _ (hdiff s x q h3 hlx hq' h2))
    · cases x <;> simp [Obj.live] at hlx
      trivial
  · intro s s' x x' q q' hne hx hx' hlx hlx' hq hq' hr1
    rcases hlook s x hx hlx with ⟨rfl, rfl⟩ | ⟨h1, h2, h3⟩
    · rcases hlook s' x' hx' hlx' with ⟨rfl, rfl⟩ | ⟨h1', h2', h3'⟩
      · exact absurd rfl hne
      · rw [ext_same] at hq
        simp only [Option.some.injEq] at hq
        subst hq
        rw [hb]
        exact Ne.symm (hdiff s' x' q' h3' hlx' (hold _ _ hq' h1') h2')
    · rcases hlook s' x' hx' hlx' with ⟨rfl, rfl⟩ | ⟨h1', h2', h3'⟩
      · rw [ext_same] at hq'
        simp only [Option.some.injEq] at hq'
        subst hq'
        rw [hb]
        exact hdiff s x q h3 hlx (hold _ _ hq h1) h2
      · exact h.hr.inj s s' x x' q q' hne h3 h3' hlx hlx' (hold _ _ hq h1) (hold _ _ hq' h1') hr1
  · intro s x q hx hlx hq
    rw [hsize]
    rcases hlook s x hx hlx with ⟨rfl, rfl⟩ | ⟨h1, h2, h3⟩
    · rw [ext_same] at hq
      simp only [Option.some.injEq] at hq
      subst hq
      omega
    · exact h.hr.lt s x q h3 hlx (hold _ _ hq h1)
  · intro b _ hw
    exact hkeep b (fun e => hw ⟨r, o, p, ho, hl, hp, hro, e.symm⟩)
  · rintro b ⟨s, x, q, hx, hlx, hq, hr1, rfl⟩
    rcases hlook s x hx hlx with ⟨rfl, rfl⟩ | ⟨h1, h2, h3⟩
    · rw [ext_same] at hq
      simp only [Option.some.injEq] at hq
      subst hq
      exact .inl ⟨r, o, p, ho, hl, hp, hro, hb.symm⟩
    · exact .inl ⟨s, x, q, h3, hlx, hold _ _ hq h1, hr1, rfl⟩

end
end Go.Proofs.YtcjidlgmbjebjaaDoor.Ev

/- Operations on memory: loads, stores, new variables; each with its soundness. -/
namespace Go.Proofs.YtcjidlgmbjebjaaDoor.Ev
open Go
noncomputable section

def SndP (P : Program) (φ : Pm) (W : World) (x : Option V) (s : Sem Value) : Prop :=
  ∀ v, x = some v → ∃ v', s.run P W = .ok v' W ∧ VR φ v v'
def Snd (E : Env) (P : Program) (φ : Pm) (H : Heap) (W : World) (x : Option (V × Heap)) (s : Sem Value) : Prop :=
  ∀ v H', x = some (v, H') → ∃ φ' v' W', s.run P W = .ok v' W' ∧ VR φ' v v' ∧ To E φ H W φ' H' W'
def SndU (E : Env) (P : Program) (φ : Pm) (H : Heap) (W : World) (x : Option Heap) (s : Sem Unit) : Prop :=
  ∀ H', x = some H' → ∃ W', s.run P W = .ok () W' ∧ To E φ H W φ H' W'

theorem run_isAgg {P : Program} {t : TypeId} {d : TypeDesc} (h : P.underlying t = some d) (W : World) : (isAgg t).run P W = .ok (aggD d) W := by
  unfold isAgg
  rw [Sem.run_bind, run_underlying h]
  cases d <;> rfl
theorem run_sizeOf {P : Program} {t : TypeId} {i : TypeInfo} (h : P.info? t = some i) (W : World) : (sizeOf t).run P W = .ok i.size W := by
  simp [sizeOf, typeInfo, h]
theorem run_typeInfo {P : Program} {t : TypeId} {i : TypeInfo} (h : P.info? t = some i) (W : World) : (typeInfo t).run P W = .ok i W := by
  simp [typeInfo, h]
theorem run_zeroValue {P : Program} {t : TypeId} {i : TypeInfo} {z : Value} (h : P.info? t = some i) (hz : i.zero = some z) (W : World) : (zeroValue t).run P W = .ok z W := by
  simp [zeroValue, typeInfo, h, hz]
theorem run_load_at {P : Program} {W : World} {a : Addr} {v : Value} (h : W.cell? a = some v) : (load a).run P W = .ok v W := by
  simp [load, Sem.run, h]

theorem run_storeVar {P : Program} {t : TypeId} {i : TypeInfo} (h : P.info? t = some i) (a : Addr) (v : Value) (hsz : v.cells.size = i.size) (W : World) :
    (Go.storeVar t a v).run P W = (storeCells a v.cells.toList).run P W := by
  unfold Go.storeVar
  simp only [Sem.run_bind, run_sizeOf h, Result.andThen_ok, hsz]
  simp

section
variable {E : Env} {P : Program} {φ : Pm} {H : Heap} {W : World}

/-- The cells of a row, as the world has them. -/
theorem RowR.cells {p : Pl} {e : Nat} {cs : Cells} {opn ro : Bool} (h : RowR E φ p e cs opn ro W) (off n : Nat) (hle : off + n ≤ cs.size) :
    ∃ l' : List Value, l'.length = n ∧ (∀ j v, l'[j]? = some v → W.cell? ((adr p off).add j) = some v) ∧ VRs φ ((cs.extract off n).toList) l' ∧ (∀ v ∈ l', v.oneCell' = true) ∧ (∀ v ∈ (cs.extract off n).toList, v.one = true) := by
  have hsz := cs.size_eq
  have hex : ∀ j, j < n → ∃ v v', cs.toList[off + j]? = some v ∧ W.cell? ((adr p off).add j) = some v' ∧ VR φ v v' ∧ v'.oneCell' = true := fun j hj => by
    obtain ⟨v, hv⟩ : ∃ v, cs.toList[off + j]? = some v := ⟨_, List.getElem?_eq_getElem (by omega)⟩
    obtain ⟨v', h1, h2, h3⟩ := h.cell _ _ hv
    exact ⟨v, v', hv, by rw [adr_add]; exact h1, h2, h3⟩
  have ht := cs.toList_extract off n hle
  have hlen : (cs.extract off n).toList.length = n := by rw [ht]; simp; omega
  refine ⟨(List.range n).map fun j => (W.cell? ((adr p off).add j)).getD undef, by simp, ?_, ?_, ?_, ?_⟩
  · intro j v hj
    rw [List.getElem?_map] at hj
    obtain ⟨i, hi, hv⟩ := Option.map_eq_some_iff.1 hj
    have hjn : j < n := by have := (List.getElem?_eq_some_iff.1 hi).1; simpa using this
    have : i = j := by simpa [List.getElem?_range hjn] using hi.symm
    subst this
    obtain ⟨_, v', _, h1, _⟩ := hex i hjn
    rw [h1] at hv ⊢
    simpa using hv
  · refine VRs.of_get (by simp [hlen]) (fun i v v' hv hv' => ?_)
    have hin : i < n := by have := (List.getElem?_eq_some_iff.1 hv).1; omega
    rw [ht, List.getElem?_take, if_pos hin, List.getElem?_drop] at hv
    obtain ⟨u, u', h0, h1, h2, _⟩ := hex i hin
    rw [h0] at hv
    simp only [Option.some.injEq] at hv
    subst hv
    rw [List.getElem?_map, List.getElem?_range hin] at hv'
    simp only [Option.map_some, h1, Option.getD_some, Option.some.injEq] at hv'
    subst hv'
    exact h2
  · intro v hv
    obtain ⟨i, hi, rfl⟩ := List.mem_map.1 hv
    obtain ⟨_, v', _, h1, _, h3⟩ := hex i (by simpa using hi)
    rw [h1]; exact h3
  · intro v hv
    rw [ht] at hv
    obtain ⟨i, hi, he⟩ := List.mem_iff_getElem.1 hv
    have hin : i < n := by simp at hi; omega
    obtain ⟨u, u', h0, _, h2, h3⟩ := hex i hin
    have hg : ((cs.toList.drop off).take n)[i]? = some v := by rw [List.getElem?_eq_getElem hi, he]
    rw [List.getElem?_take, if_pos hin, List.getElem?_drop, h0] at hg
    simp only [Option.some.injEq] at hg
    subst hg
    exact h2.one.2 h3

def loadVar (E : Env) (H : Heap) (t r off : Nat) : Option V :=
  (H.look r).bind fun o =>
    match o with
    | .row _ cs _ _ =>
      (E.ti t).bind fun x =>
        match x.agg with
        | true =>
          match Nat.ble (Nat.add off x.size) cs.size with
          | true => some (.agg (cs.extract off x.size).toList)
          | false => none
        | false => cs.get off
    | _ => none

theorem loadVar_ok (hE : EnvOk E P) (hs : St E φ H W) {t r off : Nat} {p : Pl} (hp : φ r = some p) {v : V} (h : loadVar E H t r off = some v) :
    ∃ v', (Go.loadVar t (adr p off)).run P W = .ok v' W ∧ VR φ v v' := by
  unfold loadVar at h
  obtain ⟨o, ho, h⟩ := Option.bind_eq_some_iff.1 h
  cases o with
  | row e cs opn ro =>
    obtain ⟨x, hx, h⟩ := Option.bind_eq_some_iff.1 h
    obtain ⟨i, hi⟩ := hE.ti t x hx
    have hr : RowR E φ p e cs opn ro W := hs.hr.obj _ _ _ ho hp
    unfold Go.loadVar
    rw [Sem.run_bind, run_isAgg hi.desc, ← hi.agg]
    cases hag : x.agg with
    | true =>
      rw [hag] at h
      simp only at h
      cases hb : Nat.ble (Nat.add off x.size) cs.size with
      | false => rw [hb] at h; exact absurd h (by simp)
      | true =>
        rw [hb] at h
        simp only [Option.some.injEq] at h
        subst h
        obtain ⟨l', h1, h2, h3, h4, h5⟩ := hr.cells off x.size (of_ble_t hb)
        refine ⟨.agg l'.toArray, ?_, .agg (by simpa using h3) h5⟩
        have hl := run_loadCells_list (P := P) W (adr p off) l' h2
        rw [h1] at hl
        simp [run_sizeOf hi.info, hi.size, hl]
    | false =>
      rw [hag] at h
      simp only at h
      rw [Cells.get_eq] at h
      obtain ⟨v', h1, h2, _⟩ := hr.cell _ _ h
      refine ⟨v', ?_, h2⟩
      simp [h1]
  | _ => exact absurd h (by simp)

/-- A splice in the world. -/
theorem To.splice (hs : St E φ H W) {r e : Nat} {cs : Cells} {opn : Bool} {p : Pl} (ho : H.look r = some (.row e cs opn false)) (hp : φ r = some p)
    (off : Nat) (new : Cells) (l' : List Value) (hv : VRs φ new.toList l') (h1 : ∀ v ∈ l', v.oneCell' = true) (hle : off + new.size ≤ cs.size) (cs' : Cells)
    (hcs : cs'.toList = cs.toList.take off ++ new.toList ++ cs.toList.drop (off + new.toList.length)) :
    (storeCells (adr p off) l').run P W = .ok () (W.setCells p.blk (p.base + off) l') ∧ To E φ H W φ (H.put r (.row e cs' opn false)) (W.setCells p.blk (p.base + off) l') := by
  have hr : RowR E φ p e cs opn false W := hs.hr.obj _ _ _ ho hp
  have hsz := cs.size_eq
  have hnz := new.size_eq
  have hll := hv.length
  have hal := hr.alen
  have hale := hr.ale
  have hsome : ∀ j, j < l'.length → (W.cell? ⟨p.blk, p.base + off + j, none⟩).isSome = true := fun j hj => by
    have := hr.some_ (off + j) (by omega)
    rwa [show p.base + off + j = p.base + (off + j) by omega]
  have hfree : ∀ j, j < l'.length → W.frozen? ⟨p.blk, p.base + off + j, none⟩ = false := fun j hj => by
    have := hr.frozen rfl (i := off + j) (by omega)
    rwa [show p.base + off + j = p.base + (off + j) by omega]
  have hrun := run_storeCells_cells (P := P) p.blk (p.base + off) l' 0 W (by simpa using hsome) (by simpa using hfree) h1
  refine ⟨by simpa [adr] using hrun, ?_⟩
  have hsize : ∀ (vs : List Value) (o : Nat) (w : World), (w.setCells p.blk o vs).heap.size = w.heap.size := fun vs => by
    induction vs with
    | nil => intro o w; rfl
    | cons v vs ih => intro o w; rw [World.setCells, ih]; simp
  have hos : ∀ (vs : List Value) (o : Nat) (w : World), (w.setCells p.blk o vs).os = w.os ∧ (w.setCells p.blk o vs).tape = w.tape ∧ (w.setCells p.blk o vs).output = w.output := fun vs => by
    induction vs with
    | nil => intro o w; exact ⟨rfl, rfl, rfl⟩
    | cons v vs ih => intro o w; rw [World.setCells]; exact ih _ _
  have hkeep : ∀ (vs : List Value) (o : Nat) (w : World) (b : Nat), b ≠ p.blk → (w.setCells p.blk o vs).heap[b]? = w.heap[b]? := fun vs => by
    induction vs with
    | nil => intro o w b _; rfl
    | cons v vs ih =>
      intro o w b hb
      rw [World.setCells, ih _ _ _ hb]
      show (w.heap.modify p.blk _)[b]? = _
      rw [Array.getElem?_modify, if_neg (Ne.symm hb)]
  have hblk : ∀ (vs : List Value) (o : Nat) (w : World), (∃ c fz, w.heap[p.blk]? = some (.cells c e fz) ∧ c.size = p.base + p.lim ∧ p.base % p.esz = 0 ∧ (fz.1 = fz.2 ∨ p.base + p.lim ≤ fz.1)) → ∃ c fz, (w.setCells p.blk o vs).heap[p.blk]? = some (.cells c e fz) ∧ c.size = p.base + p.lim ∧ p.base % p.esz = 0 ∧ (fz.1 = fz.2 ∨ p.base + p.lim ≤ fz.1) := fun vs => by
    induction vs with
    | nil => intro o w h; exact h
    | cons v vs ih =>
      intro o w h
      rw [World.setCells]
      refine ih _ _ ?_
      obtain ⟨c, fz, h1, hcz, h2⟩ := h
      refine ⟨c.setIfInBounds o v, fz, ?_, by simpa using hcz, h2⟩
      show (w.heap.modify p.blk _)[p.blk]? = _
      rw [Array.getElem?_modify, if_pos rfl, h1]
      rfl
  refine To.put hs ho rfl hp hr.roq (hos _ _ _).1 (hos _ _ _).2.1 (hos _ _ _).2.2 (hsize _ _ _) (fun b hb => hkeep _ _ _ b hb) ?_
  have hlen : cs'.toList.length = cs.toList.length := by rw [hcs]; simp; omega
  refine ⟨hr.esz, by rw [hlen]; exact hr.alen, hr.ale, hr.opq, hr.roq, hr.clo, ?_, ?_, fun hro => hblk _ _ _ (hr.free hro)⟩
  · intro i v hi
    by_cases hin : off ≤ i ∧ i < off + l'.length
    · obtain ⟨hi1, hi2⟩ := hin
      have hg := World.cell?_setCells_in p.blk l' (p.base + off) W hsome (i - off) (by omega)
      rw [show p.base + off + (i - off) = p.base + i by omega] at hg
      refine ⟨_, hg, ?_, h1 _ (List.getElem_mem _)⟩
      rw [hcs, List.append_assoc, List.getElem?_append_right (by simp; omega), List.getElem?_append_left (by simp; omega)] at hi
      have hmin : min off cs.toList.length = off := by omega
      simp only [List.length_take, hmin] at hi
      obtain ⟨v', hv1, hv2⟩ := hv.get hi
      rw [List.getElem?_eq_getElem (by omega)] at hv1
      simp only [Option.some.injEq] at hv1
      rw [hv1]; exact hv2
    · have hout := World.cell?_setCells_out p.blk l' (p.base + off) W (adr p i) (fun _ _ => by
        show p.base + i < p.base + off ∨ p.base + off + l'.length ≤ p.base + i
        omega)
      rw [hout]
      apply hr.cell i v
      rw [hcs] at hi
      by_cases hlt : i < off
      · rw [List.append_assoc, List.getElem?_append_left (by simp; omega), List.getElem?_take, if_pos hlt] at hi
        exact hi
      · rw [List.getElem?_append_right (by simp; omega), List.getElem?_drop] at hi
        have hmin : min off cs.toList.length = off := by omega
        simp only [List.length_append, List.length_take, hmin] at hi
        rw [← hi]; congr 1; omega
  · intro i hi
    by_cases hin : off ≤ i ∧ i < off + l'.length
    · have hg := World.cell?_setCells_in p.blk l' (p.base + off) W hsome (i - off) (by omega)
      rw [show p.base + off + (i - off) = p.base + i by omega] at hg
      show ((W.setCells p.blk (p.base + off) l').cell? ⟨p.blk, p.base + i, none⟩).isSome = true
      rw [hg]; rfl
    · have hout := World.cell?_setCells_out p.blk l' (p.base + off) W (adr p i) (fun _ _ => by
        show p.base + i < p.base + off ∨ p.base + off + l'.length ≤ p.base + i
        omega)
      rw [hout]; exact hr.some_ i hi

def storeVar (E : Env) (H : Heap) (t r off : Nat) (v : V) : Option Heap :=
  (H.look r).bind fun o =>
    match o with
    | .row e cs opn ro =>
      match ro with
      | true => none
      | false =>
        (E.ti t).bind fun x =>
          match v with
          | .agg l =>
            match Nat.beq l.length x.size with
            | true =>
              match Nat.ble (Nat.add off x.size) cs.size with
              | true => some (H.put r (.row e (cs.splice off (Cells.ofList l)) opn false))
              | false => none
            | false => none
          | .tuple _ => none
          | v =>
            match Nat.beq x.size 1 with
            | true =>
              match Nat.blt off cs.size with
              | true => some (H.put r (.row e (cs.set off v) opn false))
              | false => none
            | false => none
    | _ => none

theorem oneCell_of_agg {cs : List V} {cs' : List Value} (h : VRs φ cs cs') (h1 : ∀ v ∈ cs, v.one = true) : ∀ v ∈ cs', v.oneCell' = true := by
  intro v hv
  obtain ⟨i, hi, he⟩ := List.mem_iff_getElem.1 hv
  have hl := h.length
  have hg : cs[i]? = some (cs[i]'(by omega)) := List.getElem?_eq_getElem (by omega)
  obtain ⟨v', h2, h3⟩ := h.get hg
  rw [List.getElem?_eq_getElem hi, he] at h2
  simp only [Option.some.injEq] at h2
  subst h2
  exact h3.one.1 (h1 _ (List.getElem_mem _))
theorem cells_one {v : Value} (h : v.oneCell' = true) : v.cells = #[v] := by cases v <;> simp_all [Value.oneCell', Value.cells]

theorem storeVar_ok (hE : EnvOk E P) (hs : St E φ H W) {t r off : Nat} {p : Pl} (hp : φ r = some p) {v : V} {v' : Value} (hv : VR φ v v') :
    SndU E P φ H W (storeVar E H t r off v) (Go.storeVar t (adr p off) v') := by
  intro H' h
  unfold storeVar at h
  obtain ⟨o, ho, h⟩ := Option.bind_eq_some_iff.1 h
  cases o with
  | row e cs opn ro =>
    cases ro with
    | true => exact absurd h (by simp)
    | false =>
      obtain ⟨x, hx, h⟩ := Option.bind_eq_some_iff.1 h
      obtain ⟨i, hi⟩ := hE.ti t x hx
      have hone : v.one = true → x.size = 1 → off < cs.size → H' = H.put r (.row e (cs.set off v) opn false) →
          ∃ W', (Go.storeVar t (adr p off) v').run P W = .ok () W' ∧ To E φ H W φ H' W' := by
        intro h1 h2 h3 h4
        have h1' := hv.one.1 h1
        have hc := cells_one h1'
        have hsp := To.splice (P := P) hs ho hp off (Cells.ofList [v]) [v'] (by rw [Cells.toList_ofList]; exact .cons hv .nil) (by simpa using h1') (by rw [Cells.size_ofList]; exact h3) (cs.set off v) (by
          rw [Cells.toList_set cs off v h3, Cells.toList_ofList]
          have hl : off < cs.toList.length := by rw [← Cells.size_eq]; exact h3
          rw [List.set_eq_take_append_cons_drop, if_pos hl]
          simp)
        refine ⟨_, ?_, by rw [h4]; exact hsp.2⟩
        rw [run_storeVar hi.info _ _ (by rw [hc, hi.size, h2]; rfl), hc]
        exact hsp.1
      cases v with
      | agg l =>
        simp only at h
        cases hb : Nat.beq l.length x.size with
        | false => rw [hb] at h; exact absurd h (by simp)
        | true =>
          rw [hb] at h
          simp only at h
          cases hb2 : Nat.ble (Nat.add off x.size) cs.size with
          | false => rw [hb2] at h; exact absurd h (by simp)
          | true =>
            rw [hb2] at h
            simp only [Option.some.injEq] at h
            subst h
            cases hv with
            | agg hcs h1 =>
              rename_i cs'
              have hlen := of_beq_t hb
              have hle : off + x.size ≤ cs.size := of_ble_t hb2
              have hsp := To.splice (P := P) hs ho hp off (Cells.ofList l) cs'.toList (by rw [Cells.toList_ofList]; exact hcs) (oneCell_of_agg hcs h1) (by rw [Cells.size_ofList]; omega) (cs.splice off (Cells.ofList l))
                (Cells.toList_splice cs off (Cells.ofList l) (by rw [Cells.size_ofList]; omega))
              have hsz : cs'.size = i.size := by rw [hi.size, ← hlen, hcs.length]; simp
              refine ⟨_, ?_, hsp.2⟩
              rw [run_storeVar hi.info _ _ (by exact hsz)]
              exact hsp.1
      | tuple l => exact absurd h (by simp)
      | _ =>
        simp only at h
        cases hb : Nat.beq x.size 1 with
        | false => rw [hb] at h; exact absurd h (by simp)
        | true =>
          rw [hb] at h
          simp only at h
          cases hb2 : Nat.blt off cs.size with
          | false => rw [hb2] at h; exact absurd h (by simp)
          | true =>
            rw [hb2] at h
            simp only [Option.some.injEq] at h
            obtain ⟨W', h1, h2⟩ := hone rfl (of_beq_t hb) (of_blt_t hb2) h.symm
            exact ⟨W', h1, h2⟩
  | _ => exact absurd h (by simp)

end
end
end Go.Proofs.YtcjidlgmbjebjaaDoor.Ev

/- New variables, aggregates, addresses, pieces; each with its soundness. -/
namespace Go.Proofs.YtcjidlgmbjebjaaDoor.Ev
open Go
noncomputable section

section
variable {E : Env} {P : Program} {φ : Pm} {H : Heap} {W : World}

theorem alloc_cell (W : World) (c : Array Value) (t : TypeId) (i : Nat) : (W.alloc (.cells c t)).cell? ⟨W.heap.size, i, none⟩ = c[i]? := by
  simp

/-- A new row: what is known of it stands at its beginning; there may be more room behind. -/
theorem To.newRow (hs : St E φ H W) (t sz : Nat) (hsz : E.size t = some sz) (cs : Cells) (l' rest : List Value) (hv : VRs φ cs.toList l') (h1 : ∀ v ∈ l', v.oneCell' = true) (opn : Bool) (hopn : opn = false → rest = []) :
    (Go.newRow t (l' ++ rest).toArray).run P W = .ok ⟨W.heap.size, 0, none⟩ (W.alloc (.cells (l' ++ rest).toArray t)) ∧
    To E φ H W (ext φ H.next ⟨W.heap.size, 0, l'.length, l'.length + rest.length, sz, opn, false, none⟩) (H.new (.row t cs opn false)) (W.alloc (.cells (l' ++ rest).toArray t)) := by
  refine ⟨rfl, To.alloc hs _ _ _ rfl ?_⟩
  have hle : Le φ (ext φ H.next ⟨W.heap.size, 0, l'.length, l'.length + rest.length, sz, opn, false, none⟩) := hs.dom.le_ext _
  refine ⟨hsz, hv.length.symm, by simp, rfl, rfl, fun h => by simp [hopn h], ?_, ?_, ?_⟩
  · intro i v hi
    obtain ⟨v', hg, hr⟩ := hv.get hi
    refine ⟨v', ?_, hr.mono hle, h1 _ (List.mem_of_getElem? hg)⟩
    have : adr ⟨W.heap.size, 0, l'.length, l'.length + rest.length, sz, opn, false, none⟩ i = ⟨W.heap.size, i, none⟩ := by simp [adr]
    rw [this, alloc_cell]
    simp only [List.getElem?_toArray]
    rw [List.getElem?_append_left (List.getElem?_eq_some_iff.1 hg).1]
    exact hg
  · intro i hi
    have : adr ⟨W.heap.size, 0, l'.length, l'.length + rest.length, sz, opn, false, none⟩ i = ⟨W.heap.size, i, none⟩ := by simp [adr]
    rw [this, alloc_cell]
    simp only [List.getElem?_toArray]
    have hi' : i < (l' ++ rest).length := by simpa using hi
    rw [List.getElem?_eq_getElem hi']
    rfl
  · intro _
    refine ⟨(l' ++ rest).toArray, (0, 0), ?_, by simp, Nat.zero_mod _, .inl rfl⟩
    show (W.heap.push _)[W.heap.size]? = _
    simp

def oneCells (v : V) : Option (List V) :=
  match v with
  | .agg l => some l
  | .tuple _ => none
  | v => some [v]
theorem oneCells_ok {v : V} {v' : Value} (hv : VR φ v v') {l : List V} (h : oneCells v = some l) : VRs φ l v'.cells.toList ∧ (∀ x ∈ v'.cells.toList, x.oneCell' = true) ∧ ∀ x ∈ l, x.one = true := by
  cases hv <;> simp only [oneCells, Option.some.injEq] at h
  case agg hcs h1 => subst h; exact ⟨hcs, oneCell_of_agg hcs h1, h1⟩
  case tuple => exact absurd h (by simp)
  case unk h1 => subst h; rw [cells_one h1]; exact ⟨.cons (.unk h1) .nil, by simpa using h1, by simp [V.one]⟩
  case par h0 hv1 h1 => subst h; rw [cells_one h1]; exact ⟨.cons (.par h0 hv1 h1) .nil, by simpa using h1, by simp [V.one]⟩
  case pin h0 hv1 => subst h; rw [cells_one rfl]; exact ⟨.cons (.pin h0 hv1) .nil, by simp [Value.oneCell'], by simp [V.one]⟩
  all_goals
    subst h
    simp only [Value.cells]
    refine ⟨.cons (by first | exact .int _ _ | exact .bool _ | exact .str _ | exact .ptr _ (by assumption) | exact .nilPtr | exact .slice _ _ (by assumption) (by assumption) | exact .nilSlice | exact .emptyS _ _ | exact .map (by assumption) | exact .nilMap | exact .func (by assumption) (by assumption) (by assumption) | exact .nilFunc | exact .iface _ (by assumption) | exact .nilIface) .nil, by simp [Value.oneCell'], by simp [V.one]⟩

/-- A new variable. -/
def boxV (E : Env) (H : Heap) (t : Nat) (v : V) : Option (V × Heap) :=
  (E.ti t).bind fun _ => (oneCells v).bind fun l => some (.ptr H.next 0, H.new (.row t (Cells.ofList l) false false))
theorem ti_size {t : Nat} {x : TI} (h : E.ti t = some x) : E.size t = some x.size := by simp [Env.size, h]
theorem ti_desc {t : Nat} {x : TI} (h : E.ti t = some x) : E.desc t = some x.desc := by simp [Env.desc, h]
theorem boxV_ok (hs : St E φ H W) (t : Nat) {v : V} {v' : Value} (hv : VR φ v v') : Snd E P φ H W (boxV E H t v) (Instr.box t v') := by
  intro u H' h
  unfold boxV at h
  obtain ⟨x, hx, h⟩ := Option.bind_eq_some_iff.1 h
  obtain ⟨l, hl, h⟩ := Option.bind_eq_some_iff.1 h
  simp only [Option.some.injEq, Prod.mk.injEq] at h
  obtain ⟨rfl, rfl⟩ := h
  obtain ⟨h1, h2, _⟩ := oneCells_ok hv hl
  have hn := To.newRow (P := P) hs t x.size (ti_size hx) (Cells.ofList l) v'.cells.toList [] (by rw [Cells.toList_ofList]; exact h1) h2 false (fun _ => rfl)
  simp only [List.append_nil, Array.toArray_toList] at hn
  refine ⟨_, _, _, ?_, VR.ptr 0 (ext_same _ _ _), hn.2⟩
  simp [Instr.box, newVar, hn.1, adr]
def allocV (E : Env) (H : Heap) (t : Nat) : Option (V × Heap) :=
  (E.ti t).bind fun x => x.zero.bind fun z => boxV E H t z
theorem allocV_ok (hE : EnvOk E P) (hs : St E φ H W) (t : Nat) : Snd E P φ H W (allocV E H t) (Instr.alloc t true (.tuple #[])) := by
  intro u H' h
  unfold allocV at h
  obtain ⟨x, hx, h⟩ := Option.bind_eq_some_iff.1 h
  obtain ⟨z, hz, h⟩ := Option.bind_eq_some_iff.1 h
  obtain ⟨i, hi⟩ := hE.ti t x hx
  obtain ⟨z', hz', hzr⟩ := hi.zero z hz
  obtain ⟨φ', v', W', h1, h2⟩ := boxV_ok (P := P) hs t (hzr φ) u H' h
  refine ⟨φ', v', W', ?_, h2⟩
  rw [← h1]
  simp [Instr.alloc, Instr.box, run_zeroValue hi.info hz']

/- ### aggregates -/
def fillV (place : Nat → Option (Nat × Nat)) : List V → List (Nat × V) → Option (List V)
  | cells, [] => some cells
  | cells, (i, v) :: rest =>
    (place i).bind fun q =>
      (oneCells v).bind fun l =>
        match Nat.beq l.length q.2 with
        | true =>
          match Nat.ble (Nat.add q.1 l.length) cells.length with
          | true => fillV place (takeV cells q.1 ++ l ++ dropV cells (Nat.add q.1 l.length)) rest
          | false => none
        | false => none

theorem fill_step (off : Nat) : ∀ (l : List Value) (k : Nat) (cells : Array Value), off + k + l.length ≤ cells.size →
    ((l.zipIdx k).foldl (fun (cs : Array Value) x => cs.setIfInBounds (off + x.2) x.1) cells).toList = cells.toList.take (off + k) ++ l ++ cells.toList.drop (off + k + l.length)
  | [], k, cells, h => by simp
  | v :: r, k, cells, h => by
    have hsz : off + k < cells.size := by simp at h; omega
    have ih := fill_step off r (k + 1) (cells.setIfInBounds (off + k) v) (by simp at h ⊢; omega)
    simp only [List.zipIdx_cons, List.foldl_cons]
    rw [ih]
    have hset : (cells.setIfInBounds (off + k) v).toList = cells.toList.take (off + k) ++ v :: cells.toList.drop (off + k + 1) := by
      rw [Array.toList_setIfInBounds, List.set_eq_take_append_cons_drop, if_pos (by simpa using hsz)]
    have hl : (cells.toList.take (off + k)).length = off + k := by simp; omega
    rw [hset]
    have e1 : (cells.toList.take (off + k) ++ v :: cells.toList.drop (off + k + 1)).take (off + (k + 1)) = cells.toList.take (off + k) ++ [v] := by
      rw [show off + (k + 1) = (cells.toList.take (off + k)).length + 1 by omega, List.take_length_add_append]; rfl
    have e2 : (cells.toList.take (off + k) ++ v :: cells.toList.drop (off + k + 1)).drop (off + (k + 1) + r.length) = cells.toList.drop (off + k + (v :: r).length) := by
      rw [show off + (k + 1) + r.length = (cells.toList.take (off + k)).length + (r.length + 1) by omega, List.drop_length_add_append, List.drop_succ_cons, List.drop_drop]
      congr 1
      simp; omega
    rw [e1, e2]
    simp

theorem fillV_ok (place : Nat → Option (Nat × Nat)) : ∀ (parts : List (Nat × V)) (parts' : List (Nat × Value)) (cells : List V) (cells' : Array Value) (l : List V),
    VRs φ cells cells'.toList → (∀ v ∈ cells, v.one = true) → parts.map (·.1) = parts'.map (·.1) → VRs φ (parts.map (·.2)) (parts'.map (·.2)) → fillV place cells parts = some l →
    ∃ c', Instr.fill place cells' parts' = some c' ∧ VRs φ l c'.toList ∧ (∀ v ∈ l, v.one = true) ∧ c'.size = cells'.size
  | [], parts', cells, cells', l, hc, h1, hm, hp, h => by
    cases parts' with
    | nil => simp only [fillV, Option.some.injEq] at h; subst h; exact ⟨cells', rfl, hc, h1, rfl⟩
    | cons => simp at hm
  | (i, v) :: rest, parts', cells, cells', l, hc, h1, hm, hp, h => by
    cases parts' with
    | nil => simp at hm
    | cons q parts' =>
      obtain ⟨i', v'⟩ := q
      simp only [List.map_cons, List.cons.injEq] at hm hp
      obtain ⟨rfl, hm⟩ := hm
      cases hp with
      | cons hv hp =>
        simp only [fillV] at h
        obtain ⟨q, hq, h⟩ := Option.bind_eq_some_iff.1 h
        obtain ⟨cs, hcs, h⟩ := Option.bind_eq_some_iff.1 h
        obtain ⟨off, size⟩ := q
        simp only at h
        cases hb : Nat.beq cs.length size with
        | false => rw [hb] at h; exact absurd h (by simp)
        | true =>
          rw [hb] at h
          simp only at h
          cases hb2 : Nat.ble (Nat.add off cs.length) cells.length with
          | false => rw [hb2] at h; exact absurd h (by simp)
          | true =>
            rw [hb2] at h
            simp only at h
            obtain ⟨k1, k2, k3⟩ := oneCells_ok hv hcs
            have hlen := k1.length
            have hclen := hc.length
            have hle : off + cs.length ≤ cells.length := of_ble_t hb2
            have hst := fill_step off v'.cells.toList 0 cells' (by simp at hlen hclen ⊢; omega)
            simp only [Nat.add_zero] at hst
            rw [takeV_eq, dropV_eq] at h
            obtain ⟨c', e1, e2, e3, e4⟩ := fillV_ok place rest parts' _ ((v'.cells.toList.zipIdx 0).foldl (fun (cs : Array Value) x => cs.setIfInBounds (off + x.2) x.1) cells') l
              (by rw [hst]; refine VRs.append (VRs.append (hc.take _) k1) ?_; rw [← hlen]; exact hc.drop _)
              (by
                intro x hx
                rcases List.mem_append.1 hx with hx | hx
                · rcases List.mem_append.1 hx with hx | hx
                  · exact h1 _ (List.mem_of_mem_take hx)
                  · exact k3 _ hx
                · exact h1 _ (List.mem_of_mem_drop hx)) hm hp h
            refine ⟨c', ?_, e2, e3, ?_⟩
            · simp only [Instr.fill, hq]
              have hs1 : v'.cells.size = size := by rw [← of_beq_t hb, hlen]; simp
              have hs2 : ¬ (off + v'.cells.size > cells'.size) := by simp at hlen hclen; omega
              rw [if_neg (by simp only [Bool.or_eq_true, decide_eq_true_eq, not_or]; exact ⟨by simpa using hs1, hs2⟩)]
              have hz : v'.cells.zipIdx.foldl (fun (cs : Array Value) x => cs.setIfInBounds (off + x.2) x.1) cells' = (v'.cells.toList.zipIdx 0).foldl (fun (cs : Array Value) x => cs.setIfInBounds (off + x.2) x.1) cells' := by
                rw [← Array.foldl_toList, Array.toList_zipIdx]
              exact (congrArg (fun c => Instr.fill place c parts') hz).trans e1
            · rw [e4]
              have := congrArg List.length hst
              simp at this
              simp at hlen hclen
              omega

end
end
end Go.Proofs.YtcjidlgmbjebjaaDoor.Ev

/- Aggregates built, slices built, fields, elements, pieces. -/
namespace Go.Proofs.YtcjidlgmbjebjaaDoor.Ev
open Go
noncomputable section

def replV {α : Type} (l : List α) : Nat → List α
  | 0 => []
  | n + 1 => l ++ replV l n
theorem replV_length {α : Type} (l : List α) : ∀ n, (replV l n).length = n * l.length
  | 0 => by simp [replV]
  | n + 1 => by simp [replV, replV_length l n, Nat.succ_mul, Nat.add_comm]
theorem replV_get {α : Type} (l : List α) : ∀ (n j : Nat), j < n * l.length → (replV l n)[j]? = l[j % l.length]?
  | 0, j, h => by simp at h
  | n + 1, j, h => by
    simp only [replV]
    by_cases hj : j < l.length
    · rw [List.getElem?_append_left hj, Nat.mod_eq_of_lt hj]
    · rw [List.getElem?_append_right (by omega), replV_get l n (j - l.length) (by rw [Nat.add_mul, Nat.one_mul] at h; omega)]
      congr 1
      exact (Nat.mod_eq_sub_mod (by omega)).symm

def placesV (E : Env) : List Field → Option (List (Nat × Nat))
  | [] => some []
  | f :: r => (E.size f.type).bind fun s => (placesV E r).bind fun l => some ((f.offset, s) :: l)

section
variable {E : Env} {P : Program} {φ : Pm} {H : Heap} {W : World}

theorem placesV_ok (hE : EnvOk E P) : ∀ (fs : List Field) (l : List (Nat × Nat)), placesV E fs = some l →
    (fs.mapM (m := Sem) fun f => do pure (f.offset, ← sizeOf f.type)).run P W = .ok l W
  | [], l, h => by simp only [placesV, Option.some.injEq] at h; subst h; simp
  | f :: r, l, h => by
    simp only [placesV] at h
    obtain ⟨s, hs, h⟩ := Option.bind_eq_some_iff.1 h
    obtain ⟨m, hm, h⟩ := Option.bind_eq_some_iff.1 h
    simp only [Option.some.injEq] at h
    subst h
    obtain ⟨i, hi, hsz⟩ := hE.size hs
    have ih := placesV_ok hE r m hm
    simp only [List.mapM_cons, Sem.run_bind, run_sizeOf hi, Result.andThen_ok, hsz, Sem.run_pure]
    rw [ih]; rfl

def buildV (E : Env) (t : Nat) (ps : List (Nat × V)) : Option V :=
  (E.ti t).bind fun x =>
    x.zero.bind fun z =>
      (oneCells z).bind fun zc =>
        match x.desc with
        | .struct fs => (placesV E fs.toList).bind fun pl => (fillV (fun i => listGet pl i) zc ps).bind fun l => some (.agg l)
        | .array _ e => (E.size e).bind fun s => (fillV (fun i => some (Nat.mul i s, s)) zc ps).bind fun l => some (.agg l)
        | _ => none
theorem buildV_ok (hE : EnvOk E P) (t : Nat) (ps : List (Nat × V)) (ps' : Array (Nat × Value)) (hm : ps.map (·.1) = ps'.toList.map (·.1)) (hp : VRs φ (ps.map (·.2)) (ps'.toList.map (·.2))) :
    SndP P φ W (buildV E t ps) (Instr.build t ps') := by
  intro v h
  unfold buildV at h
  obtain ⟨x, hx, h⟩ := Option.bind_eq_some_iff.1 h
  obtain ⟨z, hz, h⟩ := Option.bind_eq_some_iff.1 h
  obtain ⟨zc, hzc, h⟩ := Option.bind_eq_some_iff.1 h
  obtain ⟨i, hi⟩ := hE.ti t x hx
  obtain ⟨z', hz', hzr⟩ := hi.zero z hz
  obtain ⟨k1, k2, k3⟩ := oneCells_ok (hzr φ) hzc
  unfold Instr.build
  simp only [Sem.run_bind, run_zeroValue hi.info hz', Result.andThen_ok, run_underlying hi.desc]
  cases hd : x.desc with
  | struct fs =>
    rw [hd] at h
    simp only at h
    obtain ⟨pl, hpl, h⟩ := Option.bind_eq_some_iff.1 h
    obtain ⟨l, hl, h⟩ := Option.bind_eq_some_iff.1 h
    simp only [Option.some.injEq] at h
    subst h
    obtain ⟨c', e1, e2, e3, _⟩ := fillV_ok (φ := φ) (fun i => listGet pl i) ps ps'.toList zc z'.cells l k1 k3 hm hp hl
    refine ⟨.agg c', ?_, .agg e2 e3⟩
    have hpm := placesV_ok (W := W) hE fs.toList pl hpl
    simp only [Array.mapM_eq_mapM_toList, Sem.run_bind, Sem.run_map, hpm, Result.andThen_ok]
    have : (fun i => listGet pl i) = fun x => pl[x]? := by funext i; simp [listGet_eq]
    rw [this] at e1
    simp [e1]
  | array n e =>
    rw [hd] at h
    simp only at h
    obtain ⟨s, hs, h⟩ := Option.bind_eq_some_iff.1 h
    obtain ⟨l, hl, h⟩ := Option.bind_eq_some_iff.1 h
    simp only [Option.some.injEq] at h
    subst h
    obtain ⟨i', hi', hsz⟩ := hE.size hs
    obtain ⟨c', e1, e2, e3, _⟩ := fillV_ok (φ := φ) (fun i => some (Nat.mul i s, s)) ps ps'.toList zc z'.cells l k1 k3 hm hp hl
    refine ⟨.agg c', ?_, .agg e2 e3⟩
    have e1' : Instr.fill (fun i => some (i * s, s)) z'.cells ps'.toList = some c' := e1
    simp [run_sizeOf hi', hsz, e1']
  | _ => rw [hd] at h; exact absurd h (by simp)

def zeroCellsV (x : TI) (n : Nat) : Option (List V) :=
  x.zero.bind fun z => (oneCells z).bind fun zc =>
    match Nat.beq zc.length x.size with
    | true => some (replV zc n)
    | false => none
theorem zeroCellsV_ok {t : Nat} {x : TI} {i : TypeInfo} (hi : TIOk P t x i) {n : Nat} {l : List V} (h : zeroCellsV x n = some l) :
    ∃ z', i.zero = some z' ∧ z'.cells.size = i.size ∧ l.length = n * i.size ∧
      ∀ φ, VRs φ l ((Array.range (n * i.size)).map (z'.cells[· % z'.cells.size]!)).toList ∧ (∀ v ∈ l, v.one = true) ∧ ∀ v ∈ ((Array.range (n * i.size)).map (z'.cells[· % z'.cells.size]!)).toList, v.oneCell' = true := by
  unfold zeroCellsV at h
  obtain ⟨z, hz, h⟩ := Option.bind_eq_some_iff.1 h
  obtain ⟨zc, hzc, h⟩ := Option.bind_eq_some_iff.1 h
  cases hb : Nat.beq zc.length x.size with
  | false => rw [hb] at h; exact absurd h (by simp)
  | true =>
    rw [hb] at h
    simp only [Option.some.injEq] at h
    subst h
    obtain ⟨z', hz', hzr⟩ := hi.zero z hz
    have hlen := of_beq_t hb
    obtain ⟨k1, k2, k3⟩ := oneCells_ok (hzr (fun _ => none)) hzc
    have hcl := k1.length
    have hsz : z'.cells.size = i.size := by rw [hi.size, ← hlen, hcl]; simp
    refine ⟨z', hz', hsz, by rw [replV_length, hlen, hi.size], fun φ => ?_⟩
    obtain ⟨k1, k2, k3⟩ := oneCells_ok (hzr φ) hzc
    have hzl : zc.length = i.size := by rw [hlen, hi.size]
    have hget : ∀ j, j < n * i.size → ∃ v v', zc[j % zc.length]? = some v ∧ z'.cells[j % z'.cells.size]! = v' ∧ VR φ v v' ∧ v'.oneCell' = true := fun j hj => by
      have hpos : 0 < zc.length := by
        rcases Nat.eq_zero_or_pos zc.length with h0 | h0
        · rw [hzl] at h0; rw [h0] at hj; omega
        · exact h0
      have hm := Nat.mod_lt j hpos
      have hg : zc[j % zc.length]? = some (zc[j % zc.length]'hm) := List.getElem?_eq_getElem hm
      obtain ⟨v', h1, h2⟩ := k1.get hg
      refine ⟨_, v', hg, ?_, h2, k2 _ (List.mem_of_getElem? h1)⟩
      rw [hsz, ← hzl]
      have : z'.cells[j % zc.length]? = some v' := by simpa using h1
      simp [getElem!_def, this]
    refine ⟨?_, ?_, ?_⟩
    · refine VRs.of_get (by simp [replV_length, hzl]) (fun j v v' hv hv' => ?_)
      have hjn : j < n * i.size := by have := (List.getElem?_eq_some_iff.1 hv).1; rwa [replV_length, hzl] at this
      obtain ⟨u, u', h1, h2, h3, _⟩ := hget j hjn
      rw [replV_get zc n j (by rw [hzl]; exact hjn), h1] at hv
      simp only [Option.some.injEq] at hv
      subst hv
      simp only [Array.toList_map, Array.toList_range, List.getElem?_map, List.getElem?_range hjn, Option.map_some, Option.some.injEq] at hv'
      rw [← hv', h2]; exact h3
    · intro v hv
      obtain ⟨j, hj, he⟩ := List.mem_iff_getElem.1 hv
      have hjn : j < n * i.size := by rwa [replV_length, hzl] at hj
      have hg : (replV zc n)[j]? = some v := by rw [List.getElem?_eq_getElem hj, he]
      rw [replV_get zc n j (by rw [hzl]; exact hjn)] at hg
      exact k3 _ (List.mem_of_getElem? hg)
    · intro v hv
      simp only [Array.toList_map, Array.toList_range, List.mem_map, List.mem_range] at hv
      obtain ⟨j, hj, rfl⟩ := hv
      obtain ⟨_, v', _, h2, _, h4⟩ := hget j hj
      rw [h2]; exact h4

/-- A slice of what is written out. -/
def buildSliceV (E : Env) (H : Heap) (t len : Nat) (ps : List (Nat × V)) : Option (V × Heap) :=
  (E.ti t).bind fun y =>
    match y.desc with
    | .slice e =>
      (E.ti e).bind fun x =>
        match Nat.ble (Nat.mul len x.size) 16777216 with
        | true => (zeroCellsV x len).bind fun zc => (fillV (fun i => some (Nat.mul i x.size, x.size)) zc ps).bind fun l =>
            some (.slice H.next 0 len len, H.new (.row e (Cells.ofList l) false false))
        | false => none
    | _ => none
theorem buildSliceV_ok (hE : EnvOk E P) (hs : St E φ H W) (t len : Nat) (ps : List (Nat × V)) (ps' : Array (Nat × Value)) (hm : ps.map (·.1) = ps'.toList.map (·.1)) (hp : VRs φ (ps.map (·.2)) (ps'.toList.map (·.2))) :
    Snd E P φ H W (buildSliceV E H t len ps) (Instr.buildSlice t len ps') := by
  intro v H' h
  unfold buildSliceV at h
  obtain ⟨y, hy, h⟩ := Option.bind_eq_some_iff.1 h
  obtain ⟨j, hj⟩ := hE.ti t y hy
  cases hd : y.desc with
  | slice e =>
    rw [hd] at h
    simp only at h
    obtain ⟨x, hx, h⟩ := Option.bind_eq_some_iff.1 h
    obtain ⟨i, hi⟩ := hE.ti e x hx
    cases hb : Nat.ble (Nat.mul len x.size) 16777216 with
    | false => rw [hb] at h; exact absurd h (by simp)
    | true =>
      rw [hb] at h
      simp only at h
      obtain ⟨zc, hzc, h⟩ := Option.bind_eq_some_iff.1 h
      obtain ⟨l, hl, h⟩ := Option.bind_eq_some_iff.1 h
      simp only [Option.some.injEq, Prod.mk.injEq] at h
      obtain ⟨rfl, rfl⟩ := h
      obtain ⟨z', hz', hzs, hzl, hzr⟩ := zeroCellsV_ok hi hzc
      obtain ⟨k1, k2, k3⟩ := hzr φ
      obtain ⟨c', e1, e2, e3, e4⟩ := fillV_ok (φ := φ) (fun i => some (Nat.mul i x.size, x.size)) ps ps'.toList zc ((Array.range (len * i.size)).map (z'.cells[· % z'.cells.size]!)) l k1 k2 hm hp hl
      have hn := To.newRow (P := P) hs e x.size (ti_size hx) (Cells.ofList l) c'.toList [] (by rw [Cells.toList_ofList]; exact e2) (oneCell_of_agg e2 e3) false (fun _ => rfl)
      simp only [List.append_nil, Array.toArray_toList] at hn
      refine ⟨_, _, _, ?_, VR.slice 0 len (ext_same _ _ _) (.inl rfl), hn.2⟩
      have hble : len * i.size ≤ 16777216 := by rw [hi.size]; exact of_ble_t hb
      have e1' : Instr.fill (fun j => some (j * i.size, i.size)) ((Array.range (len * i.size)).map (z'.cells[· % z'.cells.size]!)) ps'.toList = some c' := by rw [← e1, hi.size]; rfl
      have hdd := hj.desc
      rw [hd] at hdd
      unfold Instr.buildSlice
      simp only [Sem.run_bind, run_underlying hdd, Result.andThen_ok, run_sizeOf hi.info]
      rw [if_neg (by omega)]
      by_cases h0 : len * i.size = 0
      · have r0 : ∀ f : Nat → Value, (Array.range 0).map f = #[] := fun f => by apply Array.ext'; simp
        simp only [h0, if_true]
        rw [h0, r0] at e1'
        simp only [Sem.run_bind, Sem.run_pure, Result.andThen_ok, r0, e1']
        simp [hn.1, adr]
      · simp only [h0, if_false, Sem.run_bind, run_zeroValue hi.info hz', Result.andThen_ok, Sem.run_pure]
        rw [e1']
        simp [hn.1, adr]
  | _ => rw [hd] at h; exact absurd h (by simp)

end
end
end Go.Proofs.YtcjidlgmbjebjaaDoor.Ev

/- Fields, elements, addresses, pieces, interfaces. -/
namespace Go.Proofs.YtcjidlgmbjebjaaDoor.Ev
open Go
noncomputable section

/-- A part of an aggregate. -/
def partV (E : Env) (t : Nat) (cs : List V) (off : Nat) : Option V :=
  (E.ti t).bind fun x =>
    match x.agg with
    | true => some (.agg (takeV (dropV cs off) x.size))
    | false => listGet cs off
def fieldV (E : Env) (t : Nat) (v : V) (f : Nat) : Option V :=
  match v with
  | .agg cs =>
    (E.desc t).bind fun d =>
      match d with
      | .struct fs => (listGet fs.toList f).bind fun fd => partV E fd.type cs fd.offset
      | _ => none
  | _ => none
def fieldAddrV (E : Env) (t : Nat) (v : V) (f : Nat) : Option V :=
  match v with
  | .ptr r off =>
    (E.desc t).bind fun d =>
      match d with
      | .struct fs => (listGet fs.toList f).bind fun fd => (E.size fd.type).bind fun s =>
        match Nat.beq s 0 with
        | true => none
        | false => some (.ptr r (Nat.add off fd.offset))
      | _ => none
  | _ => none
/-- An index within a length. -/
def inB (i : Int) (n : Nat) : Option Nat :=
  match i with
  | .ofNat k =>
    match Nat.blt k n with
    | true => some k
    | false => none
  | .negSucc _ => none
def inE (i : Int) (n : Nat) : Option Nat :=
  match i with
  | .ofNat k =>
    match Nat.ble k n with
    | true => some k
    | false => none
  | .negSucc _ => none
theorem inB_ok {i : Int} {n k : Nat} (h : inB i n = some k) : i = (k : Int) ∧ k < n := by
  unfold inB at h
  cases i with
  | ofNat j =>
    simp only at h
    cases hb : Nat.blt j n with
    | false => rw [hb] at h; exact absurd h (by simp)
    | true => rw [hb] at h; simp only [Option.some.injEq] at h; subst h; exact ⟨rfl, of_blt_t hb⟩
  | negSucc j => exact absurd h (by simp)
theorem inE_ok {i : Int} {n k : Nat} (h : inE i n = some k) : i = (k : Int) ∧ k ≤ n := by
  unfold inE at h
  cases i with
  | ofNat j =>
    simp only at h
    cases hb : Nat.ble j n with
    | false => rw [hb] at h; exact absurd h (by simp)
    | true => rw [hb] at h; simp only [Option.some.injEq] at h; subst h; exact ⟨rfl, of_ble_t hb⟩
  | negSucc j => exact absurd h (by simp)
def indexAddrV (E : Env) (t : Nat) (v ix : V) : Option V :=
  match ix with
  | .int _ i =>
    (E.desc t).bind fun d =>
      match d with
      | .slice e =>
        match v with
        | .slice r off len _ => (inB i len).bind fun k => (E.size e).bind fun s => some (.ptr r (Nat.add off (Nat.mul k s)))
        | _ => none
      | .array n e =>
        match v with
        | .ptr r off => (inB i n).bind fun k => (E.size e).bind fun s => some (.ptr r (Nat.add off (Nat.mul k s)))
        | _ => none
      | _ => none
  | _ => none
def indexV (E : Env) (t : Nat) (v ix : V) : Option V :=
  match ix with
  | .int _ i =>
    match v with
    | .str len n => (E.desc t).bind fun d =>
      match d with
      | .string => (inB i len).bind fun k => some (bv (byteAt n k))
      | _ => none
    | .agg cs => (E.desc t).bind fun d =>
      match d with
      | .array n e => (inB i n).bind fun k => (E.size e).bind fun s => partV E e cs (Nat.mul k s)
      | _ => none
    | _ => none
  | _ => none
def extractV (v : V) (i : Nat) : Option V :=
  match v with
  | .tuple vs => listGet vs i
  | _ => none

section
variable {E : Env} {P : Program} {φ : Pm} {H : Heap} {W : World}

theorem partV_ok (hE : EnvOk E P) {t off : Nat} {cs : List V} {cs' : Array Value} (hc : VRs φ cs cs'.toList) (h1 : ∀ v ∈ cs, v.one = true) :
    SndP P φ W (partV E t cs off) (part t cs' off) := by
  intro v h
  unfold partV at h
  obtain ⟨x, hx, h⟩ := Option.bind_eq_some_iff.1 h
  obtain ⟨i, hi⟩ := hE.ti t x hx
  unfold part
  rw [Sem.run_bind, run_isAgg hi.desc, ← hi.agg, Result.andThen_ok]
  cases ha : x.agg with
  | true =>
    rw [ha] at h
    simp only [Option.some.injEq] at h
    subst h
    refine ⟨.agg (cs'.extract off (off + x.size)), by simp [run_sizeOf hi.info, hi.size], .agg ?_ ?_⟩
    · rw [takeV_eq, dropV_eq]
      have : (cs'.extract off (off + x.size)).toList = (cs'.toList.drop off).take x.size := by simp [List.extract_eq_take_drop]
      rw [this]
      exact (hc.drop _).take _
    · intro u hu
      rw [takeV_eq, dropV_eq] at hu
      exact h1 _ (List.mem_of_mem_drop (List.mem_of_mem_take hu))
  | false =>
    rw [ha] at h
    simp only [listGet_eq] at h
    obtain ⟨v', h2, h3⟩ := hc.get h
    refine ⟨v', ?_, h3⟩
    have : cs'[off]? = some v' := by simpa using h2
    simp [this]

theorem fieldV_ok (hE : EnvOk E P) {t f : Nat} {v : V} {v' : Value} (hv : VR φ v v') : SndP P φ W (fieldV E t v f) (Instr.field t v' f) := by
  intro u h
  cases hv <;> simp only [fieldV] at h <;> try (cases h; done)
  case agg cs cs' hc h1 =>
    obtain ⟨d, hd, h⟩ := Option.bind_eq_some_iff.1 h
    cases d with
    | struct fs =>
      obtain ⟨fd, hfd, h⟩ := Option.bind_eq_some_iff.1 h
      obtain ⟨u', h2, h3⟩ := partV_ok (W := W) hE hc h1 u h
      refine ⟨u', ?_, h3⟩
      rw [listGet_eq] at hfd
      have : fs[f]? = some fd := by simpa using hfd
      unfold Instr.field
      simp only [Sem.run_bind, run_underlying (hE.desc hd), Result.andThen_ok, this, asAgg, Sem.run_pure]
      exact h2
    | _ => exact absurd h (by simp)

theorem fieldAddrV_ok (hE : EnvOk E P) {t f : Nat} {v : V} {v' : Value} (hv : VR φ v v') : SndP P φ W (fieldAddrV E t v f) (Instr.fieldAt t v' f) := by
  intro u h
  cases hv <;> simp only [fieldAddrV] at h <;> try (cases h; done)
  case ptr r p off hp =>
    obtain ⟨d, hd, h⟩ := Option.bind_eq_some_iff.1 h
    cases d with
    | struct fs =>
      obtain ⟨fd, hfd, h⟩ := Option.bind_eq_some_iff.1 h
      obtain ⟨s, hs, h⟩ := Option.bind_eq_some_iff.1 h
      cases hb : Nat.beq s 0 with
      | true => rw [hb] at h; exact absurd h (by simp)
      | false =>
        rw [hb] at h
        simp only [Option.some.injEq] at h
        subst h
        obtain ⟨i, hi, hsz⟩ := hE.size hs
        rw [listGet_eq] at hfd
        have hf : fs[f]? = some fd := by simpa using hfd
        have hne : ¬ i.size = 0 := by rw [hsz]; exact of_beq_f hb
        refine ⟨.pointer (some (adr p (off + fd.offset))), ?_, .ptr _ hp⟩
        unfold Instr.fieldAt
        simp only [Sem.run_bind, run_underlying (hE.desc hd), Result.andThen_ok, hf, Instr.sureAddr, Sem.run_pure, fieldPlace, run_sizeOf hi, if_neg hne, adr_add]
    | _ => exact absurd h (by simp)

theorem indexAddrV_ok (hE : EnvOk E P) {t : Nat} {v ix : V} {v' ix' : Value} (hv : VR φ v v') (hix : VR φ ix ix') : SndP P φ W (indexAddrV E t v ix) (Instr.indexAt t v' ix') := by
  intro u h
  cases hix <;> simp only [indexAddrV] at h <;> try (cases h; done)
  case int k i =>
    obtain ⟨d, hd, h⟩ := Option.bind_eq_some_iff.1 h
    cases d with
    | slice e =>
      cases v <;> simp only at h <;> try (cases h; done)
      case slice r off len cap _ =>
        obtain ⟨p, cap', hp, hc, rfl⟩ := hv.slice_inv
        obtain ⟨j, hj, h⟩ := Option.bind_eq_some_iff.1 h
        obtain ⟨s, hs, h⟩ := Option.bind_eq_some_iff.1 h
        simp only [Option.some.injEq] at h
        subst h
        obtain ⟨rfl, hlt⟩ := inB_ok hj
        obtain ⟨i', hi', hsz⟩ := hE.size hs
        refine ⟨.pointer (some (adr p (off + j * s))), ?_, .ptr _ hp⟩
        simp [Instr.indexAt, asIntOf, run_underlying (hE.desc hd), hlt, run_sizeOf hi', hsz, adr_add]
    | array n e =>
      cases v <;> simp only at h <;> try (cases h; done)
      case ptr r off _ =>
        obtain ⟨p, hp, rfl⟩ := hv.ptr_inv
        obtain ⟨j, hj, h⟩ := Option.bind_eq_some_iff.1 h
        obtain ⟨s, hs, h⟩ := Option.bind_eq_some_iff.1 h
        simp only [Option.some.injEq] at h
        subst h
        obtain ⟨rfl, hlt⟩ := inB_ok hj
        obtain ⟨i', hi', hsz⟩ := hE.size hs
        refine ⟨.pointer (some (adr p (off + j * s))), ?_, .ptr _ hp⟩
        simp [Instr.indexAt, asIntOf, run_underlying (hE.desc hd), hlt, run_sizeOf hi', hsz, adr_add, Instr.sureAddr]
    | _ => exact absurd h (by simp)

theorem str_byte (s : ByteArray) (k : Nat) (h : k < s.data.toList.length) : ∃ b, s[k]? = some b ∧ byteAt (packBytes s.data.toList) k = b.toNat := by
  have hl : k < s.size := by rw [Array.length_toList] at h; exact h
  refine ⟨s[k], by simp [hl], ?_⟩
  have h1 := unpack_pack _ (bytes_lt s.data.toList)
  rw [← packBytes_eq, List.length_map] at h1
  have h2 := unpackN_get s.data.toList.length (packBytes s.data.toList) k h
  rw [h1] at h2
  simp only [List.getElem?_map, List.getElem?_eq_getElem h, Option.map_some, Option.some.injEq] at h2
  rw [← h2]
  rfl

theorem indexV_ok (hE : EnvOk E P) {t : Nat} {v ix : V} {v' ix' : Value} (hv : VR φ v v') (hix : VR φ ix ix') : SndP P φ W (indexV E t v ix) (Instr.index t v' ix') := by
  intro u h
  cases hix <;> simp only [indexV] at h <;> try (cases h; done)
  case int k i =>
    cases hv <;> simp only at h <;> try (cases h; done)
    case str s =>
      obtain ⟨d, hd, h⟩ := Option.bind_eq_some_iff.1 h
      cases d with
      | string =>
        obtain ⟨j, hj, h⟩ := Option.bind_eq_some_iff.1 h
        simp only [Option.some.injEq] at h
        subst h
        obtain ⟨rfl, hlt⟩ := inB_ok hj
        obtain ⟨b, h1, h2⟩ := str_byte s j hlt
        refine ⟨.int .u8 b.toNat, ?_, ?_⟩
        · simp [Instr.index, asIntOf, run_underlying (hE.desc hd), h1]
        · rw [h2]; exact .int _ _
      | _ => exact absurd h (by simp)
    case agg cs cs' hc h1 =>
      obtain ⟨d, hd, h⟩ := Option.bind_eq_some_iff.1 h
      cases d with
      | array n e =>
        obtain ⟨j, hj, h⟩ := Option.bind_eq_some_iff.1 h
        obtain ⟨s, hs, hfin⟩ := Option.bind_eq_some_iff.1 h
        obtain ⟨rfl, hlt⟩ := inB_ok hj
        obtain ⟨i', hi', hsz⟩ := hE.size hs
        obtain ⟨u', h2, h3⟩ := partV_ok (W := W) hE hc h1 u hfin
        refine ⟨u', ?_, h3⟩
        have h2' : (part e cs' (j * s)).run P W = .ok u' W := h2
        simp [Instr.index, asIntOf, run_underlying (hE.desc hd), hlt, run_sizeOf hi', hsz, h2']
      | _ => exact absurd h (by simp)

theorem extractV_ok {v : V} {v' : Value} (hv : VR φ v v') (i : Nat) : SndP P φ W (extractV v i) (Instr.extract v' i) := by
  intro u h
  cases hv <;> simp only [extractV] at h <;> try (cases h; done)
  case tuple vs vs' hc =>
    rw [listGet_eq] at h
    obtain ⟨u', h1, h2⟩ := hc.get h
    have : vs'[i]? = some u' := by simpa using h1
    exact ⟨u', by simp [Instr.extract, this], h2⟩

/- ### interfaces, functions, maps -/
def makeIfaceV (E : Env) (t : Nat) (v : V) : Option V :=
  (E.desc t).bind fun d =>
    match d with
    | .interface _ => none
    | _ => some (.iface t v)
theorem makeIfaceV_ok (hE : EnvOk E P) {t : Nat} {v : V} {v' : Value} (hv : VR φ v v') : SndP P φ W (makeIfaceV E t v) (Instr.makeInterface t v') := by
  intro u h
  unfold makeIfaceV at h
  obtain ⟨d, hd, h⟩ := Option.bind_eq_some_iff.1 h
  have hu := run_underlying (hE.desc hd) W
  cases d <;> first
    | (cases h; done)
    | (simp only [Option.some.injEq] at h; subst h; exact ⟨.iface t v', by simp [Instr.makeInterface, hu], .iface t hv⟩)

def makeMapV (H : Heap) : Option (V × Heap) := some (.map H.next, H.new (.map [] 0))
theorem To.newObj (hs : St E φ H W) (o : Obj) (o' : Go.Obj) (ho : ∀ ψ, Le φ ψ → ψ H.next = some ⟨W.heap.size, 0, 0, 0, 0, false, false, none⟩ → ObjR E ψ ⟨W.heap.size, 0, 0, 0, 0, false, false, none⟩ o (W.alloc o')) :
    To E φ H W (ext φ H.next ⟨W.heap.size, 0, 0, 0, 0, false, false, none⟩) (H.new o) (W.alloc o') :=
  To.alloc hs o o' _ rfl (ho _ (hs.dom.le_ext _) (ext_same _ _ _))
theorem heap_new (W : World) (o : Go.Obj) : (W.alloc o).heap[W.heap.size]? = some o := by
  show (W.heap.push o)[W.heap.size]? = _
  simp
theorem makeMapV_ok (hs : St E φ H W) (t : Nat) : Snd E P φ H W (makeMapV H) (Instr.makeMap t none) := by
  intro v H' h
  unfold makeMapV at h
  simp only [Option.some.injEq, Prod.mk.injEq] at h
  obtain ⟨rfl, rfl⟩ := h
  have hn := To.newObj hs (.map [] 0) (.map #[] 0) (fun ψ _ _ => ⟨rfl, #[], heap_new _ _, .nil⟩)
  refine ⟨_, .map (some W.heap.size), _, ?_, .map (ext_same _ _ _), hn⟩
  simp [Instr.makeMap]

end
end
end Go.Proofs.YtcjidlgmbjebjaaDoor.Ev

/- Pieces of slices and strings, type assertions, lengths. -/
namespace Go.Proofs.YtcjidlgmbjebjaaDoor.Ev
open Go
noncomputable section

def bnd (x : Option V) (dflt most : Nat) : Option Nat :=
  match x with
  | none => some dflt
  | some v =>
    match v with
    | .int _ i => inE i most
    | _ => none
inductive OptR (φ : Pm) : Option V → Option Value → Prop
  | none : OptR φ none none
  | some {v : V} {v' : Value} (h : VR φ v v') : OptR φ (some v) (some v')

def sliceV (E : Env) (H : Heap) (t : Nat) (v : V) (lo hi mx : Option V) : Option V :=
  (E.desc t).bind fun d =>
    match d with
    | .string =>
      match v with
      | .str len n =>
        match mx with
        | none => (bnd hi len len).bind fun b => (bnd lo 0 b).bind fun a => some (.str (b - a) (cutB n a (b - a)))
        | some _ => none
      | _ => none
    | .slice e =>
      match v with
      | .nilSlice => (E.size e).bind fun _ => (bnd mx 0 0).bind fun m => (bnd hi 0 m).bind fun b => (bnd lo 0 b).bind fun _ =>
        match mx with
        | none => some .nilSlice
        | some _ => none
      | .emptyS =>
        match mx with
        | none => (E.size e).bind fun _ => (bnd hi 0 0).bind fun b => (bnd lo 0 b).bind fun _ => some .emptyS
        | some _ => none
      | .slice r off len cap =>
        (E.size e).bind fun s =>
          match mx with
          | some _ => (bnd mx cap cap).bind fun m =>
            match hi with
            | none => none
            | some _ => (bnd hi len m).bind fun b => (bnd lo 0 b).bind fun a =>
              some (.slice r (if Nat.beq m a then off else Nat.add off (Nat.mul a s)) (b - a) (m - a))
          | none =>
            match Nat.ble len cap with
            | false => none
            | true =>
            (bnd hi len cap).bind fun b => (bnd lo 0 b).bind fun a =>
              (H.look r).bind fun o =>
                match o with
                | .row e' _ opn _ =>
                  match opn with
                  | false => some (.slice r (if Nat.beq cap a then off else Nat.add off (Nat.mul a s)) (b - a) (cap - a))
                  | true => (E.size e').bind fun s' =>
                    match Nat.beq s s' with
                    | true =>
                      match Nat.beq cap a with
                      | true => some .emptyS
                      | false => some (.slice r (Nat.add off (Nat.mul a s)) (b - a) (cap - a))
                    | false => none
                | _ => none
      | _ => none
    | .array n e =>
      match v with
      | .ptr r off =>
        (E.size e).bind fun s =>
          match mx with
          | none => (bnd hi n n).bind fun b => (bnd lo 0 b).bind fun a =>
            some (.slice r (if Nat.beq n a then off else Nat.add off (Nat.mul a s)) (b - a) (n - a))
          | some _ => none
      | _ => none
    | _ => none

section
variable {E : Env} {P : Program} {φ : Pm} {H : Heap} {W : World}

theorem run_sliceBound {k : IntKind} {i : Int} {y j : Nat} (h : inE i y = some j) (code : BoundsCode) : (Instr.sliceBound (.int k i) y code).run P W = .ok j W := by
  obtain ⟨rfl, hle⟩ := inE_ok h
  simp [Instr.sliceBound, asIntOf, hle]
theorem bnd_none {dflt most b : Nat} (h : bnd none dflt most = some b) : b = dflt := by simpa [bnd] using h.symm
theorem bnd_some {v : V} {dflt most b : Nat} (h : bnd (some v) dflt most = some b) : ∃ k i, v = .int k i ∧ inE i most = some b := by
  cases v <;> simp only [bnd] at h <;> first | (cases h; done) | exact ⟨_, _, rfl, h⟩
def bndS (x' : Option Value) (d y : Nat) (code : BoundsCode) : Sem Nat :=
  match x' with
  | some v => Instr.sliceBound v y code
  | none => pure d
theorem run_bndS {x : Option V} {x' : Option Value} (hx : OptR φ x x') {d m y b : Nat} (h : bnd x d m = some b) (hm : m ≤ y) (hd : d ≤ m) (code : BoundsCode) : (bndS x' d y code).run P W = .ok b W ∧ b ≤ m := by
  cases x with
  | none =>
    cases hx
    rw [bnd_none h]
    exact ⟨rfl, hd⟩
  | some v =>
    cases hx with
    | some hv =>
      obtain ⟨k, i, rfl, he⟩ := bnd_some h
      have := hv.int_inv
      subst this
      obtain ⟨e1, e2⟩ := inE_ok he
      refine ⟨run_sliceBound (y := y) ?_ _, e2⟩
      subst e1
      show (match Nat.ble b y with | true => some b | false => none) = some b
      rw [Nat.ble_eq_true_of_le (by omega)]
theorem sliceBounds_eq (isSlice : Bool) (len cap : Nat) (lo' hi' : Option Value) :
    Instr.sliceBounds isSlice len cap lo' hi' none = (bndS hi' len cap (if isSlice then .sliceAcap else .sliceAlen)).bind fun h => (bndS lo' 0 h .sliceB).bind fun l => pure (l, h, cap) := by
  cases lo' <;> cases hi' <;> rfl
theorem sliceBounds3_eq (isSlice : Bool) (len cap : Nat) (lo' : Option Value) (x y : Value) :
    Instr.sliceBounds isSlice len cap lo' (some x) (some y) = (Instr.sliceBound y cap (if isSlice then .slice3Acap else .slice3Alen)).bind fun m => (Instr.sliceBound x m .slice3B).bind fun h => (bndS lo' 0 h .slice3C).bind fun l => pure (l, h, m) := by
  cases lo' <;> rfl
/-- The bounds, none of them the greatest. -/
theorem run_bounds {isSlice : Bool} {len cap most : Nat} {lo hi : Option V} {lo' hi' : Option Value} (hlo : OptR φ lo lo') (hhi : OptR φ hi hi') {a b : Nat} (hm : most ≤ cap) (hlen : len ≤ most)
    (h1 : bnd hi len most = some b) (h2 : bnd lo 0 b = some a) : (Instr.sliceBounds isSlice len cap lo' hi' none).run P W = .ok (a, b, cap) W ∧ a ≤ b ∧ b ≤ most := by
  obtain ⟨e1, e2⟩ := run_bndS (P := P) (W := W) hhi h1 hm hlen (if isSlice then .sliceAcap else .sliceAlen)
  obtain ⟨e3, e4⟩ := run_bndS (P := P) (W := W) hlo h2 (Nat.le_refl _) (Nat.zero_le _) .sliceB
  refine ⟨?_, e4, e2⟩
  rw [sliceBounds_eq, Sem.run_bind', e1, Result.andThen_ok, Sem.run_bind', e3, Result.andThen_ok, Sem.run_pure]
theorem run_bounds3 {isSlice : Bool} {len cap : Nat} {lo : Option V} {x y : V} {lo' hi' mx' : Option Value} (hlo : OptR φ lo lo') (hhi : OptR φ (some x) hi') (hmx : OptR φ (some y) mx') {a b m cp : Nat} (hcp : cp ≤ cap)
    (h0 : bnd (some y) cp cp = some m) (h1 : bnd (some x) len m = some b) (h2 : bnd lo 0 b = some a) : (Instr.sliceBounds isSlice len cap lo' hi' mx').run P W = .ok (a, b, m) W ∧ a ≤ b ∧ b ≤ m ∧ m ≤ cp := by
  cases hhi with
  | some hv =>
    cases hmx with
    | some hw =>
      obtain ⟨k, i, rfl, he⟩ := bnd_some h0
      obtain ⟨k', i', rfl, he'⟩ := bnd_some h1
      have e1 := hv.int_inv
      have e2 := hw.int_inv
      subst e1 e2
      obtain ⟨e1, e2⟩ := inE_ok he
      have he2 : inE i cap = some m := by
        subst e1
        show (match Nat.ble m cap with | true => some m | false => none) = some m
        rw [Nat.ble_eq_true_of_le (by omega)]
      obtain ⟨e3, e4⟩ := run_bndS (P := P) (W := W) hlo h2 (Nat.le_refl _) (Nat.zero_le _) .slice3C
      refine ⟨?_, e4, (inE_ok he').2, e2⟩
      rw [sliceBounds3_eq, Sem.run_bind', run_sliceBound he2, Result.andThen_ok, Sem.run_bind', run_sliceBound he', Result.andThen_ok, Sem.run_bind', e3, Result.andThen_ok, Sem.run_pure]

theorem str_cut (s : ByteArray) (a b : Nat) (hab : a ≤ b) (hb : b ≤ s.data.toList.length) :
    VR φ (.str (b - a) (cutB (packBytes s.data.toList) a (b - a))) (.string (s.extract a b)) := by
  have hd : (s.extract a b).data.toList = (s.data.toList.drop a).take (b - a) := by
    rw [ByteArray.data_extract]
    simp [List.extract_eq_take_drop]
  have h1 : (s.extract a b).data.toList.length = b - a := by rw [hd]; simp at hb ⊢; omega
  have h2 : packBytes (s.extract a b).data.toList = cutB (packBytes s.data.toList) a (b - a) := by
    rw [hd, packBytes_eq, packBytes_eq, List.map_take, List.map_drop, packN_cut _ (bytes_lt _) _ _ (by simp at hb ⊢; omega)]
  have := VR.str (φ := φ) (s.extract a b)
  rwa [h1, h2] at this

theorem beq_ite {α : Type} (m a : Nat) (x y : α) : (if Nat.beq m a = true then x else y) = if m = a then x else y := by
  by_cases h : m = a
  · rw [if_pos (beq_t h), if_pos h]
  · rw [if_neg (by rw [beq_f h]; simp), if_neg h]

theorem sliceV_ok (hE : EnvOk E P) (hs : St E φ H W) {t : Nat} {v : V} {v' : Value} (hv : VR φ v v') {lo hi mx : Option V} {lo' hi' mx' : Option Value} (hlo : OptR φ lo lo') (hhi : OptR φ hi hi') (hmx : OptR φ mx mx') :
    SndP P φ W (sliceV E H t v lo hi mx) (Instr.sliceAt t v' lo' hi' mx') := by
  intro u h
  unfold sliceV at h
  obtain ⟨d, hd, h⟩ := Option.bind_eq_some_iff.1 h
  have hdu := run_underlying (hE.desc hd) W
  cases d <;> simp only at h <;> try (cases h; done)
  case string =>
    cases v <;> simp only at h <;> try (cases h; done)
    case str len n _ =>
      obtain ⟨s, rfl, rfl, rfl⟩ := hv.str_inv
      cases hmx <;> simp only at h <;> try (cases h; done)
      obtain ⟨b, hb, h⟩ := Option.bind_eq_some_iff.1 h
      obtain ⟨a, ha, h⟩ := Option.bind_eq_some_iff.1 h
      simp only [Option.some.injEq] at h
      subst h
      have hlen : s.data.toList.length = s.size := by rw [Array.length_toList]; rfl
      have hbd := run_bounds (P := P) (W := W) (isSlice := false) (cap := s.size) hlo hhi (Nat.le_refl _) (Nat.le_refl _) (by rw [hlen] at hb; exact hb) ha
      refine ⟨.string (s.extract a b), ?_, str_cut s a b hbd.2.1 (by rw [hlen]; exact hbd.2.2)⟩
      simp [Instr.sliceAt, hdu, Instr.slice, hbd.1]
  case slice e =>
    cases v <;> simp only at h <;> try (cases h; done)
    case nilSlice =>
      have := hv.nilSlice_inv
      subst this
      obtain ⟨s, hsz, h⟩ := Option.bind_eq_some_iff.1 h
      obtain ⟨ty, hty, hsz'⟩ := hE.size hsz
      obtain ⟨m, hm, h⟩ := Option.bind_eq_some_iff.1 h
      obtain ⟨b, hb, h⟩ := Option.bind_eq_some_iff.1 h
      obtain ⟨a, ha, h⟩ := Option.bind_eq_some_iff.1 h
      cases hmx <;> simp only at h <;> try (cases h; done)
      simp only [Option.some.injEq] at h
      subst h
      have hm0 := bnd_none hm
      subst hm0
      have hbd := run_bounds (P := P) (W := W) (isSlice := true) (cap := 0) hlo hhi (Nat.le_refl _) (Nat.le_refl _) hb ha
      have hb0 : b = 0 := by omega
      have ha0 : a = 0 := by omega
      subst hb0 ha0
      refine ⟨.slice none 0 0, ?_, .nilSlice⟩
      simp [Instr.sliceAt, hdu, Instr.slice, hbd.1, run_sizeOf hty]
    case emptyS =>
      obtain ⟨ad, c, rfl⟩ := hv.emptyS_inv
      cases hmx <;> simp only at h <;> try (cases h; done)
      obtain ⟨s, hsz, h⟩ := Option.bind_eq_some_iff.1 h
      obtain ⟨ty, hty, hsz'⟩ := hE.size hsz
      obtain ⟨b, hb, h⟩ := Option.bind_eq_some_iff.1 h
      obtain ⟨a, ha, h⟩ := Option.bind_eq_some_iff.1 h
      simp only [Option.some.injEq] at h
      subst h
      have hbd := run_bounds (P := P) (W := W) (isSlice := true) (cap := c) hlo hhi (Nat.zero_le _) (Nat.le_refl _) hb ha
      have hb0 : b = 0 := by omega
      have ha0 : a = 0 := by omega
      subst hb0 ha0
      by_cases hc0 : c = 0
      · subst hc0
        exact ⟨.slice (some ad) 0 0, by simp [Instr.sliceAt, hdu, Instr.slice, hbd.1, run_sizeOf hty], .emptyS ad 0⟩
      · exact ⟨.slice (some (ad.add (0 * ty.size))) 0 c, by simp [Instr.sliceAt, hdu, Instr.slice, hbd.1, run_sizeOf hty, hc0], .emptyS _ c⟩
    case slice r off len cap _ =>
      obtain ⟨p, cap', hp, hc, rfl⟩ := hv.slice_inv
      obtain ⟨s, hsz, h⟩ := Option.bind_eq_some_iff.1 h
      obtain ⟨ty, hty, hsz'⟩ := hE.size hsz
      cases mx with
      | some y =>
        simp only at h
        obtain ⟨m, hm, h⟩ := Option.bind_eq_some_iff.1 h
        cases hi with
        | none => cases h
        | some x =>
          simp only at h
          obtain ⟨b, hb, h⟩ := Option.bind_eq_some_iff.1 h
          obtain ⟨a, ha, h⟩ := Option.bind_eq_some_iff.1 h
          simp only [Option.some.injEq] at h
          subst h
          have hcc : cap ≤ cap' := by rcases hc with h | h <;> omega
          have hbd := run_bounds3 (P := P) (W := W) (isSlice := true) hlo hhi hmx hcc hm hb ha
          refine ⟨.slice (some (adr p (if m = a then off else off + a * s))) (b - a) (m - a), ?_, ?_⟩
          · simp only [Instr.sliceAt, Sem.run_bind, hdu, Result.andThen_ok, Instr.slice, hbd.1, run_sizeOf hty, hsz', Sem.run_pure]
            by_cases hma : m = a
            · simp [hma]
            · simp [hma, adr_add]
          · rw [beq_ite]
            exact .slice _ _ hp (.inl rfl)
      | none =>
        cases hmx
        simp only at h
        cases hlc : Nat.ble len cap with
        | false => rw [hlc] at h; cases h
        | true =>
          rw [hlc] at h
          simp only at h
          obtain ⟨b, hb, h⟩ := Option.bind_eq_some_iff.1 h
          obtain ⟨a, ha, h⟩ := Option.bind_eq_some_iff.1 h
          obtain ⟨o, ho, h⟩ := Option.bind_eq_some_iff.1 h
          have hcc : cap ≤ cap' := by rcases hc with h | h <;> omega
          have hbd := run_bounds (P := P) (W := W) (isSlice := true) hlo hhi hcc (of_ble_t hlc) hb ha
          have hrun : ∀ w, (if cap' = a then (some (adr p off)) else (some (adr p (off + a * s)))) = w → (Instr.sliceAt t (.slice (some (adr p off)) len cap') lo' hi' none).run P W = .ok (.slice w (b - a) (cap' - a)) W := fun w hw => by
            simp only [Instr.sliceAt, Sem.run_bind, hdu, Result.andThen_ok, Instr.slice, hbd.1, run_sizeOf hty, hsz', Sem.run_pure]
            rw [← hw]
            by_cases hma : cap' = a
            · simp [hma]
            · simp [hma, adr_add]
          cases o with
          | row e' cs opn ro =>
            have hr : RowR E φ p e' cs opn ro W := hs.hr.obj _ _ _ ho hp
            cases opn with
            | false =>
              simp only [Option.some.injEq] at h
              subst h
              have hcap : cap' = cap := by
                rcases hc with h | ⟨h, _⟩
                · exact h
                · rw [hr.opq] at h; cases h
              subst hcap
              refine ⟨_, hrun _ rfl, ?_⟩
              rw [beq_ite]
              by_cases hma : cap' = a
              · rw [if_pos hma, if_pos hma]; exact .slice _ _ hp (.inl rfl)
              · rw [if_neg hma, if_neg hma]; exact .slice _ _ hp (.inl rfl)
            | true =>
              simp only at h
              obtain ⟨s', hs', h⟩ := Option.bind_eq_some_iff.1 h
              cases hss : Nat.beq s s' with
              | false => rw [hss] at h; cases h
              | true =>
                rw [hss] at h
                simp only at h
                have hse : s = p.esz := by
                  have := hr.esz
                  rw [hs'] at this
                  simp only [Option.some.injEq] at this
                  rw [of_beq_t hss, this]
                cases hca : Nat.beq cap a with
                | true =>
                  rw [hca] at h
                  simp only [Option.some.injEq] at h
                  subst h
                  have hca' := of_beq_t hca
                  have hba : b - a = 0 := by omega
                  have hr2 := hrun _ rfl
                  rw [hba] at hr2
                  by_cases hma : cap' = a
                  · rw [if_pos hma] at hr2; exact ⟨_, hr2, .emptyS _ _⟩
                  · rw [if_neg hma] at hr2; exact ⟨_, hr2, .emptyS _ _⟩
                | false =>
                  rw [hca] at h
                  simp only [Option.some.injEq] at h
                  subst h
                  have hca' := of_beq_f hca
                  have hr2 := hrun _ rfl
                  have hle : b ≤ cap := hbd.2.2
                  rw [if_neg (by omega)] at hr2
                  refine ⟨_, hr2, .slice _ _ hp ?_⟩
                  rcases hc with h | ⟨h1, h2, h3, h4⟩
                  · exact .inl (by rw [h])
                  · refine .inr ⟨h1, ?_, by omega, ?_⟩
                    · rw [hse, ← h2]
                      show off + a * p.esz + (cap - a) * p.esz = _
                      rw [Nat.add_assoc, ← Nat.add_mul]
                      congr 2; omega
                    · rw [hse]
                      refine Nat.le_trans (Nat.le_of_eq ?_) h4
                      show off + a * p.esz + (cap' - a) * p.esz = _
                      rw [Nat.add_assoc, ← Nat.add_mul]
                      congr 2; omega
          | _ => cases h
  case array n e =>
    cases v <;> simp only at h <;> try (cases h; done)
    case ptr r off _ =>
      obtain ⟨p, hp, rfl⟩ := hv.ptr_inv
      obtain ⟨s, hsz, h⟩ := Option.bind_eq_some_iff.1 h
      obtain ⟨ty, hty, hsz'⟩ := hE.size hsz
      cases hmx <;> simp only at h <;> try (cases h; done)
      obtain ⟨b, hb, h⟩ := Option.bind_eq_some_iff.1 h
      obtain ⟨a, ha, h⟩ := Option.bind_eq_some_iff.1 h
      simp only [Option.some.injEq] at h
      subst h
      have hbd := run_bounds (P := P) (W := W) (isSlice := false) (cap := n) hlo hhi (Nat.le_refl _) (Nat.le_refl _) hb ha
      refine ⟨.slice (some (adr p (if n = a then off else off + a * s))) (b - a) (n - a), ?_, ?_⟩
      · simp only [Instr.sliceAt, Sem.run_bind, hdu, Result.andThen_ok, Instr.sureAddr, Sem.run_pure, hbd.1, run_sizeOf hty, hsz']
        by_cases hma : n = a
        · simp [hma]
        · simp [hma, adr_add]
      · rw [beq_ite]
        exact .slice _ _ hp (.inl rfl)

end
end
end Go.Proofs.YtcjidlgmbjebjaaDoor.Ev

/- append. -/
namespace Go.Proofs.YtcjidlgmbjebjaaDoor.Ev
open Go
noncomputable section

/-- What is appended: how many elements, and their cells. -/
structure Src (P : Program) (W : World) (e : TypeId) (i : TypeInfo) (t1 : TypeId) (x : Value) (n : Nat) (news : Array Value) : Prop where
  run : ∀ (ty : TypeId) (t0 : TypeId) (base : Option Addr) (sLen sCap : Nat), P.underlying t0 = some (.slice e) →
    (sLen + n ≤ sCap → (Builtin.append_ #[t0, t1] ty #[.slice base sLen sCap, x]).run P W =
      ((match base with | some a => storeCells (a.add (sLen * i.size)) news.toList | none => pure () : Sem Unit).run P W).andThen fun _ w => .ok (.slice base (sLen + n) sCap) w) ∧
    (∀ (olds : Array Value) (z : Value), ¬ sLen + n ≤ sCap → (Builtin.firstCells i.size sLen (.slice base sLen sCap)).run P W.drew = .ok olds W.drew → i.zero = some z → (sLen + n) * i.bytes ≤ 140737488355328 → 0 < i.bytes →
      (Builtin.append_ #[t0, t1] ty #[.slice base sLen sCap, x]).run P W =
        .ok (.slice (some ⟨W.heap.size, 0, none⟩) (sLen + n) (grownCap W (sLen + n) sCap e))
          (W.drew.alloc (.cells (olds ++ news ++ Builtin.zeroCells z.cells (grownCap W (sLen + n) sCap e - (sLen + n))) e)))

section
variable {E : Env} {P : Program} {φ : Pm} {H : Heap} {W : World}

theorem Src.plain {e : TypeId} {i : TypeInfo} {t1 : TypeId} {d : TypeDesc} {x : Value} {n : Nat} {news : Array Value} (hi : P.info? e = some i) (hd : P.underlying t1 = some d) (hnd : ∀ k, d ≠ .int k)
    (hlen : (Builtin.lenOf x).run P W = .ok n W) (hfirst : ∀ w : World, (w = W ∨ w = W.drew) → (Builtin.firstCells i.size n x).run P w = .ok news w) : Src P W e i t1 x n news := by
  have hnd' : (match d with | .int _ => true | _ => false) = false := by
    cases d <;> first | rfl | exact absurd rfl (hnd _)
  refine ⟨fun ty t0 base sLen sCap ht => ⟨fun hroom => ?_, fun olds z hroom hold hzero hb hb0 => ?_⟩⟩
  · unfold Builtin.append_
    cases base with
    | none => simp [run_underlying ht, sizeOf, typeInfo, hi, run_underlying hd, hnd', hlen, hroom, hfirst W (.inl rfl)]
    | some a => simp [run_underlying ht, sizeOf, typeInfo, hi, run_underlying hd, hnd', hlen, hroom, hfirst W (.inl rfl)]
  · have hfit := growslice_fits (show sCap < sLen + n by omega) hb
    have h48 : ¬ (281474976710656 < Builtin.nextslicecap (sLen + n) sCap * i.bytes) := by omega
    have h0 : ¬ i.bytes = 0 := by omega
    unfold Builtin.append_
    simp [run_underlying ht, sizeOf, typeInfo, hi, run_underlying hd, hnd', hlen, hroom, hfirst W.drew (.inr rfl), hold, h48, h0, Question.forced, grownCap, newRow, zeroValue, hzero]

theorem Src.zeros {e : TypeId} {i : TypeInfo} {z : Value} {t1 : TypeId} {k q : IntKind} {n : Nat} (hi : P.info? e = some i) (hz : i.zero = some z) (hd : P.underlying t1 = some (.int q)) (hb : n * i.bytes ≤ 140737488355328) (hn : n < 9223372036854775808) (h0 : 0 < i.size) :
    Src P W e i t1 (.int k n) n (Builtin.zeroCells z.cells n) := by
  have hw : IntKind.i64.wrap (n : Int) = n := IntWalk.i64_in _ (by omega)
  have hb' : ¬ ((281474976710656 : Int) < (n : Int) * (i.bytes : Int)) := by
    have h1 : ((n * i.bytes : Nat) : Int) ≤ ((140737488355328 : Nat) : Int) := Int.ofNat_le.2 hb
    rw [Int.natCast_mul] at h1
    omega
  have hn0 : ¬ ((n : Int) < 0) := by omega
  have hzc : n * i.size = 0 → Builtin.zeroCells z.cells n = #[] := fun h => by
    have : n = 0 := by
      rcases Nat.mul_eq_zero.1 h with h | h <;> omega
    subst this
    simp [Builtin.zeroCells]
  refine ⟨fun ty t0 base sLen sCap ht => ⟨fun hroom => ?_, fun olds z' hroom hold hzero hbb hb0 => ?_⟩⟩
  · unfold Builtin.append_
    by_cases hz0 : n * i.size = 0
    · rw [hzc hz0]
      cases base with
      | none => simp [run_underlying ht, sizeOf, typeInfo, hi, run_underlying hd, asInt, asIntOf, hw, hb', hn0, hroom, hz0]
      | some a => simp [run_underlying ht, sizeOf, typeInfo, hi, run_underlying hd, asInt, asIntOf, hw, hb', hn0, hroom, hz0]
    · cases base with
      | none => simp [run_underlying ht, sizeOf, typeInfo, hi, run_underlying hd, asInt, asIntOf, hw, hb', hn0, hroom, hz0, zeroValue, hz]
      | some a => simp [run_underlying ht, sizeOf, typeInfo, hi, run_underlying hd, asInt, asIntOf, hw, hb', hn0, hroom, hz0, zeroValue, hz]
  · have hfit := growslice_fits (show sCap < sLen + n by omega) hbb
    have h48 : ¬ (281474976710656 < Builtin.nextslicecap (sLen + n) sCap * i.bytes) := by omega
    have h0 : ¬ i.bytes = 0 := by omega
    have hneed : sLen + n ≤ 140737488355328 := Nat.le_trans (Nat.le_mul_of_pos_right _ hb0) hbb
    have h63 : ¬ ((9223372036854775807 : Int) < (sLen : Int) + (n : Int)) := by omega
    unfold Builtin.append_
    rw [hz] at hzero
    simp only [Option.some.injEq] at hzero
    subst hzero
    by_cases hz0 : n * i.size = 0
    · rw [hzc hz0]
      simp [run_underlying ht, sizeOf, typeInfo, hi, run_underlying hd, asInt, asIntOf, hw, hb', hn0, hroom, hold, h48, h0, h63, Question.forced, grownCap, newRow, zeroValue, hz, hz0]
    · simp [run_underlying ht, sizeOf, typeInfo, hi, run_underlying hd, asInt, asIntOf, hw, hb', hn0, hroom, hold, h48, h0, h63, Question.forced, grownCap, newRow, zeroValue, hz, hz0]

/-- What is appended, out of the abstract heap. -/
def srcV (E : Env) (H : Heap) (x : TI) (t1 : Nat) (v : V) : Option (Nat × Cells) :=
  (E.desc t1).bind fun d =>
    match d with
    | .int _ =>
      match v with
      | .int _ m => (inE m 1000000000).bind fun n => (zeroCellsV x n).bind fun l =>
        match Nat.ble (Nat.mul n x.bytes) 140737488355328, Nat.blt 0 x.size with
        | true, true => some (n, Cells.ofList l)
        | _, _ => none
      | _ => none
    | .string =>
      match v with
      | .str len n =>
        match Nat.beq x.size 1 with
        | true => some (len, .bytes len n)
        | false => none
      | _ => none
    | .slice _ =>
      match v with
      | .nilSlice => some (0, .bytes 0 0)
      | .emptyS => some (0, .bytes 0 0)
      | .slice r off len _ => (H.look r).bind fun o =>
        match o with
        | .row _ cs _ _ =>
          match Nat.ble (Nat.add off (Nat.mul len x.size)) cs.size with
          | true => some (len, cs.extract off (Nat.mul len x.size))
          | false => none
        | _ => none
      | _ => none
    | _ => none

theorem run_loadCells_zero (a : Addr) (w : World) : (loadCells a 0).run P w = .ok #[] w := rfl

theorem unpackV_bytes (s : ByteArray) : VRs φ (unpackV s.data.toList.length (packBytes s.data.toList)) (s.data.map fun b => Value.int .u8 b.toNat).toList := by
  have h := unpack_pack _ (bytes_lt s.data.toList)
  rw [← packBytes_eq, List.length_map] at h
  rw [unpackV_eq, h]
  simp only [Array.toList_map, List.map_map]
  refine VRs.of_get (by simp) (fun i v v' hv hv' => ?_)
  rw [List.getElem?_map] at hv hv'
  obtain ⟨b, hb, rfl⟩ := Option.map_eq_some_iff.1 hv
  obtain ⟨b', hb', rfl⟩ := Option.map_eq_some_iff.1 hv'
  rw [hb] at hb'
  simp only [Option.some.injEq] at hb'
  subst hb'
  exact .int _ _

theorem srcV_ok (hE : EnvOk E P) (hs : St E φ H W) {e : Nat} {x : TI} {i : TypeInfo} (hi : TIOk P e x i) {t1 : Nat} {v : V} {v' : Value} (hv : VR φ v v') {n : Nat} {new : Cells} (h : srcV E H x t1 v = some (n, new)) :
    ∃ news, Src P W e i t1 v' n news ∧ VRs φ new.toList news.toList ∧ (∀ u ∈ news.toList, u.oneCell' = true) ∧ new.toList.length = n * i.size := by
  unfold srcV at h
  obtain ⟨d, hd, h⟩ := Option.bind_eq_some_iff.1 h
  have hdu := hE.desc hd
  cases d <;> simp only at h <;> try (cases h; done)
  case int q =>
    cases v <;> simp only at h <;> try (cases h; done)
    case int k m _ =>
      obtain ⟨n', hn', h⟩ := Option.bind_eq_some_iff.1 h
      obtain ⟨l, hl, h⟩ := Option.bind_eq_some_iff.1 h
      cases hb : Nat.ble (Nat.mul n' x.bytes) 140737488355328 with
      | false => rw [hb] at h; cases h
      | true =>
        cases hb2 : Nat.blt 0 x.size with
        | false => rw [hb, hb2] at h; cases h
        | true =>
          rw [hb, hb2] at h
          simp only [Option.some.injEq, Prod.mk.injEq] at h
          obtain ⟨rfl, rfl⟩ := h
          obtain ⟨hm, hle⟩ := inE_ok hn'
          have hv1 := hv.int_inv
          subst hv1
          obtain ⟨z', hz', hzs, hzl, hzr⟩ := zeroCellsV_ok hi hl
          obtain ⟨k1, k2, k3⟩ := hzr φ
          rw [hm]
          have hby : n' * i.bytes ≤ 140737488355328 := by rw [hi.bytes]; exact of_ble_t hb
          have hsp : 0 < i.size := by rw [hi.size]; exact of_blt_t hb2
          have hzc : Builtin.zeroCells z'.cells n' = (Array.range (n' * i.size)).map (z'.cells[· % z'.cells.size]!) := by
            unfold Builtin.zeroCells
            rw [hzs]
          refine ⟨_, Src.zeros hi.info hz' hdu hby (by omega) hsp, ?_, ?_, ?_⟩
          · rw [Cells.toList_ofList, hzc]; exact k1
          · rw [hzc]; exact k3
          · rw [Cells.toList_ofList]; exact hzl
  case string =>
    cases v <;> simp only at h <;> try (cases h; done)
    case str len m _ =>
      cases hb : Nat.beq x.size 1 with
      | false => rw [hb] at h; cases h
      | true =>
        rw [hb] at h
        simp only [Option.some.injEq, Prod.mk.injEq] at h
        obtain ⟨rfl, rfl⟩ := h
        obtain ⟨s, rfl, rfl, rfl⟩ := hv.str_inv
        have hs1 : i.size = 1 := by rw [hi.size]; exact of_beq_t hb
        have hlen : s.data.toList.length = s.size := by rw [Array.length_toList]; rfl
        have hx : (Array.map (fun b : UInt8 => Value.int IntKind.u8 (b.toNat : Int)) s.data).extract 0 s.size = Array.map (fun b : UInt8 => Value.int IntKind.u8 (b.toNat : Int)) s.data := by
          have hs : s.size = (Array.map (fun b : UInt8 => Value.int IntKind.u8 (b.toNat : Int)) s.data).size := by rw [Array.size_map]; rfl
          rw [hs, Array.extract_size]
        refine ⟨s.data.map fun b => Value.int .u8 b.toNat, Src.plain hi.info hdu (fun k => by simp) ?_ (fun w _ => ?_), unpackV_bytes s, ?_, ?_⟩
        · rw [hlen]; rfl
        · rw [hlen]
          simp [Builtin.firstCells, hx]
        · intro u hu
          simp only [Array.toList_map, List.mem_map] at hu
          obtain ⟨b, _, rfl⟩ := hu
          rfl
        · show (unpackV _ _).length = _
          rw [unpackV_length, hs1, Nat.mul_one]
  case slice e1 =>
    cases v <;> simp only at h <;> try (cases h; done)
    case nilSlice =>
      simp only [Option.some.injEq, Prod.mk.injEq] at h
      obtain ⟨rfl, rfl⟩ := h
      have hv1 := hv.nilSlice_inv
      subst hv1
      exact ⟨#[], Src.plain hi.info hdu (fun k => by simp) rfl (fun w _ => rfl), .nil, by simp, by simp [Cells.toList, unpackV]⟩
    case emptyS =>
      simp only [Option.some.injEq, Prod.mk.injEq] at h
      obtain ⟨rfl, rfl⟩ := h
      obtain ⟨a, c, rfl⟩ := hv.emptyS_inv
      refine ⟨#[], Src.plain hi.info hdu (fun k => by simp) rfl (fun w _ => ?_), .nil, by simp, by simp [Cells.toList, unpackV]⟩
      simp [Builtin.firstCells, run_loadCells_zero]
    case slice r off len cap _ =>
      obtain ⟨p, cap', hp, hc, rfl⟩ := hv.slice_inv
      obtain ⟨o, ho, h⟩ := Option.bind_eq_some_iff.1 h
      cases o with
      | row e' cs opn ro =>
        simp only at h
        cases hb : Nat.ble (Nat.add off (Nat.mul len x.size)) cs.size with
        | false => rw [hb] at h; cases h
        | true =>
          rw [hb] at h
          simp only [Option.some.injEq, Prod.mk.injEq] at h
          obtain ⟨rfl, rfl⟩ := h
          have hr : RowR E φ p e' cs opn ro W := hs.hr.obj _ _ _ ho hp
          obtain ⟨l', h1, h2, h3, h4, h5⟩ := hr.cells off (len * x.size) (of_ble_t hb)
          refine ⟨l'.toArray, Src.plain hi.info hdu (fun k => by simp) rfl (fun w hw => ?_), by simpa using h3, by simpa using h4, ?_⟩
          · have h2' : ∀ j u, l'[j]? = some u → w.cell? ((adr p off).add j) = some u := fun j u hj => by
              rcases hw with rfl | rfl
              · exact h2 j u hj
              · exact h2 j u hj
            have hl := run_loadCells_list (P := P) w (adr p off) l' h2'
            rw [h1, ← hi.size] at hl
            simp [Builtin.firstCells, hl]
          · rw [hi.size, ← h1]; exact h3.length
      | _ => cases h

def appendV (E : Env) (H : Heap) (t0 t1 : Nat) (s v : V) : Option (V × Heap) :=
  (E.desc t0).bind fun d =>
    match d with
    | .slice e =>
      (E.ti e).bind fun x =>
        (srcV E H x t1 v).bind fun q =>
          let n := q.1
          let new := q.2
          match s with
          | .nilSlice =>
            match Nat.beq n 0 with
            | true => some (.nilSlice, H)
            | false =>
              match Nat.ble (Nat.mul n x.bytes) 140737488355328, Nat.blt 0 x.bytes, zeroCellsV x 0 with
              | true, true, some _ => some (.slice H.next 0 n n, H.new (.row e new true false))
              | _, _, _ => none
          | .emptyS =>
            match Nat.beq n 0 with
            | true => some (.emptyS, H)
            | false => none
          | .slice r off len cap =>
            (H.look r).bind fun o =>
              match o with
              | .row e' cs opn ro =>
                (E.size e').bind fun s' =>
                match Nat.beq s' x.size with
                | false => none
                | true =>
                match Nat.ble (Nat.add len n) cap with
                | true =>
                  match Nat.beq n 0 with
                  | true => some (.slice r off len cap, H)
                  | false =>
                    match ro with
                    | true => none
                    | false =>
                      match Nat.ble (Nat.add (Nat.add off (Nat.mul len x.size)) new.size) cs.size with
                      | true => some (.slice r off (Nat.add len n) cap, H.put r (.row e' (cs.splice (Nat.add off (Nat.mul len x.size)) new) opn ro))
                      | false => none
                | false =>
                  match Nat.ble (Nat.add off (Nat.mul len x.size)) cs.size, Nat.ble (Nat.mul (Nat.add len n) x.bytes) 140737488355328, Nat.blt 0 x.bytes, zeroCellsV x 0 with
                  | true, true, true, some _ =>
                    match opn with
                    | false => some (.slice H.next 0 (Nat.add len n) (Nat.add len n), H.new (.row e ((cs.extract off (Nat.mul len x.size)).append new) true false))
                    | true =>
                      match or ro (or (not (Nat.beq e' e)) (not (Nat.beq (Nat.mod off x.size) 0))) with
                      | true => none
                      | false => some (.slice H.next 0 (Nat.add len n) (Nat.add len n), (H.put r .dead).new (.row e ((cs.extract off (Nat.mul len x.size)).append new) true false))
                  | _, _, _, _ => none
              | _ => none
          | _ => none
    | _ => none

theorem zeroCells_size {t : Nat} {x : TI} {i : TypeInfo} (hi : TIOk P t x i) {l : List V} (h : zeroCellsV x 0 = some l) : ∃ z, i.zero = some z ∧ z.cells.size = i.size := by
  obtain ⟨z, h1, h2, _⟩ := zeroCellsV_ok hi h
  exact ⟨z, h1, h2⟩
/-- The row that an append lays anew. -/
theorem To.grown (hs : St E φ H W) {e : Nat} {x : TI} {i : TypeInfo} (hx : E.ti e = some x) (hi : TIOk P e x i) {z : Value} (hzs : z.cells.size = i.size) (cs : Cells) (olds news : Array Value) (need old : Nat)
    (hv : VRs φ cs.toList (olds.toList ++ news.toList)) (h1 : ∀ u ∈ olds.toList ++ news.toList, u.oneCell' = true) (hlen : cs.toList.length = need * i.size) :
    ∃ φ', VR φ' (.slice H.next 0 need need) (.slice (some ⟨W.heap.size, 0, none⟩) need (grownCap W need old e)) ∧
      To E φ H W φ' (H.new (.row e cs true false)) (W.drew.alloc (.cells (olds ++ news ++ Builtin.zeroCells z.cells (grownCap W need old e - need)) e)) := by
  have hn := To.newRow (P := P) hs.drew e x.size (ti_size hx) cs (olds.toList ++ news.toList) (Builtin.zeroCells z.cells (grownCap W need old e - need)).toList hv h1 true (fun h => by cases h)
  have harr : ((olds.toList ++ news.toList) ++ (Builtin.zeroCells z.cells (grownCap W need old e - need)).toList).toArray = olds ++ news ++ Builtin.zeroCells z.cells (grownCap W need old e - need) := by
    apply Array.ext'; simp
  rw [harr] at hn
  have hge := grownCap_ge W need old e
  have hl := hv.length
  refine ⟨_, ?_, (To.drew hs).trans hn.2⟩
  have hp : ext φ H.next ⟨W.drew.heap.size, 0, (olds.toList ++ news.toList).length, (olds.toList ++ news.toList).length + (Builtin.zeroCells z.cells (grownCap W need old e - need)).toList.length, x.size, true, false, none⟩ H.next = some _ := ext_same _ _ _
  have := VR.slice (φ := ext φ H.next _) 0 need (cap := need) (cap' := grownCap W need old e) hp (.inr ⟨rfl, by rw [← hl, hlen, hi.size]; simp, hge, by
    rw [← hl, hlen]
    have : (Builtin.zeroCells z.cells (grownCap W need old e - need)).toList.length = (grownCap W need old e - need) * i.size := by
      rw [Array.length_toList, size_zeroCells, hzs]
    rw [this, hi.size]
    show 0 + grownCap W need old e * x.size ≤ need * x.size + (grownCap W need old e - need) * x.size
    rw [← Nat.add_mul, Nat.zero_add]
    exact Nat.mul_le_mul_right _ (by omega)⟩)
  exact this

theorem firstCells_slice {a : Addr} {len cap size : Nat} {l : List Value} (hl : l.length = len * size) (h : ∀ j v, l[j]? = some v → W.cell? (a.add j) = some v) :
    (Builtin.firstCells size len (.slice (some a) len cap)).run P W = .ok l.toArray W := by
  have := run_loadCells_list (P := P) W a l h
  rw [hl] at this
  simpa [Builtin.firstCells] using this

theorem setCells_kept (blk : Nat) : ∀ (vs : List Value) (o : Nat) (w : World), (w.setCells blk o vs).os = w.os ∧ (w.setCells blk o vs).tape = w.tape ∧ (w.setCells blk o vs).output = w.output ∧ (w.setCells blk o vs).heap.size = w.heap.size ∧
    (∀ b, b ≠ blk → (w.setCells blk o vs).heap[b]? = w.heap[b]?) ∧
    (∀ {m t k : Nat} {q : Prop}, (∃ c fz, w.heap[blk]? = some (.cells c t fz) ∧ c.size = k ∧ q ∧ (fz.1 = fz.2 ∨ m ≤ fz.1)) → ∃ c fz, (w.setCells blk o vs).heap[blk]? = some (.cells c t fz) ∧ c.size = k ∧ q ∧ (fz.1 = fz.2 ∨ m ≤ fz.1))
  | [], o, w => ⟨rfl, rfl, rfl, rfl, fun _ _ => rfl, fun h => h⟩
  | v :: vs, o, w => by
    obtain ⟨h1, h2, h3, h4, h5, h6⟩ := setCells_kept blk vs (o + 1) (w.setCell ⟨blk, o, none⟩ v)
    rw [World.setCells]
    refine ⟨h1, h2, h3, h4.trans (by simp), fun b hb => (h5 b hb).trans ?_, fun h => h6 ?_⟩
    · show (w.heap.modify blk _)[b]? = _
      rw [Array.getElem?_modify, if_neg (Ne.symm hb)]
    · obtain ⟨c, fz, g1, g3, g2⟩ := h
      refine ⟨c.setIfInBounds o v, fz, ?_, by simpa using g3, g2⟩
      show (w.heap.modify blk _)[blk]? = _
      rw [Array.getElem?_modify, if_pos rfl, g1]
      rfl

theorem appendV_ok (hE : EnvOk E P) (hs : St E φ H W) {t0 t1 : Nat} {s v : V} {s' v' : Value} (hsv : VR φ s s') (hv : VR φ v v') (ty : TypeId) :
    Snd E P φ H W (appendV E H t0 t1 s v) (Builtin.append_ #[t0, t1] ty #[s', v']) := by
  intro u H' h
  unfold appendV at h
  obtain ⟨d, hd, h⟩ := Option.bind_eq_some_iff.1 h
  have ht := hE.desc hd
  cases d <;> simp only at h <;> try (cases h; done)
  case slice e =>
    obtain ⟨x, hx, h⟩ := Option.bind_eq_some_iff.1 h
    obtain ⟨q, hq, h⟩ := Option.bind_eq_some_iff.1 h
    obtain ⟨n, new⟩ := q
    obtain ⟨i, hi⟩ := hE.ti e x hx
    obtain ⟨news, hsrc, hnv, hn1, hnl⟩ := srcV_ok hE hs hi hv hq
    have hnl' : news.toList.length = n * i.size := by rw [← hnv.length]; exact hnl
    simp only at h
    cases s <;> simp only at h <;> try (cases h; done)
    case nilSlice =>
      have := hsv.nilSlice_inv
      subst this
      cases hb : Nat.beq n 0 with
      | true =>
        rw [hb] at h
        simp only [Option.some.injEq, Prod.mk.injEq] at h
        obtain ⟨rfl, rfl⟩ := h
        have hn0 := of_beq_t hb
        subst hn0
        refine ⟨φ, .slice none 0 0, W, ?_, .nilSlice, To.refl hs⟩
        rw [(hsrc.run ty t0 none 0 0 ht).1 (Nat.le_refl _)]
        rfl
      | false =>
        rw [hb] at h
        simp only at h
        have hn0 := of_beq_f hb
        split at h <;> try (cases h; done)
        rename_i l h1 h2 h3
        simp only [Option.some.injEq, Prod.mk.injEq] at h
        obtain ⟨rfl, rfl⟩ := h
        obtain ⟨z, hz, hzs⟩ := zeroCells_size hi h3
        have hr := (hsrc.run ty t0 none 0 0 ht).2 #[] z (by omega) rfl hz (by rw [Nat.zero_add, hi.bytes]; exact of_ble_t h1) (by rw [hi.bytes]; exact of_blt_t h2)
        rw [Nat.zero_add] at hr
        obtain ⟨φ', hv2, hto⟩ := To.grown (P := P) hs hx hi hzs new #[] news n 0 (by simpa using hnv) (by simpa using hn1) hnl
        exact ⟨φ', _, _, hr, hv2, hto⟩
    case emptyS =>
      obtain ⟨a, c, rfl⟩ := hsv.emptyS_inv
      cases hb : Nat.beq n 0 with
      | false => rw [hb] at h; cases h
      | true =>
        rw [hb] at h
        simp only [Option.some.injEq, Prod.mk.injEq] at h
        obtain ⟨rfl, rfl⟩ := h
        have hn0 := of_beq_t hb
        subst hn0
        have hnil : news.toList = [] := List.eq_nil_of_length_eq_zero (by rw [hnl', Nat.zero_mul])
        refine ⟨φ, .slice (some a) 0 c, W, ?_, .emptyS _ _, To.refl hs⟩
        rw [(hsrc.run ty t0 (some a) 0 c ht).1 (Nat.zero_le _), hnil]
        rfl
    case slice r off len cap _ _ _ =>
      obtain ⟨p, cap', hp, hc, rfl⟩ := hsv.slice_inv
      obtain ⟨o, ho, h⟩ := Option.bind_eq_some_iff.1 h
      have hcc : cap ≤ cap' := by rcases hc with h | h <;> omega
      cases o with
      | row e' cs opn ro =>
        simp only at h
        have hr : RowR E φ p e' cs opn ro W := hs.hr.obj _ _ _ ho hp
        obtain ⟨s', hs', h⟩ := Option.bind_eq_some_iff.1 h
        cases hss : Nat.beq s' x.size with
        | false => rw [hss] at h; cases h
        | true =>
        rw [hss] at h
        have hesz : p.esz = i.size := by
          have h1 := hr.esz
          rw [hs'] at h1
          simp only [Option.some.injEq] at h1
          rw [← h1, of_beq_t hss, hi.size]
        simp only at h
        cases hroom : Nat.ble (Nat.add len n) cap with
        | true =>
          rw [hroom] at h
          simp only at h
          have hroom' : len + n ≤ cap := of_ble_t hroom
          have hrun := (hsrc.run ty t0 (some (adr p off)) len cap' ht).1 (by omega)
          cases hb : Nat.beq n 0 with
          | true =>
            rw [hb] at h
            simp only [Option.some.injEq, Prod.mk.injEq] at h
            obtain ⟨rfl, rfl⟩ := h
            have hn0 := of_beq_t hb
            subst hn0
            have hnil : news.toList = [] := List.eq_nil_of_length_eq_zero (by rw [hnl', Nat.zero_mul])
            refine ⟨φ, .slice (some (adr p off)) len cap', W, ?_, .slice _ _ hp hc, To.refl hs⟩
            rw [hrun, hnil]
            rfl
          | false =>
            rw [hb] at h
            simp only at h
            cases ro with
            | true => cases h
            | false =>
              simp only at h
              cases hfit : Nat.ble (Nat.add (Nat.add off (Nat.mul len x.size)) new.size) cs.size with
              | false => rw [hfit] at h; cases h
              | true =>
                rw [hfit] at h
                simp only [Option.some.injEq, Prod.mk.injEq] at h
                obtain ⟨rfl, rfl⟩ := h
                have hsp := To.splice (P := P) hs ho hp (off + len * x.size) new news.toList hnv hn1 (of_ble_t hfit) (cs.splice (off + len * x.size) new) (Cells.toList_splice _ _ _ (of_ble_t hfit))
                refine ⟨φ, .slice (some (adr p off)) (len + n) cap', _, ?_, .slice _ _ hp hc, hsp.2⟩
                rw [hrun]
                simp only
                rw [adr_add, hi.size, hsp.1]
                rfl
        | false =>
          rw [hroom] at h
          simp only at h
          have hroom' : cap < len + n := of_ble_f hroom
          split at h <;> try (cases h; done)
          rename_i l h1 h2 h3 h4
          have h1 : off + len * x.size ≤ cs.size := of_ble_t h1
          obtain ⟨z, hz, hzs⟩ := zeroCells_size hi h4
          obtain ⟨l', k1, k2, k3, k4, k5⟩ := hr.cells off (len * x.size) h1
          have hcsl : ((cs.extract off (len * x.size)).append new).toList = (cs.extract off (len * x.size)).toList ++ new.toList := Cells.toList_append _ _
          have hlen2 : ((cs.extract off (len * x.size)).append new).toList.length = (len + n) * i.size := by
            rw [hcsl, List.length_append, hnl, k3.length, k1, hi.size, Nat.add_mul]
          have hvv : VRs φ ((cs.extract off (len * x.size)).append new).toList (l' ++ news.toList) := by rw [hcsl]; exact k3.append hnv
          have hone : ∀ u ∈ l' ++ news.toList, u.oneCell' = true := fun u hu => (List.mem_append.1 hu).elim (k4 u) (hn1 u)
          have hgrow : ∀ (hno : ¬ len + n ≤ cap'), (Builtin.append_ #[t0, t1] ty #[.slice (some (adr p off)) len cap', v']).run P W =
              .ok (.slice (some ⟨W.heap.size, 0, none⟩) (len + n) (grownCap W (len + n) cap' e)) (W.drew.alloc (.cells (l'.toArray ++ news ++ Builtin.zeroCells z.cells (grownCap W (len + n) cap' e - (len + n))) e)) := fun hno =>
            (hsrc.run ty t0 (some (adr p off)) len cap' ht).2 l'.toArray z hno (firstCells_slice (W := W.drew) (by rw [k1, hi.size]) (fun j w hj => k2 j w hj)) hz (by rw [hi.bytes]; exact of_ble_t h2) (by rw [hi.bytes]; exact of_blt_t h3)
          cases opn with
          | false =>
            simp only [Option.some.injEq, Prod.mk.injEq] at h
            obtain ⟨rfl, rfl⟩ := h
            have hcap : cap' = cap := by
              rcases hc with h | ⟨h, _⟩
              · exact h
              · rw [hr.opq] at h; cases h
            obtain ⟨φ', hv2, hto⟩ := To.grown (P := P) hs hx hi hzs ((cs.extract off (len * x.size)).append new) l'.toArray news (len + n) cap' (by simpa using hvv) (by simpa using hone) hlen2
            exact ⟨φ', _, _, hgrow (by omega), hv2, hto⟩
          | true =>
            simp only at h
            cases hre : or ro (or (not (Nat.beq e' e)) (not (Nat.beq (Nat.mod off x.size) 0))) with
            | true => rw [hre] at h; cases h
            | false =>
              rw [hre] at h
              simp only [Option.some.injEq, Prod.mk.injEq] at h
              obtain ⟨rfl, rfl⟩ := h
              simp only [Bool.or_eq_false_iff, Bool.not_eq_false'] at hre
              obtain ⟨hro', hee, hmo⟩ := hre
              have hmo := of_beq_t hmo
              subst hro'
              have hee := (of_beq_t hee).symm
              subst hee
              by_cases hin : len + n ≤ cap'
              · have hrun := (hsrc.run ty t0 (some (adr p off)) len cap' ht).1 hin
                obtain ⟨c1, c2, c3, c4⟩ : p.opn = true ∧ off + cap * p.esz = p.alen ∧ cap ≤ cap' ∧ off + cap' * p.esz ≤ p.lim := by
                  rcases hc with h | h
                  · omega
                  · exact h
                have hfit : off + (len * i.size + n * i.size) ≤ p.lim := by
                  have := Nat.mul_le_mul_right i.size hin
                  rw [Nat.add_mul] at this
                  rw [hesz] at c4
                  omega
                have hsome : ∀ j, j < news.toList.length → (W.cell? ⟨p.blk, p.base + (off + len * i.size) + j, none⟩).isSome = true := fun j hj => by
                  have := hr.some_ (off + len * i.size + j) (by omega)
                  rwa [show p.base + (off + len * i.size) + j = p.base + (off + len * i.size + j) by omega]
                have hfree : ∀ j, j < news.toList.length → W.frozen? ⟨p.blk, p.base + (off + len * i.size) + j, none⟩ = false := fun j hj => by
                  have := hr.frozen rfl (i := off + len * i.size + j) (by omega)
                  rwa [show p.base + (off + len * i.size) + j = p.base + (off + len * i.size + j) by omega]
                have hst := run_storeCells_cells (P := P) p.blk (p.base + (off + len * i.size)) news.toList 0 W (by simpa using hsome) (by simpa using hfree) hn1
                have hsk := setCells_kept p.blk news.toList (p.base + (off + len * i.size)) W
                have hlim : off ≤ p.lim := by omega
                have hag := To.again (W' := W.setCells p.blk (p.base + (off + len * i.size)) news.toList) hs ho rfl hp hr.roq (.row e ((cs.extract off (len * x.size)).append new) true false) ⟨p.blk, p.base + off, (len + n) * i.size, p.lim - off, i.size, true, false, none⟩ rfl
                  hsk.1 hsk.2.1 hsk.2.2.1 hsk.2.2.2.1 hsk.2.2.2.2.1 (by
                    have hle := hs.dom.le_ext ⟨p.blk, p.base + off, (len + n) * i.size, p.lim - off, i.size, true, false, none⟩
                    refine ⟨(ti_size hx).trans (by rw [hi.size]), hlen2.symm, ?_, rfl, rfl, fun h => (by cases h), ?_, ?_, ?_⟩
                    · show (len + n) * i.size ≤ p.lim - off
                      rw [Nat.add_mul]; omega
                    · intro j w hj
                      rw [hcsl] at hj
                      have hexl : (cs.extract off (len * x.size)).toList.length = len * i.size := by rw [k3.length, k1, hi.size]
                      have had : adr ⟨p.blk, p.base + off, (len + n) * i.size, p.lim - off, i.size, true, false, none⟩ j = adr p (off + j) := by simp [adr, Nat.add_assoc]
                      rw [had]
                      by_cases hjl : j < len * i.size
                      · rw [List.getElem?_append_left (by omega)] at hj
                        obtain ⟨w', g1, g2⟩ := k3.get hj
                        refine ⟨w', ?_, g2.mono hle, k4 _ (List.mem_of_getElem? g1)⟩
                        rw [World.cell?_setCells_out p.blk news.toList _ W (adr p (off + j)) (fun _ _ => by
                          show p.base + (off + j) < p.base + (off + len * i.size) ∨ p.base + (off + len * i.size) + news.toList.length ≤ p.base + (off + j)
                          omega)]
                        have := k2 j w' g1
                        rwa [adr_add] at this
                      · rw [List.getElem?_append_right (by omega), hexl] at hj
                        obtain ⟨w', g1, g2⟩ := hnv.get hj
                        have hjn : j - len * i.size < news.toList.length := (List.getElem?_eq_some_iff.1 g1).1
                        refine ⟨w', ?_, g2.mono hle, hn1 _ (List.mem_of_getElem? g1)⟩
                        have hg := World.cell?_setCells_in p.blk news.toList (p.base + (off + len * i.size)) W hsome (j - len * i.size) hjn
                        rw [show p.base + (off + len * i.size) + (j - len * i.size) = p.base + (off + j) by omega] at hg
                        refine Eq.trans hg ?_
                        rw [List.getElem?_eq_getElem hjn] at g1
                        exact g1
                    · intro j hj
                      have had : adr ⟨p.blk, p.base + off, (len + n) * i.size, p.lim - off, i.size, true, false, none⟩ j = adr p (off + j) := by simp [adr, Nat.add_assoc]
                      rw [had]
                      have hj' : j < p.lim - off := hj
                      by_cases hjin : len * i.size ≤ j ∧ j < len * i.size + news.toList.length
                      · have hg := World.cell?_setCells_in p.blk news.toList (p.base + (off + len * i.size)) W hsome (j - len * i.size) (by omega)
                        rw [show p.base + (off + len * i.size) + (j - len * i.size) = p.base + (off + j) by omega] at hg
                        show ((W.setCells p.blk _ news.toList).cell? ⟨p.blk, p.base + (off + j), none⟩).isSome = true
                        rw [hg]; rfl
                      · rw [World.cell?_setCells_out p.blk news.toList _ W (adr p (off + j)) (fun _ _ => by
                          show p.base + (off + j) < p.base + (off + len * i.size) ∨ p.base + (off + len * i.size) + news.toList.length ≤ p.base + (off + j)
                          omega)]
                        exact hr.some_ _ (by omega)
                    · intro _
                      obtain ⟨c, fz, f1, f3, f4, f2⟩ := hsk.2.2.2.2.2 (hr.free hr.roq)
                      refine ⟨c, fz, f1, by show c.size = p.base + off + (p.lim - off); omega, ?_, ?_⟩
                      · show (p.base + off) % i.size = 0
                        rw [hesz] at f4
                        have hmo : off % x.size = 0 := hmo
                        rw [← hi.size] at hmo
                        rw [Nat.add_mod, f4, hmo]; rfl
                      rcases f2 with f2 | f2
                      · exact .inl f2
                      · right
                        show p.base + off + (p.lim - off) ≤ fz.1
                        omega)
                have hp2 : ext φ H.next ⟨p.blk, p.base + off, (len + n) * i.size, p.lim - off, i.size, true, false, none⟩ H.next = some _ := ext_same _ _ _
                refine ⟨_, .slice (some (adr p off)) (len + n) cap', _, ?_, ?_, hag⟩
                · rw [hrun]
                  simp only
                  rw [adr_add]
                  have hst' : (storeCells (adr p (off + len * i.size)) news.toList).run P W = .ok () (W.setCells p.blk (p.base + (off + len * i.size)) news.toList) := by simpa [adr] using hst
                  rw [hst']
                  rfl
                · have := VR.slice (φ := ext φ H.next _) 0 (len + n) (cap := len + n) (cap' := cap') hp2 (.inr ⟨rfl, by simp, hin, by
                    show 0 + cap' * i.size ≤ p.lim - off
                    rw [hesz] at c4; omega⟩)
                  have had : adr ⟨p.blk, p.base + off, (len + n) * i.size, p.lim - off, i.size, true, false, none⟩ 0 = adr p off := by simp [adr]
                  rw [had] at this
                  exact this
              · obtain ⟨φ', hv2, hto⟩ := To.grown (P := P) (To.kill hs r).st hx hi hzs ((cs.extract off (len * x.size)).append new) l'.toArray news (len + n) cap' (by simpa using hvv) (by simpa using hone) hlen2
                exact ⟨φ', _, _, hgrow hin, hv2, (To.kill hs r).trans hto⟩
      | _ => cases h

end
end
end Go.Proofs.YtcjidlgmbjebjaaDoor.Ev

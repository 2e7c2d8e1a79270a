/- A part of the proof of ValueReads. -/
import Derived.Test.YtcjidlgmbjebjaaGreatDoorVri
import Derived.Test.YtcjidlgmbjebjaaGreatDoorVrj
import Derived.Test.YtcjidlgmbjebjaaGreatDoorVrn
import Derived.Laws.BitsLemmas
import Derived.Test.YtcjidlgmbjebjaaGreatDoorVre
import Derived.Laws.PanicsMore
import Derived.Test.YtcjidlgmbjebjaaGreatDoorVrc
import Derived.WalkSpells
import Derived.Maps.OwnSet
import Derived.Shelf.Strings.Builder1
import Derived.Shelf.Strings.Builder2
import Derived.Shelf.Strings.OnBuilder
import Derived.Test.YtcjidlgmbjebjaaGreatDoorProg
import Derived.Test.YtcjidlgmbjebjaaGreatDoorVrh
import Derived.Deep.RegionHeld3
import Derived.Test.YtcjidlgmbjebjaaGreatDoorVrm
set_option linter.unusedVariables false
set_option linter.unusedSimpArgs false
set_option maxRecDepth 100000
namespace Go.Proofs.YtcjidlgmbjebjaaGreatDoor.PValueForms
open Go.RowKit Go.Proofs.YtcjidlgmbjebjaaGreatDoorW.PrintWords Go.Proofs.YtcjidlgmbjebjaaGreatDoorW.PrintLast Go.Proofs.YtcjidlgmbjebjaaGreatDoorW.PrintMore
attribute [local go_sem] max2_int min2_int max_two min_two max_three min_three max_four min_four
mutual
def hachureref02_Put.j0 : Nat → List Int → Int → Int → Bool → Option (List Int)
  | 0, _, _, _, _ => none
  | k + 1, x0, x1, x2, x3 => (some (([] : List Int) : List Int)).bind fun y154 => (if y154.length + x0.length < 140737488355328 then (hachureref02_Put.l0 k x1 x2 x3 (y154 ++ x0) 0) else (none))
def hachureref02_Put.l0 : Nat → Int → Int → Bool → List Int → Int → Option (List Int)
  | 0, _, _, _, _, _ => none
  | k + 1, x1, x2, x3, x9, x10 => if x10 < x2 then (if x3 = true then (if 0 ≤ (IntKind.u64.wrap (wrap64 (8 * x10))) then (if x9.length < 140737488355328 then (hachureref02_Put.l0 k x1 x2 x3 (x9 ++ [(shr .u64 x1 (IntKind.u64.wrap (wrap64 (8 * x10)))) % 256]) (wrap64 (x10 + 1))) else (none)) else (none)) else (if 0 ≤ (IntKind.u64.wrap (wrap64 (8 * (wrap64 ((wrap64 (x2 - 1)) - x10))))) then (if x9.length < 140737488355328 then (hachureref02_Put.l0 k x1 x2 x3 (x9 ++ [(shr .u64 x1 (IntKind.u64.wrap (wrap64 (8 * (wrap64 ((wrap64 (x2 - 1)) - x10)))))) % 256]) (wrap64 (x10 + 1))) else (none)) else (none))) else (some x9)
end
theorem hachureref02_Put.mono_l : ∀ k, (∀ y0 y1 y2 y3, LeO (hachureref02_Put.j0 k y0 y1 y2 y3) (hachureref02_Put.j0 (k + 1) y0 y1 y2 y3)) ∧ (∀ y0 y1 y2 y3 y4, LeO (hachureref02_Put.l0 k y0 y1 y2 y3 y4) (hachureref02_Put.l0 (k + 1) y0 y1 y2 y3 y4))
  | 0 => ⟨fun _ _ _ _ r h => by simp [hachureref02_Put.j0] at h, fun _ _ _ _ _ r h => by simp [hachureref02_Put.l0] at h⟩
  | k + 1 => by
    obtain ⟨ih0, ih1⟩ := hachureref02_Put.mono_l k
    refine ⟨?_, ?_⟩
    · intro y0 y1 y2 y3
      unfold hachureref02_Put.j0
      repeat' first
      | (with_reducible exact ih0 _ _ _ _)
      | (with_reducible exact ih1 _ _ _ _ _)
      | (with_reducible exact LeO.refl _)
      | (with_reducible exact LeO.none _)
      | (with_reducible refine LeO.ite ?_ ?_)
      | (with_reducible refine LeO.bind ?_ (fun _ => ?_))
      | exact ih0 _ _ _ _
      | exact ih1 _ _ _ _ _
      | exact LeO.none _
      | refine LeO.ite ?_ ?_
      | refine LeO.bind ?_ (fun _ => ?_)
    · intro y0 y1 y2 y3 y4
      unfold hachureref02_Put.l0
      repeat' first
      | (with_reducible exact ih0 _ _ _ _)
      | (with_reducible exact ih1 _ _ _ _ _)
      | (with_reducible exact LeO.refl _)
      | (with_reducible exact LeO.none _)
      | (with_reducible refine LeO.ite ?_ ?_)
      | (with_reducible refine LeO.bind ?_ (fun _ => ?_))
      | exact ih0 _ _ _ _
      | exact ih1 _ _ _ _ _
      | exact LeO.none _
      | refine LeO.ite ?_ ?_
      | refine LeO.bind ?_ (fun _ => ?_)
end Go.Proofs.YtcjidlgmbjebjaaGreatDoor.PValueForms

namespace Go.Proofs.YtcjidlgmbjebjaaGreatDoor
open Go Go.RowKit Go.Proofs.YtcjidlgmbjebjaaGreatDoorW.PrintWords Go.Proofs.YtcjidlgmbjebjaaGreatDoorW.PrintMore
def u8s (l : List Int) : List Value := l.map (Value.int .u8)
def Row (w : World) (base : Nat) (v : Value) (l : List Int) : Prop := w.ownsRow base 5 1 v l.length (u8s l)
theorem row_of_R {w : World} {base : Nat} {ok : Nat → Prop} {v : Value} {l : List Int} (h : Kd.R (Kd.int .u8) 5 w base ok v l) : Row w base v l := by
  obtain ⟨_, inner, ho, hl, hr⟩ := h
  have : inner = u8s l := by
    have hl1 : inner.length = l.length * 1 := hl
    apply List.ext_getElem?
    intro j
    unfold u8s
    rw [List.getElem?_map]
    by_cases hj : j < l.length
    · have h1 := hr j l[j] (List.getElem?_eq_getElem hj)
      have h2 : (inner.drop (j * 1)).take 1 = [.int .u8 l[j]] := h1
      rw [Nat.mul_one, List.drop_eq_getElem_cons (by omega), List.take_succ_cons, List.take_zero] at h2
      injection h2 with h3
      rw [List.getElem?_eq_getElem (by omega), h3, List.getElem?_eq_getElem hj]
      rfl
    · rw [List.getElem?_eq_none (by omega), List.getElem?_eq_none (by omega)]; rfl
  unfold Row
  rw [← this]
  exact ho
theorem row_C {w : World} {base n c : Nat} {A : Option Addr} {l : List Int} (h : Row w base (.slice A n c) l) (hm : l.length ≤ 9223372036854775807) : n = l.length ∧ l.length ≤ c ∧ Kd.C (Kd.int .u8) w A l.length l := by
  unfold Row at h
  have h0 := h
  rcases h.2 with ⟨hv, h1⟩ | ⟨g, cap, cur, hv, hg, hk, hcap, _⟩
  · injection hv with e1 e2 e3
    refine ⟨by omega, by omega, rfl, hm, fun h => by omega⟩
  · injection hv with e1 e2 e3
    subst e1 e2 e3
    refine ⟨rfl, hcap, rfl, hm, fun hn => ⟨_, rfl, fun j p hp => ⟨[.int .u8 p], rfl, rfl, fun i u hu => ?_⟩⟩⟩
    have hi : i = 0 := by
      have := (List.getElem?_eq_some_iff.1 hu).1
      simp at this
      exact this
    subst hi
    simp at hu
    subst hu
    have := h0.cells (g := g) rfl j (.int .u8 p) (by unfold u8s; rw [List.getElem?_map, hp]; rfl)
    show w.cell? (Addr.add ⟨g, 0, none⟩ (j * 1 + 0)) = _
    rw [Nat.mul_one, Nat.add_zero]
    exact this
def RetRow (l : List Int) (w : World) (e : Ending) (w' : World) : Prop := ∃ v, e = .returned v ∧ Row w' w.heap.size v l ∧ Below w.heap.size w w'
def varB (n : Int) : List Int := if n < 128 then [n] else if n < 16384 then [n / 128 % 128 + 128, n % 128] else [n / 16384 % 128 + 128, n / 128 % 128 + 128, n % 128]
theorem or128 (x : Int) (h0 : 0 ≤ x) (h1 : x < 256) : bits .or .u8 x 128 = x % 128 + 128 := by
  have h : ∀ k : Fin 256, bits .or .u8 (k.val : Int) 128 = (k.val : Int) % 128 + 128 := by decide
  have := h ⟨x.toNat, by omega⟩
  rwa [show ((⟨x.toNat, by omega⟩ : Fin 256).val : Int) = x by simp; omega] at this
theorem andNot128 (x : Int) (h0 : 0 ≤ x) (h1 : x < 256) : bits .andNot .u8 x 128 = x % 128 := by
  have h : ∀ k : Fin 256, bits .andNot .u8 (k.val : Int) 128 = (k.val : Int) % 128 := by decide
  have := h ⟨x.toNat, by omega⟩
  rwa [show ((⟨x.toNat, by omega⟩ : Fin 256).val : Int) = x by simp; omega] at this
theorem shr7 (x : Int) : shr .u64 x 7 = x / 128 := by unfold shr; rfl
theorem shr14 (x : Int) : shr .u64 x 14 = x / 16384 := by unfold shr; rfl
theorem shr21 (x : Int) : shr .u64 x 21 = x / 2097152 := by unfold shr; rfl
theorem w11 : wrap64 (1 + 1) = 2 := by kernel_rfl
theorem w21 : wrap64 (2 + 1) = 3 := by kernel_rfl
theorem w10 : wrap64 (1 - 1) = 0 := by kernel_rfl
end Go.Proofs.YtcjidlgmbjebjaaGreatDoor

namespace Go.Proofs.YtcjidlgmbjebjaaGreatDoor
open Go Go.RowKit Go.Proofs.YtcjidlgmbjebjaaGreatDoorW.PrintWords Go.Proofs.YtcjidlgmbjebjaaGreatDoorW.PrintMore
def putB (n : Int) : List Int := [n / 72057594037927936 % 256, n / 281474976710656 % 256, n / 1099511627776 % 256, n / 4294967296 % 256, n / 16777216 % 256, n / 65536 % 256, n / 256 % 256, n % 256]
theorem size_1 (n : Int) (h0 : 0 ≤ n) (h1 : n < 128) (k : Nat) : PValueForms.octet_Size.f (k + 3) n = some 1 := by
  unfold PValueForms.octet_Size.f
  rw [PValueForms.octet_Size.l0, if_pos (by decide), show wrap64 (7 * 1) = 7 by kernel_rfl, if_pos (by decide), shr7, if_pos (by omega)]
theorem size_2 (n : Int) (h0 : 128 ≤ n) (h1 : n < 16384) (k : Nat) : PValueForms.octet_Size.f (k + 3) n = some 2 := by
  unfold PValueForms.octet_Size.f
  rw [PValueForms.octet_Size.l0, if_pos (by decide), show wrap64 (7 * 1) = 7 by kernel_rfl, if_pos (by decide), shr7, if_neg (by omega), w11]
  rw [PValueForms.octet_Size.l0, if_pos (by decide), show wrap64 (7 * 2) = 14 by kernel_rfl, if_pos (by decide), shr14, if_pos (by omega)]
theorem size_3 (n : Int) (h0 : 16384 ≤ n) (h1 : n < 2097152) (k : Nat) : PValueForms.octet_Size.f (k + 3) n = some 3 := by
  unfold PValueForms.octet_Size.f
  rw [PValueForms.octet_Size.l0, if_pos (by decide), show wrap64 (7 * 1) = 7 by kernel_rfl, if_pos (by decide), shr7, if_neg (by omega), w11]
  rw [PValueForms.octet_Size.l0, if_pos (by decide), show wrap64 (7 * 2) = 14 by kernel_rfl, if_pos (by decide), shr14, if_neg (by omega), w21]
  rw [PValueForms.octet_Size.l0, if_pos (by decide), show wrap64 (7 * 3) = 21 by kernel_rfl, if_pos (by decide), shr21, if_pos (by omega)]
end Go.Proofs.YtcjidlgmbjebjaaGreatDoor

namespace Go.Proofs.YtcjidlgmbjebjaaGreatDoor.Utf
open Go
end Go.Proofs.YtcjidlgmbjebjaaGreatDoor.Utf

namespace Go.Proofs.YtcjidlgmbjebjaaGreatDoor
open Go Go.RowKit
end Go.Proofs.YtcjidlgmbjebjaaGreatDoor

namespace Go.Proofs.YtcjidlgmbjebjaaGreatDoor
open Go Go.RowKit
end Go.Proofs.YtcjidlgmbjebjaaGreatDoor

namespace Go.Proofs.YtcjidlgmbjebjaaGreatDoor
open Go Go.RowKit
end Go.Proofs.YtcjidlgmbjebjaaGreatDoor

namespace Go.Proofs.YtcjidlgmbjebjaaGreatDoor
open Go Go.RowKit
end Go.Proofs.YtcjidlgmbjebjaaGreatDoor

namespace Go.Proofs.YtcjidlgmbjebjaaGreatDoor
open Go Go.RowKit
end Go.Proofs.YtcjidlgmbjebjaaGreatDoor

namespace Go.Proofs.YtcjidlgmbjebjaaGreatDoor
open Go Go.RowKit
def tyName (k : Int) : ByteArray := if k = 1 then ⟨#[105, 110, 116]⟩ else if k = 2 then ⟨#[116, 101, 120, 116]⟩ else if k = 3 then ⟨#[102, 108, 97, 103]⟩ else ⟨#[]⟩
def colText (nm : ByteArray) (k : Int) (m : Bool) : ByteArray := bif m then nm ++ ⟨#[58]⟩ ++ tyName k ++ ⟨#[33]⟩ else nm ++ ⟨#[58]⟩ ++ tyName k
theorem append_nil (a : ByteArray) : a ++ ⟨#[]⟩ = a := by
  apply ByteArray.ext; simp
end Go.Proofs.YtcjidlgmbjebjaaGreatDoor

namespace Go.Proofs.YtcjidlgmbjebjaaGreatDoor
open Go Go.RowKit
abbrev Col := ByteArray × Int × Bool
end Go.Proofs.YtcjidlgmbjebjaaGreatDoor

namespace Go.Proofs.YtcjidlgmbjebjaaGreatDoor
open Go Go.RowKit
theorem below_drew {B : Nat} {a w : World} (h : Below B a w) : Below B a w.drew := ⟨h.os, h.tape, h.output, h.size, h.block⟩
end Go.Proofs.YtcjidlgmbjebjaaGreatDoor

namespace Go.Proofs.YtcjidlgmbjebjaaGreatDoor
open Go Go.RowKit
end Go.Proofs.YtcjidlgmbjebjaaGreatDoor

namespace Go.Proofs.YtcjidlgmbjebjaaGreatDoor
open Go Go.RowKit
def flat (cs : List Col) : List Value := cs.flatMap fun c => [.string c.1, .int .i64 c.2.1, .bool c.2.2]
end Go.Proofs.YtcjidlgmbjebjaaGreatDoor

namespace Go.Proofs.YtcjidlgmbjebjaaGreatDoor
open Go Go.RowKit
theorem hp_new (w : World) (o : Obj) (n : Nat) (h : n = w.heap.size) : (w.alloc o).heap[n]? = some o := by subst h; exact (MapKept.heap_alloc w o).1
theorem hp_old (w : World) (o : Obj) (i : Nat) (x : Option Obj) (h : i < w.heap.size) (hx : w.heap[i]? = x) : (w.alloc o).heap[i]? = x := by rw [Lib.alloc_old w o i h]; exact hx
theorem own_set {w : World} {base e s n : Nat} {v : Value} {xs : List Value} (h : w.ownsRow base e s v n xs) (b i : Nat) (u : Value) (hb : b < base) : (w.setCell ⟨b, i, none⟩ u).ownsRow base e s v n xs :=
  h.kept (row := some b) ⟨rfl, rfl, rfl, by simp [World.setCell], fun k _ hk => heap_setCell_other _ _ _ _ (fun e => hk (by simp [e]))⟩ (by
    cases hv : v.ownBlock with
    | none => exact .inl rfl
    | some k =>
      refine .inr fun e => ?_
      have := h.lt k hv
      injection e with e
      omega)
end Go.Proofs.YtcjidlgmbjebjaaGreatDoor

namespace Go.Proofs.YtcjidlgmbjebjaaGreatDoor
open Go Go.RowKit Go.Proofs.YtcjidlgmbjebjaaGreatDoorW.PrintWords
theorem byteinfo : Option.map (fun i => (i.zero, i.size, i.bytes)) (Tryz.prog.info? 5) = some (some (.int .u8 0), 1, 1) := by kernel_rfl
theorem drawn_below {w w' : World} (h : Drawn0 w w') : Below w.heap.size w w' := by
  obtain ⟨n, rfl⟩ := h.out
  exact ⟨rfl, rfl, rfl, Nat.le_refl _, fun _ _ => rfl⟩
theorem clone_nil (w : World) : Calls Tryz.prog 48 #[.slice none 0 0] w (Same1 (.slice none 0 0) w) := by
  have hx := fun w => run_eql_nil_slice (P := Tryz.prog) w 25 5 none 0 0 0 0 Tryz.underlying25
  go_enter Tryz.func48, Tryz.ntmps48
  go_wp2
  go_ret
  exact ⟨rfl, rfl⟩
def VaR (n : Int) (k : Nat) (W : World) (a i : Value) (w' : World) : Prop :=
  ∃ (j m cap : Nat) (p : Option Addr), j ≤ k ∧ i = .int .i64 j ∧ a = .slice p m cap ∧ Row w' W.heap.size (.slice p m cap) ((varB n).take (k - j)) ∧ Below W.heap.size W w'
theorem row_shape {w : World} {base : Nat} {v : Value} {l : List Int} (h : Row w base v l) : ∃ p c, v = .slice p l.length c := by
  rcases h.2 with ⟨hv, h1⟩ | ⟨g, cap, cur, hv, _⟩
  · exact ⟨none, 0, by rw [h1]; exact hv⟩
  · exact ⟨_, _, hv⟩
theorem row_snoc {w : World} {base : Nat} {v : Value} {l : List Int} {x : Int} (h : w.ownsRow base 5 1 v (l.length + 1) (u8s l ++ [.int .u8 x])) : Row w base v (l ++ [x]) := by
  unfold Row
  have e : u8s (l ++ [x]) = u8s l ++ [.int .u8 x] := by simp [u8s]
  rw [e, List.length_append]
  exact h
set_option maxHeartbeats 4000000 in
theorem var_1 (n : Int) (h0 : 0 ≤ n) (h1 : n < 128) (w : World) : Calls Tryz.prog 87 #[.slice none 0 0, .int .u64 n] w (RetRow (varB n) w) := by
  obtain ⟨i0, hi, hz0, hz1, hz2⟩ := info_parts byteinfo
  have HS := Lib.hid (fun w' => (PValueForms.octet_Size.calls 3 n 1 w' (size_1 n (by omega) (by omega) 0)).mono fun e w'' h => (⟨h.1, drawn_below h.2⟩ : RetS (.int .i64 1) w' e w''))
  have HV := Lib.hid (show varB n = [n] by unfold varB; rw [if_pos h1])
  have HL := Lib.hid (show bits .andNot .u8 (n % 256) 128 = n % 128 by rw [andNot128 _ (by omega) (by omega)]; omega)
  have HL1 := Lib.hid (show bits .andNot .u8 n 128 = n by rw [andNot128 _ (by omega) (by omega)]; omega)
  go_enter Tryz.func87, Tryz.ntmps87
  go_wp2_with fail
  refine (clone_nil _).mono ?_
  rintro e w ⟨rfl, rfl⟩
  dsimp only
  go_wp2_with fail
  refine (HS.out _).mono ?_
  rintro e w1 ⟨rfl, hb⟩
  dsimp only
  go_wp2_with fail
  go_loopw [5, 8] (fun a i w' => VaR n 0 w a i w') (fun _ i _ => (intOf i).toNat)
  case atStart => exact ⟨0, 0, 0, none, by omega, rfl, rfl, World.ownsRow_nil _ _ _ _, hb⟩
  case round =>
    obtain ⟨j, m, cap, p, hj, rfl, rfl, hrow, hB⟩ := hrel
    clear hb
    obtain rfl : j = 0 := by omega
    rw [HV.out] at hrow
    have hrow : Row wr w.heap.size (.slice p m cap) [] := hrow
    obtain ⟨p, c, hp⟩ := row_shape hrow
    injection hp with ep em ec
    subst ep em ec
    have HO := Lib.hid hrow; clear hrow
    go_wp2_with (at_builtin; refine wpList_append_own _ rfl _ _ 25 rfl w.heap.size 5 i0 (.int .u8 0) 1 1 Tryz.underlying25 hi hz0 hz1 hz2 rfl (by decide) _ _ _ rfl (HO.out.alloc _) ⟨wr.heap.size, 0, none⟩ 1 1 [.int .u8 (bits .andNot .u8 n 128)] rfl rfl ?c1 ?c2 ?c3 ?c4 ?c5 ?_)
    case c1 =>
      intro q u hq
      match q, hq with
      | 0, hq => simp at hq; subst hq; simp [Addr.add]
    case c2 => intro u hu; simp at hu; subst hu; rfl
    case c3 => simp; unfold maxLen; omega
    case c4 => simp
    case c5 => have := hB.size; simp; omega
    intro v' w2 hown' hgrow _
    rw [HL1.out] at hown'
    have hrow2 := row_snoc hown'
    obtain ⟨p2, c2, rfl⟩ := row_shape hrow2
    have HB2 := Lib.hid (show Below w.heap.size w w2 from (hB.alloc hB.size _).grown hgrow (by have := hB.size; simp; omega) (fun x hx => (HO.out.lt x hx).1))
    have HR2 := Lib.hid hrow2
    clear hown' hgrow hrow2
    go_wp2_with fail
    go_ret
    exact ⟨_, rfl, by rw [HV.out]; exact HR2.out, HB2.out⟩
set_option maxHeartbeats 4000000 in
theorem var_2 (n : Int) (h0 : 128 ≤ n) (h1 : n < 16384) (w : World) : Calls Tryz.prog 87 #[.slice none 0 0, .int .u64 n] w (RetRow (varB n) w) := by
  obtain ⟨i0, hi, hz0, hz1, hz2⟩ := info_parts byteinfo
  have HS := Lib.hid (fun w' => (PValueForms.octet_Size.calls 3 n 2 w' (size_2 n (by omega) (by omega) 0)).mono fun e w'' h => (⟨h.1, drawn_below h.2⟩ : RetS (.int .i64 2) w' e w''))
  have HV := Lib.hid (show varB n = [n / 128 % 128 + 128, n % 128] by unfold varB; rw [if_neg (by omega), if_pos h1])
  have HL := Lib.hid (show bits .andNot .u8 (n % 256) 128 = n % 128 by rw [andNot128 _ (by omega) (by omega)]; omega)
  have HO1 := Lib.hid (show bits .or .u8 (n / 128) 128 = n / 128 % 128 + 128 by rw [or128 _ (by omega) (by omega)])
  go_enter Tryz.func87, Tryz.ntmps87
  go_wp2_with fail
  refine (clone_nil _).mono ?_
  rintro e w ⟨rfl, rfl⟩
  dsimp only
  go_wp2_with fail
  refine (HS.out _).mono ?_
  rintro e w1 ⟨rfl, hb⟩
  dsimp only
  go_wp2_with fail
  go_loopw [5, 8] (fun a i w' => VaR n 1 w a i w') (fun _ i _ => (intOf i).toNat)
  case atStart => exact ⟨1, 0, 0, none, by omega, rfl, rfl, World.ownsRow_nil _ _ _ _, hb⟩
  case round =>
    obtain ⟨j, m, cap, p, hj, rfl, rfl, hrow, hB⟩ := hrel
    clear hb
    have hj2 : j = 1 ∨ j = 0 := by omega
    clear hj
    rcases hj2 with rfl | rfl
    · rw [HV.out] at hrow
      have hrow : Row wr w.heap.size (.slice p m cap) [] := hrow
      obtain ⟨p, c, hp⟩ := row_shape hrow
      injection hp with ep em ec
      subst ep em ec
      have HO := Lib.hid hrow; clear hrow
      go_wp2_with (at_builtin; refine wpList_append_own _ rfl _ _ 25 rfl w.heap.size 5 i0 (.int .u8 0) 1 1 Tryz.underlying25 hi hz0 hz1 hz2 rfl (by decide) _ _ _ rfl (HO.out.alloc _) ⟨wr.heap.size, 0, none⟩ 1 1 [.int .u8 (bits .or .u8 (n / 128) 128)] rfl rfl ?c1 ?c2 ?c3 ?c4 ?c5 ?_)
      case c1 =>
        intro q u hq
        match q, hq with
        | 0, hq => simp at hq; subst hq; simp [Addr.add]
      case c2 => intro u hu; simp at hu; subst hu; rfl
      case c3 => simp; unfold maxLen; omega
      case c4 => simp
      case c5 => have := hB.size; simp; omega
      intro v' w2 hown' hgrow _
      rw [HO1.out] at hown'
      have hrow2 := row_snoc hown'
      obtain ⟨p2, c2, rfl⟩ := row_shape hrow2
      have HREL := Lib.hid (show VaR n 1 w (.slice p2 1 c2) (.int .i64 (0 : Nat)) w2 from
        ⟨0, _, _, _, by omega, rfl, rfl, by rw [HV.out]; exact hrow2, (hB.alloc hB.size _).grown hgrow (by have := hB.size; simp; omega) (fun x hx => (HO.out.lt x hx).1)⟩)
      clear hown' hgrow hrow2
      go_wp2_with fail
      exact ⟨HREL.out, by simp [intOf]⟩
    · rw [HV.out] at hrow
      have hrow : Row wr w.heap.size (.slice p m cap) [n / 128 % 128 + 128] := hrow
      obtain ⟨p, c, hp⟩ := row_shape hrow
      injection hp with ep em ec
      subst ep em ec
      have HO := Lib.hid hrow; clear hrow
      go_wp2_with (at_builtin; refine wpList_append_own _ rfl _ _ 25 rfl w.heap.size 5 i0 (.int .u8 0) 1 1 Tryz.underlying25 hi hz0 hz1 hz2 rfl (by decide) _ _ _ rfl (HO.out.alloc _) ⟨wr.heap.size, 0, none⟩ 1 1 [.int .u8 (bits .andNot .u8 (n % 256) 128)] rfl rfl ?d1 ?d2 ?d3 ?d4 ?d5 ?_)
      case d1 =>
        intro q u hq
        match q, hq with
        | 0, hq => simp at hq; subst hq; simp [Addr.add]
      case d2 => intro u hu; simp at hu; subst hu; rfl
      case d3 => simp; unfold maxLen; omega
      case d4 => simp
      case d5 => have := hB.size; simp; omega
      intro v' w2 hown' hgrow _
      rw [HL.out] at hown'
      have hrow2 := row_snoc hown'
      obtain ⟨p2, c2, rfl⟩ := row_shape hrow2
      have HB2 := Lib.hid (show Below w.heap.size w w2 from (hB.alloc hB.size _).grown hgrow (by have := hB.size; simp; omega) (fun x hx => (HO.out.lt x hx).1))
      have HR2 := Lib.hid hrow2
      clear hown' hgrow hrow2
      go_wp2_with fail
      go_ret
      exact ⟨_, rfl, by rw [HV.out]; exact HR2.out, HB2.out⟩
set_option maxHeartbeats 4000000 in
theorem var_3 (n : Int) (h0 : 16384 ≤ n) (h1 : n < 2097152) (w : World) : Calls Tryz.prog 87 #[.slice none 0 0, .int .u64 n] w (RetRow (varB n) w) := by
  obtain ⟨i0, hi, hz0, hz1, hz2⟩ := info_parts byteinfo
  have HS := Lib.hid (fun w' => (PValueForms.octet_Size.calls 3 n 3 w' (size_3 n (by omega) (by omega) 0)).mono fun e w'' h => (⟨h.1, drawn_below h.2⟩ : RetS (.int .i64 3) w' e w''))
  have HV := Lib.hid (show varB n = [n / 16384 % 128 + 128, n / 128 % 128 + 128, n % 128] by unfold varB; rw [if_neg (by omega), if_neg (by omega)])
  have HL := Lib.hid (show bits .andNot .u8 (n % 256) 128 = n % 128 by rw [andNot128 _ (by omega) (by omega)]; omega)
  have HO1 := Lib.hid (show bits .or .u8 (n / 128 % 256) 128 = n / 128 % 128 + 128 by rw [or128 _ (by omega) (by omega)]; omega)
  have HO2 := Lib.hid (show bits .or .u8 (n / 16384) 128 = n / 16384 % 128 + 128 by rw [or128 _ (by omega) (by omega)])
  go_enter Tryz.func87, Tryz.ntmps87
  go_wp2_with fail
  refine (clone_nil _).mono ?_
  rintro e w ⟨rfl, rfl⟩
  dsimp only
  go_wp2_with fail
  refine (HS.out _).mono ?_
  rintro e w1 ⟨rfl, hb⟩
  dsimp only
  go_wp2_with fail
  go_loopw [5, 8] (fun a i w' => VaR n 2 w a i w') (fun _ i _ => (intOf i).toNat)
  case atStart => exact ⟨2, 0, 0, none, by omega, rfl, rfl, World.ownsRow_nil _ _ _ _, hb⟩
  case round =>
    obtain ⟨j, m, cap, p, hj, rfl, rfl, hrow, hB⟩ := hrel
    clear hb
    have hj2 : j = 2 ∨ j = 1 ∨ j = 0 := by omega
    clear hj
    rcases hj2 with rfl | rfl | rfl
    · rw [HV.out] at hrow
      have hrow : Row wr w.heap.size (.slice p m cap) [] := hrow
      obtain ⟨p, c, hp⟩ := row_shape hrow
      injection hp with ep em ec
      subst ep em ec
      have HO := Lib.hid hrow; clear hrow
      go_wp2_with (at_builtin; refine wpList_append_own _ rfl _ _ 25 rfl w.heap.size 5 i0 (.int .u8 0) 1 1 Tryz.underlying25 hi hz0 hz1 hz2 rfl (by decide) _ _ _ rfl (HO.out.alloc _) ⟨wr.heap.size, 0, none⟩ 1 1 [.int .u8 (bits .or .u8 (n / 16384) 128)] rfl rfl ?c1 ?c2 ?c3 ?c4 ?c5 ?_)
      case c1 =>
        intro q u hq
        match q, hq with
        | 0, hq => simp at hq; subst hq; simp [Addr.add]
      case c2 => intro u hu; simp at hu; subst hu; rfl
      case c3 => simp; unfold maxLen; omega
      case c4 => simp
      case c5 => have := hB.size; simp; omega
      intro v' w2 hown' hgrow _
      rw [HO2.out] at hown'
      have hrow2 := row_snoc hown'
      obtain ⟨p2, c2, rfl⟩ := row_shape hrow2
      have HREL := Lib.hid (show VaR n 2 w (.slice p2 1 c2) (.int .i64 (1 : Nat)) w2 from
        ⟨1, _, _, _, by omega, rfl, rfl, by rw [HV.out]; exact hrow2, (hB.alloc hB.size _).grown hgrow (by have := hB.size; simp; omega) (fun x hx => (HO.out.lt x hx).1)⟩)
      clear hown' hgrow hrow2
      go_wp2_with fail
      exact ⟨HREL.out, by simp [intOf]⟩
    · rw [HV.out] at hrow
      have hrow : Row wr w.heap.size (.slice p m cap) [n / 16384 % 128 + 128] := hrow
      obtain ⟨p, c, hp⟩ := row_shape hrow
      injection hp with ep em ec
      subst ep em ec
      have HO := Lib.hid hrow; clear hrow
      go_wp2_with (at_builtin; refine wpList_append_own _ rfl _ _ 25 rfl w.heap.size 5 i0 (.int .u8 0) 1 1 Tryz.underlying25 hi hz0 hz1 hz2 rfl (by decide) _ _ _ rfl (HO.out.alloc _) ⟨wr.heap.size, 0, none⟩ 1 1 [.int .u8 (bits .or .u8 (n / 128 % 256) 128)] rfl rfl ?d1 ?d2 ?d3 ?d4 ?d5 ?_)
      case d1 =>
        intro q u hq
        match q, hq with
        | 0, hq => simp at hq; subst hq; simp [Addr.add]
      case d2 => intro u hu; simp at hu; subst hu; rfl
      case d3 => simp; unfold maxLen; omega
      case d4 => simp
      case d5 => have := hB.size; simp; omega
      intro v' w2 hown' hgrow _
      rw [HO1.out] at hown'
      have hrow2 := row_snoc hown'
      obtain ⟨p2, c2, rfl⟩ := row_shape hrow2
      have HREL := Lib.hid (show VaR n 2 w (.slice p2 2 c2) (.int .i64 (0 : Nat)) w2 from
        ⟨0, _, _, _, by omega, rfl, rfl, by rw [HV.out]; exact hrow2, (hB.alloc hB.size _).grown hgrow (by have := hB.size; simp; omega) (fun x hx => (HO.out.lt x hx).1)⟩)
      clear hown' hgrow hrow2
      go_wp2_with fail
      exact ⟨HREL.out, by simp [intOf]⟩
    · rw [HV.out] at hrow
      have hrow : Row wr w.heap.size (.slice p m cap) [n / 16384 % 128 + 128, n / 128 % 128 + 128] := hrow
      obtain ⟨p, c, hp⟩ := row_shape hrow
      injection hp with ep em ec
      subst ep em ec
      have HO := Lib.hid hrow; clear hrow
      go_wp2_with (at_builtin; refine wpList_append_own _ rfl _ _ 25 rfl w.heap.size 5 i0 (.int .u8 0) 1 1 Tryz.underlying25 hi hz0 hz1 hz2 rfl (by decide) _ _ _ rfl (HO.out.alloc _) ⟨wr.heap.size, 0, none⟩ 1 1 [.int .u8 (bits .andNot .u8 (n % 256) 128)] rfl rfl ?e1 ?e2 ?e3 ?e4 ?e5 ?_)
      case e1 =>
        intro q u hq
        match q, hq with
        | 0, hq => simp at hq; subst hq; simp [Addr.add]
      case e2 => intro u hu; simp at hu; subst hu; rfl
      case e3 => simp; unfold maxLen; omega
      case e4 => simp
      case e5 => have := hB.size; simp; omega
      intro v' w2 hown' hgrow _
      rw [HL.out] at hown'
      have hrow2 := row_snoc hown'
      obtain ⟨p2, c2, rfl⟩ := row_shape hrow2
      have HB2 := Lib.hid (show Below w.heap.size w w2 from (hB.alloc hB.size _).grown hgrow (by have := hB.size; simp; omega) (fun x hx => (HO.out.lt x hx).1))
      have HR2 := Lib.hid hrow2
      clear hown' hgrow hrow2
      go_wp2_with fail
      go_ret
      exact ⟨_, rfl, by rw [HV.out]; exact HR2.out, HB2.out⟩
theorem var_val (n : Int) (h0 : 0 ≤ n) (h1 : n < 2097152) (w : World) : Calls Tryz.prog 87 #[.slice none 0 0, .int .u64 n] w (RetRow (varB n) w) := by
  by_cases a : n < 128
  · exact var_1 n h0 a w
  · by_cases b : n < 16384
    · exact var_2 n (by omega) b w
    · exact var_3 n (by omega) h1 w
end Go.Proofs.YtcjidlgmbjebjaaGreatDoor

namespace Go.Proofs.YtcjidlgmbjebjaaGreatDoor
open Go Go.RowKit Go.Proofs.YtcjidlgmbjebjaaGreatDoorW.PrintWords
def lowB (n : Int) (j : Nat) : List Int := (List.range j : List Nat).map fun (i : Nat) => n / 2 ^ (8 * i) % 256
def PuR (n : Int) (W : World) (a i : Value) (w' : World) : Prop :=
  ∃ (j c : Nat) (p : Option Addr), j ≤ 8 ∧ i = .int .i64 j ∧ a = .slice p j c ∧ Row w' W.heap.size (.slice p j c) (lowB n j) ∧ Below W.heap.size W w'
theorem lowB_len (n : Int) (j : Nat) : (lowB n j).length = j := by simp [lowB]
theorem lowB_snoc (n : Int) (j : Nat) : lowB n (j + 1) = lowB n j ++ [n / 2 ^ (8 * j) % 256] := by simp [lowB, List.range_succ]
theorem low8 (n : Int) : lowB n 8 = [n / 1 % 256, n / 256 % 256, n / 65536 % 256, n / 16777216 % 256, n / 4294967296 % 256, n / 1099511627776 % 256, n / 281474976710656 % 256, n / 72057594037927936 % 256] := by rfl
theorem rev8 (a0 a1 a2 a3 a4 a5 a6 a7 : Int) : PValueForms.slices_Reverse_byte_byte.f 6 [a0, a1, a2, a3, a4, a5, a6, a7] = some [a7, a6, a5, a4, a3, a2, a1, a0] := by
  simp [PValueForms.slices_Reverse_byte_byte.f, PValueForms.slices_Reverse_byte_byte.l0, rd, wrap64]
theorem low_rev (n : Int) : PValueForms.slices_Reverse_byte_byte.f 6 (lowB n 8) = some (putB n) := by
  rw [low8, rev8]
  simp [putB]
theorem R_of_row {w : World} {base : Nat} {v : Value} {l : List Int} (h : Row w base v l) : Kd.R (Kd.int .u8) 5 w base (fun _ => True) v l := by
  refine ⟨fun _ _ => trivial, u8s l, h, (show (u8s l).length = l.length * 1 by simp [u8s]), fun j p hp => ?_⟩
  show ((u8s l).drop (j * 1)).take 1 = [.int .u8 p]
  have hl : j < (u8s l).length := by have := (List.getElem?_eq_some_iff.1 hp).1; simp [u8s]; exact this
  rw [Nat.mul_one, List.drop_eq_getElem_cons hl, List.take_succ_cons, List.take_zero]
  congr 1
  have : (u8s l)[j]? = some (.int .u8 p) := by unfold u8s; rw [List.getElem?_map, hp]; rfl
  rw [List.getElem?_eq_getElem hl] at this
  injection this
set_option maxHeartbeats 4000000 in
theorem put_val (n : Int) (h0 : 0 ≤ n) (h1 : n < 18446744073709551616) (w : World) : Calls Tryz.prog 145 #[.slice none 0 0, .int .u64 n, .int .i64 8, .bool false] w (RetRow (putB n) w) := by
  obtain ⟨i0, hi, hz0, hz1, hz2⟩ := info_parts byteinfo
  have hmx : max (8 : Int) 0 = 8 := by decide
  go_enter Tryz.func145, Tryz.ntmps145
  go_wp2_with fail
  refine (clone_nil _).mono ?_
  rintro e w ⟨rfl, rfl⟩
  dsimp only
  go_wp2_with fail
  go_loopw [9, 19] (fun a i w' => PuR n w a i w') (fun _ i _ => 8 - (intOf i).toNat)
  case atStart => exact ⟨0, 0, none, by omega, rfl, rfl, World.ownsRow_nil _ _ _ _, Below.refl _ _⟩
  case round =>
    obtain ⟨j, c, p, hj, rfl, rfl, hrow, hB⟩ := hrel
    have HO := Lib.hid hrow; clear hrow
    by_cases hp : j < 8
    · obtain ⟨p', c', hv⟩ := row_shape HO.out
      rw [lowB_len] at hv
      injection hv with ep _ ec
      subst ep ec
      have HO := Lib.hid (show wr.ownsRow w.heap.size 5 1 (.slice p j c) j (u8s (lowB n j)) by have := HO.out; unfold Row at this; rwa [lowB_len] at this)
      go_wp2_with (at_builtin; refine wpList_append_own _ rfl _ _ 25 rfl w.heap.size 5 i0 (.int .u8 0) 1 1 Tryz.underlying25 hi hz0 hz1 hz2 rfl (by decide) _ _ _ rfl (HO.out.alloc _) ⟨wr.heap.size, 0, none⟩ 1 1 [.int .u8 (n / 2 ^ (8 * j) % 256)] rfl rfl ?c1 ?c2 ?c3 ?c4 ?c5 ?_)
      case c2 => first | rfl | (intro u hu; simp at hu; subst hu; rfl)
      case c3 => unfold maxLen; omega
      case c4 => omega
      case c5 => have := hB.size; simp; omega
      intro v' w2 hown' hgrow _
      have hrow2 : Row w2 w.heap.size v' (lowB n (j + 1)) := by
        rw [lowB_snoc]
        refine row_snoc ?_
        rw [lowB_len]; exact hown'
      obtain ⟨p2, c2, hv2⟩ := row_shape hrow2
      rw [lowB_len] at hv2
      subst hv2
      have HREL := Lib.hid (show PuR n w (.slice p2 (j + 1) c2) (.int .i64 ((j + 1 : Nat) : Int)) w2 from
        ⟨j + 1, _, _, by omega, rfl, rfl, hrow2, (hB.alloc hB.size _).grown hgrow (by have := hB.size; simp; omega) (fun x hx => (HO.out.lt x hx).1)⟩)
      clear hown' hgrow hrow2
      go_wp2_with fail
      exact ⟨HREL.out, by simp [intOf]; omega⟩
    · obtain rfl : j = 8 := by omega
      go_wp2_with fail
      have HR := Lib.hid (PValueForms.slices_Reverse_byte_byte.calls 6 (fun _ => True) (.slice p 8 c) (lowB n 8) (putB n) w wr hB (R_of_row HO.out) (low_rev n))
      refine HR.out.mono ?_
      rintro e w3 ⟨rfl, hR, hb3, _⟩
      have HR3 := Lib.hid (row_of_R hR)
      clear hR
      dsimp only
      go_wp2_with fail
      go_ret
      exact ⟨_, rfl, HR3.out, hb3⟩
end Go.Proofs.YtcjidlgmbjebjaaGreatDoor

namespace Go.Proofs.YtcjidlgmbjebjaaGreatDoor.MapB
open Go Go.Maps Go.WideMaps
end Go.Proofs.YtcjidlgmbjebjaaGreatDoor.MapB

namespace Go.Proofs.YtcjidlgmbjebjaaGreatDoor
open Go Go.RowKit
end Go.Proofs.YtcjidlgmbjebjaaGreatDoor

namespace Go.Proofs.YtcjidlgmbjebjaaGreatDoor
open Go Go.RowKit
end Go.Proofs.YtcjidlgmbjebjaaGreatDoor

namespace Go.Proofs.YtcjidlgmbjebjaaGreatDoor
open Go Go.RowKit
end Go.Proofs.YtcjidlgmbjebjaaGreatDoor

namespace Go.Proofs.YtcjidlgmbjebjaaGreatDoor
open Go Go.RowKit
end Go.Proofs.YtcjidlgmbjebjaaGreatDoor

namespace Go.Proofs.YtcjidlgmbjebjaaGreatDoor
open Go Go.RowKit
end Go.Proofs.YtcjidlgmbjebjaaGreatDoor

namespace Go.Proofs.YtcjidlgmbjebjaaGreatDoor
open Go Go.Shelf
end Go.Proofs.YtcjidlgmbjebjaaGreatDoor

namespace Go.Proofs.YtcjidlgmbjebjaaGreatDoor
open Go Go.RowKit
def ct (c : Col) : ByteArray := colText c.1 c.2.1 c.2.2
theorem own_full {w : World} {base e : Nat} (cur : Array Value) (n : Nat) (hn : cur.size = n) (hb : base ≤ w.heap.size) (hm : n ≤ maxLen) :
    (w.alloc (.cells cur e)).ownsRow base e 1 (.slice (some ⟨w.heap.size, 0, none⟩) n n) n cur.toList :=
  ⟨by simp [hn], .inr ⟨w.heap.size, n, cur, rfl, hb, hp_new w _ _ rfl, Nat.le_refl _, hm, by simp [hn], by simp [hn, List.take_of_length_le]⟩⟩
end Go.Proofs.YtcjidlgmbjebjaaGreatDoor

namespace Go.Proofs.YtcjidlgmbjebjaaGreatDoor
open Go Go.RowKit Go.Proofs.YtcjidlgmbjebjaaGreatDoorW.PrintWords
def u64of (n : Int) : Int := n % 18446744073709551616
def valB (k n : Int) (s : ByteArray) : List Int := if k = 1 then putB (u64of n) else if k = 2 then varB s.size ++ bytesOf s else if k = 3 then [n] else []
theorem as_int (n : Int) (w : World) : (Instr.typeAssert (.iface 104 (.int .i64 n)) 96 104 true).run Tryz.prog w = .ok (.tuple #[.int .i64 n, .bool true]) w := by kernel_rfl
theorem as_no1 (x : Value) (w : World) : (Instr.typeAssert (.iface 94 x) 96 104 true).run Tryz.prog w = .ok (.tuple #[.int .i64 0, .bool false]) w := by kernel_rfl
theorem as_no2 (x : Value) (w : World) : (Instr.typeAssert (.iface 94 x) 96 98 true).run Tryz.prog w = .ok (.tuple #[.string ⟨#[]⟩, .bool false]) w := by kernel_rfl
theorem as_no3 (x : Value) (w : World) : (Instr.typeAssert (.iface 94 x) 96 97 true).run Tryz.prog w = .ok (.tuple #[.bool false, .bool false]) w := by kernel_rfl
theorem as_str0 (x : Value) (w : World) : (Instr.typeAssert (.iface 98 x) 96 104 true).run Tryz.prog w = .ok (.tuple #[.int .i64 0, .bool false]) w := by kernel_rfl
theorem as_str (s : ByteArray) (w : World) : (Instr.typeAssert (.iface 98 (.string s)) 96 98 true).run Tryz.prog w = .ok (.tuple #[.string s, .bool true]) w := by kernel_rfl
theorem as_b1 (x : Value) (w : World) : (Instr.typeAssert (.iface 97 x) 96 104 true).run Tryz.prog w = .ok (.tuple #[.int .i64 0, .bool false]) w := by kernel_rfl
theorem as_b2 (x : Value) (w : World) : (Instr.typeAssert (.iface 97 x) 96 98 true).run Tryz.prog w = .ok (.tuple #[.string ⟨#[]⟩, .bool false]) w := by kernel_rfl
theorem as_b3 (b : Bool) (w : World) : (Instr.typeAssert (.iface 97 (.bool b)) 96 97 true).run Tryz.prog w = .ok (.tuple #[.bool b, .bool true]) w := by kernel_rfl
set_option maxHeartbeats 2000000 in
theorem content_0 (w : World) : Calls Tryz.prog 88 #[.iface 94 (.agg #[])] w (RetRow [] w) := by
  have a1 := fun w => as_no1 (.agg #[]) w
  have a2 := fun w => as_no2 (.agg #[]) w
  have a3 := fun w => as_no3 (.agg #[]) w
  go_enter Tryz.func88, Tryz.ntmps88
  go_wp2_with fail
  go_ret
  exact ⟨_, rfl, World.ownsRow_nil _ _ _ _, Below.refl _ _⟩
set_option maxHeartbeats 2000000 in
theorem content_1 (n : Int) (w : World) : Calls Tryz.prog 88 #[.iface 104 (.int .i64 n)] w (RetRow (putB (u64of n)) w) := by
  have HP := Lib.hid (fun w => put_val (u64of n) (by unfold u64of; omega) (by unfold u64of; omega) w)
  unfold u64of at HP
  have a1 := fun w => as_int n w
  go_enter Tryz.func88, Tryz.ntmps88
  go_wp2_with fail
  refine (HP.out _).mono ?_
  rintro e w1 ⟨v, rfl, hr, hb⟩
  dsimp only
  have HR := Lib.hid hr; clear hr
  go_wp2_with fail
  go_ret
  exact ⟨_, rfl, HR.out, hb⟩
set_option maxHeartbeats 2000000 in
theorem content_2 (s : ByteArray) (hs : s.size ≤ 200) (w : World) : Calls Tryz.prog 88 #[.iface 98 (.string s)] w (RetRow (varB s.size ++ bytesOf s) w) := by
  have HP := Lib.hid (fun w => var_val (s.size : Int) (by omega) (by omega) w)
  have hvl : (varB (s.size : Int)).length ≤ 3 := by unfold varB; split <;> (try split) <;> simp
  have a1 := fun w => as_str0 (.string s) w
  have a2 := fun w => as_str s w
  go_enter Tryz.func88, Tryz.ntmps88
  go_wp2_with fail
  refine (HP.out _).mono ?_
  rintro e w1 ⟨v, rfl, hr, hb⟩
  dsimp only
  have HR := Lib.hid hr; clear hr
  go_wp2_with (at_builtin; refine print_append_str (w0 := w) w.heap.size rfl _ _ 25 98 5 rfl Tryz.underlying25 Tryz.underlying98 byteinfo v (varB s.size) s rfl rfl HR.out (by assumption) (Below.size (by assumption)) ?c1 ?_)
  case c1 => omega
  intro v1 w2 hown hb2 _
  have HR2 := Lib.hid hown; clear hown
  have HB2 := Lib.hid hb2; clear hb2 hb
  go_wp2_with fail
  go_ret
  exact ⟨v1, rfl, by have h := HR2.out; unfold Row; rw [List.length_append]; exact h, HB2.out⟩
set_option maxHeartbeats 2000000 in
theorem content_3 (b : Bool) (w : World) : Calls Tryz.prog 88 #[.iface 97 (.bool b)] w (RetRow [if b then 1 else 0] w) := by
  cases b
  all_goals
    have a1 := fun w x => as_b1 (.bool x) w
    have a2 := fun w x => as_b2 (.bool x) w
    have a3 := fun w x => as_b3 x w
    go_enter Tryz.func88, Tryz.ntmps88
    go_wp2_with fail
    go_ret
    refine ⟨_, rfl, ?_, by go_grown⟩
    exact own_full (w := w) (base := w.heap.size) (e := 5) #[_] 1 rfl (Nat.le_refl _) (by decide)
end Go.Proofs.YtcjidlgmbjebjaaGreatDoor

namespace Go.Proofs.YtcjidlgmbjebjaaGreatDoor
open Go Go.RowKit
theorem cell_lt {w : World} {b o : Nat} {v : Value} (h : w.cell? ⟨b, o, none⟩ = some v) : b < w.heap.size := by
  rcases Nat.lt_or_ge b w.heap.size with h' | h'
  · exact h'
  · simp [World.cell?, Array.getElem?_eq_none h'] at h
theorem own_below {w w' : World} {base e s n : Nat} {v : Value} {xs : List Value} (h : w.ownsRow base e s v n xs) (hb : Below w.heap.size w w') : w'.ownsRow base e s v n xs := by
  obtain ⟨h1, h2 | ⟨g, cap, cur, hv, hg, hk, r⟩⟩ := h
  · exact ⟨h1, .inl h2⟩
  · exact ⟨h1, .inr ⟨g, cap, cur, hv, hg, (hb.block _ (Array.getElem?_eq_some_iff.1 hk).1).trans hk, r⟩⟩
end Go.Proofs.YtcjidlgmbjebjaaGreatDoor

namespace Go.Proofs.YtcjidlgmbjebjaaGreatDoor
open Go Go.RowKit Go.Proofs.YtcjidlgmbjebjaaGreatDoorW.PrintWords
theorem content_val (k n : Int) (s : ByteArray) (hg : goodV k n s = true) (w : World) : Calls Tryz.prog 88 #[ofV k n s] w (RetRow (valB k n s) w) := by
  unfold goodV at hg
  by_cases h0 : k = 0
  · subst h0
    simp only [if_true, decide_eq_true_eq] at hg
    have ho : ofV 0 n s = .iface 94 (.agg #[]) := by simp [ofV, hg]
    rw [ho]
    exact content_0 w
  by_cases h1 : k = 1
  · subst h1
    simp at hg
    have ho : ofV 1 n s = .iface 104 (.int .i64 n) := by simp [ofV, hg]
    rw [ho]
    exact content_1 n w
  by_cases h2 : k = 2
  · subst h2
    simp at hg
    have ho : ofV 2 n s = .iface 98 (.string s) := by simp [ofV, hg]
    rw [ho]
    exact content_2 s (by omega) w
  by_cases h3 : k = 3
  · subst h3
    simp at hg
    rcases hg.2 with hn | hn
    · subst hn
      have ho : ofV 3 0 s = .iface 97 (.bool false) := by simp [ofV, hg]
      rw [ho]
      exact content_3 false w
    · subst hn
      have ho : ofV 3 1 s = .iface 97 (.bool true) := by simp [ofV, hg]
      rw [ho]
      exact content_3 true w
  · simp [h0, h1, h2, h3] at hg
def Kept5 (w w' : World) : Prop := ∀ b, b < w.heap.size → (¬ ∃ cells, w.heap[b]? = some (.cells cells 5 (0, 0))) → w'.heap[b]? = w.heap[b]?
theorem kept5_refl (w : World) : Kept5 w w := fun _ _ _ => rfl
theorem kept5_grown {w w' : World} {base : Nat} {v : Value} {l : List Int} (h : Row w base v l) (hg : w.grownBy w' v.ownBlock) : Kept5 w w' := fun b hb hn =>
  hg.block b hb fun e => hn (own_typed h b e.symm)
theorem run_app {w : World} {base : Nat} {v : Value} {l : List Int} (h : Row w base v l) {A : Option Addr} {m : Nat} (c : Nat) {ys : List Int} (hC : Kd.C (Kd.int .u8) w A m ys) (hlen : l.length + ys.length ≤ 140737488355000) (hbase : base ≤ w.heap.size) :
    ∃ v' w', (Builtin.append_ #[25, 25] 25 #[v, .slice A m c]).run Tryz.prog w = .ok v' w' ∧ Row w' base v' (l ++ ys) ∧ Below base w w' ∧ Kept5 w w' := by
  obtain ⟨i0, hi, hz0, hz1, hz2⟩ := info_parts byteinfo
  have hm : ys.length = m := hC.1
  by_cases h0 : m = 0
  · subst h0
    obtain rfl : ys = [] := List.eq_nil_of_length_eq_zero hm
    rw [List.append_nil]
    cases A with
    | none =>
      refine ⟨v, w, ?_, h, Below.refl _ _, kept5_refl w⟩
      rcases h.2 with ⟨rfl, _⟩ | ⟨g, cap, cur, rfl, _, _, hnc, _⟩
      · simp [Builtin.append_, run_underlying Tryz.underlying25, sizeOf, typeInfo, hi, Builtin.lenOf, Builtin.firstCells]
      · simp [Builtin.append_, run_underlying Tryz.underlying25, sizeOf, typeInfo, hi, Builtin.lenOf, Builtin.firstCells, hnc, storeCells]
    | some ad =>
      obtain ⟨v', w', hr, h2, h3, _⟩ := run_append_own (P := Tryz.prog) w base 25 25 5 i0 (.int .u8 0) 1 1 Tryz.underlying25 hi hz0 hz1 hz2 rfl (by decide) v l.length (u8s l) h ad 0 c [] rfl (fun j u hu => by simp at hu) (fun u hu => by simp at hu) (by unfold maxLen; omega) (by omega) hbase
      rw [List.append_nil] at h2
      exact ⟨v', w', hr, h2, (Below.refl _ _).grown h3 hbase (fun q hq => (h.lt q hq).1), kept5_grown h h3⟩
  · obtain ⟨ad, rfl, hcell⟩ := hC.2.2 (by omega)
    have hnews : ∀ (j : Nat) (u : Value), (u8s ys)[j]? = some u → w.cell? (ad.add j) = some u := by
      intro j u hu
      unfold u8s at hu
      rw [List.getElem?_map] at hu
      obtain ⟨y, hy, rfl⟩ := Option.map_eq_some_iff.1 hu
      obtain ⟨cc, _, hcc, hx⟩ := hcell j y hy
      have hcc : cc = [.int .u8 y] := hcc
      subst hcc
      have hx0 := hx 0 (.int .u8 y) rfl
      rw [show j * (Kd.int .u8).sz + 0 = j from by show j * 1 + 0 = j; omega] at hx0
      exact hx0
    obtain ⟨v', w', hr, h2, h3, _⟩ := run_append_own (P := Tryz.prog) w base 25 25 5 i0 (.int .u8 0) 1 1 Tryz.underlying25 hi hz0 hz1 hz2 rfl (by decide) v l.length (u8s l) h ad m c (u8s ys) (by simp [u8s]; omega) hnews
      (fun u hu => by unfold u8s at hu; obtain ⟨y, _, rfl⟩ := List.mem_map.1 hu; rfl) (by unfold maxLen; omega) (by omega) hbase
    refine ⟨v', w', hr, ?_, (Below.refl _ _).grown h3 hbase (fun q hq => (h.lt q hq).1), kept5_grown h h3⟩
    unfold Row
    have e : u8s (l ++ ys) = u8s l ++ u8s ys := by simp [u8s]
    rw [e, List.length_append, hm]
    exact h2
theorem wp_app {w : World} {o : Oper} {a : Act} {K : Act → World → Prop} {Q : Exit → Act → World → Prop} (s x : Operand) (ho : o.op = .call { callee := .builtin .append, args := #[s, x], argTypes := #[25, 25] }) (hty : o.type = 25)
    {base : Nat} {v : Value} {l : List Int} (hs : a.eval s = v) (h : Row w base v l) {A : Option Addr} {m : Nat} {c : Nat} {ys : List Int} (hx : a.eval x = .slice A m c) (hC : Kd.C (Kd.int .u8) w A m ys) (hlen : l.length + ys.length ≤ 140737488355000) (hbase : base ≤ w.heap.size)
    (hk : ∀ v' w', Row w' base v' (l ++ ys) → Below base w w' → Kept5 w w' → K (a.put o.dst v') w') : o.wp Tryz.prog a w K Q := by
  obtain ⟨v', w', hr, h2, h3, h4⟩ := run_app h c hC hlen hbase
  unfold Oper.wp execOp
  simp only [ho, hty, resolve, invoke, builtin, Sem.run_bind, Sem.run_pure, Result.andThen_ok, List.map_toArray, List.map_cons, List.map_nil, hs, hx, hr]
  exact hk v' w' h2 h3 h4
theorem step_app {w : World} {ops : Array Oper} {o : Oper} {a : Act} {K : Act → World → Prop} {Q : Exit → Act → World → Prop} {E : Prop} (hgd : o.guard = none) (s x : Operand) (ho : o.op = .call { callee := .builtin .append, args := #[s, x], argTypes := #[25, 25] }) (hty : o.type = 25)
    {base : Nat} {v : Value} {l : List Int} (hs : a.eval s = v) (h : Row w base v l) {A : Option Addr} {m : Nat} {c : Nat} {ys : List Int} (hx : a.eval x = .slice A m c) (hC : Kd.C (Kd.int .u8) w A m ys) (hlen : l.length + ys.length ≤ 140737488355000) (hbase : base ≤ w.heap.size)
    (hk : ∀ v' w', Row w' base v' (l ++ ys) → Below base w w' → Kept5 w w' → K (a.put o.dst v') w') : if Region.wanted o (yielded ops a.tmps) = true then Oper.wp Tryz.prog o a w K Q else E := by
  have hw : Region.wanted o (yielded ops a.tmps) = true := by simp [Region.wanted, hgd]
  rw [if_pos hw]
  exact wp_app s x ho hty hs h hx hC hlen hbase hk
theorem wpList_app {w : World} {ops : Array Oper} {rest : List Oper} {o : Oper} {a : Act} {Q : Exit → Act → World → Prop} (hgd : o.guard = none) (s x : Operand) (ho : o.op = .call { callee := .builtin .append, args := #[s, x], argTypes := #[25, 25] }) (hty : o.type = 25)
    {base : Nat} {v : Value} {l : List Int} (hs : a.eval s = v) (h : Row w base v l) {A : Option Addr} {m : Nat} {c : Nat} {ys : List Int} (hx : a.eval x = .slice A m c) (hC : Kd.C (Kd.int .u8) w A m ys) (hlen : l.length + ys.length ≤ 140737488355000) (hbase : base ≤ w.heap.size)
    (hk : ∀ v' w', Row w' base v' (l ++ ys) → Below base w w' → Kept5 w w' → wpList Tryz.prog ops Q rest (a.put o.dst v') w') : wpList Tryz.prog ops Q (o :: rest) a w :=
  wpList_plain hgd fun _ hK => wp_app s x ho hty hs h hx hC hlen hbase fun v' w' h2 h3 h4 => hK _ _ (hk v' w' h2 h3 h4)
theorem cell_base {B : Nat} {w w' : World} (hb : Below B w w') {b o : Nat} {v : Value} (hlt : b < B) (h : w.cell? ⟨b, o, none⟩ = some v) : w'.cell? ⟨b, o, none⟩ = some v := (hb.cell (p := ⟨b, o, none⟩) hlt).trans h
theorem row_below {w w' : World} {base : Nat} {v : Value} {l : List Int} (h : Row w base v l) (hb : Below w.heap.size w w') : Row w' base v l := own_below h hb
end Go.Proofs.YtcjidlgmbjebjaaGreatDoor

namespace Go.Proofs.YtcjidlgmbjebjaaGreatDoor
open Go Go.RowKit Go.Proofs.YtcjidlgmbjebjaaGreatDoorW.PrintWords
abbrev Va := PValueForms.S51
def goodX (x : Va) : Bool := goodV x.f0 x.f1 x.f2
def elB (x : Va) : List Int := x.f0 :: valB x.f0 x.f1 x.f2
def vsB (vs : List Va) : List Int := vs.flatMap elB
def featB (lb : List Int) (vs : List Va) : List Int := bif decide (vs.length ≤ 4) && (decide (lb.length ≤ 20000) && vs.all goodX) then varB lb.length ++ lb ++ [(vs.length : Int)] ++ vsB vs else []
theorem feat_many {lb : List Int} {vs : List Va} (h : ¬ vs.length ≤ 4) : featB lb vs = [] := by unfold featB; rw [decide_eq_false h]; rfl
theorem feat_long {lb : List Int} {vs : List Va} (h : ¬ lb.length ≤ 20000) : featB lb vs = [] := by unfold featB; rw [decide_eq_false h]; simp
theorem feat_bad {lb : List Int} {vs : List Va} {i : Nat} {x : Va} (h : vs[i]? = some x) (hb : goodX x = false) : featB lb vs = [] := by
  have : vs.all goodX = false := by rw [List.all_eq_false]; exact ⟨x, List.mem_of_getElem? h, by rw [hb]; simp⟩
  unfold featB; rw [this]; simp
theorem feat_ok {lb : List Int} {vs : List Va} (h1 : vs.length ≤ 4) (h2 : lb.length ≤ 20000) (h : ∀ x ∈ vs, goodX x = true) : featB lb vs = varB lb.length ++ lb ++ [(vs.length : Int)] ++ vsB vs := by
  unfold featB; rw [decide_eq_true h1, decide_eq_true h2, List.all_eq_true.2 h]; rfl
theorem vsB_snoc (vs : List Va) (x : Va) : vsB (vs ++ [x]) = vsB vs ++ elB x := by simp [vsB]
theorem varB_len (n : Int) : (varB n).length ≤ 3 := by unfold varB; split <;> (try split) <;> simp
theorem valB_len {x : Va} (h : goodX x = true) : (valB x.f0 x.f1 x.f2).length ≤ 220 := by
  have hk := good_kind h
  unfold valB
  split
  · simp [putB]
  · split
    · rename_i h1 h2
      have := varB_len (x.f2.size : Int)
      rw [List.length_append, bytesOf_length]
      rcases hk with h | h | ⟨_, h⟩ | ⟨h, _⟩ <;> omega
    · split <;> simp
theorem kind_range {x : Va} (h : goodX x = true) : 0 ≤ x.f0 ∧ x.f0 ≤ 3 := by
  have hk := good_kind h
  rcases hk with h | h | ⟨h, _⟩ | ⟨h, _⟩ <;> omega
def VaAt (w : World) (b o i : Nat) (x : Va) : Prop := w.cell? ⟨b, o + i * 3, none⟩ = some (.int .i64 x.f0) ∧ w.cell? ⟨b, o + i * 3 + 1, none⟩ = some (.int .i64 x.f1) ∧ w.cell? ⟨b, o + i * 3 + 2, none⟩ = some (.string x.f2)
def VsV (w : World) (v : Value) (vs : List Va) : Prop := ∃ pa b o cap, v = .slice pa vs.length cap ∧ vs.length ≤ cap ∧ (0 < vs.length → pa = some ⟨b, o, none⟩) ∧ ∀ i x, vs[i]? = some x → VaAt w b o i x
theorem va_stays {w w' : World} {b o i : Nat} {x : Va} (h : VaAt w b o i x) (hb : Below w.heap.size w w') : VaAt w' b o i x := ⟨cell_later hb h.1, cell_later hb h.2.1, cell_later hb h.2.2⟩
theorem C_one (w : World) (x : Int) : Kd.C (Kd.int .u8) (w.alloc (.cells #[.int .u8 x] 5)) (some ⟨w.heap.size, 0, none⟩) 1 [x] := by
  refine ⟨rfl, by decide, fun _ => ⟨_, rfl, fun j p hp => ?_⟩⟩
  have hj : j = 0 := by have := (List.getElem?_eq_some_iff.1 hp).1; simp at this; exact this
  subst hj
  simp at hp
  subst hp
  refine ⟨[.int .u8 x], rfl, rfl, fun i u hu => ?_⟩
  have hi : i = 0 := by have := (List.getElem?_eq_some_iff.1 hu).1; simp at this; exact this
  subst hi
  simp at hu
  subst hu
  simp [Addr.add]
theorem row_alloc {w : World} {base : Nat} {v : Value} {l : List Int} (h : Row w base v l) (o : Obj) : Row (w.alloc o) base v l := h.alloc o
theorem row_drew {w : World} {base : Nat} {v : Value} {l : List Int} (h : Row w base v l) : Row w.drew base v l := h
theorem row_lower {w : World} {base base' : Nat} {v : Value} {l : List Int} (h : Row w base v l) (hb : base' ≤ base) : Row w base' v l := own_weaken h hb
def BoxAt (w : World) (b : Nat) (x : Va) : Prop := w.heap[b]? = some (.cells #[.int .i64 x.f0, .int .i64 x.f1, .string x.f2] 32 (0, 0))
theorem box_later {w w' : World} {b : Nat} {x : Va} (h : BoxAt w b x) (hb : Below w.heap.size w w') : BoxAt w' b x := (hb.block b (Array.getElem?_eq_some_iff.1 h).1).trans h
theorem box_alloc {w : World} {b : Nat} {x : Va} (h : BoxAt w b x) (o : Obj) : BoxAt (w.alloc o) b x := hp_old _ _ _ _ (Array.getElem?_eq_some_iff.1 h).1 h
theorem box_app {w w' : World} {b : Nat} {x : Va} (h : BoxAt w b x) (hk : Kept5 w w') : BoxAt w' b x :=
  (hk b (Array.getElem?_eq_some_iff.1 h).1 (fun ⟨cells, e⟩ => by have := h.symm.trans e; injection this with this; injection this with _ e2; cases e2)).trans h
theorem sBox {w : World} {b : Nat} {x : Va} {B : Nat} {W : World} (h : BoxAt w b x) (hb : Below B W w) : BoxAt w b x ∧ w.cell? ⟨b, 0, none⟩ = some (.int .i64 x.f0) ∧ w.cell? ⟨b, 1, none⟩ = some (.int .i64 x.f1) ∧ w.cell? ⟨b, 2, none⟩ = some (.string x.f2) ∧ Below B W w :=
  ⟨h, by rw [Lib.cell_of_heap h]; rfl, by rw [Lib.cell_of_heap h]; rfl, by rw [Lib.cell_of_heap h]; rfl, hb⟩
end Go.Proofs.YtcjidlgmbjebjaaGreatDoor

namespace Go.Proofs.YtcjidlgmbjebjaaGreatDoor
open Go Go.RowKit Go.Proofs.YtcjidlgmbjebjaaGreatDoorW.PrintWords
structure Keep1 (p : Nat) (w w' : World) : Prop where
  os : w'.os = w.os
  tape : w'.tape = w.tape
  output : w'.output = w.output
  size : w.heap.size ≤ w'.heap.size
  block : ∀ {k : Nat}, k < w.heap.size → k ≠ p → w'.heap[k]? = w.heap[k]?
theorem Keep1.refl (p : Nat) (w : World) : Keep1 p w w := ⟨rfl, rfl, rfl, Nat.le_refl _, fun _ _ => rfl⟩
theorem Keep1.trans {p : Nat} {a b c : World} (h : Keep1 p a b) (k : Keep1 p b c) : Keep1 p a c :=
  ⟨k.os.trans h.os, k.tape.trans h.tape, k.output.trans h.output, Nat.le_trans h.size k.size, fun hi hp => (k.block (Nat.lt_of_lt_of_le hi h.size) hp).trans (h.block hi hp)⟩
theorem Keep1.of_below {p : Nat} {a b : World} (h : Below a.heap.size a b) : Keep1 p a b := ⟨h.os, h.tape, h.output, h.size, fun hk _ => h.block _ hk⟩
theorem Keep1.alloc {p : Nat} {a w : World} (h : Keep1 p a w) (o : Obj) : Keep1 p a (w.alloc o) := h.trans (Keep1.of_below ((Below.refl _ _).alloc (Nat.le_refl _) o))
theorem Keep1.set {p : Nat} {a w : World} (h : Keep1 p a w) (i : Nat) (u : Value) : Keep1 p a (w.setCell ⟨p, i, none⟩ u) :=
  h.trans ⟨rfl, rfl, rfl, by simp [World.setCell], fun _ hk => Below.heap_setCell _ _ _ _ hk⟩
theorem Keep1.setNew {p : Nat} {a w : World} (h : Keep1 p a w) (b i : Nat) (u : Value) (hb : a.heap.size ≤ b) : Keep1 p a (w.setCell ⟨b, i, none⟩ u) :=
  ⟨h.os, h.tape, h.output, by simp [World.setCell]; exact h.size, fun hk hp => (Below.heap_setCell w _ u _ (by simp; omega)).trans (h.block hk hp)⟩
theorem Keep1.below {p : Nat} {a w w' : World} {B : Nat} (h : Below B a w) (hk : Keep1 p w w') (hB : B ≤ p) (hs : B ≤ w.heap.size) : Below B a w' :=
  h.trans ⟨hk.os, hk.tape, hk.output, hk.size, fun k hkB => hk.block (by omega) (by omega)⟩
def SlB (w : World) (v : Value) (l : List Int) : Prop := ∃ (A : Option Addr) (c : Nat), v = .slice A l.length c ∧ l.length ≤ c ∧ Kd.C (Kd.int .u8) w A l.length l
theorem kC_at {w : World} {A : Option Addr} {l : List Int} (h : Kd.C (Kd.int .u8) w A l.length l) (hl : 0 < l.length) : ∃ ad, A = some ad ∧ ∀ j x, l[j]? = some x → w.cell? (ad.add j) = some (.int .u8 x) := by
  obtain ⟨ad, e, hc⟩ := h.2.2 hl
  refine ⟨ad, e, fun j x hx => ?_⟩
  obtain ⟨c, hs, hr, hcell⟩ := hc j x hx
  have hr : c = [.int .u8 x] := hr
  subst hr
  have := hcell 0 (.int .u8 x) rfl
  rwa [show j * (Kd.int .u8).sz + 0 = j from by show j * 1 + 0 = j; omega] at this
theorem kC_mk {w : World} {A : Option Addr} {l : List Int} (hm : l.length ≤ 9223372036854775807) (h : 0 < l.length → ∃ ad, A = some ad ∧ ∀ j x, l[j]? = some x → w.cell? (ad.add j) = some (.int .u8 x)) : Kd.C (Kd.int .u8) w A l.length l := by
  refine ⟨rfl, hm, fun hl => ?_⟩
  obtain ⟨ad, e, hc⟩ := h hl
  refine ⟨ad, e, fun j x hx => ⟨[.int .u8 x], rfl, rfl, fun i u hu => ?_⟩⟩
  have hi : i = 0 := by
    have := (List.getElem?_eq_some_iff.1 hu).1
    simp at this
    exact this
  subst hi
  simp at hu
  subst hu
  rw [show j * (Kd.int .u8).sz + 0 = j from by show j * 1 + 0 = j; omega]
  exact hc j x hx
def NoByte (w : World) (p : Nat) : Prop := ∀ (a : Addr) (x : Int), a.block = p → w.cell? a ≠ some (.int .u8 x)
theorem kC_keep {p : Nat} {w w' : World} {A : Option Addr} {l : List Int} (h : Kd.C (Kd.int .u8) w A l.length l) (hn : NoByte w p) (hk : Keep1 p w w') : Kd.C (Kd.int .u8) w' A l.length l := by
  refine kC_mk h.2.1 fun hl => ?_
  obtain ⟨ad, e, hc⟩ := kC_at h hl
  refine ⟨ad, e, fun j x hx => ?_⟩
  have h1 := hc j x hx
  have hb : (ad.add j).block ≠ p := fun e => hn _ _ e h1
  have hlt : (ad.add j).block < w.heap.size := by
    rcases Nat.lt_or_ge (ad.add j).block w.heap.size with h' | h'
    · exact h'
    · simp [World.cell?, Array.getElem?_eq_none h'] at h1
  unfold World.cell? at h1 ⊢
  rw [hk.block hlt hb]
  exact h1
theorem slb_keep {p : Nat} {w w' : World} {v : Value} {l : List Int} (h : SlB w v l) (hn : NoByte w p) (hk : Keep1 p w w') : SlB w' v l := by
  obtain ⟨A, c, e, h1, h2⟩ := h
  exact ⟨A, c, e, h1, kC_keep h2 hn hk⟩
theorem slb_below {w w' : World} {v : Value} {l : List Int} (h : SlB w v l) (hb : Below w.heap.size w w') : SlB w' v l := by
  obtain ⟨A, c, e, h1, h2⟩ := h
  exact ⟨A, c, e, h1, Kd.C_below h2 hb⟩
theorem slb_nil (w : World) (A : Option Addr) (c : Nat) : SlB w (.slice A 0 c) [] := ⟨A, c, rfl, Nat.zero_le _, rfl, by decide, fun h => by simp at h⟩
theorem slb_row {w : World} {base : Nat} {v : Value} {l : List Int} (h : Row w base v l) (hm : l.length ≤ 9223372036854775807) : SlB w v l := by
  obtain ⟨p, c, rfl⟩ := row_shape h
  obtain ⟨_, h2, h3⟩ := row_C h hm
  exact ⟨p, c, rfl, h2, h3⟩
theorem kC_drop {w : World} {ad : Addr} {l : List Int} (n : Nat) (h : Kd.C (Kd.int .u8) w (some ad) l.length l) : Kd.C (Kd.int .u8) w (some (ad.add n)) (l.drop n).length (l.drop n) := by
  refine kC_mk (by have := h.2.1; rw [List.length_drop]; omega) fun hl => ?_
  rw [List.length_drop] at hl
  obtain ⟨ad', e, hc⟩ := kC_at h (by omega)
  injection e with e
  subst e
  refine ⟨_, rfl, fun j x hx => ?_⟩
  rw [Addr.add_add]
  rw [List.getElem?_drop] at hx
  exact hc _ _ hx
theorem kC_take {w : World} {A : Option Addr} {l : List Int} (n : Nat) (h : Kd.C (Kd.int .u8) w A l.length l) : Kd.C (Kd.int .u8) w A (l.take n).length (l.take n) := by
  refine kC_mk (by have := h.2.1; rw [List.length_take]; omega) fun hl => ?_
  rw [List.length_take] at hl
  obtain ⟨ad, e, hc⟩ := kC_at h (by omega)
  refine ⟨ad, e, fun j x hx => hc j x ?_⟩
  rw [List.getElem?_take] at hx
  split at hx
  · exact hx
  · cases hx
def VLt (v : Value) (p : Nat) : Prop := ∀ ad n c, v = .slice (some ad) n c → ad.block < p
theorem vlt_nil (n c p : Nat) : VLt (.slice none n c) p := fun ad m d e => by injection e with e; cases e
theorem vlt_same {A : Option Addr} {n c n' c' p : Nat} (h : VLt (.slice A n c) p) : VLt (.slice A n' c') p := fun ad m d e => by injection e with e; exact h ad n c (by rw [e])
theorem vlt_map {A : Option Addr} {n c n' c' k p : Nat} (h : VLt (.slice A n c) p) : VLt (.slice (A.map (fun x => x.add k)) n' c') p := fun ad m d e => by
  injection e with e
  cases A with
  | none => cases e
  | some a =>
    simp only [Option.map_some, Option.some.injEq] at e
    have hb : (a.add k).block = a.block := by unfold Addr.add; split <;> rfl
    rw [← e, hb]
    exact h a n c rfl
theorem vlt_row {w : World} {base : Nat} {v : Value} {l : List Int} (h : Row w base v l) : VLt v w.heap.size := fun ad n c e => by
  subst e
  rcases h.2 with ⟨hv, _⟩ | ⟨g, cap, cur, hv, _, hh, _⟩
  · injection hv with e; cases e
  · injection hv with e
    injection e with e
    subst e
    exact (Array.getElem?_eq_some_iff.1 hh).1
def SrcP (w : World) (p : Nat) (s : Sb.Src) : Prop := ∃ v, (w.heap[p]? = some (.cells #[.bool true, v, .int .i64 s.1] 109 (0, 0)) ∧ VLt v p) ∧ SlB w v s.2
theorem src_lt {w : World} {p : Nat} {s : Sb.Src} (h : SrcP w p s) : p < w.heap.size := by obtain ⟨v, ⟨h, _⟩, _⟩ := h; exact (Array.getElem?_eq_some_iff.1 h).1
theorem nobyte_of {w : World} {p : Nat} {cs : Array Value} {T : TypeId} {f : Nat × Nat} (h : w.heap[p]? = some (.cells cs T f)) (hc : ∀ (i : Nat) (x : Int), cs[i]? ≠ some (Value.int .u8 x)) : NoByte w p := by
  intro a x e h1
  unfold World.cell? at h1
  rw [e, h] at h1
  dsimp only at h1
  split at h1
  · cases h1
  · exact hc _ _ h1
theorem src_nobyte {w : World} {p : Nat} {s : Sb.Src} (h : SrcP w p s) : NoByte w p := by
  obtain ⟨v, ⟨h, _⟩, A, c, rfl, _⟩ := h
  refine nobyte_of h fun i x hi => ?_
  match i, hi with
  | 0, hi => simp at hi
  | 1, hi => simp at hi
  | 2, hi => simp at hi
  | i + 3, hi => simp at hi
theorem src_below {w w' : World} {p : Nat} {s : Sb.Src} (h : SrcP w p s) (hb : Below w.heap.size w w') : SrcP w' p s := by
  have hl := src_lt h
  obtain ⟨v, ⟨h1, hv⟩, h2⟩ := h
  exact ⟨v, ⟨(hb.block p hl).trans h1, hv⟩, slb_below h2 hb⟩
theorem src_alloc {w : World} {p : Nat} {s : Sb.Src} (h : SrcP w p s) (o : Obj) : SrcP (w.alloc o) p s := src_below h ((Below.refl _ _).alloc (Nat.le_refl _) o)
theorem src_set {w : World} {p q i : Nat} {u : Value} {s : Sb.Src} (h : SrcP w p s) (hq : q ≠ p) (hn : NoByte w q) : SrcP (w.setCell ⟨q, i, none⟩ u) p s := by
  obtain ⟨v, ⟨h1, hv⟩, h2⟩ := h
  exact ⟨v, ⟨(Below.heap_setCell _ _ _ _ (by simpa using hq.symm)).trans h1, hv⟩, slb_keep h2 hn ((Keep1.refl q w).set i u)⟩
theorem keep_new {p q : Nat} {a b c : World} (h : Keep1 p a b) (k : Keep1 q b c) (hq : a.heap.size ≤ q) : Keep1 p a c :=
  ⟨k.os.trans h.os, k.tape.trans h.tape, k.output.trans h.output, Nat.le_trans h.size k.size, fun hi hp => (k.block (Nat.lt_of_lt_of_le hi h.size) (by omega)).trans (h.block hi hp)⟩
theorem src_keep {w w' : World} {p q : Nat} {s : Sb.Src} (h : SrcP w p s) (hn : NoByte w q) (hq : p ≠ q) (hk : Keep1 q w w') : SrcP w' p s := by
  have hl := src_lt h
  obtain ⟨v, ⟨h1, hv⟩, h2⟩ := h
  exact ⟨v, ⟨(hk.block hl hq).trans h1, hv⟩, slb_keep h2 hn hk⟩
end Go.Proofs.YtcjidlgmbjebjaaGreatDoor

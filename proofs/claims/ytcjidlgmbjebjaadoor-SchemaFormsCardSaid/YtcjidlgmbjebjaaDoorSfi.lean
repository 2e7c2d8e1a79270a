/- A part of the proof of SchemaForms. -/
import Derived.Test.YtcjidlgmbjebjaaDoorPSchemaFormsx0
import Derived.Laws.BytesArg
import Derived.Test.YtcjidlgmbjebjaaDoorSfh
import Derived.Deep.RegionHeld3
import Derived.Lib.SliceRun
set_option linter.unusedVariables false
set_option linter.unusedSimpArgs false
set_option maxRecDepth 100000
namespace Go.Proofs.YtcjidlgmbjebjaaDoor.PSchemaForms
open Go.RowKit Go.Proofs.YtcjidlgmbjebjaaDoorW.PrintWords Go.Proofs.YtcjidlgmbjebjaaDoorW.PrintLast Go.Proofs.YtcjidlgmbjebjaaDoorW.PrintMore
attribute [local go_sem] max2_int min2_int max_two min_two max_three min_three max_four min_four   -- for this text's walks alone

/-! ### octet_Get: function 152 -/
mutual
def octet_Get.j0 : Nat → List Int → Int → Bool → Bool → Option (Int × Bool)
  | 0, _, _, _, _ => none
  | k + 1, x0, x1, x2, x22 => if x22 = true then (some (0, false)) else (octet_Get.l0 k x0 x1 x2 0 x1 0)
def octet_Get.l0 : Nat → List Int → Int → Bool → Int → Int → Int → Option (Int × Bool)
  | 0, _, _, _, _, _, _ => none
  | k + 1, x0, x1, x2, x8, x23, x24 => if x24 < x23 then (if x2 = true then (if 0 ≤ (wrap64 ((wrap64 (x1 - 1)) - x24)) then (if (wrap64 ((wrap64 (x1 - 1)) - x24)) < (x0.length : Int) then (octet_Get.l0 k x0 x1 x2 (Go.bits .or .u64 (IntKind.u64.wrap (x8 * 256)) (IntKind.u64.wrap (rd x0 (wrap64 ((wrap64 (x1 - 1)) - x24))))) x23 (wrap64 (x24 + 1))) else (none)) else (none)) else (if 0 ≤ x24 then (if x24 < (x0.length : Int) then (octet_Get.l0 k x0 x1 x2 (Go.bits .or .u64 (IntKind.u64.wrap (x8 * 256)) (IntKind.u64.wrap (rd x0 x24))) x23 (wrap64 (x24 + 1))) else (none)) else (none))) else (some (x8, true))
end
def octet_Get.f (k : Nat) (l0 : List Int) (a1 : Int) (a2 : Bool) : Option (Int × Bool) := if a1 < 1 then (octet_Get.j0 k l0 a1 a2 true) else (if a1 > 8 then (octet_Get.j0 k l0 a1 a2 true) else (octet_Get.j0 k l0 a1 a2 (decide ((l0.length : Int) < a1))))
theorem octet_Get.mono_l : ∀ k, (∀ y0 y1 y2 y3, LeO (octet_Get.j0 k y0 y1 y2 y3) (octet_Get.j0 (k + 1) y0 y1 y2 y3)) ∧ (∀ y0 y1 y2 y3 y4 y5, LeO (octet_Get.l0 k y0 y1 y2 y3 y4 y5) (octet_Get.l0 (k + 1) y0 y1 y2 y3 y4 y5))
  | 0 => ⟨fun _ _ _ _ r h => by simp [octet_Get.j0] at h, fun _ _ _ _ _ _ r h => by simp [octet_Get.l0] at h⟩
  | k + 1 => by
    obtain ⟨ih0, ih1⟩ := octet_Get.mono_l k
    refine ⟨?_, ?_⟩
    · intro y0 y1 y2 y3
      unfold octet_Get.j0
      repeat' first
      | (with_reducible exact ih0 _ _ _ _)
      | (with_reducible exact ih1 _ _ _ _ _ _)
      | (with_reducible exact LeO.refl _)
      | (with_reducible exact LeO.none _)
      | (with_reducible refine LeO.ite ?_ ?_)
      | (with_reducible refine LeO.bind ?_ (fun _ => ?_))
      | exact ih0 _ _ _ _
      | exact ih1 _ _ _ _ _ _
      | exact LeO.none _
      | refine LeO.ite ?_ ?_
      | refine LeO.bind ?_ (fun _ => ?_)
    · intro y0 y1 y2 y3 y4 y5
      unfold octet_Get.l0
      repeat' first
      | (with_reducible exact ih0 _ _ _ _)
      | (with_reducible exact ih1 _ _ _ _ _ _)
      | (with_reducible exact LeO.refl _)
      | (with_reducible exact LeO.none _)
      | (with_reducible refine LeO.ite ?_ ?_)
      | (with_reducible refine LeO.bind ?_ (fun _ => ?_))
      | exact ih0 _ _ _ _
      | exact ih1 _ _ _ _ _ _
      | exact LeO.none _
      | refine LeO.ite ?_ ?_
      | refine LeO.bind ?_ (fun _ => ?_)
theorem octet_Get.mono : ∀ a0 a1 a2 k, LeO (octet_Get.f k a0 a1 a2) (octet_Get.f (k + 1) a0 a1 a2) := by
  intro a0 a1 a2 k
  obtain ⟨ih0, ih1⟩ := octet_Get.mono_l k
  unfold octet_Get.f
  repeat' first
      | (with_reducible exact ih0 _ _ _ _)
      | (with_reducible exact ih1 _ _ _ _ _ _)
      | (with_reducible exact LeO.refl _)
      | (with_reducible exact LeO.none _)
      | (with_reducible refine LeO.ite ?_ ?_)
      | (with_reducible refine LeO.bind ?_ (fun _ => ?_))
      | exact ih0 _ _ _ _
      | exact ih1 _ _ _ _ _ _
      | exact LeO.none _
      | refine LeO.ite ?_ ?_
      | refine LeO.bind ?_ (fun _ => ?_)
set_option maxHeartbeats 8000000 in
set_option maxRecDepth 100000 in
theorem octet_Get.calls (k : Nat) (A0 : Option Addr) (c0 : Nat) (l0 : List Int) (a1 : Int) (a2 : Bool) (r1 : Int) (r2 : Bool) (w : World) (hr0 : Kd.C (Kd.int .u8) w A0 l0.length l0) (hc0 : l0.length ≤ c0) (h : octet_Get.f k l0 a1 a2 = some (r1, r2)) :
    Calls Tryd.prog 152 #[.slice A0 l0.length c0, .int .i64 a1, .bool a2] w fun e w' => e = .returned (.tuple #[.int .u64 r1, .bool r2]) ∧ Drawn0 w w' := by
  have HR0 := Aside0.mk hr0
  have HC0 := Aside0.mk hc0
  clear hr0 hc0
  have H : (if a1 < 1 then (octet_Get.j0 k l0 a1 a2 true) else (if a1 > 8 then (octet_Get.j0 k l0 a1 a2 true) else (octet_Get.j0 k l0 a1 a2 (decide ((l0.length : Int) < a1))))) = some (r1, r2) := h
  clear h
  have HC4 := Aside0.mk H
  clear H
  go_enter Tryd.func152, Tryd.ntmps152
  go_upto_region 1 with (fail)
  go_cut [22] (fun v22 wc => ∃ (kq : Nat) (x22_3 : Bool), v22 = .bool x22_3 ∧ Aside0 (octet_Get.j0 kq l0 a1 a2 x22_3 = some (r1, r2)) ∧ Aside0 (kq ≤ k) ∧ Drawn0 w wc)
  case first =>
    have H := HC4.out
    clear HC4
    by_cases c5 : a1 < 1
    · rw [if_pos c5] at H
      have c5b0 : decide (a1 < 1) = true := decide_eq_true c5
      clear c5
      (first | rw [c5b0] | (simp only [i64_w, i32_w]; rw [c5b0]) | skip)
      have H' := Aside0.mk H
      clear H
      go_wp2
      go_meet
      case rel => exact ⟨_, (true), (by first | rfl | (simp; done) | (simp [*]; done)), H', ⟨by first | omega | exact Nat.le_refl _⟩, by repeat (first | exact Drawn0.refl _ | apply Drawn0.step)⟩
    · rw [if_neg c5] at H
      have c5b0 : decide (a1 < 1) = false := decide_eq_false c5
      clear c5
      (first | rw [c5b0] | (simp only [i64_w, i32_w]; rw [c5b0]) | skip)
      by_cases c6 : a1 > 8
      · rw [if_pos c6] at H
        have c6b0 : decide (8 < a1) = true := decide_eq_true c6
        clear c6
        have H' := Aside0.mk H
        clear H
        go_wp2
        go_meet
        case rel => exact ⟨_, (true), (by first | rfl | (simp; done) | (simp [*]; done)), H', ⟨by first | omega | exact Nat.le_refl _⟩, by repeat (first | exact Drawn0.refl _ | apply Drawn0.step)⟩
      · rw [if_neg c6] at H
        have c6b0 : decide (8 < a1) = false := decide_eq_false c6
        clear c6
        have H' := Aside0.mk H
        clear H
        go_wp2
        go_meet
        case rel => exact ⟨_, (decide ((l0.length : Int) < a1)), (by first | rfl | (simp; done) | (simp [*]; done)), H', ⟨by first | omega | exact Nat.le_refl _⟩, by repeat (first | exact Drawn0.refl _ | apply Drawn0.step)⟩
  case rest =>
    clear HC4
    try clear c1
    try clear p2
    try clear c5
    try clear c5b0
    try clear c6
    try clear c6b0
    obtain ⟨kq, x22_3, rfl, HA, HJ3, ⟨mc3, rfl⟩⟩ := hcut
    cases kq with
    | zero => exact absurd HA.out (by simp [octet_Get.j0])
    | succ kj3 =>
      have H := HA.out
      clear HA
      simp only [octet_Get.j0] at H
      by_cases c7 : x22_3 = true
      · subst c7
        have H1 : (some (0, false)) = some (r1, r2) := by rw [if_pos rfl] at H; exact H
        clear H
        have H := H1
        clear H1
        simp only [Option.some.injEq, Prod.mk.injEq] at H
        obtain ⟨rfl, rfl⟩ := H
        go_wp2
        go_ret2
        exact ⟨by first | rfl | (simp; done) | (simp [*]; done), by repeat (first | exact Drawn0.refl _ | apply Drawn0.step)⟩
      · replace c7 := Bool.eq_false_iff.mpr c7
        subst c7
        have H1 : (octet_Get.l0 kj3 l0 a1 a2 0 a1 0) = some (r1, r2) := by rw [if_neg (show ¬ (false = true) by decide)] at H; exact H
        clear H
        have H := H1
        clear H1
        have H' := Aside0.mk H
        clear H
        go_wp2
        go_loopg [8, 24] kj3 (fun kq v8 v24 w' => ∃ (x8_2 : Int) (x24_2 : Int), v8 = .int .u64 x8_2 ∧ v24 = .int .i64 x24_2 ∧ Aside0 (octet_Get.l0 kq l0 a1 a2 x8_2 a1 x24_2 = some (r1, r2)) ∧ Aside0 (kq ≤ kj3) ∧ Drawn0 w w')
        case atStart => exact ⟨(0), (0), (by first | rfl | (simp; done) | (simp [*]; done)), (by first | rfl | (simp; done) | (simp [*]; done)), H', ⟨Nat.le_refl _⟩, by repeat (first | exact Drawn0.refl _ | apply Drawn0.step)⟩
        case round =>
          clear H'
          try clear c1
          try clear p2
          try clear c3
          try clear c5
          try clear c5b0
          try clear c6
          try clear c6b0
          try clear c7
          try clear p2
          obtain ⟨x8_2, x24_2, rfl, rfl, HA, HK2, ⟨m2, rfl⟩⟩ := hrel
          cases gk with
          | zero => exact absurd HA.out (by simp [octet_Get.l0])
          | succ k2 =>
            have H := HA.out
            clear HA
            simp only [octet_Get.l0] at H
            by_cases c8 : x24_2 < a1
            · rw [if_pos c8] at H
              have c8b0 : decide (x24_2 < a1) = true := decide_eq_true c8
              clear c8
              by_cases c9 : a2 = true
              · subst c9
                have H1 : (if 0 ≤ (wrap64 ((wrap64 (a1 - 1)) - x24_2)) then (if (wrap64 ((wrap64 (a1 - 1)) - x24_2)) < (l0.length : Int) then (octet_Get.l0 k2 l0 a1 true (Go.bits .or .u64 (IntKind.u64.wrap (x8_2 * 256)) (IntKind.u64.wrap (rd l0 (wrap64 ((wrap64 (a1 - 1)) - x24_2))))) a1 (wrap64 (x24_2 + 1))) else (none)) else (none)) = some (r1, r2) := by rw [if_pos rfl] at H; exact H
                clear H
                have H := H1
                clear H1
                obtain ⟨ji10, hji10⟩ : ∃ j_ : Int, (wrap64 ((wrap64 (a1 - 1)) - x24_2)) = j_ := ⟨_, rfl⟩
                replace H : (if 0 ≤ (ji10) then (if (ji10) < (l0.length : Int) then (octet_Get.l0 k2 l0 a1 true (Go.bits .or .u64 (IntKind.u64.wrap (x8_2 * 256)) (IntKind.u64.wrap (rd l0 (ji10)))) a1 (wrap64 (x24_2 + 1))) else (none)) else (none)) = some (r1, r2) := by first | (rw [hji10] at H; exact H) | (simp only [hji10] at H ⊢; exact H)
                have hji10w : (IntKind.i64.wrap ((wrap64 (a1 - 1)) - x24_2)) = ji10 := (i64_w _).trans hji10
                by_cases c11 : 0 ≤ (ji10)
                · rw [if_pos c11] at H
                  have c11b0 : decide (0 ≤ (ji10)) = true := decide_eq_true c11
                  clear c11
                  by_cases c12 : (ji10) < (l0.length : Int)
                  · rw [if_pos c12] at H
                    have c12b0 : decide ((ji10) < (l0.length : Int)) = true := decide_eq_true c12
                    clear c12
                    have H' := Aside0.mk H
                    clear H
                    have p101 : 0 ≤ ((ji10) : Int) := of_decide_eq_true (by first | (with_reducible assumption) | assumption)
                    have q101 : (ji10) < (l0.length : Int) := of_decide_eq_true (by first | (with_reducible assumption) | assumption)
                    obtain ⟨ad101, e101, hx101_0⟩ := Kd.at_int HR0.out (ji10) p101 q101
                    cases e101
                    replace p101 := eq_true p101
                    replace q101 := eq_true q101
                    go_wp2
                    go_roundg k2
                    case measure => have := HJ3.out; have := HK2.out; omega
                    case rel => exact ⟨(Go.bits .or .u64 (IntKind.u64.wrap (x8_2 * 256)) (IntKind.u64.wrap (rd l0 (ji10)))), (wrap64 (x24_2 + 1)), (by first | rfl | (simp; done) | (simp only [← hji10] <;> (first | rfl | simp)) | (simp [*]; done)), (by first | rfl | (simp; done) | (simp [*]; done)), H', ⟨by have := HJ3.out; have := HK2.out; omega⟩, by repeat (first | exact Drawn0.refl _ | apply Drawn0.step)⟩
                  · rw [if_neg c12] at H
                    exact absurd H (by simp)
                · rw [if_neg c11] at H
                  exact absurd H (by simp)
              · replace c9 := Bool.eq_false_iff.mpr c9
                subst c9
                have H1 : (if 0 ≤ x24_2 then (if x24_2 < (l0.length : Int) then (octet_Get.l0 k2 l0 a1 false (Go.bits .or .u64 (IntKind.u64.wrap (x8_2 * 256)) (IntKind.u64.wrap (rd l0 x24_2))) a1 (wrap64 (x24_2 + 1))) else (none)) else (none)) = some (r1, r2) := by rw [if_neg (show ¬ (false = true) by decide)] at H; exact H
                clear H
                have H := H1
                clear H1
                by_cases c13 : 0 ≤ x24_2
                · rw [if_pos c13] at H
                  have c13b0 : decide (0 ≤ x24_2) = true := decide_eq_true c13
                  clear c13
                  by_cases c14 : x24_2 < (l0.length : Int)
                  · rw [if_pos c14] at H
                    have c14b0 : decide (x24_2 < (l0.length : Int)) = true := decide_eq_true c14
                    clear c14
                    have H' := Aside0.mk H
                    clear H
                    have p102 : 0 ≤ (x24_2 : Int) := of_decide_eq_true (by first | (with_reducible assumption) | assumption)
                    have q102 : x24_2 < (l0.length : Int) := of_decide_eq_true (by first | (with_reducible assumption) | assumption)
                    obtain ⟨ad102, e102, hx102_0⟩ := Kd.at_int HR0.out x24_2 p102 q102
                    cases e102
                    replace p102 := eq_true p102
                    replace q102 := eq_true q102
                    go_wp2
                    go_roundg k2
                    case measure => have := HJ3.out; have := HK2.out; omega
                    case rel => exact ⟨(Go.bits .or .u64 (IntKind.u64.wrap (x8_2 * 256)) (IntKind.u64.wrap (rd l0 x24_2))), (wrap64 (x24_2 + 1)), (by first | rfl | (simp; done) | (simp [*]; done)), (by first | rfl | (simp; done) | (simp [*]; done)), H', ⟨by have := HJ3.out; have := HK2.out; omega⟩, by repeat (first | exact Drawn0.refl _ | apply Drawn0.step)⟩
                  · rw [if_neg c14] at H
                    exact absurd H (by simp)
                · rw [if_neg c13] at H
                  exact absurd H (by simp)
            · rw [if_neg c8] at H
              have c8b0 : decide (x24_2 < a1) = false := decide_eq_false c8
              clear c8
              simp only [Option.some.injEq, Prod.mk.injEq] at H
              obtain ⟨rfl, rfl⟩ := H
              go_wp2
              go_ret2
              exact ⟨by first | rfl | (simp; done) | (simp [*]; done), by repeat (first | exact Drawn0.refl _ | apply Drawn0.step)⟩

end Go.Proofs.YtcjidlgmbjebjaaDoor.PSchemaForms

namespace Go.Proofs.YtcjidlgmbjebjaaDoor.Sb
open Go
abbrev Col := ByteArray × Int × Bool
abbrev Src := Int × List Int
def sTake (n : Nat) (s : Src) : List Int × Src := if s.1 = 0 then (if s.2.length < n then ([], (8, [])) else (s.2.take n, (0, s.2.drop n))) else ([], s)
def sByte (s : Src) : Int × Src := ((sTake 1 s).1.headD 0, (sTake 1 s).2)
def be (l : List Int) : Int := l.foldl (fun n b => n * 256 + b) 0
def i64of (n : Int) : Int := if n < 9223372036854775808 then n else n - 18446744073709551616
def sInt (s : Src) : Int × Src := (i64of (be (sTake 8 s).1), (sTake 8 s).2)
def sName (s : Src) : ByteArray × Src := (strOfNums (sTake (sByte s).1.toNat (sByte s).2).1, (sTake (sByte s).1.toNat (sByte s).2).2)
def sCol (s : Src) : Col × Src := (((sName s).1, (sByte (sName s).2).1, decide ((sByte (sByte (sName s).2).2).1 = 1)), (sByte (sByte (sName s).2).2).2)
def sCols : Nat → Src → List Col × Src
  | 0, s => ([], s)
  | n + 1, s => if s.1 = 0 then ((sCol s).1 :: (sCols n (sCol s).2).1, (sCols n (sCol s).2).2) else ([], s)
structure Ent where
  nm : ByteArray
  kd : Int
  srs : Int
  cs : List Col
  id : Int
  tb : Int
  t0 : Int
  t1 : Int
  t2 : Int
  ct : Int
  nx : Int
  bn : Bool
  lx : Int
  ly : Int
  hx : Int
  hy : Int
def Ent.zero : Ent := ⟨⟨#[]⟩, 0, 0, [], 0, 0, 0, 0, 0, 0, 0, false, 0, 0, 0, 0⟩
def putB (n : Int) : List Int := [n / 72057594037927936 % 256, n / 281474976710656 % 256, n / 1099511627776 % 256, n / 4294967296 % 256, n / 16777216 % 256, n / 65536 % 256, n / 256 % 256, n % 256]
def u64of (n : Int) : Int := n % 18446744073709551616
def bytesOf (s : ByteArray) : List Int := s.data.toList.map fun b => (b.toNat : Int)
def nmB (s : ByteArray) : List Int := (s.size : Int) :: bytesOf s
def colB (c : Col) : List Int := nmB c.1 ++ [c.2.1, if c.2.2 then 1 else 0]
def colsB (cs : List Col) : List Int := cs.flatMap colB
def numB (n : Int) : List Int := putB (u64of n)
def numsB (e : Ent) : List Int := numB e.id ++ (numB e.tb ++ (numB e.t0 ++ (numB e.t1 ++ (numB e.t2 ++ (numB e.ct ++ numB e.nx)))))
def boxB (e : Ent) : List Int := if e.bn then [] else numB e.lx ++ (numB e.hx ++ (numB e.ly ++ numB e.hy))
def body (e : Ent) : List Int := nmB e.nm ++ (e.kd :: (numB e.srs ++ ((e.cs.length : Int) :: (colsB e.cs ++ (numsB e ++ ((if e.bn then 0 else 1) :: boxB e))))))
/-- The box of 32 bytes. -/
def boxOf (l : List Int) : Option (Int × Int × Int × Int) :=
  if l.length = 32 then
    (if (sInt (0, l)).1 ≤ (sInt (sInt (0, l)).2).1 ∧ (sInt (sInt (sInt (0, l)).2).2).1 ≤ (sInt (sInt (sInt (sInt (0, l)).2).2).2).1 then
      some ((sInt (0, l)).1, (sInt (sInt (sInt (0, l)).2).2).1, (sInt (sInt (0, l)).2).1, (sInt (sInt (sInt (sInt (0, l)).2).2).2).1)
    else none) else none
/-- What stands ahead of the box. -/
def rHead (b : List Int) : Ent × Src :=
  let a1 := sName (0, b)
  let a2 := sByte a1.2
  let a3 := sInt a2.2
  let a4 := sByte a3.2
  let a5 := sCols a4.1.toNat a4.2
  let n0 := sInt a5.2
  let n1 := sInt n0.2
  let n2 := sInt n1.2
  let n3 := sInt n2.2
  let n4 := sInt n3.2
  let n5 := sInt n4.2
  let n6 := sInt n5.2
  (⟨a1.1, a2.1, a3.1, a5.1, n0.1, n1.1, n2.1, n3.1, n4.1, n5.1, n6.1, true, 0, 0, 0, 0⟩, n6.2)
def withBox (e : Ent) (x : Int × Int × Int × Int) : Ent := { e with bn := false, lx := x.1, ly := x.2.1, hx := x.2.2.1, hy := x.2.2.2 }
def raw (b : List Int) : Option Ent × Src :=
  if (sByte (rHead b).2).1 = 1 then ((boxOf (sTake 32 (sByte (rHead b).2).2).1).map (withBox (rHead b).1), (sTake 32 (sByte (rHead b).2).2).2)
  else (some (rHead b).1, (sByte (rHead b).2).2)
def entB (ok : Ent → Bool) (e : Ent) : List Int := bif ok e then body e else []
def parse (ok : Ent → Bool) (b : List Int) : Option Ent :=
  match raw b with
  | (none, _) => none
  | (some e, s) => if s = (0, []) ∧ entB ok e = b then some e else none
def I64 (n : Int) : Prop := -9223372036854775808 ≤ n ∧ n ≤ 9223372036854775807
structure Fit (e : Ent) : Prop where
  srs : I64 e.srs
  id : I64 e.id
  tb : I64 e.tb
  t0 : I64 e.t0
  t1 : I64 e.t1
  t2 : I64 e.t2
  ct : I64 e.ct
  nx : I64 e.nx
  lx : I64 e.lx
  ly : I64 e.ly
  hx : I64 e.hx
  hy : I64 e.hy
  no : e.bn = true → e.lx = 0 ∧ e.ly = 0 ∧ e.hx = 0 ∧ e.hy = 0
  yes : e.bn = false → e.lx ≤ e.hx ∧ e.ly ≤ e.hy
theorem sTake_app (n : Nat) (a r : List Int) (h : a.length = n) : sTake n (0, a ++ r) = (a, (0, r)) := by
  subst h
  simp [sTake]
theorem sByte_app (x : Int) (r : List Int) : sByte (0, x :: r) = (x, (0, r)) := by
  have := sTake_app 1 [x] r rfl
  simp only [List.cons_append, List.nil_append] at this
  unfold sByte
  rw [this]; rfl
theorem be_put (n : Int) (h0 : 0 ≤ n) (h1 : n < 18446744073709551616) : be (putB n) = n := by
  simp only [be, putB, List.foldl]
  omega
theorem i64_u64 (n : Int) (h : I64 n) : i64of (u64of n) = n := by
  unfold I64 at h
  unfold i64of u64of
  split <;> omega
theorem sInt_app (n : Int) (h : I64 n) (r : List Int) : sInt (0, numB n ++ r) = (n, (0, r)) := by
  unfold sInt
  rw [sTake_app 8 (numB n) r rfl]
  show (i64of (be (putB (u64of n))), _) = _
  rw [be_put _ (by unfold u64of; omega) (by unfold u64of; omega), i64_u64 n h]
theorem str_bytes (s : ByteArray) : strOfNums (bytesOf s) = s := by
  unfold strOfNums bytesOf
  rw [List.map_map]
  have : ((fun n : Int => UInt8.ofNat n.toNat) ∘ fun b : UInt8 => (b.toNat : Int)) = id := by
    funext b
    simp
  rw [this, List.map_id]
theorem bytesOf_len (s : ByteArray) : (bytesOf s).length = s.size := by
  unfold bytesOf
  rw [List.length_map, Array.length_toList]; rfl
theorem sName_app (s : ByteArray) (r : List Int) : sName (0, nmB s ++ r) = (s, (0, r)) := by
  unfold sName nmB
  rw [List.cons_append, sByte_app]
  simp only [Int.toNat_natCast]
  rw [sTake_app _ _ _ (bytesOf_len s), str_bytes]
theorem sCol_app (c : Col) (r : List Int) : sCol (0, colB c ++ r) = (c, (0, r)) := by
  obtain ⟨n, k, m⟩ := c
  unfold sCol colB
  rw [List.append_assoc, sName_app]
  simp only [List.cons_append, List.nil_append, sByte_app]
  cases m <;> simp
theorem sCols_app (cs : List Col) : ∀ r : List Int, sCols cs.length (0, colsB cs ++ r) = (cs, (0, r)) := by
  induction cs with
  | nil => intro r; rfl
  | cons c cs ih =>
    intro r
    unfold colsB
    rw [List.length_cons, sCols, if_pos rfl, List.flatMap_cons, List.append_assoc, sCol_app]
    have := ih r
    unfold colsB at this
    rw [this]
theorem rHead_app (e : Ent) (f : Fit e) (r : List Int) :
    rHead (nmB e.nm ++ (e.kd :: (numB e.srs ++ ((e.cs.length : Int) :: (colsB e.cs ++ (numsB e ++ r)))))) = ({ e with bn := true, lx := 0, ly := 0, hx := 0, hy := 0 }, (0, r)) := by
  unfold rHead numsB
  simp only [List.append_assoc, sName_app, sByte_app, sInt_app _ f.srs, Int.toNat_natCast, sCols_app, sInt_app _ f.id, sInt_app _ f.tb, sInt_app _ f.t0, sInt_app _ f.t1, sInt_app _ f.t2, sInt_app _ f.ct, sInt_app _ f.nx]
theorem numB_len (n : Int) : (numB n).length = 8 := rfl
theorem boxOf_app (lx ly hx hy : Int) (h1 : I64 lx) (h2 : I64 ly) (h3 : I64 hx) (h4 : I64 hy) (a : lx ≤ hx) (b : ly ≤ hy) : boxOf (numB lx ++ (numB hx ++ (numB ly ++ numB hy))) = some (lx, ly, hx, hy) := by
  unfold boxOf
  rw [if_pos (by simp [numB_len])]
  have e : numB lx ++ (numB hx ++ (numB ly ++ numB hy)) = numB lx ++ (numB hx ++ (numB ly ++ (numB hy ++ []))) := by simp
  rw [e]
  simp only [sInt_app _ h1, sInt_app _ h2, sInt_app _ h3, sInt_app _ h4]
  rw [if_pos ⟨a, b⟩]
theorem raw_app (e : Ent) (f : Fit e) (r : List Int) : raw (body e ++ r) = (some e, (0, r)) := by
  have hb : body e ++ r = nmB e.nm ++ (e.kd :: (numB e.srs ++ ((e.cs.length : Int) :: (colsB e.cs ++ (numsB e ++ (((if e.bn then 0 else 1) :: boxB e) ++ r)))))) := by
    unfold body; simp
  unfold raw
  rw [hb, rHead_app e f, List.cons_append]
  dsimp only
  rw [sByte_app]
  cases hn : e.bn with
  | true =>
    obtain ⟨z1, z2, z3, z4⟩ := f.no hn
    simp only [if_true]
    rw [if_neg (by decide)]
    unfold boxB
    rw [hn]
    simp only [if_true, List.nil_append]
    cases e
    simp only at hn z1 z2 z3 z4
    subst hn z1 z2 z3 z4
    rfl
  | false =>
    obtain ⟨a, b⟩ := f.yes hn
    simp only [Bool.false_eq_true, if_false]
    rw [if_pos trivial]
    unfold boxB
    rw [hn]
    simp only [Bool.false_eq_true, if_false]
    rw [sTake_app 32 _ r rfl, boxOf_app _ _ _ _ f.lx f.ly f.hx f.hy a b]
    cases e
    simp only at hn
    subst hn
    rfl
theorem parse_back (ok : Ent → Bool) (hok : ∀ e, ok e = true → Fit e) (e : Ent) (h : ok e = true) : parse ok (entB ok e) = some e := by
  have hE : entB ok e = body e := by unfold entB; rw [h]; rfl
  have := raw_app e (hok e h) []
  rw [List.append_nil] at this
  unfold parse
  rw [hE, this]
  dsimp only
  rw [if_pos ⟨rfl, hE⟩]
theorem body_ne (e : Ent) : body e ≠ [] := by unfold body nmB; simp
theorem parse_some {ok : Ent → Bool} {b : List Int} {e : Ent} (h : parse ok b = some e) : raw b = (some e, (0, [])) ∧ entB ok e = b := by
  unfold parse at h
  split at h
  · cases h
  · rename_i e' s heq
    split at h
    · rename_i hc
      injection h with h
      subst h
      rw [heq, hc.1]
      exact ⟨rfl, hc.2⟩
    · cases h
theorem raw_nil : raw [] = (some { Ent.zero with bn := true }, (8, [])) := by rfl
theorem parse_nil (ok : Ent → Bool) : parse ok [] = none := by
  unfold parse
  rw [raw_nil]
  dsimp only
  rw [if_neg (fun h => by have := h.1; injection this with h1; cases h1)]
/-- Of two entries' bytes none begins the other. -/
theorem no_prefix {ok : Ent → Bool} (hok : ∀ e, ok e = true → Fit e) {e e' : Ent} {r : List Int} (h : entB ok e = entB ok e' ++ r) (h1 : ok e = true) (h2 : ok e' = true) : r = [] := by
  have a1 : entB ok e = body e := by unfold entB; rw [h1]; rfl
  have a2 : entB ok e' = body e' := by unfold entB; rw [h2]; rfl
  have r1 := raw_app e (hok e h1) []
  have r2 := raw_app e' (hok e' h2) r
  rw [a1, a2] at h
  rw [List.append_nil, h, r2] at r1
  injection r1 with _ r1
  injection r1
theorem ok_of_ne {ok : Ent → Bool} {e : Ent} (h : entB ok e ≠ []) : ok e = true := by
  unfold entB at h
  cases ho : ok e with
  | true => rfl
  | false => rw [ho] at h; exact absurd rfl h
theorem parse_cut (ok : Ent → Bool) (hok : ∀ e, ok e = true → Fit e) (e : Ent) (n : Nat) (hn : n < (entB ok e).length) : parse ok ((entB ok e).take n) = none := by
  cases hp : parse ok ((entB ok e).take n) with
  | none => rfl
  | some e' =>
    exfalso
    obtain ⟨_, h2⟩ := parse_some hp
    have hne : (entB ok e).take n ≠ [] := by
      intro h0
      rw [h0, parse_nil] at hp
      cases hp
    have k2 : ok e' = true := ok_of_ne (by rw [h2]; exact hne)
    have k1 : ok e = true := ok_of_ne (by intro h0; rw [h0] at hn; simp at hn)
    have := no_prefix hok (e := e) (e' := e') (r := (entB ok e).drop n) (by rw [h2, List.take_append_drop]) k1 k2
    have hl := congrArg List.length this
    rw [List.length_drop] at hl
    simp at hl
    omega
theorem parse_more (ok : Ent → Bool) (hok : ∀ e, ok e = true → Fit e) (e : Ent) (x : Int) (r : List Int) (h : entB ok e ≠ []) : parse ok (entB ok e ++ x :: r) = none := by
  cases hp : parse ok (entB ok e ++ x :: r) with
  | none => rfl
  | some e' =>
    exfalso
    obtain ⟨_, h2⟩ := parse_some hp
    have k2 : ok e' = true := ok_of_ne (by rw [h2]; simp)
    have := no_prefix hok (e := e') (e' := e) (r := x :: r) h2 k2 (ok_of_ne h)
    cases this
end Go.Proofs.YtcjidlgmbjebjaaDoor.Sb

namespace Go.Proofs.YtcjidlgmbjebjaaDoor
open Go Go.RowKit Go.Proofs.YtcjidlgmbjebjaaDoorW.PrintWords
/-- All blocks but one stay. -/
structure Keep1 (p : Nat) (w w' : World) : Prop where
  os : w'.os = w.os
  tape : w'.tape = w.tape
  output : w'.output = w.output
  size : w.heap.size ≤ w'.heap.size
  block : ∀ {k : Nat}, k < w.heap.size → k ≠ p → w'.heap[k]? = w.heap[k]?
theorem Keep1.refl (p : Nat) (w : World) : Keep1 p w w := ⟨rfl, rfl, rfl, Nat.le_refl _, fun _ _ => rfl⟩
theorem Keep1.trans {p : Nat} {a b c : World} (h : Keep1 p a b) (k : Keep1 p b c) : Keep1 p a c :=
  ⟨k.os.trans h.os, k.tape.trans h.tape, k.output.trans h.output, Nat.le_trans h.size k.size, fun hi hp => (k.block (Nat.lt_of_lt_of_le hi h.size) hp).trans (h.block hi hp)⟩
theorem Keep1.of_below {p : Nat} {a b : World} (h : Below a.heap.size a b) : Keep1 p a b := ⟨h.os, h.tape, h.output, h.size, fun hk _ => h.block _ hk⟩
theorem Keep1.alloc {p : Nat} {a w : World} (h : Keep1 p a w) (o : Obj) : Keep1 p a (w.alloc o) := h.trans (Keep1.of_below ((Below.refl _ _).alloc (Nat.le_refl _) o))
theorem Keep1.set {p : Nat} {a w : World} (h : Keep1 p a w) (i : Nat) (u : Value) : Keep1 p a (w.setCell ⟨p, i, none⟩ u) :=
  h.trans ⟨rfl, rfl, rfl, by simp [World.setCell], fun _ hk => Below.heap_setCell _ _ _ _ hk⟩
/-- A store into a new block. -/
theorem Keep1.setNew {p : Nat} {a w : World} (h : Keep1 p a w) (b i : Nat) (u : Value) (hb : a.heap.size ≤ b) : Keep1 p a (w.setCell ⟨b, i, none⟩ u) :=
  ⟨h.os, h.tape, h.output, by simp [World.setCell]; exact h.size, fun hk hp => (Below.heap_setCell w _ u _ (by simp; omega)).trans (h.block hk hp)⟩
theorem Keep1.below {p : Nat} {a w w' : World} {B : Nat} (h : Below B a w) (hk : Keep1 p w w') (hB : B ≤ p) (hs : B ≤ w.heap.size) : Below B a w' :=
  h.trans ⟨hk.os, hk.tape, hk.output, hk.size, fun k hkB => hk.block (by omega) (by omega)⟩
/-- A slice that reads as bytes. -/
def SlB (w : World) (v : Value) (l : List Int) : Prop := ∃ (A : Option Addr) (c : Nat), v = .slice A l.length c ∧ l.length ≤ c ∧ Kd.C (Kd.int .u8) w A l.length l
theorem kC_at {w : World} {A : Option Addr} {l : List Int} (h : Kd.C (Kd.int .u8) w A l.length l) (hl : 0 < l.length) : ∃ ad, A = some ad ∧ ∀ j x, l[j]? = some x → w.cell? (ad.add j) = some (.int .u8 x) := by
  obtain ⟨ad, e, hc⟩ := h.2.2 hl
  refine ⟨ad, e, fun j x hx => ?_⟩
  obtain ⟨c, hs, hr, hcell⟩ := hc j x hx
  have hr : c = [.int .u8 x] := hr
  subst hr
  have := hcell 0 (.int .u8 x) rfl
  rwa [show j * (Kd.int .u8).sz + 0 = j from by show j * 1 + 0 = j; omega] at this
theorem kC_mk {w : World} {A : Option Addr} {l : List Int} (hm : l.length ≤ 9223372036854775807) (h : 0 < l.length → ∃ ad, A = some ad ∧ ∀ j x, l[j]? = some x → w.cell? (ad.add j) = some (.int .u8 x)) : Kd.C (Kd.int .u8) w A l.length l := by
  refine ⟨rfl, hm, fun hl => ?_⟩
  obtain ⟨ad, e, hc⟩ := h hl
  refine ⟨ad, e, fun j x hx => ⟨[.int .u8 x], rfl, rfl, fun i u hu => ?_⟩⟩
  have hi : i = 0 := by
    have := (List.getElem?_eq_some_iff.1 hu).1
    simp at this
    exact this
  subst hi
  simp at hu
  subst hu
  rw [show j * (Kd.int .u8).sz + 0 = j from by show j * 1 + 0 = j; omega]
  exact hc j x hx
/-- A block in which no byte stands. -/
def NoByte (w : World) (p : Nat) : Prop := ∀ (a : Addr) (x : Int), a.block = p → w.cell? a ≠ some (.int .u8 x)
theorem kC_keep {p : Nat} {w w' : World} {A : Option Addr} {l : List Int} (h : Kd.C (Kd.int .u8) w A l.length l) (hn : NoByte w p) (hk : Keep1 p w w') : Kd.C (Kd.int .u8) w' A l.length l := by
  refine kC_mk h.2.1 fun hl => ?_
  obtain ⟨ad, e, hc⟩ := kC_at h hl
  refine ⟨ad, e, fun j x hx => ?_⟩
  have h1 := hc j x hx
  have hb : (ad.add j).block ≠ p := fun e => hn _ _ e h1
  have hlt : (ad.add j).block < w.heap.size := by
    rcases Nat.lt_or_ge (ad.add j).block w.heap.size with h' | h'
    · exact h'
    · simp [World.cell?, Array.getElem?_eq_none h'] at h1
  unfold World.cell? at h1 ⊢
  rw [hk.block hlt hb]
  exact h1
theorem slb_keep {p : Nat} {w w' : World} {v : Value} {l : List Int} (h : SlB w v l) (hn : NoByte w p) (hk : Keep1 p w w') : SlB w' v l := by
  obtain ⟨A, c, e, h1, h2⟩ := h
  exact ⟨A, c, e, h1, kC_keep h2 hn hk⟩
theorem slb_below {w w' : World} {v : Value} {l : List Int} (h : SlB w v l) (hb : Below w.heap.size w w') : SlB w' v l := by
  obtain ⟨A, c, e, h1, h2⟩ := h
  exact ⟨A, c, e, h1, Kd.C_below h2 hb⟩
theorem slb_nil (w : World) (A : Option Addr) (c : Nat) : SlB w (.slice A 0 c) [] := ⟨A, c, rfl, Nat.zero_le _, rfl, by decide, fun h => by simp at h⟩
theorem slb_row {w : World} {base : Nat} {v : Value} {l : List Int} (h : Row w base v l) (hm : l.length ≤ 9223372036854775807) : SlB w v l := by
  obtain ⟨p, c, rfl⟩ := row_shape h
  obtain ⟨_, h2, h3⟩ := row_C h hm
  exact ⟨p, c, rfl, h2, h3⟩
theorem kC_drop {w : World} {ad : Addr} {l : List Int} (n : Nat) (h : Kd.C (Kd.int .u8) w (some ad) l.length l) : Kd.C (Kd.int .u8) w (some (ad.add n)) (l.drop n).length (l.drop n) := by
  refine kC_mk (by have := h.2.1; rw [List.length_drop]; omega) fun hl => ?_
  rw [List.length_drop] at hl
  obtain ⟨ad', e, hc⟩ := kC_at h (by omega)
  injection e with e
  subst e
  refine ⟨_, rfl, fun j x hx => ?_⟩
  rw [Addr.add_add]
  rw [List.getElem?_drop] at hx
  exact hc _ _ hx
theorem kC_take {w : World} {A : Option Addr} {l : List Int} (n : Nat) (h : Kd.C (Kd.int .u8) w A l.length l) : Kd.C (Kd.int .u8) w A (l.take n).length (l.take n) := by
  refine kC_mk (by have := h.2.1; rw [List.length_take]; omega) fun hl => ?_
  rw [List.length_take] at hl
  obtain ⟨ad, e, hc⟩ := kC_at h (by omega)
  refine ⟨ad, e, fun j x hx => hc j x ?_⟩
  rw [List.getElem?_take] at hx
  split at hx
  · exact hx
  · cases hx
/-- A slice that lies in a block below p. -/
def VLt (v : Value) (p : Nat) : Prop := ∀ ad n c, v = .slice (some ad) n c → ad.block < p
theorem vlt_nil (n c p : Nat) : VLt (.slice none n c) p := fun ad m d e => by injection e with e; cases e
theorem vlt_same {A : Option Addr} {n c n' c' p : Nat} (h : VLt (.slice A n c) p) : VLt (.slice A n' c') p := fun ad m d e => by injection e with e; exact h ad n c (by rw [e])
theorem vlt_map {A : Option Addr} {n c n' c' k p : Nat} (h : VLt (.slice A n c) p) : VLt (.slice (A.map (fun x => x.add k)) n' c') p := fun ad m d e => by
  injection e with e
  cases A with
  | none => cases e
  | some a =>
    simp only [Option.map_some, Option.some.injEq] at e
    have hb : (a.add k).block = a.block := by unfold Addr.add; split <;> rfl
    rw [← e, hb]
    exact h a n c rfl
theorem vlt_row {w : World} {base : Nat} {v : Value} {l : List Int} (h : Row w base v l) : VLt v w.heap.size := fun ad n c e => by
  subst e
  rcases h.2 with ⟨hv, _⟩ | ⟨g, cap, cur, hv, _, hh, _⟩
  · injection hv with e; cases e
  · injection hv with e
    injection e with e
    subst e
    exact (Array.getElem?_eq_some_iff.1 hh).1
/-- The program's source at a block: its error, and what is left. -/
def SrcP (w : World) (p : Nat) (s : Sb.Src) : Prop := ∃ v, (w.heap[p]? = some (.cells #[.bool true, v, .int .i64 s.1] 178 (0, 0)) ∧ VLt v p) ∧ SlB w v s.2
theorem src_lt {w : World} {p : Nat} {s : Sb.Src} (h : SrcP w p s) : p < w.heap.size := by obtain ⟨v, ⟨h, _⟩, _⟩ := h; exact (Array.getElem?_eq_some_iff.1 h).1
theorem nobyte_of {w : World} {p : Nat} {cs : Array Value} {T : TypeId} {f : Nat × Nat} (h : w.heap[p]? = some (.cells cs T f)) (hc : ∀ (i : Nat) (x : Int), cs[i]? ≠ some (Value.int .u8 x)) : NoByte w p := by
  intro a x e h1
  unfold World.cell? at h1
  rw [e, h] at h1
  dsimp only at h1
  split at h1
  · cases h1
  · exact hc _ _ h1
theorem src_nobyte {w : World} {p : Nat} {s : Sb.Src} (h : SrcP w p s) : NoByte w p := by
  obtain ⟨v, ⟨h, _⟩, A, c, rfl, _⟩ := h
  refine nobyte_of h fun i x hi => ?_
  match i, hi with
  | 0, hi => simp at hi
  | 1, hi => simp at hi
  | 2, hi => simp at hi
  | i + 3, hi => simp at hi
theorem src_below {w w' : World} {p : Nat} {s : Sb.Src} (h : SrcP w p s) (hb : Below w.heap.size w w') : SrcP w' p s := by
  have hl := src_lt h
  obtain ⟨v, ⟨h1, hv⟩, h2⟩ := h
  exact ⟨v, ⟨(hb.block p hl).trans h1, hv⟩, slb_below h2 hb⟩
theorem src_alloc {w : World} {p : Nat} {s : Sb.Src} (h : SrcP w p s) (o : Obj) : SrcP (w.alloc o) p s := src_below h ((Below.refl _ _).alloc (Nat.le_refl _) o)
theorem src_set {w : World} {p q i : Nat} {u : Value} {s : Sb.Src} (h : SrcP w p s) (hq : q ≠ p) (hn : NoByte w q) : SrcP (w.setCell ⟨q, i, none⟩ u) p s := by
  obtain ⟨v, ⟨h1, hv⟩, h2⟩ := h
  exact ⟨v, ⟨(Below.heap_setCell _ _ _ _ (by simpa using hq.symm)).trans h1, hv⟩, slb_keep h2 hn ((Keep1.refl q w).set i u)⟩
theorem keep_new {p q : Nat} {a b c : World} (h : Keep1 p a b) (k : Keep1 q b c) (hq : a.heap.size ≤ q) : Keep1 p a c :=
  ⟨k.os.trans h.os, k.tape.trans h.tape, k.output.trans h.output, Nat.le_trans h.size k.size, fun hi hp => (k.block (Nat.lt_of_lt_of_le hi h.size) (by omega)).trans (h.block hi hp)⟩
theorem src_keep {w w' : World} {p q : Nat} {s : Sb.Src} (h : SrcP w p s) (hn : NoByte w q) (hq : p ≠ q) (hk : Keep1 q w w') : SrcP w' p s := by
  have hl := src_lt h
  obtain ⟨v, ⟨h1, hv⟩, h2⟩ := h
  exact ⟨v, ⟨(hk.block hl hq).trans h1, hv⟩, slb_keep h2 hn hk⟩
end Go.Proofs.YtcjidlgmbjebjaaDoor

namespace Go.Proofs.YtcjidlgmbjebjaaDoor
open Go Go.RowKit Go.Proofs.YtcjidlgmbjebjaaDoorW.PrintWords
theorem row_empty {w : World} {base : Nat} (hb : base ≤ w.heap.size) : Row (w.alloc (.cells #[] 5)) base (.slice (some ⟨w.heap.size, 0, none⟩) 0 0) [] :=
  own_full (w := w) (base := base) (e := 5) #[] 0 rfl hb (by decide)
set_option maxHeartbeats 2000000 in
theorem clone_val (v : Value) (l : List Int) (W : World) (hv : SlB W v l) (hl : l.length ≤ 140737488355000) : Calls Tryd.prog 113 #[v] W (RetRow l W) := by
  obtain ⟨A, c, rfl, hc, hC⟩ := hv
  cases A with
  | none =>
    have hl0 : l.length = 0 := by
      rcases Nat.eq_zero_or_pos l.length with h | h
      · exact h
      · obtain ⟨ad, e, _⟩ := kC_at hC h; cases e
    obtain rfl : l = [] := List.eq_nil_of_length_eq_zero hl0
    have hx := fun w => Lib.run_eql_slice_nil (P := Tryd.prog) w 43 5 none 0 c 0 0 Tryd.underlying43
    go_enter Tryd.func113, Tryd.ntmps113
    go_wp2
    go_ret
    exact ⟨_, rfl, World.ownsRow_nil _ _ _ _, Below.refl _ _⟩
  | some ad =>
    have hx := fun w => Lib.run_eql_slice_nil (P := Tryd.prog) w 43 5 (some ad) l.length c 0 0 Tryd.underlying43
    have HC := Lib.hid hC; clear hC
    go_enter Tryd.func113, Tryd.ntmps113
    go_wp2_with (at_builtin; refine wpList_app (by rfl) _ _ (by rfl) (by rfl) (by rfl) (row_empty (base := W.heap.size) (Nat.le_refl _)) (by rfl) (Kd.C_alloc HC.out _) (by simp; omega) (by simp) ?_)
    intro v' w' hr hb _
    have HR := Lib.hid hr; have HB := Lib.hid hb; clear hr hb
    go_wp2_with fail
    go_ret
    exact ⟨_, rfl, by simpa using HR.out, ((Below.refl W.heap.size W).alloc (Nat.le_refl _) _).trans HB.out⟩
theorem is_val (p : Nat) (s : Sb.Src) (W : World) (hs : SrcP W p s) : Calls Tryd.prog 123 #[.pointer (some ⟨p, 0, none⟩)] W (Same1 (.bool true) W) := by
  obtain ⟨v, ⟨h, _⟩, _⟩ := hs
  have c0 : W.cell? ⟨p, 0, none⟩ = some (.bool true) := by rw [Lib.cell_of_heap h]; rfl
  clear h
  go_enter Tryd.func123, Tryd.ntmps123
  go_wp2
  go_ret
  exact ⟨rfl, rfl⟩
/-- A method that changes a source alone. -/
def RetSt (v : Value) (p : Nat) (s : Sb.Src) (W : World) (e : Ending) (w' : World) : Prop := e = .returned v ∧ SrcP w' p s ∧ Keep1 p W w'
end Go.Proofs.YtcjidlgmbjebjaaDoor

namespace Go.Proofs.YtcjidlgmbjebjaaDoor
open Go Go.RowKit Go.Proofs.YtcjidlgmbjebjaaDoorW.PrintWords
theorem row_block {w : World} {base : Nat} {v : Value} {L : List Int} (h : Row w base v L) (hp : 0 < L.length) : ∃ g cap cur, v = .slice (some ⟨g, 0, none⟩) L.length cap ∧ base ≤ g ∧ L.length ≤ cap ∧ w.heap[g]? = some (.cells cur 5 (0, 0)) := by
  rcases h.2 with ⟨_, h1⟩ | ⟨g, cap, cur, hv, hg, hk, hcap, _⟩
  · omega
  · exact ⟨g, cap, cur, hv, hg, hcap, hk⟩
theorem row_set {w : World} {base g cap : Nat} {L : List Int} (h : Row w base (.slice (some ⟨g, 0, none⟩) L.length cap) L) (k : Nat) (x : Int) (hk : k < L.length) : Row (w.setCell ⟨g, k, none⟩ (.int .u8 x)) base (.slice (some ⟨g, 0, none⟩) L.length cap) (L.set k x) := by
  obtain ⟨h1, ⟨h2, h3⟩ | ⟨g', cap', cur, hv, hg, hh, hc, hm, hs, ht⟩⟩ := h
  · omega
  · injection hv with e1 e2 e3
    injection e1 with e1
    injection e1 with e1
    subst e1 e3
    have hl : (L.set k x).length = L.length := List.length_set
    unfold Row
    rw [hl]
    refine ⟨by simp [u8s], .inr ⟨g, cap, _, rfl, hg, heap_setCell_same w g k cur 5 (.int .u8 x) hh, hc, hm, by rw [Array.size_setIfInBounds]; exact hs, ?_⟩⟩
    rw [Array.toList_setIfInBounds, List.take_set, ht]
    unfold u8s
    rw [List.map_set]
theorem row_get {w : World} {base g cap : Nat} {L : List Int} (h : Row w base (.slice (some ⟨g, 0, none⟩) L.length cap) L) (k : Nat) (x : Int) (hx : L[k]? = some x) : w.cell? ⟨g, k, none⟩ = some (.int .u8 x) := by
  have := h.cells (g := g) rfl k (.int .u8 x) (by unfold u8s; rw [List.getElem?_map, hx]; rfl)
  rw [Addr.add_mid, Nat.zero_add] at this
  exact this
end Go.Proofs.YtcjidlgmbjebjaaDoor

namespace Go.Proofs.YtcjidlgmbjebjaaDoor
open Go Go.RowKit Go.Proofs.YtcjidlgmbjebjaaDoorW.PrintWords
/-- Eight numbers of which the first and the last i have changed places. -/
def swp (a0 a1 a2 a3 a4 a5 a6 a7 : Int) : Nat → List Int
  | 0 => [a0, a1, a2, a3, a4, a5, a6, a7]
  | 1 => [a7, a1, a2, a3, a4, a5, a6, a0]
  | 2 => [a7, a6, a2, a3, a4, a5, a1, a0]
  | 3 => [a7, a6, a5, a3, a4, a2, a1, a0]
  | _ => [a7, a6, a5, a4, a3, a2, a1, a0]
theorem swp_len (a0 a1 a2 a3 a4 a5 a6 a7 : Int) (i : Nat) : (swp a0 a1 a2 a3 a4 a5 a6 a7 i).length = 8 := by unfold swp; split <;> rfl
def RvR (base g cap : Nat) (l : List Int) (a0 a1 a2 a3 a4 a5 a6 a7 : Int) (W : World) (i j : Value) (w' : World) : Prop :=
  ∃ k : Nat, k ≤ 4 ∧ i = .int .i64 k ∧ j = .int .i64 (7 - k) ∧ Row w' base (.slice (some ⟨g, 0, none⟩) (l.length + 8) cap) (l ++ swp a0 a1 a2 a3 a4 a5 a6 a7 k) ∧ Below base W w'
theorem row_pair {w : World} {base g cap : Nat} {l m : List Int} (hm : m.length = 8) (h : Row w base (.slice (some ⟨g, 0, none⟩) (l.length + 8) cap) (l ++ m)) (i j : Nat) (x y : Int) (hi : i < 8) (hj : j < 8) :
    Row ((w.setCell ⟨g, l.length + i, none⟩ (.int .u8 x)).setCell ⟨g, l.length + j, none⟩ (.int .u8 y)) base (.slice (some ⟨g, 0, none⟩) (l.length + 8) cap) (l ++ (m.set i x).set j y) := by
  have e : (l ++ m).length = l.length + 8 := by rw [List.length_append, hm]
  rw [← e] at h ⊢
  have h1 := row_set h (l.length + i) x (by omega)
  have e1 : (l ++ m).set (l.length + i) x = l ++ m.set i x := by rw [List.set_append_right _ _ (by omega)]; congr 2; omega
  rw [e1] at h1
  have e2 : (l ++ m).length = (l ++ m.set i x).length := by simp
  rw [e2] at h1 ⊢
  have h2 := row_set h1 (l.length + j) y (by rw [← e2]; omega)
  have e3 : (l ++ m.set i x).set (l.length + j) y = l ++ (m.set i x).set j y := by rw [List.set_append_right _ _ (by omega)]; congr 2; omega
  rw [e3] at h2
  exact h2
set_option maxHeartbeats 8000000 in
theorem rev8_val (base g cap : Nat) (l : List Int) (a0 a1 a2 a3 a4 a5 a6 a7 : Int) (W : World) (hW : base ≤ W.heap.size) (hl : l.length ≤ 140737488355000) (h : Row W base (.slice (some ⟨g, 0, none⟩) (l.length + 8) cap) (l ++ [a0, a1, a2, a3, a4, a5, a6, a7])) :
    Calls Tryd.prog 149 #[.slice (some ⟨g, l.length, none⟩) 8 (cap - l.length)] W (fun e w' => e = .returned (.tuple #[]) ∧ Row w' base (.slice (some ⟨g, 0, none⟩) (l.length + 8) cap) (l ++ [a7, a6, a5, a4, a3, a2, a1, a0]) ∧ Below base W w') := by
  have HH := Lib.hid h; clear h
  go_enter Tryd.func149, Tryd.ntmps149
  go_wp2_with fail
  go_loopw [2, 3] (fun i j w' => RvR base g cap l a0 a1 a2 a3 a4 a5 a6 a7 W i j w') (fun i _ _ => 4 - (intOf i).toNat)
  case atStart => exact ⟨0, by omega, rfl, rfl, HH.out, Below.refl _ _⟩
  case round =>
    obtain ⟨k, hk, rfl, rfl, hrow, hB⟩ := hrel
    have hk5 : k = 0 ∨ k = 1 ∨ k = 2 ∨ k = 3 ∨ k = 4 := by omega
    clear hk
    rcases hk5 with rfl | rfl | rfl | rfl | rfl
    · have HR := Lib.hid hrow; clear hrow
      have e8 : (l ++ swp a0 a1 a2 a3 a4 a5 a6 a7 0).length = l.length + 8 := by rw [List.length_append, swp_len]
      have x0 := row_get (by rw [e8]; exact HR.out) (l.length + 0) a0 (by rw [List.getElem?_append_right (by omega)]; simp [swp])
      have x1 := row_get (by rw [e8]; exact HR.out) (l.length + 7) a7 (by rw [List.getElem?_append_right (by omega)]; simp [swp])
      have hg : base ≤ g := by obtain ⟨_, _, _, hv, hg, _, hh⟩ := row_block HR.out (by rw [e8]; omega); injection hv with e1; injection e1 with e1; injection e1 with e1; subst e1; exact hg
      have f0 : wr.frozen? ⟨g, l.length + 0, none⟩ = false := by obtain ⟨_, _, _, hv, _, _, hh⟩ := row_block HR.out (by rw [e8]; omega); injection hv with e1; injection e1 with e1; injection e1 with e1; subst e1; exact Lib.frozen_of_heap hh _
      have f1 : wr.frozen? ⟨g, l.length + 7, none⟩ = false := by obtain ⟨_, _, _, hv, _, _, hh⟩ := row_block HR.out (by rw [e8]; omega); injection hv with e1; injection e1 with e1; injection e1 with e1; subst e1; exact Lib.frozen_of_heap hh _
      have HREL := Lib.hid (show RvR base g cap l a0 a1 a2 a3 a4 a5 a6 a7 W (.int .i64 1) (.int .i64 6) ((wr.setCell ⟨g, l.length, none⟩ (.int .u8 a7)).setCell ⟨g, l.length + 7, none⟩ (.int .u8 a0)).drew from
        ⟨1, by omega, rfl, by simp, row_drew (row_pair (swp_len a0 a1 a2 a3 a4 a5 a6 a7 0) HR.out 0 7 a7 a0 (by omega) (by omega)), below_drew ((hB.setCell (by exact hg) _).setCell (by exact hg) _)⟩)
      simp only [Nat.add_zero] at x0 f0
      clear e8 hB
      go_wp2_with fail
      go_region
      go_wp2_with fail
      exact ⟨HREL.out, by simp [intOf]⟩
    · have HR := Lib.hid hrow; clear hrow
      have e8 : (l ++ swp a0 a1 a2 a3 a4 a5 a6 a7 1).length = l.length + 8 := by rw [List.length_append, swp_len]
      have x0 := row_get (by rw [e8]; exact HR.out) (l.length + 1) a1 (by rw [List.getElem?_append_right (by omega)]; simp [swp])
      have x1 := row_get (by rw [e8]; exact HR.out) (l.length + 6) a6 (by rw [List.getElem?_append_right (by omega)]; simp [swp])
      have hg : base ≤ g := by obtain ⟨_, _, _, hv, hg, _, hh⟩ := row_block HR.out (by rw [e8]; omega); injection hv with e1; injection e1 with e1; injection e1 with e1; subst e1; exact hg
      have f0 : wr.frozen? ⟨g, l.length + 1, none⟩ = false := by obtain ⟨_, _, _, hv, _, _, hh⟩ := row_block HR.out (by rw [e8]; omega); injection hv with e1; injection e1 with e1; injection e1 with e1; subst e1; exact Lib.frozen_of_heap hh _
      have f1 : wr.frozen? ⟨g, l.length + 6, none⟩ = false := by obtain ⟨_, _, _, hv, _, _, hh⟩ := row_block HR.out (by rw [e8]; omega); injection hv with e1; injection e1 with e1; injection e1 with e1; subst e1; exact Lib.frozen_of_heap hh _
      have HREL := Lib.hid (show RvR base g cap l a0 a1 a2 a3 a4 a5 a6 a7 W (.int .i64 2) (.int .i64 5) ((wr.setCell ⟨g, l.length + 1, none⟩ (.int .u8 a6)).setCell ⟨g, l.length + 6, none⟩ (.int .u8 a1)).drew from
        ⟨2, by omega, rfl, by simp, row_drew (row_pair (swp_len a0 a1 a2 a3 a4 a5 a6 a7 1) HR.out 1 6 a6 a1 (by omega) (by omega)), below_drew ((hB.setCell (by exact hg) _).setCell (by exact hg) _)⟩)
      clear e8 hB
      go_wp2_with fail
      go_region
      go_wp2_with fail
      exact ⟨HREL.out, by simp [intOf]⟩
    · have HR := Lib.hid hrow; clear hrow
      have e8 : (l ++ swp a0 a1 a2 a3 a4 a5 a6 a7 2).length = l.length + 8 := by rw [List.length_append, swp_len]
      have x0 := row_get (by rw [e8]; exact HR.out) (l.length + 2) a2 (by rw [List.getElem?_append_right (by omega)]; simp [swp])
      have x1 := row_get (by rw [e8]; exact HR.out) (l.length + 5) a5 (by rw [List.getElem?_append_right (by omega)]; simp [swp])
      have hg : base ≤ g := by obtain ⟨_, _, _, hv, hg, _, hh⟩ := row_block HR.out (by rw [e8]; omega); injection hv with e1; injection e1 with e1; injection e1 with e1; subst e1; exact hg
      have f0 : wr.frozen? ⟨g, l.length + 2, none⟩ = false := by obtain ⟨_, _, _, hv, _, _, hh⟩ := row_block HR.out (by rw [e8]; omega); injection hv with e1; injection e1 with e1; injection e1 with e1; subst e1; exact Lib.frozen_of_heap hh _
      have f1 : wr.frozen? ⟨g, l.length + 5, none⟩ = false := by obtain ⟨_, _, _, hv, _, _, hh⟩ := row_block HR.out (by rw [e8]; omega); injection hv with e1; injection e1 with e1; injection e1 with e1; subst e1; exact Lib.frozen_of_heap hh _
      have HREL := Lib.hid (show RvR base g cap l a0 a1 a2 a3 a4 a5 a6 a7 W (.int .i64 3) (.int .i64 4) ((wr.setCell ⟨g, l.length + 2, none⟩ (.int .u8 a5)).setCell ⟨g, l.length + 5, none⟩ (.int .u8 a2)).drew from
        ⟨3, by omega, rfl, by simp, row_drew (row_pair (swp_len a0 a1 a2 a3 a4 a5 a6 a7 2) HR.out 2 5 a5 a2 (by omega) (by omega)), below_drew ((hB.setCell (by exact hg) _).setCell (by exact hg) _)⟩)
      clear e8 hB
      go_wp2_with fail
      go_region
      go_wp2_with fail
      exact ⟨HREL.out, by simp [intOf]⟩
    · have HR := Lib.hid hrow; clear hrow
      have e8 : (l ++ swp a0 a1 a2 a3 a4 a5 a6 a7 3).length = l.length + 8 := by rw [List.length_append, swp_len]
      have x0 := row_get (by rw [e8]; exact HR.out) (l.length + 3) a3 (by rw [List.getElem?_append_right (by omega)]; simp [swp])
      have x1 := row_get (by rw [e8]; exact HR.out) (l.length + 4) a4 (by rw [List.getElem?_append_right (by omega)]; simp [swp])
      have hg : base ≤ g := by obtain ⟨_, _, _, hv, hg, _, hh⟩ := row_block HR.out (by rw [e8]; omega); injection hv with e1; injection e1 with e1; injection e1 with e1; subst e1; exact hg
      have f0 : wr.frozen? ⟨g, l.length + 3, none⟩ = false := by obtain ⟨_, _, _, hv, _, _, hh⟩ := row_block HR.out (by rw [e8]; omega); injection hv with e1; injection e1 with e1; injection e1 with e1; subst e1; exact Lib.frozen_of_heap hh _
      have f1 : wr.frozen? ⟨g, l.length + 4, none⟩ = false := by obtain ⟨_, _, _, hv, _, _, hh⟩ := row_block HR.out (by rw [e8]; omega); injection hv with e1; injection e1 with e1; injection e1 with e1; subst e1; exact Lib.frozen_of_heap hh _
      have HREL := Lib.hid (show RvR base g cap l a0 a1 a2 a3 a4 a5 a6 a7 W (.int .i64 4) (.int .i64 3) ((wr.setCell ⟨g, l.length + 3, none⟩ (.int .u8 a4)).setCell ⟨g, l.length + 4, none⟩ (.int .u8 a3)).drew from
        ⟨4, by omega, rfl, by simp, row_drew (row_pair (swp_len a0 a1 a2 a3 a4 a5 a6 a7 3) HR.out 3 4 a4 a3 (by omega) (by omega)), below_drew ((hB.setCell (by exact hg) _).setCell (by exact hg) _)⟩)
      clear e8 hB
      go_wp2_with fail
      go_region
      go_wp2_with fail
      exact ⟨HREL.out, by simp [intOf]⟩
    · go_wp2_with fail
      go_end0
      exact ⟨rfl, hrow, hB⟩
end Go.Proofs.YtcjidlgmbjebjaaDoor

namespace Go.Proofs.YtcjidlgmbjebjaaDoor
open Go Go.RowKit Go.Proofs.YtcjidlgmbjebjaaDoorW.PrintWords
def PaR (n : Int) (l : List Int) (W : World) (a i : Value) (w' : World) : Prop :=
  ∃ (j c m : Nat) (p : Option Addr), j ≤ 8 ∧ m = l.length + j ∧ i = .int .i64 j ∧ a = .slice p m c ∧ Row w' W.heap.size (.slice p m c) (l ++ lowB n j) ∧ Below W.heap.size W w'
set_option maxHeartbeats 4000000 in
theorem put_row (n : Int) (h0 : 0 ≤ n) (h1 : n < 18446744073709551616) (v : Value) (l : List Int) (W : World) (hv : SlB W v l) (hl : l.length ≤ 140737488350000) : Calls Tryd.prog 115 #[v, .int .u64 n, .int .i64 8, .bool false] W (RetRow (l ++ putB n) W) := by
  obtain ⟨i0, hi, hz0, hz1, hz2⟩ := info_parts byteinfo
  have hmx : max (8 : Int) 0 = 8 := by decide
  have HC := Lib.hid (clone_val v l W hv (by omega))
  go_enter Tryd.func115, Tryd.ntmps115
  go_wp2_with fail
  refine HC.out.mono ?_
  rintro e w ⟨v0, rfl, hr0, hb0⟩
  obtain ⟨p0, c0, rfl⟩ := row_shape hr0
  have HR0 := Lib.hid hr0
  have HB0 := Lib.hid hb0
  clear hr0 hb0
  generalize hM : l.length = M at HR0
  have hM' := Lib.hid hM
  dsimp only
  go_wp2_with fail
  go_loopw [9, 19] (fun a i w' => PaR n l W a i w') (fun _ i _ => 8 - (intOf i).toNat)
  case atStart => exact ⟨0, c0, M, p0, by omega, by omega, rfl, rfl, by have := HR0.out; rw [← hM] at this ⊢; simpa [lowB] using this, HB0.out⟩
  case round =>
    obtain ⟨j, c, m, p, hj, hm, rfl, rfl, hrow, hB⟩ := hrel
    clear hM
    by_cases hp : j < 8
    · have HO := Lib.hid (show wr.ownsRow W.heap.size 5 1 (.slice p m c) m (u8s (l ++ lowB n j)) by have := hrow; unfold Row at this; rw [List.length_append, lowB_len] at this; rw [hm]; rw [hm] at this; exact this)
      clear hrow
      have HM := Lib.hid hm
      have hm2 : m ≤ 140737488350008 := by omega
      clear hm
      go_wp2_with (at_builtin; refine wpList_append_own _ rfl _ _ 43 rfl W.heap.size 5 i0 (.int .u8 0) 1 1 Tryd.underlying43 hi hz0 hz1 hz2 rfl (by decide) _ _ _ rfl (HO.out.alloc _) ⟨wr.heap.size, 0, none⟩ 1 1 [.int .u8 (n / 2 ^ (8 * j) % 256)] rfl rfl ?c1 ?c2 ?c3 ?c4 ?c5 ?_)
      case c1 =>
        intro q u hq
        match q, hq with
        | 0, hq => simp at hq; subst hq; simp [Addr.add]
      case c2 => first | rfl | (intro u hu; simp at hu; subst hu; rfl)
      case c3 => unfold maxLen; omega
      case c4 => omega
      case c5 => have := hB.size; simp; omega
      intro v' w2 hown' hgrow _
      have hrow2 : Row w2 W.heap.size v' (l ++ lowB n (j + 1)) := by
        rw [lowB_snoc, ← List.append_assoc]
        refine row_snoc ?_
        rw [List.length_append, lowB_len, ← HM.out]; exact hown'
      obtain ⟨p2, c2, hv2⟩ := row_shape hrow2
      rw [List.length_append, lowB_len] at hv2
      subst hv2
      have HREL := Lib.hid (show PaR n l W (.slice p2 (l.length + (j + 1)) c2) (.int .i64 ((j + 1 : Nat) : Int)) w2 from
        ⟨j + 1, _, _, _, by omega, rfl, rfl, rfl, hrow2, (hB.alloc hB.size _).grown hgrow (by have := hB.size; simp; omega) (fun x hx => (HO.out.lt x hx).1)⟩)
      clear hown' hgrow hrow2
      generalize hMM : l.length + (j + 1) = MM at HREL
      go_wp2_with fail
      exact ⟨HREL.out, by simp [intOf]; omega⟩
    · obtain rfl : j = 8 := by omega
      have h8 := low8 n
      have hrow' := hrow
      obtain ⟨g, cap, cur, hsl, hg, hcap, _⟩ := row_block hrow (by rw [List.length_append, lowB_len]; omega)
      injection hsl with e1 e2 e3
      subst e1 e3
      rw [List.length_append, lowB_len] at hcap
      rw [hm] at hrow'
      have HRV := Lib.hid (rev8_val W.heap.size g c l _ _ _ _ _ _ _ _ wr hB.size (by omega) (by rw [h8] at hrow'; exact hrow'))
      have hrev : l ++ [n / 72057594037927936 % 256, n / 281474976710656 % 256, n / 1099511627776 % 256, n / 4294967296 % 256, n / 16777216 % 256, n / 65536 % 256, n / 256 % 256, n / 1 % 256] = l ++ putB n := by simp [putB]
      rw [hrev] at HRV
      clear hrow hrow' h8 hrev e2
      have hMl := hM'.out
      subst hMl
      subst hm
      have hcl : l.length < c := by omega
      have hcl2 : ¬ c = l.length := by omega
      go_wp2_with fail
      refine HRV.out.mono ?_
      rintro e w3 ⟨rfl, h3, hb3⟩
      have HR3 := Lib.hid h3
      have HB3 := Lib.hid (hB.trans hb3)
      clear h3 hb3
      dsimp only
      go_wp2_with fail
      go_ret
      exact ⟨_, rfl, by have := HR3.out; unfold Row at this ⊢; rwa [show (l ++ putB n).length = l.length + 8 by simp [putB]] at *, HB3.out⟩
end Go.Proofs.YtcjidlgmbjebjaaDoor

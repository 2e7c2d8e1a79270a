/- A part of the proof of ValueReads. -/
import Derived.Deep.RegionHeldLaw
import Derived.Test.YtcjidlgmbjebjaaGreatDoorVrp
import Derived.Deep.RegionHeld3
import Derived.Test.YtcjidlgmbjebjaaGreatDoorVro
import Derived.Test.YtcjidlgmbjebjaaGreatDoorVrc
import Derived.Test.YtcjidlgmbjebjaaGreatDoorVrk
import Derived.Test.YtcjidlgmbjebjaaGreatDoorVrl
set_option linter.unusedVariables false
set_option linter.unusedSimpArgs false
set_option maxRecDepth 100000
namespace Go.Proofs.YtcjidlgmbjebjaaGreatDoor
open Go Go.RowKit Go.Proofs.YtcjidlgmbjebjaaGreatDoorW.PrintWords
structure OneSl (w : World) (b : Nat) : Prop where
  out : ∃ A n c, w.heap[b]? = some (.cells #[.slice A n c] 25 (0, 0))
theorem OneSl.frozen {w : World} {b : Nat} (h : OneSl w b) : w.frozen? ⟨b, 0, none⟩ = false := by obtain ⟨A, n, c, h⟩ := h.out; exact Lib.frozen_of_heap h 0
theorem OneSl.cat {w : World} {b : Nat} (h : OneSl w b) : w.cell? ⟨b, 0, none⟩ = some (cAt w b) := by obtain ⟨A, n, c, h⟩ := h.out; exact cat_of (by rw [Lib.cell_of_heap h]; rfl)
theorem OneSl.below {w w' : World} {b : Nat} (h : OneSl w b) (hb : Below w.heap.size w w') : OneSl w' b := by
  obtain ⟨A, n, c, h⟩ := h.out
  exact ⟨A, n, c, (hb.block b (Array.getElem?_eq_some_iff.1 h).1).trans h⟩
theorem OneSl.drew {w : World} {b : Nat} (h : OneSl w b) : OneSl w.drew b := h.below (below_drew (Below.refl _ _))
theorem OneSl.set {w : World} {b : Nat} (h : OneSl w b) (A : Option Addr) (n c : Nat) : OneSl (w.setCell ⟨b, 0, none⟩ (.slice A n c)) b := by
  obtain ⟨A', n', c', h⟩ := h.out
  exact ⟨A, n, c, heap_setCell_same w b 0 _ _ _ h⟩
theorem OneSl.nobyte {w : World} {b : Nat} (h : OneSl w b) : NoByte w b := by
  obtain ⟨A, n, c, h⟩ := h.out
  refine nobyte_of h fun i x hi => ?_
  match i, hi with
  | 0, hi => simp at hi
  | i + 1, hi => simp at hi
def RetCl (n : Nat) (l : List Int) (w : World) (e : Ending) (w' : World) : Prop := ∃ A c, e = .returned (.slice A n c) ∧ SlB w' (.slice A n c) l ∧ Below w.heap.size w w'
theorem clone_cut (A : Option Addr) (c n : Nat) (l : List Int) (hn : n ≤ l.length) (hc : l.length ≤ c) (hl : l.length ≤ 140737488355000) (w : World) (hC : Kd.C (Kd.int .u8) w A l.length l) : Calls Tryz.prog 48 #[.slice A n c] w (RetCl n (l.take n) w) := by
  have hlen : (l.take n).length = n := by rw [List.length_take]; omega
  have h := kC_take n hC
  refine (clone_val (.slice A n c) (l.take n) w ⟨A, c, by rw [hlen], by omega, h⟩ (by omega)).mono ?_
  rintro e w' ⟨v, rfl, hr, hb⟩
  have hs := slb_row hr (by omega)
  obtain ⟨A', c', rfl, h1, h2⟩ := hs
  refine ⟨A', c', by rw [hlen], ?_, hb⟩
  rw [hlen] at h1
  exact ⟨A', c', by rw [hlen], by omega, h2⟩
def BytQ (p bn n : Nat) (l : List Int) (W0 : World) (m er : Int) (w' : World) : Prop :=
  Keep1 p W0 w' ∧ NoByte w' p ∧ (∃ v, w'.cell? ⟨bn, 0, none⟩ = some v ∧ SlB w' v (Sb.sTake n (0, l)).1) ∧ (n ≤ l.length → m = n ∧ er = 0) ∧ (¬ n ≤ l.length → er = 8)
set_option maxHeartbeats 4000000 in
theorem bytes1_val (bs bp bn p : Nat) (n : Nat) (l : List Int) (hl : l.length ≤ 140737488355000) (W0 W : World) (hs : SrcP W p (0, l)) (hk0 : Keep1 p W0 W) (hbn : W0.heap.size ≤ bn) (hnn : (n : Int) ≤ 9223372036854775807)
    (z1 : W.cell? ⟨bp, 0, none⟩ = some (.pointer (some ⟨p, 0, none⟩))) (z2 : W.cell? ⟨bs, 0, none⟩ = some (.int .i64 n)) (z4 : W.heap[bn]? = some (.cells #[.slice none 0 0] 25 (0, 0)))
    (d1 : bp ≠ bn) (d2 : bs ≠ bn) (d4 : p ≠ bn) :
    Calls Tryz.prog 157 #[.pointer (some ⟨bs, 0, none⟩), .pointer (some ⟨bp, 0, none⟩), .pointer (some ⟨bn, 0, none⟩)] W (RetDo p l (BytQ p bn n l W0)) := by
  have HS := Lib.hid hs
  have hlt := src_lt hs
  obtain ⟨v, ⟨h, _⟩, A, c, rfl, hc, hC⟩ := hs
  have c1 : W.cell? ⟨p, 1, none⟩ = some (.slice A l.length c) := by rw [Lib.cell_of_heap h]; rfl
  have HO := Lib.hid (show OneSl W bn from ⟨_, _, _, z4⟩)
  have z5 : W.cell? ⟨bn, 0, none⟩ = some (.slice none 0 0) := by rw [Lib.cell_of_heap z4]; rfl
  have HC := Lib.hid hC
  have HK := Lib.hid hk0
  clear h hC z4 hk0
  by_cases hle : n ≤ l.length
  · have HG := Lib.hid (fun w hC => clone_cut A c n l hle hc hl w hC)
    have HQ := Lib.hid (show (Sb.sTake n (0, l)).1 = l.take n by unfold Sb.sTake; rw [if_pos rfl, if_neg (by simpa using hle)])
    go_enter Tryz.func157, Tryz.ntmps157
    go_wp2_with fail
    go_region_held3 (fun w' => w'.cell? ⟨bp, 0, none⟩ = some (.pointer (some ⟨p, 0, none⟩)) ∧ w'.cell? ⟨bs, 0, none⟩ = some (.int .i64 n) ∧ w'.cell? ⟨p, 1, none⟩ = some (.slice A l.length c) ∧ Below W.heap.size W w')
      (first
        | (go_keep; done)
        | ((repeat' apply And.intro) <;> first | assumption | (rw [World.cell?_drew]; assumption) | (exact below_drew (Below.refl _ _))))
      (fail)
    go_wp2_with fail
    go_region_held_law (fun w' => w'.cell? ⟨bp, 0, none⟩ = some (.pointer (some ⟨p, 0, none⟩)) ∧ w'.cell? ⟨bs, 0, none⟩ = some (.int .i64 n) ∧ w'.cell? ⟨p, 1, none⟩ = some (.slice A l.length c) ∧ w'.frozen? ⟨bn, 0, none⟩ = false ∧ w'.cell? ⟨bn, 0, none⟩ = some (cAt w' bn) ∧ OneSl w' bn ∧ Keep1 bn W w')
      (first
        | (go_keep; done)
        | ((repeat' apply And.intro) <;> first | (rw [World.cell?_drew, World.cell?_drew]; assumption) | (exact HO.out.drew.drew.frozen) | (exact HO.out.drew.drew.cat) | (exact HO.out.drew.drew) | (exact Keep1.of_below (below_drew (below_drew (Below.refl _ _)))))
        | (go_split_ands; (repeat' apply And.intro) <;> first | (exact cell_later hb1 (by assumption)) | (exact (OneSl.below (by assumption) hb1).frozen) | (exact (OneSl.below (by assumption) hb1).cat) | (exact OneSl.below (by assumption) hb1) | (exact Keep1.trans (by assumption) (Keep1.of_below hb1)))
        | (go_split_ands; (repeat' apply And.intro) <;> first | (exact cat_set (by assumption)) | (exact cell_setB (by assumption) (by assumption)) | (exact frozen_setB (by assumption)) | (exact OneSl.set (by assumption) _ _ _) | (exact Keep1.set (by assumption) 0 _)))
      (first
        | (go_at_call 48; go_split_ands; refine (HG.out _ (kC_keep HC.out HO.out.nobyte (by assumption))).mono ?_; rintro e w1 ⟨A1, c2, rfl, hs1, hb1⟩))
    rename_i hH
    have HO1 := Lib.hid ((OneSl.below (HO.out.drew.drew) hb1).nobyte)
    have HF := Lib.hid hH.2.2.2.2.2.2
    have HCN := Lib.hid (show World.cell? (w1.setCell ⟨bn, 0, none⟩ (.slice A1 n c2)) ⟨bn, 0, none⟩ = some (.slice A1 n c2) from cell_setS hH.2.2.2.2.1)
    have HV := Lib.hid (slb_keep hs1 HO1.out ((Keep1.refl bn w1).set 0 (.slice A1 n c2)))
    clear hs1 hb1
    go_wp2_with fail
    go_ret2
    exact ⟨n, 0, rfl, src_keep HS.out HO.out.nobyte d4 HF.out, fun _ => ⟨by omega, by omega⟩, keep_new HK.out HF.out hbn, src_nobyte (src_keep HS.out HO.out.nobyte d4 HF.out), ⟨_, HCN.out, by rw [HQ.out]; exact HV.out⟩, fun _ => ⟨rfl, rfl⟩, fun h => absurd hle h⟩
  · have HQ := Lib.hid (show (Sb.sTake n (0, l)).1 = [] by unfold Sb.sTake; rw [if_pos rfl, if_pos (by simpa using hle)])
    go_enter Tryz.func157, Tryz.ntmps157
    go_wp2_with fail
    go_region_held3 (fun w' => w'.cell? ⟨bp, 0, none⟩ = some (.pointer (some ⟨p, 0, none⟩)) ∧ w'.cell? ⟨bs, 0, none⟩ = some (.int .i64 n) ∧ w'.cell? ⟨p, 1, none⟩ = some (.slice A l.length c) ∧ Below W.heap.size W w')
      (first
        | (go_keep; done)
        | ((repeat' apply And.intro) <;> first | assumption | (rw [World.cell?_drew]; assumption) | (exact below_drew (Below.refl _ _))))
      (fail)
    rename_i hH
    have hBB := hH.2.2.2
    have hzn : W.drew.cell? ⟨bn, 0, none⟩ = some (.slice none 0 0) := by rw [World.cell?_drew]; exact z5
    go_wp2_with fail
    go_ret2
    exact ⟨0, 8, rfl, src_below HS.out hBB, fun h => by omega, HK.out.trans (Keep1.of_below hBB), src_nobyte (src_below HS.out hBB), ⟨_, hzn, by rw [HQ.out]; exact slb_nil _ _ _⟩, fun h => absurd h hle, fun _ => rfl⟩
def RetBy (p n : Nat) (s : Sb.Src) (W : World) (e : Ending) (w' : World) : Prop := ∃ A m c, e = .returned (.slice A m c) ∧ SlB w' (.slice A m c) (Sb.sTake n s).1 ∧ SrcP w' p (Sb.sTake n s).2 ∧ Keep1 p W w'
set_option maxHeartbeats 4000000 in
theorem bytes_val (p n : Nat) (hn : (n : Int) ≤ 9223372036854775807) (s : Sb.Src) (hl : s.2.length ≤ 140737488355000) (W : World) (hs : SrcP W p s) :
    Calls Tryz.prog 101 #[.pointer (some ⟨p, 0, none⟩), .int .i64 n] W (RetBy p n s W) := by
  have hlt := src_lt hs
  have hmf : ∀ (fn : Fn) (first cap : Array Value) (w : World), (Instr.makeFunc fn first cap).run Tryz.prog w = .ok (.func fn first cap) w := fun _ _ _ _ => rfl
  obtain ⟨er0, l⟩ := s
  by_cases he : er0 = 0
  · subst he
    have HS := Lib.hid hs; clear hs
    go_enter Tryz.func101, Tryz.ntmps101
    go_wp2_with fail
    have hs4 := src_alloc (src_alloc (src_alloc HS.out (.cells #[.pointer (some ⟨p, 0, none⟩)] 47)) (.cells #[.int .i64 n] 3)) (.cells #[.slice none 0 0] 25)
    have hst := step_121 p _ l _ hs4 _ (bytes1_val (W.heap.size + 1) W.heap.size (W.heap.size + 1 + 1) p n l hl W _ hs4 ((((Keep1.refl p W).alloc _).alloc _).alloc _) (by omega) hn (by go_cell) (by go_cell) (hp_new _ _ _ (by simp)) (by omega) (by omega) (by omega))
    refine hst.mono ?_
    rintro e w1 ⟨rfl, m, er, w2, ⟨hk2, hnb, ⟨v, hc2, hv2⟩, q1, q2⟩, h3⟩
    have hres : SrcP w1 p (Sb.sTake n (0, l)).2 ∧ Keep1 p w2 w1 := by
      unfold Sb.sTake
      rw [if_pos rfl]
      by_cases hle : n ≤ l.length
      · obtain ⟨rfl, rfl⟩ := q1 hle
        rw [if_neg (by simpa using hle)]
        rcases h3 with ⟨_, h4, h5⟩ | ⟨h4, _⟩
        · exact ⟨h4, h5⟩
        · exact absurd rfl h4
      · obtain rfl := q2 hle
        rw [if_pos (by simpa using hle)]
        rcases h3 with ⟨h4, _⟩ | ⟨_, h4, h5⟩
        · cases h4
        · exact ⟨h4, h5⟩
    have hv1 := slb_keep hv2 hnb hres.2
    have hc1 : w1.cell? ⟨W.heap.size + 1 + 1, 0, none⟩ = some v := by
      rw [← hc2]
      unfold World.cell?
      rw [hres.2.block (cell_lt hc2) (by show _ ≠ p; omega)]
    have HR := Lib.hid hres
    have HK := Lib.hid hk2
    have HV := Lib.hid hv1
    clear hs4 hst hk2 hc2 hv2 q1 q2 h3 hres
    obtain ⟨A, c, rfl, _, _⟩ := hv1
    generalize (Sb.sTake n (0, l)).1.length = M at HV hc1
    dsimp only
    go_wp2_with fail
    go_ret
    exact ⟨A, M, c, rfl, HV.out, HR.out.1, HK.out.trans HR.out.2⟩
  · have HS := Lib.hid hs; clear hs
    have HV := Lib.hid (show (Sb.sTake n (er0, l)) = ([], (er0, l)) by unfold Sb.sTake; rw [if_neg he])
    go_enter Tryz.func101, Tryz.ntmps101
    go_wp2_with fail
    have hs4 := src_alloc (src_alloc (src_alloc HS.out (.cells #[.pointer (some ⟨p, 0, none⟩)] 47)) (.cells #[.int .i64 n] 3)) (.cells #[.slice none 0 0] 25)
    refine (step_err p _ _ he _ hs4).mono ?_
    rintro e w1 ⟨rfl, rfl⟩
    have HR := Lib.hid hs4
    clear hs4
    dsimp only
    go_wp2_with fail
    go_ret
    refine ⟨none, 0, 0, rfl, ?_, ?_, (((Keep1.refl p W).alloc _).alloc _).alloc _⟩
    · rw [HV.out]; exact slb_nil _ _ _
    · rw [HV.out]; exact HR.out
end Go.Proofs.YtcjidlgmbjebjaaGreatDoor

namespace Go.Proofs.YtcjidlgmbjebjaaGreatDoor
open Go Go.RowKit Go.Proofs.YtcjidlgmbjebjaaGreatDoorW.PrintWords
end Go.Proofs.YtcjidlgmbjebjaaGreatDoor

namespace Go.Proofs.YtcjidlgmbjebjaaGreatDoor
open Go Go.RowKit Go.Proofs.YtcjidlgmbjebjaaGreatDoorW.PrintWords
end Go.Proofs.YtcjidlgmbjebjaaGreatDoor

namespace Go.Proofs.YtcjidlgmbjebjaaGreatDoor
open Go Go.RowKit Go.Proofs.YtcjidlgmbjebjaaGreatDoorW.PrintWords
end Go.Proofs.YtcjidlgmbjebjaaGreatDoor

namespace Go.Proofs.YtcjidlgmbjebjaaGreatDoor
open Go Go.RowKit Go.Proofs.YtcjidlgmbjebjaaGreatDoorW.PrintWords
end Go.Proofs.YtcjidlgmbjebjaaGreatDoor

namespace Go.Proofs.YtcjidlgmbjebjaaGreatDoor.PSchemaForms
open Go.RowKit Go.Proofs.YtcjidlgmbjebjaaGreatDoorW.PrintWords Go.Proofs.YtcjidlgmbjebjaaGreatDoorW.PrintLast Go.Proofs.YtcjidlgmbjebjaaGreatDoorW.PrintMore
attribute [local go_sem] max2_int min2_int max_two min_two max_three min_three max_four min_four
attribute [local go_sem high] eqA65
end Go.Proofs.YtcjidlgmbjebjaaGreatDoor.PSchemaForms

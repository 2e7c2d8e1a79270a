/- A part of the proof of ValueBack. -/
import Derived.Test.YtcjidlgmbjebjaaDoorVbl
import Derived.Deep.RegionHeldLaw
import Derived.Deep.RegionHeld3
import Derived.Test.YtcjidlgmbjebjaaDoorVbd
import Derived.Test.YtcjidlgmbjebjaaDoorVbj
import Derived.Test.YtcjidlgmbjebjaaDoorPSchemaFormsx0
import Derived.Test.YtcjidlgmbjebjaaDoorPSchemaFormsx1
import Derived.Test.YtcjidlgmbjebjaaDoorPSchemaFormsx2
set_option linter.unusedVariables false
set_option linter.unusedSimpArgs false
set_option maxRecDepth 100000
namespace Go.Proofs.YtcjidlgmbjebjaaDoor
open Go Go.RowKit Go.Proofs.YtcjidlgmbjebjaaDoorW.PrintWords
theorem tk_le : ∀ (l : List Int) (i : Nat) (n : Int), (Sb.tk i n l).2 ≤ i + l.length
  | [], i, n => by simp [Sb.tk]
  | c :: r, i, n => by
    rw [Sb.tk]
    split
    · split
      · simp
      · simp
    · have := tk_le r (i + 1) (Sb.tkN i n c)
      simp at this ⊢; omega
theorem take_le (l : List Int) : (Sb.takeV l).2 ≤ l.length := by have := tk_le l 0 0; unfold Sb.takeV; omega
theorem tk_nonneg : ∀ (l : List Int) (i : Nat) (n : Int), Byt l → 0 ≤ n → 0 ≤ (Sb.tk i n l).1
  | [], i, n, _, _ => by simp [Sb.tk]
  | c :: r, i, n, h, hn => by
    have hc := h c (by simp)
    have hN : 0 ≤ Sb.tkN i n c := by unfold Sb.tkN; split <;> omega
    rw [Sb.tk]
    split
    · split
      · exact hN
      · simp
    · exact tk_nonneg r (i + 1) _ (fun x hx => h x (List.mem_cons_of_mem _ hx)) hN
def VarQ (p bn : Nat) (g : Int) (l : List Int) (W0 : World) (m er : Int) (w' : World) : Prop :=
  Keep1 p W0 w' ∧ w'.cell? ⟨bn, 0, none⟩ = some (.int .u64 (Sb.sVar g (0, l)).1) ∧ (er = 0 → (Sb.sVar g (0, l)).2 = (0, l.drop m.toNat)) ∧ (er ≠ 0 → (Sb.sVar g (0, l)).2 = (er, []))
set_option maxHeartbeats 1000000 in
theorem var1_val (bp bg bn p : Nat) (g : Int) (l : List Int) (hb : Byt l) (W0 W : World) (hs : SrcP W p (0, l)) (hk0 : Keep1 p W0 W) (hbn : W0.heap.size ≤ bn)
    (z1 : W.cell? ⟨bp, 0, none⟩ = some (.pointer (some ⟨p, 0, none⟩))) (z2 : W.cell? ⟨bg, 0, none⟩ = some (.int .u64 g)) (z4 : W.heap[bn]? = some (.cells #[.int .u64 0] 100 (0, 0)))
    (d1 : bp ≠ bn) (d2 : bg ≠ bn) (d4 : p ≠ bn) :
    Calls Tryd.prog 185 #[.pointer (some ⟨bp, 0, none⟩), .pointer (some ⟨bg, 0, none⟩), .pointer (some ⟨bn, 0, none⟩)] W (RetDo p l (VarQ p bn g l W0)) := by
  have HS := Lib.hid hs
  obtain ⟨v, ⟨h, _⟩, A, c, rfl, hc, hC⟩ := hs
  have c1 : W.cell? ⟨p, 1, none⟩ = some (.slice A l.length c) := by rw [Lib.cell_of_heap h]; rfl
  have HT := Lib.hid (take_val A c l W ⟨A, c, rfl, hc, hC⟩ hb)
  have HL := Lib.hid (fun w hw => lacks_val A c l w (slb_below (show SlB W (.slice A l.length c) l from ⟨A, c, rfl, hc, hC⟩) hw))
  obtain ⟨x, k, hxk⟩ : ∃ x k, Sb.takeV l = (x, k) := ⟨_, _, rfl⟩
  have hkl := take_le l
  have hSV : Sb.sVar g (0, l) = (if k = 0 then (0, (if Sb.lacksV l then 8 else 9, [])) else if x > g then (0, (11, [])) else (x, (0, l.drop k))) := by
    unfold Sb.sVar
    rw [if_pos rfl, hxk]
  rw [hxk] at HT hkl
  dsimp only at HT hkl
  have HSV := Lib.hid hSV
  have H4 := Lib.hid z4
  have HK := Lib.hid hk0
  clear h hC hxk hSV z4 hk0 hb hc
  have hML : ∃ M, l.length = M := ⟨_, rfl⟩
  obtain ⟨M, hM⟩ := hML
  rw [hM] at c1 HT HL
  by_cases hk : k = 0
  · subst hk
    cases hla : Sb.lacksV l
    all_goals
      rw [hla] at HL
      have HV := HSV.out
      rw [if_pos rfl, hla] at HV
      have HV := Lib.hid HV
      clear HSV hla
      go_enter Tryd.func185, Tryd.ntmps185
      go_wp2_with fail
      (with_reducible refine Calls.mono HT.out ?_)
      rintro _ w1 ⟨rfl, hb1⟩
      have y1 := cell_later hb1 z1
      have yc := cell_later hb1 c1
      dsimp only
      go_wp2_with fail
      (with_reducible refine Calls.mono (HL.out _ hb1) ?_)
      rintro _ w2 ⟨rfl, hb2⟩
      have hB2 := below_step hb1 hb2
      have HF := Lib.hid (show w2.cell? ⟨bn, 0, none⟩ = some (.int .u64 0) by rw [Lib.cell_of_heap ((hB2.block bn (Array.getElem?_eq_some_iff.1 H4.out).1).trans H4.out)]; rfl)
      have HR := Lib.hid (src_below HS.out hB2)
      clear hb1 hb2
      dsimp only
      go_wp2_with fail
      go_ret2
      refine ⟨0, _, rfl, HR.out, fun h => absurd h (by decide), HK.out.trans (Keep1.of_below hB2), by rw [HV.out]; exact HF.out, fun h => absurd h (by decide), fun _ => by rw [HV.out]; rfl⟩
  · have HV := HSV.out
    rw [if_neg hk] at HV
    have hkb : (((k : Nat) : Int) == 0) = false := by rw [beq_eq_false_iff_ne]; omega
    by_cases hg : x > g
    · rw [if_pos hg] at HV
      have HV := Lib.hid HV
      clear HSV HL
      go_enter Tryd.func185, Tryd.ntmps185
      go_wp2_with fail
      (with_reducible refine Calls.mono HT.out ?_)
      rintro _ w1 ⟨rfl, hb1⟩
      have y1 := cell_later hb1 z1
      have y2 := cell_later hb1 z2
      have HF := Lib.hid (show w1.cell? ⟨bn, 0, none⟩ = some (.int .u64 0) by rw [Lib.cell_of_heap ((hb1.block bn (Array.getElem?_eq_some_iff.1 H4.out).1).trans H4.out)]; rfl)
      have HR := Lib.hid (src_below HS.out hb1)
      dsimp only
      go_wp2_with fail
      go_ret2
      refine ⟨0, _, rfl, HR.out, fun h => absurd h (by decide), HK.out.trans (Keep1.of_below hb1), by rw [HV.out]; exact HF.out, fun h => absurd h (by decide), fun _ => by rw [HV.out]⟩
    · rw [if_neg hg] at HV
      have HV := Lib.hid HV
      have hg' : x ≤ g := by omega
      clear HSV HL hg
      go_enter Tryd.func185, Tryd.ntmps185
      go_wp2_with fail
      (with_reducible refine Calls.mono HT.out ?_)
      rintro _ w1 ⟨rfl, hb1⟩
      have y1 := cell_later hb1 z1
      have y2 := cell_later hb1 z2
      have hz4 : w1.heap[bn]? = some (.cells #[.int .u64 0] 100 (0, 0)) := (hb1.block bn (Array.getElem?_eq_some_iff.1 H4.out).1).trans H4.out
      have y4 : w1.cell? ⟨bn, 0, none⟩ = some (.int .u64 0) := by rw [Lib.cell_of_heap hz4]; rfl
      have f4 : w1.frozen? ⟨bn, 0, none⟩ = false := Lib.frozen_of_heap hz4 0
      have HNB := Lib.hid (show NoByte w1 bn from nobyte_of hz4 fun i x hi => by
        match i, hi with
        | 0, hi => simp at hi
        | i + 1, hi => simp at hi)
      have HK2 := Lib.hid (show Keep1 bn w1 (w1.setCell ⟨bn, 0, none⟩ (.int .u64 x)) from (Keep1.refl bn w1).set 0 _)
      have HR := Lib.hid (src_keep (src_below HS.out hb1) HNB.out d4 HK2.out)
      have HC := Lib.hid (show (w1.setCell ⟨bn, 0, none⟩ (.int .u64 x)).cell? ⟨bn, 0, none⟩ = some (.int .u64 x) by rw [Lib.cell_of_heap (heap_setCell_same w1 bn 0 _ _ (.int .u64 x) hz4)]; rfl)
      have HKK := Lib.hid (keep_new (HK.out.trans (Keep1.of_below hb1)) HK2.out hbn)
      clear hz4
      dsimp only
      go_wp2_with fail
      go_ret2
      refine ⟨(k : Int), 0, rfl, HR.out, fun _ => ⟨by omega, by omega⟩, HKK.out, by rw [HV.out]; exact HC.out, fun _ => by rw [HV.out]; simp, fun h => absurd rfl h⟩
set_option maxHeartbeats 1000000 in
theorem svar_val (p : Nat) (g : Int) (s : Sb.Src) (hb : Byt s.2) (W : World) (hs : SrcP W p s) :
    Calls Tryd.prog 159 #[.pointer (some ⟨p, 0, none⟩), .int .u64 g] W (RetSt (.int .u64 (Sb.sVar g s).1) p (Sb.sVar g s).2 W) := by
  have hlt := src_lt hs
  have hmf : ∀ (fn : Fn) (first cap : Array Value) (w : World), (Instr.makeFunc fn first cap).run Tryd.prog w = .ok (.func fn first cap) w := fun _ _ _ _ => rfl
  obtain ⟨er0, l⟩ := s
  by_cases he : er0 = 0
  · subst he
    have HS := Lib.hid hs; clear hs
    go_enter Tryd.func159, Tryd.ntmps159
    go_wp2_with fail
    have hs4 := src_alloc (src_alloc (src_alloc HS.out (.cells #[.pointer (some ⟨p, 0, none⟩)] 112)) (.cells #[.int .u64 g] 100)) (.cells #[.int .u64 0] 100)
    have hst := step_185 p _ l _ hs4 _ (var1_val W.heap.size (W.heap.size + 1) (W.heap.size + 1 + 1) p g l hb W _ hs4 (((Keep1.refl p W).alloc _).alloc _ |>.alloc _) (by omega) (by go_cell) (by go_cell) (hp_new _ _ _ (by simp)) (by omega) (by omega) (by omega))
    refine hst.mono ?_
    rintro e w1 ⟨rfl, m, er, w2, ⟨hk2, hc2, q1, q2⟩, h3⟩
    have hres : SrcP w1 p (Sb.sVar g (0, l)).2 ∧ Keep1 p w2 w1 := by
      rcases h3 with ⟨h4, h5, h6⟩ | ⟨h4, h5, h6⟩
      · rw [q1 h4]; exact ⟨h5, h6⟩
      · rw [q2 h4]; exact ⟨h5, h6⟩
    have hc1 : w1.cell? ⟨W.heap.size + 1 + 1, 0, none⟩ = some (.int .u64 (Sb.sVar g (0, l)).1) := by
      rw [← hc2]
      unfold World.cell?
      rw [hres.2.block (cell_lt hc2) (by show _ ≠ p; omega)]
    have HR := Lib.hid hres
    have HK := Lib.hid hk2
    clear hs4 hst hk2 hc2 q1 q2 h3 hres
    dsimp only
    go_wp2_with fail
    go_ret
    exact ⟨rfl, HR.out.1, HK.out.trans HR.out.2⟩
  · have HS := Lib.hid hs; clear hs
    have HV := Lib.hid (show (Sb.sVar g (er0, l)) = (0, (er0, l)) by unfold Sb.sVar; rw [if_neg he])
    go_enter Tryd.func159, Tryd.ntmps159
    go_wp2_with fail
    have hs4 := src_alloc (src_alloc (src_alloc HS.out (.cells #[.pointer (some ⟨p, 0, none⟩)] 112)) (.cells #[.int .u64 g] 100)) (.cells #[.int .u64 0] 100)
    refine (step_err p _ _ he _ hs4).mono ?_
    rintro e w1 ⟨rfl, rfl⟩
    have HR := Lib.hid hs4
    clear hs4
    dsimp only
    go_wp2_with fail
    go_ret
    rw [HV.out]
    exact ⟨rfl, HR.out, ((Keep1.refl p W).alloc _).alloc _ |>.alloc _⟩
end Go.Proofs.YtcjidlgmbjebjaaDoor

namespace Go.Proofs.YtcjidlgmbjebjaaDoor
open Go Go.RowKit Go.Proofs.YtcjidlgmbjebjaaDoorW.PrintWords
structure OneSl (w : World) (b : Nat) : Prop where
  out : ∃ A n c, w.heap[b]? = some (.cells #[.slice A n c] 43 (0, 0))
theorem OneSl.frozen {w : World} {b : Nat} (h : OneSl w b) : w.frozen? ⟨b, 0, none⟩ = false := by obtain ⟨A, n, c, h⟩ := h.out; exact Lib.frozen_of_heap h 0
theorem OneSl.cat {w : World} {b : Nat} (h : OneSl w b) : w.cell? ⟨b, 0, none⟩ = some (cAt w b) := by obtain ⟨A, n, c, h⟩ := h.out; exact cat_of (by rw [Lib.cell_of_heap h]; rfl)
theorem OneSl.below {w w' : World} {b : Nat} (h : OneSl w b) (hb : Below w.heap.size w w') : OneSl w' b := by
  obtain ⟨A, n, c, h⟩ := h.out
  exact ⟨A, n, c, (hb.block b (Array.getElem?_eq_some_iff.1 h).1).trans h⟩
theorem OneSl.drew {w : World} {b : Nat} (h : OneSl w b) : OneSl w.drew b := h.below (below_drew (Below.refl _ _))
theorem OneSl.set {w : World} {b : Nat} (h : OneSl w b) (A : Option Addr) (n c : Nat) : OneSl (w.setCell ⟨b, 0, none⟩ (.slice A n c)) b := by
  obtain ⟨A', n', c', h⟩ := h.out
  exact ⟨A, n, c, heap_setCell_same w b 0 _ _ _ h⟩
theorem OneSl.nobyte {w : World} {b : Nat} (h : OneSl w b) : NoByte w b := by
  obtain ⟨A, n, c, h⟩ := h.out
  refine nobyte_of h fun i x hi => ?_
  match i, hi with
  | 0, hi => simp at hi
  | i + 1, hi => simp at hi
def RetCl (n : Nat) (l : List Int) (w : World) (e : Ending) (w' : World) : Prop := ∃ A c, e = .returned (.slice A n c) ∧ SlB w' (.slice A n c) l ∧ Below w.heap.size w w'
theorem clone_cut (A : Option Addr) (c n : Nat) (l : List Int) (hn : n ≤ l.length) (hc : l.length ≤ c) (hl : l.length ≤ 140737488355000) (w : World) (hC : Kd.C (Kd.int .u8) w A l.length l) : Calls Tryd.prog 113 #[.slice A n c] w (RetCl n (l.take n) w) := by
  have hlen : (l.take n).length = n := by rw [List.length_take]; omega
  have h := kC_take n hC
  refine (clone_val (.slice A n c) (l.take n) w ⟨A, c, by rw [hlen], by omega, h⟩ (by omega)).mono ?_
  rintro e w' ⟨v, rfl, hr, hb⟩
  have hs := slb_row hr (by omega)
  obtain ⟨A', c', rfl, h1, h2⟩ := hs
  refine ⟨A', c', by rw [hlen], ?_, hb⟩
  rw [hlen] at h1
  exact ⟨A', c', by rw [hlen], by omega, h2⟩
def BytQ (p bn n : Nat) (l : List Int) (W0 : World) (m er : Int) (w' : World) : Prop :=
  Keep1 p W0 w' ∧ NoByte w' p ∧ (∃ v, w'.cell? ⟨bn, 0, none⟩ = some v ∧ SlB w' v (Sb.sTake n (0, l)).1) ∧ (n ≤ l.length → m = n ∧ er = 0) ∧ (¬ n ≤ l.length → er = 8)
set_option maxHeartbeats 4000000 in
theorem bytes1_val (bs bp bn p : Nat) (n : Nat) (l : List Int) (hl : l.length ≤ 140737488355000) (W0 W : World) (hs : SrcP W p (0, l)) (hk0 : Keep1 p W0 W) (hbn : W0.heap.size ≤ bn) (hnn : (n : Int) ≤ 9223372036854775807)
    (z1 : W.cell? ⟨bp, 0, none⟩ = some (.pointer (some ⟨p, 0, none⟩))) (z2 : W.cell? ⟨bs, 0, none⟩ = some (.int .i64 n)) (z4 : W.heap[bn]? = some (.cells #[.slice none 0 0] 43 (0, 0)))
    (d1 : bp ≠ bn) (d2 : bs ≠ bn) (d4 : p ≠ bn) :
    Calls Tryd.prog 121 #[.pointer (some ⟨bs, 0, none⟩), .pointer (some ⟨bp, 0, none⟩), .pointer (some ⟨bn, 0, none⟩)] W (RetDo p l (BytQ p bn n l W0)) := by
  have HS := Lib.hid hs
  have hlt := src_lt hs
  obtain ⟨v, ⟨h, _⟩, A, c, rfl, hc, hC⟩ := hs
  have c1 : W.cell? ⟨p, 1, none⟩ = some (.slice A l.length c) := by rw [Lib.cell_of_heap h]; rfl
  have HO := Lib.hid (show OneSl W bn from ⟨_, _, _, z4⟩)
  have z5 : W.cell? ⟨bn, 0, none⟩ = some (.slice none 0 0) := by rw [Lib.cell_of_heap z4]; rfl
  have HC := Lib.hid hC
  have HK := Lib.hid hk0
  clear h hC z4 hk0
  by_cases hle : n ≤ l.length
  · have HG := Lib.hid (fun w hC => clone_cut A c n l hle hc hl w hC)
    have HQ := Lib.hid (show (Sb.sTake n (0, l)).1 = l.take n by unfold Sb.sTake; rw [if_pos rfl, if_neg (by simpa using hle)])
    go_enter Tryd.func121, Tryd.ntmps121
    go_wp2_with fail
    go_region_held3 (fun w' => w'.cell? ⟨bp, 0, none⟩ = some (.pointer (some ⟨p, 0, none⟩)) ∧ w'.cell? ⟨bs, 0, none⟩ = some (.int .i64 n) ∧ w'.cell? ⟨p, 1, none⟩ = some (.slice A l.length c) ∧ Below W.heap.size W w')
      (first
        | (go_keep; done)
        | ((repeat' apply And.intro) <;> first | assumption | (rw [World.cell?_drew]; assumption) | (exact below_drew (Below.refl _ _))))
      (fail)
    go_wp2_with fail
    go_region_held_law (fun w' => w'.cell? ⟨bp, 0, none⟩ = some (.pointer (some ⟨p, 0, none⟩)) ∧ w'.cell? ⟨bs, 0, none⟩ = some (.int .i64 n) ∧ w'.cell? ⟨p, 1, none⟩ = some (.slice A l.length c) ∧ w'.frozen? ⟨bn, 0, none⟩ = false ∧ w'.cell? ⟨bn, 0, none⟩ = some (cAt w' bn) ∧ OneSl w' bn ∧ Keep1 bn W w')
      (first
        | (go_keep; done)
        | ((repeat' apply And.intro) <;> first | (rw [World.cell?_drew, World.cell?_drew]; assumption) | (exact HO.out.drew.drew.frozen) | (exact HO.out.drew.drew.cat) | (exact HO.out.drew.drew) | (exact Keep1.of_below (below_drew (below_drew (Below.refl _ _)))))
        | (go_split_ands; (repeat' apply And.intro) <;> first | (exact cell_later hb1 (by assumption)) | (exact (OneSl.below (by assumption) hb1).frozen) | (exact (OneSl.below (by assumption) hb1).cat) | (exact OneSl.below (by assumption) hb1) | (exact Keep1.trans (by assumption) (Keep1.of_below hb1)))
        | (go_split_ands; (repeat' apply And.intro) <;> first | (exact cat_set (by assumption)) | (exact cell_setB (by assumption) (by assumption)) | (exact frozen_setB (by assumption)) | (exact OneSl.set (by assumption) _ _ _) | (exact Keep1.set (by assumption) 0 _)))
      (first
        | (go_at_call 113; go_split_ands; refine (HG.out _ (kC_keep HC.out HO.out.nobyte (by assumption))).mono ?_; rintro e w1 ⟨A1, c2, rfl, hs1, hb1⟩))
    rename_i hH
    have HO1 := Lib.hid ((OneSl.below (HO.out.drew.drew) hb1).nobyte)
    have HF := Lib.hid hH.2.2.2.2.2.2
    have HCN := Lib.hid (show World.cell? (w1.setCell ⟨bn, 0, none⟩ (.slice A1 n c2)) ⟨bn, 0, none⟩ = some (.slice A1 n c2) from cell_setS hH.2.2.2.2.1)
    have HV := Lib.hid (slb_keep hs1 HO1.out ((Keep1.refl bn w1).set 0 (.slice A1 n c2)))
    clear hs1 hb1
    go_wp2_with fail
    go_ret2
    exact ⟨n, 0, rfl, src_keep HS.out HO.out.nobyte d4 HF.out, fun _ => ⟨by omega, by omega⟩, keep_new HK.out HF.out hbn, src_nobyte (src_keep HS.out HO.out.nobyte d4 HF.out), ⟨_, HCN.out, by rw [HQ.out]; exact HV.out⟩, fun _ => ⟨rfl, rfl⟩, fun h => absurd hle h⟩
  · have HQ := Lib.hid (show (Sb.sTake n (0, l)).1 = [] by unfold Sb.sTake; rw [if_pos rfl, if_pos (by simpa using hle)])
    go_enter Tryd.func121, Tryd.ntmps121
    go_wp2_with fail
    go_region_held3 (fun w' => w'.cell? ⟨bp, 0, none⟩ = some (.pointer (some ⟨p, 0, none⟩)) ∧ w'.cell? ⟨bs, 0, none⟩ = some (.int .i64 n) ∧ w'.cell? ⟨p, 1, none⟩ = some (.slice A l.length c) ∧ Below W.heap.size W w')
      (first
        | (go_keep; done)
        | ((repeat' apply And.intro) <;> first | assumption | (rw [World.cell?_drew]; assumption) | (exact below_drew (Below.refl _ _))))
      (fail)
    rename_i hH
    have hBB := hH.2.2.2
    have hzn : W.drew.cell? ⟨bn, 0, none⟩ = some (.slice none 0 0) := by rw [World.cell?_drew]; exact z5
    go_wp2_with fail
    go_ret2
    exact ⟨0, 8, rfl, src_below HS.out hBB, fun h => by omega, HK.out.trans (Keep1.of_below hBB), src_nobyte (src_below HS.out hBB), ⟨_, hzn, by rw [HQ.out]; exact slb_nil _ _ _⟩, fun h => absurd h hle, fun _ => rfl⟩
def RetBy (p n : Nat) (s : Sb.Src) (W : World) (e : Ending) (w' : World) : Prop := ∃ A m c, e = .returned (.slice A m c) ∧ SlB w' (.slice A m c) (Sb.sTake n s).1 ∧ SrcP w' p (Sb.sTake n s).2 ∧ Keep1 p W w'
set_option maxHeartbeats 4000000 in
theorem bytes_val (p n : Nat) (hn : (n : Int) ≤ 9223372036854775807) (s : Sb.Src) (hl : s.2.length ≤ 140737488355000) (W : World) (hs : SrcP W p s) :
    Calls Tryd.prog 72 #[.pointer (some ⟨p, 0, none⟩), .int .i64 n] W (RetBy p n s W) := by
  have hlt := src_lt hs
  have hmf : ∀ (fn : Fn) (first cap : Array Value) (w : World), (Instr.makeFunc fn first cap).run Tryd.prog w = .ok (.func fn first cap) w := fun _ _ _ _ => rfl
  obtain ⟨er0, l⟩ := s
  by_cases he : er0 = 0
  · subst he
    have HS := Lib.hid hs; clear hs
    go_enter Tryd.func72, Tryd.ntmps72
    go_wp2_with fail
    have hs4 := src_alloc (src_alloc (src_alloc HS.out (.cells #[.pointer (some ⟨p, 0, none⟩)] 112)) (.cells #[.int .i64 n] 3)) (.cells #[.slice none 0 0] 43)
    have hst := step_121 p _ l _ hs4 _ (bytes1_val (W.heap.size + 1) W.heap.size (W.heap.size + 1 + 1) p n l hl W _ hs4 ((((Keep1.refl p W).alloc _).alloc _).alloc _) (by omega) hn (by go_cell) (by go_cell) (hp_new _ _ _ (by simp)) (by omega) (by omega) (by omega))
    refine hst.mono ?_
    rintro e w1 ⟨rfl, m, er, w2, ⟨hk2, hnb, ⟨v, hc2, hv2⟩, q1, q2⟩, h3⟩
    have hres : SrcP w1 p (Sb.sTake n (0, l)).2 ∧ Keep1 p w2 w1 := by
      unfold Sb.sTake
      rw [if_pos rfl]
      by_cases hle : n ≤ l.length
      · obtain ⟨rfl, rfl⟩ := q1 hle
        rw [if_neg (by simpa using hle)]
        rcases h3 with ⟨_, h4, h5⟩ | ⟨h4, _⟩
        · exact ⟨h4, h5⟩
        · exact absurd rfl h4
      · obtain rfl := q2 hle
        rw [if_pos (by simpa using hle)]
        rcases h3 with ⟨h4, _⟩ | ⟨_, h4, h5⟩
        · cases h4
        · exact ⟨h4, h5⟩
    have hv1 := slb_keep hv2 hnb hres.2
    have hc1 : w1.cell? ⟨W.heap.size + 1 + 1, 0, none⟩ = some v := by
      rw [← hc2]
      unfold World.cell?
      rw [hres.2.block (cell_lt hc2) (by show _ ≠ p; omega)]
    have HR := Lib.hid hres
    have HK := Lib.hid hk2
    have HV := Lib.hid hv1
    clear hs4 hst hk2 hc2 hv2 q1 q2 h3 hres
    obtain ⟨A, c, rfl, _, _⟩ := hv1
    generalize (Sb.sTake n (0, l)).1.length = M at HV hc1
    dsimp only
    go_wp2_with fail
    go_ret
    exact ⟨A, M, c, rfl, HV.out, HR.out.1, HK.out.trans HR.out.2⟩
  · have HS := Lib.hid hs; clear hs
    have HV := Lib.hid (show (Sb.sTake n (er0, l)) = ([], (er0, l)) by unfold Sb.sTake; rw [if_neg he])
    go_enter Tryd.func72, Tryd.ntmps72
    go_wp2_with fail
    have hs4 := src_alloc (src_alloc (src_alloc HS.out (.cells #[.pointer (some ⟨p, 0, none⟩)] 112)) (.cells #[.int .i64 n] 3)) (.cells #[.slice none 0 0] 43)
    refine (step_err p _ _ he _ hs4).mono ?_
    rintro e w1 ⟨rfl, rfl⟩
    have HR := Lib.hid hs4
    clear hs4
    dsimp only
    go_wp2_with fail
    go_ret
    refine ⟨none, 0, 0, rfl, ?_, ?_, (((Keep1.refl p W).alloc _).alloc _).alloc _⟩
    · rw [HV.out]; exact slb_nil _ _ _
    · rw [HV.out]; exact HR.out
end Go.Proofs.YtcjidlgmbjebjaaDoor

namespace Go.Proofs.YtcjidlgmbjebjaaDoor
open Go Go.RowKit Go.Proofs.YtcjidlgmbjebjaaDoorW.PrintWords
end Go.Proofs.YtcjidlgmbjebjaaDoor

namespace Go.Proofs.YtcjidlgmbjebjaaDoor
open Go Go.RowKit Go.Proofs.YtcjidlgmbjebjaaDoorW.PrintWords
end Go.Proofs.YtcjidlgmbjebjaaDoor

namespace Go.Proofs.YtcjidlgmbjebjaaDoor
open Go Go.RowKit Go.Proofs.YtcjidlgmbjebjaaDoorW.PrintWords
end Go.Proofs.YtcjidlgmbjebjaaDoor

namespace Go.Proofs.YtcjidlgmbjebjaaDoor
open Go Go.RowKit Go.Proofs.YtcjidlgmbjebjaaDoorW.PrintWords
end Go.Proofs.YtcjidlgmbjebjaaDoor

namespace Go.Proofs.YtcjidlgmbjebjaaDoor.PSchemaForms
open Go.RowKit Go.Proofs.YtcjidlgmbjebjaaDoorW.PrintWords Go.Proofs.YtcjidlgmbjebjaaDoorW.PrintLast Go.Proofs.YtcjidlgmbjebjaaDoorW.PrintMore
attribute [local go_sem] max2_int min2_int max_two min_two max_three min_three max_four min_four
attribute [local go_sem high] eqA65
def box_None.f  : Option (Bool × Int × Int × Int × Int) := some (true, 0, 0, 0, 0)
set_option maxHeartbeats 8000000 in
set_option maxRecDepth 100000 in
theorem box_None.calls  (r1 : Bool) (r2 : Int) (r3 : Int) (r4 : Int) (r5 : Int) (w : World) (h : box_None.f  = some (r1, r2, r3, r4, r5)) :
    Calls Tryd.prog 76 #[] w fun e w' => e = .returned (.agg #[.bool r1, .int .i64 r2, .int .i64 r3, .int .i64 r4, .int .i64 r5]) ∧ Below w.heap.size w w' := by
  have hu65 := Tryd.underlying65
  have HB := Aside0.mk (Below.refl w.heap.size w)
  have H : (some (true, 0, 0, 0, 0)) = some (r1, r2, r3, r4, r5) := h
  clear h
  simp only [Option.some.injEq, Prod.mk.injEq] at H
  obtain ⟨rfl, rfl, rfl, rfl, rfl⟩ := H
  go_enter Tryd.func76, Tryd.ntmps76
  go_wp2_with (first | ((with_reducible refine gate_dst (N := 0) rfl ?_); refine box_event ?hg (N := 0) ?hd (cs := #[.bool false, .int .i64 0, .int .i64 0, .int .i64 0, .int .i64 0]) (t := 65) ?hr ?_; (case hd => rfl); (case hg => rfl); (case hr => first | (go_simp; done) | (go_simp; rfl)); intro gb132 hg w1 hbox hb; have n0_ := Aside0.mk (below_step (by repeat (first | (with_reducible first | exact HB.out | apply below_alloc | apply pw_below_drewN | apply below_drew1) | exact HB.out)) hb); have n1_ := Aside0.mk (hbox); have n2_ := Aside0.mk ((by rw [hg]; exact (below_size (by repeat (first | (with_reducible first | exact HB.out | apply below_alloc | apply pw_below_drewN | apply below_drew1) | exact HB.out))) : w.heap.size ≤ gb132)); have n3_ := Aside0.mk ((by rw [hg]; exact (below_size (by repeat (first | (with_reducible first | exact HB.out | apply below_alloc | apply pw_below_drewN | apply below_drew1) | exact HB.out))) : w.heap.size ≤ gb132)); clear HB; have HB := n0_; have BK132 := n1_; have GW132 := n2_; have GE132 := n3_; clear n0_ n1_ n2_ n3_; clear hb hbox hg; have hcz2_0 : w1.cell? ⟨gb132, 0, none⟩ = some (.bool false) := (blk_cell BK132.out 0).trans rfl; have hcz2_1 : w1.cell? ⟨gb132, 1, none⟩ = some (.int .i64 0) := (blk_cell BK132.out 1).trans rfl; have hcz2_2 : w1.cell? ⟨gb132, 2, none⟩ = some (.int .i64 0) := (blk_cell BK132.out 2).trans rfl; have hcz2_3 : w1.cell? ⟨gb132, 3, none⟩ = some (.int .i64 0) := (blk_cell BK132.out 3).trans rfl; have hcz2_4 : w1.cell? ⟨gb132, 4, none⟩ = some (.int .i64 0) := (blk_cell BK132.out 4).trans rfl; have hfz2_0 := blk_frozen BK132.out 0; have hfz2_1 := blk_frozen BK132.out 1; have hfz2_2 := blk_frozen BK132.out 2; have hfz2_3 := blk_frozen BK132.out 3; have hfz2_4 := blk_frozen BK132.out 4))
  refine bodyPost_ret (results_cell_row rfl _ _ gb132 65 #[.bool true, .int .i64 0, .int .i64 0, .int .i64 0, .int .i64 0] (0, 0) _ rfl (by (with_reducible repeat (first | refine blk_drewN ?_ _ | refine blk_drew ?_ | refine blk_alloc ?_ _)); refine blk_put (cs := #[.bool true, .int .i64 0, .int .i64 0, .int .i64 0, .int .i64 0]) ?_ 4 _ rfl; (with_reducible repeat (first | refine blk_drewN ?_ _ | refine blk_drew ?_ | refine blk_alloc ?_ _)); refine blk_put (cs := #[.bool true, .int .i64 0, .int .i64 0, .int .i64 0, .int .i64 0]) ?_ 3 _ rfl; (with_reducible repeat (first | refine blk_drewN ?_ _ | refine blk_drew ?_ | refine blk_alloc ?_ _)); refine blk_put (cs := #[.bool true, .int .i64 0, .int .i64 0, .int .i64 0, .int .i64 0]) ?_ 2 _ rfl; (with_reducible repeat (first | refine blk_drewN ?_ _ | refine blk_drew ?_ | refine blk_alloc ?_ _)); refine blk_put (cs := #[.bool true, .int .i64 0, .int .i64 0, .int .i64 0, .int .i64 0]) ?_ 1 _ rfl; (with_reducible repeat (first | refine blk_drewN ?_ _ | refine blk_drew ?_ | refine blk_alloc ?_ _)); refine blk_put (cs := #[.bool false, .int .i64 0, .int .i64 0, .int .i64 0, .int .i64 0]) ?_ 0 _ rfl; (with_reducible repeat (first | refine blk_drewN ?_ _ | refine blk_drew ?_ | refine blk_alloc ?_ _)); exact BK132.out) Tryd.underlying65 rfl (by kernel_rfl)) rfl ?_
  exact ⟨by first | rfl | (simp [errW_none, errW_some] <;> rfl) | (simp [*, errW_none, errW_some] <;> rfl), by repeat (first | (with_reducible first | exact HB.out | apply below_alloc | apply pw_below_drewN | apply below_drew1 | refine below_set ?_ GE132.out) | exact HB.out)⟩

def box_Good.f (a0_0 : Bool) (a0_1 : Int) (a0_2 : Int) (a0_3 : Int) (a0_4 : Int) : Option (Bool) := if a0_0 = true then ((box_None.f).bind fun bt134 => (some (a0_0 == bt134.1 && ((a0_1 == bt134.2.1 && (a0_2 == bt134.2.2.1)) && ((a0_3 == bt134.2.2.2.1 && (a0_4 == bt134.2.2.2.2))))))) else (if a0_1 ≤ a0_3 then (some (decide (a0_2 ≤ a0_4))) else (some false))
set_option maxHeartbeats 8000000 in
set_option maxRecDepth 100000 in
theorem box_Good.calls (a0_0 : Bool) (a0_1 : Int) (a0_2 : Int) (a0_3 : Int) (a0_4 : Int) (r : Bool) (w : World) (h : box_Good.f a0_0 a0_1 a0_2 a0_3 a0_4 = some r) :
    Calls Tryd.prog 87 #[.agg #[.bool a0_0, .int .i64 a0_1, .int .i64 a0_2, .int .i64 a0_3, .int .i64 a0_4]] w fun e w' => e = .returned (.bool r) ∧ Below w.heap.size w w' := by
  have hu65 := Tryd.underlying65
  have HB := Aside0.mk (Below.refl w.heap.size w)
  have H : (if a0_0 = true then ((box_None.f).bind fun bt134 => (some (a0_0 == bt134.1 && ((a0_1 == bt134.2.1 && (a0_2 == bt134.2.2.1)) && ((a0_3 == bt134.2.2.2.1 && (a0_4 == bt134.2.2.2.2))))))) else (if a0_1 ≤ a0_3 then (some (decide (a0_2 ≤ a0_4))) else (some false))) = some r := h
  clear h
  by_cases c2 : a0_0 = true
  · subst c2
    have H1 : ((box_None.f).bind fun bt134 => (some (true == bt134.1 && ((a0_1 == bt134.2.1 && (a0_2 == bt134.2.2.1)) && ((a0_3 == bt134.2.2.2.1 && (a0_4 == bt134.2.2.2.2))))))) = some r := by rw [if_pos rfl] at H; exact H
    clear H
    have H := H1
    clear H1
    replace H := Option.bind_eq_some_iff.mp H
    obtain ⟨⟨t134, t135, t136, t137, t138⟩, A30, H⟩ := H
    replace H : (some (true == t134 && ((a0_1 == t135 && (a0_2 == t136)) && ((a0_3 == t137 && (a0_4 == t138)))))) = some r := H
    have A3 := Aside0.mk A30
    clear A30
    obtain rfl := Option.some.inj H
    go_enter Tryd.func87, Tryd.ntmps87
    try go_wp2_with (first | ((with_reducible refine gate_dst (N := 1) rfl ?_); refine box_event ?hg (N := 1) ?hd (cs := #[.bool true, .int .i64 a0_1, .int .i64 a0_2, .int .i64 a0_3, .int .i64 a0_4]) (t := 65) ?hr ?_; (case hd => rfl); (case hg => rfl); (case hr => first | (go_simp; done) | (go_simp; rfl)); intro gb133 hg w4 hbox hb; have n0_ := Aside0.mk (below_step (by repeat (first | (with_reducible first | exact HB.out | apply below_alloc | apply pw_below_drewN | apply below_drew1) | exact HB.out)) hb); have n1_ := Aside0.mk (hbox); have n2_ := Aside0.mk ((by rw [hg]; exact (below_size (by repeat (first | (with_reducible first | exact HB.out | apply below_alloc | apply pw_below_drewN | apply below_drew1) | exact HB.out))) : w.heap.size ≤ gb133)); have n3_ := Aside0.mk ((by rw [hg]; exact (below_size (by repeat (first | (with_reducible first | exact HB.out | apply below_alloc | apply pw_below_drewN | apply below_drew1) | exact HB.out))) : w.heap.size ≤ gb133)); clear HB; have HB := n0_; have BK133 := n1_; have GW133 := n2_; have GE133 := n3_; clear n0_ n1_ n2_ n3_; clear hb hbox hg; have hcz5_0 : w4.cell? ⟨gb133, 0, none⟩ = some (.bool true) := (blk_cell BK133.out 0).trans rfl; have hcz5_1 : w4.cell? ⟨gb133, 1, none⟩ = some (.int .i64 a0_1) := (blk_cell BK133.out 1).trans rfl; have hcz5_2 : w4.cell? ⟨gb133, 2, none⟩ = some (.int .i64 a0_2) := (blk_cell BK133.out 2).trans rfl; have hcz5_3 : w4.cell? ⟨gb133, 3, none⟩ = some (.int .i64 a0_3) := (blk_cell BK133.out 3).trans rfl; have hcz5_4 : w4.cell? ⟨gb133, 4, none⟩ = some (.int .i64 a0_4) := (blk_cell BK133.out 4).trans rfl; have hfz5_0 := blk_frozen BK133.out 0; have hfz5_1 := blk_frozen BK133.out 1; have hfz5_2 := blk_frozen BK133.out 2; have hfz5_3 := blk_frozen BK133.out 3; have hfz5_4 := blk_frozen BK133.out 4))
    have n0_ := Aside0.mk (blk_drew BK133.out)
    have n1_ := Aside0.mk (below_drew1 HB.out)
    clear BK133
    clear HB
    have BK133 := n0_
    have HB := n1_
    clear n0_ n1_
    refine start_ (n := 4) (S := fun w' => w'.cell? ⟨gb133, 0, none⟩ = some (.bool true) ∧ w'.cell? ⟨gb133, 1, none⟩ = some (.int .i64 a0_1) ∧ w'.cell? ⟨gb133, 2, none⟩ = some (.int .i64 a0_2) ∧ w'.cell? ⟨gb133, 3, none⟩ = some (.int .i64 a0_3) ∧ w'.cell? ⟨gb133, 4, none⟩ = some (.int .i64 a0_4)) (ds := []) #[false, false, false, false] (by kernel_rfl) rfl rfl ⟨(blk_cell BK133.out 0).trans rfl, (blk_cell BK133.out 1).trans rfl, (blk_cell BK133.out 2).trans rfl, (blk_cell BK133.out 3).trans rfl, (blk_cell BK133.out 4).trans rfl⟩ (fun hHeld => ?_)
    generalize w4.drew = w6 at BK133 HB hHeld ⊢
    refine take_ (i := 0) (N := some 5) (v := ?_) (a' := ?_) #[true, false, false, false] rfl rfl (by kernel_rfl) (fun _ _ _ h => h) (Or.inl ⟨by rfl, ?_⟩) hHeld ?_ ?_
    rotate_left
    · rintro w' ⟨s0, s1, s2, s3, s4⟩
      go_simp
      with_reducible rfl
    rotate_left
    · simp only [Act.put, List.setIfInBounds_toArray, List.set_cons_zero, List.set_cons_succ, i64_w, i32_w]
      rfl
    refine one_ (i := 1) (N := some 6) #[true, true, false, false] rfl rfl (by kernel_rfl) (by decide) (fun K hK => ?_)
    refine goes_ Tryd.func76 (by kernel_rfl) rfl #[] (by rfl) rfl rfl (by (try simp only [List.map_toArray, List.map_cons, List.map_nil]); first | done | rfl | (simp only [List.length_drop, List.length_take]; rfl)) ?_
    with_reducible refine (box_None.calls  t134 t135 t136 t137 t138 _ A3.out).mono ?_
    rintro e w7 ⟨rfl, hb⟩
    refine ⟨_, rfl, ?_⟩
    have n0_ := Aside0.mk (blk_below (g := gb133) (o := .cells #[.bool true, .int .i64 a0_1, .int .i64 a0_2, .int .i64 a0_3, .int .i64 a0_4] 65 (0, 0)) (by (with_reducible repeat (first | refine blk_drewN ?_ _ | refine blk_drew ?_ | refine blk_alloc ?_ _)); exact BK133.out) hb)
    have n1_ := Aside0.mk (below_step (by repeat (first | (with_reducible first | exact HB.out | apply below_alloc | apply pw_below_drewN | apply below_drew1 | refine below_set ?_ GE133.out) | exact HB.out)) hb)
    clear BK133
    clear HB
    have BK133 := n0_
    have HB := n1_
    clear n0_ n1_
    (try clear hb)
    (try clear hb2)
    (try clear hk)
    (try clear hi)
    refine hK.out _ _ ⟨(blk_cell BK133.out 0).trans rfl, (blk_cell BK133.out 1).trans rfl, (blk_cell BK133.out 2).trans rfl, (blk_cell BK133.out 3).trans rfl, (blk_cell BK133.out 4).trans rfl⟩ (fun hHeld => ?_)
    clear hK K
    refine norm_ (a' := ?_) ?_ ?_
    rotate_left
    · show Act.put _ (some 6) _ = _
      simp only [Act.put, List.setIfInBounds_toArray, List.set_cons_zero, List.set_cons_succ, i64_w, i32_w]
      rfl
    refine pure_ (i := 2) (N := some 7) (v := ?_) (a' := ?_) #[true, true, true, false] rfl rfl (by kernel_rfl) (fun _ _ _ h => h) (Or.inl ⟨by rfl, ?_⟩) ?_ ?_
    rotate_left
    · intro w'
      go_simp
      with_reducible rfl
    rotate_left
    · simp only [Act.put, List.setIfInBounds_toArray, List.set_cons_zero, List.set_cons_succ, i64_w, i32_w]
      rfl
    refine pure_ (i := 3) (N := some 2) (v := ?_) (a' := ?_) #[true, true, true, true] rfl rfl (by kernel_rfl) (fun _ _ _ h => h) (Or.inl ⟨by rfl, ?_⟩) ?_ ?_
    rotate_left
    · intro w'
      go_simp
      with_reducible rfl
    rotate_left
    · simp only [Act.put, List.setIfInBounds_toArray, List.set_cons_zero, List.set_cons_succ, i64_w, i32_w]
      rfl
    refine done_ (by kernel_rfl) ?_
    try go_wp2
    go_ret
    exact ⟨by first | rfl | (simp [errW_none, errW_some] <;> rfl) | (simp [*, errW_none, errW_some] <;> rfl), by repeat (first | (with_reducible first | exact HB.out | apply below_alloc | apply pw_below_drewN | apply below_drew1 | refine below_set ?_ GE133.out) | exact HB.out)⟩
  · replace c2 := Bool.eq_false_iff.mpr c2
    subst c2
    have H1 : (if a0_1 ≤ a0_3 then (some (decide (a0_2 ≤ a0_4))) else (some false)) = some r := by rw [if_neg (show ¬ (false = true) by decide)] at H; exact H
    clear H
    have H := H1
    clear H1
    by_cases c8 : a0_1 ≤ a0_3
    · rw [if_pos c8] at H
      have c8b0 : decide (a0_1 ≤ a0_3) = true := decide_eq_true c8
      clear c8
      obtain rfl := Option.some.inj H
      go_enter Tryd.func87, Tryd.ntmps87
      go_wp2_with (first | ((with_reducible refine gate_dst (N := 1) rfl ?_); refine box_event ?hg (N := 1) ?hd (cs := #[.bool false, .int .i64 a0_1, .int .i64 a0_2, .int .i64 a0_3, .int .i64 a0_4]) (t := 65) ?hr ?_; (case hd => rfl); (case hg => rfl); (case hr => first | (go_simp; done) | (go_simp; rfl)); intro gb133 hg w9 hbox hb; have n0_ := Aside0.mk (below_step (by repeat (first | (with_reducible first | exact HB.out | apply below_alloc | apply pw_below_drewN | apply below_drew1) | exact HB.out)) hb); have n1_ := Aside0.mk (hbox); have n2_ := Aside0.mk ((by rw [hg]; exact (below_size (by repeat (first | (with_reducible first | exact HB.out | apply below_alloc | apply pw_below_drewN | apply below_drew1) | exact HB.out))) : w.heap.size ≤ gb133)); have n3_ := Aside0.mk ((by rw [hg]; exact (below_size (by repeat (first | (with_reducible first | exact HB.out | apply below_alloc | apply pw_below_drewN | apply below_drew1) | exact HB.out))) : w.heap.size ≤ gb133)); clear HB; have HB := n0_; have BK133 := n1_; have GW133 := n2_; have GE133 := n3_; clear n0_ n1_ n2_ n3_; clear hb hbox hg; have hcz10_0 : w9.cell? ⟨gb133, 0, none⟩ = some (.bool false) := (blk_cell BK133.out 0).trans rfl; have hcz10_1 : w9.cell? ⟨gb133, 1, none⟩ = some (.int .i64 a0_1) := (blk_cell BK133.out 1).trans rfl; have hcz10_2 : w9.cell? ⟨gb133, 2, none⟩ = some (.int .i64 a0_2) := (blk_cell BK133.out 2).trans rfl; have hcz10_3 : w9.cell? ⟨gb133, 3, none⟩ = some (.int .i64 a0_3) := (blk_cell BK133.out 3).trans rfl; have hcz10_4 : w9.cell? ⟨gb133, 4, none⟩ = some (.int .i64 a0_4) := (blk_cell BK133.out 4).trans rfl; have hfz10_0 := blk_frozen BK133.out 0; have hfz10_1 := blk_frozen BK133.out 1; have hfz10_2 := blk_frozen BK133.out 2; have hfz10_3 := blk_frozen BK133.out 3; have hfz10_4 := blk_frozen BK133.out 4))
      go_ret
      exact ⟨by first | rfl | (simp [errW_none, errW_some] <;> rfl) | (simp [*, errW_none, errW_some] <;> rfl), by repeat (first | (with_reducible first | exact HB.out | apply below_alloc | apply pw_below_drewN | apply below_drew1 | refine below_set ?_ GE133.out) | exact HB.out)⟩
    · rw [if_neg c8] at H
      have c8b0 : decide (a0_1 ≤ a0_3) = false := decide_eq_false c8
      clear c8
      obtain rfl := Option.some.inj H
      go_enter Tryd.func87, Tryd.ntmps87
      go_wp2_with (first | ((with_reducible refine gate_dst (N := 1) rfl ?_); refine box_event ?hg (N := 1) ?hd (cs := #[.bool false, .int .i64 a0_1, .int .i64 a0_2, .int .i64 a0_3, .int .i64 a0_4]) (t := 65) ?hr ?_; (case hd => rfl); (case hg => rfl); (case hr => first | (go_simp; done) | (go_simp; rfl)); intro gb133 hg w11 hbox hb; have n0_ := Aside0.mk (below_step (by repeat (first | (with_reducible first | exact HB.out | apply below_alloc | apply pw_below_drewN | apply below_drew1) | exact HB.out)) hb); have n1_ := Aside0.mk (hbox); have n2_ := Aside0.mk ((by rw [hg]; exact (below_size (by repeat (first | (with_reducible first | exact HB.out | apply below_alloc | apply pw_below_drewN | apply below_drew1) | exact HB.out))) : w.heap.size ≤ gb133)); have n3_ := Aside0.mk ((by rw [hg]; exact (below_size (by repeat (first | (with_reducible first | exact HB.out | apply below_alloc | apply pw_below_drewN | apply below_drew1) | exact HB.out))) : w.heap.size ≤ gb133)); clear HB; have HB := n0_; have BK133 := n1_; have GW133 := n2_; have GE133 := n3_; clear n0_ n1_ n2_ n3_; clear hb hbox hg; have hcz12_0 : w11.cell? ⟨gb133, 0, none⟩ = some (.bool false) := (blk_cell BK133.out 0).trans rfl; have hcz12_1 : w11.cell? ⟨gb133, 1, none⟩ = some (.int .i64 a0_1) := (blk_cell BK133.out 1).trans rfl; have hcz12_2 : w11.cell? ⟨gb133, 2, none⟩ = some (.int .i64 a0_2) := (blk_cell BK133.out 2).trans rfl; have hcz12_3 : w11.cell? ⟨gb133, 3, none⟩ = some (.int .i64 a0_3) := (blk_cell BK133.out 3).trans rfl; have hcz12_4 : w11.cell? ⟨gb133, 4, none⟩ = some (.int .i64 a0_4) := (blk_cell BK133.out 4).trans rfl; have hfz12_0 := blk_frozen BK133.out 0; have hfz12_1 := blk_frozen BK133.out 1; have hfz12_2 := blk_frozen BK133.out 2; have hfz12_3 := blk_frozen BK133.out 3; have hfz12_4 := blk_frozen BK133.out 4))
      go_ret
      exact ⟨by first | rfl | (simp [errW_none, errW_some] <;> rfl) | (simp [*, errW_none, errW_some] <;> rfl), by repeat (first | (with_reducible first | exact HB.out | apply below_alloc | apply pw_below_drewN | apply below_drew1 | refine below_set ?_ GE133.out) | exact HB.out)⟩

def schema_named.f (a0 : ByteArray) : Option (List Int) := (some (([((a0.size : Int)) % 256] : List Int) : List Int)).bind fun y139 => (if y139.length + a0.size < 140737488355328 then (some (y139 ++ bytesOf a0)) else (none))
set_option maxHeartbeats 8000000 in
set_option maxRecDepth 100000 in
theorem schema_named.calls (a0 : ByteArray) (r : List Int) (w : World) (h : schema_named.f a0 = some r) :
    Calls Tryd.prog 88 #[.string a0] w fun e w' => ∃ v0_ : Value, e = .returned (v0_) ∧ Kd.R (Kd.int .u8) 5 w' w.heap.size (fun _ => True) v0_ r ∧ Below w.heap.size w w' := by
  have HB := Aside0.mk (Below.refl w.heap.size w)
  have H : ((some (([((a0.size : Int)) % 256] : List Int) : List Int)).bind fun y139 => (if y139.length + a0.size < 140737488355328 then (some (y139 ++ bytesOf a0)) else (none))) = some r := h
  clear h
  obtain ⟨y139, hy139⟩ : ∃ y_ : List Int, y_ = (([((a0.size : Int)) % 256] : List Int)) := ⟨_, rfl⟩
  replace H : (if y139.length + a0.size < 140737488355328 then (some (y139 ++ bytesOf a0)) else (none)) = some r := by first | (rw [hy139]; with_reducible exact H) | (have H2_ := (Option.bind_some _ _).symm.trans H; rw [hy139]; with_reducible exact H2_) | (have H2_ := (Option.bind_some _ _).symm.trans H; with_reducible exact H2_) | with_reducible exact H | (rw [hy139]; exact H) | exact H
  have Ny139 := Aside0.mk hy139
  clear hy139
  by_cases c2 : y139.length + a0.size < 140737488355328
  · rw [if_pos c2] at H
    have LMc2 := Aside0.mk c2
    clear c2
    obtain ⟨y142, hy142⟩ : ∃ y_ : List Int, y_ = (y139 ++ bytesOf a0) := ⟨_, rfl⟩
    replace H : (some y142) = some r := by first | (rw [hy142]; with_reducible exact H) | (have H2_ := (Option.bind_some _ _).symm.trans H; rw [hy142]; with_reducible exact H2_) | (have H2_ := (Option.bind_some _ _).symm.trans H; with_reducible exact H2_) | with_reducible exact H | (rw [hy142]; exact H) | exact H
    have Ny142 := Aside0.mk hy142
    clear hy142
    obtain rfl := Option.some.inj H
    go_enter Tryd.func88, Tryd.ntmps88
    go_wp2_with (first | ((with_reducible refine gate_dst (N := 6) rfl ?_); refine Kd.R_lit (Kd.int .u8) _ 5 ?hg (N := 6) ?hd (xs := ([((a0.size : Int)) % 256] : List Int)) (inner := [.int .u8 (((a0.size : Int)) % 256)]) (ok := fun _ => True) (okp := fun _ => True) ?hr ?hp (fun _ hk => hk) trivial (Below.refl _ _) (Nat.le_refl _) (by simp) ?_; (case hd => rfl); (case hg => rfl); (case hr => first | (go_simp; done) | (go_simp; rfl)); (case hp => exact (Reps.one (show Kd.M (Kd.int .u8) _ _ _ (((a0.size : Int)) % 256) [.int .u8 (((a0.size : Int)) % 256)] from rfl) (Reps.none _ _))); intro v140 w3 ho4 hb hg_ hnew_; clear hg_ hnew_; (first | rw [← Ny139.out] at ho4 | (simp only [Int.reduceToNat] at ho4; rw [← Ny139.out] at ho4)); have n0_ := Aside0.mk (Kd.R_lower ho4 (below_size (by repeat (first | (with_reducible first | exact HB.out | apply below_alloc | apply pw_below_drewN | apply below_drew1) | exact HB.out)))); have n1_ := Aside0.mk (below_step (by repeat (first | (with_reducible first | exact HB.out | apply below_alloc | apply pw_below_drewN | apply below_drew1) | exact HB.out)) hb); clear HB; have HO141 := n0_; have HB := n1_; clear n0_ n1_; clear hb ho4) | (at_builtin; refine print_append_str (w0 := w) w.heap.size rfl (.tmp 6) _ 43 9 5 rfl Tryd.underlying43 Tryd.underlying9 info5 v140 y139 a0 rfl rfl ?aO ?aB ?aS ?aL ?_; (case aB => exact (by repeat (first | (with_reducible first | exact HB.out | apply below_alloc | apply pw_below_drewN | apply below_drew1) | exact HB.out))); (case aO => exact (Kd.own_of_R (by (with_reducible repeat (first | apply Kd.R_alloc | apply Kd.R_drewN | apply Kd.R_drew)); exact HO141.out))); (case aS => exact (below_size (by repeat (first | (with_reducible first | exact HB.out | apply below_alloc | apply pw_below_drewN | apply below_drew1) | exact HB.out)))); (case aL => have := LMc2.out; omega); intro v143 w5 ho0 hb hg; have ho := Kd.R_of_own (h1 := fun _ => rfl) (ok := fun _ => True) ho0 (fun _ _ => trivial); clear ho0; have hat := True.intro; rw [← Ny142.out] at ho; change Kd.R (Kd.int .u8) 5 w5 w.heap.size (fun _ => True) v143 y142 at ho; have n0_ := Aside0.mk (hb); have n1_ := Aside0.mk (ho); clear HB; clear HO141; have HB := n0_; have HO144 := n1_; clear n0_ n1_; clear ho hb hg hat))
    go_ret
    exact ⟨_, by first | rfl | (simp [errW_none, errW_some] <;> rfl) | (simp [*, errW_none, errW_some] <;> rfl), by (with_reducible repeat (first | apply Kd.R_alloc | apply Kd.R_drewN | apply Kd.R_drew)); exact HO144.out, by repeat (first | (with_reducible first | exact HB.out | apply below_alloc | apply pw_below_drewN | apply below_drew1) | exact HB.out)⟩
  · rw [if_neg c2] at H
    exact absurd H (by simp)

end Go.Proofs.YtcjidlgmbjebjaaDoor.PSchemaForms

namespace Go.Proofs.YtcjidlgmbjebjaaDoor.PSchemaForms
open Go.RowKit Go.Proofs.YtcjidlgmbjebjaaDoorW.PrintWords Go.Proofs.YtcjidlgmbjebjaaDoorW.PrintLast Go.Proofs.YtcjidlgmbjebjaaDoorW.PrintMore
attribute [local go_sem] max2_int min2_int max_two min_two max_three min_three max_four min_four
def schema_bit.f (a0 : Bool) : Option (Int) := if a0 = true then (some 1) else (some 0)
set_option maxHeartbeats 8000000 in
set_option maxRecDepth 100000 in
theorem schema_bit.calls (a0 : Bool) (r : Int) (w : World) (h : schema_bit.f a0 = some r) :
    Calls Tryd.prog 90 #[.bool a0] w fun e w' => e = .returned (.int .u8 r) ∧ Drawn0 w w' := by
  have H : (if a0 = true then (some 1) else (some 0)) = some r := h
  clear h
  by_cases c2 : a0 = true
  · subst c2
    have H1 : (some 1) = some r := by rw [if_pos rfl] at H; exact H
    clear H
    have H := H1
    clear H1
    obtain rfl := Option.some.inj H
    go_enter Tryd.func90, Tryd.ntmps90
    go_wp2
    go_ret
    exact ⟨by first | rfl | (simp; done) | (simp [*]; done), by repeat (first | exact Drawn0.refl _ | apply Drawn0.step)⟩
  · replace c2 := Bool.eq_false_iff.mpr c2
    subst c2
    have H1 : (some 0) = some r := by rw [if_neg (show ¬ (false = true) by decide)] at H; exact H
    clear H
    have H := H1
    clear H1
    obtain rfl := Option.some.inj H
    go_enter Tryd.func90, Tryd.ntmps90
    go_wp2
    go_ret
    exact ⟨by first | rfl | (simp; done) | (simp [*]; done), by repeat (first | exact Drawn0.refl _ | apply Drawn0.step)⟩

def box_has.f (a0_0 : Bool) (a0_1 : Int) (a0_2 : Int) (a0_3 : Int) (a0_4 : Int) : Option (Bool) := if a0_0 = true then (some false) else ((box_Good.f a0_0 a0_1 a0_2 a0_3 a0_4).bind fun t151 => (some t151))
set_option maxHeartbeats 8000000 in
set_option maxRecDepth 100000 in
theorem box_has.calls (a0_0 : Bool) (a0_1 : Int) (a0_2 : Int) (a0_3 : Int) (a0_4 : Int) (r : Bool) (w : World) (h : box_has.f a0_0 a0_1 a0_2 a0_3 a0_4 = some r) :
    Calls Tryd.prog 127 #[.agg #[.bool a0_0, .int .i64 a0_1, .int .i64 a0_2, .int .i64 a0_3, .int .i64 a0_4]] w fun e w' => e = .returned (.bool r) ∧ Below w.heap.size w w' := by
  have hu65 := Tryd.underlying65
  have HB := Aside0.mk (Below.refl w.heap.size w)
  have H : (if a0_0 = true then (some false) else ((box_Good.f a0_0 a0_1 a0_2 a0_3 a0_4).bind fun t151 => (some t151))) = some r := h
  clear h
  by_cases c2 : a0_0 = true
  · subst c2
    have H1 : (some false) = some r := by rw [if_pos rfl] at H; exact H
    clear H
    have H := H1
    clear H1
    obtain rfl := Option.some.inj H
    go_enter Tryd.func127, Tryd.ntmps127
    go_wp2_with (first | ((with_reducible refine gate_dst (N := 1) rfl ?_); refine box_event ?hg (N := 1) ?hd (cs := #[.bool true, .int .i64 a0_1, .int .i64 a0_2, .int .i64 a0_3, .int .i64 a0_4]) (t := 65) ?hr ?_; (case hd => rfl); (case hg => rfl); (case hr => first | (go_simp; done) | (go_simp; rfl)); intro gb150 hg w3 hbox hb; have n0_ := Aside0.mk (below_step (by repeat (first | (with_reducible first | exact HB.out | apply below_alloc | apply pw_below_drewN | apply below_drew1) | exact HB.out)) hb); have n1_ := Aside0.mk (hbox); have n2_ := Aside0.mk ((by rw [hg]; exact (below_size (by repeat (first | (with_reducible first | exact HB.out | apply below_alloc | apply pw_below_drewN | apply below_drew1) | exact HB.out))) : w.heap.size ≤ gb150)); have n3_ := Aside0.mk ((by rw [hg]; exact (below_size (by repeat (first | (with_reducible first | exact HB.out | apply below_alloc | apply pw_below_drewN | apply below_drew1) | exact HB.out))) : w.heap.size ≤ gb150)); clear HB; have HB := n0_; have BK150 := n1_; have GW150 := n2_; have GE150 := n3_; clear n0_ n1_ n2_ n3_; clear hb hbox hg; have hcz4_0 : w3.cell? ⟨gb150, 0, none⟩ = some (.bool true) := (blk_cell BK150.out 0).trans rfl; have hcz4_1 : w3.cell? ⟨gb150, 1, none⟩ = some (.int .i64 a0_1) := (blk_cell BK150.out 1).trans rfl; have hcz4_2 : w3.cell? ⟨gb150, 2, none⟩ = some (.int .i64 a0_2) := (blk_cell BK150.out 2).trans rfl; have hcz4_3 : w3.cell? ⟨gb150, 3, none⟩ = some (.int .i64 a0_3) := (blk_cell BK150.out 3).trans rfl; have hcz4_4 : w3.cell? ⟨gb150, 4, none⟩ = some (.int .i64 a0_4) := (blk_cell BK150.out 4).trans rfl; have hfz4_0 := blk_frozen BK150.out 0; have hfz4_1 := blk_frozen BK150.out 1; have hfz4_2 := blk_frozen BK150.out 2; have hfz4_3 := blk_frozen BK150.out 3; have hfz4_4 := blk_frozen BK150.out 4))
    go_ret
    exact ⟨by first | rfl | (simp [errW_none, errW_some] <;> rfl) | (simp [*, errW_none, errW_some] <;> rfl), by repeat (first | (with_reducible first | exact HB.out | apply below_alloc | apply pw_below_drewN | apply below_drew1 | refine below_set ?_ GE150.out) | exact HB.out)⟩
  · replace c2 := Bool.eq_false_iff.mpr c2
    subst c2
    have H1 : ((box_Good.f false a0_1 a0_2 a0_3 a0_4).bind fun t151 => (some t151)) = some r := by rw [if_neg (show ¬ (false = true) by decide)] at H; exact H
    clear H
    have H := H1
    clear H1
    replace H := Option.bind_eq_some_iff.mp H
    obtain ⟨t151, A50, H⟩ := H
    replace H : (some t151) = some r := H
    have A5 := Aside0.mk A50
    clear A50
    obtain rfl := Option.some.inj H
    go_enter Tryd.func127, Tryd.ntmps127
    go_wp2_with (first | ((with_reducible refine gate_dst (N := 1) rfl ?_); refine box_event ?hg (N := 1) ?hd (cs := #[.bool false, .int .i64 a0_1, .int .i64 a0_2, .int .i64 a0_3, .int .i64 a0_4]) (t := 65) ?hr ?_; (case hd => rfl); (case hg => rfl); (case hr => first | (go_simp; done) | (go_simp; rfl)); intro gb150 hg w6 hbox hb; have n0_ := Aside0.mk (below_step (by repeat (first | (with_reducible first | exact HB.out | apply below_alloc | apply pw_below_drewN | apply below_drew1) | exact HB.out)) hb); have n1_ := Aside0.mk (hbox); have n2_ := Aside0.mk ((by rw [hg]; exact (below_size (by repeat (first | (with_reducible first | exact HB.out | apply below_alloc | apply pw_below_drewN | apply below_drew1) | exact HB.out))) : w.heap.size ≤ gb150)); have n3_ := Aside0.mk ((by rw [hg]; exact (below_size (by repeat (first | (with_reducible first | exact HB.out | apply below_alloc | apply pw_below_drewN | apply below_drew1) | exact HB.out))) : w.heap.size ≤ gb150)); clear HB; have HB := n0_; have BK150 := n1_; have GW150 := n2_; have GE150 := n3_; clear n0_ n1_ n2_ n3_; clear hb hbox hg; have hcz7_0 : w6.cell? ⟨gb150, 0, none⟩ = some (.bool false) := (blk_cell BK150.out 0).trans rfl; have hcz7_1 : w6.cell? ⟨gb150, 1, none⟩ = some (.int .i64 a0_1) := (blk_cell BK150.out 1).trans rfl; have hcz7_2 : w6.cell? ⟨gb150, 2, none⟩ = some (.int .i64 a0_2) := (blk_cell BK150.out 2).trans rfl; have hcz7_3 : w6.cell? ⟨gb150, 3, none⟩ = some (.int .i64 a0_3) := (blk_cell BK150.out 3).trans rfl; have hcz7_4 : w6.cell? ⟨gb150, 4, none⟩ = some (.int .i64 a0_4) := (blk_cell BK150.out 4).trans rfl; have hfz7_0 := blk_frozen BK150.out 0; have hfz7_1 := blk_frozen BK150.out 1; have hfz7_2 := blk_frozen BK150.out 2; have hfz7_3 := blk_frozen BK150.out 3; have hfz7_4 := blk_frozen BK150.out 4) | (go_at_call 87; (with_reducible refine (box_Good.calls false a0_1 a0_2 a0_3 a0_4 t151 _ A5.out).mono ?_); rintro e w8 ⟨rfl, hb⟩; have n0_ := Aside0.mk (blk_below (g := gb150) (o := .cells #[.bool false, .int .i64 a0_1, .int .i64 a0_2, .int .i64 a0_3, .int .i64 a0_4] 65 (0, 0)) (by (with_reducible repeat (first | refine blk_drewN ?_ _ | refine blk_drew ?_ | refine blk_alloc ?_ _)); exact BK150.out) hb); have n1_ := Aside0.mk (below_step (by repeat (first | (with_reducible first | exact HB.out | apply below_alloc | apply pw_below_drewN | apply below_drew1 | refine below_set ?_ GE150.out) | exact HB.out)) hb); clear BK150; clear HB; have BK150 := n0_; have HB := n1_; clear n0_ n1_; (try clear hb); (try clear hb2); (try clear hk); (try clear hi)))
    go_ret
    exact ⟨by first | rfl | (simp [errW_none, errW_some] <;> rfl) | (simp [*, errW_none, errW_some] <;> rfl), by repeat (first | (with_reducible first | exact HB.out | apply below_alloc | apply pw_below_drewN | apply below_drew1 | refine below_set ?_ GE150.out) | exact HB.out)⟩

end Go.Proofs.YtcjidlgmbjebjaaDoor.PSchemaForms

namespace Go.Proofs.YtcjidlgmbjebjaaDoor.PSchemaForms
open Go.RowKit Go.Proofs.YtcjidlgmbjebjaaDoorW.PrintWords Go.Proofs.YtcjidlgmbjebjaaDoorW.PrintLast Go.Proofs.YtcjidlgmbjebjaaDoorW.PrintMore
attribute [local go_sem] max2_int min2_int max_two min_two max_three min_three max_four min_four
attribute [local go_sem high] eqA65
def hachureref15_Good.f (a0_0 : Bool) (a0_1 : Int) (a0_2 : Int) (a0_3 : Int) (a0_4 : Int) : Option (Bool) := if a0_0 = true then (some (a0_0 && ((a0_1 == 0 && (a0_2 == 0)) && ((a0_3 == 0 && (a0_4 == 0)))))) else (if a0_1 ≤ a0_3 then (some (decide (a0_2 ≤ a0_4))) else (some false))
set_option maxHeartbeats 8000000 in
set_option maxRecDepth 100000 in
theorem hachureref15_Good.calls (a0_0 : Bool) (a0_1 : Int) (a0_2 : Int) (a0_3 : Int) (a0_4 : Int) (r : Bool) (w : World) (h : hachureref15_Good.f a0_0 a0_1 a0_2 a0_3 a0_4 = some r) :
    Calls Tryd.prog 92 #[.agg #[.bool a0_0, .int .i64 a0_1, .int .i64 a0_2, .int .i64 a0_3, .int .i64 a0_4]] w fun e w' => e = .returned (.bool r) ∧ Below w.heap.size w w' := by
  have hu65 := Tryd.underlying65
  have HB := Aside0.mk (Below.refl w.heap.size w)
  have H : (if a0_0 = true then (some (a0_0 && ((a0_1 == 0 && (a0_2 == 0)) && ((a0_3 == 0 && (a0_4 == 0)))))) else (if a0_1 ≤ a0_3 then (some (decide (a0_2 ≤ a0_4))) else (some false))) = some r := h
  clear h
  by_cases c2 : a0_0 = true
  · subst c2
    have H1 : (some (true && ((a0_1 == 0 && (a0_2 == 0)) && ((a0_3 == 0 && (a0_4 == 0)))))) = some r := by rw [if_pos rfl] at H; exact H
    clear H
    have H := H1
    clear H1
    obtain rfl := Option.some.inj H
    go_enter Tryd.func92, Tryd.ntmps92
    go_wp2_with (first | ((with_reducible refine gate_dst (N := 1) rfl ?_); refine box_event ?hg (N := 1) ?hd (cs := #[.bool true, .int .i64 a0_1, .int .i64 a0_2, .int .i64 a0_3, .int .i64 a0_4]) (t := 65) ?hr ?_; (case hd => rfl); (case hg => rfl); (case hr => first | (go_simp; done) | (go_simp; rfl)); intro gb183 hg w3 hbox hb; have n0_ := Aside0.mk (below_step (by repeat (first | (with_reducible first | exact HB.out | apply below_alloc | apply pw_below_drewN | apply below_drew1) | exact HB.out)) hb); have n1_ := Aside0.mk (hbox); have n2_ := Aside0.mk ((by rw [hg]; exact (below_size (by repeat (first | (with_reducible first | exact HB.out | apply below_alloc | apply pw_below_drewN | apply below_drew1) | exact HB.out))) : w.heap.size ≤ gb183)); have n3_ := Aside0.mk ((by rw [hg]; exact (below_size (by repeat (first | (with_reducible first | exact HB.out | apply below_alloc | apply pw_below_drewN | apply below_drew1) | exact HB.out))) : w.heap.size ≤ gb183)); clear HB; have HB := n0_; have BK183 := n1_; have GW183 := n2_; have GE183 := n3_; clear n0_ n1_ n2_ n3_; clear hb hbox hg; have hcz4_0 : w3.cell? ⟨gb183, 0, none⟩ = some (.bool true) := (blk_cell BK183.out 0).trans rfl; have hcz4_1 : w3.cell? ⟨gb183, 1, none⟩ = some (.int .i64 a0_1) := (blk_cell BK183.out 1).trans rfl; have hcz4_2 : w3.cell? ⟨gb183, 2, none⟩ = some (.int .i64 a0_2) := (blk_cell BK183.out 2).trans rfl; have hcz4_3 : w3.cell? ⟨gb183, 3, none⟩ = some (.int .i64 a0_3) := (blk_cell BK183.out 3).trans rfl; have hcz4_4 : w3.cell? ⟨gb183, 4, none⟩ = some (.int .i64 a0_4) := (blk_cell BK183.out 4).trans rfl; have hfz4_0 := blk_frozen BK183.out 0; have hfz4_1 := blk_frozen BK183.out 1; have hfz4_2 := blk_frozen BK183.out 2; have hfz4_3 := blk_frozen BK183.out 3; have hfz4_4 := blk_frozen BK183.out 4))
    go_ret
    exact ⟨by first | rfl | (simp [errW_none, errW_some] <;> rfl) | (simp [*, errW_none, errW_some] <;> rfl), by repeat (first | (with_reducible first | exact HB.out | apply below_alloc | apply pw_below_drewN | apply below_drew1 | refine below_set ?_ GE183.out) | exact HB.out)⟩
  · replace c2 := Bool.eq_false_iff.mpr c2
    subst c2
    have H1 : (if a0_1 ≤ a0_3 then (some (decide (a0_2 ≤ a0_4))) else (some false)) = some r := by rw [if_neg (show ¬ (false = true) by decide)] at H; exact H
    clear H
    have H := H1
    clear H1
    by_cases c5 : a0_1 ≤ a0_3
    · rw [if_pos c5] at H
      have c5b0 : decide (a0_1 ≤ a0_3) = true := decide_eq_true c5
      clear c5
      obtain rfl := Option.some.inj H
      go_enter Tryd.func92, Tryd.ntmps92
      go_wp2_with (first | ((with_reducible refine gate_dst (N := 1) rfl ?_); refine box_event ?hg (N := 1) ?hd (cs := #[.bool false, .int .i64 a0_1, .int .i64 a0_2, .int .i64 a0_3, .int .i64 a0_4]) (t := 65) ?hr ?_; (case hd => rfl); (case hg => rfl); (case hr => first | (go_simp; done) | (go_simp; rfl)); intro gb183 hg w6 hbox hb; have n0_ := Aside0.mk (below_step (by repeat (first | (with_reducible first | exact HB.out | apply below_alloc | apply pw_below_drewN | apply below_drew1) | exact HB.out)) hb); have n1_ := Aside0.mk (hbox); have n2_ := Aside0.mk ((by rw [hg]; exact (below_size (by repeat (first | (with_reducible first | exact HB.out | apply below_alloc | apply pw_below_drewN | apply below_drew1) | exact HB.out))) : w.heap.size ≤ gb183)); have n3_ := Aside0.mk ((by rw [hg]; exact (below_size (by repeat (first | (with_reducible first | exact HB.out | apply below_alloc | apply pw_below_drewN | apply below_drew1) | exact HB.out))) : w.heap.size ≤ gb183)); clear HB; have HB := n0_; have BK183 := n1_; have GW183 := n2_; have GE183 := n3_; clear n0_ n1_ n2_ n3_; clear hb hbox hg; have hcz7_0 : w6.cell? ⟨gb183, 0, none⟩ = some (.bool false) := (blk_cell BK183.out 0).trans rfl; have hcz7_1 : w6.cell? ⟨gb183, 1, none⟩ = some (.int .i64 a0_1) := (blk_cell BK183.out 1).trans rfl; have hcz7_2 : w6.cell? ⟨gb183, 2, none⟩ = some (.int .i64 a0_2) := (blk_cell BK183.out 2).trans rfl; have hcz7_3 : w6.cell? ⟨gb183, 3, none⟩ = some (.int .i64 a0_3) := (blk_cell BK183.out 3).trans rfl; have hcz7_4 : w6.cell? ⟨gb183, 4, none⟩ = some (.int .i64 a0_4) := (blk_cell BK183.out 4).trans rfl; have hfz7_0 := blk_frozen BK183.out 0; have hfz7_1 := blk_frozen BK183.out 1; have hfz7_2 := blk_frozen BK183.out 2; have hfz7_3 := blk_frozen BK183.out 3; have hfz7_4 := blk_frozen BK183.out 4))
      go_ret
      exact ⟨by first | rfl | (simp [errW_none, errW_some] <;> rfl) | (simp [*, errW_none, errW_some] <;> rfl), by repeat (first | (with_reducible first | exact HB.out | apply below_alloc | apply pw_below_drewN | apply below_drew1 | refine below_set ?_ GE183.out) | exact HB.out)⟩
    · rw [if_neg c5] at H
      have c5b0 : decide (a0_1 ≤ a0_3) = false := decide_eq_false c5
      clear c5
      obtain rfl := Option.some.inj H
      go_enter Tryd.func92, Tryd.ntmps92
      go_wp2_with (first | ((with_reducible refine gate_dst (N := 1) rfl ?_); refine box_event ?hg (N := 1) ?hd (cs := #[.bool false, .int .i64 a0_1, .int .i64 a0_2, .int .i64 a0_3, .int .i64 a0_4]) (t := 65) ?hr ?_; (case hd => rfl); (case hg => rfl); (case hr => first | (go_simp; done) | (go_simp; rfl)); intro gb183 hg w8 hbox hb; have n0_ := Aside0.mk (below_step (by repeat (first | (with_reducible first | exact HB.out | apply below_alloc | apply pw_below_drewN | apply below_drew1) | exact HB.out)) hb); have n1_ := Aside0.mk (hbox); have n2_ := Aside0.mk ((by rw [hg]; exact (below_size (by repeat (first | (with_reducible first | exact HB.out | apply below_alloc | apply pw_below_drewN | apply below_drew1) | exact HB.out))) : w.heap.size ≤ gb183)); have n3_ := Aside0.mk ((by rw [hg]; exact (below_size (by repeat (first | (with_reducible first | exact HB.out | apply below_alloc | apply pw_below_drewN | apply below_drew1) | exact HB.out))) : w.heap.size ≤ gb183)); clear HB; have HB := n0_; have BK183 := n1_; have GW183 := n2_; have GE183 := n3_; clear n0_ n1_ n2_ n3_; clear hb hbox hg; have hcz9_0 : w8.cell? ⟨gb183, 0, none⟩ = some (.bool false) := (blk_cell BK183.out 0).trans rfl; have hcz9_1 : w8.cell? ⟨gb183, 1, none⟩ = some (.int .i64 a0_1) := (blk_cell BK183.out 1).trans rfl; have hcz9_2 : w8.cell? ⟨gb183, 2, none⟩ = some (.int .i64 a0_2) := (blk_cell BK183.out 2).trans rfl; have hcz9_3 : w8.cell? ⟨gb183, 3, none⟩ = some (.int .i64 a0_3) := (blk_cell BK183.out 3).trans rfl; have hcz9_4 : w8.cell? ⟨gb183, 4, none⟩ = some (.int .i64 a0_4) := (blk_cell BK183.out 4).trans rfl; have hfz9_0 := blk_frozen BK183.out 0; have hfz9_1 := blk_frozen BK183.out 1; have hfz9_2 := blk_frozen BK183.out 2; have hfz9_3 := blk_frozen BK183.out 3; have hfz9_4 := blk_frozen BK183.out 4))
      go_ret
      exact ⟨by first | rfl | (simp [errW_none, errW_some] <;> rfl) | (simp [*, errW_none, errW_some] <;> rfl), by repeat (first | (with_reducible first | exact HB.out | apply below_alloc | apply pw_below_drewN | apply below_drew1 | refine below_set ?_ GE183.out) | exact HB.out)⟩

end Go.Proofs.YtcjidlgmbjebjaaDoor.PSchemaForms

namespace Go.Proofs.YtcjidlgmbjebjaaDoor
open Go Go.RowKit Go.Proofs.YtcjidlgmbjebjaaDoorW.PrintWords
def nmL (s : ByteArray) : List Int := (s.size : Int) :: bytesOf s
end Go.Proofs.YtcjidlgmbjebjaaDoor

namespace Go.Proofs.YtcjidlgmbjebjaaDoor
open Go Go.RowKit Go.Proofs.YtcjidlgmbjebjaaDoorW.PrintWords
def numB (n : Int) : List Int := putB (u64of n)
theorem numB_len (n : Int) : (numB n).length = 8 := rfl
theorem slb_alloc {w : World} {v : Value} {l : List Int} (h : SlB w v l) (o : Obj) : SlB (w.alloc o) v l := slb_below h ((Below.refl _ _).alloc (Nat.le_refl _) o)
end Go.Proofs.YtcjidlgmbjebjaaDoor

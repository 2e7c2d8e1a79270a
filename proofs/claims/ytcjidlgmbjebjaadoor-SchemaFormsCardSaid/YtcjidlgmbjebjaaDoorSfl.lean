/- A part of the proof of SchemaForms. -/
import Derived.Test.YtcjidlgmbjebjaaDoorSfk
import Derived.Test.YtcjidlgmbjebjaaDoorSfe
import Derived.Deep.RegionHeldLaw
import Derived.Test.YtcjidlgmbjebjaaDoorSfj
import Derived.Lib.ConvBytes
import Derived.Deep.RegionHeld3
set_option linter.unusedVariables false
set_option linter.unusedSimpArgs false
set_option maxRecDepth 100000
namespace Go.Proofs.YtcjidlgmbjebjaaDoor
open Go Go.RowKit Go.Proofs.YtcjidlgmbjebjaaDoorW.PrintWords
theorem sgood_any (nm : ByteArray) (k srs : Int) (v0 : Value) (cs : List Col) (W : World) (hs : nm.size ≤ 9223372036854775807) (hcs : ∀ c ∈ cs, c.1.size ≤ 9223372036854775807) (hv0 : ColsV W v0 cs) :
    Calls Tryd.prog 15 #[schV nm k srs v0] W (RetS (.int .i64 (goodSch nm k srs cs)) W) := by
  cases hh : headOk nm k srs cs.length with
  | false => rw [good_head hh]; exact good_bad nm k srs v0 cs W hs hv0 hh
  | true =>
    refine sgood_val nm k srs v0 cs W hs hcs ?_ hv0
    unfold headOk at hh
    simp only [Bool.and_eq_true, decide_eq_true_eq] at hh
    omega
theorem srefgood_any (nm : ByteArray) (k srs : Int) (v0 : Value) (cs : List Col) (W : World) (hs : nm.size ≤ 9223372036854775807) (hcs : ∀ c ∈ cs, c.1.size ≤ 9223372036854775807) (hv0 : ColsV W v0 cs) :
    Calls Tryd.prog 16 #[schV nm k srs v0] W (RetS (.int .i64 (goodSch nm k srs cs)) W) := by
  cases hh : headOk nm k srs cs.length with
  | false => rw [good_head hh]; exact refgood_bad nm k srs v0 cs W hs hv0 hh
  | true =>
    refine srefgood_val nm k srs v0 cs W hs hcs ?_ hv0
    unfold headOk at hh
    simp only [Bool.and_eq_true, decide_eq_true_eq] at hh
    omega
abbrev Ent := Sb.Ent
def numsOf (e : Ent) : List Int := [e.id, e.tb, e.t0, e.t1, e.t2, e.ct, e.nx]
def numsOk (e : Ent) : Bool := (numsOf e).all fun n => decide (0 ≤ n)
def okE (e : Ent) : Bool := decide (goodSch e.nm e.kd e.srs e.cs = 0) && (numsOk e && boxG e.bn e.lx e.ly e.hx e.hy)
/-- An entry's cells. -/
def entL (e : Ent) (v : Value) : Array Value := #[.string e.nm, .int .i64 e.kd, .int .i64 e.srs, v, .int .i64 e.id, .int .i64 e.tb, .int .i64 e.t0, .int .i64 e.t1, .int .i64 e.t2, .int .i64 e.ct, .int .i64 e.nx, .bool e.bn, .int .i64 e.lx, .int .i64 e.ly, .int .i64 e.hx, .int .i64 e.hy]
def entV (e : Ent) (v : Value) : Value := .agg (entL e v)
def EntAt (T : Nat) (w : World) (b : Nat) (e : Ent) (v : Value) : Prop := w.heap[b]? = some (.cells (entL e v) T (0, 0))
theorem ent_cell {T : Nat} {w : World} {b : Nat} {e : Ent} {v : Value} (h : EntAt T w b e v) (i : Nat) (x : Value) (hx : (entL e v)[i]? = some x) : w.cell? ⟨b, i, none⟩ = some x := by
  rw [Lib.cell_of_heap h]; exact hx
theorem ent_below {T : Nat} {w w' : World} {b : Nat} {e : Ent} {v : Value} (h : EntAt T w b e v) (hb : Below w.heap.size w w') : EntAt T w' b e v := (hb.block b (Array.getElem?_eq_some_iff.1 h).1).trans h
theorem ent_alloc {T : Nat} {w : World} {b : Nat} {e : Ent} {v : Value} (h : EntAt T w b e v) (o : Obj) : EntAt T (w.alloc o) b e v := ent_below h ((Below.refl _ _).alloc (Nat.le_refl _) o)
theorem ent_drew {T : Nat} {w : World} {b : Nat} {e : Ent} {v : Value} (h : EntAt T w b e v) : EntAt T w.drew b e v := h
theorem ent_app {T : Nat} {w w' : World} {b : Nat} {e : Ent} {v : Value} (hT : T ≠ 5) (h : EntAt T w b e v) (hk : Kept5 w w') : EntAt T w' b e v :=
  (hk b (Array.getElem?_eq_some_iff.1 h).1 (by rintro ⟨cells, hc⟩; rw [h] at hc; injection hc with hc; injection hc with _ hc; exact hT hc)).trans h
theorem ent_lt {T : Nat} {w : World} {b : Nat} {e : Ent} {v : Value} (h : EntAt T w b e v) : b < w.heap.size := (Array.getElem?_eq_some_iff.1 h).1
def RetMin (ns : List Int) (W : World) (e : Ending) (w' : World) : Prop := ∃ x, e = .returned (.int .i64 x) ∧ (x < 0 ↔ ∃ n ∈ ns, n < 0) ∧ Below W.heap.size W w'
def MnR (ns : List Int) (W : World) (a i : Value) (w' : World) : Prop :=
  ∃ (j : Nat) (x : Int), 1 ≤ j ∧ j ≤ ns.length ∧ i = .int .i64 j ∧ a = .int .i64 x ∧ (x < 0 ↔ ∃ n ∈ ns.take j, n < 0) ∧ Below W.heap.size W w'
set_option maxHeartbeats 2000000 in
theorem min_val (b o cap : Nat) (ns : List Int) (W : World) (hns : IntsAt W b o ns) (h1 : 0 < ns.length) (h7 : ns.length ≤ 7) : Calls Tryd.prog 86 #[.slice (some ⟨b, o, none⟩) ns.length cap] W (RetMin ns W) := by
  obtain ⟨x0, hx0⟩ : ∃ x, ns[0]? = some x := ⟨ns[0], List.getElem?_eq_getElem h1⟩
  have z0 : W.cell? ⟨b, o, none⟩ = some (.int .i64 x0) := hns 0 x0 hx0
  have HN := Lib.hid hns; clear hns
  have HT1 := Lib.hid (show x0 < 0 ↔ ∃ n ∈ ns.take 1, n < 0 by
    match ns, hx0 with
    | y :: r, hx0 => simp at hx0; subst hx0; simp)
  clear hx0
  go_enter Tryd.func86, Tryd.ntmps86
  go_wp2_with fail
  go_loopw [3, 4] (fun a i w' => MnR ns W a i w') (fun _ i _ => ns.length - (intOf i).toNat)
  case atStart => exact ⟨1, x0, by omega, by omega, rfl, rfl, HT1.out, Below.refl _ _⟩
  case round =>
    obtain ⟨j, x, hj1, hj, rfl, rfl, hx, hB⟩ := hrel
    clear z0
    by_cases hp : j < ns.length
    · obtain ⟨y, hy⟩ : ∃ y, ns[j]? = some y := ⟨ns[j], List.getElem?_eq_getElem hp⟩
      have z := cell_later hB (HN.out j y hy)
      have HREL := Lib.hid (show MnR ns W (.int .i64 (min x y)) (.int .i64 ((j + 1 : Nat) : Int)) wr from ⟨j + 1, _, by omega, by omega, rfl, rfl, by
        rw [take_next1 hy]
        have : (min x y < 0) ↔ (x < 0 ∨ y < 0) := by omega
        rw [this, hx]
        simp only [List.mem_append, List.mem_singleton]
        constructor
        · rintro (⟨n, h1, h2⟩ | h)
          · exact ⟨n, .inl h1, h2⟩
          · exact ⟨y, .inr rfl, h⟩
        · rintro ⟨n, h1 | rfl, h2⟩
          · exact .inl ⟨n, h1, h2⟩
          · exact .inr h2, hB⟩)
      clear hy hx
      go_wp2_with fail
      exact ⟨HREL.out, by simp [intOf]; omega⟩
    · obtain rfl : j = ns.length := by omega
      rw [List.take_length] at hx
      go_wp2_with fail
      go_ret
      exact ⟨x, rfl, hx, hB⟩
end Go.Proofs.YtcjidlgmbjebjaaDoor

namespace Go.Proofs.YtcjidlgmbjebjaaDoor
open Go Go.RowKit Go.Proofs.YtcjidlgmbjebjaaDoorW.PrintWords
/-- A variable that holds a slice of bytes. -/
structure OneSl (w : World) (b : Nat) : Prop where
  out : ∃ A n c, w.heap[b]? = some (.cells #[.slice A n c] 43 (0, 0))
theorem OneSl.frozen {w : World} {b : Nat} (h : OneSl w b) : w.frozen? ⟨b, 0, none⟩ = false := by obtain ⟨A, n, c, h⟩ := h.out; exact Lib.frozen_of_heap h 0
theorem OneSl.cat {w : World} {b : Nat} (h : OneSl w b) : w.cell? ⟨b, 0, none⟩ = some (cAt w b) := by obtain ⟨A, n, c, h⟩ := h.out; exact cat_of (by rw [Lib.cell_of_heap h]; rfl)
theorem OneSl.below {w w' : World} {b : Nat} (h : OneSl w b) (hb : Below w.heap.size w w') : OneSl w' b := by
  obtain ⟨A, n, c, h⟩ := h.out
  exact ⟨A, n, c, (hb.block b (Array.getElem?_eq_some_iff.1 h).1).trans h⟩
theorem OneSl.drew {w : World} {b : Nat} (h : OneSl w b) : OneSl w.drew b := h.below (below_drew (Below.refl _ _))
theorem OneSl.set {w : World} {b : Nat} (h : OneSl w b) (A : Option Addr) (n c : Nat) : OneSl (w.setCell ⟨b, 0, none⟩ (.slice A n c)) b := by
  obtain ⟨A', n', c', h⟩ := h.out
  exact ⟨A, n, c, heap_setCell_same w b 0 _ _ _ h⟩
theorem OneSl.nobyte {w : World} {b : Nat} (h : OneSl w b) : NoByte w b := by
  obtain ⟨A, n, c, h⟩ := h.out
  refine nobyte_of h fun i x hi => ?_
  match i, hi with
  | 0, hi => simp at hi
  | i + 1, hi => simp at hi
def RetCl (n : Nat) (l : List Int) (w : World) (e : Ending) (w' : World) : Prop := ∃ A c, e = .returned (.slice A n c) ∧ SlB w' (.slice A n c) l ∧ Below w.heap.size w w'
theorem clone_cut (A : Option Addr) (c n : Nat) (l : List Int) (hn : n ≤ l.length) (hc : l.length ≤ c) (hl : l.length ≤ 140737488355000) (w : World) (hC : Kd.C (Kd.int .u8) w A l.length l) : Calls Tryd.prog 113 #[.slice A n c] w (RetCl n (l.take n) w) := by
  have hlen : (l.take n).length = n := by rw [List.length_take]; omega
  have h := kC_take n hC
  refine (clone_val (.slice A n c) (l.take n) w ⟨A, c, by rw [hlen], by omega, h⟩ (by omega)).mono ?_
  rintro e w' ⟨v, rfl, hr, hb⟩
  have hs := slb_row hr (by omega)
  obtain ⟨A', c', rfl, h1, h2⟩ := hs
  refine ⟨A', c', by rw [hlen], ?_, hb⟩
  rw [hlen] at h1
  exact ⟨A', c', by rw [hlen], by omega, h2⟩
def BytQ (p bn n : Nat) (l : List Int) (W0 : World) (m er : Int) (w' : World) : Prop :=
  Keep1 p W0 w' ∧ NoByte w' p ∧ (∃ v, w'.cell? ⟨bn, 0, none⟩ = some v ∧ SlB w' v (Sb.sTake n (0, l)).1) ∧ (n ≤ l.length → m = n ∧ er = 0) ∧ (¬ n ≤ l.length → er = 8)
set_option maxHeartbeats 4000000 in
theorem bytes1_val (bs bp bn p : Nat) (n : Nat) (l : List Int) (hl : l.length ≤ 140737488355000) (W0 W : World) (hs : SrcP W p (0, l)) (hk0 : Keep1 p W0 W) (hbn : W0.heap.size ≤ bn) (hnn : (n : Int) ≤ 9223372036854775807)
    (z1 : W.cell? ⟨bp, 0, none⟩ = some (.pointer (some ⟨p, 0, none⟩))) (z2 : W.cell? ⟨bs, 0, none⟩ = some (.int .i64 n)) (z4 : W.heap[bn]? = some (.cells #[.slice none 0 0] 43 (0, 0)))
    (d1 : bp ≠ bn) (d2 : bs ≠ bn) (d4 : p ≠ bn) :
    Calls Tryd.prog 121 #[.pointer (some ⟨bs, 0, none⟩), .pointer (some ⟨bp, 0, none⟩), .pointer (some ⟨bn, 0, none⟩)] W (RetDo p l (BytQ p bn n l W0)) := by
  have HS := Lib.hid hs
  have hlt := src_lt hs
  obtain ⟨v, ⟨h, _⟩, A, c, rfl, hc, hC⟩ := hs
  have c1 : W.cell? ⟨p, 1, none⟩ = some (.slice A l.length c) := by rw [Lib.cell_of_heap h]; rfl
  have HO := Lib.hid (show OneSl W bn from ⟨_, _, _, z4⟩)
  have z5 : W.cell? ⟨bn, 0, none⟩ = some (.slice none 0 0) := by rw [Lib.cell_of_heap z4]; rfl
  have HC := Lib.hid hC
  have HK := Lib.hid hk0
  clear h hC z4 hk0
  by_cases hle : n ≤ l.length
  · have HG := Lib.hid (fun w hC => clone_cut A c n l hle hc hl w hC)
    have HQ := Lib.hid (show (Sb.sTake n (0, l)).1 = l.take n by unfold Sb.sTake; rw [if_pos rfl, if_neg (by simpa using hle)])
    go_enter Tryd.func121, Tryd.ntmps121
    go_wp2_with fail
    go_region_held3 (fun w' => w'.cell? ⟨bp, 0, none⟩ = some (.pointer (some ⟨p, 0, none⟩)) ∧ w'.cell? ⟨bs, 0, none⟩ = some (.int .i64 n) ∧ w'.cell? ⟨p, 1, none⟩ = some (.slice A l.length c) ∧ Below W.heap.size W w')
      (first
        | (go_keep; done)
        | ((repeat' apply And.intro) <;> first | assumption | (rw [World.cell?_drew]; assumption) | (exact below_drew (Below.refl _ _))))
      (fail)
    go_wp2_with fail
    go_region_held_law (fun w' => w'.cell? ⟨bp, 0, none⟩ = some (.pointer (some ⟨p, 0, none⟩)) ∧ w'.cell? ⟨bs, 0, none⟩ = some (.int .i64 n) ∧ w'.cell? ⟨p, 1, none⟩ = some (.slice A l.length c) ∧ w'.frozen? ⟨bn, 0, none⟩ = false ∧ w'.cell? ⟨bn, 0, none⟩ = some (cAt w' bn) ∧ OneSl w' bn ∧ Keep1 bn W w')
      (first
        | (go_keep; done)
        | ((repeat' apply And.intro) <;> first | (rw [World.cell?_drew, World.cell?_drew]; assumption) | (exact HO.out.drew.drew.frozen) | (exact HO.out.drew.drew.cat) | (exact HO.out.drew.drew) | (exact Keep1.of_below (below_drew (below_drew (Below.refl _ _)))))
        | (go_split_ands; (repeat' apply And.intro) <;> first | (exact cell_later hb1 (by assumption)) | (exact (OneSl.below (by assumption) hb1).frozen) | (exact (OneSl.below (by assumption) hb1).cat) | (exact OneSl.below (by assumption) hb1) | (exact Keep1.trans (by assumption) (Keep1.of_below hb1)))
        | (go_split_ands; (repeat' apply And.intro) <;> first | (exact cat_set (by assumption)) | (exact cell_setB (by assumption) (by assumption)) | (exact frozen_setB (by assumption)) | (exact OneSl.set (by assumption) _ _ _) | (exact Keep1.set (by assumption) 0 _)))
      (first
        | (go_at_call 113; go_split_ands; refine (HG.out _ (kC_keep HC.out HO.out.nobyte (by assumption))).mono ?_; rintro e w1 ⟨A1, c2, rfl, hs1, hb1⟩))
    rename_i hH
    have HO1 := Lib.hid ((OneSl.below (HO.out.drew.drew) hb1).nobyte)
    have HF := Lib.hid hH.2.2.2.2.2.2
    have HCN := Lib.hid (show World.cell? (w1.setCell ⟨bn, 0, none⟩ (.slice A1 n c2)) ⟨bn, 0, none⟩ = some (.slice A1 n c2) from cell_setS hH.2.2.2.2.1)
    have HV := Lib.hid (slb_keep hs1 HO1.out ((Keep1.refl bn w1).set 0 (.slice A1 n c2)))
    clear hs1 hb1
    go_wp2_with fail
    go_ret2
    exact ⟨n, 0, rfl, src_keep HS.out HO.out.nobyte d4 HF.out, fun _ => ⟨by omega, by omega⟩, keep_new HK.out HF.out hbn, src_nobyte (src_keep HS.out HO.out.nobyte d4 HF.out), ⟨_, HCN.out, by rw [HQ.out]; exact HV.out⟩, fun _ => ⟨rfl, rfl⟩, fun h => absurd hle h⟩
  · have HQ := Lib.hid (show (Sb.sTake n (0, l)).1 = [] by unfold Sb.sTake; rw [if_pos rfl, if_pos (by simpa using hle)])
    go_enter Tryd.func121, Tryd.ntmps121
    go_wp2_with fail
    go_region_held3 (fun w' => w'.cell? ⟨bp, 0, none⟩ = some (.pointer (some ⟨p, 0, none⟩)) ∧ w'.cell? ⟨bs, 0, none⟩ = some (.int .i64 n) ∧ w'.cell? ⟨p, 1, none⟩ = some (.slice A l.length c) ∧ Below W.heap.size W w')
      (first
        | (go_keep; done)
        | ((repeat' apply And.intro) <;> first | assumption | (rw [World.cell?_drew]; assumption) | (exact below_drew (Below.refl _ _))))
      (fail)
    rename_i hH
    have hBB := hH.2.2.2
    have hzn : W.drew.cell? ⟨bn, 0, none⟩ = some (.slice none 0 0) := by rw [World.cell?_drew]; exact z5
    go_wp2_with fail
    go_ret2
    exact ⟨0, 8, rfl, src_below HS.out hBB, fun h => by omega, HK.out.trans (Keep1.of_below hBB), src_nobyte (src_below HS.out hBB), ⟨_, hzn, by rw [HQ.out]; exact slb_nil _ _ _⟩, fun h => absurd h hle, fun _ => rfl⟩
/-- What Bytes hands back. -/
def RetBy (p n : Nat) (s : Sb.Src) (W : World) (e : Ending) (w' : World) : Prop := ∃ A m c, e = .returned (.slice A m c) ∧ SlB w' (.slice A m c) (Sb.sTake n s).1 ∧ SrcP w' p (Sb.sTake n s).2 ∧ Keep1 p W w'
set_option maxHeartbeats 4000000 in
theorem bytes_val (p n : Nat) (hn : (n : Int) ≤ 9223372036854775807) (s : Sb.Src) (hl : s.2.length ≤ 140737488355000) (W : World) (hs : SrcP W p s) :
    Calls Tryd.prog 72 #[.pointer (some ⟨p, 0, none⟩), .int .i64 n] W (RetBy p n s W) := by
  have hlt := src_lt hs
  have hmf : ∀ (fn : Fn) (first cap : Array Value) (w : World), (Instr.makeFunc fn first cap).run Tryd.prog w = .ok (.func fn first cap) w := fun _ _ _ _ => rfl
  obtain ⟨er0, l⟩ := s
  by_cases he : er0 = 0
  · subst he
    have HS := Lib.hid hs; clear hs
    go_enter Tryd.func72, Tryd.ntmps72
    go_wp2_with fail
    have hs4 := src_alloc (src_alloc (src_alloc HS.out (.cells #[.pointer (some ⟨p, 0, none⟩)] 112)) (.cells #[.int .i64 n] 3)) (.cells #[.slice none 0 0] 43)
    have hst := step_121 p _ l _ hs4 _ (bytes1_val (W.heap.size + 1) W.heap.size (W.heap.size + 1 + 1) p n l hl W _ hs4 ((((Keep1.refl p W).alloc _).alloc _).alloc _) (by omega) hn (by go_cell) (by go_cell) (hp_new _ _ _ (by simp)) (by omega) (by omega) (by omega))
    refine hst.mono ?_
    rintro e w1 ⟨rfl, m, er, w2, ⟨hk2, hnb, ⟨v, hc2, hv2⟩, q1, q2⟩, h3⟩
    have hres : SrcP w1 p (Sb.sTake n (0, l)).2 ∧ Keep1 p w2 w1 := by
      unfold Sb.sTake
      rw [if_pos rfl]
      by_cases hle : n ≤ l.length
      · obtain ⟨rfl, rfl⟩ := q1 hle
        rw [if_neg (by simpa using hle)]
        rcases h3 with ⟨_, h4, h5⟩ | ⟨h4, _⟩
        · exact ⟨h4, h5⟩
        · exact absurd rfl h4
      · obtain rfl := q2 hle
        rw [if_pos (by simpa using hle)]
        rcases h3 with ⟨h4, _⟩ | ⟨_, h4, h5⟩
        · cases h4
        · exact ⟨h4, h5⟩
    have hv1 := slb_keep hv2 hnb hres.2
    have hc1 : w1.cell? ⟨W.heap.size + 1 + 1, 0, none⟩ = some v := by
      rw [← hc2]
      unfold World.cell?
      rw [hres.2.block (cell_lt hc2) (by show _ ≠ p; omega)]
    have HR := Lib.hid hres
    have HK := Lib.hid hk2
    have HV := Lib.hid hv1
    clear hs4 hst hk2 hc2 hv2 q1 q2 h3 hres
    obtain ⟨A, c, rfl, _, _⟩ := hv1
    generalize (Sb.sTake n (0, l)).1.length = M at HV hc1
    dsimp only
    go_wp2_with fail
    go_ret
    exact ⟨A, M, c, rfl, HV.out, HR.out.1, HK.out.trans HR.out.2⟩
  · have HS := Lib.hid hs; clear hs
    have HV := Lib.hid (show (Sb.sTake n (er0, l)) = ([], (er0, l)) by unfold Sb.sTake; rw [if_neg he])
    go_enter Tryd.func72, Tryd.ntmps72
    go_wp2_with fail
    have hs4 := src_alloc (src_alloc (src_alloc HS.out (.cells #[.pointer (some ⟨p, 0, none⟩)] 112)) (.cells #[.int .i64 n] 3)) (.cells #[.slice none 0 0] 43)
    refine (step_err p _ _ he _ hs4).mono ?_
    rintro e w1 ⟨rfl, rfl⟩
    have HR := Lib.hid hs4
    clear hs4
    dsimp only
    go_wp2_with fail
    go_ret
    refine ⟨none, 0, 0, rfl, ?_, ?_, (((Keep1.refl p W).alloc _).alloc _).alloc _⟩
    · rw [HV.out]; exact slb_nil _ _ _
    · rw [HV.out]; exact HR.out
end Go.Proofs.YtcjidlgmbjebjaaDoor

namespace Go.Proofs.YtcjidlgmbjebjaaDoor
open Go Go.RowKit Go.Proofs.YtcjidlgmbjebjaaDoorW.PrintWords
theorem src_drew {w : World} {p : Nat} {s : Sb.Src} (h : SrcP w p s) : SrcP w.drew p s := h
theorem slb_conv {w : World} {A : Option Addr} {m c : Nat} {l : List Int} (h : SlB w (.slice A m c) l) : (Go.convert 43 9 (.slice A m c)).run Tryd.prog w = .ok (.string (strOfNums l)) w := by
  obtain ⟨A', c', e, _, hC⟩ := h
  injection e with e1 e2 e3
  subst e1 e2 e3
  exact Kd.C_string Tryd.underlying43 Tryd.underlying5 Tryd.underlying9 hC
theorem byte_nat {s : Sb.Src} (h : Byt s.2) : (((Sb.sByte s).1.toNat : Nat) : Int) = (Sb.sByte s).1 := by have := (be_one h).2.1; omega
theorem byte_byt {s : Sb.Src} (h : Byt s.2) : Byt (Sb.sByte s).2.2 := (take_byt (n := 1) h).2
theorem take_small {n : Nat} {s : Sb.Src} {k : Nat} (h : s.2.length ≤ k) : (Sb.sTake n s).2.2.length ≤ k := by
  unfold Sb.sTake
  split
  · split
    · simp
    · simp; omega
  · exact h
theorem byte_small {s : Sb.Src} {k : Nat} (h : s.2.length ≤ k) : (Sb.sByte s).2.2.length ≤ k := take_small h
theorem keep_cell {p : Nat} {w w' : World} {b o : Nat} {v : Value} (hk : Keep1 p w w') (hp : b ≠ p) (h : w.cell? ⟨b, o, none⟩ = some v) : w'.cell? ⟨b, o, none⟩ = some v := by
  have hl := cell_lt h
  unfold World.cell? at h ⊢
  rw [hk.block hl hp]
  exact h
set_option maxHeartbeats 4000000 in
theorem name1_val (qs p : Nat) (s : Sb.Src) (hb : Byt s.2) (hl : s.2.length ≤ 140737488355000) (W : World) (hs : SrcP W p s) (hq : qs ≠ p) (z : W.cell? ⟨qs, 0, none⟩ = some (.pointer (some ⟨p, 0, none⟩))) :
    Calls Tryd.prog 71 #[.pointer (some ⟨qs, 0, none⟩)] W (RetSt (.string (Sb.sName s).1) p (Sb.sName s).2 W) := by
  have HB1 := Lib.hid (byte_val p s hb W.drew (src_drew hs))
  have HB2 := Lib.hid (fun w h => bytes_val p (Sb.sByte s).1.toNat (by have := be_one hb; omega) (Sb.sByte s).2 (byte_small hl) w h)
  rw [byte_nat hb] at HB2
  have hn := (be_one hb).2
  have hw : IntKind.i64.wrap (Sb.sByte s).1 = (Sb.sByte s).1 := by rw [IntKind.wrap_i64]; omega
  go_enter Tryd.func71, Tryd.ntmps71
  go_wp2_with fail
  go_region_held_law (fun w' => w'.cell? ⟨qs, 0, none⟩ = some (.pointer (some ⟨p, 0, none⟩)) ∧ Keep1 p W w')
    (first
      | (go_keep; done)
      | (exact ⟨z, Keep1.of_below (below_drew (Below.refl _ _))⟩)
      | (go_split_ands; exact ⟨keep_cell hk2 hq (by assumption), Keep1.trans (by assumption) hk2⟩)
      | (go_split_ands; exact ⟨keep_cell hk1 hq (by assumption), Keep1.trans (by assumption) hk1⟩))
    (first
      | (go_at_call 73; refine HB1.out.mono ?_; rintro e w1 ⟨rfl, hs1, hk1⟩)
      | (go_at_call 72; refine (HB2.out _ hs1).mono ?_; rintro e w2 ⟨A2, m2, c2, rfl, hv2, hs2, hk2⟩; have hcv := slb_conv hv2))
  rename_i hH
  go_wp2_with fail
  go_ret
  exact ⟨rfl, hs2, hH.2⟩
set_option maxHeartbeats 4000000 in
theorem num1p_val (qs p : Nat) (s : Sb.Src) (hb : Byt s.2) (W : World) (hs : SrcP W p s) (z : W.cell? ⟨qs, 0, none⟩ = some (.pointer (some ⟨p, 0, none⟩))) :
    Calls Tryd.prog 74 #[.pointer (some ⟨qs, 0, none⟩)] W (RetSt (.int .i64 (Sb.sInt s).1) p (Sb.sInt s).2 W) := by
  have HN := Lib.hid (int_val p s hb W hs)
  go_enter Tryd.func74, Tryd.ntmps74
  go_wp2_with fail
  refine HN.out.mono ?_
  rintro e w1 ⟨rfl, h1, h2⟩
  dsimp only
  go_wp2_with fail
  go_ret
  exact ⟨rfl, h1, h2⟩
end Go.Proofs.YtcjidlgmbjebjaaDoor

namespace Go.Proofs.YtcjidlgmbjebjaaDoor
open Go Go.RowKit Go.Proofs.YtcjidlgmbjebjaaDoorW.PrintWords
theorem entB_bad {e : Ent} (h : okE e = false) : Sb.entB okE e = [] := by unfold Sb.entB; rw [h]; rfl
theorem sev_ints (w : World) (e : Ent) : IntsAt (w.alloc (.cells #[.int .i64 e.id, .int .i64 e.tb, .int .i64 e.t0, .int .i64 e.t1, .int .i64 e.t2, .int .i64 e.ct, .int .i64 e.nx] 3)) w.heap.size 0 (numsOf e) := by
  intro j x hx
  rw [Lib.cell_of_heap (hp_new w _ _ rfl), Nat.zero_add]
  unfold numsOf at hx
  match j, hx with
  | 0, hx => simp at hx; subst hx; rfl
  | 1, hx => simp at hx; subst hx; rfl
  | 2, hx => simp at hx; subst hx; rfl
  | 3, hx => simp at hx; subst hx; rfl
  | 4, hx => simp at hx; subst hx; rfl
  | 5, hx => simp at hx; subst hx; rfl
  | 6, hx => simp at hx; subst hx; rfl
  | j + 7, hx => simp at hx
theorem min_neg {e : Ent} {x : Int} (h : x < 0 ↔ ∃ n ∈ numsOf e, n < 0) : decide (x < 0) = !numsOk e := by
  unfold numsOk
  by_cases hx : x < 0
  · rw [decide_eq_true hx]
    obtain ⟨n, hn, h0⟩ := h.1 hx
    have : (numsOf e).all (fun n => decide (0 ≤ n)) = false := List.all_eq_false.2 ⟨n, hn, by simp; omega⟩
    rw [this]; rfl
  · rw [decide_eq_false hx]
    have : (numsOf e).all (fun n => decide (0 ≤ n)) = true := List.all_eq_true.2 fun n hn => by
      simp only [decide_eq_true_eq]
      rcases Int.lt_or_le n 0 with h1 | h1
      · exact absurd (h.2 ⟨n, hn, h1⟩) hx
      · exact h1
    rw [this]; rfl
theorem good_02 (nm : ByteArray) (k srs : Int) (cs : List Col) : goodSch nm k srs cs = 0 ∨ goodSch nm k srs cs = 2 := by
  unfold goodSch
  cases headOk nm k srs cs.length
  · exact .inr rfl
  · cases allOk cs
    · exact .inr rfl
    · exact .inl rfl
structure EntFits (e : Ent) : Prop where
  nm : e.nm.size ≤ 9223372036854775807
  cs : ∀ c ∈ e.cs, c.1.size ≤ 9223372036854775807
set_option maxHeartbeats 4000000 in
theorem sbytes_bad (e : Ent) (v : Value) (W : World) (hf : EntFits e) (hv : ColsV W v e.cs) (hbad : okE e = false) : Calls Tryd.prog 40 #[entV e v] W (RetRow (Sb.entB okE e) W) := by
  have HF := Lib.hid (entB_bad hbad)
  obtain ⟨pv, nv, cv, rfl⟩ := colsV_shape hv
  have HV := Lib.hid hv; clear hv
  have HG := Lib.hid (fun w h => sgood_any e.nm e.kd e.srs (.slice pv nv cv) e.cs w hf.nm hf.cs h)
  unfold schV at HG
  unfold entV entL
  unfold okE at hbad
  rcases good_02 e.nm e.kd e.srs e.cs with hg | hg
  case inr =>
    rw [hg] at HG
    clear hbad hg
    go_enter Tryd.func40, Tryd.ntmps40
    go_wp2_with fail
    refine (HG.out _ (colsV_stays HV.out (by go_grown))).mono ?_
    rintro e1 w1 ⟨rfl, hb⟩
    have HE1 := Lib.hid (ent_below (ent_alloc (show EntAt 67 (W.alloc (.cells (entL e (.slice pv nv cv)) 67)) W.heap.size e (.slice pv nv cv) from hp_new _ _ _ rfl) (.cells #[.int .i64 e.id, .int .i64 e.tb, .int .i64 e.t0, .int .i64 e.t1, .int .i64 e.t2, .int .i64 e.ct, .int .i64 e.nx] 3)) hb)
    have HI1 := Lib.hid (ints_later (sev_ints (W.alloc (.cells (entL e (.slice pv nv cv)) 67)) e) hb)
    have HB1 := Lib.hid (show Below W.heap.size W w1 from (((Below.refl W.heap.size W).alloc (Nat.le_refl _) _).alloc (by simp) _).trans (hb.mono (by simp; omega)))
    have hz1 : W.heap.size + 2 ≤ w1.heap.size := by have := hb.size; simp at this; omega
    clear hb
    dsimp only
    go_wp2_with fail
    go_ret
    exact ⟨_, rfl, by rw [HF.out]; exact World.ownsRow_nil _ _ _ _, HB1.out⟩
  rw [hg, decide_eq_true rfl, Bool.true_and] at hbad
  rw [hg] at HG
  have HM := Lib.hid (fun w h => min_val (W.heap.size + 1) 0 7 (numsOf e) w h (by show 0 < 7; omega) (by show 7 ≤ 7; omega))
  rw [show (numsOf e).length = 7 from rfl] at HM
  have HX := Lib.hid (fun w => boxgood_val e.bn e.lx e.ly e.hx e.hy w)
  unfold boxV at HX
  clear hg
  cases hn : numsOk e with
  | false =>
    go_enter Tryd.func40, Tryd.ntmps40
    go_wp2_with fail
    refine (HG.out _ (colsV_stays HV.out (by go_grown))).mono ?_
    rintro e1 w1 ⟨rfl, hb⟩
    have HE1 := Lib.hid (ent_below (ent_alloc (show EntAt 67 (W.alloc (.cells (entL e (.slice pv nv cv)) 67)) W.heap.size e (.slice pv nv cv) from hp_new _ _ _ rfl) (.cells #[.int .i64 e.id, .int .i64 e.tb, .int .i64 e.t0, .int .i64 e.t1, .int .i64 e.t2, .int .i64 e.ct, .int .i64 e.nx] 3)) hb)
    have HI1 := Lib.hid (ints_later (sev_ints (W.alloc (.cells (entL e (.slice pv nv cv)) 67)) e) hb)
    have HB1 := Lib.hid (show Below W.heap.size W w1 from (((Below.refl W.heap.size W).alloc (Nat.le_refl _) _).alloc (by simp) _).trans (hb.mono (by simp; omega)))
    have hz1 : W.heap.size + 2 ≤ w1.heap.size := by have := hb.size; simp at this; omega
    clear hb
    dsimp only
    go_wp2_with fail
    refine (HM.out _ (by simpa using HI1.out)).mono ?_
    rintro e2 w2 ⟨x, rfl, hx, hb⟩
    have hx0 := min_neg hx
    rw [hn] at hx0
    have hx1 : x < 0 := of_decide_eq_true hx0
    have HB2 := Lib.hid (below_step HB1.out hb)
    clear hb hx hx0
    dsimp only
    go_wp2_with fail
    go_ret
    exact ⟨_, rfl, by rw [HF.out]; exact World.ownsRow_nil _ _ _ _, HB2.out⟩
  | true =>
    rw [hn, Bool.true_and] at hbad
    rw [hbad] at HX
    go_enter Tryd.func40, Tryd.ntmps40
    go_wp2_with fail
    refine (HG.out _ (colsV_stays HV.out (by go_grown))).mono ?_
    rintro e1 w1 ⟨rfl, hb⟩
    have HE1 := Lib.hid (ent_below (ent_alloc (show EntAt 67 (W.alloc (.cells (entL e (.slice pv nv cv)) 67)) W.heap.size e (.slice pv nv cv) from hp_new _ _ _ rfl) (.cells #[.int .i64 e.id, .int .i64 e.tb, .int .i64 e.t0, .int .i64 e.t1, .int .i64 e.t2, .int .i64 e.ct, .int .i64 e.nx] 3)) hb)
    have HI1 := Lib.hid (ints_later (sev_ints (W.alloc (.cells (entL e (.slice pv nv cv)) 67)) e) hb)
    have HB1 := Lib.hid (show Below W.heap.size W w1 from (((Below.refl W.heap.size W).alloc (Nat.le_refl _) _).alloc (by simp) _).trans (hb.mono (by simp; omega)))
    have hz1 : W.heap.size + 2 ≤ w1.heap.size := by have := hb.size; simp at this; omega
    clear hb
    dsimp only
    go_wp2_with fail
    refine (HM.out _ (by simpa using HI1.out)).mono ?_
    rintro e2 w2 ⟨x, rfl, hx, hb⟩
    have hx0 := min_neg hx
    rw [hn] at hx0
    have hx1 : ¬ x < 0 := of_decide_eq_false hx0
    have HB2 := Lib.hid (below_step HB1.out hb)
    have HE2 := Lib.hid (ent_below HE1.out hb)
    clear hb hx hx0
    have k11 := ent_cell HE2.out 11 _ rfl
    have k12 := ent_cell HE2.out 12 _ rfl
    have k13 := ent_cell HE2.out 13 _ rfl
    have k14 := ent_cell HE2.out 14 _ rfl
    have k15 := ent_cell HE2.out 15 _ rfl
    dsimp only
    go_wp2_with fail
    refine (HX.out _).mono ?_
    rintro e3 w3 ⟨rfl, hb⟩
    have HB3 := Lib.hid (below_step HB2.out hb)
    clear hb
    dsimp only
    go_wp2_with fail
    go_ret
    exact ⟨_, rfl, by rw [HF.out]; exact World.ownsRow_nil _ _ _ _, HB3.out⟩
end Go.Proofs.YtcjidlgmbjebjaaDoor

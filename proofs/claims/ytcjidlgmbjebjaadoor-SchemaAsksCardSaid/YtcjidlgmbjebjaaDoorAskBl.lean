import Derived.Test.YtcjidlgmbjebjaaDoorAskBk
set_option linter.unusedVariables false
set_option linter.unusedSimpArgs false
set_option maxRecDepth 100000
namespace Go.Proofs.YtcjidlgmbjebjaaDoor
open Go Go.RowKit
theorem form_b (k : Int) (w : World) (ht : FormsAt w) : Calls Tryd.prog 52 #[.int .i64 k] w (RetS (.string (formName k)) w) :=
  (form_val k w ht).mono fun e w' h => ⟨h.1, by rw [h.2]; exact Below.refl _ _⟩
theorem strinfo : Option.map (fun i => (i.zero, i.size, i.bytes)) (Tryd.prog.info? 9) = some (some (.string ⟨#[]⟩), 1, 16) := by kernel_rfl
def TxR (nm : ByteArray) (k srs : Int) (cs : List Col) (W : World) (t n : Value) (w' : World) : Prop :=
  ∃ i g capx : Nat, i ≤ cs.length ∧ n = .int .i64 i ∧ t = .slice (some ⟨g, 0, none⟩) (3 + i) capx ∧ w'.ownsRow W.heap.size 9 1 (.slice (some ⟨g, 0, none⟩) (3 + i) capx) (3 + i) ((wordsOf nm k srs (cs.take i)).map Value.string) ∧ Below W.heap.size W w'
theorem words_snoc (nm : ByteArray) (k srs : Int) (cs : List Col) (c : Col) : (wordsOf nm k srs (cs ++ [c])).map Value.string = (wordsOf nm k srs cs).map Value.string ++ [.string (ct c)] := by
  simp [wordsOf]
theorem cell_lt {w : World} {b o : Nat} {v : Value} (h : w.cell? ⟨b, o, none⟩ = some v) : b < w.heap.size := by
  rcases Nat.lt_or_ge b w.heap.size with h' | h'
  · exact h'
  · simp [World.cell?, Array.getElem?_eq_none h'] at h
theorem own_below {w w' : World} {base e s n : Nat} {v : Value} {xs : List Value} (h : w.ownsRow base e s v n xs) (hb : Below w.heap.size w w') : w'.ownsRow base e s v n xs := by
  obtain ⟨h1, h2 | ⟨g, cap, cur, hv, hg, hk, r⟩⟩ := h
  · exact ⟨h1, .inl h2⟩
  · exact ⟨h1, .inr ⟨g, cap, cur, hv, hg, (hb.block _ (Array.getElem?_eq_some_iff.1 hk).1).trans hk, r⟩⟩
theorem words_length (nm : ByteArray) (k srs : Int) (cs : List Col) : (wordsOf nm k srs cs).length = 3 + cs.length := by simp [wordsOf]; omega
theorem join_of {w : World} {base g cap : Nat} {nm : ByteArray} {k srs : Int} {cs : List Col} (h : w.ownsRow base 9 1 (.slice (some ⟨g, 0, none⟩) (3 + cs.length) cap) (3 + cs.length) ((wordsOf nm k srs cs).map Value.string))
    (hl : (Lib.join ((wordsOf nm k srs cs).map (·.data.toList)) [32]).length ≤ 2000) (hlen : cs.length ≤ 50) :
    Calls Tryd.prog 55 #[.slice (some ⟨g, 0, none⟩) (3 + cs.length) cap, .string ⟨#[32]⟩] w (RetS (.string (textB nm k srs cs)) w) := by
  have hc := h.cells (g := g) rfl
  have hlt := (h.lt g rfl).2
  have hcap : 3 + cs.length ≤ cap := by
    rcases h.2 with ⟨hv, _⟩ | ⟨g', cap', cur, hv, _, _, h3, _⟩
    · cases hv
    · injection hv with _ _ e; rw [e]; exact h3
  have hJ := Tryd.strings_Join g 0 cap (wordsOf nm k srs cs) ⟨#[32]⟩ w (fun j x hx => by
    have := hc j (.string x) (by rw [List.getElem?_map, hx]; rfl)
    have ha : (⟨g, 0, none⟩ : Addr).add j = ⟨g, 0 + j, none⟩ := by unfold Addr.add; split <;> simp_all
    rw [ha] at this; exact this) hlt (by rw [words_length]; omega) (by rw [words_length]; exact hcap) (Nat.le_trans hl (by decide))
  rw [words_length] at hJ
  exact hJ
set_option maxHeartbeats 8000000 in
theorem text_val (nm : ByteArray) (k srs : Int) (v0 : Value) (cs : List Col) (W : World) (hs : nm.size ≤ 12) (h0 : -9223372036854775808 ≤ srs) (h1 : srs ≤ 9223372036854775807) (hcs : ∀ c ∈ cs, c.1.size ≤ 12) (hlen : cs.length ≤ 50) (hv0 : ColsV W v0 cs)
    (ht : TypesAt W) (hf : FormsAt W) (hpw : PowIs W) :
    Calls Tryd.prog 21 #[schV nm k srs v0] W (RetS (.string (textB nm k srs cs)) W) := by
  obtain ⟨pa, b, o, cap, rfl, hcap, hpa, hc0⟩ := hv0
  obtain ⟨i0, hi, hz0, hz1, hz2⟩ := info_parts strinfo
  have H0 := Lib.hid hc0; clear hc0
  have HP := Lib.hid hpa; clear hpa hcap
  have HL := Lib.hid (words_len nm k srs cs hs h0 h1 hcs hlen)
  have HS := Lib.hid hcs; clear hcs
  have HT := Lib.hid ht; clear ht
  have HF := Lib.hid hf; clear hf
  have HW := Lib.hid hpw; clear hpw
  unfold schV
  by_cases hk : k = 0
  · have HK := Lib.hid (show kdName k = ⟨#[65, 78, 89]⟩ by unfold kdName; rw [if_pos hk])
    have hk1 : (k == 0) = true := by rw [beq_iff_eq]; exact hk
    clear hk
    go_enter Tryd.func21, Tryd.ntmps21
    go_wp2_with fail
    go_region_held3 (fun w' => w'.cell? ⟨W.heap.size, 0, none⟩ = some (.string nm) ∧ w'.cell? ⟨W.heap.size, 1, none⟩ = some (.int .i64 k) ∧ w'.cell? ⟨W.heap.size, 2, none⟩ = some (.int .i64 srs) ∧ w'.cell? ⟨W.heap.size, 3, none⟩ = some (.slice pa cs.length cap) ∧ Below W.heap.size W w')
      (first
        | (go_keep; done)
        | ((repeat' apply And.intro) <;> first | (go_cell; done) | (rw [World.cell?_drew]; go_cell; done) | (go_grown; done))
        | (go_split_ands; (repeat' apply And.intro) <;> first | (go_keep; done) | (go_cell; done) | (exact Below.alloc (by assumption) (Below.size (by assumption)) _))
        | (go_split_ands; (repeat' apply And.intro) <;> first | (exact cell_later hb1 (by assumption)) | (exact below_step (by assumption) hb1)))
      (first
        | (go_at_call 52; go_split_ands; refine (form_b _ _ (forms_stays HF.out (by assumption))).mono ?_; rintro e w1 ⟨rfl, hb1⟩)
        | (go_at_call 53; go_split_ands; refine (itoa_val _ h0 h1 _ (pow_stays HW.out (by assumption))).mono ?_; rintro e w1 ⟨rfl, hb1⟩))
    rename_i hH
    have y1 : w1.cell? ⟨W.heap.size, 1, none⟩ = some (.int .i64 k) := cell_later hb1 (by assumption)
    have y3 : w1.cell? ⟨W.heap.size, 3, none⟩ = some (.slice pa cs.length cap) := cell_later hb1 (by assumption)
    have hBw : Below W.heap.size W w1 := below_step (by assumption) hb1
    have hz := cell_lt y1
    clear hb1 hH
    go_wp2_with fail
    go_loopw [3, 23] (fun t n w' => TxR nm k srs cs W t n w') (fun _ n _ => cs.length - (intOf n).toNat)
    case atStart => exact ⟨0, w1.heap.size, 3, by omega, rfl, rfl, by rw [List.take_zero]; have := own_full (w := w1) (base := W.heap.size) (e := 9) #[.string nm, .string (kdName k), .string (numS srs)] 3 rfl hBw.size (by decide); rw [HK.out] at this; simpa [wordsOf, HK.out] using this, hBw.alloc hBw.size _⟩
    case round =>
      obtain ⟨i, g, capx, hi', rfl, rfl, hown, hB⟩ := hrel
      by_cases hp : i < cs.length
      · obtain rfl := HP.out (by omega)
        obtain ⟨c, hc⟩ : ∃ c, cs[i]? = some c := ⟨cs[i], List.getElem?_eq_getElem hp⟩
        have hsz := HS.out c (List.mem_of_getElem? hc)
        obtain ⟨x0, x1, x2⟩ := cols_stays H0.out hB i c hc
        have HTK := Lib.hid (take_snocL hc)
        have HCT := Lib.hid (show ct c = colText c.1 c.2.1 c.2.2 from rfl)
        clear hc
        obtain ⟨cn, ck, cm⟩ := c
        have HO := Lib.hid hown; clear hown
        dsimp only at x0 x1 x2 hsz
        go_wp2_with fail
        refine (coltext_val cn ck cm _ (by omega) (types_stays HT.out (hB.alloc hB.size _))).mono ?_
        rintro e w2 ⟨rfl, hb⟩
        have hB2 := below_step (show Below W.heap.size W _ from hB.alloc hB.size _) hb
        have HO2 := Lib.hid (own_below (HO.out.alloc _) hb)
        clear hb
        dsimp only
        go_wp2_with (at_builtin; refine wpList_append_own _ rfl _ _ 92 rfl W.heap.size 9 i0 _ 1 16 Tryd.underlying92 hi hz0 hz1 hz2 rfl (by decide) _ _ _ rfl (HO2.out.alloc _) ⟨w2.heap.size, 0, none⟩ 1 1 [.string (colText cn ck cm)] rfl rfl ?c1 ?c2 ?c3 ?c4 ?c5 ?_)
        case c1 =>
          intro j u hj
          match j, hj with
          | 0, hj => simp at hj; subst hj; simp [Addr.add]
        case c2 => intro u hu; simp at hu; subst hu; rfl
        case c3 => unfold maxLen; omega
        case c4 => omega
        case c5 => have := hB2.size; simp; omega
        intro v' w3 hown' hgrow _
        obtain ⟨g', cap', rfl⟩ : ∃ g' cap', v' = .slice (some ⟨g', 0, none⟩) (3 + i + 1) cap' := by
          rcases hown'.2 with ⟨_, h0⟩ | ⟨g', cap, cur, hv, _⟩
          · omega
          · exact ⟨g', cap, hv⟩
        have HREL := Lib.hid (show TxR nm k srs cs W (.slice (some ⟨g', 0, none⟩) (3 + i + 1) cap') (.int .i64 ((i + 1 : Nat) : Int)) w3 from
          ⟨i + 1, g', cap', by omega, rfl, rfl, by rw [HTK.out, words_snoc, HCT.out]; exact hown', (hB2.alloc hB2.size _).grown hgrow (by have := hB2.size; simp; omega) (fun q hq => (HO2.out.lt q hq).1)⟩)
        clear hown' hgrow
        go_wp2_with fail
        exact ⟨HREL.out, by simp [intOf]; omega⟩
      · obtain rfl : i = cs.length := by omega
        rw [List.take_length] at hown
        have HJ := Lib.hid (join_of hown HL.out hlen)
        clear hown
        go_wp2_with fail
        refine HJ.out.mono ?_
        rintro e w2 ⟨rfl, hb⟩
        have hB2 := below_step hB hb
        clear hb
        dsimp only
        go_wp2_with fail
        go_ret
        exact ⟨rfl, hB2⟩
  · have HK := Lib.hid (show kdName k = formName k by unfold kdName; rw [if_neg hk])
    have hk1 : (k == 0) = false := by rw [beq_eq_false_iff_ne]; exact hk
    clear hk
    go_enter Tryd.func21, Tryd.ntmps21
    go_wp2_with fail
    go_region_held3 (fun w' => w'.cell? ⟨W.heap.size, 0, none⟩ = some (.string nm) ∧ w'.cell? ⟨W.heap.size, 1, none⟩ = some (.int .i64 k) ∧ w'.cell? ⟨W.heap.size, 2, none⟩ = some (.int .i64 srs) ∧ w'.cell? ⟨W.heap.size, 3, none⟩ = some (.slice pa cs.length cap) ∧ Below W.heap.size W w')
      (first
        | (go_keep; done)
        | ((repeat' apply And.intro) <;> first | (go_cell; done) | (rw [World.cell?_drew]; go_cell; done) | (go_grown; done))
        | (go_split_ands; (repeat' apply And.intro) <;> first | (go_keep; done) | (go_cell; done) | (exact Below.alloc (by assumption) (Below.size (by assumption)) _))
        | (go_split_ands; (repeat' apply And.intro) <;> first | (exact cell_later hb1 (by assumption)) | (exact below_step (by assumption) hb1)))
      (first
        | (go_at_call 52; go_split_ands; refine (form_b _ _ (forms_stays HF.out (by assumption))).mono ?_; rintro e w1 ⟨rfl, hb1⟩)
        | (go_at_call 53; go_split_ands; refine (itoa_val _ h0 h1 _ (pow_stays HW.out (by assumption))).mono ?_; rintro e w1 ⟨rfl, hb1⟩))
    rename_i hH
    have y1 : w1.cell? ⟨W.heap.size, 1, none⟩ = some (.int .i64 k) := cell_later hb1 (by assumption)
    have y3 : w1.cell? ⟨W.heap.size, 3, none⟩ = some (.slice pa cs.length cap) := cell_later hb1 (by assumption)
    have hBw : Below W.heap.size W w1 := below_step (by assumption) hb1
    have hz := cell_lt y1
    clear hb1 hH
    go_wp2_with fail
    go_loopw [3, 23] (fun t n w' => TxR nm k srs cs W t n w') (fun _ n _ => cs.length - (intOf n).toNat)
    case atStart => exact ⟨0, w1.heap.size, 3, by omega, rfl, rfl, by rw [List.take_zero]; have := own_full (w := w1) (base := W.heap.size) (e := 9) #[.string nm, .string (kdName k), .string (numS srs)] 3 rfl hBw.size (by decide); rw [HK.out] at this; simpa [wordsOf, HK.out] using this, hBw.alloc hBw.size _⟩
    case round =>
      obtain ⟨i, g, capx, hi', rfl, rfl, hown, hB⟩ := hrel
      by_cases hp : i < cs.length
      · obtain rfl := HP.out (by omega)
        obtain ⟨c, hc⟩ : ∃ c, cs[i]? = some c := ⟨cs[i], List.getElem?_eq_getElem hp⟩
        have hsz := HS.out c (List.mem_of_getElem? hc)
        obtain ⟨x0, x1, x2⟩ := cols_stays H0.out hB i c hc
        have HTK := Lib.hid (take_snocL hc)
        have HCT := Lib.hid (show ct c = colText c.1 c.2.1 c.2.2 from rfl)
        clear hc
        obtain ⟨cn, ck, cm⟩ := c
        have HO := Lib.hid hown; clear hown
        dsimp only at x0 x1 x2 hsz
        go_wp2_with fail
        refine (coltext_val cn ck cm _ (by omega) (types_stays HT.out (hB.alloc hB.size _))).mono ?_
        rintro e w2 ⟨rfl, hb⟩
        have hB2 := below_step (show Below W.heap.size W _ from hB.alloc hB.size _) hb
        have HO2 := Lib.hid (own_below (HO.out.alloc _) hb)
        clear hb
        dsimp only
        go_wp2_with (at_builtin; refine wpList_append_own _ rfl _ _ 92 rfl W.heap.size 9 i0 _ 1 16 Tryd.underlying92 hi hz0 hz1 hz2 rfl (by decide) _ _ _ rfl (HO2.out.alloc _) ⟨w2.heap.size, 0, none⟩ 1 1 [.string (colText cn ck cm)] rfl rfl ?e1 ?e2 ?e3 ?e4 ?e5 ?_)
        case e1 =>
          intro j u hj
          match j, hj with
          | 0, hj => simp at hj; subst hj; simp [Addr.add]
        case e2 => intro u hu; simp at hu; subst hu; rfl
        case e3 => unfold maxLen; omega
        case e4 => omega
        case e5 => have := hB2.size; simp; omega
        intro v' w3 hown' hgrow _
        obtain ⟨g', cap', rfl⟩ : ∃ g' cap', v' = .slice (some ⟨g', 0, none⟩) (3 + i + 1) cap' := by
          rcases hown'.2 with ⟨_, h0⟩ | ⟨g', cap, cur, hv, _⟩
          · omega
          · exact ⟨g', cap, hv⟩
        have HREL := Lib.hid (show TxR nm k srs cs W (.slice (some ⟨g', 0, none⟩) (3 + i + 1) cap') (.int .i64 ((i + 1 : Nat) : Int)) w3 from
          ⟨i + 1, g', cap', by omega, rfl, rfl, by rw [HTK.out, words_snoc, HCT.out]; exact hown', (hB2.alloc hB2.size _).grown hgrow (by have := hB2.size; simp; omega) (fun q hq => (HO2.out.lt q hq).1)⟩)
        clear hown' hgrow
        go_wp2_with fail
        exact ⟨HREL.out, by simp [intOf]; omega⟩
      · obtain rfl : i = cs.length := by omega
        rw [List.take_length] at hown
        have HJ := Lib.hid (join_of hown HL.out hlen)
        clear hown
        go_wp2_with fail
        refine HJ.out.mono ?_
        rintro e w2 ⟨rfl, hb⟩
        have hB2 := below_step hB hb
        clear hb
        dsimp only
        go_wp2_with fail
        go_ret
        exact ⟨rfl, hB2⟩
end Go.Proofs.YtcjidlgmbjebjaaDoor

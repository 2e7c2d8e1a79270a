import Derived.Test.YtcjidlgmbjebjaaDoorAskBl
set_option linter.unusedVariables false
set_option linter.unusedSimpArgs false
set_option maxRecDepth 100000
namespace Go.Proofs.YtcjidlgmbjebjaaDoor
open Go Go.RowKit
def refHead (nm : ByteArray) (k srs : Int) : ByteArray := nm ++ ⟨#[32]⟩ ++ kdName k ++ ⟨#[32]⟩ ++ numS srs
def refStep (out : ByteArray) (c : Col) : ByteArray := bif c.2.2 then out ++ (⟨#[32]⟩ ++ c.1 ++ ⟨#[58]⟩ ++ tyName c.2.1) ++ ⟨#[33]⟩ else out ++ (⟨#[32]⟩ ++ c.1 ++ ⟨#[58]⟩ ++ tyName c.2.1)
def refT (nm : ByteArray) (k srs : Int) (cs : List Col) : ByteArray := cs.foldl refStep (refHead nm k srs)
theorem dl_append (a b : ByteArray) : (a ++ b).data.toList = a.data.toList ++ b.data.toList := by simp
theorem refStep_l (out : ByteArray) (c : Col) : (refStep out c).data.toList = out.data.toList ++ ([32] ++ (ct c).data.toList) := by
  unfold refStep ct colText
  cases c.2.2
  · simp only [cond_false, dl_append]; simp
  · simp only [cond_true, dl_append]; simp
theorem foldl_l (cs : List Col) : ∀ h : ByteArray, (cs.foldl refStep h).data.toList = h.data.toList ++ (cs.map (fun c => [32] ++ (ct c).data.toList)).flatten := by
  induction cs with
  | nil => intro h; simp
  | cons c cs ih =>
    intro h
    rw [List.foldl_cons, ih, refStep_l]
    simp
theorem refT_eq (nm : ByteArray) (k srs : Int) (cs : List Col) : refT nm k srs cs = textB nm k srs cs := by
  apply ByteArray.ext
  apply Array.toList_inj.1
  unfold refT textB wordsOf refHead
  rw [foldl_l]
  simp only [List.map_append, List.map_cons, List.map_nil, List.cons_append, List.nil_append]
  rw [Lib.join_cons]
  unfold Lib.joinTail
  simp only [dl_append]
  simp [List.map_map, Function.comp_def]
theorem refT_snoc (nm : ByteArray) (k srs : Int) (cs : List Col) (c : Col) : refT nm k srs (cs ++ [c]) = refStep (refT nm k srs cs) c := by unfold refT; rw [List.foldl_append]; rfl
theorem refT_size (nm : ByteArray) (k srs : Int) (cs : List Col) (h1 : nm.size ≤ 12) (h0 : -9223372036854775808 ≤ srs) (h2 : srs ≤ 9223372036854775807) (hcs : ∀ c ∈ cs, c.1.size ≤ 12) (hl : cs.length ≤ 50) : (refT nm k srs cs).size ≤ 2000 := by
  rw [refT_eq]
  have := words_len nm k srs cs h1 h0 h2 hcs hl
  show (Lib.join _ _).toArray.size ≤ 2000
  simpa using this
theorem digits_b (n : Int) (h0 : -9223372036854775808 ≤ n) (h1 : n ≤ 9223372036854775807) (w : World) : Calls Tryd.prog 57 #[.int .i64 n] w (RetS (.string (numS n)) w) :=
  (digits_val n.natAbs n (Nat.le_refl _) h0 h1 w).mono fun e w' h => ⟨h.1, by rw [h.2]; exact Below.refl _ _⟩
theorem sadd (a b : ByteArray) (n m : Nat) (ha : a.size ≤ n) (hb : b.size ≤ m) (h : n + m ≤ 100000) : (∀ w, (Op.stringOp .add a b).run Tryd.prog w = .ok (.string (a ++ b)) w) ∧ (a ++ b).size ≤ n + m :=
  ⟨fun w => run_string_add_sum w a b (by omega), by rw [bsize_append]; omega⟩
theorem idx93 (ck : Int) (h1 : 1 ≤ ck) (h3 : ck ≤ 3) (w : World) : (Instr.index 93 (.agg #[.string ⟨#[]⟩, .string ⟨#[105, 110, 116]⟩, .string ⟨#[116, 101, 120, 116]⟩, .string ⟨#[102, 108, 97, 103]⟩]) (.int .i64 ck)).run Tryd.prog w = .ok (.string (tyName ck)) w := by
  have h : ck = 1 ∨ ck = 2 ∨ ck = 3 := by omega
  rcases h with rfl | rfl | rfl
  · exact index_arr 93 4 _ 1 1 rfl _ Tryd.underlying93 (by omega) rfl w
  · exact index_arr 93 4 _ 2 2 rfl _ Tryd.underlying93 (by omega) rfl w
  · exact index_arr 93 4 _ 3 3 rfl _ Tryd.underlying93 (by omega) rfl w
def RtR (nm : ByteArray) (k srs : Int) (cs : List Col) (W : World) (t n : Value) (w' : World) : Prop :=
  ∃ i : Nat, i ≤ cs.length ∧ n = .int .i64 i ∧ t = .string (refT nm k srs (cs.take i)) ∧ Below W.heap.size W w'
set_option maxHeartbeats 8000000 in
theorem reftext_val (nm : ByteArray) (k srs : Int) (v0 : Value) (cs : List Col) (W : World) (hs : nm.size ≤ 12) (h0 : -9223372036854775808 ≤ srs) (h1 : srs ≤ 9223372036854775807) (hcs : ∀ c ∈ cs, c.1.size ≤ 12 ∧ 1 ≤ c.2.1 ∧ c.2.1 ≤ 3) (hlen : cs.length ≤ 50) (hv0 : ColsV W v0 cs) :
    Calls Tryd.prog 22 #[schV nm k srs v0] W (RetS (.string (textB nm k srs cs)) W) := by
  obtain ⟨pa, b, o, cap, rfl, hcap, hpa, hc0⟩ := hv0
  have H0 := Lib.hid hc0; clear hc0
  have HP := Lib.hid hpa; clear hpa hcap
  have HZ := Lib.hid (fun i => refT_size nm k srs (cs.take i) hs h0 h1 (fun c hc => (hcs c (List.mem_of_mem_take hc)).1) (by simp; omega))
  have HS := Lib.hid hcs; clear hcs
  have z1 := numS_size srs h0 h1
  have HE := Lib.hid (refT_eq nm k srs cs)
  have hc := fun w => refform_val k w
  have HC := Lib.hid hc; clear hc
  unfold schV
  by_cases hk : k = 0
  · have HK := Lib.hid (show kdName k = ⟨#[65, 78, 89]⟩ by unfold kdName; rw [if_pos hk])
    have hk1 : (k == 0) = true := by rw [beq_iff_eq]; exact hk
    obtain ⟨a1, s1⟩ := sadd nm ⟨#[32]⟩ 12 1 hs (Nat.le_refl _) (by decide)
    obtain ⟨a2, s2⟩ := sadd (nm ++ ⟨#[32]⟩) ⟨#[65, 78, 89]⟩ 13 18 s1 (by decide) (by decide)
    obtain ⟨a3, s3⟩ := sadd (nm ++ ⟨#[32]⟩ ++ ⟨#[65, 78, 89]⟩) ⟨#[32]⟩ 31 1 s2 (Nat.le_refl _) (by decide)
    obtain ⟨a4, s4⟩ := sadd (nm ++ ⟨#[32]⟩ ++ ⟨#[65, 78, 89]⟩ ++ ⟨#[32]⟩) (numS srs) 32 21 s3 z1 (by decide)
    clear hk
    go_enter Tryd.func22, Tryd.ntmps22
    go_wp2_with fail
    refine (HC.out _).mono ?_
    rintro e w1 ⟨rfl, rfl⟩
    dsimp only
    go_wp2_with fail
    go_region_held3 (fun w' => w'.cell? ⟨W.heap.size, 0, none⟩ = some (.string nm) ∧ w'.cell? ⟨W.heap.size, 2, none⟩ = some (.int .i64 srs) ∧ w'.cell? ⟨W.heap.size, 3, none⟩ = some (.slice pa cs.length cap) ∧ Below W.heap.size W w')
      (first
        | (go_keep; done)
        | ((repeat' apply And.intro) <;> first | (go_cell; done) | (rw [World.cell?_drew]; go_cell; done) | (go_grown; done))
        | (go_split_ands; (repeat' apply And.intro) <;> first | (exact cell_later hb1 (by assumption)) | (exact below_step (by assumption) hb1)))
      (first
        | (go_at_call 57; refine (digits_b _ h0 h1 _).mono ?_; rintro e w1 ⟨rfl, hb1⟩))
    rename_i hH
    obtain ⟨_, _, y3, hBw⟩ := hH
    clear a1 a2 a3 a4 s1 s2 s3 s4
    go_wp2_with fail
    go_loopw [4, 26] (fun t n w' => RtR nm k srs cs W t n w') (fun _ n _ => cs.length - (intOf n).toNat)
    case atStart => exact ⟨0, by omega, rfl, by rw [List.take_zero]; show _ = Value.string (refHead nm k srs); unfold refHead; rw [HK.out], hBw⟩
    case round =>
      obtain ⟨i, hi', rfl, rfl, hB⟩ := hrel
      have z3 := HZ.out i
      by_cases hp : i < cs.length
      · obtain rfl := HP.out (by omega)
        obtain ⟨c, hc⟩ : ∃ c, cs[i]? = some c := ⟨cs[i], List.getElem?_eq_getElem hp⟩
        obtain ⟨hsz, q1, q2⟩ := HS.out c (List.mem_of_getElem? hc)
        obtain ⟨x0, x1, x2⟩ := cols_stays H0.out hB i c hc
        have HTK := Lib.hid (show refT nm k srs (cs.take (i + 1)) = refStep (refT nm k srs (cs.take i)) c by rw [take_snocL hc, refT_snoc])
        clear hc
        obtain ⟨cn, ck, cm⟩ := c
        dsimp only at x0 x1 x2 hsz q1 q2
        have hx := fun w => idx93 ck q1 q2 w
        clear q1 q2
        have s0 := tyName_size ck
        obtain ⟨a1, s1⟩ := sadd ⟨#[32]⟩ cn 1 12 (Nat.le_refl _) hsz (by decide)
        obtain ⟨a2, s2⟩ := sadd (⟨#[32]⟩ ++ cn) ⟨#[58]⟩ 13 1 s1 (Nat.le_refl _) (by decide)
        obtain ⟨a3, s3⟩ := sadd (⟨#[32]⟩ ++ cn ++ ⟨#[58]⟩) (tyName ck) 14 4 s2 s0 (by decide)
        obtain ⟨a4, s4⟩ := sadd (refT nm k srs (cs.take i)) (⟨#[32]⟩ ++ cn ++ ⟨#[58]⟩ ++ tyName ck) 2000 18 z3 s3 (by decide)
        obtain ⟨a5, s5⟩ := sadd (refT nm k srs (cs.take i) ++ (⟨#[32]⟩ ++ cn ++ ⟨#[58]⟩ ++ tyName ck)) ⟨#[33]⟩ 2018 1 s4 (Nat.le_refl _) (by decide)
        go_wp2_with fail
        go_region_held3 (fun w' => w'.cell? ⟨wr.heap.size, 0, none⟩ = some (.string cn) ∧ w'.cell? ⟨wr.heap.size, 1, none⟩ = some (.int .i64 ck) ∧ w'.cell? ⟨wr.heap.size, 2, none⟩ = some (.bool cm) ∧ Below W.heap.size W w')
          (first
            | (go_keep; done)
            | ((repeat' apply And.intro) <;> first | (go_cell; done) | (rw [World.cell?_drew]; go_cell; done) | (exact below_drew (hB.alloc hB.size _))))
          (fail)
        rename_i hH
        obtain ⟨_, _, y2, hB2⟩ := hH
        clear a1 a2 a3 a4
        cases cm
        all_goals
          go_wp2_with fail
          exact ⟨⟨i + 1, by omega, rfl, by rw [HTK.out]; rfl, hB2⟩, by simp [intOf]; omega⟩
      · obtain rfl : i = cs.length := by omega
        go_wp2_with fail
        go_ret
        exact ⟨by rw [List.take_length, HE.out]; rfl, hB⟩
  · have HK := Lib.hid (show kdName k = formName k by unfold kdName; rw [if_neg hk])
    have hk1 : (k == 0) = false := by rw [beq_eq_false_iff_ne]; exact hk
    have z2 := formName_size k
    obtain ⟨a1, s1⟩ := sadd nm ⟨#[32]⟩ 12 1 hs (Nat.le_refl _) (by decide)
    obtain ⟨a2, s2⟩ := sadd (nm ++ ⟨#[32]⟩) (formName k) 13 18 s1 z2 (by decide)
    obtain ⟨a3, s3⟩ := sadd (nm ++ ⟨#[32]⟩ ++ (formName k)) ⟨#[32]⟩ 31 1 s2 (Nat.le_refl _) (by decide)
    obtain ⟨a4, s4⟩ := sadd (nm ++ ⟨#[32]⟩ ++ (formName k) ++ ⟨#[32]⟩) (numS srs) 32 21 s3 z1 (by decide)
    clear hk
    go_enter Tryd.func22, Tryd.ntmps22
    go_wp2_with fail
    refine (HC.out _).mono ?_
    rintro e w1 ⟨rfl, rfl⟩
    dsimp only
    go_wp2_with fail
    go_region_held3 (fun w' => w'.cell? ⟨W.heap.size, 0, none⟩ = some (.string nm) ∧ w'.cell? ⟨W.heap.size, 2, none⟩ = some (.int .i64 srs) ∧ w'.cell? ⟨W.heap.size, 3, none⟩ = some (.slice pa cs.length cap) ∧ Below W.heap.size W w')
      (first
        | (go_keep; done)
        | ((repeat' apply And.intro) <;> first | (go_cell; done) | (rw [World.cell?_drew]; go_cell; done) | (go_grown; done))
        | (go_split_ands; (repeat' apply And.intro) <;> first | (exact cell_later hb1 (by assumption)) | (exact below_step (by assumption) hb1)))
      (first
        | (go_at_call 57; refine (digits_b _ h0 h1 _).mono ?_; rintro e w1 ⟨rfl, hb1⟩))
    rename_i hH
    obtain ⟨_, _, y3, hBw⟩ := hH
    clear a1 a2 a3 a4 s1 s2 s3 s4
    go_wp2_with fail
    go_loopw [4, 26] (fun t n w' => RtR nm k srs cs W t n w') (fun _ n _ => cs.length - (intOf n).toNat)
    case atStart => exact ⟨0, by omega, rfl, by rw [List.take_zero]; show _ = Value.string (refHead nm k srs); unfold refHead; rw [HK.out], hBw⟩
    case round =>
      obtain ⟨i, hi', rfl, rfl, hB⟩ := hrel
      have z3 := HZ.out i
      by_cases hp : i < cs.length
      · obtain rfl := HP.out (by omega)
        obtain ⟨c, hc⟩ : ∃ c, cs[i]? = some c := ⟨cs[i], List.getElem?_eq_getElem hp⟩
        obtain ⟨hsz, q1, q2⟩ := HS.out c (List.mem_of_getElem? hc)
        obtain ⟨x0, x1, x2⟩ := cols_stays H0.out hB i c hc
        have HTK := Lib.hid (show refT nm k srs (cs.take (i + 1)) = refStep (refT nm k srs (cs.take i)) c by rw [take_snocL hc, refT_snoc])
        clear hc
        obtain ⟨cn, ck, cm⟩ := c
        dsimp only at x0 x1 x2 hsz q1 q2
        have hx := fun w => idx93 ck q1 q2 w
        clear q1 q2
        have s0 := tyName_size ck
        obtain ⟨a1, s1⟩ := sadd ⟨#[32]⟩ cn 1 12 (Nat.le_refl _) hsz (by decide)
        obtain ⟨a2, s2⟩ := sadd (⟨#[32]⟩ ++ cn) ⟨#[58]⟩ 13 1 s1 (Nat.le_refl _) (by decide)
        obtain ⟨a3, s3⟩ := sadd (⟨#[32]⟩ ++ cn ++ ⟨#[58]⟩) (tyName ck) 14 4 s2 s0 (by decide)
        obtain ⟨a4, s4⟩ := sadd (refT nm k srs (cs.take i)) (⟨#[32]⟩ ++ cn ++ ⟨#[58]⟩ ++ tyName ck) 2000 18 z3 s3 (by decide)
        obtain ⟨a5, s5⟩ := sadd (refT nm k srs (cs.take i) ++ (⟨#[32]⟩ ++ cn ++ ⟨#[58]⟩ ++ tyName ck)) ⟨#[33]⟩ 2018 1 s4 (Nat.le_refl _) (by decide)
        go_wp2_with fail
        go_region_held3 (fun w' => w'.cell? ⟨wr.heap.size, 0, none⟩ = some (.string cn) ∧ w'.cell? ⟨wr.heap.size, 1, none⟩ = some (.int .i64 ck) ∧ w'.cell? ⟨wr.heap.size, 2, none⟩ = some (.bool cm) ∧ Below W.heap.size W w')
          (first
            | (go_keep; done)
            | ((repeat' apply And.intro) <;> first | (go_cell; done) | (rw [World.cell?_drew]; go_cell; done) | (exact below_drew (hB.alloc hB.size _))))
          (fail)
        rename_i hH
        obtain ⟨_, _, y2, hB2⟩ := hH
        clear a1 a2 a3 a4
        cases cm
        all_goals
          go_wp2_with fail
          exact ⟨⟨i + 1, by omega, rfl, by rw [HTK.out]; rfl, hB2⟩, by simp [intOf]; omega⟩
      · obtain rfl : i = cs.length := by omega
        go_wp2_with fail
        go_ret
        exact ⟨by rw [List.take_length, HE.out]; rfl, hB⟩
end Go.Proofs.YtcjidlgmbjebjaaDoor

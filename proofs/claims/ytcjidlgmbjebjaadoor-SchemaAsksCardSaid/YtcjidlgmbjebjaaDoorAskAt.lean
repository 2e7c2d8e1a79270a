import Derived.Test.YtcjidlgmbjebjaaDoorAskAs
set_option linter.unusedVariables false
set_option linter.unusedSimpArgs false
set_option maxRecDepth 100000
namespace Go.Proofs.YtcjidlgmbjebjaaDoor
open Go Go.RowKit
abbrev Col := ByteArray × Int × Bool
def ColAt (w : World) (b o i : Nat) (c : Col) : Prop := w.cell? ⟨b, o + i * 3, none⟩ = some (.string c.1) ∧ w.cell? ⟨b, o + i * 3 + 1, none⟩ = some (.int .i64 c.2.1) ∧ w.cell? ⟨b, o + i * 3 + 2, none⟩ = some (.bool c.2.2)
def ColsAt (w : World) (b o : Nat) (cs : List Col) : Prop := ∀ i c, cs[i]? = some c → ColAt w b o i c
theorem cols_stays {w w' : World} {b o : Nat} {cs : List Col} (h : ColsAt w b o cs) (hb : Below w.heap.size w w') : ColsAt w' b o cs :=
  fun i c hc => ⟨cell_later hb (h i c hc).1, cell_later hb (h i c hc).2.1, cell_later hb (h i c hc).2.2⟩
def ColsV (w : World) (v : Value) (cs : List Col) : Prop := ∃ pa b o cap, v = .slice pa cs.length cap ∧ cs.length ≤ cap ∧ (0 < cs.length → pa = some ⟨b, o, none⟩) ∧ ColsAt w b o cs
theorem colsV_stays {w w' : World} {v : Value} {cs : List Col} (h : ColsV w v cs) (hb : Below w.heap.size w w') : ColsV w' v cs := by
  obtain ⟨pa, b, o, cap, hv, hc, hp, h⟩ := h
  exact ⟨pa, b, o, cap, hv, hc, hp, cols_stays h hb⟩
def schV (nm : ByteArray) (k srs : Int) (v : Value) : Value := .agg #[.string nm, .int .i64 k, .int .i64 srs, v]
def LtR (cs : List Col) (W : World) (a n : Value) (w' : World) : Prop :=
  ∃ (i : Nat) (x : Int), i ≤ cs.length ∧ a = .int .i64 x ∧ n = .int .i64 i ∧ Below W.heap.size W w'
/-- 'light' tells some truth value; where it is true there are no more than 50 columns (a sum of lengths can wrap: it tells nothing of the names). -/
def RetLight (len : Nat) (W : World) (e : Ending) (w' : World) : Prop := ∃ b : Bool, e = .returned (.bool b) ∧ (b = true → len ≤ 50) ∧ Below W.heap.size W w'
set_option maxHeartbeats 2000000 in
theorem light_val (nm : ByteArray) (k srs : Int) (v : Value) (cs : List Col) (W : World) (hn : nm.size ≤ 9223372036854775807) (hlen : cs.length ≤ 9223372036854775807) (hv : ColsV W v cs) :
    Calls Tryd.prog 11 #[schV nm k srs v] W (RetLight cs.length W) := by
  obtain ⟨pa, b, o, cap, rfl, hcap, hpa, h0⟩ := hv
  unfold schV
  by_cases hl : cs.length ≤ 50
  case neg =>
    go_enter Tryd.func11, Tryd.ntmps11
    go_wp2
    go_ret
    exact ⟨_, rfl, by simp, by go_grown⟩
  by_cases hn5 : nm.size ≤ 500
  case neg =>
    go_enter Tryd.func11, Tryd.ntmps11
    go_wp2
    go_ret
    exact ⟨_, rfl, by simp, by go_grown⟩
  have H0 := Lib.hid h0; clear h0
  have HP := Lib.hid hpa; clear hpa
  go_enter Tryd.func11, Tryd.ntmps11
  go_wp2
  go_loopw [3, 20] (fun a n w' => LtR cs W a n w') (fun _ n _ => cs.length - (intOf n).toNat)
  case atStart => exact ⟨0, _, by omega, rfl, rfl, by go_grown⟩
  case round =>
    obtain ⟨i, x, hi, rfl, rfl, hB⟩ := hrel
    by_cases hp : i < cs.length
    · obtain rfl := HP.out (by omega)
      obtain ⟨c, hc⟩ : ∃ c, cs[i]? = some c := ⟨cs[i], List.getElem?_eq_getElem hp⟩
      obtain ⟨x0, x1, x2⟩ := cols_stays H0.out hB i c hc
      obtain ⟨cn, ck, cm⟩ := c
      have hB2 := hB.alloc hB.size (.cells #[.string cn, .int .i64 ck, .bool cm] 90)
      dsimp only at x0 x1 x2
      go_wp2
      · go_ret
        exact ⟨_, rfl, by simp, hB2⟩
      · exact ⟨⟨i + 1, _, by omega, rfl, rfl, hB2⟩, by simp [intOf]; omega⟩
    · obtain rfl : i = cs.length := by omega
      go_wp2
      go_ret
      exact ⟨_, rfl, fun _ => hl, hB⟩
end Go.Proofs.YtcjidlgmbjebjaaDoor

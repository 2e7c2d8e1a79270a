import Derived.Test.YtcjidlgmbjebjaaDoorAskAu
set_option linter.unusedVariables false
set_option linter.unusedSimpArgs false
set_option maxRecDepth 100000
namespace Go.Proofs.YtcjidlgmbjebjaaDoor
open Go Go.RowKit
def sameSch (n1 : ByteArray) (k1 r1 : Int) (cs : List Col) (n2 : ByteArray) (k2 r2 : Int) (ds : List Col) : Bool :=
  (n1.toList == n2.toList) && (decide (k1 = k2) && (decide (r1 = r2) && decide (cs = ds)))
set_option maxHeartbeats 2000000 in
theorem same_val (n1 : ByteArray) (k1 r1 : Int) (v : Value) (cs : List Col) (n2 : ByteArray) (k2 r2 : Int) (v2 : Value) (ds : List Col) (W : World) (hl1 : cs.length ≤ 50) (hl2 : ds.length ≤ 50) (h1 : ColsV W v cs) (h2 : ColsV W v2 ds) :
    Calls Tryd.prog 19 #[schV n1 k1 r1 v, schV n2 k2 r2 v2] W (RetBool (sameSch n1 k1 r1 cs n2 k2 r2 ds) W) := by
  unfold schV
  obtain ⟨pa, b, o, cap, rfl, hrest1⟩ := h1
  obtain ⟨pa2, b2, o2, cap2, rfl, hrest2⟩ := h2
  have H1 : Hid (ColsV W (.slice pa cs.length cap) cs) := Lib.hid ⟨pa, b, o, cap, rfl, hrest1⟩
  have H2 : Hid (ColsV W (.slice pa2 ds.length cap2) ds) := Lib.hid ⟨pa2, b2, o2, cap2, rfl, hrest2⟩
  clear hrest1 hrest2
  by_cases e1 : n1.toList = n2.toList
  · have f1 := beq_yes e1
    by_cases e2 : k1 = k2
    · subst e2
      by_cases e3 : r1 = r2
      · subst e3
        have HR := Lib.hid (show sameSch n1 k1 r1 cs n2 k1 r1 ds = decide (cs = ds) by simp [sameSch, f1])
        clear e1
        go_enter Tryd.func19, Tryd.ntmps19
        go_wp2_with fail
        refine (eqcols_val _ _ cs ds _ hl1 hl2 (colsV_stays H1.out (by go_grown)) (colsV_stays H2.out (by go_grown))).mono ?_
        rintro e w1 ⟨rfl, hb⟩
        have hB := below_step (show Below W.heap.size W _ from by go_grown) hb
        clear hb
        dsimp only
        go_wp2_with fail
        go_ret
        exact ⟨by rw [HR.out]; rfl, hB⟩
      · have HR := Lib.hid (show sameSch n1 k1 r1 cs n2 k1 r2 ds = false by simp [sameSch, e3])
        clear e1
        go_enter Tryd.func19, Tryd.ntmps19
        go_wp2
        go_ret
        exact ⟨by rw [HR.out]; rfl, by go_grown⟩
    · have HR := Lib.hid (show sameSch n1 k1 r1 cs n2 k2 r2 ds = false by simp [sameSch, e2])
      clear e1
      go_enter Tryd.func19, Tryd.ntmps19
      go_wp2
      go_ret
      exact ⟨by rw [HR.out]; rfl, by go_grown⟩
  · have f1 := beq_no e1
    have HR := Lib.hid (show sameSch n1 k1 r1 cs n2 k2 r2 ds = false by simp [sameSch, f1])
    clear e1
    go_enter Tryd.func19, Tryd.ntmps19
    go_wp2
    go_ret
    exact ⟨by rw [HR.out]; rfl, by go_grown⟩
end Go.Proofs.YtcjidlgmbjebjaaDoor

import Derived.Test.YtcjidlgmbjebjaaDoorSayEa
import Derived.Test.YtcjidlgmbjebjaaDoorSayEb
import Derived.Test.YtcjidlgmbjebjaaDoorSayEc
import Derived.Test.YtcjidlgmbjebjaaDoorSayEd
set_option linter.unusedVariables false
set_option linter.unusedSimpArgs false
set_option maxRecDepth 100000
namespace Go.Proofs.YtcjidlgmbjebjaaDoor
open Go Go.RowKit
set_option maxHeartbeats 8000000 in
theorem says_walk (k1 n1 : Int) (s1 : ByteArray) (k2 n2 : Int) (s2 : ByteArray) (kind : Int) (W : World) (hs1 : s1.size ≤ 9223372036854775807) (hs2 : s2.size ≤ 9223372036854775807)
    (h0 : -9223372036854775808 ≤ n1) (h1 : n1 ≤ 9223372036854775807) (ht : PowIs W) (hlives : ∀ w', Below W.heap.size W w' → Calls Tryd.prog 24 #[] w' (TrueBelow w')) :
    Calls Tryd.prog 6 #[.agg #[.int .i64 k1, .int .i64 n1, .string s1], .agg #[.int .i64 k2, .int .i64 n2, .string s2], .int .i64 kind] W (TrueBelow W) := by
  have HL := Lib.hid hlives; clear hlives
  by_cases a1 : 2000 < s1.size
  · go_enter Tryd.func6, Tryd.ntmps6
    go_wp2_with fail
    refine (HL.out _ (by go_grown)).mono ?_
    rintro e w1 ⟨rfl, hb⟩
    have hB := below_step (show Below W.heap.size W _ from by go_grown) hb
    clear hb
    dsimp only
    go_wp2_with fail
    go_ret
    exact ⟨rfl, hB⟩
  by_cases a2 : 2000 < s2.size
  · go_enter Tryd.func6, Tryd.ntmps6
    go_wp2_with fail
    refine (HL.out _ (by go_grown)).mono ?_
    rintro e w1 ⟨rfl, hb⟩
    have hB := below_step (show Below W.heap.size W _ from by go_grown) hb
    clear hb
    dsimp only
    go_wp2_with fail
    go_ret
    exact ⟨rfl, hB⟩
  by_cases hk : k1 = k2
  · subst hk
    by_cases hn : n1 = n2
    · subst hn
      by_cases hl : s1.toList = s2.toList
      · exact says_d k1 n1 s1 s2 kind W hs1 hs2 h0 h1 ht HL a1 a2 hl
      · exact says_c k1 n1 s1 s2 kind W hs1 hs2 h0 h1 ht HL a1 a2 hl
    · exact says_b k1 n1 s1 n2 s2 kind W hs1 hs2 h0 h1 ht HL a1 a2 hn
  · exact says_a k1 n1 s1 k2 n2 s2 kind W hs1 hs2 h0 h1 ht HL a1 a2 hk
end Go.Proofs.YtcjidlgmbjebjaaDoor

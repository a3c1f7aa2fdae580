/- THE WALK OF credencelaw02.WholeNames: errors have their numbers; five less seven is -2. -/
import Derived.Test.YtflmdcmlhpifeaaZg
namespace Go.Proofs.Ytflmdcmlhpifeaa
set_option linter.unusedVariables false
set_option linter.unusedSimpArgs false
open Go.ChangeShapes Go.WideShapes Go.ChangeAt Go.RowKit Go.NatP

set_option maxRecDepth 100000 in
set_option maxHeartbeats 4000000 in
theorem wholeNames_walk {w : World} :
    Calls Try.prog 5 #[] w fun e w' => e = .returned (.bool true) ∧ Below w.heap.size w w' := by
  go_enter Try.func5, Try.ntmps5
  go_wp2_with fail
  refine (zofi_any 5 (by omega) (by omega)).mono ?_
  rintro e w1 ⟨a, an, ac, rfl, hO, hB⟩
  have hstep : Below w.heap.size w w1 := (by first | exact hB | exact below_drew hB)
  have hbel1 := (Below.refl w.heap.size w).next hstep
  have hle1 := hbel1.size
  have hls1 := hstep.size
  clear hstep
  have hna : an ≤ 10 := by have := hO.len; rw [show (lm (Int.natAbs 5)).length = 1 from by decide +kernel] at this; omega
  have Oa_2 := hO
  clear hO hB
  go_wp2_with fail
  refine (zofi_any 7 (by omega) (by omega)).mono ?_
  rintro e w2 ⟨b, bn, bc, rfl, hO, hB⟩
  have hstep : Below w1.heap.size w1 w2 := (by first | exact hB | exact below_drew hB)
  have Oa_3 := Oa_2.below hstep
  have hbel4 := hbel1.next hstep
  have hle4 := hbel4.size
  have hls4 := hstep.size
  clear Oa_2 hbel1 hstep
  have hnb : bn ≤ 10 := by have := hO.len; rw [show (lm (Int.natAbs 7)).length = 1 from by decide +kernel] at this; omega
  have Ob_5 := hO
  clear hO hB
  go_wp2_with fail
  refine (zsub_any false false Oa_3.rd (by omega) Ob_5.rd (by omega)).mono ?_
  rw [show zv false (val (lm (Int.natAbs 5))) - zv false (val (lm (Int.natAbs 7))) = -2 from by decide +kernel]
  rintro e w3 ⟨c, cn, cc, rfl, hO, hB⟩
  have hstep : Below w2.heap.size w2 w3 := (by first | exact hB | exact below_drew hB)
  have Oa_6 := Oa_3.below hstep
  have Ob_7 := Ob_5.below hstep
  have hbel8 := hbel4.next hstep
  have hle8 := hbel8.size
  have hls8 := hstep.size
  clear Oa_3 Ob_5 hbel4 hstep
  have hnc : cn ≤ 10 := by have := hO.len; rw [show (lm (Int.natAbs (-2))).length = 1 from by decide +kernel] at this; omega
  have Oc_9 := hO
  clear hO hB
  go_wp2_with fail
  refine (ztext_any true Oc_9.rd (by omega)).mono ?_
  rw [show ztx (zv true (val (lm (Int.natAbs (-2))))) = ⟨#[45, 50]⟩ from by decide +kernel]
  rintro e w4 ⟨rfl, hB⟩
  have hstep : Below w3.heap.size w3 w4 := (by first | exact hB | exact below_drew hB)
  have Oa_10 := Oa_6.below hstep
  have Ob_11 := Ob_7.below hstep
  have Oc_12 := Oc_9.below hstep
  have hbel13 := hbel8.next hstep
  have hle13 := hbel13.size
  have hls13 := hstep.size
  clear Oa_6 Ob_7 Oc_9 hbel8 hstep
  go_wp2
  go_ret
  exact ⟨rfl, hbel13⟩

end Go.Proofs.Ytflmdcmlhpifeaa

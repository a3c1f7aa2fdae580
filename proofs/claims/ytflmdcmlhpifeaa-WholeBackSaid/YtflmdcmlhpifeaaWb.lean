/- WALKS, 2: equality of lists; numbers of a uint64; what the statements make and look at. -/
import Derived.Test.YtflmdcmlhpifeaaWa
import Derived.Deep.QuietTactic
import Derived.BigQuiet
import Derived.Laws.BitsAllLaws
namespace Go.Proofs.Ytflmdcmlhpifeaa
set_option linter.unusedVariables false
open Go.ChangeShapes Go.WideShapes Go.ChangeAt Go.RowKit Go.NatP

/-- ONE BOOL, nothing written. -/
def RetB (w : World) (b : Bool) (e : Ending) (w' : World) : Prop := e = .returned (.bool b) ∧ ∃ q, w' = w.drewN q

theorem list_eq_of_getD {la lb : List Nat} (h : la.length = lb.length) (hg : ∀ i, i < la.length → la.getD i 0 = lb.getD i 0) : la = lb := by
  apply List.ext_getElem h
  intro i h1 h2
  have := hg i h1
  rwa [getD_eq _ _ h1, getD_eq _ _ h2] at this

set_option maxHeartbeats 1000000 in
theorem same_any {w : World} {a b : Option Addr} {n c m d : Nat} {la lb : List Nat} (ha : Rd w a n c la) (hb : Rd w b m d lb) :
    Calls Try.prog 43 #[.slice a n c, .slice b m d] w (RetB w (decide (la = lb))) := by
  have hna := ha.bnd
  have hnb := hb.bnd
  by_cases hnm : n = m
  · subst hnm
    have hne : ((n : Int) != (n : Int)) = false := by simp
    go_enter Try.func43, Try.ntmps43
    go_wp2
    go_loopw [5] (fun i wr => ∃ k q : Nat, k ≤ n ∧ i = .int .i64 k ∧ wr = w.drewN q ∧ Hid (∀ j, j < k → la.getD j 0 = lb.getD j 0)) (fun i _ => n - (intOf i).toNat)
    case atStart => exact ⟨0, 0, Nat.zero_le _, rfl, rfl, fun j hj => absurd hj (by omega)⟩
    case round =>
      obtain ⟨k, q, hk, rfl, rfl, hE⟩ := hrel
      by_cases hlt : k < n
      · obtain ⟨ba, oa, rfl, hca⟩ := ha.get hlt
        obtain ⟨bb, ob, rfl, hcb⟩ := hb.get hlt
        by_cases hx : la.getD k 0 = lb.getD k 0
        · have hE' : Hid (∀ j, j < k + 1 → la.getD j 0 = lb.getD j 0) := fun j hj => by
            by_cases hjk : j = k
            · subst hjk; exact hx
            · exact hE.out j (by omega)
          rw [hx] at hca
          clear hx hE
          generalize ((lb.getD k 0 : Nat) : Int) = x at *
          have hxx : (x != x) = false := by simp
          go_wp2
          go_quiet (fail)
          go_wp2
          go_roundw
          case rel => exact ⟨k + 1, _, by omega, by go_num, rfl, hE'⟩
          case measure => simp [intOf]; omega
        · have hxi : ((la.getD k 0 : Nat) : Int) ≠ ((lb.getD k 0 : Nat) : Int) := by omega
          have hres : Hid (decide (la = lb) = false) := by
            show decide (la = lb) = false
            rw [decide_eq_false_iff_not]
            rintro rfl
            exact hx rfl
          clear hx hE
          generalize ((la.getD k 0 : Nat) : Int) = x at *
          generalize ((lb.getD k 0 : Nat) : Int) = y at *
          have hxx : (x != y) = true := by rw [bne_iff_ne]; exact hxi
          clear hxi
          go_wp2
          go_quiet (fail)
          go_wp2
          go_ret
          exact ⟨by rw [hres.out]; rfl, _, by first | rfl | rw [World.drewN_drewN]⟩
      · obtain rfl : k = n := by omega
        have hres : Hid (decide (la = lb) = true) := by
          show decide (la = lb) = true
          rw [decide_eq_true_eq]
          exact list_eq_of_getD (by rw [ha.len, hb.len]) (fun i hi => hE.out i (by rw [← ha.len]; exact hi))
        clear hE
        go_wp2
        go_ret
        exact ⟨by rw [hres.out]; rfl, _, rfl⟩
  · have hne : ((n : Int) != (m : Int)) = true := by rw [bne_iff_ne]; omega
    have hres : Hid (decide (la = lb) = false) := by
      show decide (la = lb) = false
      rw [decide_eq_false_iff_not]
      rintro rfl
      exact hnm (by rw [← ha.len, ← hb.len])
    clear hnm
    go_enter Try.func43, Try.ntmps43
    go_wp2
    go_ret
    exact ⟨by rw [hres.out]; rfl, 0, rfl⟩
end Go.Proofs.Ytflmdcmlhpifeaa

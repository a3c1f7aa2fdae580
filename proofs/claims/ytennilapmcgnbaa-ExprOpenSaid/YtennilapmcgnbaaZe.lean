/- WALKS OF WHOLE NUMBERS, 5: texts cut. -/
import Derived.Test.YtennilapmcgnbaaZd
import Derived.Test.YtennilapmcgnbaaWp
namespace Go.Proofs.Ytennilapmcgnbaa
set_option linter.unusedVariables false
open Go.ChangeShapes Go.WideShapes Go.ChangeAt Go.RowKit Go.NatP

/-- does a text begin with a stroke? -/
def pzB (s : ByteArray) : Bool := decide (0 < s.size ∧ (by' s).getD 0 0 = 45)
/-- what is behind the stroke -/
def pzR (s : ByteArray) : ByteArray := if pzB s then s.extract 1 s.size else s

theorem by_inj {s t : ByteArray} (h : by' s = by' t) : s = t := by
  have h1 : s.data.toList = t.data.toList := by
    refine List.ext_getElem (by have := congrArg List.length h; simpa [by'] using this) fun i h1 h2 => ?_
    have h3 := congrArg (fun l => l[i]?) h
    simp only [by', List.getElem?_map, List.getElem?_eq_getElem h1, List.getElem?_eq_getElem h2, Option.map_some, Option.some.injEq] at h3
    exact UInt8.toNat_inj.1 h3
  exact ByteArray.ext (Array.ext' h1)
theorem by_take1 (s : ByteArray) (h : 0 < s.size) : by' (s.extract 0 1) = [(by' s).getD 0 0] := by
  have hl : 0 < (by' s).length := by rw [by_len]; exact h
  have e : by' (s.extract 0 1) = (by' s).take 1 := by
    unfold by'
    rw [ByteArray.data_extract, Array.toList_extract, List.extract_eq_take_drop, ← List.map_take]
    rfl
  rw [e]
  cases hs : by' s with
  | nil => rw [hs] at hl; simp at hl
  | cons x l => simp
theorem stroke_eq (s : ByteArray) (h : 0 < s.size) : (s.extract 0 1 = ⟨#[45]⟩) ↔ (by' s).getD 0 0 = 45 := by
  constructor
  · intro e
    have := by_take1 s h
    rw [e] at this
    have h2 : by' (⟨#[45]⟩ : ByteArray) = [45] := rfl
    rw [h2] at this
    simpa using this.symm
  · intro e
    refine by_inj ?_
    rw [by_take1 s h, e]; rfl

def RetS2 (w : World) (b : Bool) (e : Ending) (w' : World) : Prop := e = .returned (.bool b) ∧ w = w'

theorem stroke_b (s : ByteArray) (h : 0 < s.size) : ((s.extract 0 1).toList == [45]) = pzB s := by
  have e : ((s.extract 0 1).toList = [45]) ↔ (s.extract 0 1 = ⟨#[45]⟩) := by
    rw [ByteArray.toList_eq]
    constructor
    · intro h; exact ByteArray.ext (Array.ext' h)
    · intro h; rw [h]
  rw [Bool.eq_iff_iff, beq_iff_eq, e, stroke_eq s h, pzB, decide_eq_true_iff]
  exact ⟨fun h2 => ⟨h, h2⟩, fun h2 => h2.2⟩

set_option maxRecDepth 100000 in
set_option maxHeartbeats 1000000 in
theorem hasp_any {w : World} (s : ByteArray) (hs : s.size ≤ maxLen) : Calls Try.prog 87 #[.string s, .string ⟨#[45]⟩] w (RetS2 w (pzB s)) := by
  unfold maxLen at hs
  by_cases h0 : 0 < s.size
  · have hb := hid (stroke_b s h0)
    go_enter Try.func87, Try.ntmps87
    go_wp2
    go_ret
    exact ⟨by rw [← hb.out]; rfl, rfl⟩
  · have hb : Hid (pzB s = false) := decide_eq_false fun h => h0 h.1
    have h1 : ¬ 1 ≤ (s.size : Int) := by omega
    go_enter Try.func87, Try.ntmps87
    go_wp2
    go_ret
    exact ⟨by rw [hb.out]; rfl, rfl⟩

def RetCutP (w : World) (r : ByteArray) (b : Bool) (e : Ending) (w' : World) : Prop := e = .returned (.tuple #[.string r, .bool b]) ∧ w = w'

set_option maxRecDepth 100000 in
set_option maxHeartbeats 1000000 in
theorem cutpl_any {w : World} (s : ByteArray) (hs : s.size ≤ maxLen) : Calls Try.prog 82 #[.string s, .string ⟨#[45]⟩] w (RetCutP w (pzR s) (pzB s)) := by
  have hH := hid (fun w => hasp_any (w := w) s hs)
  unfold maxLen at hs
  cases hb : pzB s
  · have hr : Hid (pzR s = s) := by show _ = _; unfold pzR; rw [hb]; rfl
    rw [hr.out]
    rw [hb] at hH
    clear hb
    go_enter Try.func82, Try.ntmps82
    go_wp2_with fail
    refine (hH.out _).mono ?_
    rintro e w' ⟨rfl, rfl⟩
    go_wp2
    go_ret2
    exact ⟨rfl, rfl⟩
  · have hr : Hid (pzR s = s.extract 1 s.size) := by show _ = _; unfold pzR; rw [hb]; rfl
    rw [hr.out]
    have h0 : 1 ≤ s.size := (of_decide_eq_true hb).1
    rw [hb] at hH
    clear hb
    go_enter Try.func82, Try.ntmps82
    go_wp2_with fail
    refine (hH.out _).mono ?_
    rintro e w' ⟨rfl, rfl⟩
    go_wp2
    go_ret2
    exact ⟨rfl, rfl⟩

set_option maxRecDepth 100000 in
set_option maxHeartbeats 1000000 in
theorem cutp_any {w : World} (s : ByteArray) (hs : s.size ≤ maxLen) : Calls Try.prog 74 #[.string s, .string ⟨#[45]⟩] w (RetCutP w (pzR s) (pzB s)) := by
  have hH := hid (fun w => cutpl_any (w := w) s hs)
  generalize pzR s = r at *
  generalize pzB s = b at *
  go_enter Try.func74, Try.ntmps74
  go_wp2_with fail
  refine (hH.out _).mono ?_
  rintro e w' ⟨rfl, rfl⟩
  go_wp2
  go_ret2
  exact ⟨rfl, rfl⟩

theorem pzR_size (s : ByteArray) : (pzR s).size ≤ s.size := by
  unfold pzR; split
  · rw [ByteArray.size_extract]; omega
  · exact Nat.le_refl _

end Go.Proofs.Ytennilapmcgnbaa

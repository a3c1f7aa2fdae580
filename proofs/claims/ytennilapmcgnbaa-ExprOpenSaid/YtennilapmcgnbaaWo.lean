/- WALKS, 15: division by one limb; numbers written. -/
import Derived.Test.YtennilapmcgnbaaWn
namespace Go.Proofs.Ytennilapmcgnbaa
set_option linter.unusedVariables false
open Go.ChangeShapes Go.WideShapes Go.ChangeAt Go.RowKit Go.NatP

/-- l divided down to limb j: S holds the quotient from j on, r is left -/
def DivIn (l S : List Nat) (d j r : Nat) : Prop :=
  val (S.drop j) = val (l.drop j) / d ∧ r = val (l.drop j) % d ∧ ∀ t, t < j → S.getD t 0 = l.getD t 0

theorem divIn_start (l : List Nat) {n d : Nat} (hl : l.length = n) : DivIn l l d n 0 := by
  refine ⟨?_, ?_, fun _ _ => rfl⟩
  · rw [List.drop_of_length_le (by omega)]; simp [val]
  · rw [List.drop_of_length_le (by omega)]; simp [val]

theorem divIn_step {l S : List Nat} {d j r : Nat} (hd : 0 < d) (h : DivIn l S d (j + 1) r) (hl : j < l.length) (hS : j < S.length) :
    DivIn l (S.set j ((r * 4294967296 + l.getD j 0) / d)) d j ((r * 4294967296 + l.getD j 0) % d) := by
  obtain ⟨h1, h2, h3⟩ := h
  have e1 : val (l.drop j) = l.getD j 0 + 4294967296 * val (l.drop (j + 1)) := val_drop_succ l j hl
  have e2 : val ((S.set j ((r * 4294967296 + l.getD j 0) / d)).drop j) = (r * 4294967296 + l.getD j 0) / d + 4294967296 * val (S.drop (j + 1)) := by
    rw [val_drop_succ _ j (by simpa using hS), NatP.getD_set_eq _ _ _ hS, List.drop_set_of_lt (by omega)]
  have e3 : l.getD j 0 + 4294967296 * val (l.drop (j + 1)) = (r * 4294967296 + l.getD j 0) + d * (4294967296 * (val (l.drop (j + 1)) / d)) := by
    have := Nat.div_add_mod (val (l.drop (j + 1))) d
    rw [← h2] at this
    generalize val (l.drop (j + 1)) / d = q at *
    rw [← this]
    grind
  refine ⟨?_, ?_, fun t ht => ?_⟩
  · rw [e2, h1, e1, e3, Nat.add_mul_div_left _ _ hd]
  · rw [e1, e3, Nat.add_mul_mod_self_left]
  · rw [NatP.getD_set_ne _ _ _ _ (by omega)]; exact h3 t (by omega)

def RetSmall (B : Nat) (w : World) (a : Option Addr) (n c v d : Nat) (e : Ending) (w' : World) : Prop :=
  e = .returned (.int .u32 (v % d : Nat)) ∧ (∃ l, Own B w' a n c l ∧ val l = v / d) ∧ Kp (fun b => a = some ⟨b, 0, none⟩) w w'

theorem or_limb (r x : Nat) (hr : r < 4294967296) (hx : x < 4294967296) : bits BinOp.or IntKind.u64 ((r : Int) * 4294967296) (x : Int) = ((r * 4294967296 + x : Nat) : Int) := shr_or r x hx hr

set_option maxRecDepth 100000 in
set_option maxHeartbeats 1000000 in
theorem small_any {B : Nat} {w : World} {a : Option Addr} {n c : Nat} {l : List Nat} (hO : Own B w a n c l) (d : Int) (h0 : 0 < d) (h1 : d ≤ 4294967295) :
    Calls Try.prog 63 #[.slice a n c, .int .u32 d] w (RetSmall B w a n c (val l) d.toNat) := by
  obtain ⟨d, rfl⟩ := Int.eq_ofNat_of_zero_le (show 0 ≤ d by omega)
  rw [Int.toNat_natCast]
  have hd : 0 < d := by omega
  have hd2 : d < 4294967296 := by omega
  have hb := hO.bnd
  have HL := hid hO.len
  have HLim := hid hO.lim
  have HI := hid (divIn_start l (d := d) hO.len)
  go_enter Try.func63, Try.ntmps63
  go_wp2
  go_loopw [5, 6] (fun rv iv wr => ∃ (j r : Nat) (S : List Nat), j ≤ n ∧ iv = .int .i64 ((j : Int) - 1) ∧ rv = .int .u64 r ∧ r < d ∧ Own B wr a n c S ∧ Hid (DivIn l S d j r) ∧ Kp (fun b => a = some ⟨b, 0, none⟩) w wr) (fun _ iv _ => (intOf iv + 1).toNat)
  case atStart => exact ⟨n, 0, l, Nat.le_refl _, rfl, rfl, hd, hO, HI, Kp.refl _ _⟩
  case round =>
    clear hO HI
    obtain ⟨j, r, S, hj, rfl, rfl, hr, hO, hI, hK⟩ := hrel
    by_cases hj0 : j = 0
    · subst hj0
      have hD : Hid (r = val l % d ∧ val S = val l / d) := by
        have := hI.out
        exact ⟨by simpa using this.2.1, by simpa using this.1⟩
      clear hI
      go_wp2
      go_ret
      exact ⟨congrArg (fun z => Ending.returned (.int .u32 z)) (by rw [← hD.out.1]; first | done | omega | (simp; omega)), ⟨S, hO, hD.out.2⟩, hK⟩
    · obtain ⟨j, rfl⟩ : ∃ i, j = i + 1 := ⟨j - 1, by omega⟩
      obtain ⟨g, rfl⟩ : ∃ g, a = some ⟨g, 0, none⟩ := by
        rcases hO.cases with ⟨_, h, _⟩ | ⟨g, h, _⟩
        · omega
        · exact ⟨g, h⟩
      have hc := hO.cell (i := j) (by omega)
      rw [hI.out.2.2 j (by omega)] at hc
      have hf := hO.free j
      have hx := HLim.out.getD j
      have HN := hid (divIn_step hd hI.out (by rw [HL.out]; omega) (by rw [hO.len]; omega))
      have HS := hid (fun (X : Int) (x : Nat) (hX : X = (x : Int)) (hx : x < 4294967296) => hO.setI j x hX hx)
      have HK := hid (fun v => hK.setCell (ad := ⟨g, j, none⟩) (p := fun b => (some ⟨g, 0, none⟩ : Option Addr) = some ⟨b, 0, none⟩) rfl v)
      generalize l.getD j 0 = x at *
      have hor := or_limb r x (by omega) hx
      have hq : (r * 4294967296 + x) / d < 4294967296 := by
        rw [Nat.div_lt_iff_lt_mul hd]
        have : (r + 1) * 4294967296 ≤ d * 4294967296 := Nat.mul_le_mul_right _ (by omega)
        omega
      have hm : (r * 4294967296 + x) % d < d := Nat.mod_lt _ hd
      obtain ⟨y, hy⟩ : ∃ y : Nat, y = r * 4294967296 + x := ⟨_, rfl⟩
      rw [← hy] at hor hq hm HN
      have hy2 : y ≤ 18446744073709551615 := by omega
      have hqI : (y : Int).tdiv (d : Int) = ((y / d : Nat) : Int) := by rw [Int.tdiv_eq_ediv_of_nonneg (by omega)]; exact (Int.natCast_ediv _ _).symm
      have hmI : (y : Int).tmod (d : Int) = ((y % d : Nat) : Int) := by rw [Int.tmod_eq_emod_of_nonneg (by omega)]; exact (Int.natCast_emod _ _).symm
      have hqI2 : (y : Int) / (d : Int) = ((y / d : Nat) : Int) := (Int.natCast_ediv _ _).symm
      have hmI2 : (y : Int) % (d : Int) = ((y % d : Nat) : Int) := (Int.natCast_emod _ _).symm
      generalize y / d = q at *
      generalize y % d = m at *
      clear hy hO hI hK hj0
      go_wp2
      go_roundw
      case rel => exact ⟨j, m, _, by omega, by go_num, rfl, hm, HS.out _ q (by omega) hq, HN, HK.out _⟩
      case measure => simp [intOf]

/-- the same into another list -/
def DivO (l T : List Nat) (d j r : Nat) : Prop := val (T.drop j) = val (l.drop j) / d ∧ r = val (l.drop j) % d
theorem divO_start (l T : List Nat) {n d : Nat} (hl : l.length = n) (hT : T.length = n) : DivO l T d n 0 := by
  refine ⟨?_, ?_⟩
  · rw [List.drop_of_length_le (by omega), List.drop_of_length_le (by omega)]; simp [val]
  · rw [List.drop_of_length_le (by omega)]; simp [val]
theorem divO_step {l T : List Nat} {d j r : Nat} (hd : 0 < d) (h : DivO l T d (j + 1) r) (hl : j < l.length) (hT : j < T.length) :
    DivO l (T.set j ((r * 4294967296 + l.getD j 0) / d)) d j ((r * 4294967296 + l.getD j 0) % d) := by
  have h' : DivIn l (l.take (j + 1) ++ T.drop (j + 1)) d (j + 1) r := by
    refine ⟨?_, h.2, fun t ht => ?_⟩
    · rw [List.drop_left' (by simp; omega)]; exact h.1
    · simp [List.getD_eq_getElem?_getD, List.getElem?_append_left (show t < (l.take (j + 1)).length by simp; omega), ht]
  have h2 := divIn_step hd h' hl (by simp; omega)
  refine ⟨?_, h2.2.1⟩
  rw [← h2.1, val_drop_succ _ j (by simpa using hT), val_drop_succ _ j (by simp; omega), NatP.getD_set_eq _ _ _ hT, NatP.getD_set_eq _ _ _ (by simp; omega), List.drop_set_of_lt (by omega), List.drop_set_of_lt (by omega), List.drop_left' (by simp; omega)]

def RetTen (w : World) (v : Nat) (e : Ending) (w' : World) : Prop :=
  ∃ a n c, e = .returned (.tuple #[.slice a n c, .int .i64 (v % 10 : Nat)]) ∧ Own w.heap.size w' a n c (lm (v / 10)) ∧ Below w.heap.size w w'

end Go.Proofs.Ytennilapmcgnbaa

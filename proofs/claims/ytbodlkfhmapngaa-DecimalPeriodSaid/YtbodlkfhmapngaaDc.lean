/- WALKS OF DECIMALS, 1: digits counted, powers of ten, divisors taken out. -/
import Derived.Test.YtbodlkfhmapngaaZe
import Derived.Test.YtbodlkfhmapngaaMq
import Derived.Test.YtbodlkfhmapngaaDb
import Derived.Laws.RangeAny
namespace Go.Proofs.Ytbodlkfhmapngaa
set_option linter.unusedVariables false
set_option linter.unusedSimpArgs false
open Go.ChangeShapes Go.WideShapes Go.ChangeAt Go.RowKit Go.NatP

theorem below_iter (w : World) (s : ByteArray) (p : Nat) : Below w.heap.size w (w.iter s p) := (Below.refl _ w).alloc (Nat.le_refl _) _
theorem isD_of {x : Nat} (h1 : 48 ≤ x) (h2 : x ≤ 57) : isD x = true := by simp [isD, h1, h2]
theorem isD_not {x : Nat} (h : x < 48 ∨ 57 < x) : isD x = false := by simp [isD]; omega

set_option maxRecDepth 100000 in
set_option maxHeartbeats 2000000 in
theorem run_any {w : World} (s : ByteArray) (hs : s.size ≤ 16777216) :
    Calls Try.prog 116 #[.string s] w (fun e w' => e = .returned (.int .i64 (dgw (by' s) : Nat)) ∧ Below w.heap.size w w') := by
  go_enter Try.func116, Try.ntmps116
  go_wp2
  go_loopw [3] (fun n w' => ∃ k : Nat, k ≤ s.size ∧ w' = w.iter s k ∧ n = .int .i64 k ∧ Hid (okD ((by' s).take k) = true)) (fun _ w' => s.size - w'.iterPos w.heap.size)
  case atStart => exact ⟨0, by omega, rfl, rfl, rfl⟩
  case round =>
    obtain ⟨k, hk, rfl, rfl, hV⟩ := hrel
    by_cases hp : k < s.size
    · have hx := by_get s k hp
      by_cases hlow : (s[k]'hp).toNat < 128
      · have hnx : ∀ ty, (Instr.next (.pointer (some ⟨w.heap.size, 0, none⟩)) true ty).run Try.prog (w.iter s k) = _ := fun ty => run_next_ascii w s k ty hp hlow
        obtain ⟨x, hxe⟩ : ∃ x, (s[k]'hp).toNat = x := ⟨_, rfl⟩
        rw [hxe] at hx hlow
        by_cases hd : 48 ≤ x ∧ x ≤ 57
        · obtain ⟨hd1, hd2⟩ := hd
          have HN : Hid (okD ((by' s).take (k + 1)) = true) := by
            show _ = _
            rw [take_succ_getD _ _ (by rw [by_len]; exact hp), hx, okD_snoc, hV.out]
            simp [hd1, hd2]
          clear hV hx
          simp only [hxe] at hnx
          go_wp2
          go_roundw
          case rel => exact ⟨k + 1, by omega, rfl, by go_num, HN⟩
          case measure => simp; omega
        · have hE : Hid (dgw (by' s) = k) := dgw_eq hV.out (by rw [by_len]; omega) (.inr (by rw [hx]; exact isD_not (by omega)))
          simp only [hxe] at hnx
          have hB := below_iter w s (k + 1)
          have hd' : x < 48 ∨ 57 < x := by omega
          clear hV hx hd
          rcases hd' with hd | hd
          all_goals
            go_wp2
            go_ret
            exact ⟨by rw [hE.out]; rfl, hB⟩
      · have hnx : ∀ ty, (Instr.next (.pointer (some ⟨w.heap.size, 0, none⟩)) true ty).run Try.prog (w.iter s k) = _ := fun ty => run_next_any w s k ty hp
        obtain ⟨hr, _⟩ := decode_high s k hp (by omega)
        have hE : Hid (dgw (by' s) = k) := dgw_eq hV.out (by rw [by_len]; omega) (.inr (by rw [hx]; exact isD_not (by omega)))
        have hB := below_iter w s (k + (Utf8.decode s k).2)
        generalize (Utf8.decode s k).1 = r at *
        generalize (Utf8.decode s k).2 = q at *
        clear hV hx hlow
        go_wp2
        go_ret
        exact ⟨by rw [hE.out]; rfl, hB⟩
    · have hnx : ∀ ty, (Instr.next (.pointer (some ⟨w.heap.size, 0, none⟩)) true ty).run Try.prog (w.iter s k) = _ := fun ty => run_next_end w s k ty hp
      have hE : Hid (dgw (by' s) = k) := dgw_eq hV.out (by rw [by_len]; omega) (.inl (by rw [by_len]; omega))
      have hB := below_iter w s k
      clear hV
      go_wp2
      go_ret
      exact ⟨by rw [hE.out]; rfl, hB⟩

theorem szTen (k : Nat) : Sz (10 ^ k) (k + 1) := by
  unfold Sz
  exact Nat.lt_of_le_of_lt (Nat.pow_le_pow_left (by decide) k) (Nat.pow_lt_pow_right (by decide) (by omega))
theorem nbTen (k : Nat) : nb (10 ^ k) ≤ 4 * k + 1 := nb_le.2 (by
  have h1 : (10 : Nat) ^ k ≤ (2 ^ 4) ^ k := Nat.pow_le_pow_left (by decide) k
  rw [← Nat.pow_mul] at h1
  exact Nat.lt_of_le_of_lt h1 (Nat.pow_lt_pow_right (by decide) (by omega)))
theorem dpow {W : World} {B : Nat} {a : Option Addr} {n c : Nat} (h : Own B W a n c (lm 10)) (j : Nat) (hj : j ≤ 1024) :
    Calls Try.prog 71 #[.slice a n c, .int .i64 j] W (RetE W (lm (10 ^ j)) 0) := by
  have hn : n ≤ 4096 := by have := h.len; have : (lm 10).length = 1 := rfl; omega
  have hb := nbTen j
  have e1 : pwN 10 (j : Int) = 10 ^ j := by
    unfold pwN
    rw [Int.toNat_natCast, if_pos ⟨by omega, by omega, by omega⟩]
  have e2 : pwE 10 (j : Int) = 0 := by
    unfold pwE
    rw [Int.toNat_natCast, if_pos ⟨by omega, by omega⟩, if_pos (by omega)]
  have := pow_any h.rd hn (j : Int)
  rwa [val_lm, e1, e2] at this
theorem dpowT {W : World} {B : Nat} {a : Option Addr} {n c : Nat} (K T : Nat) (hK : K = 1024) (hT : T = 10 ^ K) (h : Own B W a n c (lm 10)) :
    Calls Try.prog 71 #[.slice a n c, .int .i64 1024] W (RetE W (lm T) 0) := by
  have := dpow h K (by omega)
  rw [← hT] at this
  rwa [show ((K : Nat) : Int) = 1024 by omega] at this

set_option maxRecDepth 100000 in
set_option maxHeartbeats 2000000 in
theorem dten {w : World} (N : Nat) (hN : N ≤ 1000000) : Calls Try.prog 120 #[.int .i64 N] w (Ret1 w (lm (10 ^ N))) := by
  obtain ⟨K, hK⟩ : ∃ K : Nat, K = 1024 := ⟨_, rfl⟩
  obtain ⟨T, hT⟩ : ∃ T : Nat, T = 10 ^ K := ⟨_, rfl⟩
  have hT' := hid hT
  have hsT := hid (hT ▸ szTen K)
  have HP := hid (fun W B a n c (h : Own B W a n c (lm 10)) => dpowT K T hK hT h)
  clear hT
  go_enter Try.func120, Try.ntmps120
  go_wp2_with fail
  refine (of_any 1 (by omega) (by omega)).mono ?_
  rintro e w1 ⟨a1, n1, c1, rfl, hO1, hB1⟩
  go_wp2
  go_loopw [0, 3] (fun iv v wr => ∃ (j m c : Nat) (a : Option Addr), j ≤ N ∧ iv = .int .i64 j ∧ v = .slice a m c ∧ Own w.heap.size wr a m c (lm (10 ^ (N - j))) ∧ Below w.heap.size w wr) (fun iv _ _ => (intOf iv).toNat)
  case atStart => exact ⟨N, n1, c1, a1, Nat.le_refl _, rfl, rfl, by rw [Nat.sub_self]; exact hO1, hB1⟩
  case round =>
    clear hO1 hB1
    obtain ⟨j, m, c, a, hj, rfl, rfl, hO, hB⟩ := hrel
    have hs := hB.size
    have hR := hO.rdN (szTen (N - j))
    have HF := hid (fun (P : Nat) (hP : P = 10 ^ K * 10 ^ (N - j)) (hj2 : K < j) => (show P = 10 ^ (N - (j - K)) by rw [hP, ← Nat.pow_add]; congr 1; omega))
    have HL := hid (fun (hj2 : j ≤ K) => (show 10 ^ (N - j) * 10 ^ j = 10 ^ N by rw [← Nat.pow_add]; congr 1; omega))
    generalize 10 ^ (N - j) = p at *
    by_cases hlt : K < j
    · rw [hK] at hlt
      go_wp2_with fail
      refine (of_any 10 (by omega) (by omega)).mono ?_
      rintro e w2 ⟨a2, n2, c2, rfl, hO2, hB2⟩
      go_wp2_with fail
      refine (HP.out _ _ _ _ _ hO2).mono ?_
      rintro e w3 ⟨a3, n3, c3, rfl, hO3, hB3⟩
      go_wp2_with fail
      have hB23 : Below wr.heap.size wr w3 := hB2.next hB3
      refine (nmulR (hR.below hB23) (hO3.rdN hsT.out) (by omega) (by omega)).mono ?_
      rintro e w4 ⟨a4, n4, c4, rfl, hO4, hB4⟩
      have hsz3 := hB23.size
      go_wp2
      go_roundw
      case rel =>
        refine ⟨j - K, n4, c4, a4, by omega, ?_, rfl, ?_, (hB.next hB23).next hB4⟩
        · rw [hK]; go_num
        · rw [← HF.out (p * T) (by rw [hT'.out, Nat.mul_comm]) (by omega)]
          exact hO4.mono (by omega)
      case measure => simp [intOf]; omega
    · have hle : j ≤ K := by omega
      have hL := HL.out hle
      rw [hK] at hle
      go_wp2_with fail
      refine (of_any 10 (by omega) (by omega)).mono ?_
      rintro e w2 ⟨a2, n2, c2, rfl, hO2, hB2⟩
      go_wp2_with fail
      refine (dpow hO2 j hle).mono ?_
      rintro e w3 ⟨a3, n3, c3, rfl, hO3, hB3⟩
      have hR3 := hO3.rdN (szTen j)
      have hB23 : Below wr.heap.size wr w3 := hB2.next hB3
      have hsz3 := hB23.size
      generalize 10 ^ j = q at *
      go_wp2_with fail
      refine (nmulR (hR.below hB23) hR3 (by omega) (by omega)).mono ?_
      rw [hL]
      rintro e w4 ⟨a4, n4, c4, rfl, hO4, hB4⟩
      go_wp2
      go_ret
      exact ⟨a4, n4, c4, rfl, hO4.mono (by omega), (hB.next hB23).next hB4⟩

/-- a divisor taken out: the answer can be read -/
def RetOut (k : Nat) (w : World) (p M v : Nat) (e : Ending) (w' : World) : Prop :=
  ∃ a n c, e = .returned (.tuple #[.slice a n c, .int .i64 ((outN p M v).2 : Nat)]) ∧ RdN k w' a n c (outN p M v).1 ∧ Below w.heap.size w w'
set_option maxRecDepth 100000 in
set_option maxHeartbeats 2000000 in
theorem dout {w : World} {a b : Option Addr} {n c m d v p M k : Nat} (ha : RdN k w a n c v) (hk : k ≤ 4194304) (hb : RdN 1 w b m d p) (hp : p ≠ 0) (hM : M ≤ 1000000) :
    Calls Try.prog 99 #[.slice a n c, .slice b m d, .int .i64 M] w (RetOut k w p (M + 1) v) := by
  unfold RetOut
  obtain ⟨O, hO⟩ : ∃ O, outN p (M + 1) v = O := ⟨_, rfl⟩
  have hO' := hid hO
  rw [hO]
  clear hO
  go_enter Try.func99, Try.ntmps99
  go_wp2
  go_loopw [0, 8] (fun av iv wr => ∃ (i x n c : Nat) (a : Option Addr), i ≤ M + 1 ∧ iv = .int .i64 i ∧ av = .slice a n c ∧ RdN k wr a n c x ∧ Hid (O = ((outN p (M + 1 - i) x).1, (outN p (M + 1 - i) x).2 + i)) ∧ Below w.heap.size w wr) (fun _ iv _ => M + 1 - (intOf iv).toNat)
  case atStart => exact ⟨0, v, n, c, a, by omega, rfl, rfl, ha, by rw [← hO'.out]; rfl, Below.refl _ _⟩
  case round =>
    obtain ⟨i, x, n, c, a, hi, rfl, rfl, hA, hV, hB⟩ := hrel
    have hs := hB.size
    by_cases hlt : i ≤ M
    · have HS : Hid (x % p = 0 → O = ((outN p (M + 1 - (i + 1)) (x / p)).1, (outN p (M + 1 - (i + 1)) (x / p)).2 + (i + 1))) := fun h => by
        rw [hV.out, show M + 1 - i = (M + 1 - (i + 1)) + 1 by omega, outN_step _ h]
        simp only [Prod.mk.injEq, true_and]
        omega
      have HE : Hid (x % p ≠ 0 → O = (x, i)) := fun h => by
        rw [hV.out, outN_stop _ h]; simp
      have hsz := hid hA.sz
      clear hV
      go_wp2_with fail
      refine (ndivR hA (hb.below hB) (by omega) (by omega) hp).mono ?_
      rintro e w2 ⟨qa, qn, qc, ra, rn, rc, rfl, hOq, hOr, hD, hB2⟩
      have hl := hOr.len
      by_cases hz : x % p = 0
      · have h0 : rn = 0 := by rw [← hl, hz]; rfl
        subst h0
        have hRq : RdN k w2 qa qn qc (x / p) := hOq.rdN (hsz.out.mono (Nat.div_le_self _ _) (Nat.le_refl _))
        have hS := hid (HS.out hz)
        clear hz hl hOq hOr HS HE hA
        generalize x / p = y at *
        go_wp2
        go_roundw
        case rel => exact ⟨i + 1, y, qn, qc, qa, by omega, by go_num, rfl, hRq, hS, hB.next hB2⟩
        case measure => simp [intOf]; omega
      · have h0 : 0 < rn := by
          rw [← hl]
          exact List.length_pos_iff.2 fun e => hz (lm_eq_nil.1 e)
        have hbr := hOr.bnd
        have hA2 := hA.below hB2
        have hE := HE.out hz
        subst hE
        clear hz hl hOq hOr HS HE hA
        go_wp2
        go_ret2
        exact ⟨a, n, c, rfl, hA2, hB.next hB2⟩
    · obtain rfl : i = M + 1 := by omega
      have hE : O = (x, M + 1) := by rw [hV.out, Nat.sub_self]; simp [outN]
      subst hE
      clear hV
      go_wp2
      go_ret2
      exact ⟨a, n, c, rfl, hA, hB⟩
end Go.Proofs.Ytbodlkfhmapngaa

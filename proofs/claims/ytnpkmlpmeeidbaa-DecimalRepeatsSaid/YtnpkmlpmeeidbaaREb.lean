/- THE LIBRARY's strings.Repeat at this program: laid by the kit's own program, in plain words. -/
import Derived.Shelf.Strings.Builder1
import Derived.Shelf.Strings.Builder2
import Derived.Shelf.Small.Bits
import Derived.Shelf.Strings.BuilderF
import Derived.Shelf.Strings.Prefix
import Derived.Shelf.Bits.Mul64
import Derived.Shelf.Strings.Repeat
import Derived.Test.YtnpkmlpmeeidbaaProg
import Derived.Test.YtnpkmlpmeeidbaaRZe
import Derived.Test.YtnpkmlpmeeidbaaRMq
import Derived.Test.YtnpkmlpmeeidbaaREa
import Derived.Laws.RangeAny
namespace Go.Proofs
open Go.Shelf
def Try.lays105_ren : Go.Shelf.Ren := ⟨fun | 105 => 174 | 212 => 194 | 99 => 98 | 165 => 195 | 166 => 196 | 170 => 197 | 169 => 198 | 263 => 208 | 264 => 209 | 206 => 157 | 240 => 210 | 241 => 211 | 276 => 216 | 277 => 217 | n => n, fun | 9 => 9 | 3 => 3 | 4 => 4 | 20 => 20 | 0 => 0 | 46 => 175 | 109 => 222 | 5 => 5 | 72 => 226 | 76 => 230 | 51 => 39 | 146 => 240 | 53 => 110 | 148 => 242 | 70 => 224 | 37 => 176 | 75 => 229 | 127 => 244 | 164 => 247 | 80 => 232 | n => n, fun | n => n⟩
theorem Try.lays105 : Go.Proofs.Lays.n105 Try.prog Try.lays105_ren := {
  mixed := by kernel_rfl
  f99 := Try.func98.trans (congrArg some (by kernel_rfl))
  f105 := Try.func174.trans (congrArg some (by kernel_rfl))
  f165 := Try.func195.trans (congrArg some (by kernel_rfl))
  f166 := Try.func196.trans (congrArg some (by kernel_rfl))
  f169 := Try.func198.trans (congrArg some (by kernel_rfl))
  f170 := Try.func197.trans (congrArg some (by kernel_rfl))
  f206 := Try.func157.trans (congrArg some (by kernel_rfl))
  f212 := Try.func194.trans (congrArg some (by kernel_rfl))
  f240 := Try.func210.trans (congrArg some (by kernel_rfl))
  f241 := Try.func211.trans (congrArg some (by kernel_rfl))
  f263 := Try.func208.trans (congrArg some (by kernel_rfl))
  f264 := Try.func209.trans (congrArg some (by kernel_rfl))
  f276 := Try.func216.trans (congrArg some (by kernel_rfl))
  f277 := Try.func217.trans (congrArg some (by kernel_rfl))
  t0 := Try.underlying0
  a0 := Try.isAgg0
  z0 := Try.sizeOf0
  v0 := Try.zeroValue0
  t3 := Try.underlying3
  a3 := Try.isAgg3
  z3 := Try.sizeOf3
  v3 := Try.zeroValue3
  t4 := Try.underlying4
  a4 := Try.isAgg4
  z4 := Try.sizeOf4
  v4 := Try.zeroValue4
  t5 := Try.underlying5
  a5 := Try.isAgg5
  z5 := Try.sizeOf5
  v5 := Try.zeroValue5
  t9 := Try.underlying9
  a9 := Try.isAgg9
  z9 := Try.sizeOf9
  v9 := Try.zeroValue9
  t20 := Try.underlying20
  a20 := Try.isAgg20
  z20 := Try.sizeOf20
  v20 := Try.zeroValue20
  t37 := Try.underlying176
  a37 := Try.isAgg176
  z37 := Try.sizeOf176
  v37 := Try.zeroValue176
  t46 := Try.underlying175
  a46 := Try.isAgg175
  z46 := Try.sizeOf175
  v46 := Try.zeroValue175
  t51 := Try.underlying39
  a51 := Try.isAgg39
  z51 := Try.sizeOf39
  v51 := Try.zeroValue39
  t53 := Try.underlying110
  a53 := Try.isAgg110
  z53 := Try.sizeOf110
  v53 := Try.zeroValue110
  t70 := Try.underlying224
  a70 := Try.isAgg224
  z70 := Try.sizeOf224
  v70 := Try.zeroValue224
  t72 := Try.underlying226
  a72 := Try.isAgg226
  z72 := Try.sizeOf226
  v72 := Try.zeroValue226
  t75 := Try.underlying229
  a75 := Try.isAgg229
  z75 := Try.sizeOf229
  v75 := Try.zeroValue229
  t76 := Try.underlying230
  a76 := Try.isAgg230
  z76 := Try.sizeOf230
  v76 := Try.zeroValue230
  t109 := Try.underlying222
  a109 := Try.isAgg222
  z109 := Try.sizeOf222
  v109 := Try.zeroValue222
  t127 := Try.underlying244
  a127 := Try.isAgg244
  z127 := Try.sizeOf244
  v127 := Try.zeroValue244
  t146 := Try.underlying240
  a146 := Try.isAgg240
  z146 := Try.sizeOf240
  v146 := Try.zeroValue240
  t148 := Try.underlying242
  a148 := Try.isAgg242
  z148 := Try.sizeOf242
  v148 := Try.zeroValue242
  t164 := Try.underlying247
  a164 := Try.isAgg247
  z164 := Try.sizeOf247
  v164 := Try.zeroValue247 }
theorem Try.Builder_Extra_105 : Builder.Extra Try.prog Try.lays105_ren := {
  sizeBuilder := by kernel_rfl
  liesBuilder := by kernel_rfl
  t5 := Try.underlying5
  a5 := Try.isAgg5
  z5 := Try.sizeOf5
  v5 := Try.zeroValue5
  infoByte := by kernel_rfl
  cellsByte := by kernel_rfl
  sizeByte := by kernel_rfl
  neB5 := by decide }
open Go.RowKit Go.Lib in
/-- **strings.Repeat: count ≥ 0, the result within one allocation: count copies of s.** (LAID: no walk: one application.) -/
theorem Try.strings_Repeat (s : ByteArray) (c : Nat) (w : World) (hc : c ≤ 9223372036854775807) (hlen : s.size * c ≤ 140737488355328) :
    Calls Try.prog 174 #[.string s, .int .i64 c] w fun e w' => e = .returned (.string ⟨(Lib.repeatL s.data.toList c).toArray⟩) ∧ Below w.heap.size w w' := Any.strings_Repeat Try.lays105 Try.Builder_Extra_105 s c w hc hlen
end Go.Proofs
/- WALKS OF DECIMALS, 1: digits counted, powers of ten, divisors taken out. -/
namespace Go.Proofs.Ytnpkmlpmeeidbaa
set_option linter.unusedVariables false
set_option linter.unusedSimpArgs false
open Go.ChangeShapes Go.WideShapes Go.ChangeAt Go.RowKit Go.NatP

theorem below_iter (w : World) (s : ByteArray) (p : Nat) : Below w.heap.size w (w.iter s p) := (Below.refl _ w).alloc (Nat.le_refl _) _
theorem isD_not {x : Nat} (h : x < 48 ∨ 57 < x) : isD x = false := by simp [isD]; omega

set_option maxRecDepth 100000 in
set_option maxHeartbeats 2000000 in
theorem run_any {w : World} (s : ByteArray) (hs : s.size ≤ 16777216) :
    Calls Try.prog 97 #[.string s] w (fun e w' => e = .returned (.int .i64 (dgw (by' s) : Nat)) ∧ Below w.heap.size w w') := by
  go_enter Try.func97, Try.ntmps97
  go_wp2
  go_loopw [3] (fun n w' => ∃ k : Nat, k ≤ s.size ∧ w' = w.iter s k ∧ n = .int .i64 k ∧ Hid (okD ((by' s).take k) = true)) (fun _ w' => s.size - w'.iterPos w.heap.size)
  case atStart => exact ⟨0, by omega, rfl, rfl, rfl⟩
  case round =>
    obtain ⟨k, hk, rfl, rfl, hV⟩ := hrel
    by_cases hp : k < s.size
    · have hx := by_get s k hp
      by_cases hlow : (s[k]'hp).toNat < 128
      · have hnx : ∀ ty, (Instr.next (.pointer (some ⟨w.heap.size, 0, none⟩)) true ty).run Try.prog (w.iter s k) = _ := fun ty => run_next_ascii w s k ty hp hlow
        obtain ⟨x, hxe⟩ : ∃ x, (s[k]'hp).toNat = x := ⟨_, rfl⟩
        rw [hxe] at hx hlow
        by_cases hd : 48 ≤ x ∧ x ≤ 57
        · obtain ⟨hd1, hd2⟩ := hd
          have HN : Hid (okD ((by' s).take (k + 1)) = true) := by
            show _ = _
            rw [take_succ_getD _ _ (by rw [by_len]; exact hp), hx, okD_snoc, hV.out]
            simp [hd1, hd2]
          clear hV hx
          simp only [hxe] at hnx
          go_wp2
          go_roundw
          case rel => exact ⟨k + 1, by omega, rfl, by go_num, HN⟩
          case measure => simp; omega
        · have hE : Hid (dgw (by' s) = k) := dgw_eq hV.out (by rw [by_len]; omega) (.inr (by rw [hx]; exact isD_not (by omega)))
          simp only [hxe] at hnx
          have hB := below_iter w s (k + 1)
          have hd' : x < 48 ∨ 57 < x := by omega
          clear hV hx hd
          rcases hd' with hd | hd
          all_goals
            go_wp2
            go_ret
            exact ⟨by rw [hE.out]; rfl, hB⟩
      · have hnx : ∀ ty, (Instr.next (.pointer (some ⟨w.heap.size, 0, none⟩)) true ty).run Try.prog (w.iter s k) = _ := fun ty => run_next_any w s k ty hp
        obtain ⟨hr, _⟩ := decode_high s k hp (by omega)
        have hE : Hid (dgw (by' s) = k) := dgw_eq hV.out (by rw [by_len]; omega) (.inr (by rw [hx]; exact isD_not (by omega)))
        have hB := below_iter w s (k + (Utf8.decode s k).2)
        generalize (Utf8.decode s k).1 = r at *
        generalize (Utf8.decode s k).2 = q at *
        clear hV hx hlow
        go_wp2
        go_ret
        exact ⟨by rw [hE.out]; rfl, hB⟩
    · have hnx : ∀ ty, (Instr.next (.pointer (some ⟨w.heap.size, 0, none⟩)) true ty).run Try.prog (w.iter s k) = _ := fun ty => run_next_end w s k ty hp
      have hE : Hid (dgw (by' s) = k) := dgw_eq hV.out (by rw [by_len]; omega) (.inl (by rw [by_len]; omega))
      have hB := below_iter w s k
      clear hV
      go_wp2
      go_ret
      exact ⟨by rw [hE.out]; rfl, hB⟩

theorem szTen (k : Nat) : Sz (10 ^ k) (k + 1) := by
  unfold Sz
  exact Nat.lt_of_le_of_lt (Nat.pow_le_pow_left (by decide) k) (Nat.pow_lt_pow_right (by decide) (by omega))
theorem nbTen (k : Nat) : nb (10 ^ k) ≤ 4 * k + 1 := nb_le.2 (by
  have h1 : (10 : Nat) ^ k ≤ (2 ^ 4) ^ k := Nat.pow_le_pow_left (by decide) k
  rw [← Nat.pow_mul] at h1
  exact Nat.lt_of_le_of_lt h1 (Nat.pow_lt_pow_right (by decide) (by omega)))
theorem dpow {W : World} {B : Nat} {a : Option Addr} {n c : Nat} (h : Own B W a n c (lm 10)) (j : Nat) (hj : j ≤ 1024) :
    Calls Try.prog 60 #[.slice a n c, .int .i64 j] W (RetE W (lm (10 ^ j)) 0) := by
  have hn : n ≤ 4096 := by have := h.len; have : (lm 10).length = 1 := rfl; omega
  have hb := nbTen j
  have e1 : pwN 10 (j : Int) = 10 ^ j := by
    unfold pwN
    rw [Int.toNat_natCast, if_pos ⟨by omega, by omega, by omega⟩]
  have e2 : pwE 10 (j : Int) = 0 := by
    unfold pwE
    rw [Int.toNat_natCast, if_pos ⟨by omega, by omega⟩, if_pos (by omega)]
  have := pow_any h.rd hn (j : Int)
  rwa [val_lm, e1, e2] at this
theorem dpowT {W : World} {B : Nat} {a : Option Addr} {n c : Nat} (K T : Nat) (hK : K = 1024) (hT : T = 10 ^ K) (h : Own B W a n c (lm 10)) :
    Calls Try.prog 60 #[.slice a n c, .int .i64 1024] W (RetE W (lm T) 0) := by
  have := dpow h K (by omega)
  rw [← hT] at this
  rwa [show ((K : Nat) : Int) = 1024 by omega] at this

set_option maxRecDepth 100000 in
set_option maxHeartbeats 2000000 in
theorem dten {w : World} (N : Nat) (hN : N ≤ 1000000) : Calls Try.prog 102 #[.int .i64 N] w (Ret1 w (lm (10 ^ N))) := by
  obtain ⟨K, hK⟩ : ∃ K : Nat, K = 1024 := ⟨_, rfl⟩
  obtain ⟨T, hT⟩ : ∃ T : Nat, T = 10 ^ K := ⟨_, rfl⟩
  have hT' := hid hT
  have hsT := hid (hT ▸ szTen K)
  have HP := hid (fun W B a n c (h : Own B W a n c (lm 10)) => dpowT K T hK hT h)
  clear hT
  go_enter Try.func102, Try.ntmps102
  go_wp2_with fail
  refine (of_any 1 (by omega) (by omega)).mono ?_
  rintro e w1 ⟨a1, n1, c1, rfl, hO1, hB1⟩
  go_wp2
  go_loopw [0, 3] (fun iv v wr => ∃ (j m c : Nat) (a : Option Addr), j ≤ N ∧ iv = .int .i64 j ∧ v = .slice a m c ∧ Own w.heap.size wr a m c (lm (10 ^ (N - j))) ∧ Below w.heap.size w wr) (fun iv _ _ => (intOf iv).toNat)
  case atStart => exact ⟨N, n1, c1, a1, Nat.le_refl _, rfl, rfl, by rw [Nat.sub_self]; exact hO1, hB1⟩
  case round =>
    clear hO1 hB1
    obtain ⟨j, m, c, a, hj, rfl, rfl, hO, hB⟩ := hrel
    have hs := hB.size
    have hR := hO.rdN (szTen (N - j))
    have HF := hid (fun (P : Nat) (hP : P = 10 ^ K * 10 ^ (N - j)) (hj2 : K < j) => (show P = 10 ^ (N - (j - K)) by rw [hP, ← Nat.pow_add]; congr 1; omega))
    have HL := hid (fun (hj2 : j ≤ K) => (show 10 ^ (N - j) * 10 ^ j = 10 ^ N by rw [← Nat.pow_add]; congr 1; omega))
    generalize 10 ^ (N - j) = p at *
    by_cases hlt : K < j
    · rw [hK] at hlt
      go_wp2_with fail
      refine (of_any 10 (by omega) (by omega)).mono ?_
      rintro e w2 ⟨a2, n2, c2, rfl, hO2, hB2⟩
      go_wp2_with fail
      refine (HP.out _ _ _ _ _ hO2).mono ?_
      rintro e w3 ⟨a3, n3, c3, rfl, hO3, hB3⟩
      go_wp2_with fail
      have hB23 : Below wr.heap.size wr w3 := hB2.next hB3
      refine (nmulR (hR.below hB23) (hO3.rdN hsT.out) (by omega) (by omega)).mono ?_
      rintro e w4 ⟨a4, n4, c4, rfl, hO4, hB4⟩
      have hsz3 := hB23.size
      go_wp2
      go_roundw
      case rel =>
        refine ⟨j - K, n4, c4, a4, by omega, ?_, rfl, ?_, (hB.next hB23).next hB4⟩
        · rw [hK]; go_num
        · rw [← HF.out (p * T) (by rw [hT'.out, Nat.mul_comm]) (by omega)]
          exact hO4.mono (by omega)
      case measure => simp [intOf]; omega
    · have hle : j ≤ K := by omega
      have hL := HL.out hle
      rw [hK] at hle
      go_wp2_with fail
      refine (of_any 10 (by omega) (by omega)).mono ?_
      rintro e w2 ⟨a2, n2, c2, rfl, hO2, hB2⟩
      go_wp2_with fail
      refine (dpow hO2 j hle).mono ?_
      rintro e w3 ⟨a3, n3, c3, rfl, hO3, hB3⟩
      have hR3 := hO3.rdN (szTen j)
      have hB23 : Below wr.heap.size wr w3 := hB2.next hB3
      have hsz3 := hB23.size
      generalize 10 ^ j = q at *
      go_wp2_with fail
      refine (nmulR (hR.below hB23) hR3 (by omega) (by omega)).mono ?_
      rw [hL]
      rintro e w4 ⟨a4, n4, c4, rfl, hO4, hB4⟩
      go_wp2
      go_ret
      exact ⟨a4, n4, c4, rfl, hO4.mono (by omega), (hB.next hB23).next hB4⟩

/-- a divisor taken out: the answer can be read -/
def RetOut (k : Nat) (w : World) (p M v : Nat) (e : Ending) (w' : World) : Prop :=
  ∃ a n c, e = .returned (.tuple #[.slice a n c, .int .i64 ((outN p M v).2 : Nat)]) ∧ RdN k w' a n c (outN p M v).1 ∧ Below w.heap.size w w'
set_option maxRecDepth 100000 in
set_option maxHeartbeats 2000000 in
theorem dout {w : World} {a b : Option Addr} {n c m d v p M k : Nat} (ha : RdN k w a n c v) (hk : k ≤ 4194304) (hb : RdN 1 w b m d p) (hp : p ≠ 0) (hM : M ≤ 1000000) :
    Calls Try.prog 126 #[.slice a n c, .slice b m d, .int .i64 M] w (RetOut k w p (M + 1) v) := by
  unfold RetOut
  obtain ⟨O, hO⟩ : ∃ O, outN p (M + 1) v = O := ⟨_, rfl⟩
  have hO' := hid hO
  rw [hO]
  clear hO
  go_enter Try.func126, Try.ntmps126
  go_wp2
  go_loopw [0, 8] (fun av iv wr => ∃ (i x n c : Nat) (a : Option Addr), i ≤ M + 1 ∧ iv = .int .i64 i ∧ av = .slice a n c ∧ RdN k wr a n c x ∧ Hid (O = ((outN p (M + 1 - i) x).1, (outN p (M + 1 - i) x).2 + i)) ∧ Below w.heap.size w wr) (fun _ iv _ => M + 1 - (intOf iv).toNat)
  case atStart => exact ⟨0, v, n, c, a, by omega, rfl, rfl, ha, by rw [← hO'.out]; rfl, Below.refl _ _⟩
  case round =>
    obtain ⟨i, x, n, c, a, hi, rfl, rfl, hA, hV, hB⟩ := hrel
    have hs := hB.size
    by_cases hlt : i ≤ M
    · have HS : Hid (x % p = 0 → O = ((outN p (M + 1 - (i + 1)) (x / p)).1, (outN p (M + 1 - (i + 1)) (x / p)).2 + (i + 1))) := fun h => by
        rw [hV.out, show M + 1 - i = (M + 1 - (i + 1)) + 1 by omega, outN_step _ h]
        simp only [Prod.mk.injEq, true_and]
        omega
      have HE : Hid (x % p ≠ 0 → O = (x, i)) := fun h => by
        rw [hV.out, outN_stop _ h]; simp
      have hsz := hid hA.sz
      clear hV
      go_wp2_with fail
      refine (ndivR hA (hb.below hB) (by omega) (by omega) hp).mono ?_
      rintro e w2 ⟨qa, qn, qc, ra, rn, rc, rfl, hOq, hOr, hD, hB2⟩
      have hl := hOr.len
      by_cases hz : x % p = 0
      · have h0 : rn = 0 := by rw [← hl, hz]; rfl
        subst h0
        have hRq : RdN k w2 qa qn qc (x / p) := hOq.rdN (hsz.out.mono (Nat.div_le_self _ _) (Nat.le_refl _))
        have hS := hid (HS.out hz)
        clear hz hl hOq hOr HS HE hA
        generalize x / p = y at *
        go_wp2
        go_roundw
        case rel => exact ⟨i + 1, y, qn, qc, qa, by omega, by go_num, rfl, hRq, hS, hB.next hB2⟩
        case measure => simp [intOf]; omega
      · have h0 : 0 < rn := by
          rw [← hl]
          exact List.length_pos_iff.2 fun e => hz (lm_eq_nil.1 e)
        have hbr := hOr.bnd
        have hA2 := hA.below hB2
        have hE := HE.out hz
        subst hE
        clear hz hl hOq hOr HS HE hA
        go_wp2
        go_ret2
        exact ⟨a, n, c, rfl, hA2, hB.next hB2⟩
    · obtain rfl : i = M + 1 := by omega
      have hE : O = (x, M + 1) := by rw [hV.out, Nat.sub_self]; simp [outN]
      subst hE
      clear hV
      go_wp2
      go_ret2
      exact ⟨a, n, c, rfl, hA, hB⟩
end Go.Proofs.Ytnpkmlpmeeidbaa
/- WALKS OF DECIMALS, 2: what a text begins with; the exponent. -/
namespace Go.Proofs.Ytnpkmlpmeeidbaa
set_option linter.unusedVariables false
set_option linter.unusedSimpArgs false
open Go.ChangeShapes Go.WideShapes Go.ChangeAt Go.RowKit Go.NatP

theorem be_append (s t : ByteArray) : by' (s ++ t) = by' s ++ by' t := by
  unfold by'
  rw [ByteArray.data_append, Array.toList_append, List.map_append]
theorem be_drop (s : ByteArray) (k : Nat) : by' (s.extract k s.size) = (by' s).drop k := by
  unfold by'
  rw [ByteArray.data_extract, Array.toList_extract, List.extract_eq_take_drop, ← List.map_drop]
  rw [List.take_of_length_le (by simp)]
theorem be_mid (s : ByteArray) (j k : Nat) : by' (s.extract j k) = ((by' s).drop j).take (k - j) := by
  unfold by'
  rw [ByteArray.data_extract, Array.toList_extract, List.extract_eq_take_drop, ← List.map_drop, ← List.map_take]
theorem be_take (s : ByteArray) (k : Nat) : by' (s.extract 0 k) = (by' s).take k := by
  rw [be_mid, List.drop_zero, Nat.sub_zero]
theorem be_nil {s : ByteArray} (h : s.size = 0) : s = ⟨#[]⟩ := by
  cases s with
  | mk d => simp [ByteArray.size] at h; rw [h]
theorem be_ne {s : ByteArray} (h : s.size ≠ 0) : s.toList.isEmpty = false := by
  rw [ByteArray.toList_eq]
  cases hl : s.data.toList with
  | nil => exact absurd (by have h1 := congrArg List.length hl; rw [Array.length_toList] at h1; exact h1) h
  | cons _ _ => rfl
theorem be_cons {s : ByteArray} (h : 0 < s.size) : by' s = (s[0]).toNat :: by' (s.extract 1 s.size) := by
  rw [be_drop]
  have h1 := by_get s 0 h
  cases hl : by' s with
  | nil => have := by_len s; rw [hl] at this; simp at this; omega
  | cons x l => rw [hl] at h1; simp at h1; rw [← h1]; rfl
/-- does a text begin with a byte? -/
def pfB (b : Nat) (s : ByteArray) : Bool := decide (0 < s.size ∧ (by' s).getD 0 0 = b)
theorem pfB_cons {b : Nat} {s : ByteArray} (h : 0 < s.size) : pfB b s = decide ((s[0]).toNat = b) := by
  unfold pfB
  rw [by_get s 0 h]
  simp [h]
theorem stroke43 (s : ByteArray) (h : 0 < s.size) : ((s.extract 0 1).toList == [43]) = pfB 43 s := by
  have e : ((s.extract 0 1).toList = [43]) ↔ (s.extract 0 1 = ⟨#[43]⟩) := by
    rw [ByteArray.toList_eq]
    constructor
    · intro h; exact ByteArray.ext (Array.ext' h)
    · intro h; rw [h]
  have e2 : (s.extract 0 1 = ⟨#[43]⟩) ↔ (by' s).getD 0 0 = 43 := by
    constructor
    · intro e
      have := by_take1 s h
      rw [e] at this
      have h2 : by' (⟨#[43]⟩ : ByteArray) = [43] := rfl
      rw [h2] at this
      simpa using this.symm
    · intro e
      refine by_inj ?_
      rw [by_take1 s h, e]; rfl
  rw [Bool.eq_iff_iff, beq_iff_eq, e, e2, pfB, decide_eq_true_iff]
  exact ⟨fun h2 => ⟨h, h2⟩, fun h2 => h2.2⟩
set_option maxRecDepth 100000 in
set_option maxHeartbeats 1000000 in
theorem lpre43 {w : World} (s : ByteArray) (hs : s.size ≤ 16777216) : Calls Try.prog 157 #[.string s, .string ⟨#[43]⟩] w (RetS2 w (pfB 43 s)) := by
  by_cases h0 : 0 < s.size
  · have hb := hid (stroke43 s h0)
    go_enter Try.func157, Try.ntmps157
    go_wp2
    go_ret
    exact ⟨by rw [← hb.out]; rfl, rfl⟩
  · have hb : Hid (pfB 43 s = false) := decide_eq_false fun h => h0 h.1
    have h1 : ¬ 1 ≤ (s.size : Int) := by omega
    go_enter Try.func157, Try.ntmps157
    go_wp2
    go_ret
    exact ⟨by rw [hb.out]; rfl, rfl⟩
set_option maxRecDepth 100000 in
set_option maxHeartbeats 1000000 in
theorem pre43 {w : World} (s : ByteArray) (hs : s.size ≤ 16777216) : Calls Try.prog 98 #[.string s, .string ⟨#[43]⟩] w (RetS2 w (pfB 43 s)) := by
  have hH := hid (fun w => lpre43 (w := w) s hs)
  generalize pfB 43 s = b at *
  go_enter Try.func98, Try.ntmps98
  go_wp2_with fail
  refine (hH.out _).mono ?_
  rintro e w' ⟨rfl, rfl⟩
  go_wp2
  go_ret
  exact ⟨rfl, rfl⟩

theorem stroke45 (s : ByteArray) (h : 0 < s.size) : ((s.extract 0 1).toList == [45]) = pfB 45 s := by
  have e : ((s.extract 0 1).toList = [45]) ↔ (s.extract 0 1 = ⟨#[45]⟩) := by
    rw [ByteArray.toList_eq]
    constructor
    · intro h; exact ByteArray.ext (Array.ext' h)
    · intro h; rw [h]
  have e2 : (s.extract 0 1 = ⟨#[45]⟩) ↔ (by' s).getD 0 0 = 45 := by
    constructor
    · intro e
      have := by_take1 s h
      rw [e] at this
      have h2 : by' (⟨#[45]⟩ : ByteArray) = [45] := rfl
      rw [h2] at this
      simpa using this.symm
    · intro e
      refine by_inj ?_
      rw [by_take1 s h, e]; rfl
  rw [Bool.eq_iff_iff, beq_iff_eq, e, e2, pfB, decide_eq_true_iff]
  exact ⟨fun h2 => ⟨h, h2⟩, fun h2 => h2.2⟩
set_option maxRecDepth 100000 in
set_option maxHeartbeats 1000000 in
theorem lpre45 {w : World} (s : ByteArray) (hs : s.size ≤ 16777216) : Calls Try.prog 157 #[.string s, .string ⟨#[45]⟩] w (RetS2 w (pfB 45 s)) := by
  by_cases h0 : 0 < s.size
  · have hb := hid (stroke45 s h0)
    go_enter Try.func157, Try.ntmps157
    go_wp2
    go_ret
    exact ⟨by rw [← hb.out]; rfl, rfl⟩
  · have hb : Hid (pfB 45 s = false) := decide_eq_false fun h => h0 h.1
    have h1 : ¬ 1 ≤ (s.size : Int) := by omega
    go_enter Try.func157, Try.ntmps157
    go_wp2
    go_ret
    exact ⟨by rw [hb.out]; rfl, rfl⟩
set_option maxRecDepth 100000 in
set_option maxHeartbeats 1000000 in
theorem pre45 {w : World} (s : ByteArray) (hs : s.size ≤ 16777216) : Calls Try.prog 98 #[.string s, .string ⟨#[45]⟩] w (RetS2 w (pfB 45 s)) := by
  have hH := hid (fun w => lpre45 (w := w) s hs)
  generalize pfB 45 s = b at *
  go_enter Try.func98, Try.ntmps98
  go_wp2_with fail
  refine (hH.out _).mono ?_
  rintro e w' ⟨rfl, rfl⟩
  go_wp2
  go_ret
  exact ⟨rfl, rfl⟩

theorem stroke46 (s : ByteArray) (h : 0 < s.size) : ((s.extract 0 1).toList == [46]) = pfB 46 s := by
  have e : ((s.extract 0 1).toList = [46]) ↔ (s.extract 0 1 = ⟨#[46]⟩) := by
    rw [ByteArray.toList_eq]
    constructor
    · intro h; exact ByteArray.ext (Array.ext' h)
    · intro h; rw [h]
  have e2 : (s.extract 0 1 = ⟨#[46]⟩) ↔ (by' s).getD 0 0 = 46 := by
    constructor
    · intro e
      have := by_take1 s h
      rw [e] at this
      have h2 : by' (⟨#[46]⟩ : ByteArray) = [46] := rfl
      rw [h2] at this
      simpa using this.symm
    · intro e
      refine by_inj ?_
      rw [by_take1 s h, e]; rfl
  rw [Bool.eq_iff_iff, beq_iff_eq, e, e2, pfB, decide_eq_true_iff]
  exact ⟨fun h2 => ⟨h, h2⟩, fun h2 => h2.2⟩
set_option maxRecDepth 100000 in
set_option maxHeartbeats 1000000 in
theorem lpre46 {w : World} (s : ByteArray) (hs : s.size ≤ 16777216) : Calls Try.prog 157 #[.string s, .string ⟨#[46]⟩] w (RetS2 w (pfB 46 s)) := by
  by_cases h0 : 0 < s.size
  · have hb := hid (stroke46 s h0)
    go_enter Try.func157, Try.ntmps157
    go_wp2
    go_ret
    exact ⟨by rw [← hb.out]; rfl, rfl⟩
  · have hb : Hid (pfB 46 s = false) := decide_eq_false fun h => h0 h.1
    have h1 : ¬ 1 ≤ (s.size : Int) := by omega
    go_enter Try.func157, Try.ntmps157
    go_wp2
    go_ret
    exact ⟨by rw [hb.out]; rfl, rfl⟩
set_option maxRecDepth 100000 in
set_option maxHeartbeats 1000000 in
theorem pre46 {w : World} (s : ByteArray) (hs : s.size ≤ 16777216) : Calls Try.prog 98 #[.string s, .string ⟨#[46]⟩] w (RetS2 w (pfB 46 s)) := by
  have hH := hid (fun w => lpre46 (w := w) s hs)
  generalize pfB 46 s = b at *
  go_enter Try.func98, Try.ntmps98
  go_wp2_with fail
  refine (hH.out _).mono ?_
  rintro e w' ⟨rfl, rfl⟩
  go_wp2
  go_ret
  exact ⟨rfl, rfl⟩

/-! ### the exponent -/
theorem exS_n {c : Nat} {t : List Nat} (h : c = 45) : exS (c :: t) = (true, t) := if_pos h
theorem exS_p {c : Nat} {t : List Nat} (h : ¬ c = 45) (h' : c = 43) : exS (c :: t) = (false, t) := (if_neg h).trans (if_pos h')
theorem exS_z {c : Nat} {t : List Nat} (h : ¬ c = 45) (h' : ¬ c = 43) : exS (c :: t) = (false, c :: t) := (if_neg h).trans (if_neg h')
def exI (l : List Nat) : Int := (exP l).getD 0
def exB (l : List Nat) : Bool := (exP l).isSome
theorem numD_uv {v : Nat} (h : v < two64) : uv v = v := if_pos h
theorem dgw_by {s : ByteArray} : dgw (by' s) ≤ s.size := by have := dgw_le (by' s); rwa [by_len] at this
theorem okD_iff (s : ByteArray) : okD (by' s) = true ↔ dgw (by' s) = s.size := by rw [← by_len s]; exact dgw_all.symm
theorem pa_ok {s : ByteArray} (h : okD (by' s) = true) (h0 : s.size ≠ 0) : paN (by' s) = numD (by' s) ∧ paE (by' s) = 0 := by
  have hn : by' s ≠ [] := fun e => by have := by_len s; rw [e] at this; simp at this; omega
  unfold paN paE
  rw [if_pos ⟨hn, h⟩, if_pos ⟨hn, h⟩]
  exact ⟨rfl, rfl⟩

set_option maxRecDepth 100000 in
set_option maxHeartbeats 2000000 in
theorem dexp_n {w : World} (s : ByteArray) (hs : s.size ≤ 16777216) (h0 : 0 < s.size) (hc : s[0].toNat = 101 ∨ s[0].toNat = 69) (hd : pfB 45 (s.extract 1 s.size) = true) :
    Calls Try.prog 99 #[.string s] w (fun e w' => e = .returned (.tuple #[.int .i64 (exI (by' s)), .bool (exB (by' s))]) ∧ Below w.heap.size w w') := by
  obtain ⟨T, hT⟩ : ∃ T, s.extract 1 s.size = T := ⟨_, rfl⟩
  rw [hT] at hd
  have hTs : T.size + 1 = s.size := by rw [← hT, ByteArray.size_extract]; omega
  have hby : by' s = s[0].toNat :: by' T := by rw [← hT]; exact be_cons h0
  have hex0 : exP (by' s) = exT (by' T) := by rw [hby]; exact exP_e _ hc
  have hz : 0 < T.size := (of_decide_eq_true hd).1
  have hz1 : 1 ≤ T.size := hz
  obtain ⟨U, hUe⟩ : ∃ U, T.extract 1 T.size = U := ⟨_, rfl⟩
  have hUs : U.size ≤ 16777216 := by rw [← hUe, ByteArray.size_extract]; omega
  have hU : (exS (by' T)) = (true, by' U) := by
    have e1 := be_cons hz
    rw [pfB_cons hz] at hd
    have d1 := of_decide_eq_true hd
    rw [e1, hUe]; exact exS_n d1
  have hX : exP (by' s) = if by' U ≠ [] ∧ okD (by' U) = true ∧ numD (by' U) ≤ 1000 then some (exV true (numD (by' U))) else none := by
    rw [hex0]; unfold exT; rw [hU]
  clear hU hex0 hby
  have HD := hid (fun w => pre45 (w := w) T (by omega))
  rw [hd] at HD
  have HR := hid (fun w => run_any (w := w) U hUs)
  have hrl := dgw_by (s := U)
  have hok := okD_iff U
  by_cases hA : U.size = 0
  · have hX' : exP (by' s) = none := by rw [hX, if_neg]; intro h; exact h.1 (by have := by_len U; rw [hA] at this; exact List.length_eq_zero_iff.1 this)
    have hx1 : exI (by' s) = 0 := by unfold exI; rw [hX']; rfl
    have hx2 : exB (by' s) = false := by unfold exB; rw [hX']; rfl
    rw [hx1, hx2]
    clear hX hX' hx1 hx2 hok
    have hUe0 := be_nil hA
    clear HR hrl
    have hne := be_ne (s := s) (by omega)
    obtain ⟨c0, hc0⟩ : ∃ c0, s[0].toNat = c0 := ⟨_, rfl⟩
    rw [hc0] at hc
    clear hs
    rcases hc with rfl | rfl
    all_goals
      go_enter Try.func99, Try.ntmps99
      go_wp2_with fail
      try simp only [hT]
      refine (HD.out _).mono ?_
      rintro e w1 ⟨rfl, rfl⟩
      go_wp2_with fail
      try simp only [hUe]
      try simp only [hUe0]
      go_wp2
      go_ret2
      exact ⟨rfl, Below.refl _ _⟩
  have hne2 := be_ne (s := U) hA
  by_cases hB : dgw (by' U) = U.size
  · have hok2 := (okD_iff U).2 hB
    have hpa := pa_ok hok2 hA
    have hsz := paN_sz U (K := 16777216) hUs
    rw [hpa.1] at hsz
    have HPa := hid (fun w => parse_any (w := w) U hUs)
    rw [hpa.1, hpa.2] at HPa
    rw [hB] at HR
    have hnn : by' U ≠ [] := fun e => by have := by_len U; rw [e] at this; simp at this; omega
    obtain ⟨v, hv⟩ : ∃ v, numD (by' U) = v := ⟨_, rfl⟩
    rw [hv] at hX HPa hsz
    clear hv hpa hB hrl
    by_cases hbig : v < two64
    · by_cases hle : v ≤ 1000
      · have hX' : exP (by' s) = some (exV true v) := by rw [hX, if_pos ⟨hnn, hok2, hle⟩]
        have hx1 : exI (by' s) = exV true v := by unfold exI; rw [hX']; rfl
        have hx2 : exB (by' s) = true := by unfold exB; rw [hX']; rfl
        rw [hx1, hx2]
        clear hX hX' hx1 hx2 hok
        have huv := numD_uv hbig
        have hdc : decide (v < two64) = true := decide_eq_true hbig
        have hV : Hid (exV true v = -(v : Int)) := by show _ = _; rfl
        rw [hV.out]
        clear hbig hnn hok2 hsz
        have hne := be_ne (s := s) (by omega)
        obtain ⟨c0, hc0⟩ : ∃ c0, s[0].toNat = c0 := ⟨_, rfl⟩
        rw [hc0] at hc
        clear hs
        rcases hc with rfl | rfl
        all_goals
          go_enter Try.func99, Try.ntmps99
          go_wp2_with fail
          try simp only [hT]
          refine (HD.out _).mono ?_
          rintro e w1 ⟨rfl, rfl⟩
          go_wp2_with fail
          try simp only [hUe]
          refine (HR.out _).mono ?_
          rintro e w2 ⟨rfl, hB2⟩
          go_wp2_with fail
          refine (HPa.out _).mono ?_
          rintro e w3 ⟨a3, n3, c3, rfl, hO3, hB3⟩
          go_wp2_with fail
          refine (uint_any hO3.rd).mono ?_
          rw [val_lm]
          rintro e w4 ⟨rfl, hB4⟩
          rw [huv, hdc]
          go_wp2
          go_ret2
          exact ⟨rfl, (hB2.next hB3).next hB4⟩
      · have hX' : exP (by' s) = none := by rw [hX, if_neg]; intro h; exact hle h.2.2
        have hx1 : exI (by' s) = 0 := by unfold exI; rw [hX']; rfl
        have hx2 : exB (by' s) = false := by unfold exB; rw [hX']; rfl
        rw [hx1, hx2]
        clear hX hX' hx1 hx2 hok
        have huv := numD_uv hbig
        have hdc : decide (v < two64) = true := decide_eq_true hbig
        have hgt : 1000 < v := by omega
        clear hbig hnn hok2 hsz hle
        have hne := be_ne (s := s) (by omega)
        obtain ⟨c0, hc0⟩ : ∃ c0, s[0].toNat = c0 := ⟨_, rfl⟩
        rw [hc0] at hc
        clear hs
        rcases hc with rfl | rfl
        all_goals
          go_enter Try.func99, Try.ntmps99
          go_wp2_with fail
          try simp only [hT]
          refine (HD.out _).mono ?_
          rintro e w1 ⟨rfl, rfl⟩
          go_wp2_with fail
          try simp only [hUe]
          refine (HR.out _).mono ?_
          rintro e w2 ⟨rfl, hB2⟩
          go_wp2_with fail
          refine (HPa.out _).mono ?_
          rintro e w3 ⟨a3, n3, c3, rfl, hO3, hB3⟩
          go_wp2_with fail
          refine (uint_any hO3.rd).mono ?_
          rw [val_lm]
          rintro e w4 ⟨rfl, hB4⟩
          rw [huv, hdc]
          go_wp2
          go_ret2
          exact ⟨rfl, (hB2.next hB3).next hB4⟩
    · have hX' : exP (by' s) = none := by rw [hX, if_neg]; intro h; exact hbig (Nat.lt_of_le_of_lt h.2.2 (by decide))
      have hx1 : exI (by' s) = 0 := by unfold exI; rw [hX']; rfl
      have hx2 : exB (by' s) = false := by unfold exB; rw [hX']; rfl
      rw [hx1, hx2]
      clear hX hX' hx1 hx2 hok
      have hdc : decide (v < two64) = false := decide_eq_false hbig
      obtain ⟨uu, huv⟩ : ∃ uu, uv v = uu := ⟨_, rfl⟩
      clear hbig hnn hok2 hsz
      have hne := be_ne (s := s) (by omega)
      obtain ⟨c0, hc0⟩ : ∃ c0, s[0].toNat = c0 := ⟨_, rfl⟩
      rw [hc0] at hc
      clear hs
      rcases hc with rfl | rfl
      all_goals
        go_enter Try.func99, Try.ntmps99
        go_wp2_with fail
        try simp only [hT]
        refine (HD.out _).mono ?_
        rintro e w1 ⟨rfl, rfl⟩
        go_wp2_with fail
        try simp only [hUe]
        refine (HR.out _).mono ?_
        rintro e w2 ⟨rfl, hB2⟩
        go_wp2_with fail
        refine (HPa.out _).mono ?_
        rintro e w3 ⟨a3, n3, c3, rfl, hO3, hB3⟩
        go_wp2_with fail
        refine (uint_any hO3.rd).mono ?_
        rw [val_lm]
        rintro e w4 ⟨rfl, hB4⟩
        rw [huv, hdc]
        go_wp2
        go_ret2
        exact ⟨rfl, (hB2.next hB3).next hB4⟩
  · have hX' : exP (by' s) = none := by rw [hX, if_neg]; intro h; exact hB (hok.1 h.2.1)
    have hx1 : exI (by' s) = 0 := by unfold exI; rw [hX']; rfl
    have hx2 : exB (by' s) = false := by unfold exB; rw [hX']; rfl
    rw [hx1, hx2]
    clear hX hX' hx1 hx2 hok
    obtain ⟨r, hr⟩ : ∃ r, dgw (by' U) = r := ⟨_, rfl⟩
    rw [hr] at HR hrl hB
    have hrI : ((r : Int) != (U.size : Int)) = true := by simp; omega
    have hne := be_ne (s := s) (by omega)
    obtain ⟨c0, hc0⟩ : ∃ c0, s[0].toNat = c0 := ⟨_, rfl⟩
    rw [hc0] at hc
    clear hs
    rcases hc with rfl | rfl
    all_goals
      go_enter Try.func99, Try.ntmps99
      go_wp2_with fail
      try simp only [hT]
      refine (HD.out _).mono ?_
      rintro e w1 ⟨rfl, rfl⟩
      go_wp2_with fail
      try simp only [hUe]
      refine (HR.out _).mono ?_
      rintro e w2 ⟨rfl, hB2⟩
      go_wp2
      go_ret2
      exact ⟨rfl, hB2⟩

set_option maxRecDepth 100000 in
set_option maxHeartbeats 2000000 in
theorem dexp_p {w : World} (s : ByteArray) (hs : s.size ≤ 16777216) (h0 : 0 < s.size) (hc : s[0].toNat = 101 ∨ s[0].toNat = 69) (hd : pfB 45 (s.extract 1 s.size) = false) (hp : pfB 43 (s.extract 1 s.size) = true) :
    Calls Try.prog 99 #[.string s] w (fun e w' => e = .returned (.tuple #[.int .i64 (exI (by' s)), .bool (exB (by' s))]) ∧ Below w.heap.size w w') := by
  obtain ⟨T, hT⟩ : ∃ T, s.extract 1 s.size = T := ⟨_, rfl⟩
  rw [hT] at hd hp
  have hTs : T.size + 1 = s.size := by rw [← hT, ByteArray.size_extract]; omega
  have hby : by' s = s[0].toNat :: by' T := by rw [← hT]; exact be_cons h0
  have hex0 : exP (by' s) = exT (by' T) := by rw [hby]; exact exP_e _ hc
  have hz : 0 < T.size := (of_decide_eq_true hp).1
  have hz1 : 1 ≤ T.size := hz
  obtain ⟨U, hUe⟩ : ∃ U, T.extract 1 T.size = U := ⟨_, rfl⟩
  have hUs : U.size ≤ 16777216 := by rw [← hUe, ByteArray.size_extract]; omega
  have hU : (exS (by' T)) = (false, by' U) := by
    have e1 := be_cons hz
    rw [pfB_cons hz] at hd hp
    have d1 := of_decide_eq_false hd
    have d2 := of_decide_eq_true hp
    rw [e1, hUe]; exact exS_p d1 d2
  have hX : exP (by' s) = if by' U ≠ [] ∧ okD (by' U) = true ∧ numD (by' U) ≤ 1000 then some (exV false (numD (by' U))) else none := by
    rw [hex0]; unfold exT; rw [hU]
  clear hU hex0 hby
  have HD := hid (fun w => pre45 (w := w) T (by omega))
  rw [hd] at HD
  have HP := hid (fun w => pre43 (w := w) T (by omega))
  rw [hp] at HP
  have HR := hid (fun w => run_any (w := w) U hUs)
  have hrl := dgw_by (s := U)
  have hok := okD_iff U
  by_cases hA : U.size = 0
  · have hX' : exP (by' s) = none := by rw [hX, if_neg]; intro h; exact h.1 (by have := by_len U; rw [hA] at this; exact List.length_eq_zero_iff.1 this)
    have hx1 : exI (by' s) = 0 := by unfold exI; rw [hX']; rfl
    have hx2 : exB (by' s) = false := by unfold exB; rw [hX']; rfl
    rw [hx1, hx2]
    clear hX hX' hx1 hx2 hok
    have hUe0 := be_nil hA
    clear HR hrl
    have hne := be_ne (s := s) (by omega)
    obtain ⟨c0, hc0⟩ : ∃ c0, s[0].toNat = c0 := ⟨_, rfl⟩
    rw [hc0] at hc
    clear hs
    rcases hc with rfl | rfl
    all_goals
      go_enter Try.func99, Try.ntmps99
      go_wp2_with fail
      try simp only [hT]
      refine (HD.out _).mono ?_
      rintro e w1 ⟨rfl, rfl⟩
      go_wp2_with fail
      refine (HP.out _).mono ?_
      rintro e w1 ⟨rfl, rfl⟩
      go_wp2_with fail
      try simp only [hUe]
      try simp only [hUe0]
      go_wp2
      go_ret2
      exact ⟨rfl, Below.refl _ _⟩
  have hne2 := be_ne (s := U) hA
  by_cases hB : dgw (by' U) = U.size
  · have hok2 := (okD_iff U).2 hB
    have hpa := pa_ok hok2 hA
    have hsz := paN_sz U (K := 16777216) hUs
    rw [hpa.1] at hsz
    have HPa := hid (fun w => parse_any (w := w) U hUs)
    rw [hpa.1, hpa.2] at HPa
    rw [hB] at HR
    have hnn : by' U ≠ [] := fun e => by have := by_len U; rw [e] at this; simp at this; omega
    obtain ⟨v, hv⟩ : ∃ v, numD (by' U) = v := ⟨_, rfl⟩
    rw [hv] at hX HPa hsz
    clear hv hpa hB hrl
    by_cases hbig : v < two64
    · by_cases hle : v ≤ 1000
      · have hX' : exP (by' s) = some (exV false v) := by rw [hX, if_pos ⟨hnn, hok2, hle⟩]
        have hx1 : exI (by' s) = exV false v := by unfold exI; rw [hX']; rfl
        have hx2 : exB (by' s) = true := by unfold exB; rw [hX']; rfl
        rw [hx1, hx2]
        clear hX hX' hx1 hx2 hok
        have huv := numD_uv hbig
        have hdc : decide (v < two64) = true := decide_eq_true hbig
        have hV : Hid (exV false v = (v : Int)) := by show _ = _; rfl
        rw [hV.out]
        clear hbig hnn hok2 hsz
        have hne := be_ne (s := s) (by omega)
        obtain ⟨c0, hc0⟩ : ∃ c0, s[0].toNat = c0 := ⟨_, rfl⟩
        rw [hc0] at hc
        clear hs
        rcases hc with rfl | rfl
        all_goals
          go_enter Try.func99, Try.ntmps99
          go_wp2_with fail
          try simp only [hT]
          refine (HD.out _).mono ?_
          rintro e w1 ⟨rfl, rfl⟩
          go_wp2_with fail
          refine (HP.out _).mono ?_
          rintro e w1 ⟨rfl, rfl⟩
          go_wp2_with fail
          try simp only [hUe]
          refine (HR.out _).mono ?_
          rintro e w2 ⟨rfl, hB2⟩
          go_wp2_with fail
          refine (HPa.out _).mono ?_
          rintro e w3 ⟨a3, n3, c3, rfl, hO3, hB3⟩
          go_wp2_with fail
          refine (uint_any hO3.rd).mono ?_
          rw [val_lm]
          rintro e w4 ⟨rfl, hB4⟩
          rw [huv, hdc]
          go_wp2
          go_ret2
          exact ⟨rfl, (hB2.next hB3).next hB4⟩
      · have hX' : exP (by' s) = none := by rw [hX, if_neg]; intro h; exact hle h.2.2
        have hx1 : exI (by' s) = 0 := by unfold exI; rw [hX']; rfl
        have hx2 : exB (by' s) = false := by unfold exB; rw [hX']; rfl
        rw [hx1, hx2]
        clear hX hX' hx1 hx2 hok
        have huv := numD_uv hbig
        have hdc : decide (v < two64) = true := decide_eq_true hbig
        have hgt : 1000 < v := by omega
        clear hbig hnn hok2 hsz hle
        have hne := be_ne (s := s) (by omega)
        obtain ⟨c0, hc0⟩ : ∃ c0, s[0].toNat = c0 := ⟨_, rfl⟩
        rw [hc0] at hc
        clear hs
        rcases hc with rfl | rfl
        all_goals
          go_enter Try.func99, Try.ntmps99
          go_wp2_with fail
          try simp only [hT]
          refine (HD.out _).mono ?_
          rintro e w1 ⟨rfl, rfl⟩
          go_wp2_with fail
          refine (HP.out _).mono ?_
          rintro e w1 ⟨rfl, rfl⟩
          go_wp2_with fail
          try simp only [hUe]
          refine (HR.out _).mono ?_
          rintro e w2 ⟨rfl, hB2⟩
          go_wp2_with fail
          refine (HPa.out _).mono ?_
          rintro e w3 ⟨a3, n3, c3, rfl, hO3, hB3⟩
          go_wp2_with fail
          refine (uint_any hO3.rd).mono ?_
          rw [val_lm]
          rintro e w4 ⟨rfl, hB4⟩
          rw [huv, hdc]
          go_wp2
          go_ret2
          exact ⟨rfl, (hB2.next hB3).next hB4⟩
    · have hX' : exP (by' s) = none := by rw [hX, if_neg]; intro h; exact hbig (Nat.lt_of_le_of_lt h.2.2 (by decide))
      have hx1 : exI (by' s) = 0 := by unfold exI; rw [hX']; rfl
      have hx2 : exB (by' s) = false := by unfold exB; rw [hX']; rfl
      rw [hx1, hx2]
      clear hX hX' hx1 hx2 hok
      have hdc : decide (v < two64) = false := decide_eq_false hbig
      obtain ⟨uu, huv⟩ : ∃ uu, uv v = uu := ⟨_, rfl⟩
      clear hbig hnn hok2 hsz
      have hne := be_ne (s := s) (by omega)
      obtain ⟨c0, hc0⟩ : ∃ c0, s[0].toNat = c0 := ⟨_, rfl⟩
      rw [hc0] at hc
      clear hs
      rcases hc with rfl | rfl
      all_goals
        go_enter Try.func99, Try.ntmps99
        go_wp2_with fail
        try simp only [hT]
        refine (HD.out _).mono ?_
        rintro e w1 ⟨rfl, rfl⟩
        go_wp2_with fail
        refine (HP.out _).mono ?_
        rintro e w1 ⟨rfl, rfl⟩
        go_wp2_with fail
        try simp only [hUe]
        refine (HR.out _).mono ?_
        rintro e w2 ⟨rfl, hB2⟩
        go_wp2_with fail
        refine (HPa.out _).mono ?_
        rintro e w3 ⟨a3, n3, c3, rfl, hO3, hB3⟩
        go_wp2_with fail
        refine (uint_any hO3.rd).mono ?_
        rw [val_lm]
        rintro e w4 ⟨rfl, hB4⟩
        rw [huv, hdc]
        go_wp2
        go_ret2
        exact ⟨rfl, (hB2.next hB3).next hB4⟩
  · have hX' : exP (by' s) = none := by rw [hX, if_neg]; intro h; exact hB (hok.1 h.2.1)
    have hx1 : exI (by' s) = 0 := by unfold exI; rw [hX']; rfl
    have hx2 : exB (by' s) = false := by unfold exB; rw [hX']; rfl
    rw [hx1, hx2]
    clear hX hX' hx1 hx2 hok
    obtain ⟨r, hr⟩ : ∃ r, dgw (by' U) = r := ⟨_, rfl⟩
    rw [hr] at HR hrl hB
    have hrI : ((r : Int) != (U.size : Int)) = true := by simp; omega
    have hne := be_ne (s := s) (by omega)
    obtain ⟨c0, hc0⟩ : ∃ c0, s[0].toNat = c0 := ⟨_, rfl⟩
    rw [hc0] at hc
    clear hs
    rcases hc with rfl | rfl
    all_goals
      go_enter Try.func99, Try.ntmps99
      go_wp2_with fail
      try simp only [hT]
      refine (HD.out _).mono ?_
      rintro e w1 ⟨rfl, rfl⟩
      go_wp2_with fail
      refine (HP.out _).mono ?_
      rintro e w1 ⟨rfl, rfl⟩
      go_wp2_with fail
      try simp only [hUe]
      refine (HR.out _).mono ?_
      rintro e w2 ⟨rfl, hB2⟩
      go_wp2
      go_ret2
      exact ⟨rfl, hB2⟩

set_option maxRecDepth 100000 in
set_option maxHeartbeats 2000000 in
theorem dexp_z {w : World} (s : ByteArray) (hs : s.size ≤ 16777216) (h0 : 0 < s.size) (hc : s[0].toNat = 101 ∨ s[0].toNat = 69) (hd : pfB 45 (s.extract 1 s.size) = false) (hp : pfB 43 (s.extract 1 s.size) = false) :
    Calls Try.prog 99 #[.string s] w (fun e w' => e = .returned (.tuple #[.int .i64 (exI (by' s)), .bool (exB (by' s))]) ∧ Below w.heap.size w w') := by
  obtain ⟨T, hT⟩ : ∃ T, s.extract 1 s.size = T := ⟨_, rfl⟩
  rw [hT] at hd hp
  have hTs : T.size + 1 = s.size := by rw [← hT, ByteArray.size_extract]; omega
  have hby : by' s = s[0].toNat :: by' T := by rw [← hT]; exact be_cons h0
  have hex0 : exP (by' s) = exT (by' T) := by rw [hby]; exact exP_e _ hc
  have hU : (exS (by' T)) = (false, by' T) := by
    by_cases hz : 0 < T.size
    · have e1 := be_cons hz
      rw [pfB_cons hz] at hd hp
      have d1 := of_decide_eq_false hd
      have d2 := of_decide_eq_false hp
      rw [e1]; exact exS_z d1 d2
    · rw [be_nil (s := T) (by omega)]; rfl
  have hUs : T.size ≤ 16777216 := by omega
  have hX : exP (by' s) = if by' T ≠ [] ∧ okD (by' T) = true ∧ numD (by' T) ≤ 1000 then some (exV false (numD (by' T))) else none := by
    rw [hex0]; unfold exT; rw [hU]
  clear hU hex0 hby
  have HD := hid (fun w => pre45 (w := w) T (by omega))
  rw [hd] at HD
  have HP := hid (fun w => pre43 (w := w) T (by omega))
  rw [hp] at HP
  have HR := hid (fun w => run_any (w := w) T hUs)
  have hrl := dgw_by (s := T)
  have hok := okD_iff T
  by_cases hA : T.size = 0
  · have hX' : exP (by' s) = none := by rw [hX, if_neg]; intro h; exact h.1 (by have := by_len T; rw [hA] at this; exact List.length_eq_zero_iff.1 this)
    have hx1 : exI (by' s) = 0 := by unfold exI; rw [hX']; rfl
    have hx2 : exB (by' s) = false := by unfold exB; rw [hX']; rfl
    rw [hx1, hx2]
    clear hX hX' hx1 hx2 hok
    have hUe0 := be_nil hA
    subst hUe0
    clear HR hrl
    have hne := be_ne (s := s) (by omega)
    obtain ⟨c0, hc0⟩ : ∃ c0, s[0].toNat = c0 := ⟨_, rfl⟩
    rw [hc0] at hc
    clear hs
    rcases hc with rfl | rfl
    all_goals
      go_enter Try.func99, Try.ntmps99
      go_wp2_with fail
      try simp only [hT]
      refine (HD.out _).mono ?_
      rintro e w1 ⟨rfl, rfl⟩
      go_wp2_with fail
      refine (HP.out _).mono ?_
      rintro e w1 ⟨rfl, rfl⟩
      go_wp2_with fail
      go_wp2
      go_ret2
      exact ⟨rfl, Below.refl _ _⟩
  have hne2 := be_ne (s := T) hA
  by_cases hB : dgw (by' T) = T.size
  · have hok2 := (okD_iff T).2 hB
    have hpa := pa_ok hok2 hA
    have hsz := paN_sz T (K := 16777216) hUs
    rw [hpa.1] at hsz
    have HPa := hid (fun w => parse_any (w := w) T hUs)
    rw [hpa.1, hpa.2] at HPa
    rw [hB] at HR
    have hnn : by' T ≠ [] := fun e => by have := by_len T; rw [e] at this; simp at this; omega
    obtain ⟨v, hv⟩ : ∃ v, numD (by' T) = v := ⟨_, rfl⟩
    rw [hv] at hX HPa hsz
    clear hv hpa hB hrl
    by_cases hbig : v < two64
    · by_cases hle : v ≤ 1000
      · have hX' : exP (by' s) = some (exV false v) := by rw [hX, if_pos ⟨hnn, hok2, hle⟩]
        have hx1 : exI (by' s) = exV false v := by unfold exI; rw [hX']; rfl
        have hx2 : exB (by' s) = true := by unfold exB; rw [hX']; rfl
        rw [hx1, hx2]
        clear hX hX' hx1 hx2 hok
        have huv := numD_uv hbig
        have hdc : decide (v < two64) = true := decide_eq_true hbig
        have hV : Hid (exV false v = (v : Int)) := by show _ = _; rfl
        rw [hV.out]
        clear hbig hnn hok2 hsz
        have hne := be_ne (s := s) (by omega)
        obtain ⟨c0, hc0⟩ : ∃ c0, s[0].toNat = c0 := ⟨_, rfl⟩
        rw [hc0] at hc
        clear hs
        rcases hc with rfl | rfl
        all_goals
          go_enter Try.func99, Try.ntmps99
          go_wp2_with fail
          try simp only [hT]
          refine (HD.out _).mono ?_
          rintro e w1 ⟨rfl, rfl⟩
          go_wp2_with fail
          refine (HP.out _).mono ?_
          rintro e w1 ⟨rfl, rfl⟩
          go_wp2_with fail
          refine (HR.out _).mono ?_
          rintro e w2 ⟨rfl, hB2⟩
          go_wp2_with fail
          refine (HPa.out _).mono ?_
          rintro e w3 ⟨a3, n3, c3, rfl, hO3, hB3⟩
          go_wp2_with fail
          refine (uint_any hO3.rd).mono ?_
          rw [val_lm]
          rintro e w4 ⟨rfl, hB4⟩
          rw [huv, hdc]
          go_wp2
          go_ret2
          exact ⟨rfl, (hB2.next hB3).next hB4⟩
      · have hX' : exP (by' s) = none := by rw [hX, if_neg]; intro h; exact hle h.2.2
        have hx1 : exI (by' s) = 0 := by unfold exI; rw [hX']; rfl
        have hx2 : exB (by' s) = false := by unfold exB; rw [hX']; rfl
        rw [hx1, hx2]
        clear hX hX' hx1 hx2 hok
        have huv := numD_uv hbig
        have hdc : decide (v < two64) = true := decide_eq_true hbig
        have hgt : 1000 < v := by omega
        clear hbig hnn hok2 hsz hle
        have hne := be_ne (s := s) (by omega)
        obtain ⟨c0, hc0⟩ : ∃ c0, s[0].toNat = c0 := ⟨_, rfl⟩
        rw [hc0] at hc
        clear hs
        rcases hc with rfl | rfl
        all_goals
          go_enter Try.func99, Try.ntmps99
          go_wp2_with fail
          try simp only [hT]
          refine (HD.out _).mono ?_
          rintro e w1 ⟨rfl, rfl⟩
          go_wp2_with fail
          refine (HP.out _).mono ?_
          rintro e w1 ⟨rfl, rfl⟩
          go_wp2_with fail
          refine (HR.out _).mono ?_
          rintro e w2 ⟨rfl, hB2⟩
          go_wp2_with fail
          refine (HPa.out _).mono ?_
          rintro e w3 ⟨a3, n3, c3, rfl, hO3, hB3⟩
          go_wp2_with fail
          refine (uint_any hO3.rd).mono ?_
          rw [val_lm]
          rintro e w4 ⟨rfl, hB4⟩
          rw [huv, hdc]
          go_wp2
          go_ret2
          exact ⟨rfl, (hB2.next hB3).next hB4⟩
    · have hX' : exP (by' s) = none := by rw [hX, if_neg]; intro h; exact hbig (Nat.lt_of_le_of_lt h.2.2 (by decide))
      have hx1 : exI (by' s) = 0 := by unfold exI; rw [hX']; rfl
      have hx2 : exB (by' s) = false := by unfold exB; rw [hX']; rfl
      rw [hx1, hx2]
      clear hX hX' hx1 hx2 hok
      have hdc : decide (v < two64) = false := decide_eq_false hbig
      obtain ⟨uu, huv⟩ : ∃ uu, uv v = uu := ⟨_, rfl⟩
      clear hbig hnn hok2 hsz
      have hne := be_ne (s := s) (by omega)
      obtain ⟨c0, hc0⟩ : ∃ c0, s[0].toNat = c0 := ⟨_, rfl⟩
      rw [hc0] at hc
      clear hs
      rcases hc with rfl | rfl
      all_goals
        go_enter Try.func99, Try.ntmps99
        go_wp2_with fail
        try simp only [hT]
        refine (HD.out _).mono ?_
        rintro e w1 ⟨rfl, rfl⟩
        go_wp2_with fail
        refine (HP.out _).mono ?_
        rintro e w1 ⟨rfl, rfl⟩
        go_wp2_with fail
        refine (HR.out _).mono ?_
        rintro e w2 ⟨rfl, hB2⟩
        go_wp2_with fail
        refine (HPa.out _).mono ?_
        rintro e w3 ⟨a3, n3, c3, rfl, hO3, hB3⟩
        go_wp2_with fail
        refine (uint_any hO3.rd).mono ?_
        rw [val_lm]
        rintro e w4 ⟨rfl, hB4⟩
        rw [huv, hdc]
        go_wp2
        go_ret2
        exact ⟨rfl, (hB2.next hB3).next hB4⟩
  · have hX' : exP (by' s) = none := by rw [hX, if_neg]; intro h; exact hB (hok.1 h.2.1)
    have hx1 : exI (by' s) = 0 := by unfold exI; rw [hX']; rfl
    have hx2 : exB (by' s) = false := by unfold exB; rw [hX']; rfl
    rw [hx1, hx2]
    clear hX hX' hx1 hx2 hok
    obtain ⟨r, hr⟩ : ∃ r, dgw (by' T) = r := ⟨_, rfl⟩
    rw [hr] at HR hrl hB
    have hrI : ((r : Int) != (T.size : Int)) = true := by simp; omega
    have hne := be_ne (s := s) (by omega)
    obtain ⟨c0, hc0⟩ : ∃ c0, s[0].toNat = c0 := ⟨_, rfl⟩
    rw [hc0] at hc
    clear hs
    rcases hc with rfl | rfl
    all_goals
      go_enter Try.func99, Try.ntmps99
      go_wp2_with fail
      try simp only [hT]
      refine (HD.out _).mono ?_
      rintro e w1 ⟨rfl, rfl⟩
      go_wp2_with fail
      refine (HP.out _).mono ?_
      rintro e w1 ⟨rfl, rfl⟩
      go_wp2_with fail
      refine (HR.out _).mono ?_
      rintro e w2 ⟨rfl, hB2⟩
      go_wp2
      go_ret2
      exact ⟨rfl, hB2⟩

set_option maxRecDepth 100000 in
set_option maxHeartbeats 2000000 in
theorem dexp {w : World} (s : ByteArray) (hs : s.size ≤ 16777216) :
    Calls Try.prog 99 #[.string s] w (fun e w' => e = .returned (.tuple #[.int .i64 (exI (by' s)), .bool (exB (by' s))]) ∧ Below w.heap.size w w') := by
  by_cases h0 : 0 < s.size
  · by_cases hc : s[0].toNat = 101 ∨ s[0].toNat = 69
    · cases hd : pfB 45 (s.extract 1 s.size)
      · cases hp : pfB 43 (s.extract 1 s.size)
        · exact dexp_z s hs h0 hc hd hp
        · exact dexp_p s hs h0 hc hd hp
      · exact dexp_n s hs h0 hc hd
    · have hX : exP (by' s) = none := by rw [be_cons h0]; exact exP_no _ hc
      have hx1 : exI (by' s) = 0 := by unfold exI; rw [hX]; rfl
      have hx2 : exB (by' s) = false := by unfold exB; rw [hX]; rfl
      rw [hx1, hx2]
      have hne := be_ne (s := s) (by omega)
      obtain ⟨c0, hc0⟩ : ∃ c0, s[0].toNat = c0 := ⟨_, rfl⟩
      rw [hc0] at hc
      have hc1 : c0 ≠ 101 := fun e => hc (.inl e)
      have hc2 : c0 ≠ 69 := fun e => hc (.inr e)
      have hd3 : ((c0 : Int) != 101) = true := by simp; omega
      have hd4 : ((c0 : Int) != 69) = true := by simp; omega
      clear hc hc1 hc2 hX hx1 hx2 hs
      go_enter Try.func99, Try.ntmps99
      go_wp2
      go_ret2
      exact ⟨rfl, Below.refl _ _⟩
  · have hx : exI (by' ⟨#[]⟩) = 0 ∧ exB (by' ⟨#[]⟩) = true := ⟨rfl, rfl⟩
    obtain rfl := be_nil (s := s) (by omega)
    rw [hx.1, hx.2]
    clear hx
    go_enter Try.func99, Try.ntmps99
    go_wp2
    go_ret2
    exact ⟨rfl, Below.refl _ _⟩
end Go.Proofs.Ytnpkmlpmeeidbaa
/- WALKS OF DECIMALS, 3: the document's helpers: a byte sought, digits, small numbers, powers of ten. -/
namespace Go.Proofs.Ytnpkmlpmeeidbaa
set_option linter.unusedVariables false
set_option linter.unusedSimpArgs false
open Go.ChangeShapes Go.WideShapes Go.ChangeAt Go.RowKit Go.NatP

end Go.Proofs.Ytnpkmlpmeeidbaa

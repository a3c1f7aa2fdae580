/- THE WALK OF credencelaw04.DecimalExact: any fraction; and 3 over powers of 2 and of 10. -/
import Derived.Test.YtbodlkfhmapngaaDi
import Derived.Test.YtbodlkfhmapngaaDj
namespace Go.Proofs.Ytbodlkfhmapngaa
set_option linter.unusedVariables false
set_option linter.unusedSimpArgs false
open Go.ChangeShapes Go.WideShapes Go.ChangeAt Go.RowKit Go.NatP

theorem val_shift (i : Nat) : Lim (List.replicate i 0 ++ [1]) := fun x hx => by
  rcases List.mem_append.1 hx with h | h
  · have := (List.mem_replicate.1 h).2; omega
  · have := List.mem_singleton.1 h; omega

set_option maxRecDepth 100000 in
set_option maxHeartbeats 16000000 in
theorem dexact_law1 {w : World} {a b : Option Addr} {n c m d : Nat} {l k : List Nat} (s : Bool) (ha : Rd w a n c l) (hb : Rd w b m d k) (tw : Int) (htw1 : -9223372036854775808 ≤ tw) (htw2 : tw ≤ 9223372036854775807) (fi : Int) (hfi1 : -9223372036854775808 ≤ fi) (hfi2 : fi ≤ 9223372036854775807) (hev : tw.tmod 2 = 0) :
    Calls Try.prog 8 #[.agg #[.bool s, .slice a n c, .slice b m d], .int .i64 tw, .int .i64 fi] w (fun e w' => e = .returned (.bool true) ∧ Below w.heap.size w w') := by
  obtain ⟨n1, hn1⟩ : ∃ y, y = min n 40 := ⟨_, rfl⟩
  obtain ⟨m1, hm1⟩ : ∃ y, y = min m 40 := ⟨_, rfl⟩
  have hnn : n1 ≤ n := by omega
  have hmm : m1 ≤ m := by omega
  have hn4 : n1 ≤ 40 := by omega
  have hm4 : m1 ≤ 40 := by omega
  have HC := hid (fun (W : World) (h : Below w.heap.size w W) => lcut (s := s) (ha.below h) (hb.below h) hn1 hm1)
  have HK := hid (fun (W : World) (h : Below w.heap.size w W) {a' b' : Option Addr} {c' d' : Nat} (h1 : Lent7 W a' n1 c' (l.take n1)) (h2 : Lent7 W b' m1 d' (k.take m1)) => lkept (s := s) h1 h2 (ha.below h) (hb.below h) hnn hmm)
  generalize l.take n1 = L at *
  generalize k.take m1 = M at *
  clear hn1 hm1 ha hb
  obtain ⟨R, hR⟩ := ex_exists (qv s (val L) (val M)).den
  have HP := hid (fun (W : World) {a' b' : Option Addr} {c' d' : Nat} (h : RdQ 40 W s a' n1 c' b' m1 d' (qv s (val L) (val M))) => dexact h (by omega) hR)
  have HR := hid (fun (W : World) {a' b' : Option Addr} {c' d' : Nat} (h : RdQ 40 W s a' n1 c' b' m1 d' (qv s (val L) (val M))) => rexact h (by omega) hR)
  generalize exT2 (qv s (val L) (val M)) R = T at *
  generalize R.isSome = bo at *
  have hbo : (bo != bo) = false := by simp
  clear hR
  obtain ⟨bt1, bt2⟩ := bdN_bd tw (n := 130) (by omega)
  have HBt := hid (fun w => lbound (w := w) tw 130 htw1 htw2 (by omega) (by omega))
  obtain ⟨BT, hBT⟩ : ∃ y : Nat, bdN tw 130 = (y : Int) := ⟨(bdN tw 130).toNat, by omega⟩
  rw [hBT] at HBt bt1 bt2
  obtain ⟨bf1, bf2⟩ := bdN_bd fi (n := 300) (by omega)
  have HBf := hid (fun w => lbound (w := w) fi 300 hfi1 hfi2 (by omega) (by omega))
  obtain ⟨BF, hBF⟩ : ∃ y : Nat, bdN fi 300 = (y : Int) := ⟨(bdN fi 300).toNat, by omega⟩
  rw [hBF] at HBf bf1 bf2
  clear hBT hBF
  obtain ⟨K4, hK4, hK5⟩ : ∃ K, 400 ≤ K ∧ K ≤ 1000 := ⟨400, by omega, by omega⟩
  have HE := hid (fun (W : World) {a' b' : Option Addr} {n c m d u v : Nat} (R : Option Nat) (hR : ExIs (qv s u v).den R) (h : RdQ K4 W s a' n c b' m d (qv s u v)) => dexact h (by omega) hR)
  have HF := hid (fun (W : World) {a' b' : Option Addr} {n c m d u v : Nat} (R : Option Nat) (hR : ExIs (qv s u v).den R) (h : RdQ K4 W s a' n c b' m d (qv s u v)) => rexact h (by omega) hR)
  obtain ⟨tm, htm⟩ : ∃ y, tw.tmod 2 = y := ⟨_, rfl⟩
  rw [htm] at hev
  have hevb : (tm == (0 : Int)) = true := by simpa using hev
  have htm1 : -2 < tm ∧ tm < 2 := by rw [← htm]; exact tmod_bd tw (n := 1) (by omega)
  obtain ⟨htm2, htm3⟩ := htm1
  subst hev
  have hent := ent1 w #[Value.bool s, Value.slice a n c, Value.slice b m d] 29
  go_enter Try.func8, Try.ntmps8
  go_wp2_with fail
  generalize (w.alloc (.cells #[Value.bool s, Value.slice a n c, Value.slice b m d] 29)) = W0 at hent ⊢
  obtain ⟨X_0, hbel_0, hsz_0⟩ := hent
  have cX_0_0 : _ = some (Value.bool s) := X_0.cell 0
  have cX_0_1 : _ = some (Value.slice a n c) := X_0.cell 1
  have cX_0_2 : _ = some (Value.slice b m d) := X_0.cell 2
  go_wp2_with fail
  refine (HC.out _ hbel_0).mono ?_
  rintro e w1 ⟨pa, pc, pb, pd, rfl, hL1, hL2, hB⟩
  have hB_1 : Below W0.heap.size W0 w1 := (bl.next hB)
  have X_1 := X_0.next hB_1
  have cX_1_0 : _ = some (Value.bool s) := X_1.cell 0
  have cX_1_1 : _ = some (Value.slice a n c) := X_1.cell 1
  have cX_1_2 : _ = some (Value.slice b m d) := X_1.cell 2
  have hbel_1 := hbel_0.next hB_1
  have hsz_1 := hB_1.size
  clear X_0 cX_0_0 cX_0_1 cX_0_2 hbel_0 hB_1
  have A_1 := hL1
  have B_1 := hL2
  clear hL1 hL2
  try clear hB
  have hbx := blk_new w1 #[Value.bool s, Value.slice pa n1 pc, Value.slice pb m1 pd] 29
  have hbB := (Below.refl w1.heap.size w1).alloc (Nat.le_refl _) (.cells #[Value.bool s, Value.slice pa n1 pc, Value.slice pb m1 pd] 29)
  have hltM := hbx.lt
  have hB_2 : Below w1.heap.size w1 (w1.alloc (.cells #[Value.bool s, Value.slice pa n1 pc, Value.slice pb m1 pd] 29)) := hbB
  have X_2 := X_1.next hB_2
  have cX_2_0 : _ = some (Value.bool s) := X_2.cell 0
  have cX_2_1 : _ = some (Value.slice a n c) := X_2.cell 1
  have cX_2_2 : _ = some (Value.slice b m d) := X_2.cell 2
  have A_2 := A_1.below hB_2
  have B_2 := B_1.below hB_2
  have hbel_2 := hbel_1.next hB_2
  have hsz_2 := hB_2.size
  clear hB_2
  have M_2 := hbx
  clear hbx hbB
  have cM_2_0 : _ = some (Value.bool s) := M_2.cell 0
  have cM_2_1 : _ = some (Value.slice pa n1 pc) := M_2.cell 1
  have cM_2_2 : _ = some (Value.slice pb m1 pd) := M_2.cell 2
  go_wp2_with fail
  clear X_1 cX_1_0 cX_1_1 cX_1_2 A_1 B_1 hbel_1
  generalize (w1.alloc (.cells #[Value.bool s, Value.slice pa n1 pc, Value.slice pb m1 pd] 29)) = v2 at *
  go_wp2_with fail
  refine (HC.out _ hbel_2).mono ?_
  rintro e w3 ⟨ra, rc, rb, rd, rfl, hL1, hL2, hB⟩
  have hB_3 : Below v2.heap.size v2 w3 := (bl.next hB)
  have X_3 := X_2.next hB_3
  have cX_3_0 : _ = some (Value.bool s) := X_3.cell 0
  have cX_3_1 : _ = some (Value.slice a n c) := X_3.cell 1
  have cX_3_2 : _ = some (Value.slice b m d) := X_3.cell 2
  have M_3 := M_2.next hB_3
  have cM_3_0 : _ = some (Value.bool s) := M_3.cell 0
  have cM_3_1 : _ = some (Value.slice pa n1 pc) := M_3.cell 1
  have cM_3_2 : _ = some (Value.slice pb m1 pd) := M_3.cell 2
  have A_3 := A_2.below hB_3
  have B_3 := B_2.below hB_3
  have hbel_3 := hbel_2.next hB_3
  have hsz_3 := hB_3.size
  clear X_2 cX_2_0 cX_2_1 cX_2_2 M_2 cM_2_0 cM_2_1 cM_2_2 A_2 B_2 hbel_2 hB_3
  have Q_3 := rdq_of (K := 40) s hL1.2 hn4 hL2.2 hm4
  clear hL1 hL2
  try clear hB
  go_wp2_with fail
  refine (HR.out _ Q_3).mono ?_
  rintro e w4 ⟨rfl, hB⟩
  have hB_4 : Below w3.heap.size w3 w4 := (bl.next hB)
  have X_4 := X_3.next hB_4
  have cX_4_0 : _ = some (Value.bool s) := X_4.cell 0
  have cX_4_1 : _ = some (Value.slice a n c) := X_4.cell 1
  have cX_4_2 : _ = some (Value.slice b m d) := X_4.cell 2
  have M_4 := M_3.next hB_4
  have cM_4_0 : _ = some (Value.bool s) := M_4.cell 0
  have cM_4_1 : _ = some (Value.slice pa n1 pc) := M_4.cell 1
  have cM_4_2 : _ = some (Value.slice pb m1 pd) := M_4.cell 2
  have A_4 := A_3.below hB_4
  have B_4 := B_3.below hB_4
  have Q_4 := Q_3.below hB_4
  have hbel_4 := hbel_3.next hB_4
  have hsz_4 := hB_4.size
  clear X_3 cX_3_0 cX_3_1 cX_3_2 M_3 cM_3_0 cM_3_1 cM_3_2 A_3 B_3 Q_3 hbel_3 hB_4
  try clear hB
  clear Q_4
  have P_4 := rdq_of (K := 40) s A_4.2 hn4 B_4.2 hm4
  go_wp2_with fail
  refine (HP.out _ P_4).mono ?_
  rintro e w5 ⟨rfl, hB⟩
  have hB_5 : Below w4.heap.size w4 w5 := (bl.next hB)
  have X_5 := X_4.next hB_5
  have cX_5_0 : _ = some (Value.bool s) := X_5.cell 0
  have cX_5_1 : _ = some (Value.slice a n c) := X_5.cell 1
  have cX_5_2 : _ = some (Value.slice b m d) := X_5.cell 2
  have M_5 := M_4.next hB_5
  have cM_5_0 : _ = some (Value.bool s) := M_5.cell 0
  have cM_5_1 : _ = some (Value.slice pa n1 pc) := M_5.cell 1
  have cM_5_2 : _ = some (Value.slice pb m1 pd) := M_5.cell 2
  have A_5 := A_4.below hB_5
  have B_5 := B_4.below hB_5
  have P_5 := P_4.below hB_5
  have hbel_5 := hbel_4.next hB_5
  have hsz_5 := hB_5.size
  clear X_4 cX_4_0 cX_4_1 cX_4_2 M_4 cM_4_0 cM_4_1 cM_4_2 A_4 B_4 P_4 hbel_4 hB_5
  try clear hB
  clear P_5
  go_wp2_with fail
  refine (HK.out _ hbel_5 A_5 B_5).mono ?_
  rintro e w6 ⟨rfl, hB⟩
  have hB_6 : Below w5.heap.size w5 w6 := (bl.next hB)
  have X_6 := X_5.next hB_6
  have cX_6_0 : _ = some (Value.bool s) := X_6.cell 0
  have cX_6_1 : _ = some (Value.slice a n c) := X_6.cell 1
  have cX_6_2 : _ = some (Value.slice b m d) := X_6.cell 2
  have M_6 := M_5.next hB_6
  have cM_6_0 : _ = some (Value.bool s) := M_6.cell 0
  have cM_6_1 : _ = some (Value.slice pa n1 pc) := M_6.cell 1
  have cM_6_2 : _ = some (Value.slice pb m1 pd) := M_6.cell 2
  have A_6 := A_5.below hB_6
  have B_6 := B_5.below hB_6
  have hbel_6 := hbel_5.next hB_6
  have hsz_6 := hB_6.size
  clear X_5 cX_5_0 cX_5_1 cX_5_2 M_5 cM_5_0 cM_5_1 cM_5_2 A_5 B_5 hbel_5 hB_6
  try clear hB
  clear A_6
  clear B_6
  have hbV_6 : Below w6.heap.size w6 w6 := Below.refl _ _
  have O1 := (show Own w6.heap.size (w6.alloc (.cells #[Value.int .u32 1] 39)) (some ⟨w6.heap.size, 0, none⟩) 1 1 (List.replicate 0 0 ++ [1]) from own_one _ _ 1 (by omega) (Nat.le_refl _))
  have hbo1 := (Below.refl w6.heap.size w6).alloc (Nat.le_refl _) (.cells #[Value.int .u32 1] 39)
  clear HC HK HP HR
  go_wp2
  go_loopw [12, 13] (fun dv iv wr => ∃ (i c : Nat) (g : Nat), i ≤ BT ∧ iv = .int .i64 i ∧ dv = .slice (some ⟨g, 0, none⟩) (i + 1) c ∧ Own w6.heap.size wr (some ⟨g, 0, none⟩) (i + 1) c (List.replicate i 0 ++ [1]) ∧ Below w6.heap.size w6 wr) (fun _ iv _ => BT - (intOf iv).toNat)
  case atStart => exact ⟨0, 1, _, by omega, rfl, rfl, O1, hbo1⟩
  case round =>
    clear O1 hbo1
    obtain ⟨i, dc, dg, hi, rfl, rfl, hO, hBr⟩ := hrel
    have hB_7 : Below w6.heap.size w6 wr := hBr
    have X_7 := X_6.next hB_7
    have cX_7_0 : _ = some (Value.bool s) := X_7.cell 0
    have cX_7_1 : _ = some (Value.slice a n c) := X_7.cell 1
    have cX_7_2 : _ = some (Value.slice b m d) := X_7.cell 2
    have M_7 := M_6.next hB_7
    have cM_7_0 : _ = some (Value.bool s) := M_7.cell 0
    have cM_7_1 : _ = some (Value.slice pa n1 pc) := M_7.cell 1
    have cM_7_2 : _ = some (Value.slice pb m1 pd) := M_7.cell 2
    have hbV_7 := hbV_6.next hB_7
    have hbel_7 := hbel_6.next hB_7
    have hsz_7 := hB_7.size
    clear X_6 cX_6_0 cX_6_1 cX_6_2 M_6 cM_6_0 cM_6_1 cM_6_2 hbV_6 hbel_6 hB_7
    have D_7 := hO
    clear hO hBr
    have ltD := D_7.ltB
    go_wp2_with fail
    refine (HBt.out _).mono ?_
    rintro e w8 ⟨rfl, hB⟩
    have hB_8 : Below wr.heap.size wr w8 := (bl.next hB)
    have X_8 := X_7.next hB_8
    have cX_8_0 : _ = some (Value.bool s) := X_8.cell 0
    have cX_8_1 : _ = some (Value.slice a n c) := X_8.cell 1
    have cX_8_2 : _ = some (Value.slice b m d) := X_8.cell 2
    have M_8 := M_7.next hB_8
    have cM_8_0 : _ = some (Value.bool s) := M_8.cell 0
    have cM_8_1 : _ = some (Value.slice pa n1 pc) := M_8.cell 1
    have cM_8_2 : _ = some (Value.slice pb m1 pd) := M_8.cell 2
    have hbV_8 := hbV_7.next hB_8
    have D_8 := D_7.below hB_8
    have hbel_8 := hbel_7.next hB_8
    have hsz_8 := hB_8.size
    clear X_7 cX_7_0 cX_7_1 cX_7_2 M_7 cM_7_0 cM_7_1 cM_7_2 hbV_7 D_7 hbel_7 hB_8
    try clear hB
    have hlim : Hid (Lim (List.replicate i 0 ++ [1])) := val_shift i
    by_cases hlt : i < BT
    · have hd := D_8
      have hdb := hd.bnd
      have hs9 : w6.heap.size ≤ w8.heap.size := hbV_8.size
      have OZ := (show Own w6.heap.size (w8.alloc (.cells #[Value.int .u32 0] 39)) (some ⟨w8.heap.size, 0, none⟩) 1 1 [0] from own_one _ _ 0 (by omega) hs9)
      go_wp2_with (at_builtin; refine wpList_appR rfl _ _ rfl rfl OZ rfl (hd.rd.below ((Below.refl _ _).alloc (Nat.le_refl _) _)) (by simp; omega) (by omega) ?_; intro a2 c2 w2 hO2 hK2 _)
      have hBn := (hbV_8.alloc hs9 (.cells #[Value.int .u32 0] 39)).kp hK2 (by simp; omega) (own_ne' OZ)
      rcases hO2.cases with ⟨_, h, _⟩ | ⟨g2, rfl, _⟩
      · omega
      · go_roundw
        case rel => exact ⟨i + 1, c2, g2, by omega, by go_num, by rw [Nat.add_comm 1 (i + 1)], by rw [Nat.add_comm 1 (i + 1)] at hO2; exact hO2, hBn⟩
        case measure => simp [intOf]; omega
    · obtain rfl : i = BT := by omega
      have hdl := D_8.len
      go_wp2_with fail
      refine (HBf.out _).mono ?_
      rintro e w9 ⟨rfl, hB⟩
      have hB_9 : Below w8.heap.size w8 w9 := (bl.next hB)
      have X_9 := X_8.next hB_9
      have cX_9_0 : _ = some (Value.bool s) := X_9.cell 0
      have cX_9_1 : _ = some (Value.slice a n c) := X_9.cell 1
      have cX_9_2 : _ = some (Value.slice b m d) := X_9.cell 2
      have M_9 := M_8.next hB_9
      have cM_9_0 : _ = some (Value.bool s) := M_9.cell 0
      have cM_9_1 : _ = some (Value.slice pa n1 pc) := M_9.cell 1
      have cM_9_2 : _ = some (Value.slice pb m1 pd) := M_9.cell 2
      have hbV_9 := hbV_8.next hB_9
      have D_9 := D_8.below hB_9
      have hbel_9 := hbel_8.next hB_9
      have hsz_9 := hB_9.size
      clear X_8 cX_8_0 cX_8_1 cX_8_2 M_8 cM_8_0 cM_8_1 cM_8_2 hbV_8 D_8 hbel_8 hB_9
      try clear hB
      have HTen := hid (rten (w := w9) BF (by omega))
      have hsT := szTen BF
      have hsT2 := hid (hsT.mono (Nat.le_refl _) (show BF + 1 ≤ K4 by omega))
      clear hsT
      obtain ⟨T9, hT9⟩ : ∃ y, 10 ^ BF = y := ⟨_, rfl⟩
      rw [hT9] at HTen hsT2
      clear hT9
      go_wp2_with fail
      refine (HTen.out).mono ?_
      rintro e w10 ⟨ka, kn, kc, rfl, hO, hB⟩
      have hB_10 : Below w9.heap.size w9 w10 := (bl.next hB)
      have X_10 := X_9.next hB_10
      have cX_10_0 : _ = some (Value.bool s) := X_10.cell 0
      have cX_10_1 : _ = some (Value.slice a n c) := X_10.cell 1
      have cX_10_2 : _ = some (Value.slice b m d) := X_10.cell 2
      have M_10 := M_9.next hB_10
      have cM_10_0 : _ = some (Value.bool s) := M_10.cell 0
      have cM_10_1 : _ = some (Value.slice pa n1 pc) := M_10.cell 1
      have cM_10_2 : _ = some (Value.slice pb m1 pd) := M_10.cell 2
      have hbV_10 := hbV_9.next hB_10
      have D_10 := D_9.below hB_10
      have hbel_10 := hbel_9.next hB_10
      have hsz_10 := hB_10.size
      clear X_9 cX_9_0 cX_9_1 cX_9_2 M_9 cM_9_0 cM_9_1 cM_9_2 hbV_9 D_9 hbel_9 hB_10
      have E_10 := hO
      clear hO
      try clear hB
      clear HTen
      have hel := E_10.len
      have hkn : kn ≤ K4 := by have := hsT2.out.len; omega
      have hbx0 : Blk ((w10.alloc (.cells #[Value.int .u32 3] 39)).alloc (.cells #[Value.bool s, Value.slice (some ⟨w10.heap.size, 0, none⟩) 1 1, Value.slice ka kn kc] 29)) (w10.heap.size) #[Value.int .u32 3] := ((blk_new' w10 #[Value.int .u32 3] 39 (g := w10.heap.size) (by simp)).alloc _)
      have hbx1 : Blk ((w10.alloc (.cells #[Value.int .u32 3] 39)).alloc (.cells #[Value.bool s, Value.slice (some ⟨w10.heap.size, 0, none⟩) 1 1, Value.slice ka kn kc] 29)) (w10.heap.size + 1) #[Value.bool s, Value.slice (some ⟨w10.heap.size, 0, none⟩) 1 1, Value.slice ka kn kc] := (blk_new' (w10.alloc (.cells #[Value.int .u32 3] 39)) #[Value.bool s, Value.slice (some ⟨w10.heap.size, 0, none⟩) 1 1, Value.slice ka kn kc] 29 (g := w10.heap.size + 1) (by simp))
      have hbB : Below w10.heap.size w10 ((w10.alloc (.cells #[Value.int .u32 3] 39)).alloc (.cells #[Value.bool s, Value.slice (some ⟨w10.heap.size, 0, none⟩) 1 1, Value.slice ka kn kc] 29)) := bl
      have hltTH := hbx0.lt
      have hltBQ := hbx1.lt
      have hB_11 : Below w10.heap.size w10 ((w10.alloc (.cells #[Value.int .u32 3] 39)).alloc (.cells #[Value.bool s, Value.slice (some ⟨w10.heap.size, 0, none⟩) 1 1, Value.slice ka kn kc] 29)) := hbB
      have X_11 := X_10.next hB_11
      have cX_11_0 : _ = some (Value.bool s) := X_11.cell 0
      have cX_11_1 : _ = some (Value.slice a n c) := X_11.cell 1
      have cX_11_2 : _ = some (Value.slice b m d) := X_11.cell 2
      have M_11 := M_10.next hB_11
      have cM_11_0 : _ = some (Value.bool s) := M_11.cell 0
      have cM_11_1 : _ = some (Value.slice pa n1 pc) := M_11.cell 1
      have cM_11_2 : _ = some (Value.slice pb m1 pd) := M_11.cell 2
      have hbV_11 := hbV_10.next hB_11
      have D_11 := D_10.below hB_11
      have E_11 := E_10.below hB_11
      have hbel_11 := hbel_10.next hB_11
      have hsz_11 := hB_11.size
      clear hB_11
      have TH_11 := hbx0
      clear hbx0
      have cTH_11_0 : _ = some (Value.int .u32 3) := TH_11.cell 0
      have BQ_11 := hbx1
      clear hbx1
      have cBQ_11_0 : _ = some (Value.bool s) := BQ_11.cell 0
      have cBQ_11_1 : _ = some (Value.slice (some ⟨w10.heap.size, 0, none⟩) 1 1) := BQ_11.cell 1
      have cBQ_11_2 : _ = some (Value.slice ka kn kc) := BQ_11.cell 2
      clear hbB
      have O3_11 := (show Own w10.heap.size ((w10.alloc (.cells #[Value.int .u32 3] 39)).alloc (.cells #[Value.bool s, Value.slice (some ⟨w10.heap.size, 0, none⟩) 1 1, Value.slice ka kn kc] 29)) (some ⟨w10.heap.size, 0, none⟩) 1 1 [3] from (own_one w10.heap.size w10 3 (by omega) (Nat.le_refl _)).alloc _)
      go_wp2_with fail
      clear X_10 cX_10_0 cX_10_1 cX_10_2 M_10 cM_10_0 cM_10_1 cM_10_2 hbV_10 D_10 E_10 hbel_10
      generalize ((w10.alloc (.cells #[Value.int .u32 3] 39)).alloc (.cells #[Value.bool s, Value.slice (some ⟨w10.heap.size, 0, none⟩) 1 1, Value.slice ka kn kc] 29)) = v11 at *
      obtain ⟨R2, hR2⟩ := ex_exists (qv s (val [3]) (val (lm T9))).den
      have Q_11 := rdq_of (K := K4) s O3_11.rd (by omega) E_11.rd hkn
      have HE2 := hid (fun (W : World) {a' b' : Option Addr} {n c m d : Nat} (h : RdQ K4 W s a' n c b' m d (qv s (val [3]) (val (lm T9)))) => HE.out W R2 hR2 h)
      have HF2 := hid (fun (W : World) {a' b' : Option Addr} {n c m d : Nat} (h : RdQ K4 W s a' n c b' m d (qv s (val [3]) (val (lm T9)))) => HF.out W R2 hR2 h)
      clear hR2 HE HF
      generalize exT2 (qv s (val [3]) (val (lm T9))) R2 = T2 at *
      generalize R2.isSome = b2 at *
      have hb2 : (b2 == b2) = true := by simp
      clear O3_11
      clear D_11
      clear ltD hdl hlim hbo
      clear E_11
      go_wp2_with fail
      refine (HF2.out _ Q_11).mono ?_
      rintro e w12 ⟨rfl, hB⟩
      have hB_12 : Below v11.heap.size v11 w12 := (bl.next hB)
      have X_12 := X_11.next hB_12
      have cX_12_0 : _ = some (Value.bool s) := X_12.cell 0
      have cX_12_1 : _ = some (Value.slice a n c) := X_12.cell 1
      have cX_12_2 : _ = some (Value.slice b m d) := X_12.cell 2
      have M_12 := M_11.next hB_12
      have cM_12_0 : _ = some (Value.bool s) := M_12.cell 0
      have cM_12_1 : _ = some (Value.slice pa n1 pc) := M_12.cell 1
      have cM_12_2 : _ = some (Value.slice pb m1 pd) := M_12.cell 2
      have TH_12 := TH_11.next hB_12
      have cTH_12_0 : _ = some (Value.int .u32 3) := TH_12.cell 0
      have BQ_12 := BQ_11.next hB_12
      have cBQ_12_0 : _ = some (Value.bool s) := BQ_12.cell 0
      have cBQ_12_1 : _ = some (Value.slice (some ⟨w10.heap.size, 0, none⟩) 1 1) := BQ_12.cell 1
      have cBQ_12_2 : _ = some (Value.slice ka kn kc) := BQ_12.cell 2
      have hbV_12 := hbV_11.next hB_12
      have Q_12 := Q_11.below hB_12
      have hbel_12 := hbel_11.next hB_12
      have hsz_12 := hB_12.size
      clear X_11 cX_11_0 cX_11_1 cX_11_2 M_11 cM_11_0 cM_11_1 cM_11_2 TH_11 cTH_11_0 BQ_11 cBQ_11_0 cBQ_11_1 cBQ_11_2 hbV_11 Q_11 hbel_11 hB_12
      try clear hB
      go_wp2_with fail
      refine (HE2.out _ Q_12).mono ?_
      rintro e w13 ⟨rfl, hB⟩
      have hB_13 : Below w12.heap.size w12 w13 := (bl.next hB)
      have X_13 := X_12.next hB_13
      have cX_13_0 : _ = some (Value.bool s) := X_13.cell 0
      have cX_13_1 : _ = some (Value.slice a n c) := X_13.cell 1
      have cX_13_2 : _ = some (Value.slice b m d) := X_13.cell 2
      have M_13 := M_12.next hB_13
      have cM_13_0 : _ = some (Value.bool s) := M_13.cell 0
      have cM_13_1 : _ = some (Value.slice pa n1 pc) := M_13.cell 1
      have cM_13_2 : _ = some (Value.slice pb m1 pd) := M_13.cell 2
      have TH_13 := TH_12.next hB_13
      have cTH_13_0 : _ = some (Value.int .u32 3) := TH_13.cell 0
      have BQ_13 := BQ_12.next hB_13
      have cBQ_13_0 : _ = some (Value.bool s) := BQ_13.cell 0
      have cBQ_13_1 : _ = some (Value.slice (some ⟨w10.heap.size, 0, none⟩) 1 1) := BQ_13.cell 1
      have cBQ_13_2 : _ = some (Value.slice ka kn kc) := BQ_13.cell 2
      have hbV_13 := hbV_12.next hB_13
      have Q_13 := Q_12.below hB_13
      have hbel_13 := hbel_12.next hB_13
      have hsz_13 := hB_13.size
      clear X_12 cX_12_0 cX_12_1 cX_12_2 M_12 cM_12_0 cM_12_1 cM_12_2 TH_12 cTH_12_0 BQ_12 cBQ_12_0 cBQ_12_1 cBQ_12_2 hbV_12 Q_12 hbel_12 hB_13
      try clear hB
      go_wp2
      go_ret
      exact ⟨rfl, hbel_13⟩

set_option maxRecDepth 100000 in
set_option maxHeartbeats 16000000 in
theorem dexact_law0 {w : World} {a b : Option Addr} {n c m d : Nat} {l k : List Nat} (s : Bool) (ha : Rd w a n c l) (hb : Rd w b m d k) (tw : Int) (htw1 : -9223372036854775808 ≤ tw) (htw2 : tw ≤ 9223372036854775807) (fi : Int) (hfi1 : -9223372036854775808 ≤ fi) (hfi2 : fi ≤ 9223372036854775807) (hev : tw.tmod 2 ≠ 0) :
    Calls Try.prog 8 #[.agg #[.bool s, .slice a n c, .slice b m d], .int .i64 tw, .int .i64 fi] w (fun e w' => e = .returned (.bool true) ∧ Below w.heap.size w w') := by
  obtain ⟨n1, hn1⟩ : ∃ y, y = min n 40 := ⟨_, rfl⟩
  obtain ⟨m1, hm1⟩ : ∃ y, y = min m 40 := ⟨_, rfl⟩
  have hnn : n1 ≤ n := by omega
  have hmm : m1 ≤ m := by omega
  have hn4 : n1 ≤ 40 := by omega
  have hm4 : m1 ≤ 40 := by omega
  have HC := hid (fun (W : World) (h : Below w.heap.size w W) => lcut (s := s) (ha.below h) (hb.below h) hn1 hm1)
  have HK := hid (fun (W : World) (h : Below w.heap.size w W) {a' b' : Option Addr} {c' d' : Nat} (h1 : Lent7 W a' n1 c' (l.take n1)) (h2 : Lent7 W b' m1 d' (k.take m1)) => lkept (s := s) h1 h2 (ha.below h) (hb.below h) hnn hmm)
  generalize l.take n1 = L at *
  generalize k.take m1 = M at *
  clear hn1 hm1 ha hb
  obtain ⟨R, hR⟩ := ex_exists (qv s (val L) (val M)).den
  have HP := hid (fun (W : World) {a' b' : Option Addr} {c' d' : Nat} (h : RdQ 40 W s a' n1 c' b' m1 d' (qv s (val L) (val M))) => dexact h (by omega) hR)
  have HR := hid (fun (W : World) {a' b' : Option Addr} {c' d' : Nat} (h : RdQ 40 W s a' n1 c' b' m1 d' (qv s (val L) (val M))) => rexact h (by omega) hR)
  generalize exT2 (qv s (val L) (val M)) R = T at *
  generalize R.isSome = bo at *
  have hbo : (bo != bo) = false := by simp
  clear hR
  obtain ⟨bt1, bt2⟩ := bdN_bd tw (n := 130) (by omega)
  have HBt := hid (fun w => lbound (w := w) tw 130 htw1 htw2 (by omega) (by omega))
  obtain ⟨BT, hBT⟩ : ∃ y : Nat, bdN tw 130 = (y : Int) := ⟨(bdN tw 130).toNat, by omega⟩
  rw [hBT] at HBt bt1 bt2
  obtain ⟨bf1, bf2⟩ := bdN_bd fi (n := 300) (by omega)
  have HBf := hid (fun w => lbound (w := w) fi 300 hfi1 hfi2 (by omega) (by omega))
  obtain ⟨BF, hBF⟩ : ∃ y : Nat, bdN fi 300 = (y : Int) := ⟨(bdN fi 300).toNat, by omega⟩
  rw [hBF] at HBf bf1 bf2
  clear hBT hBF
  obtain ⟨K4, hK4, hK5⟩ : ∃ K, 400 ≤ K ∧ K ≤ 1000 := ⟨400, by omega, by omega⟩
  have HE := hid (fun (W : World) {a' b' : Option Addr} {n c m d u v : Nat} (R : Option Nat) (hR : ExIs (qv s u v).den R) (h : RdQ K4 W s a' n c b' m d (qv s u v)) => dexact h (by omega) hR)
  have HF := hid (fun (W : World) {a' b' : Option Addr} {n c m d u v : Nat} (R : Option Nat) (hR : ExIs (qv s u v).den R) (h : RdQ K4 W s a' n c b' m d (qv s u v)) => rexact h (by omega) hR)
  obtain ⟨tm, htm⟩ : ∃ y, tw.tmod 2 = y := ⟨_, rfl⟩
  rw [htm] at hev
  have hevb : (tm == (0 : Int)) = false := by simpa using hev
  have htm1 : -2 < tm ∧ tm < 2 := by rw [← htm]; exact tmod_bd tw (n := 1) (by omega)
  obtain ⟨htm2, htm3⟩ := htm1
  skip
  have hent := ent1 w #[Value.bool s, Value.slice a n c, Value.slice b m d] 29
  go_enter Try.func8, Try.ntmps8
  go_wp2_with fail
  generalize (w.alloc (.cells #[Value.bool s, Value.slice a n c, Value.slice b m d] 29)) = W0 at hent ⊢
  obtain ⟨X_0, hbel_0, hsz_0⟩ := hent
  have cX_0_0 : _ = some (Value.bool s) := X_0.cell 0
  have cX_0_1 : _ = some (Value.slice a n c) := X_0.cell 1
  have cX_0_2 : _ = some (Value.slice b m d) := X_0.cell 2
  go_wp2_with fail
  refine (HC.out _ hbel_0).mono ?_
  rintro e w1 ⟨pa, pc, pb, pd, rfl, hL1, hL2, hB⟩
  have hB_1 : Below W0.heap.size W0 w1 := (bl.next hB)
  have X_1 := X_0.next hB_1
  have cX_1_0 : _ = some (Value.bool s) := X_1.cell 0
  have cX_1_1 : _ = some (Value.slice a n c) := X_1.cell 1
  have cX_1_2 : _ = some (Value.slice b m d) := X_1.cell 2
  have hbel_1 := hbel_0.next hB_1
  have hsz_1 := hB_1.size
  clear X_0 cX_0_0 cX_0_1 cX_0_2 hbel_0 hB_1
  have A_1 := hL1
  have B_1 := hL2
  clear hL1 hL2
  try clear hB
  have hbx := blk_new w1 #[Value.bool s, Value.slice pa n1 pc, Value.slice pb m1 pd] 29
  have hbB := (Below.refl w1.heap.size w1).alloc (Nat.le_refl _) (.cells #[Value.bool s, Value.slice pa n1 pc, Value.slice pb m1 pd] 29)
  have hltM := hbx.lt
  have hB_2 : Below w1.heap.size w1 (w1.alloc (.cells #[Value.bool s, Value.slice pa n1 pc, Value.slice pb m1 pd] 29)) := hbB
  have X_2 := X_1.next hB_2
  have cX_2_0 : _ = some (Value.bool s) := X_2.cell 0
  have cX_2_1 : _ = some (Value.slice a n c) := X_2.cell 1
  have cX_2_2 : _ = some (Value.slice b m d) := X_2.cell 2
  have A_2 := A_1.below hB_2
  have B_2 := B_1.below hB_2
  have hbel_2 := hbel_1.next hB_2
  have hsz_2 := hB_2.size
  clear hB_2
  have M_2 := hbx
  clear hbx hbB
  have cM_2_0 : _ = some (Value.bool s) := M_2.cell 0
  have cM_2_1 : _ = some (Value.slice pa n1 pc) := M_2.cell 1
  have cM_2_2 : _ = some (Value.slice pb m1 pd) := M_2.cell 2
  go_wp2_with fail
  clear X_1 cX_1_0 cX_1_1 cX_1_2 A_1 B_1 hbel_1
  generalize (w1.alloc (.cells #[Value.bool s, Value.slice pa n1 pc, Value.slice pb m1 pd] 29)) = v2 at *
  go_wp2_with fail
  refine (HC.out _ hbel_2).mono ?_
  rintro e w3 ⟨ra, rc, rb, rd, rfl, hL1, hL2, hB⟩
  have hB_3 : Below v2.heap.size v2 w3 := (bl.next hB)
  have X_3 := X_2.next hB_3
  have cX_3_0 : _ = some (Value.bool s) := X_3.cell 0
  have cX_3_1 : _ = some (Value.slice a n c) := X_3.cell 1
  have cX_3_2 : _ = some (Value.slice b m d) := X_3.cell 2
  have M_3 := M_2.next hB_3
  have cM_3_0 : _ = some (Value.bool s) := M_3.cell 0
  have cM_3_1 : _ = some (Value.slice pa n1 pc) := M_3.cell 1
  have cM_3_2 : _ = some (Value.slice pb m1 pd) := M_3.cell 2
  have A_3 := A_2.below hB_3
  have B_3 := B_2.below hB_3
  have hbel_3 := hbel_2.next hB_3
  have hsz_3 := hB_3.size
  clear X_2 cX_2_0 cX_2_1 cX_2_2 M_2 cM_2_0 cM_2_1 cM_2_2 A_2 B_2 hbel_2 hB_3
  have Q_3 := rdq_of (K := 40) s hL1.2 hn4 hL2.2 hm4
  clear hL1 hL2
  try clear hB
  go_wp2_with fail
  refine (HR.out _ Q_3).mono ?_
  rintro e w4 ⟨rfl, hB⟩
  have hB_4 : Below w3.heap.size w3 w4 := (bl.next hB)
  have X_4 := X_3.next hB_4
  have cX_4_0 : _ = some (Value.bool s) := X_4.cell 0
  have cX_4_1 : _ = some (Value.slice a n c) := X_4.cell 1
  have cX_4_2 : _ = some (Value.slice b m d) := X_4.cell 2
  have M_4 := M_3.next hB_4
  have cM_4_0 : _ = some (Value.bool s) := M_4.cell 0
  have cM_4_1 : _ = some (Value.slice pa n1 pc) := M_4.cell 1
  have cM_4_2 : _ = some (Value.slice pb m1 pd) := M_4.cell 2
  have A_4 := A_3.below hB_4
  have B_4 := B_3.below hB_4
  have Q_4 := Q_3.below hB_4
  have hbel_4 := hbel_3.next hB_4
  have hsz_4 := hB_4.size
  clear X_3 cX_3_0 cX_3_1 cX_3_2 M_3 cM_3_0 cM_3_1 cM_3_2 A_3 B_3 Q_3 hbel_3 hB_4
  try clear hB
  clear Q_4
  have P_4 := rdq_of (K := 40) s A_4.2 hn4 B_4.2 hm4
  go_wp2_with fail
  refine (HP.out _ P_4).mono ?_
  rintro e w5 ⟨rfl, hB⟩
  have hB_5 : Below w4.heap.size w4 w5 := (bl.next hB)
  have X_5 := X_4.next hB_5
  have cX_5_0 : _ = some (Value.bool s) := X_5.cell 0
  have cX_5_1 : _ = some (Value.slice a n c) := X_5.cell 1
  have cX_5_2 : _ = some (Value.slice b m d) := X_5.cell 2
  have M_5 := M_4.next hB_5
  have cM_5_0 : _ = some (Value.bool s) := M_5.cell 0
  have cM_5_1 : _ = some (Value.slice pa n1 pc) := M_5.cell 1
  have cM_5_2 : _ = some (Value.slice pb m1 pd) := M_5.cell 2
  have A_5 := A_4.below hB_5
  have B_5 := B_4.below hB_5
  have P_5 := P_4.below hB_5
  have hbel_5 := hbel_4.next hB_5
  have hsz_5 := hB_5.size
  clear X_4 cX_4_0 cX_4_1 cX_4_2 M_4 cM_4_0 cM_4_1 cM_4_2 A_4 B_4 P_4 hbel_4 hB_5
  try clear hB
  clear P_5
  go_wp2_with fail
  refine (HK.out _ hbel_5 A_5 B_5).mono ?_
  rintro e w6 ⟨rfl, hB⟩
  have hB_6 : Below w5.heap.size w5 w6 := (bl.next hB)
  have X_6 := X_5.next hB_6
  have cX_6_0 : _ = some (Value.bool s) := X_6.cell 0
  have cX_6_1 : _ = some (Value.slice a n c) := X_6.cell 1
  have cX_6_2 : _ = some (Value.slice b m d) := X_6.cell 2
  have M_6 := M_5.next hB_6
  have cM_6_0 : _ = some (Value.bool s) := M_6.cell 0
  have cM_6_1 : _ = some (Value.slice pa n1 pc) := M_6.cell 1
  have cM_6_2 : _ = some (Value.slice pb m1 pd) := M_6.cell 2
  have A_6 := A_5.below hB_6
  have B_6 := B_5.below hB_6
  have hbel_6 := hbel_5.next hB_6
  have hsz_6 := hB_6.size
  clear X_5 cX_5_0 cX_5_1 cX_5_2 M_5 cM_5_0 cM_5_1 cM_5_2 A_5 B_5 hbel_5 hB_6
  try clear hB
  clear A_6
  clear B_6
  have hbV_6 : Below w6.heap.size w6 w6 := Below.refl _ _
  have O1 := (show Own w6.heap.size (w6.alloc (.cells #[Value.int .u32 1] 39)) (some ⟨w6.heap.size, 0, none⟩) 1 1 (List.replicate 0 0 ++ [1]) from own_one _ _ 1 (by omega) (Nat.le_refl _))
  have hbo1 := (Below.refl w6.heap.size w6).alloc (Nat.le_refl _) (.cells #[Value.int .u32 1] 39)
  clear HC HK HP HR
  go_wp2
  go_loopw [12, 13] (fun dv iv wr => ∃ (i c : Nat) (g : Nat), i ≤ BT ∧ iv = .int .i64 i ∧ dv = .slice (some ⟨g, 0, none⟩) (i + 1) c ∧ Own w6.heap.size wr (some ⟨g, 0, none⟩) (i + 1) c (List.replicate i 0 ++ [1]) ∧ Below w6.heap.size w6 wr) (fun _ iv _ => BT - (intOf iv).toNat)
  case atStart => exact ⟨0, 1, _, by omega, rfl, rfl, O1, hbo1⟩
  case round =>
    clear O1 hbo1
    obtain ⟨i, dc, dg, hi, rfl, rfl, hO, hBr⟩ := hrel
    have hB_7 : Below w6.heap.size w6 wr := hBr
    have X_7 := X_6.next hB_7
    have cX_7_0 : _ = some (Value.bool s) := X_7.cell 0
    have cX_7_1 : _ = some (Value.slice a n c) := X_7.cell 1
    have cX_7_2 : _ = some (Value.slice b m d) := X_7.cell 2
    have M_7 := M_6.next hB_7
    have cM_7_0 : _ = some (Value.bool s) := M_7.cell 0
    have cM_7_1 : _ = some (Value.slice pa n1 pc) := M_7.cell 1
    have cM_7_2 : _ = some (Value.slice pb m1 pd) := M_7.cell 2
    have hbV_7 := hbV_6.next hB_7
    have hbel_7 := hbel_6.next hB_7
    have hsz_7 := hB_7.size
    clear X_6 cX_6_0 cX_6_1 cX_6_2 M_6 cM_6_0 cM_6_1 cM_6_2 hbV_6 hbel_6 hB_7
    have D_7 := hO
    clear hO hBr
    have ltD := D_7.ltB
    go_wp2_with fail
    refine (HBt.out _).mono ?_
    rintro e w8 ⟨rfl, hB⟩
    have hB_8 : Below wr.heap.size wr w8 := (bl.next hB)
    have X_8 := X_7.next hB_8
    have cX_8_0 : _ = some (Value.bool s) := X_8.cell 0
    have cX_8_1 : _ = some (Value.slice a n c) := X_8.cell 1
    have cX_8_2 : _ = some (Value.slice b m d) := X_8.cell 2
    have M_8 := M_7.next hB_8
    have cM_8_0 : _ = some (Value.bool s) := M_8.cell 0
    have cM_8_1 : _ = some (Value.slice pa n1 pc) := M_8.cell 1
    have cM_8_2 : _ = some (Value.slice pb m1 pd) := M_8.cell 2
    have hbV_8 := hbV_7.next hB_8
    have D_8 := D_7.below hB_8
    have hbel_8 := hbel_7.next hB_8
    have hsz_8 := hB_8.size
    clear X_7 cX_7_0 cX_7_1 cX_7_2 M_7 cM_7_0 cM_7_1 cM_7_2 hbV_7 D_7 hbel_7 hB_8
    try clear hB
    have hlim : Hid (Lim (List.replicate i 0 ++ [1])) := val_shift i
    by_cases hlt : i < BT
    · have hd := D_8
      have hdb := hd.bnd
      have hs9 : w6.heap.size ≤ w8.heap.size := hbV_8.size
      have OZ := (show Own w6.heap.size (w8.alloc (.cells #[Value.int .u32 0] 39)) (some ⟨w8.heap.size, 0, none⟩) 1 1 [0] from own_one _ _ 0 (by omega) hs9)
      go_wp2_with (at_builtin; refine wpList_appR rfl _ _ rfl rfl OZ rfl (hd.rd.below ((Below.refl _ _).alloc (Nat.le_refl _) _)) (by simp; omega) (by omega) ?_; intro a2 c2 w2 hO2 hK2 _)
      have hBn := (hbV_8.alloc hs9 (.cells #[Value.int .u32 0] 39)).kp hK2 (by simp; omega) (own_ne' OZ)
      rcases hO2.cases with ⟨_, h, _⟩ | ⟨g2, rfl, _⟩
      · omega
      · go_roundw
        case rel => exact ⟨i + 1, c2, g2, by omega, by go_num, by rw [Nat.add_comm 1 (i + 1)], by rw [Nat.add_comm 1 (i + 1)] at hO2; exact hO2, hBn⟩
        case measure => simp [intOf]; omega
    · obtain rfl : i = BT := by omega
      have hdl := D_8.len
      have hbx0 : Blk ((w8.alloc (.cells #[Value.int .u32 3] 39)).alloc (.cells #[Value.bool s, Value.slice (some ⟨w8.heap.size, 0, none⟩) 1 1, Value.slice (some ⟨dg, 0, none⟩) (i + 1) dc] 29)) (w8.heap.size) #[Value.int .u32 3] := ((blk_new' w8 #[Value.int .u32 3] 39 (g := w8.heap.size) (by simp)).alloc _)
      have hbx1 : Blk ((w8.alloc (.cells #[Value.int .u32 3] 39)).alloc (.cells #[Value.bool s, Value.slice (some ⟨w8.heap.size, 0, none⟩) 1 1, Value.slice (some ⟨dg, 0, none⟩) (i + 1) dc] 29)) (w8.heap.size + 1) #[Value.bool s, Value.slice (some ⟨w8.heap.size, 0, none⟩) 1 1, Value.slice (some ⟨dg, 0, none⟩) (i + 1) dc] := (blk_new' (w8.alloc (.cells #[Value.int .u32 3] 39)) #[Value.bool s, Value.slice (some ⟨w8.heap.size, 0, none⟩) 1 1, Value.slice (some ⟨dg, 0, none⟩) (i + 1) dc] 29 (g := w8.heap.size + 1) (by simp))
      have hbB : Below w8.heap.size w8 ((w8.alloc (.cells #[Value.int .u32 3] 39)).alloc (.cells #[Value.bool s, Value.slice (some ⟨w8.heap.size, 0, none⟩) 1 1, Value.slice (some ⟨dg, 0, none⟩) (i + 1) dc] 29)) := bl
      have hltTH := hbx0.lt
      have hltBQ := hbx1.lt
      have hB_9 : Below w8.heap.size w8 ((w8.alloc (.cells #[Value.int .u32 3] 39)).alloc (.cells #[Value.bool s, Value.slice (some ⟨w8.heap.size, 0, none⟩) 1 1, Value.slice (some ⟨dg, 0, none⟩) (i + 1) dc] 29)) := hbB
      have X_9 := X_8.next hB_9
      have cX_9_0 : _ = some (Value.bool s) := X_9.cell 0
      have cX_9_1 : _ = some (Value.slice a n c) := X_9.cell 1
      have cX_9_2 : _ = some (Value.slice b m d) := X_9.cell 2
      have M_9 := M_8.next hB_9
      have cM_9_0 : _ = some (Value.bool s) := M_9.cell 0
      have cM_9_1 : _ = some (Value.slice pa n1 pc) := M_9.cell 1
      have cM_9_2 : _ = some (Value.slice pb m1 pd) := M_9.cell 2
      have hbV_9 := hbV_8.next hB_9
      have D_9 := D_8.below hB_9
      have hbel_9 := hbel_8.next hB_9
      have hsz_9 := hB_9.size
      clear hB_9
      have TH_9 := hbx0
      clear hbx0
      have cTH_9_0 : _ = some (Value.int .u32 3) := TH_9.cell 0
      have BQ_9 := hbx1
      clear hbx1
      have cBQ_9_0 : _ = some (Value.bool s) := BQ_9.cell 0
      have cBQ_9_1 : _ = some (Value.slice (some ⟨w8.heap.size, 0, none⟩) 1 1) := BQ_9.cell 1
      have cBQ_9_2 : _ = some (Value.slice (some ⟨dg, 0, none⟩) (i + 1) dc) := BQ_9.cell 2
      clear hbB
      have O3_9 := (show Own w8.heap.size ((w8.alloc (.cells #[Value.int .u32 3] 39)).alloc (.cells #[Value.bool s, Value.slice (some ⟨w8.heap.size, 0, none⟩) 1 1, Value.slice (some ⟨dg, 0, none⟩) (i + 1) dc] 29)) (some ⟨w8.heap.size, 0, none⟩) 1 1 [3] from (own_one w8.heap.size w8 3 (by omega) (Nat.le_refl _)).alloc _)
      go_wp2_with fail
      clear X_8 cX_8_0 cX_8_1 cX_8_2 M_8 cM_8_0 cM_8_1 cM_8_2 hbV_8 D_8 hbel_8
      generalize ((w8.alloc (.cells #[Value.int .u32 3] 39)).alloc (.cells #[Value.bool s, Value.slice (some ⟨w8.heap.size, 0, none⟩) 1 1, Value.slice (some ⟨dg, 0, none⟩) (i + 1) dc] 29)) = v9 at *
      obtain ⟨R2, hR2⟩ := ex_exists (qv s (val [3]) (val (List.replicate i 0 ++ [1]))).den
      have Q_9 := rdq_of (K := K4) s O3_9.rd (by omega) D_9.rd (by omega)
      have HE2 := hid (fun (W : World) {a' b' : Option Addr} {n c m d : Nat} (h : RdQ K4 W s a' n c b' m d (qv s (val [3]) (val (List.replicate i 0 ++ [1])))) => HE.out W R2 hR2 h)
      have HF2 := hid (fun (W : World) {a' b' : Option Addr} {n c m d : Nat} (h : RdQ K4 W s a' n c b' m d (qv s (val [3]) (val (List.replicate i 0 ++ [1])))) => HF.out W R2 hR2 h)
      clear hR2 HE HF
      generalize exT2 (qv s (val [3]) (val (List.replicate i 0 ++ [1]))) R2 = T2 at *
      generalize R2.isSome = b2 at *
      have hb2 : (b2 == b2) = true := by simp
      clear O3_9
      clear D_9
      clear ltD hdl hlim hbo
      go_wp2_with fail
      refine (HF2.out _ Q_9).mono ?_
      rintro e w10 ⟨rfl, hB⟩
      have hB_10 : Below v9.heap.size v9 w10 := (bl.next hB)
      have X_10 := X_9.next hB_10
      have cX_10_0 : _ = some (Value.bool s) := X_10.cell 0
      have cX_10_1 : _ = some (Value.slice a n c) := X_10.cell 1
      have cX_10_2 : _ = some (Value.slice b m d) := X_10.cell 2
      have M_10 := M_9.next hB_10
      have cM_10_0 : _ = some (Value.bool s) := M_10.cell 0
      have cM_10_1 : _ = some (Value.slice pa n1 pc) := M_10.cell 1
      have cM_10_2 : _ = some (Value.slice pb m1 pd) := M_10.cell 2
      have TH_10 := TH_9.next hB_10
      have cTH_10_0 : _ = some (Value.int .u32 3) := TH_10.cell 0
      have BQ_10 := BQ_9.next hB_10
      have cBQ_10_0 : _ = some (Value.bool s) := BQ_10.cell 0
      have cBQ_10_1 : _ = some (Value.slice (some ⟨w8.heap.size, 0, none⟩) 1 1) := BQ_10.cell 1
      have cBQ_10_2 : _ = some (Value.slice (some ⟨dg, 0, none⟩) (i + 1) dc) := BQ_10.cell 2
      have hbV_10 := hbV_9.next hB_10
      have Q_10 := Q_9.below hB_10
      have hbel_10 := hbel_9.next hB_10
      have hsz_10 := hB_10.size
      clear X_9 cX_9_0 cX_9_1 cX_9_2 M_9 cM_9_0 cM_9_1 cM_9_2 TH_9 cTH_9_0 BQ_9 cBQ_9_0 cBQ_9_1 cBQ_9_2 hbV_9 Q_9 hbel_9 hB_10
      try clear hB
      go_wp2_with fail
      refine (HE2.out _ Q_10).mono ?_
      rintro e w11 ⟨rfl, hB⟩
      have hB_11 : Below w10.heap.size w10 w11 := (bl.next hB)
      have X_11 := X_10.next hB_11
      have cX_11_0 : _ = some (Value.bool s) := X_11.cell 0
      have cX_11_1 : _ = some (Value.slice a n c) := X_11.cell 1
      have cX_11_2 : _ = some (Value.slice b m d) := X_11.cell 2
      have M_11 := M_10.next hB_11
      have cM_11_0 : _ = some (Value.bool s) := M_11.cell 0
      have cM_11_1 : _ = some (Value.slice pa n1 pc) := M_11.cell 1
      have cM_11_2 : _ = some (Value.slice pb m1 pd) := M_11.cell 2
      have TH_11 := TH_10.next hB_11
      have cTH_11_0 : _ = some (Value.int .u32 3) := TH_11.cell 0
      have BQ_11 := BQ_10.next hB_11
      have cBQ_11_0 : _ = some (Value.bool s) := BQ_11.cell 0
      have cBQ_11_1 : _ = some (Value.slice (some ⟨w8.heap.size, 0, none⟩) 1 1) := BQ_11.cell 1
      have cBQ_11_2 : _ = some (Value.slice (some ⟨dg, 0, none⟩) (i + 1) dc) := BQ_11.cell 2
      have hbV_11 := hbV_10.next hB_11
      have Q_11 := Q_10.below hB_11
      have hbel_11 := hbel_10.next hB_11
      have hsz_11 := hB_11.size
      clear X_10 cX_10_0 cX_10_1 cX_10_2 M_10 cM_10_0 cM_10_1 cM_10_2 TH_10 cTH_10_0 BQ_10 cBQ_10_0 cBQ_10_1 cBQ_10_2 hbV_10 Q_10 hbel_10 hB_11
      try clear hB
      go_wp2
      go_ret
      exact ⟨rfl, hbel_11⟩

theorem decimalExact_walk {w : World} {a b : Option Addr} {n c m d : Nat} {l k : List Nat} (s : Bool) (ha : Rd w a n c l) (hb : Rd w b m d k) (tw : Int) (htw1 : -9223372036854775808 ≤ tw) (htw2 : tw ≤ 9223372036854775807) (fi : Int) (hfi1 : -9223372036854775808 ≤ fi) (hfi2 : fi ≤ 9223372036854775807) : Calls Try.prog 8 #[.agg #[.bool s, .slice a n c, .slice b m d], .int .i64 tw, .int .i64 fi] w (fun e w' => e = .returned (.bool true) ∧ Below w.heap.size w w') := by
  by_cases h : tw.tmod 2 = 0
  · exact dexact_law1 s ha hb tw htw1 htw2 fi hfi1 hfi2 h
  · exact dexact_law0 s ha hb tw htw1 htw2 fi hfi1 hfi2 h
end Go.Proofs.Ytbodlkfhmapngaa

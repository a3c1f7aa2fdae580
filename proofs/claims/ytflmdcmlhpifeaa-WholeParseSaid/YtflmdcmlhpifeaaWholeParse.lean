/- THE WALK OF credencelaw02.WholeParse: of every text the number, or the error. -/
import Derived.Test.YtflmdcmlhpifeaaZf
namespace Go.Proofs.Ytflmdcmlhpifeaa
set_option linter.unusedVariables false
set_option linter.unusedSimpArgs false
open Go.ChangeShapes Go.WideShapes Go.ChangeAt Go.RowKit Go.NatP

set_option maxRecDepth 100000 in
set_option maxHeartbeats 4000000 in
theorem wholeParse_walk {w : World} (s : ByteArray) (hs : s.size ≤ maxLen) :
    Calls Try.prog 3 #[.string s] w fun e w' => e = .returned (.bool true) ∧ Below w.heap.size w w' := by
  by_cases hlong : 1000 < s.size
  · go_enter Try.func3, Try.ntmps3
    unfold maxLen at hs
    go_wp2
    go_ret
    exact ⟨rfl, Below.refl _ _⟩
  have hs1 : s.size ≤ 1000 := by omega
  clear hs
  obtain ⟨Z, hZ⟩ : ∃ z, pzZ s = z := ⟨_, rfl⟩
  obtain ⟨E, hE⟩ : ∃ z, pzE s = z := ⟨_, rfl⟩
  have hP := hid (fun w => zparse_any (w := w) s (by omega))
  have hR := hid (fun w => rzparse_any (w := w) s (by omega))
  rw [hZ, hE] at hP hR
  clear hZ hE
  go_enter Try.func3, Try.ntmps3
  go_wp2_with fail
  refine (hR.out _).mono ?_
  rintro e w1 ⟨q, qn, qc, rfl, hO, hB⟩
  have hstep : Below w.heap.size w w1 := (by first | exact hB | exact below_drew hB)
  have hbel1 := (Below.refl w.heap.size w).next hstep
  have hle1 := hbel1.size
  have hls1 := hstep.size
  clear hstep
  have Oq_2 := hO
  have hltq := hid hO.lt'
  clear hO hB
  have hbx := blk_new w1 #[Value.bool (decide (Z < 0)), Value.slice q qn qc] 25
  have hbB := (Below.refl w1.heap.size w1).alloc (Nat.le_refl _) (.cells #[Value.bool (decide (Z < 0)), Value.slice q qn qc] 25)
  have hbg := hbx.lt
  have hstep : Below w1.heap.size w1 (w1.alloc (.cells #[Value.bool (decide (Z < 0)), Value.slice q qn qc] 25)) := (by first | exact hbB | exact below_drew hbB)
  have Oq_3 := Oq_2.below hstep
  have hbel4 := hbel1.next hstep
  have hle4 := hbel4.size
  have hls4 := hstep.size
  clear Oq_2 hbel1 hstep
  have Xq_5 := hbx
  have cXq0_5 : _ = some (Value.bool (decide (Z < 0))) := Xq_5.cell 0
  have cXq1_5 : _ = some (Value.slice q qn qc) := Xq_5.cell 1
  clear hbx hbB
  go_wp2_with fail
  generalize (w1.alloc (.cells #[Value.bool (decide (Z < 0)), Value.slice q qn qc] 25)) = v2 at *
  refine (hP.out _).mono ?_
  rintro e w3 ⟨a, an, ac, rfl, hO, hB⟩
  clear cXq0_5 cXq1_5
  have hstep : Below v2.heap.size v2 w3 := (by first | exact hB | exact below_drew hB)
  have Xq_6 := Xq_5.next hstep
  have Oq_7 := Oq_3.below hstep
  have hbel8 := hbel4.next hstep
  have hle8 := hbel8.size
  have hls8 := hstep.size
  clear Xq_5 Oq_3 hbel4 hstep
  have cXq0_8 : _ = some (Value.bool (decide (Z < 0))) := Xq_6.cell 0
  have cXq1_8 : _ = some (Value.slice q qn qc) := Xq_6.cell 1
  have Oa_9 := hO
  have hlta := hid hO.lt'
  have hba := hO.bnd
  clear hO hB
  have hbx := blk_new w3 #[Value.bool (decide (Z < 0)), Value.slice a an ac] 25
  have hbB := (Below.refl w3.heap.size w3).alloc (Nat.le_refl _) (.cells #[Value.bool (decide (Z < 0)), Value.slice a an ac] 25)
  have hbg := hbx.lt
  clear cXq0_8 cXq1_8
  have hstep : Below w3.heap.size w3 (w3.alloc (.cells #[Value.bool (decide (Z < 0)), Value.slice a an ac] 25)) := (by first | exact hbB | exact below_drew hbB)
  have Xq_10 := Xq_6.next hstep
  have Oq_11 := Oq_7.below hstep
  have Oa_12 := Oa_9.below hstep
  have hbel13 := hbel8.next hstep
  have hle13 := hbel13.size
  have hls13 := hstep.size
  clear Xq_6 Oq_7 Oa_9 hbel8 hstep
  have cXq0_13 : _ = some (Value.bool (decide (Z < 0))) := Xq_10.cell 0
  have cXq1_13 : _ = some (Value.slice q qn qc) := Xq_10.cell 1
  have Xa_14 := hbx
  have cXa0_14 : _ = some (Value.bool (decide (Z < 0))) := Xa_14.cell 0
  have cXa1_14 : _ = some (Value.slice a an ac) := Xa_14.cell 1
  clear hbx hbB
  go_wp2_with fail
  generalize (w3.alloc (.cells #[Value.bool (decide (Z < 0)), Value.slice a an ac] 25)) = v4 at *
  refine (hP.out _).mono ?_
  rintro e w5 ⟨b, bn, bc, rfl, hO, hB⟩
  clear cXq0_13 cXq1_13 cXa0_14 cXa1_14
  have hstep : Below v4.heap.size v4 w5 := (by first | exact hB | exact below_drew hB)
  have Xq_15 := Xq_10.next hstep
  have Xa_16 := Xa_14.next hstep
  have Oq_17 := Oq_11.below hstep
  have Oa_18 := Oa_12.below hstep
  have hbel19 := hbel13.next hstep
  have hle19 := hbel19.size
  have hls19 := hstep.size
  clear Xq_10 Xa_14 Oq_11 Oa_12 hbel13 hstep
  have cXq0_19 : _ = some (Value.bool (decide (Z < 0))) := Xq_15.cell 0
  have cXq1_19 : _ = some (Value.slice q qn qc) := Xq_15.cell 1
  have cXa0_19 : _ = some (Value.bool (decide (Z < 0))) := Xa_16.cell 0
  have cXa1_19 : _ = some (Value.slice a an ac) := Xa_16.cell 1
  have Ob_20 := hO
  have hltb := hid hO.lt'
  clear hO hB
  have hbx := blk_new w5 #[Value.bool (decide (Z < 0)), Value.slice b bn bc] 25
  have hbB := (Below.refl w5.heap.size w5).alloc (Nat.le_refl _) (.cells #[Value.bool (decide (Z < 0)), Value.slice b bn bc] 25)
  have hbg := hbx.lt
  clear cXq0_19 cXq1_19 cXa0_19 cXa1_19
  have hstep : Below w5.heap.size w5 (w5.alloc (.cells #[Value.bool (decide (Z < 0)), Value.slice b bn bc] 25)) := (by first | exact hbB | exact below_drew hbB)
  have Xq_21 := Xq_15.next hstep
  have Xa_22 := Xa_16.next hstep
  have Oq_23 := Oq_17.below hstep
  have Oa_24 := Oa_18.below hstep
  have Ob_25 := Ob_20.below hstep
  have hbel26 := hbel19.next hstep
  have hle26 := hbel26.size
  have hls26 := hstep.size
  clear Xq_15 Xa_16 Oq_17 Oa_18 Ob_20 hbel19 hstep
  have cXq0_26 : _ = some (Value.bool (decide (Z < 0))) := Xq_21.cell 0
  have cXq1_26 : _ = some (Value.slice q qn qc) := Xq_21.cell 1
  have cXa0_26 : _ = some (Value.bool (decide (Z < 0))) := Xa_22.cell 0
  have cXa1_26 : _ = some (Value.slice a an ac) := Xa_22.cell 1
  have Xb_27 := hbx
  have cXb0_27 : _ = some (Value.bool (decide (Z < 0))) := Xb_27.cell 0
  have cXb1_27 : _ = some (Value.slice b bn bc) := Xb_27.cell 1
  clear hbx hbB
  go_wp2_with fail
  generalize (w5.alloc (.cells #[Value.bool (decide (Z < 0)), Value.slice b bn bc] 25)) = v6 at *
  refine (zsame_true (l := lm Z.natAbs) (decide (Z < 0)) Oa_24.rd Oq_23.rd).mono ?_
  rintro e w7 ⟨rfl, hB⟩
  clear cXq0_26 cXq1_26 cXa0_26 cXa1_26 cXb0_27 cXb1_27
  have hstep : Below v6.heap.size v6 w7 := (by first | exact hB | exact below_drew hB)
  have Xq_28 := Xq_21.next hstep
  have Xa_29 := Xa_22.next hstep
  have Xb_30 := Xb_27.next hstep
  have Oq_31 := Oq_23.below hstep
  have Oa_32 := Oa_24.below hstep
  have Ob_33 := Ob_25.below hstep
  have hbel34 := hbel26.next hstep
  have hle34 := hbel34.size
  have hls34 := hstep.size
  clear Xq_21 Xa_22 Xb_27 Oq_23 Oa_24 Ob_25 hbel26 hstep
  have cXq0_34 : _ = some (Value.bool (decide (Z < 0))) := Xq_28.cell 0
  have cXq1_34 : _ = some (Value.slice q qn qc) := Xq_28.cell 1
  have cXa0_34 : _ = some (Value.bool (decide (Z < 0))) := Xa_29.cell 0
  have cXa1_34 : _ = some (Value.slice a an ac) := Xa_29.cell 1
  have cXb0_34 : _ = some (Value.bool (decide (Z < 0))) := Xb_30.cell 0
  have cXb1_34 : _ = some (Value.slice b bn bc) := Xb_30.cell 1
  go_wp2_with fail
  refine (zsame_true (l := lm Z.natAbs) (decide (Z < 0)) Ob_33.rd Oq_31.rd).mono ?_
  rintro e w8 ⟨rfl, hB⟩
  clear cXq0_34 cXq1_34 cXa0_34 cXa1_34 cXb0_34 cXb1_34
  have hstep : Below w7.heap.size w7 w8 := (by first | exact hB | exact below_drew hB)
  have Xq_35 := Xq_28.next hstep
  have Xa_36 := Xa_29.next hstep
  have Xb_37 := Xb_30.next hstep
  have Oq_38 := Oq_31.below hstep
  have Oa_39 := Oa_32.below hstep
  have Ob_40 := Ob_33.below hstep
  have hbel41 := hbel34.next hstep
  have hle41 := hbel41.size
  have hls41 := hstep.size
  clear Xq_28 Xa_29 Xb_30 Oq_31 Oa_32 Ob_33 hbel34 hstep
  have cXq0_41 : _ = some (Value.bool (decide (Z < 0))) := Xq_35.cell 0
  have cXq1_41 : _ = some (Value.slice q qn qc) := Xq_35.cell 1
  have cXa0_41 : _ = some (Value.bool (decide (Z < 0))) := Xa_36.cell 0
  have cXa1_41 : _ = some (Value.slice a an ac) := Xa_36.cell 1
  have cXb0_41 : _ = some (Value.bool (decide (Z < 0))) := Xb_37.cell 0
  have cXb1_41 : _ = some (Value.slice b bn bc) := Xb_37.cell 1
  go_wp2
  clear cXq0_41 cXq1_41 cXa0_41 cXa1_41 cXb0_41 cXb1_41
  have hba1 : v2.heap.size ≤ v2.heap.size := Nat.le_refl _
  go_loopw [9] (fun iv wr => ∃ (i : Nat) (S : List Nat), i ≤ an ∧ iv = .int .i64 i ∧ Own v2.heap.size wr a an ac S ∧ Own v4.heap.size wr b bn bc (lm Z.natAbs) ∧ Own w.heap.size wr q qn qc (lm Z.natAbs) ∧ Blk wr w1.heap.size #[Value.bool (decide (Z < 0)), Value.slice q qn qc] ∧ Blk wr w3.heap.size #[Value.bool (decide (Z < 0)), Value.slice a an ac] ∧ Blk wr w5.heap.size #[Value.bool (decide (Z < 0)), Value.slice b bn bc] ∧ Below w.heap.size w wr) (fun iv _ => an - (intOf iv).toNat)
  case atStart => exact ⟨0, _, by omega, rfl, Oa_39, Ob_40, Oq_38, Xq_35, Xa_36, Xb_37, hbel41⟩
  case round =>
    clear Oa_39 Ob_40 Oq_38 Xq_35 Xa_36 Xb_37 hbel41
    obtain ⟨i, S, hi, rfl, hOa, hOb, hOq, hXq, hXa, hXb, hB⟩ := hrel
    have ca0 : _ = some (Value.bool (decide (Z < 0))) := hXa.cell 0
    have ca1 : _ = some (Value.slice a an ac) := hXa.cell 1
    by_cases hlt : i < an
    · obtain ⟨g, rfl⟩ : ∃ g, a = some ⟨g, 0, none⟩ := by
        rcases hOa.cases with ⟨_, h, _⟩ | ⟨g, h, _⟩
        · omega
        · exact ⟨g, h⟩
      have hg := hlta.out g rfl
      have hc := hOa.cell hlt
      have hf := hOa.free i
      have h1 := hid (hOa.set i 77 (by decide))
      have h2 := hid (hOb.set_other (i := i) (g := g) (.int .u32 77) (fun g' e => by have := hltb.out g' e; omega))
      have h3 := hid (hOq.set_other (i := i) (g := g) (.int .u32 77) (fun g' e => by have := hltq.out g' e; omega))
      have h4 := hid (hXq.set_other (i := i) (g' := g) (v := .int .u32 77) (by omega))
      have h5 := hid (hXa.set_other (i := i) (g' := g) (v := .int .u32 77) (by omega))
      have h6 := hid (hXb.set_other (i := i) (g' := g) (v := .int .u32 77) (by omega))
      have h7 := hid (hB.setCell (p := ⟨g, i, none⟩) (by show w.heap.size ≤ g; omega) (.int .u32 77))
      clear hOa hOb hOq hXq hXa hXb hB
      go_wp2
      go_roundw
      case rel => exact ⟨i + 1, _, by omega, by go_num, h1.out, h2.out, h3.out, h4.out, h5.out, h6.out, h7.out⟩
      case measure => simp [intOf]; omega
    · obtain rfl : i = an := by omega
      have hle := hB.size
      clear hOa hlta hba
      clear hXa
      have cXq0_42 : _ = some (Value.bool (decide (Z < 0))) := hXq.cell 0
      have cXq1_42 : _ = some (Value.slice q qn qc) := hXq.cell 1
      have cXb0_43 : _ = some (Value.bool (decide (Z < 0))) := hXb.cell 0
      have cXb1_43 : _ = some (Value.slice b bn bc) := hXb.cell 1
      go_wp2_with fail
      refine (hP.out _).mono ?_
      rintro e w9 ⟨d, dn, dc, rfl, hO, hBd⟩
      clear cXq0_42 cXq1_42 cXb0_43 cXb1_43
      have hstep : Below wr.heap.size wr w9 := (by first | exact hBd | exact below_drew hBd)
      have Xq_44 := hXq.next hstep
      have Xb_45 := hXb.next hstep
      have Ob_46 := hOb.below hstep
      have Oq_47 := hOq.below hstep
      have hbel48 := hB.next hstep
      have hle48 := hbel48.size
      have hls48 := hstep.size
      clear hXq hXb hOb hOq hB hstep
      have cXq0_48 : _ = some (Value.bool (decide (Z < 0))) := Xq_44.cell 0
      have cXq1_48 : _ = some (Value.slice q qn qc) := Xq_44.cell 1
      have cXb0_48 : _ = some (Value.bool (decide (Z < 0))) := Xb_45.cell 0
      have cXb1_48 : _ = some (Value.slice b bn bc) := Xb_45.cell 1
      have Od_49 := hO
      clear hO hBd
      have hbx := blk_new w9 #[Value.bool (decide (Z < 0)), Value.slice d dn dc] 25
      have hbB := (Below.refl w9.heap.size w9).alloc (Nat.le_refl _) (.cells #[Value.bool (decide (Z < 0)), Value.slice d dn dc] 25)
      have hbg := hbx.lt
      clear cXq0_48 cXq1_48 cXb0_48 cXb1_48
      have hstep : Below w9.heap.size w9 (w9.alloc (.cells #[Value.bool (decide (Z < 0)), Value.slice d dn dc] 25)) := (by first | exact hbB | exact below_drew hbB)
      have Xq_50 := Xq_44.next hstep
      have Xb_51 := Xb_45.next hstep
      have Ob_52 := Ob_46.below hstep
      have Oq_53 := Oq_47.below hstep
      have Od_54 := Od_49.below hstep
      have hbel55 := hbel48.next hstep
      have hle55 := hbel55.size
      have hls55 := hstep.size
      clear Xq_44 Xb_45 Ob_46 Oq_47 Od_49 hbel48 hstep
      have cXq0_55 : _ = some (Value.bool (decide (Z < 0))) := Xq_50.cell 0
      have cXq1_55 : _ = some (Value.slice q qn qc) := Xq_50.cell 1
      have cXb0_55 : _ = some (Value.bool (decide (Z < 0))) := Xb_51.cell 0
      have cXb1_55 : _ = some (Value.slice b bn bc) := Xb_51.cell 1
      have Xd_56 := hbx
      have cXd0_56 : _ = some (Value.bool (decide (Z < 0))) := Xd_56.cell 0
      have cXd1_56 : _ = some (Value.slice d dn dc) := Xd_56.cell 1
      clear hbx hbB
      go_wp2_with fail
      generalize (w9.alloc (.cells #[Value.bool (decide (Z < 0)), Value.slice d dn dc] 25)) = v10 at *
      refine (zsame_true (l := lm Z.natAbs) (decide (Z < 0)) Ob_52.rd Oq_53.rd).mono ?_
      rintro e w11 ⟨rfl, hBs⟩
      clear cXq0_55 cXq1_55 cXb0_55 cXb1_55 cXd0_56 cXd1_56
      have hstep : Below v10.heap.size v10 w11 := (by first | exact hBs | exact below_drew hBs)
      have Xq_57 := Xq_50.next hstep
      have Xb_58 := Xb_51.next hstep
      have Xd_59 := Xd_56.next hstep
      have Ob_60 := Ob_52.below hstep
      have Oq_61 := Oq_53.below hstep
      have Od_62 := Od_54.below hstep
      have hbel63 := hbel55.next hstep
      have hle63 := hbel63.size
      have hls63 := hstep.size
      clear Xq_50 Xb_51 Xd_56 Ob_52 Oq_53 Od_54 hbel55 hstep
      have cXq0_63 : _ = some (Value.bool (decide (Z < 0))) := Xq_57.cell 0
      have cXq1_63 : _ = some (Value.slice q qn qc) := Xq_57.cell 1
      have cXb0_63 : _ = some (Value.bool (decide (Z < 0))) := Xb_58.cell 0
      have cXb1_63 : _ = some (Value.slice b bn bc) := Xb_58.cell 1
      have cXd0_63 : _ = some (Value.bool (decide (Z < 0))) := Xd_59.cell 0
      have cXd1_63 : _ = some (Value.slice d dn dc) := Xd_59.cell 1
      go_wp2_with fail
      refine (zsame_true (l := lm Z.natAbs) (decide (Z < 0)) Od_62.rd Oq_61.rd).mono ?_
      rintro e w12 ⟨rfl, hBt⟩
      clear cXq0_63 cXq1_63 cXb0_63 cXb1_63 cXd0_63 cXd1_63
      have hstep : Below w11.heap.size w11 w12 := (by first | exact hBt | exact below_drew hBt)
      have Xq_64 := Xq_57.next hstep
      have Xb_65 := Xb_58.next hstep
      have Xd_66 := Xd_59.next hstep
      have Ob_67 := Ob_60.below hstep
      have Oq_68 := Oq_61.below hstep
      have Od_69 := Od_62.below hstep
      have hbel70 := hbel63.next hstep
      have hle70 := hbel70.size
      have hls70 := hstep.size
      clear Xq_57 Xb_58 Xd_59 Ob_60 Oq_61 Od_62 hbel63 hstep
      have cXq0_70 : _ = some (Value.bool (decide (Z < 0))) := Xq_64.cell 0
      have cXq1_70 : _ = some (Value.slice q qn qc) := Xq_64.cell 1
      have cXb0_70 : _ = some (Value.bool (decide (Z < 0))) := Xb_65.cell 0
      have cXb1_70 : _ = some (Value.slice b bn bc) := Xb_65.cell 1
      have cXd0_70 : _ = some (Value.bool (decide (Z < 0))) := Xd_66.cell 0
      have cXd1_70 : _ = some (Value.slice d dn dc) := Xd_66.cell 1
      go_wp2
      go_ret
      exact ⟨rfl, hbel70⟩

end Go.Proofs.Ytflmdcmlhpifeaa

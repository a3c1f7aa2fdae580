/- WALKS OF FRACTIONS, 4: a text cut at its first stroke '/'. -/
import Derived.Test.YtennilapmcgnbaaMq
import Derived.Lib.Bytealg
import Derived.Lib.IndexLaws
import Derived.Test.YtennilapmcgnbaaQ1
import Derived.Deep.Cut
namespace Go.Proofs.Ytennilapmcgnbaa
set_option linter.unusedVariables false
set_option linter.unusedSimpArgs false
open Go.ChangeShapes Go.WideShapes Go.ChangeAt Go.RowKit Go.NatP

/-- where the first '/' stands, or -1 -/
def slI (s : ByteArray) : Int := Lib.indexByte s.data.toList 47
theorem slI_cases (s : ByteArray) : slI s = -1 ∨ ∃ i : Nat, slI s = i ∧ i < s.size := by
  by_cases h : 0 ≤ slI s
  · refine .inr ⟨(slI s).toNat, by omega, ?_⟩
    have h1 : Lib.indexByte s.data.toList 47 = ((slI s).toNat : Nat) := by show slI s = _; omega
    have h2 := (Lib.indexByte_some h1).1
    have := (List.getElem?_eq_some_iff.1 h2).1
    simpa using this
  · have := Lib.indexByte_ge s.data.toList 47
    exact .inl (by show slI s = -1; unfold slI at *; omega)
def cutA (s : ByteArray) : ByteArray := if slI s < 0 then s else s.extract 0 (slI s).toNat
def cutB (s : ByteArray) : ByteArray := if slI s < 0 then ⟨#[]⟩ else s.extract ((slI s).toNat + 1) s.size
def cutF (s : ByteArray) : Bool := decide (0 ≤ slI s)

set_option maxRecDepth 100000 in
theorem slib_any {w : World} (s : ByteArray) : Calls Try.prog 83 #[.string s, .int .u8 47] w fun e w' => e = .returned (.int .i64 (slI s)) ∧ w' = w := by
  go_enter Try.func83, Try.ntmps83
  go_wp2
  rw [run_callFunc_extern Try.func88 (by kernel_rfl) (by kernel_rfl) (by kernel_rfl) (e := Extern.BytealgIndexByte.indexByte) (by kernel_rfl), Lib.run_indexByteString]
  simp only [Result.andThen]
  rw [Oper.upon_value]
  go_wp2
  first | go_ret | go_ret2
  exact ⟨by rfl, rfl⟩

set_option maxRecDepth 100000 in
set_option maxHeartbeats 1000000 in
theorem slix_any {w : World} (s : ByteArray) : Calls Try.prog 81 #[.string s, .string ⟨#[47]⟩] w fun e w' => e = .returned (.int .i64 (slI s)) ∧ w' = w := by
  cases hb : ([47] == s.toList)
  · go_enter Try.func81, Try.ntmps81
    go_wp2_with (go_at_call 83; refine (slib_any s).mono ?_; rintro e w' ⟨rfl, rfl⟩)
    first | go_ret | go_ret2
    exact ⟨by rfl, rfl⟩
  · have hs : s.toList = [47] := by simpa using (beq_iff_eq.1 hb).symm
    have h0 : slI s = 0 := by
      have : s.data.toList = [47] := by rw [← ByteArray.toList_eq]; exact hs
      unfold slI; rw [this]; rfl
    rw [h0]
    clear h0 hs
    go_enter Try.func81, Try.ntmps81
    go_wp2_with fail
    first | go_ret | go_ret2
    exact ⟨by rfl, rfl⟩

def RetCut3 (w : World) (s : ByteArray) (e : Ending) (w' : World) : Prop := e = .returned (.tuple #[.string (cutA s), .string (cutB s), .bool (cutF s)]) ∧ Below w.heap.size w w'

set_option maxRecDepth 100000 in
set_option maxHeartbeats 1000000 in
theorem slcut_any {w : World} (s : ByteArray) (hs : s.size ≤ maxLen) : Calls Try.prog 73 #[.string s, .string ⟨#[47]⟩] w (RetCut3 w s) := by
  unfold maxLen at hs
  have H := hid (fun w => slix_any (w := w) s)
  rcases slI_cases s with h | ⟨i, h, hi⟩
  · have hg : Hid (cutA s = s ∧ cutB s = ⟨#[]⟩ ∧ cutF s = false) := by show _ ∧ _ ∧ _; unfold cutA cutB cutF; rw [h]; exact ⟨rfl, rfl, rfl⟩
    rw [h] at H
    clear h
    unfold RetCut3
    rw [hg.out.1, hg.out.2.1, hg.out.2.2]
    go_enter Try.func73, Try.ntmps73
    go_wp2_with fail
    refine (H.out _).mono ?_
    rintro e w' ⟨rfl, rfl⟩
    go_wp2
    go_ret3
    exact ⟨rfl, Below.refl _ _⟩
  · have hg : Hid (cutA s = s.extract 0 i ∧ cutB s = s.extract (i + 1) s.size ∧ cutF s = true) := by
      show _ ∧ _ ∧ _
      unfold cutA cutB cutF
      rw [h, if_neg (by omega), if_neg (by omega)]
      exact ⟨rfl, rfl, decide_eq_true (by omega)⟩
    rw [h] at H
    clear h
    unfold RetCut3
    rw [hg.out.1, hg.out.2.1, hg.out.2.2]
    go_enter Try.func73, Try.ntmps73
    go_wp2_with fail
    refine (H.out _).mono ?_
    rintro e w' ⟨rfl, rfl⟩
    have hw : IntKind.i64.wrap ((i : Int) + 1) = ((i + 1 : Nat) : Int) := by rw [IntKind.wrap_i64]; omega
    go_wp2
    go_quiet (fail)
    go_wp2
    go_ret3
    exact ⟨rfl, (Below.refl _ _).drewN' _⟩

set_option maxRecDepth 100000 in
set_option maxHeartbeats 1000000 in
theorem strcut_any {w : World} (s : ByteArray) (hs : s.size ≤ maxLen) : Calls Try.prog 58 #[.string s, .string ⟨#[47]⟩] w (RetCut3 w s) := by
  have H := hid (fun w => slcut_any (w := w) s hs)
  go_enter Try.func58, Try.ntmps58
  go_wp2_with fail
  refine (H.out _).mono ?_
  rintro e w' ⟨rfl, hB⟩
  go_wp2
  go_ret3
  exact ⟨rfl, hB⟩

end Go.Proofs.Ytennilapmcgnbaa
/- WALKS OF FRACTIONS, 5: texts. -/
namespace Go.Proofs.Ytennilapmcgnbaa
set_option linter.unusedVariables false
set_option linter.unusedSimpArgs false
open Go.ChangeShapes Go.WideShapes Go.ChangeAt Go.RowKit Go.NatP

/-- a fraction's text -/
def qtx (q : Rat) : ByteArray := if q.den = 1 then ztx q.num else ztx q.num ++ (⟨#[47]⟩ ++ txt (tx q.den))
theorem ztx_size {z : Int} {k : Nat} (h : Sz z.natAbs k) : (ztx z).size ≤ 10 * k + 3 := by
  have := txt_size (dl_len_le h.len)
  unfold ztx
  split
  · rw [ByteArray.size_append]; have : (⟨#[45]⟩ : ByteArray).size = 1 := rfl; omega
  · omega
theorem txt_sz {v : Nat} {k : Nat} (h : Sz v k) : (txt (tx v)).size ≤ 10 * k + 2 := by have := txt_size (dl_len_le h.len); omega

set_option maxRecDepth 100000 in
set_option maxHeartbeats 4000000 in
theorem qtext1 {w : World} {a1 b1 : Option Addr} {n1 c1 m1 d1 : Nat} {s : Bool} {x : Rat} {J : Nat} (hx : RdQ J w s a1 n1 c1 b1 m1 d1 x) (hJ : J ≤ 1000000) (h1 : x.den = 1) :
    Calls Try.prog 29 #[.agg #[.bool s, .slice a1 n1 c1, .slice b1 m1 d1]] w (RetT w (qtx x)) := by
  have hd1' := h1
  clear h1
  rw [show qtx x = ztx x.num by unfold qtx; rw [if_pos hd1']]
  obtain ⟨u1, v1, h1, hd1, rfl⟩ := hx
  have hz1 := h1.toZ (s := s)
  have sd1 := hid (sz_und (hd1.sz.mono (Nat.le_refl _) (Nat.le_succ J)) (by omega))
  have su1 := hid h1.sz
  have hu1 := hid (und_ne v1)
  unfold qv
  have hqs := QS.mk (n := zv s u1) hu1.out (hz1.sz.mono (Nat.le_refl _) (Nat.le_succ J)) sd1.out
  have hqd : qv s u1 v1 = mkRat (zv s u1) (und v1) := rfl
  rw [hqd] at hd1'
  clear hqd
  have HU1 := hid (fun W (h : RdN J W b1 m1 d1 v1) => qunder (w := W) (s := s) (a := a1) (n := n1) (c := c1) (h.mono (show _ ≤ 4194304 by omega)))
  generalize hD1 : und v1 = e1 at *
  clear hD1
  generalize hq : mkRat (zv s u1) e1 = q at *
  have hq' := hid hq
  have hs1 := hid hqs.1
  have hs2 := hid hqs.2
  have ht1 := ztx_size hqs.1
  have ht2 := txt_sz hqs.2
  clear hq hqs hz1
  have hc : cmpI q.den 1 = 0 := by unfold cmpI; split <;> (try split) <;> omega
  have hch := hid hc
  clear hc
  have hn1 := hid hd1'
  clear hd1'
  have hent := ent1 w #[Value.bool s, Value.slice a1 n1 c1, Value.slice b1 m1 d1] 28
  go_enter Try.func29, Try.ntmps29
  go_wp2_with fail
  generalize (w.alloc (.cells #[Value.bool s, Value.slice a1 n1 c1, Value.slice b1 m1 d1] 28)) = W0 at hent ⊢
  obtain ⟨X_0, hbel_0, hsz_0⟩ := hent
  have cX_0_0 : _ = some (Value.bool s) := X_0.cell 0
  have fX_0_0 := X_0.free 0
  have cX_0_1 : _ = some (Value.slice a1 n1 c1) := X_0.cell 1
  have fX_0_1 := X_0.free 1
  have cX_0_2 : _ = some (Value.slice b1 m1 d1) := X_0.cell 2
  have fX_0_2 := X_0.free 2
  have h1_0 := h1.below hbel_0
  clear h1
  have hd1_0 := hd1.below hbel_0
  clear hd1
  go_wp2_with fail
  go_cut [] (fun wx => ∃ (Xa : Option Addr) (Xn Xc : Nat) (Xb : Option Addr) (Xm Xd : Nat), Blk wx (w.heap.size) #[Value.bool (decide ((q).num < 0)), Value.slice Xa Xn Xc, Value.slice Xb Xm Xd] ∧ Own W0.heap.size wx Xa Xn Xc (lm (q).num.natAbs) ∧ Own W0.heap.size wx Xb Xm Xd (lm (q).den) ∧ Below w.heap.size w wx ∧ W0.heap.size ≤ wx.heap.size)
  case first =>
    go_wp2_with fail
    go_region_with
      (first
        | (go_at_call 34; ((with_reducible refine (HU1.out _ (hd1_0.below bl)).mono ?_); (rintro e w1 ⟨va, vn, vc, rfl, hO, hB⟩; have hB_1 : Below W0.heap.size W0 w1 := (bl.next hB); have X_1 := X_0.next hB_1; have cX_1_0 : _ = some (Value.bool s) := X_1.cell 0; have fX_1_0 := X_1.free 0; have cX_1_1 : _ = some (Value.slice a1 n1 c1) := X_1.cell 1; have fX_1_1 := X_1.free 1; have cX_1_2 : _ = some (Value.slice b1 m1 d1) := X_1.cell 2; have fX_1_2 := X_1.free 2; have h1_1 := h1_0.below hB_1; have hd1_1 := hd1_0.below hB_1; have hbel_1 := hbel_0.next hB_1; have hsz_1 := hB_1.size; clear X_0 cX_0_0 fX_0_0 cX_0_1 fX_0_1 cX_0_2 fX_0_2 h1_0 hd1_0 hbel_0 hB_1; have V_1 := hO.rdN sd1.out; clear hO; try clear hB)))
        | (go_at_call 35; ((with_reducible refine (qlow s ((h1_1.below bl).mono (by omega)) ((V_1.below bl).mono (by omega)) hu1.out).mono ?_); (rw [hq'.out]; rintro e w2 ⟨qa, qn, qc, da, dn, dc, rfl, hO, hO', hD, hB⟩; have hB_2 : Below w1.heap.size w1 w2 := (bl.next hB); have X_2 := X_1.next hB_2; have cX_2_0 : _ = some (Value.bool s) := X_2.cell 0; have fX_2_0 := X_2.free 0; have cX_2_1 : _ = some (Value.slice a1 n1 c1) := X_2.cell 1; have fX_2_1 := X_2.free 1; have cX_2_2 : _ = some (Value.slice b1 m1 d1) := X_2.cell 2; have fX_2_2 := X_2.free 2; have h1_2 := h1_1.below hB_2; have hd1_2 := hd1_1.below hB_2; have V_2 := V_1.below hB_2; have hbel_2 := hbel_1.next hB_2; have hsz_2 := hB_2.size; clear X_1 cX_1_0 fX_1_0 cX_1_1 fX_1_1 cX_1_2 fX_1_2 h1_1 hd1_1 V_1 hbel_1 hB_2; try clear hB))))
    all_goals (go_wp2_with fail; go_meet; exact ⟨_, _, _, _, _, _, (show Blk _ _ #[_, _, _] from ((X_2.setCell (i := 0) (v := _) (by simp)).setCell (i := 1) (v := _) (by simp)).setCell (i := 2) (v := _) (by simp)), (hO.set3 (by omega) _ _ _).mono (by omega), (hO'.set3 (by omega) _ _ _).mono (by omega), Below.set3 hbel_2 (by omega) _ _ _, by simp [World.setCell]; omega⟩)
  case rest =>
    clear X_0 cX_0_0 fX_0_0 cX_0_1 fX_0_1 cX_0_2 fX_0_2 h1_0 hd1_0 hbel_0
    obtain ⟨Xa, Xn, Xc, Xb, Xm, Xd, X_1, hO, hO', hbel_1, hsz_1⟩ := hcut
    have cX_1_0 : _ = some (Value.bool (decide ((q).num < 0))) := X_1.cell 0
    have fX_1_0 := X_1.free 0
    have cX_1_1 : _ = some (Value.slice Xa Xn Xc) := X_1.cell 1
    have fX_1_1 := X_1.free 1
    have cX_1_2 : _ = some (Value.slice Xb Xm Xd) := X_1.cell 2
    have fX_1_2 := X_1.free 2
    have OX_1 := hO
    have ltOX := hO.ltB
    have OX'_1 := hO'
    have ltOX' := hO'.ltB
    clear hO hO'
    have Z_1 := OX_1.rdZ hs1.out
    have N_1 := OX'_1.rdN hs2.out
    clear OX_1
    clear OX'_1
    clear ltOX ltOX'
    go_wp2_with fail
    refine (ztextR Z_1 (by omega)).mono ?_
    rintro e w2 ⟨rfl, hB⟩
    have hB_2 : Below wc.heap.size wc w2 := (bl.next hB)
    have X_2 := X_1.next hB_2
    have cX_2_0 : _ = some (Value.bool (decide ((q).num < 0))) := X_2.cell 0
    have fX_2_0 := X_2.free 0
    have cX_2_1 : _ = some (Value.slice Xa Xn Xc) := X_2.cell 1
    have fX_2_1 := X_2.free 1
    have cX_2_2 : _ = some (Value.slice Xb Xm Xd) := X_2.cell 2
    have fX_2_2 := X_2.free 2
    have Z_2 := Z_1.below hB_2
    have N_2 := N_1.below hB_2
    have hbel_2 := hbel_1.next hB_2
    have hsz_2 := hB_2.size
    clear X_1 cX_1_0 fX_1_0 cX_1_1 fX_1_1 cX_1_2 fX_1_2 Z_1 N_1 hbel_1 hB_2
    try clear hB
    go_wp2_with fail
    go_region_held3 (fun w' => w'.cell? ⟨w.heap.size, 0, none⟩ = some (Value.bool (decide ((q).num < 0))) ∧ w'.cell? ⟨w.heap.size, 1, none⟩ = some (Value.slice Xa Xn Xc) ∧ w'.cell? ⟨w.heap.size, 2, none⟩ = some (Value.slice Xb Xm Xd))
      (first | exact ⟨cX_2_0, cX_2_1, cX_2_2⟩ | exact ⟨cX_3_0, cX_3_1, cX_3_2⟩ | exact ⟨cX_4_0, cX_4_1, cX_4_2⟩ | go_keep)
      (first
        | (go_at_call 45; ((with_reducible refine (of_any 1 (by omega) (by omega)).mono ?_); (rintro e w3 ⟨oa, on, oc, rfl, hO, hB⟩; have hB_3 : Below w2.heap.size w2 w3 := (bl.next hB); have X_3 := X_2.next hB_3; have cX_3_0 : _ = some (Value.bool (decide ((q).num < 0))) := X_3.cell 0; have fX_3_0 := X_3.free 0; have cX_3_1 : _ = some (Value.slice Xa Xn Xc) := X_3.cell 1; have fX_3_1 := X_3.free 1; have cX_3_2 : _ = some (Value.slice Xb Xm Xd) := X_3.cell 2; have fX_3_2 := X_3.free 2; have Z_3 := Z_2.below hB_3; have N_3 := N_2.below hB_3; have hbel_3 := hbel_2.next hB_3; have hsz_3 := hB_3.size; clear X_2 cX_2_0 fX_2_0 cX_2_1 fX_2_1 cX_2_2 fX_2_2 Z_2 N_2 hbel_2 hB_3; have O_3 := hO.rdN (show Sz (1 : Int).toNat 1 from sz_one (Nat.le_refl _)); clear hO; try clear hB)))
        | (go_at_call 43; ((with_reducible refine (ncmpR (N_3.below bl) (O_3.below bl)).mono ?_); (rw [show cmpI q.den (1 : Int).toNat = 0 from hch.out]; rintro e w4 ⟨rfl, hB⟩; have hB_4 : Below w3.heap.size w3 w4 := (bl.next hB); have X_4 := X_3.next hB_4; have cX_4_0 : _ = some (Value.bool (decide ((q).num < 0))) := X_4.cell 0; have fX_4_0 := X_4.free 0; have cX_4_1 : _ = some (Value.slice Xa Xn Xc) := X_4.cell 1; have fX_4_1 := X_4.free 1; have cX_4_2 : _ = some (Value.slice Xb Xm Xd) := X_4.cell 2; have fX_4_2 := X_4.free 2; have Z_4 := Z_3.below hB_4; have N_4 := N_3.below hB_4; have O_4 := O_3.below hB_4; have hbel_4 := hbel_3.next hB_4; have hsz_4 := hB_4.size; clear X_3 cX_3_0 fX_3_0 cX_3_1 fX_3_1 cX_3_2 fX_3_2 Z_3 N_3 O_3 hbel_3 hB_4; try clear hB))))
    go_wp2
    go_ret
    exact ⟨rfl, hbel_4⟩

set_option maxRecDepth 100000 in
set_option maxHeartbeats 4000000 in
theorem qtext0 {w : World} {a1 b1 : Option Addr} {n1 c1 m1 d1 : Nat} {s : Bool} {x : Rat} {J : Nat} (hx : RdQ J w s a1 n1 c1 b1 m1 d1 x) (hJ : J ≤ 1000000) (h1 : x.den ≠ 1) :
    Calls Try.prog 29 #[.agg #[.bool s, .slice a1 n1 c1, .slice b1 m1 d1]] w (RetT w (qtx x)) := by
  have hd1' := h1
  clear h1
  rw [show qtx x = ztx x.num ++ (⟨#[47]⟩ ++ txt (tx x.den)) by unfold qtx; rw [if_neg hd1']]
  obtain ⟨u1, v1, h1, hd1, rfl⟩ := hx
  have hz1 := h1.toZ (s := s)
  have sd1 := hid (sz_und (hd1.sz.mono (Nat.le_refl _) (Nat.le_succ J)) (by omega))
  have su1 := hid h1.sz
  have hu1 := hid (und_ne v1)
  unfold qv
  have hqs := QS.mk (n := zv s u1) hu1.out (hz1.sz.mono (Nat.le_refl _) (Nat.le_succ J)) sd1.out
  have hqd : qv s u1 v1 = mkRat (zv s u1) (und v1) := rfl
  rw [hqd] at hd1'
  clear hqd
  have HU1 := hid (fun W (h : RdN J W b1 m1 d1 v1) => qunder (w := W) (s := s) (a := a1) (n := n1) (c := c1) (h.mono (show _ ≤ 4194304 by omega)))
  generalize hD1 : und v1 = e1 at *
  clear hD1
  generalize hq : mkRat (zv s u1) e1 = q at *
  have hq' := hid hq
  have hs1 := hid hqs.1
  have hs2 := hid hqs.2
  have ht1 := ztx_size hqs.1
  have ht2 := txt_sz hqs.2
  clear hq hqs hz1
  have hc : (cmpI q.den 1 != (0 : Int)) = true := by simp only [bne_iff_ne, ne_eq]; unfold cmpI; split <;> (try split) <;> omega
  have hch := hid hc
  clear hch
  have hn1 := hid hd1'
  clear hd1'
  have hent := ent1 w #[Value.bool s, Value.slice a1 n1 c1, Value.slice b1 m1 d1] 28
  go_enter Try.func29, Try.ntmps29
  go_wp2_with fail
  generalize (w.alloc (.cells #[Value.bool s, Value.slice a1 n1 c1, Value.slice b1 m1 d1] 28)) = W0 at hent ⊢
  obtain ⟨X_0, hbel_0, hsz_0⟩ := hent
  have cX_0_0 : _ = some (Value.bool s) := X_0.cell 0
  have fX_0_0 := X_0.free 0
  have cX_0_1 : _ = some (Value.slice a1 n1 c1) := X_0.cell 1
  have fX_0_1 := X_0.free 1
  have cX_0_2 : _ = some (Value.slice b1 m1 d1) := X_0.cell 2
  have fX_0_2 := X_0.free 2
  have h1_0 := h1.below hbel_0
  clear h1
  have hd1_0 := hd1.below hbel_0
  clear hd1
  go_wp2_with fail
  go_cut [] (fun wx => ∃ (Xa : Option Addr) (Xn Xc : Nat) (Xb : Option Addr) (Xm Xd : Nat), Blk wx (w.heap.size) #[Value.bool (decide ((q).num < 0)), Value.slice Xa Xn Xc, Value.slice Xb Xm Xd] ∧ Own W0.heap.size wx Xa Xn Xc (lm (q).num.natAbs) ∧ Own W0.heap.size wx Xb Xm Xd (lm (q).den) ∧ Below w.heap.size w wx ∧ W0.heap.size ≤ wx.heap.size)
  case first =>
    go_wp2_with fail
    go_region_with
      (first
        | (go_at_call 34; ((with_reducible refine (HU1.out _ (hd1_0.below bl)).mono ?_); (rintro e w1 ⟨va, vn, vc, rfl, hO, hB⟩; have hB_1 : Below W0.heap.size W0 w1 := (bl.next hB); have X_1 := X_0.next hB_1; have cX_1_0 : _ = some (Value.bool s) := X_1.cell 0; have fX_1_0 := X_1.free 0; have cX_1_1 : _ = some (Value.slice a1 n1 c1) := X_1.cell 1; have fX_1_1 := X_1.free 1; have cX_1_2 : _ = some (Value.slice b1 m1 d1) := X_1.cell 2; have fX_1_2 := X_1.free 2; have h1_1 := h1_0.below hB_1; have hd1_1 := hd1_0.below hB_1; have hbel_1 := hbel_0.next hB_1; have hsz_1 := hB_1.size; clear X_0 cX_0_0 fX_0_0 cX_0_1 fX_0_1 cX_0_2 fX_0_2 h1_0 hd1_0 hbel_0 hB_1; have V_1 := hO.rdN sd1.out; clear hO; try clear hB)))
        | (go_at_call 35; ((with_reducible refine (qlow s ((h1_1.below bl).mono (by omega)) ((V_1.below bl).mono (by omega)) hu1.out).mono ?_); (rw [hq'.out]; rintro e w2 ⟨qa, qn, qc, da, dn, dc, rfl, hO, hO', hD, hB⟩; have hB_2 : Below w1.heap.size w1 w2 := (bl.next hB); have X_2 := X_1.next hB_2; have cX_2_0 : _ = some (Value.bool s) := X_2.cell 0; have fX_2_0 := X_2.free 0; have cX_2_1 : _ = some (Value.slice a1 n1 c1) := X_2.cell 1; have fX_2_1 := X_2.free 1; have cX_2_2 : _ = some (Value.slice b1 m1 d1) := X_2.cell 2; have fX_2_2 := X_2.free 2; have h1_2 := h1_1.below hB_2; have hd1_2 := hd1_1.below hB_2; have V_2 := V_1.below hB_2; have hbel_2 := hbel_1.next hB_2; have hsz_2 := hB_2.size; clear X_1 cX_1_0 fX_1_0 cX_1_1 fX_1_1 cX_1_2 fX_1_2 h1_1 hd1_1 V_1 hbel_1 hB_2; try clear hB))))
    all_goals (go_wp2_with fail; go_meet; exact ⟨_, _, _, _, _, _, (show Blk _ _ #[_, _, _] from ((X_2.setCell (i := 0) (v := _) (by simp)).setCell (i := 1) (v := _) (by simp)).setCell (i := 2) (v := _) (by simp)), (hO.set3 (by omega) _ _ _).mono (by omega), (hO'.set3 (by omega) _ _ _).mono (by omega), Below.set3 hbel_2 (by omega) _ _ _, by simp [World.setCell]; omega⟩)
  case rest =>
    clear X_0 cX_0_0 fX_0_0 cX_0_1 fX_0_1 cX_0_2 fX_0_2 h1_0 hd1_0 hbel_0
    obtain ⟨Xa, Xn, Xc, Xb, Xm, Xd, X_1, hO, hO', hbel_1, hsz_1⟩ := hcut
    have cX_1_0 : _ = some (Value.bool (decide ((q).num < 0))) := X_1.cell 0
    have fX_1_0 := X_1.free 0
    have cX_1_1 : _ = some (Value.slice Xa Xn Xc) := X_1.cell 1
    have fX_1_1 := X_1.free 1
    have cX_1_2 : _ = some (Value.slice Xb Xm Xd) := X_1.cell 2
    have fX_1_2 := X_1.free 2
    have OX_1 := hO
    have ltOX := hO.ltB
    have OX'_1 := hO'
    have ltOX' := hO'.ltB
    clear hO hO'
    have Z_1 := OX_1.rdZ hs1.out
    have N_1 := OX'_1.rdN hs2.out
    clear OX_1
    clear OX'_1
    clear ltOX ltOX'
    go_wp2_with fail
    refine (ztextR Z_1 (by omega)).mono ?_
    rintro e w2 ⟨rfl, hB⟩
    have hB_2 : Below wc.heap.size wc w2 := (bl.next hB)
    have X_2 := X_1.next hB_2
    have cX_2_0 : _ = some (Value.bool (decide ((q).num < 0))) := X_2.cell 0
    have fX_2_0 := X_2.free 0
    have cX_2_1 : _ = some (Value.slice Xa Xn Xc) := X_2.cell 1
    have fX_2_1 := X_2.free 1
    have cX_2_2 : _ = some (Value.slice Xb Xm Xd) := X_2.cell 2
    have fX_2_2 := X_2.free 2
    have Z_2 := Z_1.below hB_2
    have N_2 := N_1.below hB_2
    have hbel_2 := hbel_1.next hB_2
    have hsz_2 := hB_2.size
    clear X_1 cX_1_0 fX_1_0 cX_1_1 fX_1_1 cX_1_2 fX_1_2 Z_1 N_1 hbel_1 hB_2
    try clear hB
    go_wp2_with fail
    go_region_held3 (fun w' => w'.cell? ⟨w.heap.size, 0, none⟩ = some (Value.bool (decide ((q).num < 0))) ∧ w'.cell? ⟨w.heap.size, 1, none⟩ = some (Value.slice Xa Xn Xc) ∧ w'.cell? ⟨w.heap.size, 2, none⟩ = some (Value.slice Xb Xm Xd))
      (first | exact ⟨cX_2_0, cX_2_1, cX_2_2⟩ | exact ⟨cX_3_0, cX_3_1, cX_3_2⟩ | exact ⟨cX_4_0, cX_4_1, cX_4_2⟩ | go_keep)
      (first
        | (go_at_call 45; ((with_reducible refine (of_any 1 (by omega) (by omega)).mono ?_); (rintro e w3 ⟨oa, on, oc, rfl, hO, hB⟩; have hB_3 : Below w2.heap.size w2 w3 := (bl.next hB); have X_3 := X_2.next hB_3; have cX_3_0 : _ = some (Value.bool (decide ((q).num < 0))) := X_3.cell 0; have fX_3_0 := X_3.free 0; have cX_3_1 : _ = some (Value.slice Xa Xn Xc) := X_3.cell 1; have fX_3_1 := X_3.free 1; have cX_3_2 : _ = some (Value.slice Xb Xm Xd) := X_3.cell 2; have fX_3_2 := X_3.free 2; have Z_3 := Z_2.below hB_3; have N_3 := N_2.below hB_3; have hbel_3 := hbel_2.next hB_3; have hsz_3 := hB_3.size; clear X_2 cX_2_0 fX_2_0 cX_2_1 fX_2_1 cX_2_2 fX_2_2 Z_2 N_2 hbel_2 hB_3; have O_3 := hO.rdN (show Sz (1 : Int).toNat 1 from sz_one (Nat.le_refl _)); clear hO; try clear hB)))
        | (go_at_call 43; ((with_reducible refine (ncmpR (N_3.below bl) (O_3.below bl)).mono ?_); (rintro e w4 ⟨rfl, hB⟩; have hB_4 : Below w3.heap.size w3 w4 := (bl.next hB); have X_4 := X_3.next hB_4; have cX_4_0 : _ = some (Value.bool (decide ((q).num < 0))) := X_4.cell 0; have fX_4_0 := X_4.free 0; have cX_4_1 : _ = some (Value.slice Xa Xn Xc) := X_4.cell 1; have fX_4_1 := X_4.free 1; have cX_4_2 : _ = some (Value.slice Xb Xm Xd) := X_4.cell 2; have fX_4_2 := X_4.free 2; have Z_4 := Z_3.below hB_4; have N_4 := N_3.below hB_4; have O_4 := O_3.below hB_4; have hbel_4 := hbel_3.next hB_4; have hsz_4 := hB_4.size; clear X_3 cX_3_0 fX_3_0 cX_3_1 fX_3_1 cX_3_2 fX_3_2 Z_3 N_3 O_3 hbel_3 hB_4; try clear hB))))
    have hcT : (cmpI q.den (1 : Int).toNat != (0 : Int)) = true := hc
    generalize ztx q.num = T1 at *
    go_wp2_with fail
    refine (ntextR N_4 (by omega)).mono ?_
    rintro e w5 ⟨rfl, hB⟩
    have hB_5 : Below w4.heap.size w4 w5 := (bl.next hB)
    have X_5 := X_4.next hB_5
    have cX_5_0 : _ = some (Value.bool (decide ((q).num < 0))) := X_5.cell 0
    have fX_5_0 := X_5.free 0
    have cX_5_1 : _ = some (Value.slice Xa Xn Xc) := X_5.cell 1
    have fX_5_1 := X_5.free 1
    have cX_5_2 : _ = some (Value.slice Xb Xm Xd) := X_5.cell 2
    have fX_5_2 := X_5.free 2
    have Z_5 := Z_4.below hB_5
    have N_5 := N_4.below hB_5
    have O_5 := O_4.below hB_5
    have hbel_5 := hbel_4.next hB_5
    have hsz_5 := hB_5.size
    clear X_4 cX_4_0 fX_4_0 cX_4_1 fX_4_1 cX_4_2 fX_4_2 Z_4 N_4 O_4 hbel_4 hB_5
    try clear hB
    generalize txt (tx q.den) = T2 at *
    go_wp2
    go_ret
    exact ⟨rfl, hbel_5⟩

theorem qtext {w : World} {a1 b1 : Option Addr} {n1 c1 m1 d1 : Nat} {s : Bool} {x : Rat} {J : Nat} (hx : RdQ J w s a1 n1 c1 b1 m1 d1 x) (hJ : J ≤ 1000000) : Calls Try.prog 29 #[.agg #[.bool s, .slice a1 n1 c1, .slice b1 m1 d1]] w (RetT w (qtx x)) := by
  by_cases h : x.den = 1
  · exact qtext1 hx hJ h
  · exact qtext0 hx hJ h

end Go.Proofs.Ytennilapmcgnbaa
/- WALKS OF FRACTIONS, 6: a text read. -/
namespace Go.Proofs.Ytennilapmcgnbaa
set_option linter.unusedVariables false
set_option linter.unusedSimpArgs false
open Go.ChangeShapes Go.WideShapes Go.ChangeAt Go.RowKit Go.NatP

/-- the denominator of a text -/
def fpD (s : ByteArray) : Nat := if cutF s = true then paN (by' (cutB s)) else 1
/-- the fraction of a text, and the error -/
def fpQ (s : ByteArray) : Rat := Rat.divInt (pzZ (cutA s)) (fpD s)
def fpE (s : ByteArray) : Int := if pzE (cutA s) ≠ 0 then 10 else if cutF s = true ∧ paE (by' (cutB s)) ≠ 0 then 10 else zE (fpD s)
theorem cutA_size (s : ByteArray) : (cutA s).size ≤ s.size := by
  unfold cutA; split
  · exact Nat.le_refl _
  · rw [ByteArray.size_extract]; omega
theorem cutB_size (s : ByteArray) : (cutB s).size ≤ s.size := by
  unfold cutB; split
  · exact Nat.zero_le _
  · rw [ByteArray.size_extract]; omega
theorem pz_sz {s : ByteArray} {k : Nat} (h : s.size ≤ k) : Sz (pzZ s).natAbs k := by
  unfold pzZ; rw [zv_abs]
  exact (paN_sz (pzR s) (Nat.le_refl _)).mono (Nat.le_refl _) (Nat.le_trans (pzR_size s) h)

set_option maxRecDepth 100000 in
set_option maxHeartbeats 4000000 in
theorem qparseA {w : World} (s : ByteArray) (hs : s.size ≤ 4194304) (h1 : pzE (cutA s) ≠ 0) :
    Calls Try.prog 38 #[.string s] w (RetQE w (fpQ s) (fpE s)) := by
  have hm : s.size ≤ maxLen := Nat.le_trans hs (by simp [maxLen])
  have hca := cutA_size s
  have hcb := cutB_size s
  have hE : fpE s = 10 := by unfold fpE; rw [if_pos h1]
  rw [hE]
  clear hE
  have HC := hid (fun w => strcut_any (w := w) s hm)
  unfold RetCut3 at HC
  have hz := hid (pz_sz (s := cutA s) (Nat.le_trans hca hs))
  have HP := hid (fun w => zparse_any (w := w) (cutA s) (by omega))
  have he : pzE (cutA s) = 10 := by have := pa_cases (by' (pzR (cutA s))); unfold pzE at *; omega
  rw [he] at HP
  clear he h1
  generalize cutF s = fl at *
  generalize cutA s = sa at *
  generalize cutB s = sb at *
  clear hm hs
  generalize pzZ sa = z at *
  have hent := ent1 w #[Value.bool false, Value.slice none 0 0, Value.slice none 0 0] 28
  go_enter Try.func38, Try.ntmps38
  go_wp2_with fail
  generalize (w.alloc (.cells #[Value.bool false, Value.slice none 0 0, Value.slice none 0 0] 28)) = W0 at hent ⊢
  obtain ⟨R0_0, hbel_0, hsz_0⟩ := hent
  have cR0_0_0 : _ = some (Value.bool false) := R0_0.cell 0
  have fR0_0_0 := R0_0.free 0
  have cR0_0_1 : _ = some (Value.slice none 0 0) := R0_0.cell 1
  have fR0_0_1 := R0_0.free 1
  have cR0_0_2 : _ = some (Value.slice none 0 0) := R0_0.cell 2
  have fR0_0_2 := R0_0.free 2
  go_wp2_with fail
  refine (HC.out _).mono ?_
  rintro e w1 ⟨rfl, hB⟩
  have hB_1 : Below W0.heap.size W0 w1 := (bl.next hB)
  have R0_1 := R0_0.next hB_1
  have cR0_1_0 : _ = some (Value.bool false) := R0_1.cell 0
  have fR0_1_0 := R0_1.free 0
  have cR0_1_1 : _ = some (Value.slice none 0 0) := R0_1.cell 1
  have fR0_1_1 := R0_1.free 1
  have cR0_1_2 : _ = some (Value.slice none 0 0) := R0_1.cell 2
  have fR0_1_2 := R0_1.free 2
  have hbel_1 := hbel_0.next hB_1
  have hsz_1 := hB_1.size
  clear R0_0 cR0_0_0 fR0_0_0 cR0_0_1 fR0_0_1 cR0_0_2 fR0_0_2 hbel_0 hB_1
  try clear hB
  go_wp2_with fail
  refine (HP.out _).mono ?_
  rintro e w2 ⟨pa, pn, pc, rfl, hO, hB⟩
  have hB_2 : Below w1.heap.size w1 w2 := (bl.next hB)
  have R0_2 := R0_1.next hB_2
  have cR0_2_0 : _ = some (Value.bool false) := R0_2.cell 0
  have fR0_2_0 := R0_2.free 0
  have cR0_2_1 : _ = some (Value.slice none 0 0) := R0_2.cell 1
  have fR0_2_1 := R0_2.free 1
  have cR0_2_2 : _ = some (Value.slice none 0 0) := R0_2.cell 2
  have fR0_2_2 := R0_2.free 2
  have hbel_2 := hbel_1.next hB_2
  have hsz_2 := hB_2.size
  clear R0_1 cR0_1_0 fR0_1_0 cR0_1_1 fR0_1_1 cR0_1_2 fR0_1_2 hbel_1 hB_2
  have Z_2 := hO.rdZ hz.out
  clear hO
  try clear hB
  have hbx := blk_new w2 #[Value.bool (decide (z < 0)), Value.slice pa pn pc] 26
  have hbB := (Below.refl w2.heap.size w2).alloc (Nat.le_refl _) (.cells #[Value.bool (decide (z < 0)), Value.slice pa pn pc] 26)
  have hltN := hbx.lt
  have hB_3 : Below w2.heap.size w2 (w2.alloc (.cells #[Value.bool (decide (z < 0)), Value.slice pa pn pc] 26)) := hbB
  have R0_3 := R0_2.next hB_3
  have cR0_3_0 : _ = some (Value.bool false) := R0_3.cell 0
  have fR0_3_0 := R0_3.free 0
  have cR0_3_1 : _ = some (Value.slice none 0 0) := R0_3.cell 1
  have fR0_3_1 := R0_3.free 1
  have cR0_3_2 : _ = some (Value.slice none 0 0) := R0_3.cell 2
  have fR0_3_2 := R0_3.free 2
  have Z_3 := Z_2.below hB_3
  have hbel_3 := hbel_2.next hB_3
  have hsz_3 := hB_3.size
  clear hB_3
  have N_3 := hbx
  clear hbx hbB
  have cN_3_0 : _ = some (Value.bool (decide (z < 0))) := N_3.cell 0
  have cN_3_1 : _ = some (Value.slice pa pn pc) := N_3.cell 1
  go_wp2_with fail
  clear R0_2 cR0_2_0 fR0_2_0 cR0_2_1 fR0_2_1 cR0_2_2 fR0_2_2 Z_2 hbel_2
  generalize (w2.alloc (.cells #[Value.bool (decide (z < 0)), Value.slice pa pn pc] 26)) = v3 at *
  go_wp2
  refine bodyPost_ret (v := .tuple #[.agg #[.bool false, .slice none 0 0, .slice none 0 0], .int .i64 10]) (by simp [results, Try.results38, go_sem, cR0_3_0, cR0_3_1, cR0_3_2]) rfl ?_
  exact retqe_nil (by decide) hbel_3 (by omega)

set_option maxRecDepth 100000 in
set_option maxHeartbeats 4000000 in
theorem qparseB {w : World} (s : ByteArray) (hs : s.size ≤ 4194304) (h1 : pzE (cutA s) = 0) (h2 : cutF s = false) :
    Calls Try.prog 38 #[.string s] w (RetQE w (fpQ s) (fpE s)) := by
  have hm : s.size ≤ maxLen := Nat.le_trans hs (by simp [maxLen])
  have hca := cutA_size s
  have hcb := cutB_size s
  have hE : fpE s = zE (fpD s) := by unfold fpE; rw [if_neg (by omega), if_neg (by rintro ⟨h, h'⟩; rw [h2] at h; cases h)]
  have hD : fpD s = 1 := by unfold fpD; rw [h2]; rfl
  rw [hE]
  unfold fpQ
  rw [hD]
  clear hE hD
  have HC := hid (fun w => strcut_any (w := w) s hm)
  unfold RetCut3 at HC
  rw [h2] at HC
  have hz := hid (pz_sz (s := cutA s) (Nat.le_trans hca hs))
  have HP := hid (fun w => zparse_any (w := w) (cutA s) (by omega))
  rw [h1] at HP
  clear h1
  clear h2
  generalize cutA s = sa at *
  generalize cutB s = sb at *
  clear hm hs
  generalize pzZ sa = z at *
  have hent := ent1 w #[Value.bool false, Value.slice none 0 0, Value.slice none 0 0] 28
  go_enter Try.func38, Try.ntmps38
  go_wp2_with fail
  generalize (w.alloc (.cells #[Value.bool false, Value.slice none 0 0, Value.slice none 0 0] 28)) = W0 at hent ⊢
  obtain ⟨R0_0, hbel_0, hsz_0⟩ := hent
  have cR0_0_0 : _ = some (Value.bool false) := R0_0.cell 0
  have fR0_0_0 := R0_0.free 0
  have cR0_0_1 : _ = some (Value.slice none 0 0) := R0_0.cell 1
  have fR0_0_1 := R0_0.free 1
  have cR0_0_2 : _ = some (Value.slice none 0 0) := R0_0.cell 2
  have fR0_0_2 := R0_0.free 2
  go_wp2_with fail
  refine (HC.out _).mono ?_
  rintro e w1 ⟨rfl, hB⟩
  have hB_1 : Below W0.heap.size W0 w1 := (bl.next hB)
  have R0_1 := R0_0.next hB_1
  have cR0_1_0 : _ = some (Value.bool false) := R0_1.cell 0
  have fR0_1_0 := R0_1.free 0
  have cR0_1_1 : _ = some (Value.slice none 0 0) := R0_1.cell 1
  have fR0_1_1 := R0_1.free 1
  have cR0_1_2 : _ = some (Value.slice none 0 0) := R0_1.cell 2
  have fR0_1_2 := R0_1.free 2
  have hbel_1 := hbel_0.next hB_1
  have hsz_1 := hB_1.size
  clear R0_0 cR0_0_0 fR0_0_0 cR0_0_1 fR0_0_1 cR0_0_2 fR0_0_2 hbel_0 hB_1
  try clear hB
  go_wp2_with fail
  refine (HP.out _).mono ?_
  rintro e w2 ⟨pa, pn, pc, rfl, hO, hB⟩
  have hB_2 : Below w1.heap.size w1 w2 := (bl.next hB)
  have R0_2 := R0_1.next hB_2
  have cR0_2_0 : _ = some (Value.bool false) := R0_2.cell 0
  have fR0_2_0 := R0_2.free 0
  have cR0_2_1 : _ = some (Value.slice none 0 0) := R0_2.cell 1
  have fR0_2_1 := R0_2.free 1
  have cR0_2_2 : _ = some (Value.slice none 0 0) := R0_2.cell 2
  have fR0_2_2 := R0_2.free 2
  have hbel_2 := hbel_1.next hB_2
  have hsz_2 := hB_2.size
  clear R0_1 cR0_1_0 fR0_1_0 cR0_1_1 fR0_1_1 cR0_1_2 fR0_1_2 hbel_1 hB_2
  have Z_2 := hO.rdZ hz.out
  clear hO
  try clear hB
  have hbx := blk_new w2 #[Value.bool (decide (z < 0)), Value.slice pa pn pc] 26
  have hbB := (Below.refl w2.heap.size w2).alloc (Nat.le_refl _) (.cells #[Value.bool (decide (z < 0)), Value.slice pa pn pc] 26)
  have hltN := hbx.lt
  have hB_3 : Below w2.heap.size w2 (w2.alloc (.cells #[Value.bool (decide (z < 0)), Value.slice pa pn pc] 26)) := hbB
  have R0_3 := R0_2.next hB_3
  have cR0_3_0 : _ = some (Value.bool false) := R0_3.cell 0
  have fR0_3_0 := R0_3.free 0
  have cR0_3_1 : _ = some (Value.slice none 0 0) := R0_3.cell 1
  have fR0_3_1 := R0_3.free 1
  have cR0_3_2 : _ = some (Value.slice none 0 0) := R0_3.cell 2
  have fR0_3_2 := R0_3.free 2
  have Z_3 := Z_2.below hB_3
  have hbel_3 := hbel_2.next hB_3
  have hsz_3 := hB_3.size
  clear hB_3
  have N_3 := hbx
  clear hbx hbB
  have cN_3_0 : _ = some (Value.bool (decide (z < 0))) := N_3.cell 0
  have cN_3_1 : _ = some (Value.slice pa pn pc) := N_3.cell 1
  go_wp2_with fail
  clear R0_2 cR0_2_0 fR0_2_0 cR0_2_1 fR0_2_1 cR0_2_2 fR0_2_2 Z_2 hbel_2
  generalize (w2.alloc (.cells #[Value.bool (decide (z < 0)), Value.slice pa pn pc] 26)) = v3 at *
  go_wp2_with fail
  refine (of_any 1 (by omega) (by omega)).mono ?_
  rintro e w4 ⟨oa, on, oc, rfl, hO, hB⟩
  have hB_4 : Below v3.heap.size v3 w4 := (bl.next hB)
  have R0_4 := R0_3.next hB_4
  have cR0_4_0 : _ = some (Value.bool false) := R0_4.cell 0
  have fR0_4_0 := R0_4.free 0
  have cR0_4_1 : _ = some (Value.slice none 0 0) := R0_4.cell 1
  have fR0_4_1 := R0_4.free 1
  have cR0_4_2 : _ = some (Value.slice none 0 0) := R0_4.cell 2
  have fR0_4_2 := R0_4.free 2
  have N_4 := N_3.next hB_4
  have cN_4_0 : _ = some (Value.bool (decide (z < 0))) := N_4.cell 0
  have cN_4_1 : _ = some (Value.slice pa pn pc) := N_4.cell 1
  have Z_4 := Z_3.below hB_4
  have hbel_4 := hbel_3.next hB_4
  have hsz_4 := hB_4.size
  clear R0_3 cR0_3_0 fR0_3_0 cR0_3_1 fR0_3_1 cR0_3_2 fR0_3_2 N_3 cN_3_0 cN_3_1 Z_3 hbel_3 hB_4
  have O_4 := (show RdN 4194304 _ oa on oc 1 from hO.rdN (show Sz (1 : Int).toNat 4194304 from sz_one (by omega)))
  clear hO
  try clear hB
  go_wp2_with fail
  refine (qnew Z_4 O_4.toI).mono ?_
  rintro e w5 ⟨qa, qn, qc, da, dn, dc, rfl, hO, hO', hD, hB⟩
  have hB_5 : Below w4.heap.size w4 w5 := (bl.next hB)
  have R0_5 := R0_4.next hB_5
  have cR0_5_0 : _ = some (Value.bool false) := R0_5.cell 0
  have fR0_5_0 := R0_5.free 0
  have cR0_5_1 : _ = some (Value.slice none 0 0) := R0_5.cell 1
  have fR0_5_1 := R0_5.free 1
  have cR0_5_2 : _ = some (Value.slice none 0 0) := R0_5.cell 2
  have fR0_5_2 := R0_5.free 2
  have N_5 := N_4.next hB_5
  have cN_5_0 : _ = some (Value.bool (decide (z < 0))) := N_5.cell 0
  have cN_5_1 : _ = some (Value.slice pa pn pc) := N_5.cell 1
  have Z_5 := Z_4.below hB_5
  have O_5 := O_4.below hB_5
  have hbel_5 := hbel_4.next hB_5
  have hsz_5 := hB_5.size
  clear R0_4 cR0_4_0 fR0_4_0 cR0_4_1 fR0_4_1 cR0_4_2 fR0_4_2 N_4 cN_4_0 cN_4_1 Z_4 O_4 hbel_4 hB_5
  have OQ_5 := hO
  have ltOQ := hO.ltB
  have OD_5 := hO'
  have ltOD := hO'.ltB
  clear hO hO'
  try clear hB
  go_wp2
  refine bodyPost_ret (v := .tuple #[.agg #[.bool (qsg (Rat.divInt z ((1 : Nat) : Int)) (zE ((1 : Nat) : Int))), .slice qa qn qc, .slice da dn dc], .int .i64 (zE ((1 : Nat) : Int))]) (by simp [results, Try.results38, go_sem, cR0_5_0, cR0_5_1, cR0_5_2]) rfl ?_
  exact retqe_set OQ_5 OD_5 hD hbel_5 (by omega) (by omega)

set_option maxRecDepth 100000 in
set_option maxHeartbeats 4000000 in
theorem qparseC {w : World} (s : ByteArray) (hs : s.size ≤ 4194304) (h1 : pzE (cutA s) = 0) (h2 : cutF s = true) (h3 : paE (by' (cutB s)) ≠ 0) :
    Calls Try.prog 38 #[.string s] w (RetQE w (fpQ s) (fpE s)) := by
  have hm : s.size ≤ maxLen := Nat.le_trans hs (by simp [maxLen])
  have hca := cutA_size s
  have hcb := cutB_size s
  have hE : fpE s = 10 := by unfold fpE; rw [if_neg (by omega), if_pos ⟨h2, h3⟩]
  rw [hE]
  clear hE
  have HC := hid (fun w => strcut_any (w := w) s hm)
  unfold RetCut3 at HC
  rw [h2] at HC
  have hz := hid (pz_sz (s := cutA s) (Nat.le_trans hca hs))
  have HP := hid (fun w => zparse_any (w := w) (cutA s) (by omega))
  have HN := hid (fun w => parse_any (w := w) (cutB s) (by omega))
  rw [h1] at HP
  clear h1
  have he : paE (by' (cutB s)) = 10 := by have := pa_cases (by' (cutB s)); omega
  rw [he] at HN
  clear he h3
  clear h2
  generalize cutA s = sa at *
  generalize cutB s = sb at *
  clear hm hs
  generalize pzZ sa = z at *
  have hent := ent1 w #[Value.bool false, Value.slice none 0 0, Value.slice none 0 0] 28
  go_enter Try.func38, Try.ntmps38
  go_wp2_with fail
  generalize (w.alloc (.cells #[Value.bool false, Value.slice none 0 0, Value.slice none 0 0] 28)) = W0 at hent ⊢
  obtain ⟨R0_0, hbel_0, hsz_0⟩ := hent
  have cR0_0_0 : _ = some (Value.bool false) := R0_0.cell 0
  have fR0_0_0 := R0_0.free 0
  have cR0_0_1 : _ = some (Value.slice none 0 0) := R0_0.cell 1
  have fR0_0_1 := R0_0.free 1
  have cR0_0_2 : _ = some (Value.slice none 0 0) := R0_0.cell 2
  have fR0_0_2 := R0_0.free 2
  go_wp2_with fail
  refine (HC.out _).mono ?_
  rintro e w1 ⟨rfl, hB⟩
  have hB_1 : Below W0.heap.size W0 w1 := (bl.next hB)
  have R0_1 := R0_0.next hB_1
  have cR0_1_0 : _ = some (Value.bool false) := R0_1.cell 0
  have fR0_1_0 := R0_1.free 0
  have cR0_1_1 : _ = some (Value.slice none 0 0) := R0_1.cell 1
  have fR0_1_1 := R0_1.free 1
  have cR0_1_2 : _ = some (Value.slice none 0 0) := R0_1.cell 2
  have fR0_1_2 := R0_1.free 2
  have hbel_1 := hbel_0.next hB_1
  have hsz_1 := hB_1.size
  clear R0_0 cR0_0_0 fR0_0_0 cR0_0_1 fR0_0_1 cR0_0_2 fR0_0_2 hbel_0 hB_1
  try clear hB
  go_wp2_with fail
  refine (HP.out _).mono ?_
  rintro e w2 ⟨pa, pn, pc, rfl, hO, hB⟩
  have hB_2 : Below w1.heap.size w1 w2 := (bl.next hB)
  have R0_2 := R0_1.next hB_2
  have cR0_2_0 : _ = some (Value.bool false) := R0_2.cell 0
  have fR0_2_0 := R0_2.free 0
  have cR0_2_1 : _ = some (Value.slice none 0 0) := R0_2.cell 1
  have fR0_2_1 := R0_2.free 1
  have cR0_2_2 : _ = some (Value.slice none 0 0) := R0_2.cell 2
  have fR0_2_2 := R0_2.free 2
  have hbel_2 := hbel_1.next hB_2
  have hsz_2 := hB_2.size
  clear R0_1 cR0_1_0 fR0_1_0 cR0_1_1 fR0_1_1 cR0_1_2 fR0_1_2 hbel_1 hB_2
  have Z_2 := hO.rdZ hz.out
  clear hO
  try clear hB
  have hbx := blk_new w2 #[Value.bool (decide (z < 0)), Value.slice pa pn pc] 26
  have hbB := (Below.refl w2.heap.size w2).alloc (Nat.le_refl _) (.cells #[Value.bool (decide (z < 0)), Value.slice pa pn pc] 26)
  have hltN := hbx.lt
  have hB_3 : Below w2.heap.size w2 (w2.alloc (.cells #[Value.bool (decide (z < 0)), Value.slice pa pn pc] 26)) := hbB
  have R0_3 := R0_2.next hB_3
  have cR0_3_0 : _ = some (Value.bool false) := R0_3.cell 0
  have fR0_3_0 := R0_3.free 0
  have cR0_3_1 : _ = some (Value.slice none 0 0) := R0_3.cell 1
  have fR0_3_1 := R0_3.free 1
  have cR0_3_2 : _ = some (Value.slice none 0 0) := R0_3.cell 2
  have fR0_3_2 := R0_3.free 2
  have Z_3 := Z_2.below hB_3
  have hbel_3 := hbel_2.next hB_3
  have hsz_3 := hB_3.size
  clear hB_3
  have N_3 := hbx
  clear hbx hbB
  have cN_3_0 : _ = some (Value.bool (decide (z < 0))) := N_3.cell 0
  have cN_3_1 : _ = some (Value.slice pa pn pc) := N_3.cell 1
  go_wp2_with fail
  clear R0_2 cR0_2_0 fR0_2_0 cR0_2_1 fR0_2_1 cR0_2_2 fR0_2_2 Z_2 hbel_2
  generalize (w2.alloc (.cells #[Value.bool (decide (z < 0)), Value.slice pa pn pc] 26)) = v3 at *
  go_wp2_with fail
  refine (of_any 1 (by omega) (by omega)).mono ?_
  rintro e w4 ⟨oa, on, oc, rfl, hO, hB⟩
  have hB_4 : Below v3.heap.size v3 w4 := (bl.next hB)
  have R0_4 := R0_3.next hB_4
  have cR0_4_0 : _ = some (Value.bool false) := R0_4.cell 0
  have fR0_4_0 := R0_4.free 0
  have cR0_4_1 : _ = some (Value.slice none 0 0) := R0_4.cell 1
  have fR0_4_1 := R0_4.free 1
  have cR0_4_2 : _ = some (Value.slice none 0 0) := R0_4.cell 2
  have fR0_4_2 := R0_4.free 2
  have N_4 := N_3.next hB_4
  have cN_4_0 : _ = some (Value.bool (decide (z < 0))) := N_4.cell 0
  have cN_4_1 : _ = some (Value.slice pa pn pc) := N_4.cell 1
  have Z_4 := Z_3.below hB_4
  have hbel_4 := hbel_3.next hB_4
  have hsz_4 := hB_4.size
  clear R0_3 cR0_3_0 fR0_3_0 cR0_3_1 fR0_3_1 cR0_3_2 fR0_3_2 N_3 cN_3_0 cN_3_1 Z_3 hbel_3 hB_4
  have O_4 := (show RdN 4194304 _ oa on oc 1 from hO.rdN (show Sz (1 : Int).toNat 4194304 from sz_one (by omega)))
  clear hO
  try clear hB
  go_wp2_with fail
  refine (HN.out _).mono ?_
  rintro e w5 ⟨na, nn, nc, rfl, hO, hB⟩
  have hB_5 : Below w4.heap.size w4 w5 := (bl.next hB)
  have R0_5 := R0_4.next hB_5
  have cR0_5_0 : _ = some (Value.bool false) := R0_5.cell 0
  have fR0_5_0 := R0_5.free 0
  have cR0_5_1 : _ = some (Value.slice none 0 0) := R0_5.cell 1
  have fR0_5_1 := R0_5.free 1
  have cR0_5_2 : _ = some (Value.slice none 0 0) := R0_5.cell 2
  have fR0_5_2 := R0_5.free 2
  have N_5 := N_4.next hB_5
  have cN_5_0 : _ = some (Value.bool (decide (z < 0))) := N_5.cell 0
  have cN_5_1 : _ = some (Value.slice pa pn pc) := N_5.cell 1
  have Z_5 := Z_4.below hB_5
  have O_5 := O_4.below hB_5
  have hbel_5 := hbel_4.next hB_5
  have hsz_5 := hB_5.size
  clear R0_4 cR0_4_0 fR0_4_0 cR0_4_1 fR0_4_1 cR0_4_2 fR0_4_2 N_4 cN_4_0 cN_4_1 Z_4 O_4 hbel_4 hB_5
  clear hO
  try clear hB
  go_wp2
  refine bodyPost_ret (v := .tuple #[.agg #[.bool false, .slice none 0 0, .slice none 0 0], .int .i64 10]) (by simp [results, Try.results38, go_sem, cR0_5_0, cR0_5_1, cR0_5_2]) rfl ?_
  exact retqe_nil (by decide) hbel_5 (by omega)

set_option maxRecDepth 100000 in
set_option maxHeartbeats 4000000 in
theorem qparseD {w : World} (s : ByteArray) (hs : s.size ≤ 4194304) (h1 : pzE (cutA s) = 0) (h2 : cutF s = true) (h3 : paE (by' (cutB s)) = 0) :
    Calls Try.prog 38 #[.string s] w (RetQE w (fpQ s) (fpE s)) := by
  have hm : s.size ≤ maxLen := Nat.le_trans hs (by simp [maxLen])
  have hca := cutA_size s
  have hcb := cutB_size s
  have hE : fpE s = zE (fpD s) := by unfold fpE; rw [if_neg (by omega), if_neg (by rintro ⟨h, h'⟩; exact h' h3)]
  have hD : fpD s = paN (by' (cutB s)) := by unfold fpD; rw [h2]; rfl
  rw [hE]
  unfold fpQ
  rw [hD]
  clear hE hD
  have HC := hid (fun w => strcut_any (w := w) s hm)
  unfold RetCut3 at HC
  rw [h2] at HC
  have hz := hid (pz_sz (s := cutA s) (Nat.le_trans hca hs))
  have HP := hid (fun w => zparse_any (w := w) (cutA s) (by omega))
  have hN := hid ((paN_sz (cutB s) (Nat.le_refl _)).mono (Nat.le_refl _) (Nat.le_trans hcb hs))
  have HN := hid (fun w => parse_any (w := w) (cutB s) (by omega))
  rw [h1] at HP
  clear h1
  rw [h3] at HN
  clear h3
  clear h2
  generalize cutA s = sa at *
  generalize cutB s = sb at *
  clear hm hs
  generalize pzZ sa = z at *
  generalize paN (by' sb) = v at *
  have hent := ent1 w #[Value.bool false, Value.slice none 0 0, Value.slice none 0 0] 28
  go_enter Try.func38, Try.ntmps38
  go_wp2_with fail
  generalize (w.alloc (.cells #[Value.bool false, Value.slice none 0 0, Value.slice none 0 0] 28)) = W0 at hent ⊢
  obtain ⟨R0_0, hbel_0, hsz_0⟩ := hent
  have cR0_0_0 : _ = some (Value.bool false) := R0_0.cell 0
  have fR0_0_0 := R0_0.free 0
  have cR0_0_1 : _ = some (Value.slice none 0 0) := R0_0.cell 1
  have fR0_0_1 := R0_0.free 1
  have cR0_0_2 : _ = some (Value.slice none 0 0) := R0_0.cell 2
  have fR0_0_2 := R0_0.free 2
  go_wp2_with fail
  refine (HC.out _).mono ?_
  rintro e w1 ⟨rfl, hB⟩
  have hB_1 : Below W0.heap.size W0 w1 := (bl.next hB)
  have R0_1 := R0_0.next hB_1
  have cR0_1_0 : _ = some (Value.bool false) := R0_1.cell 0
  have fR0_1_0 := R0_1.free 0
  have cR0_1_1 : _ = some (Value.slice none 0 0) := R0_1.cell 1
  have fR0_1_1 := R0_1.free 1
  have cR0_1_2 : _ = some (Value.slice none 0 0) := R0_1.cell 2
  have fR0_1_2 := R0_1.free 2
  have hbel_1 := hbel_0.next hB_1
  have hsz_1 := hB_1.size
  clear R0_0 cR0_0_0 fR0_0_0 cR0_0_1 fR0_0_1 cR0_0_2 fR0_0_2 hbel_0 hB_1
  try clear hB
  go_wp2_with fail
  refine (HP.out _).mono ?_
  rintro e w2 ⟨pa, pn, pc, rfl, hO, hB⟩
  have hB_2 : Below w1.heap.size w1 w2 := (bl.next hB)
  have R0_2 := R0_1.next hB_2
  have cR0_2_0 : _ = some (Value.bool false) := R0_2.cell 0
  have fR0_2_0 := R0_2.free 0
  have cR0_2_1 : _ = some (Value.slice none 0 0) := R0_2.cell 1
  have fR0_2_1 := R0_2.free 1
  have cR0_2_2 : _ = some (Value.slice none 0 0) := R0_2.cell 2
  have fR0_2_2 := R0_2.free 2
  have hbel_2 := hbel_1.next hB_2
  have hsz_2 := hB_2.size
  clear R0_1 cR0_1_0 fR0_1_0 cR0_1_1 fR0_1_1 cR0_1_2 fR0_1_2 hbel_1 hB_2
  have Z_2 := hO.rdZ hz.out
  clear hO
  try clear hB
  have hbx := blk_new w2 #[Value.bool (decide (z < 0)), Value.slice pa pn pc] 26
  have hbB := (Below.refl w2.heap.size w2).alloc (Nat.le_refl _) (.cells #[Value.bool (decide (z < 0)), Value.slice pa pn pc] 26)
  have hltN := hbx.lt
  have hB_3 : Below w2.heap.size w2 (w2.alloc (.cells #[Value.bool (decide (z < 0)), Value.slice pa pn pc] 26)) := hbB
  have R0_3 := R0_2.next hB_3
  have cR0_3_0 : _ = some (Value.bool false) := R0_3.cell 0
  have fR0_3_0 := R0_3.free 0
  have cR0_3_1 : _ = some (Value.slice none 0 0) := R0_3.cell 1
  have fR0_3_1 := R0_3.free 1
  have cR0_3_2 : _ = some (Value.slice none 0 0) := R0_3.cell 2
  have fR0_3_2 := R0_3.free 2
  have Z_3 := Z_2.below hB_3
  have hbel_3 := hbel_2.next hB_3
  have hsz_3 := hB_3.size
  clear hB_3
  have N_3 := hbx
  clear hbx hbB
  have cN_3_0 : _ = some (Value.bool (decide (z < 0))) := N_3.cell 0
  have cN_3_1 : _ = some (Value.slice pa pn pc) := N_3.cell 1
  go_wp2_with fail
  clear R0_2 cR0_2_0 fR0_2_0 cR0_2_1 fR0_2_1 cR0_2_2 fR0_2_2 Z_2 hbel_2
  generalize (w2.alloc (.cells #[Value.bool (decide (z < 0)), Value.slice pa pn pc] 26)) = v3 at *
  go_wp2_with fail
  refine (of_any 1 (by omega) (by omega)).mono ?_
  rintro e w4 ⟨oa, on, oc, rfl, hO, hB⟩
  have hB_4 : Below v3.heap.size v3 w4 := (bl.next hB)
  have R0_4 := R0_3.next hB_4
  have cR0_4_0 : _ = some (Value.bool false) := R0_4.cell 0
  have fR0_4_0 := R0_4.free 0
  have cR0_4_1 : _ = some (Value.slice none 0 0) := R0_4.cell 1
  have fR0_4_1 := R0_4.free 1
  have cR0_4_2 : _ = some (Value.slice none 0 0) := R0_4.cell 2
  have fR0_4_2 := R0_4.free 2
  have N_4 := N_3.next hB_4
  have cN_4_0 : _ = some (Value.bool (decide (z < 0))) := N_4.cell 0
  have cN_4_1 : _ = some (Value.slice pa pn pc) := N_4.cell 1
  have Z_4 := Z_3.below hB_4
  have hbel_4 := hbel_3.next hB_4
  have hsz_4 := hB_4.size
  clear R0_3 cR0_3_0 fR0_3_0 cR0_3_1 fR0_3_1 cR0_3_2 fR0_3_2 N_3 cN_3_0 cN_3_1 Z_3 hbel_3 hB_4
  have O_4 := (show RdN 4194304 _ oa on oc 1 from hO.rdN (show Sz (1 : Int).toNat 4194304 from sz_one (by omega)))
  clear hO
  try clear hB
  go_wp2_with fail
  refine (HN.out _).mono ?_
  rintro e w5 ⟨na, nn, nc, rfl, hO, hB⟩
  have hB_5 : Below w4.heap.size w4 w5 := (bl.next hB)
  have R0_5 := R0_4.next hB_5
  have cR0_5_0 : _ = some (Value.bool false) := R0_5.cell 0
  have fR0_5_0 := R0_5.free 0
  have cR0_5_1 : _ = some (Value.slice none 0 0) := R0_5.cell 1
  have fR0_5_1 := R0_5.free 1
  have cR0_5_2 : _ = some (Value.slice none 0 0) := R0_5.cell 2
  have fR0_5_2 := R0_5.free 2
  have N_5 := N_4.next hB_5
  have cN_5_0 : _ = some (Value.bool (decide (z < 0))) := N_5.cell 0
  have cN_5_1 : _ = some (Value.slice pa pn pc) := N_5.cell 1
  have Z_5 := Z_4.below hB_5
  have O_5 := O_4.below hB_5
  have hbel_5 := hbel_4.next hB_5
  have hsz_5 := hB_5.size
  clear R0_4 cR0_4_0 fR0_4_0 cR0_4_1 fR0_4_1 cR0_4_2 fR0_4_2 N_4 cN_4_0 cN_4_1 Z_4 O_4 hbel_4 hB_5
  have M_5 := hO.rdN hN.out
  clear hO
  try clear hB
  go_wp2_with fail
  refine (qnew Z_5 M_5.toI).mono ?_
  rintro e w6 ⟨qa, qn, qc, da, dn, dc, rfl, hO, hO', hD, hB⟩
  have hB_6 : Below w5.heap.size w5 w6 := (bl.next hB)
  have R0_6 := R0_5.next hB_6
  have cR0_6_0 : _ = some (Value.bool false) := R0_6.cell 0
  have fR0_6_0 := R0_6.free 0
  have cR0_6_1 : _ = some (Value.slice none 0 0) := R0_6.cell 1
  have fR0_6_1 := R0_6.free 1
  have cR0_6_2 : _ = some (Value.slice none 0 0) := R0_6.cell 2
  have fR0_6_2 := R0_6.free 2
  have N_6 := N_5.next hB_6
  have cN_6_0 : _ = some (Value.bool (decide (z < 0))) := N_6.cell 0
  have cN_6_1 : _ = some (Value.slice pa pn pc) := N_6.cell 1
  have Z_6 := Z_5.below hB_6
  have O_6 := O_5.below hB_6
  have M_6 := M_5.below hB_6
  have hbel_6 := hbel_5.next hB_6
  have hsz_6 := hB_6.size
  clear R0_5 cR0_5_0 fR0_5_0 cR0_5_1 fR0_5_1 cR0_5_2 fR0_5_2 N_5 cN_5_0 cN_5_1 Z_5 O_5 M_5 hbel_5 hB_6
  have OQ_6 := hO
  have ltOQ := hO.ltB
  have OD_6 := hO'
  have ltOD := hO'.ltB
  clear hO hO'
  try clear hB
  go_wp2
  refine bodyPost_ret (v := .tuple #[.agg #[.bool (qsg (Rat.divInt z (v : Int)) (zE (v : Int))), .slice qa qn qc, .slice da dn dc], .int .i64 (zE (v : Int))]) (by simp [results, Try.results38, go_sem, cR0_6_0, cR0_6_1, cR0_6_2]) rfl ?_
  exact retqe_set OQ_6 OD_6 hD hbel_6 (by omega) (by omega)

theorem qparse {w : World} (s : ByteArray) (hs : s.size ≤ 4194304) : Calls Try.prog 38 #[.string s] w (RetQE w (fpQ s) (fpE s)) := by
  by_cases h1 : pzE (cutA s) = 0
  · cases h2 : cutF s
    · exact qparseB s hs h1 h2
    · by_cases h3 : paE (by' (cutB s)) = 0
      · exact qparseD s hs h1 h2 h3
      · exact qparseC s hs h1 h2 h3
  · exact qparseA s hs h1

end Go.Proofs.Ytennilapmcgnbaa
/- WALKS OF FRACTIONS, 7: sums of lists. -/
namespace Go.Proofs.Ytennilapmcgnbaa
set_option linter.unusedVariables false
set_option linter.unusedSimpArgs false
open Go.ChangeShapes Go.WideShapes Go.ChangeAt Go.RowKit Go.NatP

/-- an element of a list of fractions, and its value -/
structure QI where
  s : Bool
  a : Option Addr
  n : Nat
  c : Nat
  b : Option Addr
  m : Nat
  d : Nat
  q : Rat
def QI.o : QI := ⟨false, none, 0, 0, none, 0, 0, 0⟩
/-- a list of fractions that can be read -/
def RdQs (K : Nat) (W : World) (sa : Option Addr) (n c : Nat) (xs : List QI) : Prop :=
  xs.length = n ∧ n ≤ c ∧ c ≤ maxLen ∧ ∀ i, i < n → RdQ K W (xs.getD i QI.o).s (xs.getD i QI.o).a (xs.getD i QI.o).n (xs.getD i QI.o).c (xs.getD i QI.o).b (xs.getD i QI.o).m (xs.getD i QI.o).d (xs.getD i QI.o).q ∧
    ∃ g o, sa = some ⟨g, o, none⟩ ∧ W.cell? ⟨g, o + i * 3, none⟩ = some (.bool (xs.getD i QI.o).s) ∧ W.cell? ⟨g, o + i * 3 + 1, none⟩ = some (.slice (xs.getD i QI.o).a (xs.getD i QI.o).n (xs.getD i QI.o).c) ∧ W.cell? ⟨g, o + i * 3 + 2, none⟩ = some (.slice (xs.getD i QI.o).b (xs.getD i QI.o).m (xs.getD i QI.o).d)
theorem RdQs.below {K : Nat} {W W' : World} {sa : Option Addr} {n c : Nat} {xs : List QI} (h : RdQs K W sa n c xs) (hB : Below W.heap.size W W') : RdQs K W' sa n c xs := by
  obtain ⟨h1, h2, h3, h4⟩ := h
  refine ⟨h1, h2, h3, fun i hi => ?_⟩
  obtain ⟨h5, g, o, e, c1, c2, c3⟩ := h4 i hi
  have hl := World.block_lt_of_cell? _ _ c1
  exact ⟨h5.below hB, g, o, e, by rw [hB.cell (p := ⟨g, o + i * 3, none⟩) hl]; exact c1, by rw [hB.cell (p := ⟨g, o + i * 3 + 1, none⟩) hl]; exact c2, by rw [hB.cell (p := ⟨g, o + i * 3 + 2, none⟩) hl]; exact c3⟩
/-- the sum of the first k -/
def qsm (xs : List QI) : Nat → Rat
  | 0 => 0
  | k + 1 => qsm xs k + (xs.getD k QI.o).q
theorem qs_zero : QS 0 1 := ⟨(show 0 < 4294967296 ^ 1 by decide), (show 1 < 4294967296 ^ 1 by decide)⟩
theorem RdQs.sum {K : Nat} {W : World} {sa : Option Addr} {n c : Nat} {xs : List QI} (h : RdQs K W sa n c xs) (hK : 1 ≤ K) : ∀ k, k ≤ n → QS (qsm xs k) (k * (K + 1) + 1)
  | 0, _ => qs_zero.mono (by omega)
  | k + 1, hk => ((h.sum hK k (by omega)).add ((h.2.2.2 k (by omega)).1.qs hK)).mono (by rw [Nat.add_mul]; omega)
theorem RdQs.bnd {K : Nat} {W : World} {sa : Option Addr} {n c : Nat} {xs : List QI} (h : RdQs K W sa n c xs) : n ≤ c ∧ c ≤ 9223372036854775807 := ⟨h.2.1, by have := h.2.2.1; unfold maxLen at this; omega⟩
theorem rdqs_nil (K : Nat) (W : World) : RdQs K W none 0 0 [] := ⟨rfl, Nat.le_refl _, Nat.zero_le _, fun i hi => absurd hi (by omega)⟩

set_option maxRecDepth 100000 in
set_option maxHeartbeats 4000000 in
theorem qsum {w : World} {sa : Option Addr} {n c K : Nat} {xs : List QI} (hx : RdQs K w sa n c xs) (hK : 1 ≤ K) (hn : n * (K + 1) + 1 ≤ 1000000) :
    Calls Try.prog 39 #[.slice sa n c] w (RetQ w (qsm xs n)) := by
  have hbn := hx.bnd
  have hqs := hid (hx.sum hK)
  have hJ := hid (fun k (hk : k ≤ n) => (by have := Nat.mul_le_mul_right (K + 1) hk; omega : k * (K + 1) + 1 ≤ 1000000))
  have hent := ent1 w #[Value.bool false, Value.slice none 0 0, Value.slice none 0 0] 28
  go_enter Try.func39, Try.ntmps39
  go_wp2_with fail
  generalize (w.alloc (.cells #[Value.bool false, Value.slice none 0 0, Value.slice none 0 0] 28)) = W0 at hent ⊢
  obtain ⟨R0_0, hbel_0, hsz_0⟩ := hent
  have cR0_0_0 : _ = some (Value.bool false) := R0_0.cell 0
  have fR0_0_0 := R0_0.free 0
  have cR0_0_1 : _ = some (Value.slice none 0 0) := R0_0.cell 1
  have fR0_0_1 := R0_0.free 1
  have cR0_0_2 : _ = some (Value.slice none 0 0) := R0_0.cell 2
  have fR0_0_2 := R0_0.free 2
  have hx_0 := hx.below hbel_0
  clear hx
  have HX := hid hx_0
  clear hx_0
  have hbW_0 : Below W0.heap.size W0 W0 := Below.refl _ _
  go_wp2_with fail
  refine (of_any 1 (by omega) (by omega)).mono ?_
  rintro e w1 ⟨oa, on, oc, rfl, hO, hB⟩
  have hB_1 : Below W0.heap.size W0 w1 := (bl.next hB)
  have R0_1 := R0_0.next hB_1
  have cR0_1_0 : _ = some (Value.bool false) := R0_1.cell 0
  have fR0_1_0 := R0_1.free 0
  have cR0_1_1 : _ = some (Value.slice none 0 0) := R0_1.cell 1
  have fR0_1_1 := R0_1.free 1
  have cR0_1_2 : _ = some (Value.slice none 0 0) := R0_1.cell 2
  have fR0_1_2 := R0_1.free 2
  have hbW_1 := hbW_0.next hB_1
  have hbel_1 := hbel_0.next hB_1
  have hsz_1 := hB_1.size
  clear R0_0 cR0_0_0 fR0_0_0 cR0_0_1 fR0_0_1 cR0_0_2 fR0_0_2 hbW_0 hbel_0 hB_1
  have O_1 := hO
  have ltO := hO.ltB
  clear hO
  try clear hB
  have hbx := blk_new w1 #[Value.bool false, Value.slice none 0 0, Value.slice oa on oc] 28
  have hbB := (Below.refl w1.heap.size w1).alloc (Nat.le_refl _) (.cells #[Value.bool false, Value.slice none 0 0, Value.slice oa on oc] 28)
  have hltS := hbx.lt
  have hB_2 : Below w1.heap.size w1 (w1.alloc (.cells #[Value.bool false, Value.slice none 0 0, Value.slice oa on oc] 28)) := hbB
  have R0_2 := R0_1.next hB_2
  have cR0_2_0 : _ = some (Value.bool false) := R0_2.cell 0
  have fR0_2_0 := R0_2.free 0
  have cR0_2_1 : _ = some (Value.slice none 0 0) := R0_2.cell 1
  have fR0_2_1 := R0_2.free 1
  have cR0_2_2 : _ = some (Value.slice none 0 0) := R0_2.cell 2
  have fR0_2_2 := R0_2.free 2
  have hbW_2 := hbW_1.next hB_2
  have O_2 := O_1.below hB_2
  have hbel_2 := hbel_1.next hB_2
  have hsz_2 := hB_2.size
  clear hB_2
  have S_2 := hbx
  clear hbx hbB
  have cS_2_0 : _ = some (Value.bool false) := S_2.cell 0
  have fS_2_0 := S_2.free 0
  have cS_2_1 : _ = some (Value.slice none 0 0) := S_2.cell 1
  have fS_2_1 := S_2.free 1
  have cS_2_2 : _ = some (Value.slice oa on oc) := S_2.cell 2
  have fS_2_2 := S_2.free 2
  go_wp2_with fail
  clear R0_1 cR0_1_0 fR0_1_0 cR0_1_1 fR0_1_1 cR0_1_2 fR0_1_2 hbW_1 O_1 hbel_1
  generalize (w1.alloc (.cells #[Value.bool false, Value.slice none 0 0, Value.slice oa on oc] 28)) = v2 at *
  have hP : Own W0.heap.size v2 none 0 0 (lm (0 : Rat).num.natAbs) := own_nil _ _
  have hO1 : Own W0.heap.size v2 oa on oc (lm (0 : Rat).den) := O_2.mono (by omega)
  have hgS : w.heap.size + 1 ≤ w1.heap.size := by omega
  have hgS1 : W0.heap.size ≤ w1.heap.size := by omega
  generalize hgg : w1.heap.size = gS at *
  clear hgg
  go_loopw [10] (fun i wr => ∃ (k : Nat) (pa : Option Addr) (pn pc : Nat) (oa : Option Addr) (on oc : Nat), k ≤ n ∧ i = .int .i64 k ∧ Blk wr gS #[.bool (decide ((qsm xs k).num < 0)), .slice pa pn pc, .slice oa on oc] ∧ Own W0.heap.size wr pa pn pc (lm (qsm xs k).num.natAbs) ∧ Own W0.heap.size wr oa on oc (lm (qsm xs k).den) ∧ Blk wr w.heap.size #[Value.bool false, Value.slice none 0 0, Value.slice none 0 0] ∧ Below W0.heap.size W0 wr ∧ Below w.heap.size w wr ∧ Diff pa oa) (fun i _ => n - (intOf i).toNat)
  case atStart => exact ⟨0, _, _, _, _, _, _, Nat.zero_le _, rfl, S_2, hP, hO1, R0_2, hbW_2, hbel_2, diff_nil _⟩
  case round =>
    clear S_2 R0_2 hbW_2 hbel_2 O_2 cS_2_0 fS_2_0 cS_2_1 fS_2_1 cS_2_2 fS_2_2 cR0_2_0 fR0_2_0 cR0_2_1 fR0_2_1 cR0_2_2 fR0_2_2 hP hO1
    obtain ⟨k, pa, pn, pc, oa, on, oc, hk, rfl, S_3, P_3, O_3, R0_3, hbW_3, hbel_3, hdf⟩ := hrel
    have hWs := hbW_3.size
    have hsz_3 := hbW_3.size
    have hltS := S_3.lt
    have cS_3_0 : _ = some (Value.bool (decide ((qsm xs k).num < 0))) := S_3.cell 0
    have fS_3_0 := S_3.free 0
    have cS_3_1 : _ = some (Value.slice pa pn pc) := S_3.cell 1
    have fS_3_1 := S_3.free 1
    have cS_3_2 : _ = some (Value.slice oa on oc) := S_3.cell 2
    have fS_3_2 := S_3.free 2
    have cR0_3_0 : _ = some (Value.bool false) := R0_3.cell 0
    have fR0_3_0 := R0_3.free 0
    have cR0_3_1 : _ = some (Value.slice none 0 0) := R0_3.cell 1
    have fR0_3_1 := R0_3.free 1
    have cR0_3_2 : _ = some (Value.slice none 0 0) := R0_3.cell 2
    have fR0_3_2 := R0_3.free 2
    by_cases hkn : k < n
    · skip
      obtain ⟨hq, g, o, rfl, c1, c2, c3⟩ := (HX.out.below hbW_3).2.2.2 k hkn
      have hqk := hid (hqs.out k hk)
      have hJk := hJ.out k hk
      have hJ1 := hJ.out (k + 1) (by omega)
      have hstep : Hid (qsm xs (k + 1) = qsm xs k + (xs.getD k QI.o).q) := rfl
      have hK6 : K ≤ 1000000 := by rw [Nat.add_mul] at hJ1; omega
      generalize xs.getD k QI.o = y at *
      have Y_3 := hq
      clear hq
      have hbx := blk_new wr #[Value.bool y.s, Value.slice y.a y.n y.c, Value.slice y.b y.m y.d] 28
      have hbB := (Below.refl wr.heap.size wr).alloc (Nat.le_refl _) (.cells #[Value.bool y.s, Value.slice y.a y.n y.c, Value.slice y.b y.m y.d] 28)
      have hltA := hbx.lt
      have hB_4 : Below wr.heap.size wr (wr.alloc (.cells #[Value.bool y.s, Value.slice y.a y.n y.c, Value.slice y.b y.m y.d] 28)) := hbB
      have R0_4 := R0_3.next hB_4
      have cR0_4_0 : _ = some (Value.bool false) := R0_4.cell 0
      have fR0_4_0 := R0_4.free 0
      have cR0_4_1 : _ = some (Value.slice none 0 0) := R0_4.cell 1
      have fR0_4_1 := R0_4.free 1
      have cR0_4_2 : _ = some (Value.slice none 0 0) := R0_4.cell 2
      have fR0_4_2 := R0_4.free 2
      have S_4 := S_3.next hB_4
      have cS_4_0 : _ = some (Value.bool (decide ((qsm xs k).num < 0))) := S_4.cell 0
      have fS_4_0 := S_4.free 0
      have cS_4_1 : _ = some (Value.slice pa pn pc) := S_4.cell 1
      have fS_4_1 := S_4.free 1
      have cS_4_2 : _ = some (Value.slice oa on oc) := S_4.cell 2
      have fS_4_2 := S_4.free 2
      have hbW_4 := hbW_3.next hB_4
      have O_4 := O_3.below hB_4
      have P_4 := P_3.below hB_4
      have Y_4 := Y_3.below hB_4
      have hbel_4 := hbel_3.next hB_4
      have hsz_4 := hB_4.size
      clear hB_4
      have A_4 := hbx
      clear hbx hbB
      have cA_4_0 : _ = some (Value.bool y.s) := A_4.cell 0
      have cA_4_1 : _ = some (Value.slice y.a y.n y.c) := A_4.cell 1
      have cA_4_2 : _ = some (Value.slice y.b y.m y.d) := A_4.cell 2
      go_wp2_with fail
      clear R0_3 cR0_3_0 fR0_3_0 cR0_3_1 fR0_3_1 cR0_3_2 fR0_3_2 S_3 cS_3_0 fS_3_0 cS_3_1 fS_3_1 cS_3_2 fS_3_2 hbW_3 O_3 P_3 Y_3 hbel_3
      generalize (wr.alloc (.cells #[Value.bool y.s, Value.slice y.a y.n y.c, Value.slice y.b y.m y.d] 28)) = v4 at *
      go_wp2_with fail
      refine (qadd (P_4.rdQ O_4 hqk.out) hJk Y_4 hK6).mono ?_
      rw [← hstep.out]
      rintro e w5 ⟨ra, rn, rc, ta, tn, tc, rfl, hO, hO', hD, hB⟩
      have hB_5 : Below v4.heap.size v4 w5 := (bl.next hB)
      have R0_5 := R0_4.next hB_5
      have cR0_5_0 : _ = some (Value.bool false) := R0_5.cell 0
      have fR0_5_0 := R0_5.free 0
      have cR0_5_1 : _ = some (Value.slice none 0 0) := R0_5.cell 1
      have fR0_5_1 := R0_5.free 1
      have cR0_5_2 : _ = some (Value.slice none 0 0) := R0_5.cell 2
      have fR0_5_2 := R0_5.free 2
      have S_5 := S_4.next hB_5
      have cS_5_0 : _ = some (Value.bool (decide ((qsm xs k).num < 0))) := S_5.cell 0
      have fS_5_0 := S_5.free 0
      have cS_5_1 : _ = some (Value.slice pa pn pc) := S_5.cell 1
      have fS_5_1 := S_5.free 1
      have cS_5_2 : _ = some (Value.slice oa on oc) := S_5.cell 2
      have fS_5_2 := S_5.free 2
      have A_5 := A_4.next hB_5
      have cA_5_0 : _ = some (Value.bool y.s) := A_5.cell 0
      have cA_5_1 : _ = some (Value.slice y.a y.n y.c) := A_5.cell 1
      have cA_5_2 : _ = some (Value.slice y.b y.m y.d) := A_5.cell 2
      have hbW_5 := hbW_4.next hB_5
      have O_5 := O_4.below hB_5
      have P_5 := P_4.below hB_5
      have Y_5 := Y_4.below hB_5
      have hbel_5 := hbel_4.next hB_5
      have hsz_5 := hB_5.size
      clear R0_4 cR0_4_0 fR0_4_0 cR0_4_1 fR0_4_1 cR0_4_2 fR0_4_2 S_4 cS_4_0 fS_4_0 cS_4_1 fS_4_1 cS_4_2 fS_4_2 A_4 cA_4_0 cA_4_1 cA_4_2 hbW_4 O_4 P_4 Y_4 hbel_4 hB_5
      have OQ_5 := hO
      have ltOQ := hO.ltB
      have OD_5 := hO'
      have ltOD := hO'.ltB
      clear hO hO'
      try clear hB
      go_wp2
      go_roundw
      case rel => exact ⟨k + 1, ra, rn, rc, ta, tn, tc, by omega, by go_num, (show Blk _ _ #[_, _, _] from ((S_5.setCell (i := 0) (v := _) (by simp)).setCell (i := 1) (v := _) (by simp)).setCell (i := 2) (v := _) (by simp)), (OQ_5.set3 (by first | omega | exact hltS) _ _ _).mono (by first | omega | exact hWs), (OD_5.set3 (by first | omega | exact hltS) _ _ _).mono (by first | omega | exact hWs), R0_5.set3 (by omega) _ _ _, Below.set3 hbW_5 (by omega) _ _ _, Below.set3 hbel_5 (by omega) _ _ _, hD⟩
      case measure => simp [intOf]; omega

    · obtain rfl : k = n := by omega
      go_wp2
      refine bodyPost_ret (v := .agg #[.bool (decide ((qsm xs k).num < 0)), .slice pa pn pc, .slice oa on oc]) (by simp [results, Try.results39, go_sem, cR0_3_0, cR0_3_1, cR0_3_2]) rfl ?_
      exact retq_set P_3 O_3 hdf hbel_3 (Nat.le_refl _) (by omega)

end Go.Proofs.Ytennilapmcgnbaa

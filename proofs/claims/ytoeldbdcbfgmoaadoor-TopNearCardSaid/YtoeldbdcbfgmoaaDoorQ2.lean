/- WALKS OF FRACTIONS, 4: a text cut at its first stroke '/'. -/
import Derived.Test.YtoeldbdcbfgmoaaDoorMq
import Derived.Lib.Bytealg
import Derived.Lib.IndexLaws
import Derived.Test.YtoeldbdcbfgmoaaDoorQ1
import Derived.Deep.Cut
namespace Go.Proofs.YtoeldbdcbfgmoaaDoor
set_option linter.unusedVariables false
set_option linter.unusedSimpArgs false
open Go.ChangeShapes Go.WideShapes Go.ChangeAt Go.RowKit Go.NatP

/-- where the first '/' stands, or -1 -/
def slI (s : ByteArray) : Int := Lib.indexByte s.data.toList 47
theorem slI_cases (s : ByteArray) : slI s = -1 ∨ ∃ i : Nat, slI s = i ∧ i < s.size := by
  by_cases h : 0 ≤ slI s
  · refine .inr ⟨(slI s).toNat, by omega, ?_⟩
    have h1 : Lib.indexByte s.data.toList 47 = ((slI s).toNat : Nat) := by show slI s = _; omega
    have h2 := (Lib.indexByte_some h1).1
    have := (List.getElem?_eq_some_iff.1 h2).1
    simpa using this
  · have := Lib.indexByte_ge s.data.toList 47
    exact .inl (by show slI s = -1; unfold slI at *; omega)
def cutA (s : ByteArray) : ByteArray := if slI s < 0 then s else s.extract 0 (slI s).toNat
def cutB (s : ByteArray) : ByteArray := if slI s < 0 then ⟨#[]⟩ else s.extract ((slI s).toNat + 1) s.size
def cutF (s : ByteArray) : Bool := decide (0 ≤ slI s)

def RetCut3 (w : World) (s : ByteArray) (e : Ending) (w' : World) : Prop := e = .returned (.tuple #[.string (cutA s), .string (cutB s), .bool (cutF s)]) ∧ Below w.heap.size w w'

end Go.Proofs.YtoeldbdcbfgmoaaDoor
/- WALKS OF FRACTIONS, 5: texts. -/
namespace Go.Proofs.YtoeldbdcbfgmoaaDoor
set_option linter.unusedVariables false
set_option linter.unusedSimpArgs false
open Go.ChangeShapes Go.WideShapes Go.ChangeAt Go.RowKit Go.NatP

/-- a fraction's text -/
def qtx (q : Rat) : ByteArray := if q.den = 1 then ztx q.num else ztx q.num ++ (⟨#[47]⟩ ++ txt (tx q.den))
theorem ztx_size {z : Int} {k : Nat} (h : Sz z.natAbs k) : (ztx z).size ≤ 10 * k + 3 := by
  have := txt_size (dl_len_le h.len)
  unfold ztx
  split
  · rw [ByteArray.size_append]; have : (⟨#[45]⟩ : ByteArray).size = 1 := rfl; omega
  · omega
theorem txt_sz {v : Nat} {k : Nat} (h : Sz v k) : (txt (tx v)).size ≤ 10 * k + 2 := by have := txt_size (dl_len_le h.len); omega

set_option maxRecDepth 100000 in
set_option maxHeartbeats 4000000 in
theorem qtext1 {w : World} {a1 b1 : Option Addr} {n1 c1 m1 d1 : Nat} {s : Bool} {x : Rat} {J : Nat} (hx : RdQ J w s a1 n1 c1 b1 m1 d1 x) (hJ : J ≤ 1000000) (h1 : x.den = 1) :
    Calls Tryd.prog 45 #[.agg #[.bool s, .slice a1 n1 c1, .slice b1 m1 d1]] w (RetT w (qtx x)) := by
  have hd1' := h1
  clear h1
  rw [show qtx x = ztx x.num by unfold qtx; rw [if_pos hd1']]
  obtain ⟨u1, v1, h1, hd1, rfl⟩ := hx
  have hz1 := h1.toZ (s := s)
  have sd1 := hid (sz_und (hd1.sz.mono (Nat.le_refl _) (Nat.le_succ J)) (by omega))
  have su1 := hid h1.sz
  have hu1 := hid (und_ne v1)
  unfold qv
  have hqs := QS.mk (n := zv s u1) hu1.out (hz1.sz.mono (Nat.le_refl _) (Nat.le_succ J)) sd1.out
  have hqd : qv s u1 v1 = mkRat (zv s u1) (und v1) := rfl
  rw [hqd] at hd1'
  clear hqd
  have HU1 := hid (fun W (h : RdN J W b1 m1 d1 v1) => qunder (w := W) (s := s) (a := a1) (n := n1) (c := c1) (h.mono (show _ ≤ 4194304 by omega)))
  generalize hD1 : und v1 = e1 at *
  clear hD1
  generalize hq : mkRat (zv s u1) e1 = q at *
  have hq' := hid hq
  have hs1 := hid hqs.1
  have hs2 := hid hqs.2
  have ht1 := ztx_size hqs.1
  have ht2 := txt_sz hqs.2
  clear hq hqs hz1
  have hc : cmpI q.den 1 = 0 := by unfold cmpI; split <;> (try split) <;> omega
  have hch := hid hc
  clear hc
  have hn1 := hid hd1'
  clear hd1'
  have hent := ent1 w #[Value.bool s, Value.slice a1 n1 c1, Value.slice b1 m1 d1] 27
  go_enter Tryd.func45, Tryd.ntmps45
  go_wp2_with fail
  generalize (w.alloc (.cells #[Value.bool s, Value.slice a1 n1 c1, Value.slice b1 m1 d1] 27)) = W0 at hent ⊢
  obtain ⟨X_0, hbel_0, hsz_0⟩ := hent
  have cX_0_0 : _ = some (Value.bool s) := X_0.cell 0
  have fX_0_0 := X_0.free 0
  have cX_0_1 : _ = some (Value.slice a1 n1 c1) := X_0.cell 1
  have fX_0_1 := X_0.free 1
  have cX_0_2 : _ = some (Value.slice b1 m1 d1) := X_0.cell 2
  have fX_0_2 := X_0.free 2
  have h1_0 := h1.below hbel_0
  clear h1
  have hd1_0 := hd1.below hbel_0
  clear hd1
  go_wp2_with fail
  go_cut [] (fun wx => ∃ (Xa : Option Addr) (Xn Xc : Nat) (Xb : Option Addr) (Xm Xd : Nat), Blk wx (w.heap.size) #[Value.bool (decide ((q).num < 0)), Value.slice Xa Xn Xc, Value.slice Xb Xm Xd] ∧ Own W0.heap.size wx Xa Xn Xc (lm (q).num.natAbs) ∧ Own W0.heap.size wx Xb Xm Xd (lm (q).den) ∧ Below w.heap.size w wx ∧ W0.heap.size ≤ wx.heap.size)
  case first =>
    go_wp2_with fail
    go_region_with
      (first
        | (go_at_call 48; ((with_reducible refine (HU1.out _ (hd1_0.below bl)).mono ?_); (rintro e w1 ⟨va, vn, vc, rfl, hO, hB⟩; have hB_1 : Below W0.heap.size W0 w1 := (bl.next hB); have X_1 := X_0.next hB_1; have cX_1_0 : _ = some (Value.bool s) := X_1.cell 0; have fX_1_0 := X_1.free 0; have cX_1_1 : _ = some (Value.slice a1 n1 c1) := X_1.cell 1; have fX_1_1 := X_1.free 1; have cX_1_2 : _ = some (Value.slice b1 m1 d1) := X_1.cell 2; have fX_1_2 := X_1.free 2; have h1_1 := h1_0.below hB_1; have hd1_1 := hd1_0.below hB_1; have hbel_1 := hbel_0.next hB_1; have hsz_1 := hB_1.size; clear X_0 cX_0_0 fX_0_0 cX_0_1 fX_0_1 cX_0_2 fX_0_2 h1_0 hd1_0 hbel_0 hB_1; have V_1 := hO.rdN sd1.out; clear hO; try clear hB)))
        | (go_at_call 75; ((with_reducible refine (qlow s ((h1_1.below bl).mono (by omega)) ((V_1.below bl).mono (by omega)) hu1.out).mono ?_); (rw [hq'.out]; rintro e w2 ⟨qa, qn, qc, da, dn, dc, rfl, hO, hO', hD, hB⟩; have hB_2 : Below w1.heap.size w1 w2 := (bl.next hB); have X_2 := X_1.next hB_2; have cX_2_0 : _ = some (Value.bool s) := X_2.cell 0; have fX_2_0 := X_2.free 0; have cX_2_1 : _ = some (Value.slice a1 n1 c1) := X_2.cell 1; have fX_2_1 := X_2.free 1; have cX_2_2 : _ = some (Value.slice b1 m1 d1) := X_2.cell 2; have fX_2_2 := X_2.free 2; have h1_2 := h1_1.below hB_2; have hd1_2 := hd1_1.below hB_2; have V_2 := V_1.below hB_2; have hbel_2 := hbel_1.next hB_2; have hsz_2 := hB_2.size; clear X_1 cX_1_0 fX_1_0 cX_1_1 fX_1_1 cX_1_2 fX_1_2 h1_1 hd1_1 V_1 hbel_1 hB_2; try clear hB))))
    all_goals (go_wp2_with fail; go_meet; exact ⟨_, _, _, _, _, _, (show Blk _ _ #[_, _, _] from ((X_2.setCell (i := 0) (v := _) (by simp)).setCell (i := 1) (v := _) (by simp)).setCell (i := 2) (v := _) (by simp)), (hO.set3 (by omega) _ _ _).mono (by omega), (hO'.set3 (by omega) _ _ _).mono (by omega), Below.set3 hbel_2 (by omega) _ _ _, by simp [World.setCell]; omega⟩)
  case rest =>
    clear X_0 cX_0_0 fX_0_0 cX_0_1 fX_0_1 cX_0_2 fX_0_2 h1_0 hd1_0 hbel_0
    obtain ⟨Xa, Xn, Xc, Xb, Xm, Xd, X_1, hO, hO', hbel_1, hsz_1⟩ := hcut
    have cX_1_0 : _ = some (Value.bool (decide ((q).num < 0))) := X_1.cell 0
    have fX_1_0 := X_1.free 0
    have cX_1_1 : _ = some (Value.slice Xa Xn Xc) := X_1.cell 1
    have fX_1_1 := X_1.free 1
    have cX_1_2 : _ = some (Value.slice Xb Xm Xd) := X_1.cell 2
    have fX_1_2 := X_1.free 2
    have OX_1 := hO
    have ltOX := hO.ltB
    have OX'_1 := hO'
    have ltOX' := hO'.ltB
    clear hO hO'
    have Z_1 := OX_1.rdZ hs1.out
    have N_1 := OX'_1.rdN hs2.out
    clear OX_1
    clear OX'_1
    clear ltOX ltOX'
    go_wp2_with fail
    refine (ztextR Z_1 (by omega)).mono ?_
    rintro e w2 ⟨rfl, hB⟩
    have hB_2 : Below wc.heap.size wc w2 := (bl.next hB)
    have X_2 := X_1.next hB_2
    have cX_2_0 : _ = some (Value.bool (decide ((q).num < 0))) := X_2.cell 0
    have fX_2_0 := X_2.free 0
    have cX_2_1 : _ = some (Value.slice Xa Xn Xc) := X_2.cell 1
    have fX_2_1 := X_2.free 1
    have cX_2_2 : _ = some (Value.slice Xb Xm Xd) := X_2.cell 2
    have fX_2_2 := X_2.free 2
    have Z_2 := Z_1.below hB_2
    have N_2 := N_1.below hB_2
    have hbel_2 := hbel_1.next hB_2
    have hsz_2 := hB_2.size
    clear X_1 cX_1_0 fX_1_0 cX_1_1 fX_1_1 cX_1_2 fX_1_2 Z_1 N_1 hbel_1 hB_2
    try clear hB
    go_wp2_with fail
    go_region_held3 (fun w' => w'.cell? ⟨w.heap.size, 0, none⟩ = some (Value.bool (decide ((q).num < 0))) ∧ w'.cell? ⟨w.heap.size, 1, none⟩ = some (Value.slice Xa Xn Xc) ∧ w'.cell? ⟨w.heap.size, 2, none⟩ = some (Value.slice Xb Xm Xd))
      (first | exact ⟨cX_2_0, cX_2_1, cX_2_2⟩ | exact ⟨cX_3_0, cX_3_1, cX_3_2⟩ | exact ⟨cX_4_0, cX_4_1, cX_4_2⟩ | go_keep)
      (first
        | (go_at_call 38; ((with_reducible refine (of_any 1 (by omega) (by omega)).mono ?_); (rintro e w3 ⟨oa, on, oc, rfl, hO, hB⟩; have hB_3 : Below w2.heap.size w2 w3 := (bl.next hB); have X_3 := X_2.next hB_3; have cX_3_0 : _ = some (Value.bool (decide ((q).num < 0))) := X_3.cell 0; have fX_3_0 := X_3.free 0; have cX_3_1 : _ = some (Value.slice Xa Xn Xc) := X_3.cell 1; have fX_3_1 := X_3.free 1; have cX_3_2 : _ = some (Value.slice Xb Xm Xd) := X_3.cell 2; have fX_3_2 := X_3.free 2; have Z_3 := Z_2.below hB_3; have N_3 := N_2.below hB_3; have hbel_3 := hbel_2.next hB_3; have hsz_3 := hB_3.size; clear X_2 cX_2_0 fX_2_0 cX_2_1 fX_2_1 cX_2_2 fX_2_2 Z_2 N_2 hbel_2 hB_3; have O_3 := hO.rdN (show Sz (1 : Int).toNat 1 from sz_one (Nat.le_refl _)); clear hO; try clear hB)))
        | (go_at_call 55; ((with_reducible refine (ncmpR (N_3.below bl) (O_3.below bl)).mono ?_); (rw [show cmpI q.den (1 : Int).toNat = 0 from hch.out]; rintro e w4 ⟨rfl, hB⟩; have hB_4 : Below w3.heap.size w3 w4 := (bl.next hB); have X_4 := X_3.next hB_4; have cX_4_0 : _ = some (Value.bool (decide ((q).num < 0))) := X_4.cell 0; have fX_4_0 := X_4.free 0; have cX_4_1 : _ = some (Value.slice Xa Xn Xc) := X_4.cell 1; have fX_4_1 := X_4.free 1; have cX_4_2 : _ = some (Value.slice Xb Xm Xd) := X_4.cell 2; have fX_4_2 := X_4.free 2; have Z_4 := Z_3.below hB_4; have N_4 := N_3.below hB_4; have O_4 := O_3.below hB_4; have hbel_4 := hbel_3.next hB_4; have hsz_4 := hB_4.size; clear X_3 cX_3_0 fX_3_0 cX_3_1 fX_3_1 cX_3_2 fX_3_2 Z_3 N_3 O_3 hbel_3 hB_4; try clear hB))))
    go_wp2
    go_ret
    exact ⟨rfl, hbel_4⟩

set_option maxRecDepth 100000 in
set_option maxHeartbeats 4000000 in
theorem qtext0 {w : World} {a1 b1 : Option Addr} {n1 c1 m1 d1 : Nat} {s : Bool} {x : Rat} {J : Nat} (hx : RdQ J w s a1 n1 c1 b1 m1 d1 x) (hJ : J ≤ 1000000) (h1 : x.den ≠ 1) :
    Calls Tryd.prog 45 #[.agg #[.bool s, .slice a1 n1 c1, .slice b1 m1 d1]] w (RetT w (qtx x)) := by
  have hd1' := h1
  clear h1
  rw [show qtx x = ztx x.num ++ (⟨#[47]⟩ ++ txt (tx x.den)) by unfold qtx; rw [if_neg hd1']]
  obtain ⟨u1, v1, h1, hd1, rfl⟩ := hx
  have hz1 := h1.toZ (s := s)
  have sd1 := hid (sz_und (hd1.sz.mono (Nat.le_refl _) (Nat.le_succ J)) (by omega))
  have su1 := hid h1.sz
  have hu1 := hid (und_ne v1)
  unfold qv
  have hqs := QS.mk (n := zv s u1) hu1.out (hz1.sz.mono (Nat.le_refl _) (Nat.le_succ J)) sd1.out
  have hqd : qv s u1 v1 = mkRat (zv s u1) (und v1) := rfl
  rw [hqd] at hd1'
  clear hqd
  have HU1 := hid (fun W (h : RdN J W b1 m1 d1 v1) => qunder (w := W) (s := s) (a := a1) (n := n1) (c := c1) (h.mono (show _ ≤ 4194304 by omega)))
  generalize hD1 : und v1 = e1 at *
  clear hD1
  generalize hq : mkRat (zv s u1) e1 = q at *
  have hq' := hid hq
  have hs1 := hid hqs.1
  have hs2 := hid hqs.2
  have ht1 := ztx_size hqs.1
  have ht2 := txt_sz hqs.2
  clear hq hqs hz1
  have hc : (cmpI q.den 1 != (0 : Int)) = true := by simp only [bne_iff_ne, ne_eq]; unfold cmpI; split <;> (try split) <;> omega
  have hch := hid hc
  clear hch
  have hn1 := hid hd1'
  clear hd1'
  have hent := ent1 w #[Value.bool s, Value.slice a1 n1 c1, Value.slice b1 m1 d1] 27
  go_enter Tryd.func45, Tryd.ntmps45
  go_wp2_with fail
  generalize (w.alloc (.cells #[Value.bool s, Value.slice a1 n1 c1, Value.slice b1 m1 d1] 27)) = W0 at hent ⊢
  obtain ⟨X_0, hbel_0, hsz_0⟩ := hent
  have cX_0_0 : _ = some (Value.bool s) := X_0.cell 0
  have fX_0_0 := X_0.free 0
  have cX_0_1 : _ = some (Value.slice a1 n1 c1) := X_0.cell 1
  have fX_0_1 := X_0.free 1
  have cX_0_2 : _ = some (Value.slice b1 m1 d1) := X_0.cell 2
  have fX_0_2 := X_0.free 2
  have h1_0 := h1.below hbel_0
  clear h1
  have hd1_0 := hd1.below hbel_0
  clear hd1
  go_wp2_with fail
  go_cut [] (fun wx => ∃ (Xa : Option Addr) (Xn Xc : Nat) (Xb : Option Addr) (Xm Xd : Nat), Blk wx (w.heap.size) #[Value.bool (decide ((q).num < 0)), Value.slice Xa Xn Xc, Value.slice Xb Xm Xd] ∧ Own W0.heap.size wx Xa Xn Xc (lm (q).num.natAbs) ∧ Own W0.heap.size wx Xb Xm Xd (lm (q).den) ∧ Below w.heap.size w wx ∧ W0.heap.size ≤ wx.heap.size)
  case first =>
    go_wp2_with fail
    go_region_with
      (first
        | (go_at_call 48; ((with_reducible refine (HU1.out _ (hd1_0.below bl)).mono ?_); (rintro e w1 ⟨va, vn, vc, rfl, hO, hB⟩; have hB_1 : Below W0.heap.size W0 w1 := (bl.next hB); have X_1 := X_0.next hB_1; have cX_1_0 : _ = some (Value.bool s) := X_1.cell 0; have fX_1_0 := X_1.free 0; have cX_1_1 : _ = some (Value.slice a1 n1 c1) := X_1.cell 1; have fX_1_1 := X_1.free 1; have cX_1_2 : _ = some (Value.slice b1 m1 d1) := X_1.cell 2; have fX_1_2 := X_1.free 2; have h1_1 := h1_0.below hB_1; have hd1_1 := hd1_0.below hB_1; have hbel_1 := hbel_0.next hB_1; have hsz_1 := hB_1.size; clear X_0 cX_0_0 fX_0_0 cX_0_1 fX_0_1 cX_0_2 fX_0_2 h1_0 hd1_0 hbel_0 hB_1; have V_1 := hO.rdN sd1.out; clear hO; try clear hB)))
        | (go_at_call 75; ((with_reducible refine (qlow s ((h1_1.below bl).mono (by omega)) ((V_1.below bl).mono (by omega)) hu1.out).mono ?_); (rw [hq'.out]; rintro e w2 ⟨qa, qn, qc, da, dn, dc, rfl, hO, hO', hD, hB⟩; have hB_2 : Below w1.heap.size w1 w2 := (bl.next hB); have X_2 := X_1.next hB_2; have cX_2_0 : _ = some (Value.bool s) := X_2.cell 0; have fX_2_0 := X_2.free 0; have cX_2_1 : _ = some (Value.slice a1 n1 c1) := X_2.cell 1; have fX_2_1 := X_2.free 1; have cX_2_2 : _ = some (Value.slice b1 m1 d1) := X_2.cell 2; have fX_2_2 := X_2.free 2; have h1_2 := h1_1.below hB_2; have hd1_2 := hd1_1.below hB_2; have V_2 := V_1.below hB_2; have hbel_2 := hbel_1.next hB_2; have hsz_2 := hB_2.size; clear X_1 cX_1_0 fX_1_0 cX_1_1 fX_1_1 cX_1_2 fX_1_2 h1_1 hd1_1 V_1 hbel_1 hB_2; try clear hB))))
    all_goals (go_wp2_with fail; go_meet; exact ⟨_, _, _, _, _, _, (show Blk _ _ #[_, _, _] from ((X_2.setCell (i := 0) (v := _) (by simp)).setCell (i := 1) (v := _) (by simp)).setCell (i := 2) (v := _) (by simp)), (hO.set3 (by omega) _ _ _).mono (by omega), (hO'.set3 (by omega) _ _ _).mono (by omega), Below.set3 hbel_2 (by omega) _ _ _, by simp [World.setCell]; omega⟩)
  case rest =>
    clear X_0 cX_0_0 fX_0_0 cX_0_1 fX_0_1 cX_0_2 fX_0_2 h1_0 hd1_0 hbel_0
    obtain ⟨Xa, Xn, Xc, Xb, Xm, Xd, X_1, hO, hO', hbel_1, hsz_1⟩ := hcut
    have cX_1_0 : _ = some (Value.bool (decide ((q).num < 0))) := X_1.cell 0
    have fX_1_0 := X_1.free 0
    have cX_1_1 : _ = some (Value.slice Xa Xn Xc) := X_1.cell 1
    have fX_1_1 := X_1.free 1
    have cX_1_2 : _ = some (Value.slice Xb Xm Xd) := X_1.cell 2
    have fX_1_2 := X_1.free 2
    have OX_1 := hO
    have ltOX := hO.ltB
    have OX'_1 := hO'
    have ltOX' := hO'.ltB
    clear hO hO'
    have Z_1 := OX_1.rdZ hs1.out
    have N_1 := OX'_1.rdN hs2.out
    clear OX_1
    clear OX'_1
    clear ltOX ltOX'
    go_wp2_with fail
    refine (ztextR Z_1 (by omega)).mono ?_
    rintro e w2 ⟨rfl, hB⟩
    have hB_2 : Below wc.heap.size wc w2 := (bl.next hB)
    have X_2 := X_1.next hB_2
    have cX_2_0 : _ = some (Value.bool (decide ((q).num < 0))) := X_2.cell 0
    have fX_2_0 := X_2.free 0
    have cX_2_1 : _ = some (Value.slice Xa Xn Xc) := X_2.cell 1
    have fX_2_1 := X_2.free 1
    have cX_2_2 : _ = some (Value.slice Xb Xm Xd) := X_2.cell 2
    have fX_2_2 := X_2.free 2
    have Z_2 := Z_1.below hB_2
    have N_2 := N_1.below hB_2
    have hbel_2 := hbel_1.next hB_2
    have hsz_2 := hB_2.size
    clear X_1 cX_1_0 fX_1_0 cX_1_1 fX_1_1 cX_1_2 fX_1_2 Z_1 N_1 hbel_1 hB_2
    try clear hB
    go_wp2_with fail
    go_region_held3 (fun w' => w'.cell? ⟨w.heap.size, 0, none⟩ = some (Value.bool (decide ((q).num < 0))) ∧ w'.cell? ⟨w.heap.size, 1, none⟩ = some (Value.slice Xa Xn Xc) ∧ w'.cell? ⟨w.heap.size, 2, none⟩ = some (Value.slice Xb Xm Xd))
      (first | exact ⟨cX_2_0, cX_2_1, cX_2_2⟩ | exact ⟨cX_3_0, cX_3_1, cX_3_2⟩ | exact ⟨cX_4_0, cX_4_1, cX_4_2⟩ | go_keep)
      (first
        | (go_at_call 38; ((with_reducible refine (of_any 1 (by omega) (by omega)).mono ?_); (rintro e w3 ⟨oa, on, oc, rfl, hO, hB⟩; have hB_3 : Below w2.heap.size w2 w3 := (bl.next hB); have X_3 := X_2.next hB_3; have cX_3_0 : _ = some (Value.bool (decide ((q).num < 0))) := X_3.cell 0; have fX_3_0 := X_3.free 0; have cX_3_1 : _ = some (Value.slice Xa Xn Xc) := X_3.cell 1; have fX_3_1 := X_3.free 1; have cX_3_2 : _ = some (Value.slice Xb Xm Xd) := X_3.cell 2; have fX_3_2 := X_3.free 2; have Z_3 := Z_2.below hB_3; have N_3 := N_2.below hB_3; have hbel_3 := hbel_2.next hB_3; have hsz_3 := hB_3.size; clear X_2 cX_2_0 fX_2_0 cX_2_1 fX_2_1 cX_2_2 fX_2_2 Z_2 N_2 hbel_2 hB_3; have O_3 := hO.rdN (show Sz (1 : Int).toNat 1 from sz_one (Nat.le_refl _)); clear hO; try clear hB)))
        | (go_at_call 55; ((with_reducible refine (ncmpR (N_3.below bl) (O_3.below bl)).mono ?_); (rintro e w4 ⟨rfl, hB⟩; have hB_4 : Below w3.heap.size w3 w4 := (bl.next hB); have X_4 := X_3.next hB_4; have cX_4_0 : _ = some (Value.bool (decide ((q).num < 0))) := X_4.cell 0; have fX_4_0 := X_4.free 0; have cX_4_1 : _ = some (Value.slice Xa Xn Xc) := X_4.cell 1; have fX_4_1 := X_4.free 1; have cX_4_2 : _ = some (Value.slice Xb Xm Xd) := X_4.cell 2; have fX_4_2 := X_4.free 2; have Z_4 := Z_3.below hB_4; have N_4 := N_3.below hB_4; have O_4 := O_3.below hB_4; have hbel_4 := hbel_3.next hB_4; have hsz_4 := hB_4.size; clear X_3 cX_3_0 fX_3_0 cX_3_1 fX_3_1 cX_3_2 fX_3_2 Z_3 N_3 O_3 hbel_3 hB_4; try clear hB))))
    have hcT : (cmpI q.den (1 : Int).toNat != (0 : Int)) = true := hc
    generalize ztx q.num = T1 at *
    go_wp2_with fail
    refine (ntextR N_4 (by omega)).mono ?_
    rintro e w5 ⟨rfl, hB⟩
    have hB_5 : Below w4.heap.size w4 w5 := (bl.next hB)
    have X_5 := X_4.next hB_5
    have cX_5_0 : _ = some (Value.bool (decide ((q).num < 0))) := X_5.cell 0
    have fX_5_0 := X_5.free 0
    have cX_5_1 : _ = some (Value.slice Xa Xn Xc) := X_5.cell 1
    have fX_5_1 := X_5.free 1
    have cX_5_2 : _ = some (Value.slice Xb Xm Xd) := X_5.cell 2
    have fX_5_2 := X_5.free 2
    have Z_5 := Z_4.below hB_5
    have N_5 := N_4.below hB_5
    have O_5 := O_4.below hB_5
    have hbel_5 := hbel_4.next hB_5
    have hsz_5 := hB_5.size
    clear X_4 cX_4_0 fX_4_0 cX_4_1 fX_4_1 cX_4_2 fX_4_2 Z_4 N_4 O_4 hbel_4 hB_5
    try clear hB
    generalize txt (tx q.den) = T2 at *
    go_wp2
    go_ret
    exact ⟨rfl, hbel_5⟩

theorem qtext {w : World} {a1 b1 : Option Addr} {n1 c1 m1 d1 : Nat} {s : Bool} {x : Rat} {J : Nat} (hx : RdQ J w s a1 n1 c1 b1 m1 d1 x) (hJ : J ≤ 1000000) : Calls Tryd.prog 45 #[.agg #[.bool s, .slice a1 n1 c1, .slice b1 m1 d1]] w (RetT w (qtx x)) := by
  by_cases h : x.den = 1
  · exact qtext1 hx hJ h
  · exact qtext0 hx hJ h

end Go.Proofs.YtoeldbdcbfgmoaaDoor
/- WALKS OF FRACTIONS, 6: a text read. -/
namespace Go.Proofs.YtoeldbdcbfgmoaaDoor
set_option linter.unusedVariables false
set_option linter.unusedSimpArgs false
open Go.ChangeShapes Go.WideShapes Go.ChangeAt Go.RowKit Go.NatP

/-- the denominator of a text -/
def fpD (s : ByteArray) : Nat := if cutF s = true then paN (by' (cutB s)) else 1
/-- the fraction of a text, and the error -/
def fpQ (s : ByteArray) : Rat := Rat.divInt (pzZ (cutA s)) (fpD s)
def fpE (s : ByteArray) : Int := if pzE (cutA s) ≠ 0 then 10 else if cutF s = true ∧ paE (by' (cutB s)) ≠ 0 then 10 else zE (fpD s)
theorem cutA_size (s : ByteArray) : (cutA s).size ≤ s.size := by
  unfold cutA; split
  · exact Nat.le_refl _
  · rw [ByteArray.size_extract]; omega
theorem cutB_size (s : ByteArray) : (cutB s).size ≤ s.size := by
  unfold cutB; split
  · exact Nat.zero_le _
  · rw [ByteArray.size_extract]; omega
theorem pz_sz {s : ByteArray} {k : Nat} (h : s.size ≤ k) : Sz (pzZ s).natAbs k := by
  unfold pzZ; rw [zv_abs]
  exact (paN_sz (pzR s) (Nat.le_refl _)).mono (Nat.le_refl _) (Nat.le_trans (pzR_size s) h)

end Go.Proofs.YtoeldbdcbfgmoaaDoor
/- WALKS OF FRACTIONS, 7: sums of lists. -/
namespace Go.Proofs.YtoeldbdcbfgmoaaDoor
set_option linter.unusedVariables false
set_option linter.unusedSimpArgs false
open Go.ChangeShapes Go.WideShapes Go.ChangeAt Go.RowKit Go.NatP

/-- an element of a list of fractions, and its value -/
structure QI where
  s : Bool
  a : Option Addr
  n : Nat
  c : Nat
  b : Option Addr
  m : Nat
  d : Nat
  q : Rat
def QI.o : QI := ⟨false, none, 0, 0, none, 0, 0, 0⟩
/-- a list of fractions that can be read -/
def RdQs (K : Nat) (W : World) (sa : Option Addr) (n c : Nat) (xs : List QI) : Prop :=
  xs.length = n ∧ n ≤ c ∧ c ≤ maxLen ∧ ∀ i, i < n → RdQ K W (xs.getD i QI.o).s (xs.getD i QI.o).a (xs.getD i QI.o).n (xs.getD i QI.o).c (xs.getD i QI.o).b (xs.getD i QI.o).m (xs.getD i QI.o).d (xs.getD i QI.o).q ∧
    ∃ g o, sa = some ⟨g, o, none⟩ ∧ W.cell? ⟨g, o + i * 3, none⟩ = some (.bool (xs.getD i QI.o).s) ∧ W.cell? ⟨g, o + i * 3 + 1, none⟩ = some (.slice (xs.getD i QI.o).a (xs.getD i QI.o).n (xs.getD i QI.o).c) ∧ W.cell? ⟨g, o + i * 3 + 2, none⟩ = some (.slice (xs.getD i QI.o).b (xs.getD i QI.o).m (xs.getD i QI.o).d)
theorem RdQs.below {K : Nat} {W W' : World} {sa : Option Addr} {n c : Nat} {xs : List QI} (h : RdQs K W sa n c xs) (hB : Below W.heap.size W W') : RdQs K W' sa n c xs := by
  obtain ⟨h1, h2, h3, h4⟩ := h
  refine ⟨h1, h2, h3, fun i hi => ?_⟩
  obtain ⟨h5, g, o, e, c1, c2, c3⟩ := h4 i hi
  have hl := World.block_lt_of_cell? _ _ c1
  exact ⟨h5.below hB, g, o, e, by rw [hB.cell (p := ⟨g, o + i * 3, none⟩) hl]; exact c1, by rw [hB.cell (p := ⟨g, o + i * 3 + 1, none⟩) hl]; exact c2, by rw [hB.cell (p := ⟨g, o + i * 3 + 2, none⟩) hl]; exact c3⟩
/-- the sum of the first k -/
def qsm (xs : List QI) : Nat → Rat
  | 0 => 0
  | k + 1 => qsm xs k + (xs.getD k QI.o).q
theorem qs_zero : QS 0 1 := ⟨(show 0 < 4294967296 ^ 1 by decide), (show 1 < 4294967296 ^ 1 by decide)⟩
theorem RdQs.sum {K : Nat} {W : World} {sa : Option Addr} {n c : Nat} {xs : List QI} (h : RdQs K W sa n c xs) (hK : 1 ≤ K) : ∀ k, k ≤ n → QS (qsm xs k) (k * (K + 1) + 1)
  | 0, _ => qs_zero.mono (by omega)
  | k + 1, hk => ((h.sum hK k (by omega)).add ((h.2.2.2 k (by omega)).1.qs hK)).mono (by rw [Nat.add_mul]; omega)
theorem RdQs.bnd {K : Nat} {W : World} {sa : Option Addr} {n c : Nat} {xs : List QI} (h : RdQs K W sa n c xs) : n ≤ c ∧ c ≤ 9223372036854775807 := ⟨h.2.1, by have := h.2.2.1; unfold maxLen at this; omega⟩
theorem rdqs_nil (K : Nat) (W : World) : RdQs K W none 0 0 [] := ⟨rfl, Nat.le_refl _, Nat.zero_le _, fun i hi => absurd hi (by omega)⟩

end Go.Proofs.YtoeldbdcbfgmoaaDoor

/- THE WALK OF credencelaw02.WholeBack: there and back; noughts and strokes that say nothing. -/
import Derived.Test.YtflmdcmlhpifeaaZo
import Derived.Test.YtflmdcmlhpifeaaPn
import Derived.Laws.BitsLemmas
namespace Go.Proofs.Ytflmdcmlhpifeaa
set_option linter.unusedVariables false
set_option linter.unusedSimpArgs false
open Go.ChangeShapes Go.WideShapes Go.ChangeAt Go.RowKit Go.NatP

theorem i64_and15 (n : Int) : bits .and .i64 n 15 = n % 16 := by
  have h : (BitVec.ofInt 64 15).toNat = 2 ^ 4 - 1 := by decide
  have key : (BitVec.ofInt 64 n &&& BitVec.ofInt 64 15).toNat = (n % ((2 ^ 64 : Nat) : Int)).toNat % 2 ^ 4 := by
    rw [BitVec.toNat_and, BitVec.toNat_ofInt, h, Nat.and_two_pow_sub_one_eq_mod]
  show IntKind.i64.wrap ((BitVec.ofInt 64 n &&& BitVec.ofInt 64 15).toNat : Nat) = n % 16
  rw [key, IntKind.wrap_i64]
  omega
theorem bk_txt {l : List Nat} (h : ∀ x ∈ l, x < 256) : by' (txt l) = l := by
  unfold by' txt
  rw [strOfNums_data, List.map_map, List.map_map]
  conv => rhs; rw [← List.map_id l]
  refine List.map_congr_left fun x hx => ?_
  have := h x hx
  simp only [Function.comp_apply, Int.toNat_natCast, id_eq, UInt8.toNat_ofNat']
  omega
theorem bk_append (s t : ByteArray) : by' (s ++ t) = by' s ++ by' t := by
  unfold by'
  rw [ByteArray.data_append, Array.toList_append, List.map_append]
theorem bk_extract (s : ByteArray) (k : Nat) : by' (s.extract k s.size) = (by' s).drop k := by
  unfold by'
  rw [ByteArray.data_extract, Array.toList_extract, List.extract_eq_take_drop, ← List.map_drop]
  rw [List.take_of_length_le (by simp)]
theorem bk_take (s : ByteArray) (k : Nat) : by' (s.extract 0 k) = (by' s).take k := by
  unfold by'
  rw [ByteArray.data_extract, Array.toList_extract, List.extract_eq_take_drop, ← List.map_take]
  rfl
theorem tx_lt (n : Nat) : ∀ x ∈ tx n, x < 256 := fun x hx => by have := okD_get (okD_tx n) hx; omega
theorem bk_tx (n : Nat) : by' (txt (tx n)) = tx n := bk_txt (tx_lt n)
theorem bk_ztx (z : Int) : by' (ztx z) = if z < 0 then 45 :: tx z.natAbs else tx z.natAbs := by
  unfold ztx
  split
  · rw [bk_append, bk_tx]; rfl
  · exact bk_tx _
theorem head_ok {l : List Nat} (h : okD l = true) : l.getD 0 0 ≠ 45 := by
  cases l with
  | nil => simp
  | cons c l => have := okD_get h (List.mem_cons_self); simp; omega
theorem pz_neg {s : ByteArray} {l : List Nat} (h : by' s = 45 :: l) : pzZ s = zv true (paN l) ∧ pzE s = paE l := by
  have hs : 0 < s.size := by rw [← by_len, h]; simp
  have hb : pzB s = true := decide_eq_true ⟨hs, by rw [h]; rfl⟩
  have hr : by' (pzR s) = l := by unfold pzR; rw [hb, if_pos rfl, bk_extract, h]; rfl
  unfold pzZ pzE
  rw [hb, hr]; exact ⟨rfl, rfl⟩
theorem pz_pos {s : ByteArray} {l : List Nat} (h : by' s = l) (h0 : l.getD 0 0 ≠ 45) : pzZ s = zv false (paN l) ∧ pzE s = paE l := by
  have hb : pzB s = false := decide_eq_false (fun hc => h0 (by rw [← h]; exact hc.2))
  have hr : by' (pzR s) = l := by unfold pzR; rw [hb, if_neg (by decide), h]
  unfold pzZ pzE
  rw [hb, hr]; exact ⟨rfl, rfl⟩
theorem numD_lt10 (l : List Nat) (h : okD l = true) : numD l < 10 ^ l.length := by
  induction l with
  | nil => decide
  | cons c l ih =>
    have hc := okD_get h (List.mem_cons_self)
    have hl : okD l = true := by simp only [okD, List.all_cons, Bool.and_eq_true] at h ⊢; exact h.2
    have := ih hl
    rw [numD_cons, List.length_cons, Nat.pow_succ]
    have : (c - 48) * 10 ^ l.length ≤ 9 * 10 ^ l.length := Nat.mul_le_mul_right _ (by omega)
    omega
theorem tx_head {n : Nat} (h : 1 < (tx n).length) : (tx n).getD 0 0 ≠ 48 := by
  intro h0
  have hn : n ≠ 0 := by intro e; subst e; simp [tx] at h
  obtain ⟨c, l, e⟩ : ∃ c l, tx n = c :: l := by cases hh : tx n with
    | nil => exact absurd hh (tx_ne n)
    | cons c l => exact ⟨c, l, rfl⟩
  have hl : (dl n).length = l.length + 1 := by
    have h2 : (tx n).length = l.length + 1 := by rw [e]; rfl
    unfold tx at h2; rw [if_neg hn] at h2; simpa using h2
  have ho := okD_tx n
  have hv := numD_tx n
  rw [e] at h0 ho hv
  have hc : c = 48 := h0
  have hol : okD l = true := by simp only [okD, List.all_cons, Bool.and_eq_true] at ho ⊢; exact ho.2
  rw [numD_cons, hc] at hv
  have := numD_lt10 l hol
  have := length_dl_le (n := n) (k := l.length) (by omega)
  omega
/-- k noughts -/
def zs (k : Nat) : ByteArray := txt (List.replicate k 48)
theorem by_zs (k : Nat) : by' (zs k) = List.replicate k 48 := bk_txt (fun x hx => by have := List.eq_of_mem_replicate hx; omega)
theorem zs_succ (k : Nat) : zs k ++ ⟨#[48]⟩ = zs (k + 1) := by_inj (by rw [bk_append, by_zs, by_zs, List.replicate_succ']; rfl)
theorem zs_size (k : Nat) : (zs k).size = k := by rw [← by_len, by_zs, List.length_replicate]
theorem zs_tx (k n : Nat) : paN (List.replicate k 48 ++ tx n) = n ∧ paE (List.replicate k 48 ++ tx n) = 0 := by
  have ho : okD (List.replicate k 48 ++ tx n) = true := by rw [okD_append, okD_tx, Bool.and_true]; simp [okD]
  have h := paN_ok (l := List.replicate k 48 ++ tx n) (by simp [tx_ne]) ho
  rw [numD_append, numD_zeros, numD_tx] at h
  simpa using h
theorem zs_ok (k n : Nat) : okD (List.replicate k 48 ++ tx n) = true := by rw [okD_append, okD_tx, Bool.and_true]; simp [okD]
/-- what is asked of the texts of a number -/
structure Bk (z : Int) (S D G T U V : ByteArray) : Prop where
  s1 : pzZ S = z
  s2 : pzE S = 0
  t1 : pzZ T = z
  t2 : pzE T = 0
  u1 : pzZ U = -(z.natAbs : Int)
  u2 : pzE U = 0
  v1 : pzZ V = 0
  v2 : pzE V = 10
  d0 : 0 < D.size
  d1 : 1 < D.size → (by' D).getD 0 0 ≠ 48
theorem bk_of {z : Int} {k : Nat} {S D G T U V : ByteArray} (hS : ztx z = S) (hD : D = txt (tx z.natAbs)) (hG : S.extract 0 (S.size - D.size) = G) (hT : G ++ zs k ++ D = T) (hU : (⟨#[45]⟩ : ByteArray) ++ D = U) (hV : (⟨#[43]⟩ : ByteArray) ++ S = V) : Bk z S D G T U V := by
  have hbS := bk_ztx z
  have hbD : by' D = tx z.natAbs := by rw [hD]; exact bk_tx _
  have hbG : by' G = if z < 0 then [45] else [] := by
    rw [← hG, bk_take, ← by_len S, ← by_len D, hbD, ← hS, hbS]
    split
    · rw [List.length_cons, show (tx z.natAbs).length + 1 - (tx z.natAbs).length = 1 by omega]; rfl
    · rw [Nat.sub_self]; rfl
  have hbT : by' T = (if z < 0 then [45] else []) ++ (List.replicate k 48 ++ tx z.natAbs) := by rw [← hT, bk_append, bk_append, hbG, by_zs, hbD, List.append_assoc]
  have hbU : by' U = 45 :: tx z.natAbs := by rw [← hU, bk_append, hbD]; rfl
  have hbV : by' V = 43 :: by' S := by rw [← hV, bk_append]; rfl
  have hu := pz_neg hbU
  have hp := paN_tx z.natAbs
  have hz := zs_tx k z.natAbs
  have hvv := pz_pos hbV (by simp)
  have hvo : okD (43 :: by' S) = false := rfl
  have hv1 : paN (43 :: by' S) = 0 := by unfold paN; rw [if_neg (by rw [hvo]; simp)]
  have hv2 : paE (43 :: by' S) = 10 := by unfold paE; rw [if_neg (by rw [hvo]; simp)]
  have hd0 : 0 < D.size := by rw [← by_len, hbD]; exact List.length_pos_iff.2 (tx_ne _)
  have hd1 : 1 < D.size → (by' D).getD 0 0 ≠ 48 := by rw [← by_len, hbD]; exact tx_head
  rw [hp.1] at hu
  have hu1 : zv true z.natAbs = -(z.natAbs : Int) := rfl
  by_cases hneg : z < 0
  · rw [if_pos hneg] at hbS hbT
    rw [hS] at hbS
    have h1 := pz_neg hbS
    have h2 := pz_neg (l := List.replicate k 48 ++ tx z.natAbs) hbT
    rw [hp.1, hp.2] at h1; rw [hz.1, hz.2] at h2
    have e : zv true z.natAbs = z := by show -(z.natAbs : Int) = z; omega
    exact ⟨h1.1.trans e, h1.2, h2.1.trans e, h2.2, hu.1.trans hu1, hu.2.trans hp.2, by rw [hvv.1, hv1]; rfl, hvv.2.trans hv2, hd0, hd1⟩
  · rw [if_neg hneg] at hbS hbT
    rw [hS] at hbS
    have h1 := pz_pos hbS (head_ok (okD_tx _))
    have h2 := pz_pos (l := List.replicate k 48 ++ tx z.natAbs) hbT (head_ok (zs_ok _ _))
    rw [hp.1, hp.2] at h1; rw [hz.1, hz.2] at h2
    have e : zv false z.natAbs = z := by show (z.natAbs : Int) = z; omega
    exact ⟨h1.1.trans e, h1.2, h2.1.trans e, h2.2, hu.1.trans hu1, hu.2.trans hp.2, by rw [hvv.1, hv1]; rfl, hvv.2.trans hv2, hd0, hd1⟩
theorem bk_sizes {z : Int} {S D : ByteArray} (hS : ztx z = S) (hD : D = txt (tx z.natAbs)) (hz : Sz z.natAbs 30) : D.size ≤ 301 ∧ S.size ≤ 302 ∧ D.size ≤ S.size ∧ 0 < S.size ∧ 0 < D.size ∧ (z < 0 → S.extract 1 S.size = D) ∧ (¬ z < 0 → S = D) := by
  have hl : (lm z.natAbs).length ≤ 30 := hz.len
  have hdl := dl_len_le hl
  have hD1 : D.size ≤ 301 := by
    rw [← by_len, hD, bk_tx]; unfold tx; split
    · decide
    · simp; omega
  have hD0 : 0 < D.size := by rw [← by_len, hD, bk_tx]; exact List.length_pos_iff.2 (tx_ne _)
  have hb := bk_ztx z
  rw [hS] at hb
  have hbD : by' D = tx z.natAbs := by rw [hD]; exact bk_tx _
  have hs : S.size = (if z < 0 then 1 else 0) + D.size := by
    rw [← by_len, ← by_len D, hb, hbD]; split <;> simp <;> omega
  refine ⟨hD1, by split at hs <;> omega, by omega, by omega, hD0, fun h => ?_, fun h => ?_⟩
  · exact by_inj (by rw [bk_extract, hb, if_pos h, hbD]; rfl)
  · exact by_inj (by rw [hb, if_neg h, hbD])

theorem zparseG {w : World} {s : ByteArray} {z er : Int} (hs : s.size ≤ 16777216) (hz : pzZ s = z) (he : pzE s = er) : Calls Try.prog 14 #[.string s] w (RetZE w z er) := by
  have h := zparse_any (w := w) s hs
  rwa [hz, he] at h

theorem zequalE {W : World} {i k : Option Addr} {j c l d : Nat} {la lb : List Nat} {s t : Bool} {x : Int} (ha : Rd W i j c la) (hn : j ≤ 4194304) (hb : Rd W k l d lb) (hm : l ≤ 4194304) (hx : zv s (val la) = x) (hy : zv t (val lb) = x) :
    Calls Try.prog 30 #[.agg #[.bool s, .slice i j c], .agg #[.bool t, .slice k l d]] W (fun e' w' => e' = .returned (.bool true) ∧ Below W.heap.size W w') :=
  zequalG ha hn hb hm hx hy (decide_eq_true rfl)

set_option maxRecDepth 100000 in
set_option maxHeartbeats 1500000 in
theorem wholeBack_walk {w : World} {a : Option Addr} {na ca : Nat} {la : List Nat} (sa : Bool) (ha : Rd w a na ca la) (kk : Int) (hk1 : -9223372036854775808 ≤ kk) (hk2 : kk ≤ 9223372036854775807) :
    Calls Try.prog 11 #[.agg #[.bool sa, .slice a na ca], .int .i64 kk] w fun e w' => e = .returned (.bool true) ∧ Below w.heap.size w w' := by
  have hba := ha.bnd
  by_cases hga : 30 < na
  · have da : decide (30 < na) = true := decide_eq_true hga
    have hent := ent1 w #[Value.bool sa, Value.slice a na ca] 25
    go_enter Try.func11, Try.ntmps11
    go_wp2_with fail
    generalize (w.alloc (.cells #[Value.bool sa, Value.slice a na ca] 25)) = W0 at hent ⊢
    obtain ⟨Xa_0, hbel0, hsz0⟩ := hent
    have Ra_1 := ha.below hbel0
    have cXa0_1 : _ = some (Value.bool sa) := Xa_0.cell 0
    have cXa1_1 : _ = some (Value.slice a na ca) := Xa_0.cell 1
    go_wp2_with fail
    refine (alive_any).mono ?_
    rintro e w1 ⟨rfl, hB⟩
    clear cXa0_1 cXa1_1
    have hstep : Below W0.heap.size W0 w1 := (by first | exact hB | exact below_drew hB)
    have Xa_2 := Xa_0.next hstep
    have Ra_3 := Ra_1.below hstep
    have hbel4 := hbel0.next hstep
    have hle4 := hbel4.size
    have hls4 := hstep.size
    clear Xa_0 Ra_1 hbel0 hstep
    have cXa0_4 : _ = some (Value.bool sa) := Xa_2.cell 0
    have cXa1_4 : _ = some (Value.slice a na ca) := Xa_2.cell 1
    go_wp2_with fail
    refine (big_any sa Ra_3 (by omega)).mono ?_
    rw [da]
    rintro e w2 ⟨rfl, hB⟩
    clear cXa0_4 cXa1_4
    have hstep : Below w1.heap.size w1 w2 := (by first | exact hB | exact below_drew hB)
    have Xa_5 := Xa_2.next hstep
    have Ra_6 := Ra_3.below hstep
    have hbel7 := hbel4.next hstep
    have hle7 := hbel7.size
    have hls7 := hstep.size
    clear Xa_2 Ra_3 hbel4 hstep
    have cXa0_7 : _ = some (Value.bool sa) := Xa_5.cell 0
    have cXa1_7 : _ = some (Value.slice a na ca) := Xa_5.cell 1
    go_wp2
    go_ret
    exact ⟨rfl, hbel7⟩
  have da : decide (30 < na) = false := decide_eq_false hga
  obtain ⟨za, hza⟩ : ∃ z, zv sa (val la) = z := ⟨_, rfl⟩
  have HXa := hid hza
  have HBza : Hid (Sz za.natAbs 30) := by show Sz _ _; rw [← hza, zv_abs]; exact ha.szv.mono (Nat.le_refl _) (by omega)
  clear hza
  obtain ⟨K, hK⟩ : ∃ K : Nat, bits .and .i64 kk 15 = (K : Int) := ⟨(kk % 16).toNat, by rw [i64_and15]; omega⟩
  have hK15 : K ≤ 15 := by have := i64_and15 kk; omega
  obtain ⟨S, hS⟩ : ∃ S, ztx za = S := ⟨_, rfl⟩
  obtain ⟨D, hD⟩ : ∃ D, D = txt (tx za.natAbs) := ⟨_, rfl⟩
  obtain ⟨hs1, hs2, hs3, hs4, hs5, hs6, hs7⟩ := bk_sizes hS hD HBza.out
  obtain ⟨G, hG⟩ : ∃ G, S.extract 0 (S.size - D.size) = G := ⟨_, rfl⟩
  obtain ⟨GZ, hGZ⟩ : ∃ T, G ++ zs K = T := ⟨_, rfl⟩
  obtain ⟨T, hT⟩ : ∃ T, GZ ++ D = T := ⟨_, rfl⟩
  obtain ⟨U, hU⟩ : ∃ T, (⟨#[45]⟩ : ByteArray) ++ D = T := ⟨_, rfl⟩
  obtain ⟨Y, hY⟩ : ∃ T, (⟨#[43]⟩ : ByteArray) ++ S = T := ⟨_, rfl⟩
  have hBk := bk_of hS hD hG (show G ++ zs K ++ D = T by rw [hGZ]; exact hT) hU hY
  have hGs : G.size ≤ 302 := by rw [← hG, ByteArray.size_extract]; omega
  have hGZs : GZ.size ≤ 317 := by rw [← hGZ, ByteArray.size_append, zs_size]; omega
  have hTs : T.size ≤ 618 := by rw [← hT, ByteArray.size_append]; omega
  have hUs : U.size ≤ 302 := by rw [← hU, ByteArray.size_append, show (⟨#[45]⟩ : ByteArray).size = 1 from rfl]; omega
  have hYs : Y.size ≤ 303 := by rw [← hY, ByteArray.size_append, show (⟨#[43]⟩ : ByteArray).size = 1 from rfl]; omega
  obtain ⟨sz, hsz⟩ : ∃ s, sgn za = s := ⟨_, rfl⟩
  obtain ⟨zd, hzd⟩ : ∃ z : Int, -(za.natAbs : Int) = z := ⟨_, rfl⟩
  obtain ⟨sd, hsd⟩ : ∃ s, sgn zd = s := ⟨_, rfl⟩
  have hsd1 : -1 ≤ sd ∧ sd ≤ 0 := by have := sgn_cases zd; omega
  have hsd2 : decide (sd ≤ 0) = true := decide_eq_true hsd1.2
  have HBzd : Hid (Sz zd.natAbs 30) := HBza.out.mono (by omega) (Nat.le_refl _)
  have hu1 := hBk.u1
  rw [hzd] at hu1
  have HBk := hid hBk
  have HU1 := hid hu1
  have HS := hid hS
  have HZD := hid hzd
  have HSD := hid hsd
  have HG := hid hG
  have HGZ := hid hGZ
  have HT := hid hT
  have HU := hid hU
  have HY := hid hY
  have HZS := hid zs_succ
  have HZN := hid zs_size
  have hcase : Hid (za < 0 ∧ sz = -1 ∧ S.extract 1 S.size = D) ∨ Hid (0 ≤ sz ∧ sz ≤ 1 ∧ S = D) := by
    have hc := sgn_cases za
    by_cases h : za < 0
    · exact .inl ⟨h, by omega, hs6 h⟩
    · exact .inr ⟨by omega, by omega, hs7 h⟩
  have HSZ := hid hsz
  clear hS hD hG hGZ hT hU hY hBk hu1 hzd hsd hsz hs6 hs7
  rcases hcase with hc | hc
  · skip
    obtain ⟨hc1, rfl, hD⟩ := hc
    clear hc1
    have hent := ent1 w #[Value.bool sa, Value.slice a na ca] 25
    go_enter Try.func11, Try.ntmps11
    go_wp2_with fail
    generalize (w.alloc (.cells #[Value.bool sa, Value.slice a na ca] 25)) = W0 at hent ⊢
    obtain ⟨Xa_0, hbel0, hsz0⟩ := hent
    have Ra_1 := ha.below hbel0
    have cXa0_1 : _ = some (Value.bool sa) := Xa_0.cell 0
    have cXa1_1 : _ = some (Value.slice a na ca) := Xa_0.cell 1
    go_wp2_with fail
    refine (alive_any).mono ?_
    rintro e w1 ⟨rfl, hB⟩
    clear cXa0_1 cXa1_1
    have hstep : Below W0.heap.size W0 w1 := (by first | exact hB | exact below_drew hB)
    have Xa_2 := Xa_0.next hstep
    have Ra_3 := Ra_1.below hstep
    have hbel4 := hbel0.next hstep
    have hle4 := hbel4.size
    have hls4 := hstep.size
    clear Xa_0 Ra_1 hbel0 hstep
    have cXa0_4 : _ = some (Value.bool sa) := Xa_2.cell 0
    have cXa1_4 : _ = some (Value.slice a na ca) := Xa_2.cell 1
    go_wp2_with fail
    refine (big_any sa Ra_3 (by omega)).mono ?_
    rw [da]
    rintro e w2 ⟨rfl, hB⟩
    clear cXa0_4 cXa1_4
    have hstep : Below w1.heap.size w1 w2 := (by first | exact hB | exact below_drew hB)
    have Xa_5 := Xa_2.next hstep
    have Ra_6 := Ra_3.below hstep
    have hbel7 := hbel4.next hstep
    have hle7 := hbel7.size
    have hls7 := hstep.size
    clear Xa_2 Ra_3 hbel4 hstep
    have cXa0_7 : _ = some (Value.bool sa) := Xa_5.cell 0
    have cXa1_7 : _ = some (Value.slice a na ca) := Xa_5.cell 1
    go_wp2_with fail
    refine (ztextG Ra_6 (by omega) HXa.out HS.out).mono ?_
    rintro e w3 ⟨rfl, hB⟩
    clear cXa0_7 cXa1_7
    have hstep : Below w2.heap.size w2 w3 := (by first | exact hB | exact below_drew hB)
    have Xa_8 := Xa_5.next hstep
    have Ra_9 := Ra_6.below hstep
    have hbel10 := hbel7.next hstep
    have hle10 := hbel10.size
    have hls10 := hstep.size
    clear Xa_5 Ra_6 hbel7 hstep
    have cXa0_10 : _ = some (Value.bool sa) := Xa_8.cell 0
    have cXa1_10 : _ = some (Value.slice a na ca) := Xa_8.cell 1
    go_wp2_with fail
    refine (zsignG Ra_9 (by omega) HXa.out HSZ.out).mono ?_
    rintro e w4 ⟨rfl, hB⟩
    clear cXa0_10 cXa1_10
    have hstep : Below w3.heap.size w3 w4 := (by first | exact hB | exact below_drew hB)
    have Xa_11 := Xa_8.next hstep
    have Ra_12 := Ra_9.below hstep
    have hbel13 := hbel10.next hstep
    have hle13 := hbel13.size
    have hls13 := hstep.size
    clear Xa_8 Ra_9 hbel10 hstep
    have cXa0_13 : _ = some (Value.bool sa) := Xa_11.cell 0
    have cXa1_13 : _ = some (Value.slice a na ca) := Xa_11.cell 1
    go_wp2
    go_loop [8, 9] (fun mv iv => ∃ i : Nat, i ≤ K ∧ iv = .int .i64 i ∧ mv = .string (zs i)) (fun _ iv => K - (intOf iv).toNat)
    case atStart => exact ⟨0, by omega, rfl, rfl⟩
    case round =>
      obtain ⟨i, hi, rfl, rfl⟩ := hrel
      have hzi := HZN.out i
      have hzs := HZS.out i
      by_cases hlt : i < K
      · go_wp2
        go_round
        case rel => exact ⟨i + 1, by omega, by go_num, rfl⟩
        case measure => simp [intOf]; omega
      · obtain rfl : i = K := by omega
        clear hzs hlt hi
        have hG := HG.out
        have hGZ := HGZ.out
        have hT := HT.out
        have hU := HU.out
        have hY := HY.out
        go_wp2_with fail
        refine (zparseG (s := S) (by omega) HBk.out.s1 HBk.out.s2).mono ?_
        rintro e w5 ⟨b, bn, bc, rfl, hO, hB⟩
        clear cXa0_13 cXa1_13
        have hstep : Below w4.heap.size w4 w5 := (by first | exact hB | exact below_drew hB)
        have Xa_14 := Xa_11.next hstep
        have Ra_15 := Ra_12.below hstep
        have hbel16 := hbel13.next hstep
        have hle16 := hbel16.size
        have hls16 := hstep.size
        clear Xa_11 Ra_12 hbel13 hstep
        have cXa0_16 : _ = some (Value.bool sa) := Xa_14.cell 0
        have cXa1_16 : _ = some (Value.slice a na ca) := Xa_14.cell 1
        have hlb : bn ≤ 30 := len_le (l := la) hO.len HBza.out
        have Ob_17 := hO
        clear hO hB
        have hbx := blk_new w5 #[Value.bool (decide (za < 0)), Value.slice b bn bc] 25
        have hbB := (Below.refl w5.heap.size w5).alloc (Nat.le_refl _) (.cells #[Value.bool (decide (za < 0)), Value.slice b bn bc] 25)
        have hbg := hbx.lt
        clear cXa0_16 cXa1_16
        have hstep : Below w5.heap.size w5 (w5.alloc (.cells #[Value.bool (decide (za < 0)), Value.slice b bn bc] 25)) := (by first | exact hbB | exact below_drew hbB)
        have Xa_18 := Xa_14.next hstep
        have Ra_19 := Ra_15.below hstep
        have Ob_20 := Ob_17.below hstep
        have hbel21 := hbel16.next hstep
        have hle21 := hbel21.size
        have hls21 := hstep.size
        clear Xa_14 Ra_15 Ob_17 hbel16 hstep
        have cXa0_21 : _ = some (Value.bool sa) := Xa_18.cell 0
        have cXa1_21 : _ = some (Value.slice a na ca) := Xa_18.cell 1
        have Xb_22 := hbx
        have cXb0_22 : _ = some (Value.bool (decide (za < 0))) := Xb_22.cell 0
        have cXb1_22 : _ = some (Value.slice b bn bc) := Xb_22.cell 1
        clear hbx hbB
        go_wp2_with fail
        generalize (w5.alloc (.cells #[Value.bool (decide (za < 0)), Value.slice b bn bc] 25)) = v6 at *
        go_wp2_with fail
        refine (zparseG (s := T) (by omega) HBk.out.t1 HBk.out.t2).mono ?_
        rintro e w7 ⟨c, cn, cc, rfl, hO, hB⟩
        clear cXa0_21 cXa1_21 cXb0_22 cXb1_22
        have hstep : Below v6.heap.size v6 w7 := (by first | exact hB | exact below_drew hB)
        have Xa_23 := Xa_18.next hstep
        have Xb_24 := Xb_22.next hstep
        have Ra_25 := Ra_19.below hstep
        have Ob_26 := Ob_20.below hstep
        have hbel27 := hbel21.next hstep
        have hle27 := hbel27.size
        have hls27 := hstep.size
        clear Xa_18 Xb_22 Ra_19 Ob_20 hbel21 hstep
        have cXa0_27 : _ = some (Value.bool sa) := Xa_23.cell 0
        have cXa1_27 : _ = some (Value.slice a na ca) := Xa_23.cell 1
        have cXb0_27 : _ = some (Value.bool (decide (za < 0))) := Xb_24.cell 0
        have cXb1_27 : _ = some (Value.slice b bn bc) := Xb_24.cell 1
        have hlc : cn ≤ 30 := len_le (l := la) hO.len HBza.out
        have Oc_28 := hO
        clear hO hB
        have hbx := blk_new w7 #[Value.bool (decide (za < 0)), Value.slice c cn cc] 25
        have hbB := (Below.refl w7.heap.size w7).alloc (Nat.le_refl _) (.cells #[Value.bool (decide (za < 0)), Value.slice c cn cc] 25)
        have hbg := hbx.lt
        clear cXa0_27 cXa1_27 cXb0_27 cXb1_27
        have hstep : Below w7.heap.size w7 (w7.alloc (.cells #[Value.bool (decide (za < 0)), Value.slice c cn cc] 25)) := (by first | exact hbB | exact below_drew hbB)
        have Xa_29 := Xa_23.next hstep
        have Xb_30 := Xb_24.next hstep
        have Ra_31 := Ra_25.below hstep
        have Ob_32 := Ob_26.below hstep
        have Oc_33 := Oc_28.below hstep
        have hbel34 := hbel27.next hstep
        have hle34 := hbel34.size
        have hls34 := hstep.size
        clear Xa_23 Xb_24 Ra_25 Ob_26 Oc_28 hbel27 hstep
        have cXa0_34 : _ = some (Value.bool sa) := Xa_29.cell 0
        have cXa1_34 : _ = some (Value.slice a na ca) := Xa_29.cell 1
        have cXb0_34 : _ = some (Value.bool (decide (za < 0))) := Xb_30.cell 0
        have cXb1_34 : _ = some (Value.slice b bn bc) := Xb_30.cell 1
        have Xc_35 := hbx
        have cXc0_35 : _ = some (Value.bool (decide (za < 0))) := Xc_35.cell 0
        have cXc1_35 : _ = some (Value.slice c cn cc) := Xc_35.cell 1
        clear hbx hbB
        go_wp2_with fail
        generalize (w7.alloc (.cells #[Value.bool (decide (za < 0)), Value.slice c cn cc] 25)) = v8 at *
        go_wp2_with fail
        refine (zparseG (s := U) (by omega) HU1.out HBk.out.u2).mono ?_
        rintro e w9 ⟨d, dn, dc, rfl, hO, hB⟩
        clear cXa0_34 cXa1_34 cXb0_34 cXb1_34 cXc0_35 cXc1_35
        have hstep : Below v8.heap.size v8 w9 := (by first | exact hB | exact below_drew hB)
        have Xa_36 := Xa_29.next hstep
        have Xb_37 := Xb_30.next hstep
        have Xc_38 := Xc_35.next hstep
        have Ra_39 := Ra_31.below hstep
        have Ob_40 := Ob_32.below hstep
        have Oc_41 := Oc_33.below hstep
        have hbel42 := hbel34.next hstep
        have hle42 := hbel42.size
        have hls42 := hstep.size
        clear Xa_29 Xb_30 Xc_35 Ra_31 Ob_32 Oc_33 hbel34 hstep
        have cXa0_42 : _ = some (Value.bool sa) := Xa_36.cell 0
        have cXa1_42 : _ = some (Value.slice a na ca) := Xa_36.cell 1
        have cXb0_42 : _ = some (Value.bool (decide (za < 0))) := Xb_37.cell 0
        have cXb1_42 : _ = some (Value.slice b bn bc) := Xb_37.cell 1
        have cXc0_42 : _ = some (Value.bool (decide (za < 0))) := Xc_38.cell 0
        have cXc1_42 : _ = some (Value.slice c cn cc) := Xc_38.cell 1
        have hld : dn ≤ 30 := len_le (l := la) hO.len HBzd.out
        have Od_43 := hO
        clear hO hB
        have hbx := blk_new w9 #[Value.bool (decide (zd < 0)), Value.slice d dn dc] 25
        have hbB := (Below.refl w9.heap.size w9).alloc (Nat.le_refl _) (.cells #[Value.bool (decide (zd < 0)), Value.slice d dn dc] 25)
        have hbg := hbx.lt
        clear cXa0_42 cXa1_42 cXb0_42 cXb1_42 cXc0_42 cXc1_42
        have hstep : Below w9.heap.size w9 (w9.alloc (.cells #[Value.bool (decide (zd < 0)), Value.slice d dn dc] 25)) := (by first | exact hbB | exact below_drew hbB)
        have Xa_44 := Xa_36.next hstep
        have Xb_45 := Xb_37.next hstep
        have Xc_46 := Xc_38.next hstep
        have Ra_47 := Ra_39.below hstep
        have Ob_48 := Ob_40.below hstep
        have Oc_49 := Oc_41.below hstep
        have Od_50 := Od_43.below hstep
        have hbel51 := hbel42.next hstep
        have hle51 := hbel51.size
        have hls51 := hstep.size
        clear Xa_36 Xb_37 Xc_38 Ra_39 Ob_40 Oc_41 Od_43 hbel42 hstep
        have cXa0_51 : _ = some (Value.bool sa) := Xa_44.cell 0
        have cXa1_51 : _ = some (Value.slice a na ca) := Xa_44.cell 1
        have cXb0_51 : _ = some (Value.bool (decide (za < 0))) := Xb_45.cell 0
        have cXb1_51 : _ = some (Value.slice b bn bc) := Xb_45.cell 1
        have cXc0_51 : _ = some (Value.bool (decide (za < 0))) := Xc_46.cell 0
        have cXc1_51 : _ = some (Value.slice c cn cc) := Xc_46.cell 1
        have Xd_52 := hbx
        have cXd0_52 : _ = some (Value.bool (decide (zd < 0))) := Xd_52.cell 0
        have cXd1_52 : _ = some (Value.slice d dn dc) := Xd_52.cell 1
        clear hbx hbB
        go_wp2_with fail
        generalize (w9.alloc (.cells #[Value.bool (decide (zd < 0)), Value.slice d dn dc] 25)) = v10 at *
        rcases (show Hid (¬ 1 < D.size) ∨ Hid (1 < D.size) from (Nat.lt_or_ge 1 D.size).elim (fun h => .inr h) (fun h => .inl (by show ¬ _; omega))) with hd | hd
        · skip
          have hDe : (D = ByteArray.empty) = False := eq_false (fun h => absurd (congrArg ByteArray.size h) (by rw [show ByteArray.empty.size = 0 from rfl]; omega))
          have hDz : ((D.size : Int) == 0) = false := beq_eq_false_iff_ne.2 (by omega)
          have hd1 := hd.out
          have hd2 : decide ((1 : Int) < (D.size : Int)) = false := decide_eq_false (by omega)
          have hd3 : ((1 : Int) < (D.size : Int)) = False := eq_false (by omega)
          go_wp2_with fail
          refine (zparseG (s := Y) (by omega) HBk.out.v1 HBk.out.v2).mono ?_
          rintro e w11 ⟨f, fn, fc, rfl, hO, hB⟩
          clear cXa0_51 cXa1_51 cXb0_51 cXb1_51 cXc0_51 cXc1_51 cXd0_52 cXd1_52
          have hstep : Below v10.heap.size v10 w11 := (by first | exact hB | exact below_drew hB)
          have Xa_53 := Xa_44.next hstep
          have Xb_54 := Xb_45.next hstep
          have Xc_55 := Xc_46.next hstep
          have Xd_56 := Xd_52.next hstep
          have Ra_57 := Ra_47.below hstep
          have Ob_58 := Ob_48.below hstep
          have Oc_59 := Oc_49.below hstep
          have Od_60 := Od_50.below hstep
          have hbel61 := hbel51.next hstep
          have hle61 := hbel61.size
          have hls61 := hstep.size
          clear Xa_44 Xb_45 Xc_46 Xd_52 Ra_47 Ob_48 Oc_49 Od_50 hbel51 hstep
          have cXa0_61 : _ = some (Value.bool sa) := Xa_53.cell 0
          have cXa1_61 : _ = some (Value.slice a na ca) := Xa_53.cell 1
          have cXb0_61 : _ = some (Value.bool (decide (za < 0))) := Xb_54.cell 0
          have cXb1_61 : _ = some (Value.slice b bn bc) := Xb_54.cell 1
          have cXc0_61 : _ = some (Value.bool (decide (za < 0))) := Xc_55.cell 0
          have cXc1_61 : _ = some (Value.slice c cn cc) := Xc_55.cell 1
          have cXd0_61 : _ = some (Value.bool (decide (zd < 0))) := Xd_56.cell 0
          have cXd1_61 : _ = some (Value.slice d dn dc) := Xd_56.cell 1
          have hlf : fn ≤ 30 := len_le (l := la) hO.len (show Sz (0 : Int).natAbs 30 by show _ < _; decide)
          have Of_62 := hO
          clear hO hB
          have hbx := blk_new w11 #[Value.bool false, Value.slice f fn fc] 25
          have hbB := (Below.refl w11.heap.size w11).alloc (Nat.le_refl _) (.cells #[Value.bool false, Value.slice f fn fc] 25)
          have hbg := hbx.lt
          clear cXa0_61 cXa1_61 cXb0_61 cXb1_61 cXc0_61 cXc1_61 cXd0_61 cXd1_61
          have hstep : Below w11.heap.size w11 (w11.alloc (.cells #[Value.bool false, Value.slice f fn fc] 25)) := (by first | exact hbB | exact below_drew hbB)
          have Xa_63 := Xa_53.next hstep
          have Xb_64 := Xb_54.next hstep
          have Xc_65 := Xc_55.next hstep
          have Xd_66 := Xd_56.next hstep
          have Ra_67 := Ra_57.below hstep
          have Ob_68 := Ob_58.below hstep
          have Oc_69 := Oc_59.below hstep
          have Od_70 := Od_60.below hstep
          have Of_71 := Of_62.below hstep
          have hbel72 := hbel61.next hstep
          have hle72 := hbel72.size
          have hls72 := hstep.size
          clear Xa_53 Xb_54 Xc_55 Xd_56 Ra_57 Ob_58 Oc_59 Od_60 Of_62 hbel61 hstep
          have cXa0_72 : _ = some (Value.bool sa) := Xa_63.cell 0
          have cXa1_72 : _ = some (Value.slice a na ca) := Xa_63.cell 1
          have cXb0_72 : _ = some (Value.bool (decide (za < 0))) := Xb_64.cell 0
          have cXb1_72 : _ = some (Value.slice b bn bc) := Xb_64.cell 1
          have cXc0_72 : _ = some (Value.bool (decide (za < 0))) := Xc_65.cell 0
          have cXc1_72 : _ = some (Value.slice c cn cc) := Xc_65.cell 1
          have cXd0_72 : _ = some (Value.bool (decide (zd < 0))) := Xd_66.cell 0
          have cXd1_72 : _ = some (Value.slice d dn dc) := Xd_66.cell 1
          have Xf_73 := hbx
          have cXf0_73 : _ = some (Value.bool false) := Xf_73.cell 0
          have cXf1_73 : _ = some (Value.slice f fn fc) := Xf_73.cell 1
          clear hbx hbB
          go_wp2_with fail
          generalize (w11.alloc (.cells #[Value.bool false, Value.slice f fn fc] 25)) = v12 at *
          clear hDe hDz hd1 hd2 hd3 hd hU hY hG hGZ hT hK hzi
          go_wp2_with fail
          obtain ⟨z1, hzz⟩ : ∃ z, zv false (val (lm zd.natAbs)) = z := ⟨_, rfl⟩
          have Hz1 := hid hzz
          clear hzz
          obtain ⟨z2, hzz⟩ : ∃ z, zv false (val (la)) = z := ⟨_, rfl⟩
          have Hz2 := hid hzz
          clear hzz
          have HE3 := hid (show decide (z1 = z2) = true from decide_eq_true (by have h1 := zv_abs (decide (zd < 0)) (val (lm zd.natAbs)); have h2 := zv_abs sa (val la); rw [zvlm] at h1; rw [HXa.out] at h2; have h3 := Hz1.out; have h4 := Hz2.out; have h5 := HZD.out; unfold zv at h3 h4; simp at h3 h4; omega))
          have HE4 := hid (show sgn zd = sd from (by exact HSD.out))
          go_wp2_with fail
          have KXa0_0 : _ = some (Value.bool sa) := Xa_63.cell 0
          have KXa1_0 : _ = some (Value.slice a na ca) := Xa_63.cell 1
          have KXb0_0 : _ = some (Value.bool (decide (za < 0))) := Xb_64.cell 0
          have KXb1_0 : _ = some (Value.slice b bn bc) := Xb_64.cell 1
          have KXc0_0 : _ = some (Value.bool (decide (za < 0))) := Xc_65.cell 0
          have KXc1_0 : _ = some (Value.slice c cn cc) := Xc_65.cell 1
          have KXd0_0 : _ = some (Value.bool (decide (zd < 0))) := Xd_66.cell 0
          have KXd1_0 : _ = some (Value.slice d dn dc) := Xd_66.cell 1
          have Xa_h0 := Xa_63
          have Xb_h0 := Xb_64
          have Xc_h0 := Xc_65
          have Xd_h0 := Xd_66
          have acc0 : Below v12.heap.size v12 v12 := Below.refl _ _
          go_region_held3 (fun w' => w'.cell? ⟨w.heap.size, 0, none⟩ = some (Value.bool sa) ∧ w'.cell? ⟨w.heap.size, 1, none⟩ = some (Value.slice a na ca) ∧ w'.cell? ⟨w5.heap.size, 0, none⟩ = some (Value.bool (decide (za < 0))) ∧ w'.cell? ⟨w5.heap.size, 1, none⟩ = some (Value.slice b bn bc) ∧ w'.cell? ⟨w7.heap.size, 0, none⟩ = some (Value.bool (decide (za < 0))) ∧ w'.cell? ⟨w7.heap.size, 1, none⟩ = some (Value.slice c cn cc) ∧ w'.cell? ⟨w9.heap.size, 0, none⟩ = some (Value.bool (decide (zd < 0))) ∧ w'.cell? ⟨w9.heap.size, 1, none⟩ = some (Value.slice d dn dc))
            (first | exact ⟨KXa0_0, KXa1_0, KXb0_0, KXb1_0, KXc0_0, KXc1_0, KXd0_0, KXd1_0⟩ | exact ⟨KXa0_1, KXa1_1, KXb0_1, KXb1_1, KXc0_1, KXc1_1, KXd0_1, KXd1_1⟩ | exact ⟨KXa0_2, KXa1_2, KXb0_2, KXb1_2, KXc0_2, KXc1_2, KXd0_2, KXd1_2⟩ | exact ⟨KXa0_3, KXa1_3, KXb0_3, KXb1_3, KXc0_3, KXc1_3, KXd0_3, KXd1_3⟩ | exact ⟨KXa0_4, KXa1_4, KXb0_4, KXb1_4, KXc0_4, KXc1_4, KXd0_4, KXd1_4⟩ | exact ⟨KXa0_5, KXa1_5, KXb0_5, KXb1_5, KXc0_5, KXc1_5, KXd0_5, KXd1_5⟩ | exact ⟨KXa0_6, KXa1_6, KXb0_6, KXb1_6, KXc0_6, KXc1_6, KXd0_6, KXd1_6⟩ | go_keep)
            (first
              | (go_at_call 30; ((with_reducible refine (zequalE (show Rd _ a na ca la from Ra_67.below (by first | exact acc0 | exact (acc0).drew)) (show na ≤ 4194304 by omega) (show Rd _ b bn bc (lm za.natAbs) from (Ob_68.below (by first | exact acc0 | exact (acc0).drew)).rd) (show bn ≤ 4194304 by omega) HXa.out (zvlm za)).mono ?_); (rintro e w13 ⟨rfl, hB⟩; have hst1 : Below v12.heap.size v12 w13 := (by first | exact hB | exact below_drew hB); have acc1 := acc0.next hst1; have Xa_h1 := Xa_h0.next hst1; have Xb_h1 := Xb_h0.next hst1; have Xc_h1 := Xc_h0.next hst1; have Xd_h1 := Xd_h0.next hst1; have KXa0_1 : _ = some (Value.bool sa) := Xa_h1.cell 0; have KXa1_1 : _ = some (Value.slice a na ca) := Xa_h1.cell 1; have KXb0_1 : _ = some (Value.bool (decide (za < 0))) := Xb_h1.cell 0; have KXb1_1 : _ = some (Value.slice b bn bc) := Xb_h1.cell 1; have KXc0_1 : _ = some (Value.bool (decide (za < 0))) := Xc_h1.cell 0; have KXc1_1 : _ = some (Value.slice c cn cc) := Xc_h1.cell 1; have KXd0_1 : _ = some (Value.bool (decide (zd < 0))) := Xd_h1.cell 0; have KXd1_1 : _ = some (Value.slice d dn dc) := Xd_h1.cell 1)))
              | (go_at_call 30; ((with_reducible refine (zequalE (show Rd _ a na ca la from Ra_67.below (by first | exact acc1 | exact (acc1).drew)) (show na ≤ 4194304 by omega) (show Rd _ c cn cc (lm za.natAbs) from (Oc_69.below (by first | exact acc1 | exact (acc1).drew)).rd) (show cn ≤ 4194304 by omega) HXa.out (zvlm za)).mono ?_); (rintro e w14 ⟨rfl, hB⟩; have hst2 : Below w13.heap.size w13 w14 := (by first | exact hB | exact below_drew hB); have acc2 := acc1.next hst2; have Xa_h2 := Xa_h1.next hst2; have Xb_h2 := Xb_h1.next hst2; have Xc_h2 := Xc_h1.next hst2; have Xd_h2 := Xd_h1.next hst2; have KXa0_2 : _ = some (Value.bool sa) := Xa_h2.cell 0; have KXa1_2 : _ = some (Value.slice a na ca) := Xa_h2.cell 1; have KXb0_2 : _ = some (Value.bool (decide (za < 0))) := Xb_h2.cell 0; have KXb1_2 : _ = some (Value.slice b bn bc) := Xb_h2.cell 1; have KXc0_2 : _ = some (Value.bool (decide (za < 0))) := Xc_h2.cell 0; have KXc1_2 : _ = some (Value.slice c cn cc) := Xc_h2.cell 1; have KXd0_2 : _ = some (Value.bool (decide (zd < 0))) := Xd_h2.cell 0; have KXd1_2 : _ = some (Value.slice d dn dc) := Xd_h2.cell 1)))
              | (go_at_call 36; ((with_reducible refine (zsize_any (decide (zd < 0)) (show Rd _ d dn dc (lm zd.natAbs) from (Od_70.below (by first | exact acc2 | exact (acc2).drew)).rd) (by omega)).mono ?_); (rintro e w15 ⟨rfl, hB⟩; have hst3 : Below w14.heap.size w14 w15 := (by first | exact hB | exact below_drew hB); have acc3 := acc2.next hst3; have Xa_h3 := Xa_h2.next hst3; have Xb_h3 := Xb_h2.next hst3; have Xc_h3 := Xc_h2.next hst3; have Xd_h3 := Xd_h2.next hst3; have KXa0_3 : _ = some (Value.bool sa) := Xa_h3.cell 0; have KXa1_3 : _ = some (Value.slice a na ca) := Xa_h3.cell 1; have KXb0_3 : _ = some (Value.bool (decide (za < 0))) := Xb_h3.cell 0; have KXb1_3 : _ = some (Value.slice b bn bc) := Xb_h3.cell 1; have KXc0_3 : _ = some (Value.bool (decide (za < 0))) := Xc_h3.cell 0; have KXc1_3 : _ = some (Value.slice c cn cc) := Xc_h3.cell 1; have KXd0_3 : _ = some (Value.bool (decide (zd < 0))) := Xd_h3.cell 0; have KXd1_3 : _ = some (Value.slice d dn dc) := Xd_h3.cell 1)))
              | (go_at_call 36; ((with_reducible refine (zsize_any sa (show Rd _ a na ca la from Ra_67.below (by first | exact acc3 | exact (acc3).drew)) (by omega)).mono ?_); (rintro e w16 ⟨rfl, hB⟩; have hst4 : Below w15.heap.size w15 w16 := (by first | exact hB | exact below_drew hB); have acc4 := acc3.next hst4; have Xa_h4 := Xa_h3.next hst4; have Xb_h4 := Xb_h3.next hst4; have Xc_h4 := Xc_h3.next hst4; have Xd_h4 := Xd_h3.next hst4; have KXa0_4 : _ = some (Value.bool sa) := Xa_h4.cell 0; have KXa1_4 : _ = some (Value.slice a na ca) := Xa_h4.cell 1; have KXb0_4 : _ = some (Value.bool (decide (za < 0))) := Xb_h4.cell 0; have KXb1_4 : _ = some (Value.slice b bn bc) := Xb_h4.cell 1; have KXc0_4 : _ = some (Value.bool (decide (za < 0))) := Xc_h4.cell 0; have KXc1_4 : _ = some (Value.slice c cn cc) := Xc_h4.cell 1; have KXd0_4 : _ = some (Value.bool (decide (zd < 0))) := Xd_h4.cell 0; have KXd1_4 : _ = some (Value.slice d dn dc) := Xd_h4.cell 1)))
              | (go_at_call 30; ((with_reducible refine (zequalG (show Rd _ d dn dc (lm zd.natAbs) from (Od_70.below (by first | exact acc4 | exact (acc4).drew)).rd) (show dn ≤ 4194304 by omega) (show Rd _ a na ca la from Ra_67.below (by first | exact acc4 | exact (acc4).drew)) (show na ≤ 4194304 by omega) Hz1.out Hz2.out HE3.out).mono ?_); (rintro e w17 ⟨rfl, hB⟩; have hst5 : Below w16.heap.size w16 w17 := (by first | exact hB | exact below_drew hB); have acc5 := acc4.next hst5; have Xa_h5 := Xa_h4.next hst5; have Xb_h5 := Xb_h4.next hst5; have Xc_h5 := Xc_h4.next hst5; have Xd_h5 := Xd_h4.next hst5; have KXa0_5 : _ = some (Value.bool sa) := Xa_h5.cell 0; have KXa1_5 : _ = some (Value.slice a na ca) := Xa_h5.cell 1; have KXb0_5 : _ = some (Value.bool (decide (za < 0))) := Xb_h5.cell 0; have KXb1_5 : _ = some (Value.slice b bn bc) := Xb_h5.cell 1; have KXc0_5 : _ = some (Value.bool (decide (za < 0))) := Xc_h5.cell 0; have KXc1_5 : _ = some (Value.slice c cn cc) := Xc_h5.cell 1; have KXd0_5 : _ = some (Value.bool (decide (zd < 0))) := Xd_h5.cell 0; have KXd1_5 : _ = some (Value.slice d dn dc) := Xd_h5.cell 1)))
              | (go_at_call 22; ((with_reducible refine (zsignG (show Rd _ d dn dc (lm zd.natAbs) from (Od_70.below (by first | exact acc5 | exact (acc5).drew)).rd) (show dn ≤ 4194304 by omega) (zvlm zd) HE4.out).mono ?_); (rintro e w18 ⟨rfl, hB⟩; have hst6 : Below w17.heap.size w17 w18 := (by first | exact hB | exact below_drew hB); have acc6 := acc5.next hst6; have Xa_h6 := Xa_h5.next hst6; have Xb_h6 := Xb_h5.next hst6; have Xc_h6 := Xc_h5.next hst6; have Xd_h6 := Xd_h5.next hst6; have KXa0_6 : _ = some (Value.bool sa) := Xa_h6.cell 0; have KXa1_6 : _ = some (Value.slice a na ca) := Xa_h6.cell 1; have KXb0_6 : _ = some (Value.bool (decide (za < 0))) := Xb_h6.cell 0; have KXb1_6 : _ = some (Value.slice b bn bc) := Xb_h6.cell 1; have KXc0_6 : _ = some (Value.bool (decide (za < 0))) := Xc_h6.cell 0; have KXc1_6 : _ = some (Value.slice c cn cc) := Xc_h6.cell 1; have KXd0_6 : _ = some (Value.bool (decide (zd < 0))) := Xd_h6.cell 0; have KXd1_6 : _ = some (Value.slice d dn dc) := Xd_h6.cell 1))))
          clear cXa0_72 cXa1_72 cXb0_72 cXb1_72 cXc0_72 cXc1_72 cXd0_72 cXd1_72 cXf0_73 cXf1_73
          have hstep : Below v12.heap.size v12 w18 := (by first | exact acc6 | exact below_drew acc6)
          have Xa_74 := Xa_63.next hstep
          have Xb_75 := Xb_64.next hstep
          have Xc_76 := Xc_65.next hstep
          have Xd_77 := Xd_66.next hstep
          have Xf_78 := Xf_73.next hstep
          have Ra_79 := Ra_67.below hstep
          have Ob_80 := Ob_68.below hstep
          have Oc_81 := Oc_69.below hstep
          have Od_82 := Od_70.below hstep
          have Of_83 := Of_71.below hstep
          have hbel84 := hbel72.next hstep
          have hle84 := hbel84.size
          have hls84 := hstep.size
          clear Xa_63 Xb_64 Xc_65 Xd_66 Xf_73 Ra_67 Ob_68 Oc_69 Od_70 Of_71 hbel72 hstep
          have cXa0_84 : _ = some (Value.bool sa) := Xa_74.cell 0
          have cXa1_84 : _ = some (Value.slice a na ca) := Xa_74.cell 1
          have cXb0_84 : _ = some (Value.bool (decide (za < 0))) := Xb_75.cell 0
          have cXb1_84 : _ = some (Value.slice b bn bc) := Xb_75.cell 1
          have cXc0_84 : _ = some (Value.bool (decide (za < 0))) := Xc_76.cell 0
          have cXc1_84 : _ = some (Value.slice c cn cc) := Xc_76.cell 1
          have cXd0_84 : _ = some (Value.bool (decide (zd < 0))) := Xd_77.cell 0
          have cXd1_84 : _ = some (Value.slice d dn dc) := Xd_77.cell 1
          have cXf0_84 : _ = some (Value.bool false) := Xf_78.cell 0
          have cXf1_84 : _ = some (Value.slice f fn fc) := Xf_78.cell 1
          clear acc0 acc1 acc2 acc3 acc4 acc5 acc6 hst1 hst2 hst3 hst4 hst5 hst6 KXa0_0 KXa1_0 KXb0_0 KXb1_0 KXc0_0 KXc1_0 KXd0_0 KXd1_0 KXa0_1 KXa1_1 KXb0_1 KXb1_1 KXc0_1 KXc1_1 KXd0_1 KXd1_1 KXa0_2 KXa1_2 KXb0_2 KXb1_2 KXc0_2 KXc1_2 KXd0_2 KXd1_2 KXa0_3 KXa1_3 KXb0_3 KXb1_3 KXc0_3 KXc1_3 KXd0_3 KXd1_3 KXa0_4 KXa1_4 KXb0_4 KXb1_4 KXc0_4 KXc1_4 KXd0_4 KXd1_4 KXa0_5 KXa1_5 KXb0_5 KXb1_5 KXc0_5 KXc1_5 KXd0_5 KXd1_5 KXa0_6 KXa1_6 KXb0_6 KXb1_6 KXc0_6 KXc1_6 KXd0_6 KXd1_6 Xa_h0 Xa_h1 Xa_h2 Xa_h3 Xa_h4 Xa_h5 Xa_h6 Xb_h0 Xb_h1 Xb_h2 Xb_h3 Xb_h4 Xb_h5 Xb_h6 Xc_h0 Xc_h1 Xc_h2 Xc_h3 Xc_h4 Xc_h5 Xc_h6 Xd_h0 Xd_h1 Xd_h2 Xd_h3 Xd_h4 Xd_h5 Xd_h6
          go_wp2
          go_ret
          exact ⟨rfl, hbel84⟩
        · skip
          have hDe : (D = ByteArray.empty) = False := eq_false (fun h => absurd (congrArg ByteArray.size h) (by rw [show ByteArray.empty.size = 0 from rfl]; omega))
          have hDz : ((D.size : Int) == 0) = false := beq_eq_false_iff_ne.2 (by omega)
          have hd1 := hd.out
          have hd3 : ((1 : Int) < (D.size : Int)) = True := eq_true (by omega)
          have hd2 : ((D[0].toNat : Int) == 48) = false := beq_eq_false_iff_ne.2 (by have h := HBk.out.d1 hd1; rw [by_get _ 0 (by omega)] at h; omega)
          go_wp2_with fail
          refine (zparseG (s := Y) (by omega) HBk.out.v1 HBk.out.v2).mono ?_
          rintro e w11 ⟨f, fn, fc, rfl, hO, hB⟩
          clear cXa0_51 cXa1_51 cXb0_51 cXb1_51 cXc0_51 cXc1_51 cXd0_52 cXd1_52
          have hstep : Below v10.heap.size v10 w11 := (by first | exact hB | exact below_drew hB)
          have Xa_53 := Xa_44.next hstep
          have Xb_54 := Xb_45.next hstep
          have Xc_55 := Xc_46.next hstep
          have Xd_56 := Xd_52.next hstep
          have Ra_57 := Ra_47.below hstep
          have Ob_58 := Ob_48.below hstep
          have Oc_59 := Oc_49.below hstep
          have Od_60 := Od_50.below hstep
          have hbel61 := hbel51.next hstep
          have hle61 := hbel61.size
          have hls61 := hstep.size
          clear Xa_44 Xb_45 Xc_46 Xd_52 Ra_47 Ob_48 Oc_49 Od_50 hbel51 hstep
          have cXa0_61 : _ = some (Value.bool sa) := Xa_53.cell 0
          have cXa1_61 : _ = some (Value.slice a na ca) := Xa_53.cell 1
          have cXb0_61 : _ = some (Value.bool (decide (za < 0))) := Xb_54.cell 0
          have cXb1_61 : _ = some (Value.slice b bn bc) := Xb_54.cell 1
          have cXc0_61 : _ = some (Value.bool (decide (za < 0))) := Xc_55.cell 0
          have cXc1_61 : _ = some (Value.slice c cn cc) := Xc_55.cell 1
          have cXd0_61 : _ = some (Value.bool (decide (zd < 0))) := Xd_56.cell 0
          have cXd1_61 : _ = some (Value.slice d dn dc) := Xd_56.cell 1
          have hlf : fn ≤ 30 := len_le (l := la) hO.len (show Sz (0 : Int).natAbs 30 by show _ < _; decide)
          have Of_62 := hO
          clear hO hB
          have hbx := blk_new w11 #[Value.bool false, Value.slice f fn fc] 25
          have hbB := (Below.refl w11.heap.size w11).alloc (Nat.le_refl _) (.cells #[Value.bool false, Value.slice f fn fc] 25)
          have hbg := hbx.lt
          clear cXa0_61 cXa1_61 cXb0_61 cXb1_61 cXc0_61 cXc1_61 cXd0_61 cXd1_61
          have hstep : Below w11.heap.size w11 (w11.alloc (.cells #[Value.bool false, Value.slice f fn fc] 25)) := (by first | exact hbB | exact below_drew hbB)
          have Xa_63 := Xa_53.next hstep
          have Xb_64 := Xb_54.next hstep
          have Xc_65 := Xc_55.next hstep
          have Xd_66 := Xd_56.next hstep
          have Ra_67 := Ra_57.below hstep
          have Ob_68 := Ob_58.below hstep
          have Oc_69 := Oc_59.below hstep
          have Od_70 := Od_60.below hstep
          have Of_71 := Of_62.below hstep
          have hbel72 := hbel61.next hstep
          have hle72 := hbel72.size
          have hls72 := hstep.size
          clear Xa_53 Xb_54 Xc_55 Xd_56 Ra_57 Ob_58 Oc_59 Od_60 Of_62 hbel61 hstep
          have cXa0_72 : _ = some (Value.bool sa) := Xa_63.cell 0
          have cXa1_72 : _ = some (Value.slice a na ca) := Xa_63.cell 1
          have cXb0_72 : _ = some (Value.bool (decide (za < 0))) := Xb_64.cell 0
          have cXb1_72 : _ = some (Value.slice b bn bc) := Xb_64.cell 1
          have cXc0_72 : _ = some (Value.bool (decide (za < 0))) := Xc_65.cell 0
          have cXc1_72 : _ = some (Value.slice c cn cc) := Xc_65.cell 1
          have cXd0_72 : _ = some (Value.bool (decide (zd < 0))) := Xd_66.cell 0
          have cXd1_72 : _ = some (Value.slice d dn dc) := Xd_66.cell 1
          have Xf_73 := hbx
          have cXf0_73 : _ = some (Value.bool false) := Xf_73.cell 0
          have cXf1_73 : _ = some (Value.slice f fn fc) := Xf_73.cell 1
          clear hbx hbB
          go_wp2_with fail
          generalize (w11.alloc (.cells #[Value.bool false, Value.slice f fn fc] 25)) = v12 at *
          clear hDe hDz hd1 hd2 hd3 hd hU hY hG hGZ hT hK hzi
          go_wp2_with fail
          obtain ⟨z5, hzz⟩ : ∃ z, zv false (val (lm zd.natAbs)) = z := ⟨_, rfl⟩
          have Hz5 := hid hzz
          clear hzz
          obtain ⟨z6, hzz⟩ : ∃ z, zv false (val (la)) = z := ⟨_, rfl⟩
          have Hz6 := hid hzz
          clear hzz
          have HE7 := hid (show decide (z5 = z6) = true from decide_eq_true (by have h1 := zv_abs (decide (zd < 0)) (val (lm zd.natAbs)); have h2 := zv_abs sa (val la); rw [zvlm] at h1; rw [HXa.out] at h2; have h3 := Hz5.out; have h4 := Hz6.out; have h5 := HZD.out; unfold zv at h3 h4; simp at h3 h4; omega))
          have HE8 := hid (show sgn zd = sd from (by exact HSD.out))
          go_wp2_with fail
          have KXa0_0 : _ = some (Value.bool sa) := Xa_63.cell 0
          have KXa1_0 : _ = some (Value.slice a na ca) := Xa_63.cell 1
          have KXb0_0 : _ = some (Value.bool (decide (za < 0))) := Xb_64.cell 0
          have KXb1_0 : _ = some (Value.slice b bn bc) := Xb_64.cell 1
          have KXc0_0 : _ = some (Value.bool (decide (za < 0))) := Xc_65.cell 0
          have KXc1_0 : _ = some (Value.slice c cn cc) := Xc_65.cell 1
          have KXd0_0 : _ = some (Value.bool (decide (zd < 0))) := Xd_66.cell 0
          have KXd1_0 : _ = some (Value.slice d dn dc) := Xd_66.cell 1
          have Xa_h0 := Xa_63
          have Xb_h0 := Xb_64
          have Xc_h0 := Xc_65
          have Xd_h0 := Xd_66
          have acc0 : Below v12.heap.size v12 v12 := Below.refl _ _
          go_region_held3 (fun w' => w'.cell? ⟨w.heap.size, 0, none⟩ = some (Value.bool sa) ∧ w'.cell? ⟨w.heap.size, 1, none⟩ = some (Value.slice a na ca) ∧ w'.cell? ⟨w5.heap.size, 0, none⟩ = some (Value.bool (decide (za < 0))) ∧ w'.cell? ⟨w5.heap.size, 1, none⟩ = some (Value.slice b bn bc) ∧ w'.cell? ⟨w7.heap.size, 0, none⟩ = some (Value.bool (decide (za < 0))) ∧ w'.cell? ⟨w7.heap.size, 1, none⟩ = some (Value.slice c cn cc) ∧ w'.cell? ⟨w9.heap.size, 0, none⟩ = some (Value.bool (decide (zd < 0))) ∧ w'.cell? ⟨w9.heap.size, 1, none⟩ = some (Value.slice d dn dc))
            (first | exact ⟨KXa0_0, KXa1_0, KXb0_0, KXb1_0, KXc0_0, KXc1_0, KXd0_0, KXd1_0⟩ | exact ⟨KXa0_1, KXa1_1, KXb0_1, KXb1_1, KXc0_1, KXc1_1, KXd0_1, KXd1_1⟩ | exact ⟨KXa0_2, KXa1_2, KXb0_2, KXb1_2, KXc0_2, KXc1_2, KXd0_2, KXd1_2⟩ | exact ⟨KXa0_3, KXa1_3, KXb0_3, KXb1_3, KXc0_3, KXc1_3, KXd0_3, KXd1_3⟩ | exact ⟨KXa0_4, KXa1_4, KXb0_4, KXb1_4, KXc0_4, KXc1_4, KXd0_4, KXd1_4⟩ | exact ⟨KXa0_5, KXa1_5, KXb0_5, KXb1_5, KXc0_5, KXc1_5, KXd0_5, KXd1_5⟩ | exact ⟨KXa0_6, KXa1_6, KXb0_6, KXb1_6, KXc0_6, KXc1_6, KXd0_6, KXd1_6⟩ | go_keep)
            (first
              | (go_at_call 30; ((with_reducible refine (zequalE (show Rd _ a na ca la from Ra_67.below (by first | exact acc0 | exact (acc0).drew)) (show na ≤ 4194304 by omega) (show Rd _ b bn bc (lm za.natAbs) from (Ob_68.below (by first | exact acc0 | exact (acc0).drew)).rd) (show bn ≤ 4194304 by omega) HXa.out (zvlm za)).mono ?_); (rintro e w13 ⟨rfl, hB⟩; have hst1 : Below v12.heap.size v12 w13 := (by first | exact hB | exact below_drew hB); have acc1 := acc0.next hst1; have Xa_h1 := Xa_h0.next hst1; have Xb_h1 := Xb_h0.next hst1; have Xc_h1 := Xc_h0.next hst1; have Xd_h1 := Xd_h0.next hst1; have KXa0_1 : _ = some (Value.bool sa) := Xa_h1.cell 0; have KXa1_1 : _ = some (Value.slice a na ca) := Xa_h1.cell 1; have KXb0_1 : _ = some (Value.bool (decide (za < 0))) := Xb_h1.cell 0; have KXb1_1 : _ = some (Value.slice b bn bc) := Xb_h1.cell 1; have KXc0_1 : _ = some (Value.bool (decide (za < 0))) := Xc_h1.cell 0; have KXc1_1 : _ = some (Value.slice c cn cc) := Xc_h1.cell 1; have KXd0_1 : _ = some (Value.bool (decide (zd < 0))) := Xd_h1.cell 0; have KXd1_1 : _ = some (Value.slice d dn dc) := Xd_h1.cell 1)))
              | (go_at_call 30; ((with_reducible refine (zequalE (show Rd _ a na ca la from Ra_67.below (by first | exact acc1 | exact (acc1).drew)) (show na ≤ 4194304 by omega) (show Rd _ c cn cc (lm za.natAbs) from (Oc_69.below (by first | exact acc1 | exact (acc1).drew)).rd) (show cn ≤ 4194304 by omega) HXa.out (zvlm za)).mono ?_); (rintro e w14 ⟨rfl, hB⟩; have hst2 : Below w13.heap.size w13 w14 := (by first | exact hB | exact below_drew hB); have acc2 := acc1.next hst2; have Xa_h2 := Xa_h1.next hst2; have Xb_h2 := Xb_h1.next hst2; have Xc_h2 := Xc_h1.next hst2; have Xd_h2 := Xd_h1.next hst2; have KXa0_2 : _ = some (Value.bool sa) := Xa_h2.cell 0; have KXa1_2 : _ = some (Value.slice a na ca) := Xa_h2.cell 1; have KXb0_2 : _ = some (Value.bool (decide (za < 0))) := Xb_h2.cell 0; have KXb1_2 : _ = some (Value.slice b bn bc) := Xb_h2.cell 1; have KXc0_2 : _ = some (Value.bool (decide (za < 0))) := Xc_h2.cell 0; have KXc1_2 : _ = some (Value.slice c cn cc) := Xc_h2.cell 1; have KXd0_2 : _ = some (Value.bool (decide (zd < 0))) := Xd_h2.cell 0; have KXd1_2 : _ = some (Value.slice d dn dc) := Xd_h2.cell 1)))
              | (go_at_call 36; ((with_reducible refine (zsize_any (decide (zd < 0)) (show Rd _ d dn dc (lm zd.natAbs) from (Od_70.below (by first | exact acc2 | exact (acc2).drew)).rd) (by omega)).mono ?_); (rintro e w15 ⟨rfl, hB⟩; have hst3 : Below w14.heap.size w14 w15 := (by first | exact hB | exact below_drew hB); have acc3 := acc2.next hst3; have Xa_h3 := Xa_h2.next hst3; have Xb_h3 := Xb_h2.next hst3; have Xc_h3 := Xc_h2.next hst3; have Xd_h3 := Xd_h2.next hst3; have KXa0_3 : _ = some (Value.bool sa) := Xa_h3.cell 0; have KXa1_3 : _ = some (Value.slice a na ca) := Xa_h3.cell 1; have KXb0_3 : _ = some (Value.bool (decide (za < 0))) := Xb_h3.cell 0; have KXb1_3 : _ = some (Value.slice b bn bc) := Xb_h3.cell 1; have KXc0_3 : _ = some (Value.bool (decide (za < 0))) := Xc_h3.cell 0; have KXc1_3 : _ = some (Value.slice c cn cc) := Xc_h3.cell 1; have KXd0_3 : _ = some (Value.bool (decide (zd < 0))) := Xd_h3.cell 0; have KXd1_3 : _ = some (Value.slice d dn dc) := Xd_h3.cell 1)))
              | (go_at_call 36; ((with_reducible refine (zsize_any sa (show Rd _ a na ca la from Ra_67.below (by first | exact acc3 | exact (acc3).drew)) (by omega)).mono ?_); (rintro e w16 ⟨rfl, hB⟩; have hst4 : Below w15.heap.size w15 w16 := (by first | exact hB | exact below_drew hB); have acc4 := acc3.next hst4; have Xa_h4 := Xa_h3.next hst4; have Xb_h4 := Xb_h3.next hst4; have Xc_h4 := Xc_h3.next hst4; have Xd_h4 := Xd_h3.next hst4; have KXa0_4 : _ = some (Value.bool sa) := Xa_h4.cell 0; have KXa1_4 : _ = some (Value.slice a na ca) := Xa_h4.cell 1; have KXb0_4 : _ = some (Value.bool (decide (za < 0))) := Xb_h4.cell 0; have KXb1_4 : _ = some (Value.slice b bn bc) := Xb_h4.cell 1; have KXc0_4 : _ = some (Value.bool (decide (za < 0))) := Xc_h4.cell 0; have KXc1_4 : _ = some (Value.slice c cn cc) := Xc_h4.cell 1; have KXd0_4 : _ = some (Value.bool (decide (zd < 0))) := Xd_h4.cell 0; have KXd1_4 : _ = some (Value.slice d dn dc) := Xd_h4.cell 1)))
              | (go_at_call 30; ((with_reducible refine (zequalG (show Rd _ d dn dc (lm zd.natAbs) from (Od_70.below (by first | exact acc4 | exact (acc4).drew)).rd) (show dn ≤ 4194304 by omega) (show Rd _ a na ca la from Ra_67.below (by first | exact acc4 | exact (acc4).drew)) (show na ≤ 4194304 by omega) Hz5.out Hz6.out HE7.out).mono ?_); (rintro e w17 ⟨rfl, hB⟩; have hst5 : Below w16.heap.size w16 w17 := (by first | exact hB | exact below_drew hB); have acc5 := acc4.next hst5; have Xa_h5 := Xa_h4.next hst5; have Xb_h5 := Xb_h4.next hst5; have Xc_h5 := Xc_h4.next hst5; have Xd_h5 := Xd_h4.next hst5; have KXa0_5 : _ = some (Value.bool sa) := Xa_h5.cell 0; have KXa1_5 : _ = some (Value.slice a na ca) := Xa_h5.cell 1; have KXb0_5 : _ = some (Value.bool (decide (za < 0))) := Xb_h5.cell 0; have KXb1_5 : _ = some (Value.slice b bn bc) := Xb_h5.cell 1; have KXc0_5 : _ = some (Value.bool (decide (za < 0))) := Xc_h5.cell 0; have KXc1_5 : _ = some (Value.slice c cn cc) := Xc_h5.cell 1; have KXd0_5 : _ = some (Value.bool (decide (zd < 0))) := Xd_h5.cell 0; have KXd1_5 : _ = some (Value.slice d dn dc) := Xd_h5.cell 1)))
              | (go_at_call 22; ((with_reducible refine (zsignG (show Rd _ d dn dc (lm zd.natAbs) from (Od_70.below (by first | exact acc5 | exact (acc5).drew)).rd) (show dn ≤ 4194304 by omega) (zvlm zd) HE8.out).mono ?_); (rintro e w18 ⟨rfl, hB⟩; have hst6 : Below w17.heap.size w17 w18 := (by first | exact hB | exact below_drew hB); have acc6 := acc5.next hst6; have Xa_h6 := Xa_h5.next hst6; have Xb_h6 := Xb_h5.next hst6; have Xc_h6 := Xc_h5.next hst6; have Xd_h6 := Xd_h5.next hst6; have KXa0_6 : _ = some (Value.bool sa) := Xa_h6.cell 0; have KXa1_6 : _ = some (Value.slice a na ca) := Xa_h6.cell 1; have KXb0_6 : _ = some (Value.bool (decide (za < 0))) := Xb_h6.cell 0; have KXb1_6 : _ = some (Value.slice b bn bc) := Xb_h6.cell 1; have KXc0_6 : _ = some (Value.bool (decide (za < 0))) := Xc_h6.cell 0; have KXc1_6 : _ = some (Value.slice c cn cc) := Xc_h6.cell 1; have KXd0_6 : _ = some (Value.bool (decide (zd < 0))) := Xd_h6.cell 0; have KXd1_6 : _ = some (Value.slice d dn dc) := Xd_h6.cell 1))))
          clear cXa0_72 cXa1_72 cXb0_72 cXb1_72 cXc0_72 cXc1_72 cXd0_72 cXd1_72 cXf0_73 cXf1_73
          have hstep : Below v12.heap.size v12 w18 := (by first | exact acc6 | exact below_drew acc6)
          have Xa_74 := Xa_63.next hstep
          have Xb_75 := Xb_64.next hstep
          have Xc_76 := Xc_65.next hstep
          have Xd_77 := Xd_66.next hstep
          have Xf_78 := Xf_73.next hstep
          have Ra_79 := Ra_67.below hstep
          have Ob_80 := Ob_68.below hstep
          have Oc_81 := Oc_69.below hstep
          have Od_82 := Od_70.below hstep
          have Of_83 := Of_71.below hstep
          have hbel84 := hbel72.next hstep
          have hle84 := hbel84.size
          have hls84 := hstep.size
          clear Xa_63 Xb_64 Xc_65 Xd_66 Xf_73 Ra_67 Ob_68 Oc_69 Od_70 Of_71 hbel72 hstep
          have cXa0_84 : _ = some (Value.bool sa) := Xa_74.cell 0
          have cXa1_84 : _ = some (Value.slice a na ca) := Xa_74.cell 1
          have cXb0_84 : _ = some (Value.bool (decide (za < 0))) := Xb_75.cell 0
          have cXb1_84 : _ = some (Value.slice b bn bc) := Xb_75.cell 1
          have cXc0_84 : _ = some (Value.bool (decide (za < 0))) := Xc_76.cell 0
          have cXc1_84 : _ = some (Value.slice c cn cc) := Xc_76.cell 1
          have cXd0_84 : _ = some (Value.bool (decide (zd < 0))) := Xd_77.cell 0
          have cXd1_84 : _ = some (Value.slice d dn dc) := Xd_77.cell 1
          have cXf0_84 : _ = some (Value.bool false) := Xf_78.cell 0
          have cXf1_84 : _ = some (Value.slice f fn fc) := Xf_78.cell 1
          clear acc0 acc1 acc2 acc3 acc4 acc5 acc6 hst1 hst2 hst3 hst4 hst5 hst6 KXa0_0 KXa1_0 KXb0_0 KXb1_0 KXc0_0 KXc1_0 KXd0_0 KXd1_0 KXa0_1 KXa1_1 KXb0_1 KXb1_1 KXc0_1 KXc1_1 KXd0_1 KXd1_1 KXa0_2 KXa1_2 KXb0_2 KXb1_2 KXc0_2 KXc1_2 KXd0_2 KXd1_2 KXa0_3 KXa1_3 KXb0_3 KXb1_3 KXc0_3 KXc1_3 KXd0_3 KXd1_3 KXa0_4 KXa1_4 KXb0_4 KXb1_4 KXc0_4 KXc1_4 KXd0_4 KXd1_4 KXa0_5 KXa1_5 KXb0_5 KXb1_5 KXc0_5 KXc1_5 KXd0_5 KXd1_5 KXa0_6 KXa1_6 KXb0_6 KXb1_6 KXc0_6 KXc1_6 KXd0_6 KXd1_6 Xa_h0 Xa_h1 Xa_h2 Xa_h3 Xa_h4 Xa_h5 Xa_h6 Xb_h0 Xb_h1 Xb_h2 Xb_h3 Xb_h4 Xb_h5 Xb_h6 Xc_h0 Xc_h1 Xc_h2 Xc_h3 Xc_h4 Xc_h5 Xc_h6 Xd_h0 Xd_h1 Xd_h2 Xd_h3 Xd_h4 Xd_h5 Xd_h6
          go_wp2
          go_ret
          exact ⟨rfl, hbel84⟩
  · skip
    obtain ⟨hc1, hc2, hSD⟩ := hc
    have HSDe := hid hSD
    clear hSD
    have hd0 : decide (sz < 0) = false := decide_eq_false (by omega)
    obtain rfl : S = D := HSDe.out
    clear HSDe
    have hent := ent1 w #[Value.bool sa, Value.slice a na ca] 25
    go_enter Try.func11, Try.ntmps11
    go_wp2_with fail
    generalize (w.alloc (.cells #[Value.bool sa, Value.slice a na ca] 25)) = W0 at hent ⊢
    obtain ⟨Xa_0, hbel0, hsz0⟩ := hent
    have Ra_1 := ha.below hbel0
    have cXa0_1 : _ = some (Value.bool sa) := Xa_0.cell 0
    have cXa1_1 : _ = some (Value.slice a na ca) := Xa_0.cell 1
    go_wp2_with fail
    refine (alive_any).mono ?_
    rintro e w1 ⟨rfl, hB⟩
    clear cXa0_1 cXa1_1
    have hstep : Below W0.heap.size W0 w1 := (by first | exact hB | exact below_drew hB)
    have Xa_2 := Xa_0.next hstep
    have Ra_3 := Ra_1.below hstep
    have hbel4 := hbel0.next hstep
    have hle4 := hbel4.size
    have hls4 := hstep.size
    clear Xa_0 Ra_1 hbel0 hstep
    have cXa0_4 : _ = some (Value.bool sa) := Xa_2.cell 0
    have cXa1_4 : _ = some (Value.slice a na ca) := Xa_2.cell 1
    go_wp2_with fail
    refine (big_any sa Ra_3 (by omega)).mono ?_
    rw [da]
    rintro e w2 ⟨rfl, hB⟩
    clear cXa0_4 cXa1_4
    have hstep : Below w1.heap.size w1 w2 := (by first | exact hB | exact below_drew hB)
    have Xa_5 := Xa_2.next hstep
    have Ra_6 := Ra_3.below hstep
    have hbel7 := hbel4.next hstep
    have hle7 := hbel7.size
    have hls7 := hstep.size
    clear Xa_2 Ra_3 hbel4 hstep
    have cXa0_7 : _ = some (Value.bool sa) := Xa_5.cell 0
    have cXa1_7 : _ = some (Value.slice a na ca) := Xa_5.cell 1
    go_wp2_with fail
    refine (ztextG Ra_6 (by omega) HXa.out HS.out).mono ?_
    rintro e w3 ⟨rfl, hB⟩
    clear cXa0_7 cXa1_7
    have hstep : Below w2.heap.size w2 w3 := (by first | exact hB | exact below_drew hB)
    have Xa_8 := Xa_5.next hstep
    have Ra_9 := Ra_6.below hstep
    have hbel10 := hbel7.next hstep
    have hle10 := hbel10.size
    have hls10 := hstep.size
    clear Xa_5 Ra_6 hbel7 hstep
    have cXa0_10 : _ = some (Value.bool sa) := Xa_8.cell 0
    have cXa1_10 : _ = some (Value.slice a na ca) := Xa_8.cell 1
    go_wp2_with fail
    refine (zsignG Ra_9 (by omega) HXa.out HSZ.out).mono ?_
    rintro e w4 ⟨rfl, hB⟩
    clear cXa0_10 cXa1_10
    have hstep : Below w3.heap.size w3 w4 := (by first | exact hB | exact below_drew hB)
    have Xa_11 := Xa_8.next hstep
    have Ra_12 := Ra_9.below hstep
    have hbel13 := hbel10.next hstep
    have hle13 := hbel13.size
    have hls13 := hstep.size
    clear Xa_8 Ra_9 hbel10 hstep
    have cXa0_13 : _ = some (Value.bool sa) := Xa_11.cell 0
    have cXa1_13 : _ = some (Value.slice a na ca) := Xa_11.cell 1
    go_wp2
    go_loop [8, 9] (fun mv iv => ∃ i : Nat, i ≤ K ∧ iv = .int .i64 i ∧ mv = .string (zs i)) (fun _ iv => K - (intOf iv).toNat)
    case atStart => exact ⟨0, by omega, rfl, rfl⟩
    case round =>
      obtain ⟨i, hi, rfl, rfl⟩ := hrel
      have hzi := HZN.out i
      have hzs := HZS.out i
      by_cases hlt : i < K
      · go_wp2
        go_round
        case rel => exact ⟨i + 1, by omega, by go_num, rfl⟩
        case measure => simp [intOf]; omega
      · obtain rfl : i = K := by omega
        clear hzs hlt hi
        have hG := HG.out
        have hGZ := HGZ.out
        have hT := HT.out
        have hU := HU.out
        have hY := HY.out
        have hGe : G = ByteArray.empty := by_inj (by rw [← hG, bk_take, Nat.sub_self]; rfl)
        have hT2 : zs i ++ S = T := by rw [← hT, ← hGZ, hGe, show ByteArray.empty ++ zs i = zs i from by_inj (by rw [bk_append, show by' ByteArray.empty = [] from rfl, List.nil_append])]
        clear hGe hG hGZ hT
        go_wp2_with fail
        refine (zparseG (s := S) (by omega) HBk.out.s1 HBk.out.s2).mono ?_
        rintro e w5 ⟨b, bn, bc, rfl, hO, hB⟩
        clear cXa0_13 cXa1_13
        have hstep : Below w4.heap.size w4 w5 := (by first | exact hB | exact below_drew hB)
        have Xa_14 := Xa_11.next hstep
        have Ra_15 := Ra_12.below hstep
        have hbel16 := hbel13.next hstep
        have hle16 := hbel16.size
        have hls16 := hstep.size
        clear Xa_11 Ra_12 hbel13 hstep
        have cXa0_16 : _ = some (Value.bool sa) := Xa_14.cell 0
        have cXa1_16 : _ = some (Value.slice a na ca) := Xa_14.cell 1
        have hlb : bn ≤ 30 := len_le (l := la) hO.len HBza.out
        have Ob_17 := hO
        clear hO hB
        have hbx := blk_new w5 #[Value.bool (decide (za < 0)), Value.slice b bn bc] 25
        have hbB := (Below.refl w5.heap.size w5).alloc (Nat.le_refl _) (.cells #[Value.bool (decide (za < 0)), Value.slice b bn bc] 25)
        have hbg := hbx.lt
        clear cXa0_16 cXa1_16
        have hstep : Below w5.heap.size w5 (w5.alloc (.cells #[Value.bool (decide (za < 0)), Value.slice b bn bc] 25)) := (by first | exact hbB | exact below_drew hbB)
        have Xa_18 := Xa_14.next hstep
        have Ra_19 := Ra_15.below hstep
        have Ob_20 := Ob_17.below hstep
        have hbel21 := hbel16.next hstep
        have hle21 := hbel21.size
        have hls21 := hstep.size
        clear Xa_14 Ra_15 Ob_17 hbel16 hstep
        have cXa0_21 : _ = some (Value.bool sa) := Xa_18.cell 0
        have cXa1_21 : _ = some (Value.slice a na ca) := Xa_18.cell 1
        have Xb_22 := hbx
        have cXb0_22 : _ = some (Value.bool (decide (za < 0))) := Xb_22.cell 0
        have cXb1_22 : _ = some (Value.slice b bn bc) := Xb_22.cell 1
        clear hbx hbB
        go_wp2_with fail
        generalize (w5.alloc (.cells #[Value.bool (decide (za < 0)), Value.slice b bn bc] 25)) = v6 at *
        go_wp2_with fail
        refine (zparseG (s := T) (by omega) HBk.out.t1 HBk.out.t2).mono ?_
        rintro e w7 ⟨c, cn, cc, rfl, hO, hB⟩
        clear cXa0_21 cXa1_21 cXb0_22 cXb1_22
        have hstep : Below v6.heap.size v6 w7 := (by first | exact hB | exact below_drew hB)
        have Xa_23 := Xa_18.next hstep
        have Xb_24 := Xb_22.next hstep
        have Ra_25 := Ra_19.below hstep
        have Ob_26 := Ob_20.below hstep
        have hbel27 := hbel21.next hstep
        have hle27 := hbel27.size
        have hls27 := hstep.size
        clear Xa_18 Xb_22 Ra_19 Ob_20 hbel21 hstep
        have cXa0_27 : _ = some (Value.bool sa) := Xa_23.cell 0
        have cXa1_27 : _ = some (Value.slice a na ca) := Xa_23.cell 1
        have cXb0_27 : _ = some (Value.bool (decide (za < 0))) := Xb_24.cell 0
        have cXb1_27 : _ = some (Value.slice b bn bc) := Xb_24.cell 1
        have hlc : cn ≤ 30 := len_le (l := la) hO.len HBza.out
        have Oc_28 := hO
        clear hO hB
        have hbx := blk_new w7 #[Value.bool (decide (za < 0)), Value.slice c cn cc] 25
        have hbB := (Below.refl w7.heap.size w7).alloc (Nat.le_refl _) (.cells #[Value.bool (decide (za < 0)), Value.slice c cn cc] 25)
        have hbg := hbx.lt
        clear cXa0_27 cXa1_27 cXb0_27 cXb1_27
        have hstep : Below w7.heap.size w7 (w7.alloc (.cells #[Value.bool (decide (za < 0)), Value.slice c cn cc] 25)) := (by first | exact hbB | exact below_drew hbB)
        have Xa_29 := Xa_23.next hstep
        have Xb_30 := Xb_24.next hstep
        have Ra_31 := Ra_25.below hstep
        have Ob_32 := Ob_26.below hstep
        have Oc_33 := Oc_28.below hstep
        have hbel34 := hbel27.next hstep
        have hle34 := hbel34.size
        have hls34 := hstep.size
        clear Xa_23 Xb_24 Ra_25 Ob_26 Oc_28 hbel27 hstep
        have cXa0_34 : _ = some (Value.bool sa) := Xa_29.cell 0
        have cXa1_34 : _ = some (Value.slice a na ca) := Xa_29.cell 1
        have cXb0_34 : _ = some (Value.bool (decide (za < 0))) := Xb_30.cell 0
        have cXb1_34 : _ = some (Value.slice b bn bc) := Xb_30.cell 1
        have Xc_35 := hbx
        have cXc0_35 : _ = some (Value.bool (decide (za < 0))) := Xc_35.cell 0
        have cXc1_35 : _ = some (Value.slice c cn cc) := Xc_35.cell 1
        clear hbx hbB
        go_wp2_with fail
        generalize (w7.alloc (.cells #[Value.bool (decide (za < 0)), Value.slice c cn cc] 25)) = v8 at *
        go_wp2_with fail
        refine (zparseG (s := U) (by omega) HU1.out HBk.out.u2).mono ?_
        rintro e w9 ⟨d, dn, dc, rfl, hO, hB⟩
        clear cXa0_34 cXa1_34 cXb0_34 cXb1_34 cXc0_35 cXc1_35
        have hstep : Below v8.heap.size v8 w9 := (by first | exact hB | exact below_drew hB)
        have Xa_36 := Xa_29.next hstep
        have Xb_37 := Xb_30.next hstep
        have Xc_38 := Xc_35.next hstep
        have Ra_39 := Ra_31.below hstep
        have Ob_40 := Ob_32.below hstep
        have Oc_41 := Oc_33.below hstep
        have hbel42 := hbel34.next hstep
        have hle42 := hbel42.size
        have hls42 := hstep.size
        clear Xa_29 Xb_30 Xc_35 Ra_31 Ob_32 Oc_33 hbel34 hstep
        have cXa0_42 : _ = some (Value.bool sa) := Xa_36.cell 0
        have cXa1_42 : _ = some (Value.slice a na ca) := Xa_36.cell 1
        have cXb0_42 : _ = some (Value.bool (decide (za < 0))) := Xb_37.cell 0
        have cXb1_42 : _ = some (Value.slice b bn bc) := Xb_37.cell 1
        have cXc0_42 : _ = some (Value.bool (decide (za < 0))) := Xc_38.cell 0
        have cXc1_42 : _ = some (Value.slice c cn cc) := Xc_38.cell 1
        have hld : dn ≤ 30 := len_le (l := la) hO.len HBzd.out
        have Od_43 := hO
        clear hO hB
        have hbx := blk_new w9 #[Value.bool (decide (zd < 0)), Value.slice d dn dc] 25
        have hbB := (Below.refl w9.heap.size w9).alloc (Nat.le_refl _) (.cells #[Value.bool (decide (zd < 0)), Value.slice d dn dc] 25)
        have hbg := hbx.lt
        clear cXa0_42 cXa1_42 cXb0_42 cXb1_42 cXc0_42 cXc1_42
        have hstep : Below w9.heap.size w9 (w9.alloc (.cells #[Value.bool (decide (zd < 0)), Value.slice d dn dc] 25)) := (by first | exact hbB | exact below_drew hbB)
        have Xa_44 := Xa_36.next hstep
        have Xb_45 := Xb_37.next hstep
        have Xc_46 := Xc_38.next hstep
        have Ra_47 := Ra_39.below hstep
        have Ob_48 := Ob_40.below hstep
        have Oc_49 := Oc_41.below hstep
        have Od_50 := Od_43.below hstep
        have hbel51 := hbel42.next hstep
        have hle51 := hbel51.size
        have hls51 := hstep.size
        clear Xa_36 Xb_37 Xc_38 Ra_39 Ob_40 Oc_41 Od_43 hbel42 hstep
        have cXa0_51 : _ = some (Value.bool sa) := Xa_44.cell 0
        have cXa1_51 : _ = some (Value.slice a na ca) := Xa_44.cell 1
        have cXb0_51 : _ = some (Value.bool (decide (za < 0))) := Xb_45.cell 0
        have cXb1_51 : _ = some (Value.slice b bn bc) := Xb_45.cell 1
        have cXc0_51 : _ = some (Value.bool (decide (za < 0))) := Xc_46.cell 0
        have cXc1_51 : _ = some (Value.slice c cn cc) := Xc_46.cell 1
        have Xd_52 := hbx
        have cXd0_52 : _ = some (Value.bool (decide (zd < 0))) := Xd_52.cell 0
        have cXd1_52 : _ = some (Value.slice d dn dc) := Xd_52.cell 1
        clear hbx hbB
        go_wp2_with fail
        generalize (w9.alloc (.cells #[Value.bool (decide (zd < 0)), Value.slice d dn dc] 25)) = v10 at *
        rcases (show Hid (¬ 1 < S.size) ∨ Hid (1 < S.size) from (Nat.lt_or_ge 1 S.size).elim (fun h => .inr h) (fun h => .inl (by show ¬ _; omega))) with hd | hd
        · skip
          have hDe : (S = ByteArray.empty) = False := eq_false (fun h => absurd (congrArg ByteArray.size h) (by rw [show ByteArray.empty.size = 0 from rfl]; omega))
          have hDz : ((S.size : Int) == 0) = false := beq_eq_false_iff_ne.2 (by omega)
          have hd1 := hd.out
          have hd2 : decide ((1 : Int) < (S.size : Int)) = false := decide_eq_false (by omega)
          have hd3 : ((1 : Int) < (S.size : Int)) = False := eq_false (by omega)
          go_wp2_with fail
          refine (zparseG (s := Y) (by omega) HBk.out.v1 HBk.out.v2).mono ?_
          rintro e w11 ⟨f, fn, fc, rfl, hO, hB⟩
          clear cXa0_51 cXa1_51 cXb0_51 cXb1_51 cXc0_51 cXc1_51 cXd0_52 cXd1_52
          have hstep : Below v10.heap.size v10 w11 := (by first | exact hB | exact below_drew hB)
          have Xa_53 := Xa_44.next hstep
          have Xb_54 := Xb_45.next hstep
          have Xc_55 := Xc_46.next hstep
          have Xd_56 := Xd_52.next hstep
          have Ra_57 := Ra_47.below hstep
          have Ob_58 := Ob_48.below hstep
          have Oc_59 := Oc_49.below hstep
          have Od_60 := Od_50.below hstep
          have hbel61 := hbel51.next hstep
          have hle61 := hbel61.size
          have hls61 := hstep.size
          clear Xa_44 Xb_45 Xc_46 Xd_52 Ra_47 Ob_48 Oc_49 Od_50 hbel51 hstep
          have cXa0_61 : _ = some (Value.bool sa) := Xa_53.cell 0
          have cXa1_61 : _ = some (Value.slice a na ca) := Xa_53.cell 1
          have cXb0_61 : _ = some (Value.bool (decide (za < 0))) := Xb_54.cell 0
          have cXb1_61 : _ = some (Value.slice b bn bc) := Xb_54.cell 1
          have cXc0_61 : _ = some (Value.bool (decide (za < 0))) := Xc_55.cell 0
          have cXc1_61 : _ = some (Value.slice c cn cc) := Xc_55.cell 1
          have cXd0_61 : _ = some (Value.bool (decide (zd < 0))) := Xd_56.cell 0
          have cXd1_61 : _ = some (Value.slice d dn dc) := Xd_56.cell 1
          have hlf : fn ≤ 30 := len_le (l := la) hO.len (show Sz (0 : Int).natAbs 30 by show _ < _; decide)
          have Of_62 := hO
          clear hO hB
          have hbx := blk_new w11 #[Value.bool false, Value.slice f fn fc] 25
          have hbB := (Below.refl w11.heap.size w11).alloc (Nat.le_refl _) (.cells #[Value.bool false, Value.slice f fn fc] 25)
          have hbg := hbx.lt
          clear cXa0_61 cXa1_61 cXb0_61 cXb1_61 cXc0_61 cXc1_61 cXd0_61 cXd1_61
          have hstep : Below w11.heap.size w11 (w11.alloc (.cells #[Value.bool false, Value.slice f fn fc] 25)) := (by first | exact hbB | exact below_drew hbB)
          have Xa_63 := Xa_53.next hstep
          have Xb_64 := Xb_54.next hstep
          have Xc_65 := Xc_55.next hstep
          have Xd_66 := Xd_56.next hstep
          have Ra_67 := Ra_57.below hstep
          have Ob_68 := Ob_58.below hstep
          have Oc_69 := Oc_59.below hstep
          have Od_70 := Od_60.below hstep
          have Of_71 := Of_62.below hstep
          have hbel72 := hbel61.next hstep
          have hle72 := hbel72.size
          have hls72 := hstep.size
          clear Xa_53 Xb_54 Xc_55 Xd_56 Ra_57 Ob_58 Oc_59 Od_60 Of_62 hbel61 hstep
          have cXa0_72 : _ = some (Value.bool sa) := Xa_63.cell 0
          have cXa1_72 : _ = some (Value.slice a na ca) := Xa_63.cell 1
          have cXb0_72 : _ = some (Value.bool (decide (za < 0))) := Xb_64.cell 0
          have cXb1_72 : _ = some (Value.slice b bn bc) := Xb_64.cell 1
          have cXc0_72 : _ = some (Value.bool (decide (za < 0))) := Xc_65.cell 0
          have cXc1_72 : _ = some (Value.slice c cn cc) := Xc_65.cell 1
          have cXd0_72 : _ = some (Value.bool (decide (zd < 0))) := Xd_66.cell 0
          have cXd1_72 : _ = some (Value.slice d dn dc) := Xd_66.cell 1
          have Xf_73 := hbx
          have cXf0_73 : _ = some (Value.bool false) := Xf_73.cell 0
          have cXf1_73 : _ = some (Value.slice f fn fc) := Xf_73.cell 1
          clear hbx hbB
          go_wp2_with fail
          generalize (w11.alloc (.cells #[Value.bool false, Value.slice f fn fc] 25)) = v12 at *
          clear hDe hDz hd1 hd2 hd3 hd hU hY hT2 hK hzi
          go_wp2_with fail
          obtain ⟨z1, hzz⟩ : ∃ z, zv false (val (lm zd.natAbs)) = z := ⟨_, rfl⟩
          have Hz1 := hid hzz
          clear hzz
          obtain ⟨z2, hzz⟩ : ∃ z, zv false (val (la)) = z := ⟨_, rfl⟩
          have Hz2 := hid hzz
          clear hzz
          have HE3 := hid (show decide (z1 = z2) = true from decide_eq_true (by have h1 := zv_abs (decide (zd < 0)) (val (lm zd.natAbs)); have h2 := zv_abs sa (val la); rw [zvlm] at h1; rw [HXa.out] at h2; have h3 := Hz1.out; have h4 := Hz2.out; have h5 := HZD.out; unfold zv at h3 h4; simp at h3 h4; omega))
          have HE4 := hid (show sgn zd = sd from (by exact HSD.out))
          go_wp2_with fail
          have KXa0_0 : _ = some (Value.bool sa) := Xa_63.cell 0
          have KXa1_0 : _ = some (Value.slice a na ca) := Xa_63.cell 1
          have KXb0_0 : _ = some (Value.bool (decide (za < 0))) := Xb_64.cell 0
          have KXb1_0 : _ = some (Value.slice b bn bc) := Xb_64.cell 1
          have KXc0_0 : _ = some (Value.bool (decide (za < 0))) := Xc_65.cell 0
          have KXc1_0 : _ = some (Value.slice c cn cc) := Xc_65.cell 1
          have KXd0_0 : _ = some (Value.bool (decide (zd < 0))) := Xd_66.cell 0
          have KXd1_0 : _ = some (Value.slice d dn dc) := Xd_66.cell 1
          have Xa_h0 := Xa_63
          have Xb_h0 := Xb_64
          have Xc_h0 := Xc_65
          have Xd_h0 := Xd_66
          have acc0 : Below v12.heap.size v12 v12 := Below.refl _ _
          go_region_held3 (fun w' => w'.cell? ⟨w.heap.size, 0, none⟩ = some (Value.bool sa) ∧ w'.cell? ⟨w.heap.size, 1, none⟩ = some (Value.slice a na ca) ∧ w'.cell? ⟨w5.heap.size, 0, none⟩ = some (Value.bool (decide (za < 0))) ∧ w'.cell? ⟨w5.heap.size, 1, none⟩ = some (Value.slice b bn bc) ∧ w'.cell? ⟨w7.heap.size, 0, none⟩ = some (Value.bool (decide (za < 0))) ∧ w'.cell? ⟨w7.heap.size, 1, none⟩ = some (Value.slice c cn cc) ∧ w'.cell? ⟨w9.heap.size, 0, none⟩ = some (Value.bool (decide (zd < 0))) ∧ w'.cell? ⟨w9.heap.size, 1, none⟩ = some (Value.slice d dn dc))
            (first | exact ⟨KXa0_0, KXa1_0, KXb0_0, KXb1_0, KXc0_0, KXc1_0, KXd0_0, KXd1_0⟩ | exact ⟨KXa0_1, KXa1_1, KXb0_1, KXb1_1, KXc0_1, KXc1_1, KXd0_1, KXd1_1⟩ | exact ⟨KXa0_2, KXa1_2, KXb0_2, KXb1_2, KXc0_2, KXc1_2, KXd0_2, KXd1_2⟩ | exact ⟨KXa0_3, KXa1_3, KXb0_3, KXb1_3, KXc0_3, KXc1_3, KXd0_3, KXd1_3⟩ | exact ⟨KXa0_4, KXa1_4, KXb0_4, KXb1_4, KXc0_4, KXc1_4, KXd0_4, KXd1_4⟩ | exact ⟨KXa0_5, KXa1_5, KXb0_5, KXb1_5, KXc0_5, KXc1_5, KXd0_5, KXd1_5⟩ | exact ⟨KXa0_6, KXa1_6, KXb0_6, KXb1_6, KXc0_6, KXc1_6, KXd0_6, KXd1_6⟩ | go_keep)
            (first
              | (go_at_call 30; ((with_reducible refine (zequalE (show Rd _ a na ca la from Ra_67.below (by first | exact acc0 | exact (acc0).drew)) (show na ≤ 4194304 by omega) (show Rd _ b bn bc (lm za.natAbs) from (Ob_68.below (by first | exact acc0 | exact (acc0).drew)).rd) (show bn ≤ 4194304 by omega) HXa.out (zvlm za)).mono ?_); (rintro e w13 ⟨rfl, hB⟩; have hst1 : Below v12.heap.size v12 w13 := (by first | exact hB | exact below_drew hB); have acc1 := acc0.next hst1; have Xa_h1 := Xa_h0.next hst1; have Xb_h1 := Xb_h0.next hst1; have Xc_h1 := Xc_h0.next hst1; have Xd_h1 := Xd_h0.next hst1; have KXa0_1 : _ = some (Value.bool sa) := Xa_h1.cell 0; have KXa1_1 : _ = some (Value.slice a na ca) := Xa_h1.cell 1; have KXb0_1 : _ = some (Value.bool (decide (za < 0))) := Xb_h1.cell 0; have KXb1_1 : _ = some (Value.slice b bn bc) := Xb_h1.cell 1; have KXc0_1 : _ = some (Value.bool (decide (za < 0))) := Xc_h1.cell 0; have KXc1_1 : _ = some (Value.slice c cn cc) := Xc_h1.cell 1; have KXd0_1 : _ = some (Value.bool (decide (zd < 0))) := Xd_h1.cell 0; have KXd1_1 : _ = some (Value.slice d dn dc) := Xd_h1.cell 1)))
              | (go_at_call 30; ((with_reducible refine (zequalE (show Rd _ a na ca la from Ra_67.below (by first | exact acc1 | exact (acc1).drew)) (show na ≤ 4194304 by omega) (show Rd _ c cn cc (lm za.natAbs) from (Oc_69.below (by first | exact acc1 | exact (acc1).drew)).rd) (show cn ≤ 4194304 by omega) HXa.out (zvlm za)).mono ?_); (rintro e w14 ⟨rfl, hB⟩; have hst2 : Below w13.heap.size w13 w14 := (by first | exact hB | exact below_drew hB); have acc2 := acc1.next hst2; have Xa_h2 := Xa_h1.next hst2; have Xb_h2 := Xb_h1.next hst2; have Xc_h2 := Xc_h1.next hst2; have Xd_h2 := Xd_h1.next hst2; have KXa0_2 : _ = some (Value.bool sa) := Xa_h2.cell 0; have KXa1_2 : _ = some (Value.slice a na ca) := Xa_h2.cell 1; have KXb0_2 : _ = some (Value.bool (decide (za < 0))) := Xb_h2.cell 0; have KXb1_2 : _ = some (Value.slice b bn bc) := Xb_h2.cell 1; have KXc0_2 : _ = some (Value.bool (decide (za < 0))) := Xc_h2.cell 0; have KXc1_2 : _ = some (Value.slice c cn cc) := Xc_h2.cell 1; have KXd0_2 : _ = some (Value.bool (decide (zd < 0))) := Xd_h2.cell 0; have KXd1_2 : _ = some (Value.slice d dn dc) := Xd_h2.cell 1)))
              | (go_at_call 36; ((with_reducible refine (zsize_any (decide (zd < 0)) (show Rd _ d dn dc (lm zd.natAbs) from (Od_70.below (by first | exact acc2 | exact (acc2).drew)).rd) (by omega)).mono ?_); (rintro e w15 ⟨rfl, hB⟩; have hst3 : Below w14.heap.size w14 w15 := (by first | exact hB | exact below_drew hB); have acc3 := acc2.next hst3; have Xa_h3 := Xa_h2.next hst3; have Xb_h3 := Xb_h2.next hst3; have Xc_h3 := Xc_h2.next hst3; have Xd_h3 := Xd_h2.next hst3; have KXa0_3 : _ = some (Value.bool sa) := Xa_h3.cell 0; have KXa1_3 : _ = some (Value.slice a na ca) := Xa_h3.cell 1; have KXb0_3 : _ = some (Value.bool (decide (za < 0))) := Xb_h3.cell 0; have KXb1_3 : _ = some (Value.slice b bn bc) := Xb_h3.cell 1; have KXc0_3 : _ = some (Value.bool (decide (za < 0))) := Xc_h3.cell 0; have KXc1_3 : _ = some (Value.slice c cn cc) := Xc_h3.cell 1; have KXd0_3 : _ = some (Value.bool (decide (zd < 0))) := Xd_h3.cell 0; have KXd1_3 : _ = some (Value.slice d dn dc) := Xd_h3.cell 1)))
              | (go_at_call 36; ((with_reducible refine (zsize_any sa (show Rd _ a na ca la from Ra_67.below (by first | exact acc3 | exact (acc3).drew)) (by omega)).mono ?_); (rintro e w16 ⟨rfl, hB⟩; have hst4 : Below w15.heap.size w15 w16 := (by first | exact hB | exact below_drew hB); have acc4 := acc3.next hst4; have Xa_h4 := Xa_h3.next hst4; have Xb_h4 := Xb_h3.next hst4; have Xc_h4 := Xc_h3.next hst4; have Xd_h4 := Xd_h3.next hst4; have KXa0_4 : _ = some (Value.bool sa) := Xa_h4.cell 0; have KXa1_4 : _ = some (Value.slice a na ca) := Xa_h4.cell 1; have KXb0_4 : _ = some (Value.bool (decide (za < 0))) := Xb_h4.cell 0; have KXb1_4 : _ = some (Value.slice b bn bc) := Xb_h4.cell 1; have KXc0_4 : _ = some (Value.bool (decide (za < 0))) := Xc_h4.cell 0; have KXc1_4 : _ = some (Value.slice c cn cc) := Xc_h4.cell 1; have KXd0_4 : _ = some (Value.bool (decide (zd < 0))) := Xd_h4.cell 0; have KXd1_4 : _ = some (Value.slice d dn dc) := Xd_h4.cell 1)))
              | (go_at_call 30; ((with_reducible refine (zequalG (show Rd _ d dn dc (lm zd.natAbs) from (Od_70.below (by first | exact acc4 | exact (acc4).drew)).rd) (show dn ≤ 4194304 by omega) (show Rd _ a na ca la from Ra_67.below (by first | exact acc4 | exact (acc4).drew)) (show na ≤ 4194304 by omega) Hz1.out Hz2.out HE3.out).mono ?_); (rintro e w17 ⟨rfl, hB⟩; have hst5 : Below w16.heap.size w16 w17 := (by first | exact hB | exact below_drew hB); have acc5 := acc4.next hst5; have Xa_h5 := Xa_h4.next hst5; have Xb_h5 := Xb_h4.next hst5; have Xc_h5 := Xc_h4.next hst5; have Xd_h5 := Xd_h4.next hst5; have KXa0_5 : _ = some (Value.bool sa) := Xa_h5.cell 0; have KXa1_5 : _ = some (Value.slice a na ca) := Xa_h5.cell 1; have KXb0_5 : _ = some (Value.bool (decide (za < 0))) := Xb_h5.cell 0; have KXb1_5 : _ = some (Value.slice b bn bc) := Xb_h5.cell 1; have KXc0_5 : _ = some (Value.bool (decide (za < 0))) := Xc_h5.cell 0; have KXc1_5 : _ = some (Value.slice c cn cc) := Xc_h5.cell 1; have KXd0_5 : _ = some (Value.bool (decide (zd < 0))) := Xd_h5.cell 0; have KXd1_5 : _ = some (Value.slice d dn dc) := Xd_h5.cell 1)))
              | (go_at_call 22; ((with_reducible refine (zsignG (show Rd _ d dn dc (lm zd.natAbs) from (Od_70.below (by first | exact acc5 | exact (acc5).drew)).rd) (show dn ≤ 4194304 by omega) (zvlm zd) HE4.out).mono ?_); (rintro e w18 ⟨rfl, hB⟩; have hst6 : Below w17.heap.size w17 w18 := (by first | exact hB | exact below_drew hB); have acc6 := acc5.next hst6; have Xa_h6 := Xa_h5.next hst6; have Xb_h6 := Xb_h5.next hst6; have Xc_h6 := Xc_h5.next hst6; have Xd_h6 := Xd_h5.next hst6; have KXa0_6 : _ = some (Value.bool sa) := Xa_h6.cell 0; have KXa1_6 : _ = some (Value.slice a na ca) := Xa_h6.cell 1; have KXb0_6 : _ = some (Value.bool (decide (za < 0))) := Xb_h6.cell 0; have KXb1_6 : _ = some (Value.slice b bn bc) := Xb_h6.cell 1; have KXc0_6 : _ = some (Value.bool (decide (za < 0))) := Xc_h6.cell 0; have KXc1_6 : _ = some (Value.slice c cn cc) := Xc_h6.cell 1; have KXd0_6 : _ = some (Value.bool (decide (zd < 0))) := Xd_h6.cell 0; have KXd1_6 : _ = some (Value.slice d dn dc) := Xd_h6.cell 1))))
          clear cXa0_72 cXa1_72 cXb0_72 cXb1_72 cXc0_72 cXc1_72 cXd0_72 cXd1_72 cXf0_73 cXf1_73
          have hstep : Below v12.heap.size v12 w18 := (by first | exact acc6 | exact below_drew acc6)
          have Xa_74 := Xa_63.next hstep
          have Xb_75 := Xb_64.next hstep
          have Xc_76 := Xc_65.next hstep
          have Xd_77 := Xd_66.next hstep
          have Xf_78 := Xf_73.next hstep
          have Ra_79 := Ra_67.below hstep
          have Ob_80 := Ob_68.below hstep
          have Oc_81 := Oc_69.below hstep
          have Od_82 := Od_70.below hstep
          have Of_83 := Of_71.below hstep
          have hbel84 := hbel72.next hstep
          have hle84 := hbel84.size
          have hls84 := hstep.size
          clear Xa_63 Xb_64 Xc_65 Xd_66 Xf_73 Ra_67 Ob_68 Oc_69 Od_70 Of_71 hbel72 hstep
          have cXa0_84 : _ = some (Value.bool sa) := Xa_74.cell 0
          have cXa1_84 : _ = some (Value.slice a na ca) := Xa_74.cell 1
          have cXb0_84 : _ = some (Value.bool (decide (za < 0))) := Xb_75.cell 0
          have cXb1_84 : _ = some (Value.slice b bn bc) := Xb_75.cell 1
          have cXc0_84 : _ = some (Value.bool (decide (za < 0))) := Xc_76.cell 0
          have cXc1_84 : _ = some (Value.slice c cn cc) := Xc_76.cell 1
          have cXd0_84 : _ = some (Value.bool (decide (zd < 0))) := Xd_77.cell 0
          have cXd1_84 : _ = some (Value.slice d dn dc) := Xd_77.cell 1
          have cXf0_84 : _ = some (Value.bool false) := Xf_78.cell 0
          have cXf1_84 : _ = some (Value.slice f fn fc) := Xf_78.cell 1
          clear acc0 acc1 acc2 acc3 acc4 acc5 acc6 hst1 hst2 hst3 hst4 hst5 hst6 KXa0_0 KXa1_0 KXb0_0 KXb1_0 KXc0_0 KXc1_0 KXd0_0 KXd1_0 KXa0_1 KXa1_1 KXb0_1 KXb1_1 KXc0_1 KXc1_1 KXd0_1 KXd1_1 KXa0_2 KXa1_2 KXb0_2 KXb1_2 KXc0_2 KXc1_2 KXd0_2 KXd1_2 KXa0_3 KXa1_3 KXb0_3 KXb1_3 KXc0_3 KXc1_3 KXd0_3 KXd1_3 KXa0_4 KXa1_4 KXb0_4 KXb1_4 KXc0_4 KXc1_4 KXd0_4 KXd1_4 KXa0_5 KXa1_5 KXb0_5 KXb1_5 KXc0_5 KXc1_5 KXd0_5 KXd1_5 KXa0_6 KXa1_6 KXb0_6 KXb1_6 KXc0_6 KXc1_6 KXd0_6 KXd1_6 Xa_h0 Xa_h1 Xa_h2 Xa_h3 Xa_h4 Xa_h5 Xa_h6 Xb_h0 Xb_h1 Xb_h2 Xb_h3 Xb_h4 Xb_h5 Xb_h6 Xc_h0 Xc_h1 Xc_h2 Xc_h3 Xc_h4 Xc_h5 Xc_h6 Xd_h0 Xd_h1 Xd_h2 Xd_h3 Xd_h4 Xd_h5 Xd_h6
          go_wp2
          go_ret
          exact ⟨rfl, hbel84⟩
        · skip
          have hDe : (S = ByteArray.empty) = False := eq_false (fun h => absurd (congrArg ByteArray.size h) (by rw [show ByteArray.empty.size = 0 from rfl]; omega))
          have hDz : ((S.size : Int) == 0) = false := beq_eq_false_iff_ne.2 (by omega)
          have hd1 := hd.out
          have hd3 : ((1 : Int) < (S.size : Int)) = True := eq_true (by omega)
          have hd2 : ((S[0].toNat : Int) == 48) = false := beq_eq_false_iff_ne.2 (by have h := HBk.out.d1 hd1; rw [by_get _ 0 (by omega)] at h; omega)
          go_wp2_with fail
          refine (zparseG (s := Y) (by omega) HBk.out.v1 HBk.out.v2).mono ?_
          rintro e w11 ⟨f, fn, fc, rfl, hO, hB⟩
          clear cXa0_51 cXa1_51 cXb0_51 cXb1_51 cXc0_51 cXc1_51 cXd0_52 cXd1_52
          have hstep : Below v10.heap.size v10 w11 := (by first | exact hB | exact below_drew hB)
          have Xa_53 := Xa_44.next hstep
          have Xb_54 := Xb_45.next hstep
          have Xc_55 := Xc_46.next hstep
          have Xd_56 := Xd_52.next hstep
          have Ra_57 := Ra_47.below hstep
          have Ob_58 := Ob_48.below hstep
          have Oc_59 := Oc_49.below hstep
          have Od_60 := Od_50.below hstep
          have hbel61 := hbel51.next hstep
          have hle61 := hbel61.size
          have hls61 := hstep.size
          clear Xa_44 Xb_45 Xc_46 Xd_52 Ra_47 Ob_48 Oc_49 Od_50 hbel51 hstep
          have cXa0_61 : _ = some (Value.bool sa) := Xa_53.cell 0
          have cXa1_61 : _ = some (Value.slice a na ca) := Xa_53.cell 1
          have cXb0_61 : _ = some (Value.bool (decide (za < 0))) := Xb_54.cell 0
          have cXb1_61 : _ = some (Value.slice b bn bc) := Xb_54.cell 1
          have cXc0_61 : _ = some (Value.bool (decide (za < 0))) := Xc_55.cell 0
          have cXc1_61 : _ = some (Value.slice c cn cc) := Xc_55.cell 1
          have cXd0_61 : _ = some (Value.bool (decide (zd < 0))) := Xd_56.cell 0
          have cXd1_61 : _ = some (Value.slice d dn dc) := Xd_56.cell 1
          have hlf : fn ≤ 30 := len_le (l := la) hO.len (show Sz (0 : Int).natAbs 30 by show _ < _; decide)
          have Of_62 := hO
          clear hO hB
          have hbx := blk_new w11 #[Value.bool false, Value.slice f fn fc] 25
          have hbB := (Below.refl w11.heap.size w11).alloc (Nat.le_refl _) (.cells #[Value.bool false, Value.slice f fn fc] 25)
          have hbg := hbx.lt
          clear cXa0_61 cXa1_61 cXb0_61 cXb1_61 cXc0_61 cXc1_61 cXd0_61 cXd1_61
          have hstep : Below w11.heap.size w11 (w11.alloc (.cells #[Value.bool false, Value.slice f fn fc] 25)) := (by first | exact hbB | exact below_drew hbB)
          have Xa_63 := Xa_53.next hstep
          have Xb_64 := Xb_54.next hstep
          have Xc_65 := Xc_55.next hstep
          have Xd_66 := Xd_56.next hstep
          have Ra_67 := Ra_57.below hstep
          have Ob_68 := Ob_58.below hstep
          have Oc_69 := Oc_59.below hstep
          have Od_70 := Od_60.below hstep
          have Of_71 := Of_62.below hstep
          have hbel72 := hbel61.next hstep
          have hle72 := hbel72.size
          have hls72 := hstep.size
          clear Xa_53 Xb_54 Xc_55 Xd_56 Ra_57 Ob_58 Oc_59 Od_60 Of_62 hbel61 hstep
          have cXa0_72 : _ = some (Value.bool sa) := Xa_63.cell 0
          have cXa1_72 : _ = some (Value.slice a na ca) := Xa_63.cell 1
          have cXb0_72 : _ = some (Value.bool (decide (za < 0))) := Xb_64.cell 0
          have cXb1_72 : _ = some (Value.slice b bn bc) := Xb_64.cell 1
          have cXc0_72 : _ = some (Value.bool (decide (za < 0))) := Xc_65.cell 0
          have cXc1_72 : _ = some (Value.slice c cn cc) := Xc_65.cell 1
          have cXd0_72 : _ = some (Value.bool (decide (zd < 0))) := Xd_66.cell 0
          have cXd1_72 : _ = some (Value.slice d dn dc) := Xd_66.cell 1
          have Xf_73 := hbx
          have cXf0_73 : _ = some (Value.bool false) := Xf_73.cell 0
          have cXf1_73 : _ = some (Value.slice f fn fc) := Xf_73.cell 1
          clear hbx hbB
          go_wp2_with fail
          generalize (w11.alloc (.cells #[Value.bool false, Value.slice f fn fc] 25)) = v12 at *
          clear hDe hDz hd1 hd2 hd3 hd hU hY hT2 hK hzi
          go_wp2_with fail
          obtain ⟨z5, hzz⟩ : ∃ z, zv false (val (lm zd.natAbs)) = z := ⟨_, rfl⟩
          have Hz5 := hid hzz
          clear hzz
          obtain ⟨z6, hzz⟩ : ∃ z, zv false (val (la)) = z := ⟨_, rfl⟩
          have Hz6 := hid hzz
          clear hzz
          have HE7 := hid (show decide (z5 = z6) = true from decide_eq_true (by have h1 := zv_abs (decide (zd < 0)) (val (lm zd.natAbs)); have h2 := zv_abs sa (val la); rw [zvlm] at h1; rw [HXa.out] at h2; have h3 := Hz5.out; have h4 := Hz6.out; have h5 := HZD.out; unfold zv at h3 h4; simp at h3 h4; omega))
          have HE8 := hid (show sgn zd = sd from (by exact HSD.out))
          go_wp2_with fail
          have KXa0_0 : _ = some (Value.bool sa) := Xa_63.cell 0
          have KXa1_0 : _ = some (Value.slice a na ca) := Xa_63.cell 1
          have KXb0_0 : _ = some (Value.bool (decide (za < 0))) := Xb_64.cell 0
          have KXb1_0 : _ = some (Value.slice b bn bc) := Xb_64.cell 1
          have KXc0_0 : _ = some (Value.bool (decide (za < 0))) := Xc_65.cell 0
          have KXc1_0 : _ = some (Value.slice c cn cc) := Xc_65.cell 1
          have KXd0_0 : _ = some (Value.bool (decide (zd < 0))) := Xd_66.cell 0
          have KXd1_0 : _ = some (Value.slice d dn dc) := Xd_66.cell 1
          have Xa_h0 := Xa_63
          have Xb_h0 := Xb_64
          have Xc_h0 := Xc_65
          have Xd_h0 := Xd_66
          have acc0 : Below v12.heap.size v12 v12 := Below.refl _ _
          go_region_held3 (fun w' => w'.cell? ⟨w.heap.size, 0, none⟩ = some (Value.bool sa) ∧ w'.cell? ⟨w.heap.size, 1, none⟩ = some (Value.slice a na ca) ∧ w'.cell? ⟨w5.heap.size, 0, none⟩ = some (Value.bool (decide (za < 0))) ∧ w'.cell? ⟨w5.heap.size, 1, none⟩ = some (Value.slice b bn bc) ∧ w'.cell? ⟨w7.heap.size, 0, none⟩ = some (Value.bool (decide (za < 0))) ∧ w'.cell? ⟨w7.heap.size, 1, none⟩ = some (Value.slice c cn cc) ∧ w'.cell? ⟨w9.heap.size, 0, none⟩ = some (Value.bool (decide (zd < 0))) ∧ w'.cell? ⟨w9.heap.size, 1, none⟩ = some (Value.slice d dn dc))
            (first | exact ⟨KXa0_0, KXa1_0, KXb0_0, KXb1_0, KXc0_0, KXc1_0, KXd0_0, KXd1_0⟩ | exact ⟨KXa0_1, KXa1_1, KXb0_1, KXb1_1, KXc0_1, KXc1_1, KXd0_1, KXd1_1⟩ | exact ⟨KXa0_2, KXa1_2, KXb0_2, KXb1_2, KXc0_2, KXc1_2, KXd0_2, KXd1_2⟩ | exact ⟨KXa0_3, KXa1_3, KXb0_3, KXb1_3, KXc0_3, KXc1_3, KXd0_3, KXd1_3⟩ | exact ⟨KXa0_4, KXa1_4, KXb0_4, KXb1_4, KXc0_4, KXc1_4, KXd0_4, KXd1_4⟩ | exact ⟨KXa0_5, KXa1_5, KXb0_5, KXb1_5, KXc0_5, KXc1_5, KXd0_5, KXd1_5⟩ | exact ⟨KXa0_6, KXa1_6, KXb0_6, KXb1_6, KXc0_6, KXc1_6, KXd0_6, KXd1_6⟩ | go_keep)
            (first
              | (go_at_call 30; ((with_reducible refine (zequalE (show Rd _ a na ca la from Ra_67.below (by first | exact acc0 | exact (acc0).drew)) (show na ≤ 4194304 by omega) (show Rd _ b bn bc (lm za.natAbs) from (Ob_68.below (by first | exact acc0 | exact (acc0).drew)).rd) (show bn ≤ 4194304 by omega) HXa.out (zvlm za)).mono ?_); (rintro e w13 ⟨rfl, hB⟩; have hst1 : Below v12.heap.size v12 w13 := (by first | exact hB | exact below_drew hB); have acc1 := acc0.next hst1; have Xa_h1 := Xa_h0.next hst1; have Xb_h1 := Xb_h0.next hst1; have Xc_h1 := Xc_h0.next hst1; have Xd_h1 := Xd_h0.next hst1; have KXa0_1 : _ = some (Value.bool sa) := Xa_h1.cell 0; have KXa1_1 : _ = some (Value.slice a na ca) := Xa_h1.cell 1; have KXb0_1 : _ = some (Value.bool (decide (za < 0))) := Xb_h1.cell 0; have KXb1_1 : _ = some (Value.slice b bn bc) := Xb_h1.cell 1; have KXc0_1 : _ = some (Value.bool (decide (za < 0))) := Xc_h1.cell 0; have KXc1_1 : _ = some (Value.slice c cn cc) := Xc_h1.cell 1; have KXd0_1 : _ = some (Value.bool (decide (zd < 0))) := Xd_h1.cell 0; have KXd1_1 : _ = some (Value.slice d dn dc) := Xd_h1.cell 1)))
              | (go_at_call 30; ((with_reducible refine (zequalE (show Rd _ a na ca la from Ra_67.below (by first | exact acc1 | exact (acc1).drew)) (show na ≤ 4194304 by omega) (show Rd _ c cn cc (lm za.natAbs) from (Oc_69.below (by first | exact acc1 | exact (acc1).drew)).rd) (show cn ≤ 4194304 by omega) HXa.out (zvlm za)).mono ?_); (rintro e w14 ⟨rfl, hB⟩; have hst2 : Below w13.heap.size w13 w14 := (by first | exact hB | exact below_drew hB); have acc2 := acc1.next hst2; have Xa_h2 := Xa_h1.next hst2; have Xb_h2 := Xb_h1.next hst2; have Xc_h2 := Xc_h1.next hst2; have Xd_h2 := Xd_h1.next hst2; have KXa0_2 : _ = some (Value.bool sa) := Xa_h2.cell 0; have KXa1_2 : _ = some (Value.slice a na ca) := Xa_h2.cell 1; have KXb0_2 : _ = some (Value.bool (decide (za < 0))) := Xb_h2.cell 0; have KXb1_2 : _ = some (Value.slice b bn bc) := Xb_h2.cell 1; have KXc0_2 : _ = some (Value.bool (decide (za < 0))) := Xc_h2.cell 0; have KXc1_2 : _ = some (Value.slice c cn cc) := Xc_h2.cell 1; have KXd0_2 : _ = some (Value.bool (decide (zd < 0))) := Xd_h2.cell 0; have KXd1_2 : _ = some (Value.slice d dn dc) := Xd_h2.cell 1)))
              | (go_at_call 36; ((with_reducible refine (zsize_any (decide (zd < 0)) (show Rd _ d dn dc (lm zd.natAbs) from (Od_70.below (by first | exact acc2 | exact (acc2).drew)).rd) (by omega)).mono ?_); (rintro e w15 ⟨rfl, hB⟩; have hst3 : Below w14.heap.size w14 w15 := (by first | exact hB | exact below_drew hB); have acc3 := acc2.next hst3; have Xa_h3 := Xa_h2.next hst3; have Xb_h3 := Xb_h2.next hst3; have Xc_h3 := Xc_h2.next hst3; have Xd_h3 := Xd_h2.next hst3; have KXa0_3 : _ = some (Value.bool sa) := Xa_h3.cell 0; have KXa1_3 : _ = some (Value.slice a na ca) := Xa_h3.cell 1; have KXb0_3 : _ = some (Value.bool (decide (za < 0))) := Xb_h3.cell 0; have KXb1_3 : _ = some (Value.slice b bn bc) := Xb_h3.cell 1; have KXc0_3 : _ = some (Value.bool (decide (za < 0))) := Xc_h3.cell 0; have KXc1_3 : _ = some (Value.slice c cn cc) := Xc_h3.cell 1; have KXd0_3 : _ = some (Value.bool (decide (zd < 0))) := Xd_h3.cell 0; have KXd1_3 : _ = some (Value.slice d dn dc) := Xd_h3.cell 1)))
              | (go_at_call 36; ((with_reducible refine (zsize_any sa (show Rd _ a na ca la from Ra_67.below (by first | exact acc3 | exact (acc3).drew)) (by omega)).mono ?_); (rintro e w16 ⟨rfl, hB⟩; have hst4 : Below w15.heap.size w15 w16 := (by first | exact hB | exact below_drew hB); have acc4 := acc3.next hst4; have Xa_h4 := Xa_h3.next hst4; have Xb_h4 := Xb_h3.next hst4; have Xc_h4 := Xc_h3.next hst4; have Xd_h4 := Xd_h3.next hst4; have KXa0_4 : _ = some (Value.bool sa) := Xa_h4.cell 0; have KXa1_4 : _ = some (Value.slice a na ca) := Xa_h4.cell 1; have KXb0_4 : _ = some (Value.bool (decide (za < 0))) := Xb_h4.cell 0; have KXb1_4 : _ = some (Value.slice b bn bc) := Xb_h4.cell 1; have KXc0_4 : _ = some (Value.bool (decide (za < 0))) := Xc_h4.cell 0; have KXc1_4 : _ = some (Value.slice c cn cc) := Xc_h4.cell 1; have KXd0_4 : _ = some (Value.bool (decide (zd < 0))) := Xd_h4.cell 0; have KXd1_4 : _ = some (Value.slice d dn dc) := Xd_h4.cell 1)))
              | (go_at_call 30; ((with_reducible refine (zequalG (show Rd _ d dn dc (lm zd.natAbs) from (Od_70.below (by first | exact acc4 | exact (acc4).drew)).rd) (show dn ≤ 4194304 by omega) (show Rd _ a na ca la from Ra_67.below (by first | exact acc4 | exact (acc4).drew)) (show na ≤ 4194304 by omega) Hz5.out Hz6.out HE7.out).mono ?_); (rintro e w17 ⟨rfl, hB⟩; have hst5 : Below w16.heap.size w16 w17 := (by first | exact hB | exact below_drew hB); have acc5 := acc4.next hst5; have Xa_h5 := Xa_h4.next hst5; have Xb_h5 := Xb_h4.next hst5; have Xc_h5 := Xc_h4.next hst5; have Xd_h5 := Xd_h4.next hst5; have KXa0_5 : _ = some (Value.bool sa) := Xa_h5.cell 0; have KXa1_5 : _ = some (Value.slice a na ca) := Xa_h5.cell 1; have KXb0_5 : _ = some (Value.bool (decide (za < 0))) := Xb_h5.cell 0; have KXb1_5 : _ = some (Value.slice b bn bc) := Xb_h5.cell 1; have KXc0_5 : _ = some (Value.bool (decide (za < 0))) := Xc_h5.cell 0; have KXc1_5 : _ = some (Value.slice c cn cc) := Xc_h5.cell 1; have KXd0_5 : _ = some (Value.bool (decide (zd < 0))) := Xd_h5.cell 0; have KXd1_5 : _ = some (Value.slice d dn dc) := Xd_h5.cell 1)))
              | (go_at_call 22; ((with_reducible refine (zsignG (show Rd _ d dn dc (lm zd.natAbs) from (Od_70.below (by first | exact acc5 | exact (acc5).drew)).rd) (show dn ≤ 4194304 by omega) (zvlm zd) HE8.out).mono ?_); (rintro e w18 ⟨rfl, hB⟩; have hst6 : Below w17.heap.size w17 w18 := (by first | exact hB | exact below_drew hB); have acc6 := acc5.next hst6; have Xa_h6 := Xa_h5.next hst6; have Xb_h6 := Xb_h5.next hst6; have Xc_h6 := Xc_h5.next hst6; have Xd_h6 := Xd_h5.next hst6; have KXa0_6 : _ = some (Value.bool sa) := Xa_h6.cell 0; have KXa1_6 : _ = some (Value.slice a na ca) := Xa_h6.cell 1; have KXb0_6 : _ = some (Value.bool (decide (za < 0))) := Xb_h6.cell 0; have KXb1_6 : _ = some (Value.slice b bn bc) := Xb_h6.cell 1; have KXc0_6 : _ = some (Value.bool (decide (za < 0))) := Xc_h6.cell 0; have KXc1_6 : _ = some (Value.slice c cn cc) := Xc_h6.cell 1; have KXd0_6 : _ = some (Value.bool (decide (zd < 0))) := Xd_h6.cell 0; have KXd1_6 : _ = some (Value.slice d dn dc) := Xd_h6.cell 1))))
          clear cXa0_72 cXa1_72 cXb0_72 cXb1_72 cXc0_72 cXc1_72 cXd0_72 cXd1_72 cXf0_73 cXf1_73
          have hstep : Below v12.heap.size v12 w18 := (by first | exact acc6 | exact below_drew acc6)
          have Xa_74 := Xa_63.next hstep
          have Xb_75 := Xb_64.next hstep
          have Xc_76 := Xc_65.next hstep
          have Xd_77 := Xd_66.next hstep
          have Xf_78 := Xf_73.next hstep
          have Ra_79 := Ra_67.below hstep
          have Ob_80 := Ob_68.below hstep
          have Oc_81 := Oc_69.below hstep
          have Od_82 := Od_70.below hstep
          have Of_83 := Of_71.below hstep
          have hbel84 := hbel72.next hstep
          have hle84 := hbel84.size
          have hls84 := hstep.size
          clear Xa_63 Xb_64 Xc_65 Xd_66 Xf_73 Ra_67 Ob_68 Oc_69 Od_70 Of_71 hbel72 hstep
          have cXa0_84 : _ = some (Value.bool sa) := Xa_74.cell 0
          have cXa1_84 : _ = some (Value.slice a na ca) := Xa_74.cell 1
          have cXb0_84 : _ = some (Value.bool (decide (za < 0))) := Xb_75.cell 0
          have cXb1_84 : _ = some (Value.slice b bn bc) := Xb_75.cell 1
          have cXc0_84 : _ = some (Value.bool (decide (za < 0))) := Xc_76.cell 0
          have cXc1_84 : _ = some (Value.slice c cn cc) := Xc_76.cell 1
          have cXd0_84 : _ = some (Value.bool (decide (zd < 0))) := Xd_77.cell 0
          have cXd1_84 : _ = some (Value.slice d dn dc) := Xd_77.cell 1
          have cXf0_84 : _ = some (Value.bool false) := Xf_78.cell 0
          have cXf1_84 : _ = some (Value.slice f fn fc) := Xf_78.cell 1
          clear acc0 acc1 acc2 acc3 acc4 acc5 acc6 hst1 hst2 hst3 hst4 hst5 hst6 KXa0_0 KXa1_0 KXb0_0 KXb1_0 KXc0_0 KXc1_0 KXd0_0 KXd1_0 KXa0_1 KXa1_1 KXb0_1 KXb1_1 KXc0_1 KXc1_1 KXd0_1 KXd1_1 KXa0_2 KXa1_2 KXb0_2 KXb1_2 KXc0_2 KXc1_2 KXd0_2 KXd1_2 KXa0_3 KXa1_3 KXb0_3 KXb1_3 KXc0_3 KXc1_3 KXd0_3 KXd1_3 KXa0_4 KXa1_4 KXb0_4 KXb1_4 KXc0_4 KXc1_4 KXd0_4 KXd1_4 KXa0_5 KXa1_5 KXb0_5 KXb1_5 KXc0_5 KXc1_5 KXd0_5 KXd1_5 KXa0_6 KXa1_6 KXb0_6 KXb1_6 KXc0_6 KXc1_6 KXd0_6 KXd1_6 Xa_h0 Xa_h1 Xa_h2 Xa_h3 Xa_h4 Xa_h5 Xa_h6 Xb_h0 Xb_h1 Xb_h2 Xb_h3 Xb_h4 Xb_h5 Xb_h6 Xc_h0 Xc_h1 Xc_h2 Xc_h3 Xc_h4 Xc_h5 Xc_h6 Xd_h0 Xd_h1 Xd_h2 Xd_h3 Xd_h4 Xd_h5 Xd_h6
          go_wp2
          go_ret
          exact ⟨rfl, hbel84⟩

end Go.Proofs.Ytflmdcmlhpifeaa

/- WALKS OF DECIMALS, 11: the digits that come again, by the program. -/
import Derived.Test.YtnpkmlpmeeidbaaREc
import Derived.BigQuiet
namespace Go.Proofs.Ytnpkmlpmeeidbaa
set_option linter.unusedVariables false
set_option linter.unusedSimpArgs false
open Go.ChangeShapes Go.WideShapes Go.ChangeAt Go.RowKit Go.NatP

/-- bytes out of the middle of a row, as a text -/
theorem ownB_piece {B : Nat} {w : World} {g n c : Nat} {l : List Nat} (hO : OwnB B w (some ⟨g, 0, none⟩) n c l) (o k cap : Nat) (h : o + k ≤ n) :
    (convert 176 9 (.slice (some ⟨g, o, none⟩) k cap)).run Try.prog w = .ok (.string (txt ((l.drop o).take k))) w := by
  refine run_convert_bytes_arg w 176 5 Try.underlying176 Try.underlying5 g o k cap _ (by simp [hO.1]; omega) (fun i hi => ?_) 9 Try.underlying9
  have hl := hO.1
  rw [hO.cell (show o + i < n by omega)]
  congr 2
  have h1 : o + i < l.length := by omega
  simp [List.getD_eq_getElem?_getD, List.getElem?_take, List.getElem?_drop, hi, List.getElem?_eq_getElem h1]
theorem nil_piece {w : World} (k cap : Nat) : (convert 176 9 (.slice none k cap)).run Try.prog w = .ok (.string ByteArray.empty) w :=
  run_convert_bytes_nil w 176 5 Try.underlying176 Try.underlying5 k cap 9 Try.underlying9
/-- append of one byte; where the row then lies -/
theorem wpList_appB2 {w : World} {ops : Array Oper} {rest : List Oper} {o : Oper} {A : Act} {Q : Exit → Act → World → Prop} {B : Nat} {sa : Option Addr} {n c y : Nat} {l : List Nat} (hgd : o.guard = none) (s x : Operand)
    (ho : o.op = .call { callee := .builtin .append, args := #[s, x], argTypes := #[176, 176] })
    (hs : A.eval s = .slice sa n c) (hO : OwnB B w sa n c l) (g d : Nat) (hx : A.eval x = .slice (some ⟨g, 0, none⟩) 1 d)
    (hyl : y < 256) (hy : w.cell? ⟨g, 0, none⟩ = some (.int .u8 (y : Int))) (hB : B ≤ w.heap.size) (hn : n + 1 ≤ 1073741824)
    (h : ∀ a' c' w', OwnB B w' a' (n + 1) c' (l ++ [y]) → Kp (fun k => sa = some ⟨k, 0, none⟩) w w' → (a' = sa ∨ ∀ g, a' = some ⟨g, 0, none⟩ → w.heap.size ≤ g) → wpList Try.prog ops Q rest (A.put o.dst (.slice a' (n + 1) c')) w') :
    wpList Try.prog ops Q (o :: rest) A w := by
  obtain ⟨a', c', w', hr, hown, hk, hwh⟩ := row_append (w := w) 176 o.type Try.underlying176 infoU8 rfl (by decide) hO.2.2 ⟨g, 0, none⟩ 1 d (news := [Value.int .u8 (y : Int)]) rfl
    (fun j v hv => by
      have hj : j = 0 := by have := (List.getElem?_eq_some_iff.1 hv).1; simpa using this
      subst hj
      cases hv
      exact hy) (fun v hv => by rw [List.mem_singleton.1 hv]; rfl) hB hn
  refine wpList_plain hgd fun K hK => ?_
  unfold Oper.wp execOp
  simp only [ho, resolve, invoke, builtin, Sem.run_bind, Sem.run_pure, Result.andThen_ok, List.map_toArray, List.map_cons, List.map_nil, hs, hx, hr]
  refine hK _ _ (h a' c' w' ⟨by rw [List.length_append, hO.1]; rfl, fun z hz => ?_, ?_⟩ hk (hwh.imp id fun h => h.1))
  · rcases List.mem_append.1 hz with hz | hz
    · exact hO.2.1 z hz
    · rw [List.mem_singleton.1 hz]; exact hyl
  · have : encB (l ++ [y]) = encB l ++ [Value.int .u8 (y : Int)] := by simp [encB]
    rw [this]; exact hown
/-- two texts and an error -/
def RetSSE (w : World) (s t : ByteArray) (er : Int) (e : Ending) (w' : World) : Prop := e = .returned (.tuple #[.string s, .string t, .int .i64 er]) ∧ Below w.heap.size w w'
/-- the digits ahead of those that come again, and these -/
def peA (n d : Nat) : Option (Nat × Nat) → ByteArray
  | some (A, _) => txt (dgs n d A)
  | none => ⟨#[]⟩
def peB (n d : Nat) : Option (Nat × Nat) → ByteArray
  | some (A, K) => txt ((dgs n d K).drop A)
  | none => ⟨#[]⟩
def peE : Option (Nat × Nat) → Int
  | some _ => 0
  | none => 4
theorem dgs_take {n d K A : Nat} (h : A ≤ K) : (dgs n d K).take A = dgs n d A := by
  unfold dgs
  rw [← List.map_take, List.take_range, Nat.min_eq_left h]
theorem dgs_lt {n d : Nat} (hd : 0 < d) (k : Nat) : ∀ x ∈ dgs n d k, x < 256 := fun x hx => by
  unfold dgs at hx
  rw [List.mem_map] at hx
  obtain ⟨t, _, rfl⟩ := hx
  have := dgt_lt (n := n) hd t
  omega
theorem pe_fst {n d A K : Nat} (h : A ≤ K) : txt (((dgs n d K).drop 0).take A) = txt (dgs n d A) := by rw [List.drop_zero, dgs_take h]
theorem pe_snd {n d A K : Nat} (h : A ≤ K) : txt (((dgs n d K).drop A).take (K - A)) = txt ((dgs n d K).drop A) := by rw [List.take_of_length_le (by rw [List.length_drop, dgs_len]; exact Nat.le_refl _)]
theorem nuintR {W : World} {a : Option Addr} {n c u j : Nat} (ha : RdN j W a n c u) (hu : u < 10) : Calls Try.prog 131 #[.slice a n c] W (fun e w' => e = .returned (.tuple #[.int .u64 (u : Int), .bool true]) ∧ Below W.heap.size W w') := by
  obtain ⟨la, ha, rfl, hn⟩ := ha
  have h := uint_any ha
  unfold RetUint at h
  have h2 : val la < two64 := Nat.lt_trans hu (by decide)
  rwa [numD_uv h2, decide_eq_true h2] at h
theorem cmp_eq {a b : Nat} : cmpI a b = 0 ↔ a = b := by unfold cmpI; split <;> (try split) <;> omega
/-- what must hold of the place where the walk stands -/
structure PAt (n d most ah i : Nat) (R : Option (Nat × Nat)) : Prop where
  le : i ≤ most
  som : ∀ A K, R = some (A, K) → A = ah ∧ i ≤ K ∧ A ≤ K
  fresh : (∀ A K, R = some (A, K) → i < K) → Fresh n d i
theorem pat_of {n d most i : Nat} {R : Option (Nat × Nat)} (hc : Nat.Coprime n d) (h : PerIs n d most R) (hi : i ≤ most) (hK : ∀ A K, R = some (A, K) → i ≤ K) : PAt n d most (max (outN 2 (most + 1) d).2 (outN 5 (most + 1) d).2) i R := by
  refine ⟨hi, fun A K e => ?_, fun hf => ?_⟩
  · subst e
    have h1 := per_ahead hc h
    refine ⟨h1.symm, hK A K rfl, ?_⟩
    rcases h.2.2 with ⟨h2, _⟩ | ⟨h2, _⟩ <;> omega
  · cases R with
    | none => exact h i hi
    | some p => obtain ⟨A, K⟩ := p; exact h.2.1 i (hf A K rfl)

set_option maxRecDepth 100000 in
set_option maxHeartbeats 16000000 in
theorem dper {w : World} {a1 b1 : Option Addr} {n1 c1 m1 d1 : Nat} {s : Bool} {x : Rat} {J : Nat} (hx : RdQ J w s a1 n1 c1 b1 m1 d1 x) (hJ : J ≤ 1000000) (most : Nat) (hm : most ≤ 4096) {R : Option (Nat × Nat)} (hR : PerIs x.num.natAbs x.den most R) :
    Calls Try.prog 66 #[.agg #[.bool s, .slice a1 n1 c1, .slice b1 m1 d1], .int .i64 most] w (RetSSE w (peA x.num.natAbs x.den R) (peB x.num.natAbs x.den R) (peE R)) := by
  obtain ⟨s0, hs0⟩ : ∃ s, decide (x.num < 0) = s := ⟨_, rfl⟩
  have hco := x.reduced
  obtain ⟨v, hv0⟩ : ∃ v, x.num.natAbs = v := ⟨_, rfl⟩
  obtain ⟨d, hd0⟩ : ∃ d, x.den = d := ⟨_, rfl⟩
  have hdz : d ≠ 0 := by rw [← hd0]; exact x.den_nz
  have hqs := (hx.mono (Nat.le_succ J)).qs (by omega)
  obtain ⟨sv, sd⟩ := hqs
  rw [hv0] at sv
  rw [hd0] at sd
  have HP := hid (fun W (h : Below w.heap.size w W) => dparts (hx.below h) hJ)
  rw [hs0, hv0, hd0] at HP
  rw [hv0, hd0] at hR hco ⊢
  clear hs0 hv0 hd0 hx
  obtain ⟨K, hK1, hK2⟩ : ∃ K, J + 8300 ≤ K ∧ K ≤ 1100000 := ⟨J + 8300, Nat.le_refl _, by omega⟩
  have hsv := hid (sv.mono (Nat.le_refl _) (show J.succ ≤ K by omega))
  have hsd := hid (sd.mono (Nat.le_refl _) (show J.succ ≤ K by omega))
  have hdp : 0 < d := Nat.pos_of_ne_zero hdz
  have hsr := hid (fun i => (show Sz (rst v d i) K from (sd.mono (Nat.le_of_lt (rst_lt hdp i)) (Nat.le_refl _)).mono (Nat.le_refl _) (show J.succ ≤ K by omega)))
  have hsr10 := hid (fun i => (show Sz (rst v d i * 10) K from ((sd.mono (Nat.le_of_lt (rst_lt hdp i)) (Nat.le_refl _)).mul (show Sz 10 1 from by show 10 < 4294967296 ^ 1; omega)).mono (Nat.le_refl _) (show J.succ + 1 ≤ K by omega)))
  have s2 := hid (show Sz 2 1 from by show 2 < 4294967296 ^ 1; omega)
  have s5 := hid (show Sz 5 1 from by show 5 < 4294967296 ^ 1; omega)
  have s10 := hid (show Sz 10 1 from by show 10 < 4294967296 ^ 1; omega)
  have hdt := hid (fun i => dgt_lt (n := v) hdp i)
  have hPat := hid (fun i hi hK => pat_of (i := i) hco hR hi hK)
  have hRh := hid hR
  have hdh := hid hdz
  have hdph := hid hdp
  have b2 := (outN_spec 2 (most + 1) d).2.1
  have b5 := (outN_spec 5 (most + 1) d).2.1
  have HO2 := hid (fun (W : World) {a b : Option Addr} {n c m d' : Nat} (h : RdN K W a n c d) (h' : RdN 1 W b m d' 2) => dout h (by omega) h' (by decide) (show most ≤ 1000000 by omega))
  have HO5 := hid (fun (W : World) {a b : Option Addr} {n c m d' : Nat} (h : RdN K W a n c d) (h' : RdN 1 W b m d' 5) => dout h (by omega) h' (by decide) (show most ≤ 1000000 by omega))
  unfold RetOut at HO2 HO5
  obtain ⟨t2, ht2⟩ : ∃ t, (outN 2 (most + 1) d).2 = t := ⟨_, rfl⟩
  obtain ⟨t5, ht5⟩ : ∃ t, (outN 5 (most + 1) d).2 = t := ⟨_, rfl⟩
  rw [ht2] at HO2 b2 hPat
  rw [ht5] at HO5 b5 hPat
  obtain ⟨ah, hah⟩ : ∃ y : Nat, max t2 t5 = y := ⟨_, rfl⟩
  rw [hah] at hPat
  have hmax : max (t2 : Int) (t5 : Int) = (ah : Int) := by omega
  have hahb : ah ≤ most + 1 := by omega
  clear sv sd hco hR hdz hdp ht2 ht5 hah
  have hent := ent1 w #[Value.bool s, Value.slice a1 n1 c1, Value.slice b1 m1 d1] 29
  go_enter Try.func66, Try.ntmps66
  go_wp2_with fail
  generalize (w.alloc (.cells #[Value.bool s, Value.slice a1 n1 c1, Value.slice b1 m1 d1] 29)) = W0 at hent ⊢
  obtain ⟨X_0, hbel_0, hsz_0⟩ := hent
  have cX_0_0 : _ = some (Value.bool s) := X_0.cell 0
  have cX_0_1 : _ = some (Value.slice a1 n1 c1) := X_0.cell 1
  have cX_0_2 : _ = some (Value.slice b1 m1 d1) := X_0.cell 2
  go_wp2_with fail
  refine (HP.out _ hbel_0).mono ?_
  rintro e w1 ⟨na, nn, nc, da, dn, dc, rfl, hO, hO', hB⟩
  have hB_1 : Below W0.heap.size W0 w1 := (bl.next hB)
  have X_1 := X_0.next hB_1
  have cX_1_0 : _ = some (Value.bool s) := X_1.cell 0
  have cX_1_1 : _ = some (Value.slice a1 n1 c1) := X_1.cell 1
  have cX_1_2 : _ = some (Value.slice b1 m1 d1) := X_1.cell 2
  have hbel_1 := hbel_0.next hB_1
  have hsz_1 := hB_1.size
  clear X_0 cX_0_0 cX_0_1 cX_0_2 hbel_0 hB_1
  have V_1 := hO.rdN hsv.out
  have D_1 := hO'.rdN hsd.out
  clear hO hO'
  try clear hB
  go_wp2_with fail
  refine (of_any 2 (by omega) (by omega)).mono ?_
  rintro e w2 ⟨oa, on, oc, rfl, hO, hB⟩
  have hB_2 : Below w1.heap.size w1 w2 := (bl.next hB)
  have X_2 := X_1.next hB_2
  have cX_2_0 : _ = some (Value.bool s) := X_2.cell 0
  have cX_2_1 : _ = some (Value.slice a1 n1 c1) := X_2.cell 1
  have cX_2_2 : _ = some (Value.slice b1 m1 d1) := X_2.cell 2
  have V_2 := V_1.below hB_2
  have D_2 := D_1.below hB_2
  have hbel_2 := hbel_1.next hB_2
  have hsz_2 := hB_2.size
  clear X_1 cX_1_0 cX_1_1 cX_1_2 V_1 D_1 hbel_1 hB_2
  have T2_2 := hO.rdN (v := 2) s2.out
  clear hO
  try clear hB
  go_wp2_with fail
  refine (HO2.out _ D_2 T2_2).mono ?_
  rintro e w3 ⟨xa, xn, xc, rfl, hA, hB⟩
  have hB_3 : Below w2.heap.size w2 w3 := (bl.next hB)
  have X_3 := X_2.next hB_3
  have cX_3_0 : _ = some (Value.bool s) := X_3.cell 0
  have cX_3_1 : _ = some (Value.slice a1 n1 c1) := X_3.cell 1
  have cX_3_2 : _ = some (Value.slice b1 m1 d1) := X_3.cell 2
  have V_3 := V_2.below hB_3
  have D_3 := D_2.below hB_3
  have T2_3 := T2_2.below hB_3
  have hbel_3 := hbel_2.next hB_3
  have hsz_3 := hB_3.size
  clear X_2 cX_2_0 cX_2_1 cX_2_2 V_2 D_2 T2_2 hbel_2 hB_3
  clear hA
  try clear hB
  go_wp2_with fail
  refine (of_any 5 (by omega) (by omega)).mono ?_
  rintro e w4 ⟨pa, pn, pc, rfl, hO, hB⟩
  have hB_4 : Below w3.heap.size w3 w4 := (bl.next hB)
  have X_4 := X_3.next hB_4
  have cX_4_0 : _ = some (Value.bool s) := X_4.cell 0
  have cX_4_1 : _ = some (Value.slice a1 n1 c1) := X_4.cell 1
  have cX_4_2 : _ = some (Value.slice b1 m1 d1) := X_4.cell 2
  have V_4 := V_3.below hB_4
  have D_4 := D_3.below hB_4
  have T2_4 := T2_3.below hB_4
  have hbel_4 := hbel_3.next hB_4
  have hsz_4 := hB_4.size
  clear X_3 cX_3_0 cX_3_1 cX_3_2 V_3 D_3 T2_3 hbel_3 hB_4
  have T5_4 := hO.rdN (v := 5) s5.out
  clear hO
  try clear hB
  go_wp2_with fail
  refine (HO5.out _ D_4 T5_4).mono ?_
  rintro e w5 ⟨ya, yn, yc, rfl, hA, hB⟩
  have hB_5 : Below w4.heap.size w4 w5 := (bl.next hB)
  have X_5 := X_4.next hB_5
  have cX_5_0 : _ = some (Value.bool s) := X_5.cell 0
  have cX_5_1 : _ = some (Value.slice a1 n1 c1) := X_5.cell 1
  have cX_5_2 : _ = some (Value.slice b1 m1 d1) := X_5.cell 2
  have V_5 := V_4.below hB_5
  have D_5 := D_4.below hB_5
  have T2_5 := T2_4.below hB_5
  have T5_5 := T5_4.below hB_5
  have hbel_5 := hbel_4.next hB_5
  have hsz_5 := hB_5.size
  clear X_4 cX_4_0 cX_4_1 cX_4_2 V_4 D_4 T2_4 T5_4 hbel_4 hB_5
  clear hA
  try clear hB
  clear T2_5
  clear T5_5
  go_wp2_with fail
  refine (ndivR V_5 D_5 (by omega) (by omega) hdh.out).mono ?_
  rw [show v % d = rst v d 0 from rfl]
  rintro e w6 ⟨qa, qn, qc, ra, rn, rc, rfl, hO, hO', hD9, hB⟩
  have hB_6 : Below w5.heap.size w5 w6 := (bl.next hB)
  have X_6 := X_5.next hB_6
  have cX_6_0 : _ = some (Value.bool s) := X_6.cell 0
  have cX_6_1 : _ = some (Value.slice a1 n1 c1) := X_6.cell 1
  have cX_6_2 : _ = some (Value.slice b1 m1 d1) := X_6.cell 2
  have V_6 := V_5.below hB_6
  have D_6 := D_5.below hB_6
  have hbel_6 := hbel_5.next hB_6
  have hsz_6 := hB_6.size
  clear X_5 cX_5_0 cX_5_1 cX_5_2 V_5 D_5 hbel_5 hB_6
  have R0_6 := hO'.mono (Nat.zero_le _)
  have hrl0 := hid hO'.len
  clear hO hO' hD9
  try clear hB
  clear V_6
  have hbW_6 : Below w6.heap.size w6 w6 := Below.refl _ _
  clear HP HO2 HO5 hsv s2 s5 b2 b5
  go_wp2
  go_loopw [16, 18, 19, 20] (fun rv bv fv iv wr => ∃ (i n c : Nat) (a ra fa : Option Addr) (rn rc fn fc : Nat), iv = .int .i64 i ∧ bv = .slice a n c ∧ rv = .slice ra rn rc ∧ fv = .slice fa fn fc ∧ n = i ∧ Hid (PAt v d most ah i R) ∧ i ≤ most ∧ OwnB w6.heap.size wr a n c (dgs v d i) ∧ Own 0 wr ra rn rc (lm (rst v d i)) ∧ Diff a ra ∧ Hid ((lm (rst v d i)).length = rn) ∧ (ah < i → Own 0 wr fa fn fc (lm (rst v d ah)) ∧ Diff a fa) ∧ Below w6.heap.size w6 wr) (fun _ _ _ iv _ => most + 1 - (intOf iv).toNat)
  case atStart => exact ⟨0, 0, 0, none, ra, none, rn, rc, 0, 0, rfl, rfl, rfl, rfl, rfl, hPat.out 0 (by omega) (fun A K e => Nat.zero_le _), by omega, ownB_nil _ _, R0_6, (fun g e => by cases e), hrl0, fun h => absurd h (Nat.not_lt_zero _), Below.refl _ _⟩
  case round =>
    clear R0_6 hrl0
    obtain ⟨i, n, c, a, ra, fa, rn, rc, fn, fc, rfl, rfl, rfl, rfl, hni, hAt, him, hOB, hR9, hd9, hrl, hfst, hBr⟩ := hrel
    subst hni
    have hB_7 : Below w6.heap.size w6 wr := hBr
    have X_7 := X_6.next hB_7
    have cX_7_0 : _ = some (Value.bool s) := X_7.cell 0
    have cX_7_1 : _ = some (Value.slice a1 n1 c1) := X_7.cell 1
    have cX_7_2 : _ = some (Value.slice b1 m1 d1) := X_7.cell 2
    have D_7 := D_6.below hB_7
    have hbW_7 := hbW_6.next hB_7
    have hbel_7 := hbel_6.next hB_7
    have hsz_7 := hB_7.size
    clear X_6 cX_6_0 cX_6_1 cX_6_2 D_6 hbW_6 hbel_6 hB_7
    clear hBr
    have hbB := hOB.bnd
    by_cases hend : ∃ A, R = some (A, n)
    · skip
      obtain ⟨A, hA⟩ := hend
      subst hA
      have hA1 := (hAt.out.som A n rfl).1
      have hA2 := (hAt.out.som A n rfl).2.2
      subst hA1
      have hcase := hRh.out.2.2
      have hpA := hid (show peA v d (some (A, n)) = txt (dgs v d A) from rfl)
      have hpB := hid (show peB v d (some (A, n)) = txt ((dgs v d n).drop A) from rfl)
      have hpf := hid (pe_fst (n := v) (d := d) hA2)
      have hps := hid (pe_snd (n := v) (d := d) hA2)
      rcases hcase with ⟨hlt, he, hne⟩ | ⟨rfl, hz⟩
      · skip
        have hF := (hfst hlt).1.rdN (hsr.out A)
        have hR8 := hR9.rdN (hsr.out n)
        have hcm := hid (show cmpI (rst v d n) (rst v d A) = 0 from cmp_eq.2 he.symm)
        rcases hOB.cases with ⟨_, h9, _⟩ | ⟨g, hag, _⟩
        · omega
        subst hag
        have hOBh := hid hOB
        clear hOB he hne
        clear hfst hPat hsr hsr10 hdt hAt hRh
        go_wp2_with fail
        refine (ncmpR hR8 hF).mono ?_
        rw [hcm.out]
        rintro e wz ⟨rfl, hB⟩
        have hOB9 := hOBh.out.below hB
        have hB_8 : Below wr.heap.size wr wz := (bl.next hB)
        have X_8 := X_7.next hB_8
        have cX_8_0 : _ = some (Value.bool s) := X_8.cell 0
        have cX_8_1 : _ = some (Value.slice a1 n1 c1) := X_8.cell 1
        have cX_8_2 : _ = some (Value.slice b1 m1 d1) := X_8.cell 2
        have D_8 := D_7.below hB_8
        have hbW_8 := hbW_7.next hB_8
        have hbel_8 := hbel_7.next hB_8
        have hsz_8 := hB_8.size
        clear X_7 cX_7_0 cX_7_1 cX_7_2 D_7 hbW_7 hbel_7 hB_8
        have hc1 : ∀ q : Nat, (convert 176 9 (.slice (some ⟨g, 0, none⟩) A c)).run Try.prog (wz.drewN q) = .ok (.string (txt (dgs v d A))) (wz.drewN q) := fun q => by have h := ownB_piece (hOB9.drewN q) 0 A c (by omega); rwa [hpf.out] at h
        have hc2 : ∀ q : Nat, (convert 176 9 (.slice (some ⟨g, A, none⟩) (n - A) (c - A))).run Try.prog (wz.drewN q) = .ok (.string (txt ((dgs v d n).drop A))) (wz.drewN q) := fun q => by have h := ownB_piece (hOB9.drewN q) A (n - A) (c - A) (by omega); rwa [hps.out] at h
        generalize txt (dgs v d A) = TA at *
        generalize txt ((dgs v d n).drop A) = TB at *
        go_wp2_with fail
        go_quiet (fail)
        go_wp2
        go_ret3
        exact ⟨by rw [hpA.out, hpB.out]; rfl, hbel_8.drewN' _⟩
      · skip
        have hr0 : rn = 0 := by rw [← hrl.out, hz]; rfl
        subst hr0
        clear hz
        clear hfst hPat hsr hsr10 hdt hAt hRh
        rcases hOB.cases with ⟨ha9, hn9, hc9, _⟩ | ⟨g, hag, _⟩
        · subst ha9 hn9 hc9
          have e0 : txt (dgs v d 0) = ByteArray.empty := rfl
          have e1 : txt ((dgs v d 0).drop 0) = ByteArray.empty := rfl
          rw [e0] at hpA
          rw [e1] at hpB
          clear e0 e1 hpf hps
          have hc1 : ∀ q : Nat, (convert 176 9 (.slice none 0 0)).run Try.prog (wr.drewN q) = .ok (.string ByteArray.empty) (wr.drewN q) := fun q => nil_piece 0 0
          go_wp2_with fail
          go_quiet (fail)
          go_wp2
          go_ret3
          exact ⟨by rw [hpA.out, hpB.out]; rfl, hbel_7.drewN' _⟩
        · subst hag
          have hOB9 := hOB
          clear hOB
          rcases (by omega : c = 0 ∧ A = 0 ∨ (c = A ∧ 0 < c) ∨ c ≠ A) with ⟨hcA, hcA2⟩ | ⟨hcA, hcA2⟩ | hcA
          · skip
            have hA9 : (A : Int) ≤ (c : Int) := by omega
            have hcp := hid (show txt ((dgs v d A).drop A) = ByteArray.empty by rw [List.drop_eq_nil_of_le (by rw [dgs_len]; exact Nat.le_refl _)]; rfl)
            subst hcA hcA2
            have e0 : txt (dgs v d 0) = ByteArray.empty := rfl
            have e1 : txt ((dgs v d 0).drop 0) = ByteArray.empty := rfl
            rw [e0] at hpA
            rw [e1] at hpB
            clear e0 e1 hpf hps
            have hc1 : ∀ q : Nat, (convert 176 9 (.slice (some ⟨g, 0, none⟩) 0 0)).run Try.prog (wr.drewN q) = .ok (.string ByteArray.empty) (wr.drewN q) := fun q => by have h := ownB_piece (hOB9.drewN q) 0 0 0 (by omega); exact h
            go_wp2_with fail
            go_quiet (fail)
            go_wp2
            go_ret3
            exact ⟨by rw [hpA.out, hpB.out]; rfl, hbel_7.drewN' _⟩
          · skip
            have hA9 : (A : Int) ≤ (c : Int) := by omega
            have hcp := hid (show txt ((dgs v d A).drop A) = ByteArray.empty by rw [List.drop_eq_nil_of_le (by rw [dgs_len]; exact Nat.le_refl _)]; rfl)
            subst hcA
            have hA9' : c ≠ 0 := by omega
            have hc4 : ∀ q : Nat, (convert 176 9 (.slice (some ⟨g, 0, none⟩) 0 0)).run Try.prog (wr.drewN q) = .ok (.string (txt ((dgs v d c).drop c))) (wr.drewN q) := fun q => by have h := ownB_piece (hOB9.drewN q) 0 0 0 (by omega); rw [hcp.out]; exact h
            have hc1 : ∀ q : Nat, (convert 176 9 (.slice (some ⟨g, 0, none⟩) c c)).run Try.prog (wr.drewN q) = .ok (.string (txt (dgs v d c))) (wr.drewN q) := fun q => by have h := ownB_piece (hOB9.drewN q) 0 c c (by omega); rwa [hpf.out] at h
            have hc2 : ∀ q : Nat, (convert 176 9 (.slice (some ⟨g, c, none⟩) (c - c) (c - c))).run Try.prog (wr.drewN q) = .ok (.string (txt ((dgs v d c).drop c))) (wr.drewN q) := fun q => by have h := ownB_piece (hOB9.drewN q) c (c - c) (c - c) (by omega); rwa [hps.out] at h
            have hc3 : ∀ q : Nat, (convert 176 9 (.slice (some ⟨g, c, none⟩) 0 (c - c))).run Try.prog (wr.drewN q) = .ok (.string (txt ((dgs v d c).drop c))) (wr.drewN q) := fun q => by have h := hc2 q; rwa [Nat.sub_self] at h
            generalize txt (dgs v d c) = TA at *
            generalize txt ((dgs v d c).drop c) = TB at *
            go_wp2_with fail
            go_quiet (fail)
            go_wp2
            go_ret3
            exact ⟨by rw [hpA.out, hpB.out]; rfl, hbel_7.drewN' _⟩
          · skip
            have hA9 : (A : Int) ≤ (c : Int) := by omega
            have hcp := hid (show txt ((dgs v d A).drop A) = ByteArray.empty by rw [List.drop_eq_nil_of_le (by rw [dgs_len]; exact Nat.le_refl _)]; rfl)
            have hA8 : 0 < c - A := by omega
            have hA7 : (A : Int) < (c : Int) := by omega
            have hc1 : ∀ q : Nat, (convert 176 9 (.slice (some ⟨g, 0, none⟩) A c)).run Try.prog (wr.drewN q) = .ok (.string (txt (dgs v d A))) (wr.drewN q) := fun q => by have h := ownB_piece (hOB9.drewN q) 0 A c (by omega); rwa [hpf.out] at h
            have hc2 : ∀ q : Nat, (convert 176 9 (.slice (some ⟨g, A, none⟩) (A - A) (c - A))).run Try.prog (wr.drewN q) = .ok (.string (txt ((dgs v d A).drop A))) (wr.drewN q) := fun q => by have h := ownB_piece (hOB9.drewN q) A (A - A) (c - A) (by omega); rwa [hps.out] at h
            have hc3 : ∀ q : Nat, (convert 176 9 (.slice (some ⟨g, A, none⟩) 0 (c - A))).run Try.prog (wr.drewN q) = .ok (.string (txt ((dgs v d A).drop A))) (wr.drewN q) := fun q => by have h := hc2 q; rwa [Nat.sub_self] at h
            generalize txt (dgs v d A) = TA at *
            generalize txt ((dgs v d A).drop A) = TB at *
            go_wp2_with fail
            go_quiet (fail)
            go_wp2
            go_ret3
            exact ⟨by rw [hpA.out, hpB.out]; rfl, hbel_7.drewN' _⟩
    · skip
      have hfr := hAt.out.fresh (fun A K e => Nat.lt_of_le_of_ne (hAt.out.som A K e).2.1 (fun e2 => hend ⟨A, by rw [e, e2]⟩))
      obtain ⟨hf0, hfj⟩ := hfr
      have hr0 : 0 < rn := by rw [← hrl.out]; exact lm_len_pos.2 (Nat.pos_of_ne_zero hf0)
      have hrb : ((rn : Int) == 0) = false := by simp; omega
      have hKn := hid (fun A K (e : R = some (A, K)) => Nat.lt_of_le_of_ne (hAt.out.som A K e).2.1 (fun e2 => hend ⟨A, by rw [e, e2]⟩))
      have hmn := hid (fun (hn : n = most) => (show R = none from Option.eq_none_iff_forall_ne_some.2 (fun p hp => by obtain ⟨A, K⟩ := p; have h1 := hKn.out A K hp; have h2 := hRh.out; rw [hp] at h2; have h3 := h2.1; omega)))
      have hsr0h := hsr
      have hfjh := hid hfj
      have hf0h := hid hf0
      clear hend hf0 hfj
      rcases Nat.lt_trichotomy n ah with hpos | hpos | hpos
      · skip
        have hfst2 := hid hfst
        clear hfst
        by_cases hmo : n = most
        · skip
          have hRn := hmn.out hmo
          subst hRn
          have hp1 := hid (show peA v d none = ⟨#[]⟩ from rfl)
          have hp2 := hid (show peB v d none = ⟨#[]⟩ from rfl)
          subst hmo
          clear hPat hsr hsr10 hdt hAt hRh hmn hKn
          go_wp2
          go_ret3
          exact ⟨by rw [hp1.out, hp2.out]; rfl, hbel_7⟩
        · skip
          have hmo2 : n < most := by omega
          have hmo3 : ((n : Int) == (most : Int)) = false := by simp; omega
          have OBh := hid hOB
          have R9h := hid hR9
          clear hOB
          have hBc := Below.refl wr.heap.size wr
          have hbC_7 := hBc
          clear hBc
          go_wp2_with fail
          refine (of_any 10 (by omega) (by omega)).mono ?_
          rintro e w8 ⟨oa, on, oc, rfl, hO, hB⟩
          have hB_8 : Below wr.heap.size wr w8 := (bl.next hB)
          have X_8 := X_7.next hB_8
          have cX_8_0 : _ = some (Value.bool s) := X_8.cell 0
          have cX_8_1 : _ = some (Value.slice a1 n1 c1) := X_8.cell 1
          have cX_8_2 : _ = some (Value.slice b1 m1 d1) := X_8.cell 2
          have D_8 := D_7.below hB_8
          have hbW_8 := hbW_7.next hB_8
          have hbC_8 := hbC_7.next hB_8
          have hbel_8 := hbel_7.next hB_8
          have hsz_8 := hB_8.size
          clear X_7 cX_7_0 cX_7_1 cX_7_2 D_7 hbW_7 hbC_7 hbel_7 hB_8
          have T10_8 := hO.rdN (v := 10) s10.out
          clear hO
          try clear hB
          go_wp2_with fail
          refine (nmulR ((R9h.out.below hbC_8).rdN (hsr.out n)) T10_8 (by omega) (by omega)).mono ?_
          rintro e w9 ⟨ma, mn, mc, rfl, hO, hB⟩
          have hB_9 : Below w8.heap.size w8 w9 := (bl.next hB)
          have X_9 := X_8.next hB_9
          have cX_9_0 : _ = some (Value.bool s) := X_9.cell 0
          have cX_9_1 : _ = some (Value.slice a1 n1 c1) := X_9.cell 1
          have cX_9_2 : _ = some (Value.slice b1 m1 d1) := X_9.cell 2
          have D_9 := D_8.below hB_9
          have hbW_9 := hbW_8.next hB_9
          have hbC_9 := hbC_8.next hB_9
          have T10_9 := T10_8.below hB_9
          have hbel_9 := hbel_8.next hB_9
          have hsz_9 := hB_9.size
          clear X_8 cX_8_0 cX_8_1 cX_8_2 D_8 hbW_8 hbC_8 T10_8 hbel_8 hB_9
          have M_9 := hO.rdN (hsr10.out n)
          clear hO
          try clear hB
          go_wp2_with fail
          refine (ndivR M_9 D_9 (by omega) (by omega) hdh.out).mono ?_
          rw [show rst v d n * 10 / d = dgt v d n by unfold dgt; rw [Nat.mul_comm], show rst v d n * 10 % d = rst v d (n + 1) by show _ = 10 * rst v d n % d; rw [Nat.mul_comm]]
          rintro e w10 ⟨qa, qn, qc, ya, yn, yc, rfl, hO, hO', hD9, hB⟩
          have hB_10 : Below w9.heap.size w9 w10 := (bl.next hB)
          have X_10 := X_9.next hB_10
          have cX_10_0 : _ = some (Value.bool s) := X_10.cell 0
          have cX_10_1 : _ = some (Value.slice a1 n1 c1) := X_10.cell 1
          have cX_10_2 : _ = some (Value.slice b1 m1 d1) := X_10.cell 2
          have D_10 := D_9.below hB_10
          have hbW_10 := hbW_9.next hB_10
          have hbC_10 := hbC_9.next hB_10
          have T10_10 := T10_9.below hB_10
          have M_10 := M_9.below hB_10
          have hbel_10 := hbel_9.next hB_10
          have hsz_10 := hB_10.size
          clear X_9 cX_9_0 cX_9_1 cX_9_2 D_9 hbW_9 hbC_9 T10_9 M_9 hbel_9 hB_10
          have hyl := hid hO'.len
          have Q_10 := hO.rdN (v := dgt v d n) (k := 1) (show Sz _ 1 from by have := hdt.out n; show _ < 4294967296 ^ 1; omega)
          have Y_10 := hO'
          clear hO hO' hD9
          try clear hB
          go_wp2_with fail
          refine (nuintR Q_10 (hdt.out n)).mono ?_
          rintro e w11 ⟨rfl, hB⟩
          have hB_11 : Below w10.heap.size w10 w11 := (bl.next hB)
          have X_11 := X_10.next hB_11
          have cX_11_0 : _ = some (Value.bool s) := X_11.cell 0
          have cX_11_1 : _ = some (Value.slice a1 n1 c1) := X_11.cell 1
          have cX_11_2 : _ = some (Value.slice b1 m1 d1) := X_11.cell 2
          have D_11 := D_10.below hB_11
          have hbW_11 := hbW_10.next hB_11
          have hbC_11 := hbC_10.next hB_11
          have T10_11 := T10_10.below hB_11
          have M_11 := M_10.below hB_11
          have Q_11 := Q_10.below hB_11
          have Y_11 := Y_10.below hB_11
          have hbel_11 := hbel_10.next hB_11
          have hsz_11 := hB_11.size
          clear X_10 cX_10_0 cX_10_1 cX_10_2 D_10 hbW_10 hbC_10 T10_10 M_10 Q_10 Y_10 hbel_10 hB_11
          try clear hB
          have hOB := OBh.out.below hbC_11
          have hdn := hdt.out n
          obtain ⟨y, hy⟩ : ∃ y, dgt v d n = y := ⟨_, rfl⟩
          rw [hy] at hdn
          have hds := hid (show dgs v d n ++ [y + 48] = dgs v d (n + 1) by rw [dgs_succ, hy])
          have hyI : (48 : Int) + (y : Int) = ((y + 48 : Nat) : Int) := by omega
          simp only [hy]
          have hsz9 : wr.heap.size ≤ w11.heap.size := hbC_11.size
          have hs8 : w6.heap.size ≤ w11.heap.size := by omega
          have haL := hid (fun g (e : a = some ⟨g, 0, none⟩) => (show g < wr.heap.size from by have h := OBh.out; rw [e] at h; exact h.lt.2))
          have hYb := hid (fun g (e : ya = some ⟨g, 0, none⟩) => (show wr.heap.size ≤ g ∧ g < w11.heap.size from by have h := Y_11.lt' g e; omega))
          have hYO := hid Y_11
          have hRO := hid (R9h.out.below hbC_11)
          have hRl := hid (fun g (e : ra = some ⟨g, 0, none⟩) => (R9h.out.lt' g e).2)
          have hBase := hid hbC_11
          have hV0 := hid (show Below w6.heap.size w6 w11 from hbW_11)
          go_wp2_with (at_builtin; refine wpList_appB2 (y := y + 48) rfl _ _ rfl rfl (hOB.alloc _) _ 1 rfl (by omega) (by go_simp) (by simp; omega) (by omega) ?_; intro a2 c2 w2 hO2 hK2 hwh)
          have hYw := (hYO.out.alloc _).kp hK2 (fun g e hg => by have := haL.out g hg; have := hYb.out g e; omega)
          have hdY : Diff a2 ya := fun g e e2 => by
            have h5 := hYb.out g e2
            rcases hwh with h | h
            · rw [h] at e; have := haL.out g e; omega
            · have h6 := h g e; simp at h6; omega
          go_roundw
          case rel => exact ⟨n + 1, n + 1, c2, a2, ya, fa, yn, yc, fn, fc, by go_num, rfl, rfl, rfl, rfl, hPat.out (n + 1) (by omega) (fun A K e => hKn.out A K e), by omega, by rw [← hds.out]; exact hO2, hYw.mono (Nat.zero_le _), hdY, hyl, fun hlt => absurd hlt (by omega), (hV0.out.alloc hs8 _).kp hK2 (by simp; omega) (ownB_lt hOB)⟩
          case measure => simp [intOf]; omega
      · skip
        subst hpos
        have hfst2 := hid hfst
        clear hfst
        by_cases hmo : n = most
        · skip
          have hRn := hmn.out hmo
          subst hRn
          have hp1 := hid (show peA v d none = ⟨#[]⟩ from rfl)
          have hp2 := hid (show peB v d none = ⟨#[]⟩ from rfl)
          subst hmo
          clear hPat hsr hsr10 hdt hAt hRh hmn hKn
          go_wp2
          go_ret3
          exact ⟨by rw [hp1.out, hp2.out]; rfl, hbel_7⟩
        · skip
          have hmo2 : n < most := by omega
          have hmo3 : ((n : Int) == (most : Int)) = false := by simp; omega
          have OBh := hid hOB
          have R9h := hid hR9
          clear hOB
          have hBc := Below.refl wr.heap.size wr
          have hbC_7 := hBc
          clear hBc
          go_wp2_with fail
          refine (of_any 10 (by omega) (by omega)).mono ?_
          rintro e w8 ⟨oa, on, oc, rfl, hO, hB⟩
          have hB_8 : Below wr.heap.size wr w8 := (bl.next hB)
          have X_8 := X_7.next hB_8
          have cX_8_0 : _ = some (Value.bool s) := X_8.cell 0
          have cX_8_1 : _ = some (Value.slice a1 n1 c1) := X_8.cell 1
          have cX_8_2 : _ = some (Value.slice b1 m1 d1) := X_8.cell 2
          have D_8 := D_7.below hB_8
          have hbW_8 := hbW_7.next hB_8
          have hbC_8 := hbC_7.next hB_8
          have hbel_8 := hbel_7.next hB_8
          have hsz_8 := hB_8.size
          clear X_7 cX_7_0 cX_7_1 cX_7_2 D_7 hbW_7 hbC_7 hbel_7 hB_8
          have T10_8 := hO.rdN (v := 10) s10.out
          clear hO
          try clear hB
          go_wp2_with fail
          refine (nmulR ((R9h.out.below hbC_8).rdN (hsr.out n)) T10_8 (by omega) (by omega)).mono ?_
          rintro e w9 ⟨ma, mn, mc, rfl, hO, hB⟩
          have hB_9 : Below w8.heap.size w8 w9 := (bl.next hB)
          have X_9 := X_8.next hB_9
          have cX_9_0 : _ = some (Value.bool s) := X_9.cell 0
          have cX_9_1 : _ = some (Value.slice a1 n1 c1) := X_9.cell 1
          have cX_9_2 : _ = some (Value.slice b1 m1 d1) := X_9.cell 2
          have D_9 := D_8.below hB_9
          have hbW_9 := hbW_8.next hB_9
          have hbC_9 := hbC_8.next hB_9
          have T10_9 := T10_8.below hB_9
          have hbel_9 := hbel_8.next hB_9
          have hsz_9 := hB_9.size
          clear X_8 cX_8_0 cX_8_1 cX_8_2 D_8 hbW_8 hbC_8 T10_8 hbel_8 hB_9
          have M_9 := hO.rdN (hsr10.out n)
          clear hO
          try clear hB
          go_wp2_with fail
          refine (ndivR M_9 D_9 (by omega) (by omega) hdh.out).mono ?_
          rw [show rst v d n * 10 / d = dgt v d n by unfold dgt; rw [Nat.mul_comm], show rst v d n * 10 % d = rst v d (n + 1) by show _ = 10 * rst v d n % d; rw [Nat.mul_comm]]
          rintro e w10 ⟨qa, qn, qc, ya, yn, yc, rfl, hO, hO', hD9, hB⟩
          have hB_10 : Below w9.heap.size w9 w10 := (bl.next hB)
          have X_10 := X_9.next hB_10
          have cX_10_0 : _ = some (Value.bool s) := X_10.cell 0
          have cX_10_1 : _ = some (Value.slice a1 n1 c1) := X_10.cell 1
          have cX_10_2 : _ = some (Value.slice b1 m1 d1) := X_10.cell 2
          have D_10 := D_9.below hB_10
          have hbW_10 := hbW_9.next hB_10
          have hbC_10 := hbC_9.next hB_10
          have T10_10 := T10_9.below hB_10
          have M_10 := M_9.below hB_10
          have hbel_10 := hbel_9.next hB_10
          have hsz_10 := hB_10.size
          clear X_9 cX_9_0 cX_9_1 cX_9_2 D_9 hbW_9 hbC_9 T10_9 M_9 hbel_9 hB_10
          have hyl := hid hO'.len
          have Q_10 := hO.rdN (v := dgt v d n) (k := 1) (show Sz _ 1 from by have := hdt.out n; show _ < 4294967296 ^ 1; omega)
          have Y_10 := hO'
          clear hO hO' hD9
          try clear hB
          go_wp2_with fail
          refine (nuintR Q_10 (hdt.out n)).mono ?_
          rintro e w11 ⟨rfl, hB⟩
          have hB_11 : Below w10.heap.size w10 w11 := (bl.next hB)
          have X_11 := X_10.next hB_11
          have cX_11_0 : _ = some (Value.bool s) := X_11.cell 0
          have cX_11_1 : _ = some (Value.slice a1 n1 c1) := X_11.cell 1
          have cX_11_2 : _ = some (Value.slice b1 m1 d1) := X_11.cell 2
          have D_11 := D_10.below hB_11
          have hbW_11 := hbW_10.next hB_11
          have hbC_11 := hbC_10.next hB_11
          have T10_11 := T10_10.below hB_11
          have M_11 := M_10.below hB_11
          have Q_11 := Q_10.below hB_11
          have Y_11 := Y_10.below hB_11
          have hbel_11 := hbel_10.next hB_11
          have hsz_11 := hB_11.size
          clear X_10 cX_10_0 cX_10_1 cX_10_2 D_10 hbW_10 hbC_10 T10_10 M_10 Q_10 Y_10 hbel_10 hB_11
          try clear hB
          have hOB := OBh.out.below hbC_11
          have hdn := hdt.out n
          obtain ⟨y, hy⟩ : ∃ y, dgt v d n = y := ⟨_, rfl⟩
          rw [hy] at hdn
          have hds := hid (show dgs v d n ++ [y + 48] = dgs v d (n + 1) by rw [dgs_succ, hy])
          have hyI : (48 : Int) + (y : Int) = ((y + 48 : Nat) : Int) := by omega
          simp only [hy]
          have hsz9 : wr.heap.size ≤ w11.heap.size := hbC_11.size
          have hs8 : w6.heap.size ≤ w11.heap.size := by omega
          have haL := hid (fun g (e : a = some ⟨g, 0, none⟩) => (show g < wr.heap.size from by have h := OBh.out; rw [e] at h; exact h.lt.2))
          have hYb := hid (fun g (e : ya = some ⟨g, 0, none⟩) => (show wr.heap.size ≤ g ∧ g < w11.heap.size from by have h := Y_11.lt' g e; omega))
          have hYO := hid Y_11
          have hRO := hid (R9h.out.below hbC_11)
          have hRl := hid (fun g (e : ra = some ⟨g, 0, none⟩) => (R9h.out.lt' g e).2)
          have hBase := hid hbC_11
          have hV0 := hid (show Below w6.heap.size w6 w11 from hbW_11)
          go_wp2_with (at_builtin; refine wpList_appB2 (y := y + 48) rfl _ _ rfl rfl (hOB.alloc _) _ 1 rfl (by omega) (by go_simp) (by simp; omega) (by omega) ?_; intro a2 c2 w2 hO2 hK2 hwh)
          have hYw := (hYO.out.alloc _).kp hK2 (fun g e hg => by have := haL.out g hg; have := hYb.out g e; omega)
          have hdY : Diff a2 ya := fun g e e2 => by
            have h5 := hYb.out g e2
            rcases hwh with h | h
            · rw [h] at e; have := haL.out g e; omega
            · have h6 := h g e; simp at h6; omega
          have hRw := (hRO.out.alloc _).kp hK2 (fun g e hg => hd9 g hg e)
          have hdR : Diff a2 ra := fun g e e2 => by
            have h5 := hRl.out g e2
            rcases hwh with h | h
            · rw [h] at e; exact hd9 g e e2
            · have h6 := h g e; simp at h6; omega
          go_roundw
          case rel => exact ⟨n + 1, n + 1, c2, a2, ya, ra, yn, yc, rn, rc, by go_num, rfl, rfl, rfl, rfl, hPat.out (n + 1) (by omega) (fun A K e => hKn.out A K e), by omega, by rw [← hds.out]; exact hO2, hYw.mono (Nat.zero_le _), hdY, hyl, fun hlt => ⟨hRw, hdR⟩, (hV0.out.alloc hs8 _).kp hK2 (by simp; omega) (ownB_lt hOB)⟩
          case measure => simp [intOf]; omega
      · skip
        have hFO := (hfst hpos).1
        have hdF := (hfst hpos).2
        obtain ⟨ci, hci⟩ : ∃ y, cmpI (rst v d n) (rst v d ah) = y := ⟨_, rfl⟩
        have hcb : (ci == (0 : Int)) = false := by simp; intro e; rw [← hci] at e; exact hfjh.out _ hpos (cmp_eq.1 e).symm
        have hcm := hid hci
        clear hci
        have hfst2 := hid hfst
        clear hfst
        by_cases hmo : n = most
        · skip
          have hRn := hmn.out hmo
          subst hRn
          have hp1 := hid (show peA v d none = ⟨#[]⟩ from rfl)
          have hp2 := hid (show peB v d none = ⟨#[]⟩ from rfl)
          subst hmo
          clear hPat hsr hsr10 hdt hAt hRh hmn hKn
          have hsrk := hsr0h
          have hOBh := hid hOB
          clear hOB
          go_wp2_with fail
          refine (ncmpR (hR9.rdN (hsrk.out n)) (hFO.rdN (hsrk.out ah))).mono ?_
          rw [hcm.out]
          rintro e wz ⟨rfl, hB⟩
          have hOB := hOBh.out.below hB
          have hR9 := hR9.below hB
          have hFO := hFO.below hB
          have hB_8 : Below wr.heap.size wr wz := (bl.next hB)
          have X_8 := X_7.next hB_8
          have cX_8_0 : _ = some (Value.bool s) := X_8.cell 0
          have cX_8_1 : _ = some (Value.slice a1 n1 c1) := X_8.cell 1
          have cX_8_2 : _ = some (Value.slice b1 m1 d1) := X_8.cell 2
          have D_8 := D_7.below hB_8
          have hbW_8 := hbW_7.next hB_8
          have hbel_8 := hbel_7.next hB_8
          have hsz_8 := hB_8.size
          clear X_7 cX_7_0 cX_7_1 cX_7_2 D_7 hbW_7 hbel_7 hB_8
          go_wp2
          go_ret3
          exact ⟨by rw [hp1.out, hp2.out]; rfl, hbel_8⟩
        · skip
          have hmo2 : n < most := by omega
          have hmo3 : ((n : Int) == (most : Int)) = false := by simp; omega
          have hsrk := hsr0h
          have hOBh := hid hOB
          clear hOB
          go_wp2_with fail
          refine (ncmpR (hR9.rdN (hsrk.out n)) (hFO.rdN (hsrk.out ah))).mono ?_
          rw [hcm.out]
          rintro e wz ⟨rfl, hB⟩
          have hOB := hOBh.out.below hB
          have hR9 := hR9.below hB
          have hFO := hFO.below hB
          have hB_8 : Below wr.heap.size wr wz := (bl.next hB)
          have X_8 := X_7.next hB_8
          have cX_8_0 : _ = some (Value.bool s) := X_8.cell 0
          have cX_8_1 : _ = some (Value.slice a1 n1 c1) := X_8.cell 1
          have cX_8_2 : _ = some (Value.slice b1 m1 d1) := X_8.cell 2
          have D_8 := D_7.below hB_8
          have hbW_8 := hbW_7.next hB_8
          have hbel_8 := hbel_7.next hB_8
          have hsz_8 := hB_8.size
          clear X_7 cX_7_0 cX_7_1 cX_7_2 D_7 hbW_7 hbel_7 hB_8
          have OBh := hid hOB
          have R9h := hid hR9
          have hFOh := hid hFO
          clear hOB
          have hBc := Below.refl wz.heap.size wz
          have hbC_8 := hBc
          clear hBc
          go_wp2_with fail
          refine (of_any 10 (by omega) (by omega)).mono ?_
          rintro e w9 ⟨oa, on, oc, rfl, hO, hB⟩
          have hB_9 : Below wz.heap.size wz w9 := (bl.next hB)
          have X_9 := X_8.next hB_9
          have cX_9_0 : _ = some (Value.bool s) := X_9.cell 0
          have cX_9_1 : _ = some (Value.slice a1 n1 c1) := X_9.cell 1
          have cX_9_2 : _ = some (Value.slice b1 m1 d1) := X_9.cell 2
          have D_9 := D_8.below hB_9
          have hbW_9 := hbW_8.next hB_9
          have hbC_9 := hbC_8.next hB_9
          have hbel_9 := hbel_8.next hB_9
          have hsz_9 := hB_9.size
          clear X_8 cX_8_0 cX_8_1 cX_8_2 D_8 hbW_8 hbC_8 hbel_8 hB_9
          have T10_9 := hO.rdN (v := 10) s10.out
          clear hO
          try clear hB
          go_wp2_with fail
          refine (nmulR ((R9h.out.below hbC_9).rdN (hsr.out n)) T10_9 (by omega) (by omega)).mono ?_
          rintro e w10 ⟨ma, mn, mc, rfl, hO, hB⟩
          have hB_10 : Below w9.heap.size w9 w10 := (bl.next hB)
          have X_10 := X_9.next hB_10
          have cX_10_0 : _ = some (Value.bool s) := X_10.cell 0
          have cX_10_1 : _ = some (Value.slice a1 n1 c1) := X_10.cell 1
          have cX_10_2 : _ = some (Value.slice b1 m1 d1) := X_10.cell 2
          have D_10 := D_9.below hB_10
          have hbW_10 := hbW_9.next hB_10
          have hbC_10 := hbC_9.next hB_10
          have T10_10 := T10_9.below hB_10
          have hbel_10 := hbel_9.next hB_10
          have hsz_10 := hB_10.size
          clear X_9 cX_9_0 cX_9_1 cX_9_2 D_9 hbW_9 hbC_9 T10_9 hbel_9 hB_10
          have M_10 := hO.rdN (hsr10.out n)
          clear hO
          try clear hB
          go_wp2_with fail
          refine (ndivR M_10 D_10 (by omega) (by omega) hdh.out).mono ?_
          rw [show rst v d n * 10 / d = dgt v d n by unfold dgt; rw [Nat.mul_comm], show rst v d n * 10 % d = rst v d (n + 1) by show _ = 10 * rst v d n % d; rw [Nat.mul_comm]]
          rintro e w11 ⟨qa, qn, qc, ya, yn, yc, rfl, hO, hO', hD9, hB⟩
          have hB_11 : Below w10.heap.size w10 w11 := (bl.next hB)
          have X_11 := X_10.next hB_11
          have cX_11_0 : _ = some (Value.bool s) := X_11.cell 0
          have cX_11_1 : _ = some (Value.slice a1 n1 c1) := X_11.cell 1
          have cX_11_2 : _ = some (Value.slice b1 m1 d1) := X_11.cell 2
          have D_11 := D_10.below hB_11
          have hbW_11 := hbW_10.next hB_11
          have hbC_11 := hbC_10.next hB_11
          have T10_11 := T10_10.below hB_11
          have M_11 := M_10.below hB_11
          have hbel_11 := hbel_10.next hB_11
          have hsz_11 := hB_11.size
          clear X_10 cX_10_0 cX_10_1 cX_10_2 D_10 hbW_10 hbC_10 T10_10 M_10 hbel_10 hB_11
          have hyl := hid hO'.len
          have Q_11 := hO.rdN (v := dgt v d n) (k := 1) (show Sz _ 1 from by have := hdt.out n; show _ < 4294967296 ^ 1; omega)
          have Y_11 := hO'
          clear hO hO' hD9
          try clear hB
          go_wp2_with fail
          refine (nuintR Q_11 (hdt.out n)).mono ?_
          rintro e w12 ⟨rfl, hB⟩
          have hB_12 : Below w11.heap.size w11 w12 := (bl.next hB)
          have X_12 := X_11.next hB_12
          have cX_12_0 : _ = some (Value.bool s) := X_12.cell 0
          have cX_12_1 : _ = some (Value.slice a1 n1 c1) := X_12.cell 1
          have cX_12_2 : _ = some (Value.slice b1 m1 d1) := X_12.cell 2
          have D_12 := D_11.below hB_12
          have hbW_12 := hbW_11.next hB_12
          have hbC_12 := hbC_11.next hB_12
          have T10_12 := T10_11.below hB_12
          have M_12 := M_11.below hB_12
          have Q_12 := Q_11.below hB_12
          have Y_12 := Y_11.below hB_12
          have hbel_12 := hbel_11.next hB_12
          have hsz_12 := hB_12.size
          clear X_11 cX_11_0 cX_11_1 cX_11_2 D_11 hbW_11 hbC_11 T10_11 M_11 Q_11 Y_11 hbel_11 hB_12
          try clear hB
          have hOB := OBh.out.below hbC_12
          have hdn := hdt.out n
          obtain ⟨y, hy⟩ : ∃ y, dgt v d n = y := ⟨_, rfl⟩
          rw [hy] at hdn
          have hds := hid (show dgs v d n ++ [y + 48] = dgs v d (n + 1) by rw [dgs_succ, hy])
          have hyI : (48 : Int) + (y : Int) = ((y + 48 : Nat) : Int) := by omega
          simp only [hy]
          have hsz9 : wz.heap.size ≤ w12.heap.size := hbC_12.size
          have hs8 : w6.heap.size ≤ w12.heap.size := by omega
          have haL := hid (fun g (e : a = some ⟨g, 0, none⟩) => (show g < wz.heap.size from by have h := OBh.out; rw [e] at h; exact h.lt.2))
          have hYb := hid (fun g (e : ya = some ⟨g, 0, none⟩) => (show wz.heap.size ≤ g ∧ g < w12.heap.size from by have h := Y_12.lt' g e; omega))
          have hYO := hid Y_12
          have hRO := hid (R9h.out.below hbC_12)
          have hRl := hid (fun g (e : ra = some ⟨g, 0, none⟩) => (R9h.out.lt' g e).2)
          have hBase := hid hbC_12
          have hFW := hid (hFOh.out.below hbC_12)
          have hFl := hid (fun g (e : fa = some ⟨g, 0, none⟩) => (hFOh.out.lt' g e).2)
          have hV0 := hid (show Below w6.heap.size w6 w12 from hbW_12)
          go_wp2_with (at_builtin; refine wpList_appB2 (y := y + 48) rfl _ _ rfl rfl (hOB.alloc _) _ 1 rfl (by omega) (by go_simp) (by simp; omega) (by omega) ?_; intro a2 c2 w2 hO2 hK2 hwh)
          have hYw := (hYO.out.alloc _).kp hK2 (fun g e hg => by have := haL.out g hg; have := hYb.out g e; omega)
          have hdY : Diff a2 ya := fun g e e2 => by
            have h5 := hYb.out g e2
            rcases hwh with h | h
            · rw [h] at e; have := haL.out g e; omega
            · have h6 := h g e; simp at h6; omega
          have hRw := (hFW.out.alloc _).kp hK2 (fun g e hg => hdF g hg e)
          have hdR : Diff a2 fa := fun g e e2 => by
            have h5 := hFl.out g e2
            rcases hwh with h | h
            · rw [h] at e; exact hdF g e e2
            · have h6 := h g e; simp at h6; omega
          go_roundw
          case rel => exact ⟨n + 1, n + 1, c2, a2, ya, fa, yn, yc, fn, fc, by go_num, rfl, rfl, rfl, rfl, hPat.out (n + 1) (by omega) (fun A K e => hKn.out A K e), by omega, by rw [← hds.out]; exact hO2, hYw.mono (Nat.zero_le _), hdY, hyl, fun hlt => ⟨hRw, hdR⟩, (hV0.out.alloc hs8 _).kp hK2 (by simp; omega) (ownB_lt hOB)⟩
          case measure => simp [intOf]; omega

end Go.Proofs.Ytnpkmlpmeeidbaa
/- WALKS OF DECIMALS, 12: the digits that come again, by the document. -/
namespace Go.Proofs.Ytnpkmlpmeeidbaa
set_option linter.unusedVariables false
set_option linter.unusedSimpArgs false
open Go.ChangeShapes Go.WideShapes Go.ChangeAt Go.RowKit Go.NatP

/-- what was left ahead of each digit, in a row of slices -/
def Rws (B : Nat) (w : World) (a : Option Addr) (n c : Nat) (v d : Nat) : Prop :=
  ∃ vals : List Value, w.ownsRow B 25 1 (.slice a n c) n vals ∧ vals.length = n ∧ ∀ j, j < n → ∃ ra rn rc, vals[j]? = some (.slice ra rn rc) ∧ Own 0 w ra rn rc (lm (rst v d j)) ∧ Diff a ra
section
variable {B n c v d : Nat} {w w' : World} {a : Option Addr}
theorem Rws.nil (B : Nat) (w : World) (v d : Nat) : Rws B w none 0 0 v d := ⟨[], World.ownsRow_nil w B _ 1, rfl, fun j h => absurd h (Nat.not_lt_zero _)⟩
theorem Rws.cases (h : Rws B w a n c v d) : (a = none ∧ n = 0 ∧ c = 0) ∨ ∃ g, a = some ⟨g, 0, none⟩ ∧ B ≤ g ∧ g < w.heap.size := by
  obtain ⟨vals, h, _⟩ := h
  rcases ownsRow_cases h with ⟨h1, h2, h3, h4⟩ | h1
  · exact .inl ⟨h1, h2, h3⟩
  · exact .inr h1
theorem Rws.bnd (h : Rws B w a n c v d) : n ≤ c ∧ c ≤ 9223372036854775807 := by
  obtain ⟨vals, h, _⟩ := h
  exact ⟨(ownsRow_bnd h).1, by have := (ownsRow_bnd h).2.1; unfold maxLen at this; omega⟩
theorem Rws.lt (h : Rws B w a n c v d) : ∀ g, a = some ⟨g, 0, none⟩ → B ≤ g ∧ g < w.heap.size := fun g e => by
  rcases h.cases with ⟨h1, _⟩ | ⟨g', h1, h2⟩
  · rw [h1] at e; cases e
  · rw [h1] at e; cases e; exact h2
theorem Rws.below (h : Rws B w a n c v d) (hb : Below w.heap.size w w') : Rws B w' a n c v d := by
  have hlt := h.lt
  obtain ⟨vals, h1, h2, h3⟩ := h
  refine ⟨vals, ownsRow_block h1 fun g e => hb.block g (hlt g e).2, h2, fun j hj => ?_⟩
  obtain ⟨ra, rn, rc, e1, e2, e3⟩ := h3 j hj
  exact ⟨ra, rn, rc, e1, e2.below hb, e3⟩
theorem Rws.get (h : Rws B w a n c v d) {j : Nat} (hj : j < n) : ∃ g ra rn rc, a = some ⟨g, 0, none⟩ ∧ w.cell? ⟨g, j, none⟩ = some (.slice ra rn rc) ∧ Own 0 w ra rn rc (lm (rst v d j)) := by
  rcases h.cases with ⟨_, h1, _⟩ | ⟨g, rfl, _⟩
  · omega
  · obtain ⟨vals, h1, h2, h3⟩ := h
    obtain ⟨ra, rn, rc, e1, e2, _⟩ := h3 j hj
    exact ⟨g, ra, rn, rc, rfl, by rw [h1.cellAt j (by omega), e1], e2⟩
end
end Go.Proofs.Ytnpkmlpmeeidbaa

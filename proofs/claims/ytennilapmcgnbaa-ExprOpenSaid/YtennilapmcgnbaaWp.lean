/- WALKS, 16: numbers written. -/
import Derived.Test.YtennilapmcgnbaaWo
namespace Go.Proofs.Ytennilapmcgnbaa
set_option linter.unusedVariables false
open Go.ChangeShapes Go.WideShapes Go.ChangeAt Go.RowKit Go.NatP

/-- ONE TEXT, old memory as it was. -/
def RetT (w : World) (t : ByteArray) (e : Ending) (w' : World) : Prop := e = .returned (.string t) ∧ Below w.heap.size w w'

theorem length_lm_div {n d k : Nat} (h : (lm n).length ≤ k) : (lm (n / d)).length ≤ k :=
  length_lm_le (Nat.lt_of_le_of_lt (Nat.div_le_self _ _) (Nat.lt_of_lt_of_le (lt_pow_length n) (Nat.pow_le_pow_right (by decide) h)))

theorem dl_len_le {n k : Nat} (h : (lm n).length ≤ k) : (dl n).length ≤ 10 * k := by
  refine length_dl_le (Nat.lt_of_lt_of_le (lt_pow_length n) ?_)
  rw [Nat.pow_mul]
  exact Nat.le_trans (Nat.pow_le_pow_right (by decide) h) (Nat.pow_le_pow_left (by decide) _)

set_option maxRecDepth 100000 in
set_option maxHeartbeats 4000000 in
theorem text_any {w : World} {a : Option Addr} {n c : Nat} {l : List Nat} (hR : Rd w a n c l) (hn : n ≤ 16777216) :
    Calls Try.prog 47 #[.slice a n c] w (RetT w (txt (tx (val l)))) := by
  have hLn : (lm (val l)).length ≤ n := by rw [← hR.len]; exact length_lm_val hR.lim
  obtain ⟨V, hV⟩ : ∃ V, V = val l := ⟨_, rfl⟩
  rw [← hV] at hLn ⊢
  have hO0 := hid (own_any hR (by omega))
  rw [← hV] at hO0
  have HT := hid (dl_len_le hLn)
  have HLn := hid hLn
  clear hV hR hLn
  go_enter Try.func47, Try.ntmps47
  go_wp2_with fail
  refine hO0.out.mono ?_
  rintro e w1 ⟨ar, nr, cr, rfl, hOr, hB1⟩
  have hbr := hOr.bnd
  by_cases h0 : nr = 0
  · subst h0
    have hV0 : Hid (V = 0) := lm_eq_nil.1 (List.eq_nil_of_length_eq_zero hOr.len)
    go_wp2
    go_ret
    exact ⟨by rw [hV0.out]; rfl, hB1⟩
  · obtain ⟨g, rfl⟩ : ∃ g, ar = some ⟨g, 0, none⟩ := by
      rcases hOr.cases with ⟨_, h, _⟩ | ⟨g, h, _⟩
      · omega
      · exact ⟨g, h⟩
    have hg := hOr.lt
    have hV0 : Hid (V ≠ 0) := fun e => h0 (by rw [← hOr.len, e]; rfl)
    have hnr : nr ≤ 16777216 := by have := HLn.out; have := hOr.len; omega
    have hk0 : ((nr : Int) == 0) = false := beq_eq_false_iff_ne.2 (by omega)
    clear h0
    go_wp2
    go_loopw [3, 4] (fun rv dv wr => ∃ (R k nd cd : Nat) (ad : Option Addr) (D : List Nat), k ≤ 16777216 ∧ rv = .slice (some ⟨g, 0, none⟩) k cr ∧ dv = .slice ad nd cd ∧ Own w.heap.size wr (some ⟨g, 0, none⟩) k cr (lm R) ∧ OwnB w1.heap.size wr ad nd cd (D.map (· + 48)) ∧ Hid (D ++ dl R = dl V) ∧ nd ≤ 10 * n ∧ Below w.heap.size w wr ∧ w1.heap.size ≤ wr.heap.size) (fun _ dv _ => 10 * n - lenV dv)
    case atStart => exact ⟨V, nr, 0, 0, none, [], hnr, rfl, rfl, hOr, ownB_nil _ _, rfl, by omega, hB1, Nat.le_refl _⟩
    case round =>
      clear hOr
      obtain ⟨wo, rfl⟩ : ∃ wo : World, wo = wr := ⟨_, rfl⟩
      obtain ⟨R, k, nd, cd, ad, D, hk, rfl, rfl, hO, hOB, hD, hnd, hB, hs1⟩ := hrel
      by_cases hk0' : k = 0
      · subst hk0'
        have hR0 : R = 0 := lm_eq_nil.1 (List.eq_nil_of_length_eq_zero hO.len)
        have hDD : Hid ((D.map (· + 48)).reverse = tx V) := by
          have h1 := hD.out
          rw [hR0, dl_zero, List.append_nil] at h1
          show _ = _
          rw [h1, tx, if_neg hV0.out, List.map_reverse]
        have hDn : Hid (D ≠ []) := fun e => by
          have h1 := hD.out
          rw [hR0, e] at h1
          have := dl_pos hV0.out
          rw [← h1] at this
          cases this
        clear hD
        go_wp2_with fail
        refine (reverse_any hOB).mono ?_
        rintro e w2 ⟨rfl, hO2, hK2⟩
        rw [hDD.out] at hO2
        obtain ⟨gd, rfl⟩ : ∃ g, ad = some ⟨g, 0, none⟩ := by
          rcases hOB.cases with ⟨_, _, _, h⟩ | ⟨g, h, _⟩
          · exact absurd (by simpa using h) hDn.out
          · exact ⟨g, h⟩
        have hB2 : Below w.heap.size w w2 := hB.kp hK2 hB.size fun j hj e => by
          cases e
          have := hOB.lt.1
          have := hB1.size
          omega
        have hconv := ownB_string hO2
        clear hO2 hK2 hOB hO
        go_wp2
        go_ret
        exact ⟨rfl, hB2⟩
      · have hk1 : 0 < k := by omega
        have hR0 : R ≠ 0 := fun e => hk0' (by rw [← hO.len, e]; rfl)
        have HR0 := hid hR0
        have hRk := hid hO.len
        clear hk0' hR0
        go_wp2_with fail
        refine (small_any hO 1000000000 (by decide) (by decide)).mono ?_
        rw [val_lm, show (1000000000 : Int).toNat = 1000000000 from rfl]
        rintro e w2 ⟨rfl, ⟨S, hO2, hS⟩, hK2⟩
        have hOB2 := hOB.kp hK2 fun g' e e2 => by
          subst e
          cases e2
          have := hOB.lt.1
          omega
        have hB2 : Below w.heap.size w w2 := hB.kp hK2 hB.size fun j hj e => by cases e; omega
        have hs2 := hK2.size
        obtain ⟨k2, hk2⟩ : ∃ k2, (lm (val S)).length = k2 := ⟨_, rfl⟩
        obtain ⟨hO3, hk2k⟩ := hO2.trim hk2
        have hk2' := hid hk2
        have HS := hid hS
        rw [hS] at hO3
        have hp9 : R % 1000000000 < 1000000000 := Nat.mod_lt _ (by decide)
        have hk2z : Hid (k2 = 0 ↔ R / 1000000000 = 0) := by
          have h1 := hO3.len
          show _ ↔ _
          constructor
          · intro e; exact lm_eq_nil.1 (List.eq_nil_of_length_eq_zero (by omega))
          · intro e; rw [← h1, e]; rfl
        have hRR : Hid (R = R / 1000000000 * 10 ^ 9 + R % 1000000000) := by
          show _ = _
          have := Nat.div_add_mod R 1000000000
          omega
        obtain ⟨Q, hQ⟩ : ∃ Q, Q = R / 1000000000 := ⟨_, rfl⟩
        obtain ⟨p, hp⟩ : ∃ p, p = R % 1000000000 := ⟨_, rfl⟩
        rw [← hQ] at hO3 hk2z hRR
        rw [← hp] at hp9 hRR ⊢
        have HDD : Hid (D ++ dl (Q * 10 ^ 9 + p) = dl V) := by rw [← hRR.out]; exact hD
        have HPos : Hid (0 < Q ∨ 0 < p) := by
          have h1 := HR0.out
          have h2 := hRR.out
          show _ ∨ _
          rcases Nat.eq_zero_or_pos Q with h | h
          · right
            rcases Nat.eq_zero_or_pos p with h' | h'
            · exact absurd (by rw [h2, h, h']) h1
            · exact h'
          · exact .inl h
        clear hk2 hS hQ hp hD hO hOB hK2
        go_wp2_with fail
        refine (trim_any hO2.rd hk2'.out).mono ?_
        rintro e w' ⟨rfl, rfl⟩
        have hbS := hO3.bnd
        clear hO2
        go_wp2
        go_loopw [4, 5, 6] (fun dv pv iv wr => ∃ (i q m nd' cd : Nat) (ad : Option Addr) (D' : List Nat), i + m = 9 ∧ iv = .int .i64 i ∧ pv = .int .u32 q ∧ Hid (q < 10 ^ m) ∧ q < 1000000000 ∧ dv = .slice ad nd' cd ∧ nd + i ≤ nd' ∧ OwnB w1.heap.size wr ad nd' cd (D'.map (· + 48)) ∧ Hid (D' ++ dl (Q * 10 ^ m + q) = dl V) ∧ Hid (i = 0 → 0 < Q ∨ 0 < q) ∧ Own w.heap.size wr (some ⟨g, 0, none⟩) k2 cr (lm Q) ∧ Below w.heap.size w wr ∧ w1.heap.size ≤ wr.heap.size) (fun _ _ iv _ => 9 - (intOf iv).toNat)
        case atStart => exact ⟨0, p, 9, nd, cd, ad, D, rfl, rfl, rfl, by show _ < _; simpa using hp9, hp9, rfl, by omega, hOB2, HDD, fun _ => HPos.out, hO3, hB2, by omega⟩
        case round =>
          clear hOB2 hO3 hB2 HDD HPos hs2
          obtain ⟨i, q, m, nd', cd, ad, D', him, rfl, rfl, hq, hq9, rfl, hnd', hOB, hD, hP, hO, hB, hs2⟩ := hrel
          have hndD : nd' ≤ 10 * n := by
            have h1 := congrArg List.length hD.out
            have h2 := hOB.len
            have h3 := HT.out
            simp at h1 h2
            omega
          have hbO := hOB.bnd
          have hi9 : i ≤ 9 := by omega
          by_cases hgo : i < 9 ∧ (0 < k2 ∨ 0 < q)
          · obtain ⟨h9, hkq⟩ := hgo
            obtain ⟨m, rfl⟩ : ∃ j, m = j + 1 := ⟨m - 1, by omega⟩
            have hQq : 0 < Q ∨ 0 < q := by
              rcases hkq with h | h
              · left
                rcases Nat.eq_zero_or_pos Q with h' | h'
                · have := hk2z.out.2 h'; omega
                · exact h'
              · exact .inr h
            have HN : Hid ((D' ++ [q % 10]) ++ dl (Q * 10 ^ m + q / 10) = dl V) := by
              show _ = _
              rw [← hD.out, dl_part hq.out hQq, List.append_assoc]; rfl
            have Hq : Hid (q / 10 < 10 ^ m) := by
              show _ < _
              rw [Nat.div_lt_iff_lt_mul (by decide), ← Nat.pow_succ]; exact hq.out
            have HM : Hid ((D' ++ [q % 10]).map (· + 48) = D'.map (· + 48) ++ [48 + q % 10]) := by
              show _ = _
              rw [List.map_append]; simp [Nat.add_comm]
            have hcase : 0 < k2 ∨ (¬ 0 < k2 ∧ 0 < q) := by omega
            have Him : Hid (i + 1 + m = 9) := by show _ = _; omega
            clear hD hq hP hQq hkq him
            rcases hcase with h1 | ⟨h1, h2⟩
            all_goals
              go_wp2_with (at_builtin; refine wpList_appB1 (y := 48 + q % 10) rfl _ _ rfl rfl (hOB.alloc _) _ 1 rfl (by omega) (by go_simp) (by simp; omega) (by omega) ?_; intro a2 c2 w3 hO2 hK2)
              rw [← HM.out] at hO2
              have hK3 := hid hK2
              clear hK2
              go_wp2
              go_roundw
              case rel =>
                refine ⟨i + 1, q / 10, m, nd' + 1, c2, a2, D' ++ [q % 10], Him.out, by go_num, by go_num, Hq, by omega, rfl, by omega, hO2, HN, fun h => absurd h (by omega), ?_, ?_, ?_⟩
                · exact (hO.alloc _).kp hK3.out fun g' e e2 => by
                    subst e2
                    have := hOB.lt.1
                    cases e
                    omega
                · exact (hB.alloc hB.size _).kp hK3.out (by have := hB.size; simp; omega) fun j hj e => by
                    subst e
                    have := hOB.lt.1
                    have := hB1.size
                    omega
                · have := hK3.out.size
                  simp at this
                  omega
              case measure => simp [intOf]; omega
          · have hEnd : Hid (D' ++ dl Q = dl V ∧ nd + 1 ≤ nd') := by
              by_cases h9 : i < 9
              · have h1 : ¬ (0 < k2 ∨ 0 < q) := fun h => hgo ⟨h9, h⟩
                have hQ0 : Q = 0 := hk2z.out.1 (by omega)
                have hq0 : q = 0 := by omega
                have h2 := hD.out
                rw [hQ0, hq0] at h2
                refine ⟨by rw [hQ0]; simpa using h2, ?_⟩
                rcases Nat.eq_zero_or_pos i with h | h
                · have := hP.out h; omega
                · omega
              · have hm0 : m = 0 := by omega
                have h2 := hD.out
                have h3 := hq.out
                rw [hm0] at h2 h3
                have hq0 : q = 0 := by simpa using h3
                rw [hq0] at h2
                exact ⟨by simpa using h2, by omega⟩
            have hnd1 := hEnd.out.2
            have HE := hid hEnd.out.1
            have hcase : ¬ i < 9 ∨ (i < 9 ∧ ¬ 0 < k2 ∧ ¬ 0 < q) := by omega
            clear hD hq hP hgo hEnd him
            rcases hcase with h1 | ⟨h1, h2, h3⟩
            all_goals
              go_wp2
              go_roundw
              case rel => exact ⟨Q, k2, nd', cd, ad, D', by omega, rfl, rfl, hO, hOB, HE, hndD, hB, hs2⟩
              case measure => simp [lenV]; omega

set_option maxRecDepth 100000 in
theorem digit_index (r : Nat) (h : r < 10) (w : World) :
    (Instr.index 9 (.string ⟨#[48, 49, 50, 51, 52, 53, 54, 55, 56, 57]⟩) (.int .i64 (r : Int))).run Try.prog w = .ok (.int .u8 ((48 + r : Nat) : Int)) w := by
  have h10 : r = 0 ∨ r = 1 ∨ r = 2 ∨ r = 3 ∨ r = 4 ∨ r = 5 ∨ r = 6 ∨ r = 7 ∨ r = 8 ∨ r = 9 := by omega
  rcases h10 with rfl | rfl | rfl | rfl | rfl | rfl | rfl | rfl | rfl | rfl
  all_goals rfl

end Go.Proofs.Ytennilapmcgnbaa

/- WALKS, 11: products. -/
import Derived.Test.YtennilapmcgnbaaWj
namespace Go.Proofs.Ytennilapmcgnbaa
set_option linter.unusedVariables false
open Go.ChangeShapes Go.WideShapes Go.ChangeAt Go.RowKit Go.NatP

/-- inside row i of a product: S is S0 with x times the first k limbs added in at place i -/
def MulIn (S0 S : List Nat) (lb : List Nat) (x i k cy : Nat) : Prop :=
  val (S.take (i + k)) + cy * 4294967296 ^ (i + k) = val (S0.take (i + k)) + x * val (lb.take k) * 4294967296 ^ i ∧ ∀ t, i + k ≤ t → S.getD t 0 = S0.getD t 0

theorem mulIn_start (S0 lb : List Nat) (x i : Nat) : MulIn S0 S0 lb x i 0 0 := ⟨by simp [val], fun _ _ => rfl⟩

theorem mulIn_step {S0 S lb : List Nat} {x i k cy q t : Nat} (h : MulIn S0 S lb x i k cy) (hl : i + k < S.length)
    (ht : q + t * 4294967296 = cy + x * lb.getD k 0 + S0.getD (i + k) 0) : MulIn S0 (S.set (i + k) q) lb x i (k + 1) t := by
  refine ⟨?_, fun t' ht' => ?_⟩
  · have h1 := h.1
    rw [← Nat.add_assoc, val_set_take S (i + k) q hl, val_take_succ', val_take_succ', Nat.pow_succ]
    generalize lb.getD k 0 = y at *
    generalize S0.getD (i + k) 0 = z at *
    rw [Nat.pow_add] at h1 ⊢
    grind
  · rw [NatP.getD_set_ne _ _ _ _ (by omega)]; exact h.2 t' (by omega)

theorem mulIn_end {S0 S la lb : List Nat} {i M cy : Nat} (h : MulIn S0 S lb (la.getD i 0) i M cy) (hM : lb.length = M) (hl : i + M < S.length)
    (h0 : val (S0.take (i + M)) = val (la.take i) * val lb) : val ((S.set (i + M) cy).take (i + 1 + M)) = val (la.take (i + 1)) * val lb := by
  have h1 := h.1
  rw [show i + 1 + M = i + M + 1 by omega, val_set_take S (i + M) cy hl, h1, h0, val_take_succ', val_take_all lb _ (by omega)]
  grind

theorem limb_prod {x y : Nat} (hx : x < 4294967296) (hy : y < 4294967296) : x * y ≤ 18446744065119617025 := by
  have : x * y ≤ 4294967295 * 4294967295 := Nat.mul_le_mul (by omega) (by omega)
  omega

set_option maxHeartbeats 1000000 in
theorem mul_any {w : World} {a b : Option Addr} {n c m d : Nat} {la lb : List Nat} (ha : Rd w a n c la) (hb : Rd w b m d lb) (hn : n ≤ 16777216) (hm : m ≤ 16777216) :
    Calls Try.prog 36 #[.slice a n c, .slice b m d] w (Ret1 w (lm (val la * val lb))) := by
  obtain ⟨N, hk⟩ : ∃ k, (lm (val la)).length = k := ⟨_, rfl⟩
  obtain ⟨M, hj⟩ : ∃ j, (lm (val lb)).length = j := ⟨_, rfl⟩
  obtain ⟨hRa, hka⟩ := ha.trim hk
  obtain ⟨hRb, hkb⟩ := hb.trim hj
  have hk' := hid hk
  have hj' := hid hj
  have hbA := hRa.bnd
  have hbB := hRb.bnd
  have HA : Hid (val (lm (val la)) = val la) := val_lm _
  have HB : Hid (val (lm (val lb)) = val lb) := val_lm _
  generalize hLA : lm (val la) = LA at *
  generalize hLB : lm (val lb) = LB at *
  have HRa := hid hRa
  have HRb := hid hRb
  clear hk hj hRa hRb
  go_enter Try.func36, Try.ntmps36
  go_wp2_with fail
  refine (trim_any ha (k := N) (by rw [hLA]; exact hk'.out)).mono ?_
  rintro e w' ⟨rfl, rfl⟩
  go_wp2_with fail
  refine (trim_any hb (k := M) (by rw [hLB]; exact hj'.out)).mono ?_
  rintro e w' ⟨rfl, rfl⟩
  clear hLA hLB
  go_wp2_with (at_make; refine wpList_mk (B := w.heap.size) rfl _ _ rfl _ (N + M) rfl rfl ?_ ?_ (Nat.le_refl _) ?_)
  · omega
  · omega
  intro w1 hO1 hK1
  have hB1 : Below w.heap.size w w1 := hK1.toBelow (fun _ _ h => h)
  have HV1 : Hid (val ((List.replicate (N + M) 0).take (0 + M)) = val (LA.take 0) * val LB) := by
    show _ = _
    rw [List.take_replicate, val_replicate_zero]; simp [val]
  go_wp2
  go_loopw [23] (fun iv wr => ∃ (i : Nat) (S : List Nat), i ≤ N ∧ iv = .int .i64 i ∧ Own w.heap.size wr (some ⟨w.heap.size, 0, none⟩) (N + M) (N + M) S ∧ Hid (val (S.take (i + M)) = val (LA.take i) * val LB) ∧ Below w.heap.size w wr) (fun iv _ => N - (intOf iv).toNat)
  case atStart => exact ⟨0, _, by omega, rfl, hO1, HV1, hB1⟩
  case round =>
    clear hO1 hK1 hB1 HV1
    obtain ⟨wo, rfl⟩ : ∃ wo : World, wo = wr := ⟨_, rfl⟩
    obtain ⟨i, S0, hi, rfl, hO, hV, hB⟩ := hrel
    by_cases hlt : i < N
    · obtain ⟨ba, oa, rfl, hca⟩ := (HRa.out.below hB).get hlt
      have hx := HRa.out.lim.getD i
      have hS0L := hO.len
      have HS0 := hid hO.lim
      obtain ⟨x, hxe⟩ : ∃ x, LA.getD i 0 = x := ⟨_, rfl⟩
      rw [hxe] at hca hx
      have Hxe := hid hxe
      clear hxe
      go_wp2
      go_loopw [8, 30] (fun cv kv wr => ∃ (k cy : Nat) (S : List Nat), k ≤ M ∧ kv = .int .i64 k ∧ cv = .int .u64 cy ∧ cy < 4294967296 ∧ Own w.heap.size wr (some ⟨w.heap.size, 0, none⟩) (N + M) (N + M) S ∧ Hid (MulIn S0 S LB x i k cy) ∧ Below w.heap.size w wr) (fun _ kv _ => M - (intOf kv).toNat)
      case atStart => exact ⟨0, 0, S0, by omega, rfl, rfl, by omega, hO, mulIn_start _ _ _ _, hB⟩
      case round =>
        clear hO hB hca
        obtain ⟨k, cy, S, hk, rfl, rfl, hcy, hO, hM, hB⟩ := hrel
        by_cases hlk : k < M
        · obtain ⟨bb, ob, rfl, hcb⟩ := (HRb.out.below hB).get hlk
          have hy := HRb.out.lim.getD k
          have hcS := hO.cell (i := i + k) (by omega)
          rw [hM.out.2 _ (Nat.le_refl _)] at hcS
          have hfS := hO.free (i + k)
          have hz := HS0.out.getD (i + k)
          have hp := limb_prod hx hy
          have HM : Hid (∀ q t, q + t * 4294967296 = cy + x * LB.getD k 0 + S0.getD (i + k) 0 → MulIn S0 (S.set (i + k) q) LB x i (k + 1) t) := fun q t h => mulIn_step hM.out (by rw [hO.len]; omega) h
          have HS := hid (fun (X : Int) (x : Nat) (hX : X = (x : Int)) (hx : x < 4294967296) => hO.setI (i + k) x hX hx)
          generalize LB.getD k 0 = y at *
          generalize S0.getD (i + k) 0 = z at *
          obtain ⟨p, hpe⟩ : ∃ p : Nat, p = x * y := ⟨_, rfl⟩
          have hpi : (x : Int) * (y : Int) = (p : Int) := by rw [hpe]; simp
          rw [← hpe] at hp HM
          clear hpe hO hM
          go_wp2
          go_roundw
          case rel => exact ⟨k + 1, (cy + p + z) / 4294967296, S.set (i + k) ((cy + p + z) % 4294967296), by omega, by go_num, by go_num, by omega, HS.out _ _ (by omega) (by omega), HM.out _ _ (by omega), hB.setCell (Nat.le_refl _) _⟩
          case measure => simp [intOf]; omega
        · obtain rfl : k = M := by omega
          have hcS := hO.cell (i := i + k) (by omega)
          have hfS := hO.free (i + k)
          have HS := hid (hO.setI (X := (cy : Int)) (i + k) cy rfl (by omega))
          have HV' : Hid (val ((S.set (i + k) cy).take (i + 1 + k)) = val (LA.take (i + 1)) * val LB) :=
            mulIn_end (la := LA) (by rw [Hxe.out]; exact hM.out) HRb.out.len (by rw [hO.len]; omega) hV.out
          generalize S.getD (i + k) 0 = z at *
          clear hO hM hV
          go_wp2
          go_roundw
          case rel => exact ⟨i + 1, _, by omega, by go_num, HS.out, HV', hB.setCell (Nat.le_refl _) _⟩
          case measure => simp [intOf]; omega
    · obtain rfl : i = N := by omega
      have hD : Hid (val S0 = val la * val lb) := by
        have := hV.out
        rw [val_take_all S0 _ (by rw [hO.len]; exact Nat.le_refl _), val_take_all LA _ (by rw [HRa.out.len]; exact Nat.le_refl _), HA.out, HB.out] at this
        exact this
      clear hV
      go_wp2_with fail
      refine (own_any hO.rd (by omega)).mono ?_
      rw [hD.out]
      rintro e w2 ⟨a2, n2, c2, rfl, hO2, hB2⟩
      go_wp2
      go_ret
      exact ⟨a2, n2, c2, rfl, hO2.mono hB.size, hB.next hB2⟩

end Go.Proofs.Ytennilapmcgnbaa

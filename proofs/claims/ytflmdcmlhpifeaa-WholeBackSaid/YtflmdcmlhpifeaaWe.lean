/- WALKS, 5: Of and Uint, of the program and of the reference. -/
import Derived.Test.YtflmdcmlhpifeaaWc
namespace Go.Proofs.Ytflmdcmlhpifeaa
set_option linter.unusedVariables false
open Go.ChangeShapes Go.WideShapes Go.ChangeAt Go.RowKit Go.NatP

theorem lm_of64 (u : Nat) (h : u < 18446744073709551616) : lm (val [u % 4294967296, u / 4294967296]) = lm u := by
  congr 1
  simp [val]
  omega

theorem rd_two {w : World} {x y : Nat} {X Y : Int} {e : TypeId} (hX : X = (x : Int)) (hY : Y = (y : Int)) (hx : x < 4294967296) (hy : y < 4294967296) :
    Rd (w.alloc (.cells #[.int .u32 X, .int .u32 Y] e)) (some ⟨w.heap.size, 0, none⟩) 2 2 [x, y] := by
  subst hX hY
  refine ⟨rfl, lim_cons hx (lim_cons hy lim_nil), by omega, by simp [maxLen], fun i hi => ⟨w.heap.size, 0, rfl, ?_⟩⟩
  have := cell_two_new w (.int .u32 (x : Int)) (.int .u32 (y : Int)) e i
  rw [Addr.add_lit] at this
  match i, hi with
  | 0, _ => exact this _ rfl
  | 1, _ => exact this _ rfl

theorem Ret1.alloc {w : World} {o : Obj} {l : List Nat} {e : Ending} {w' : World} (h : Ret1 (w.alloc o) l e w') : Ret1 w l e w' := by
  obtain ⟨a, n, c, h1, h2, h3⟩ := h
  exact ⟨a, n, c, h1, h2.mono (by simp), ((Below.refl _ w).alloc (Nat.le_refl _) o).then h3 (by simp)⟩

set_option maxHeartbeats 400000 in
theorem of_any {w : World} (u : Int) (h0 : 0 ≤ u) (h1 : u ≤ 18446744073709551615) :
    Calls Try.prog 46 #[.int .u64 u] w (Ret1 w (lm u.toNat)) := by
  obtain ⟨u, rfl⟩ := Int.eq_ofNat_of_zero_le h0
  have hu : u < 18446744073709551616 := by omega
  have hl : Hid (lm (val [u % 4294967296, u / 4294967296]) = lm u) := lm_of64 u hu
  clear hu
  go_enter Try.func46, Try.ntmps46
  go_wp2_with (go_at_call 67; refine (own_any (rd_two (x := u % 4294967296) (y := u / 4294967296) ?_ ?_ ?_ ?_) ?_).mono ?_)
  · omega
  · omega
  · omega
  · omega
  · omega
  · intro e w' h
    rw [hl.out] at h
    obtain ⟨a, n, c, rfl, hO, hB⟩ := h.alloc
    go_wp2
    go_ret
    exact ⟨a, n, c, rfl, hO, hB⟩

set_option maxHeartbeats 400000 in
theorem rof_any {w : World} (u : Int) (h0 : 0 ≤ u) (h1 : u ≤ 18446744073709551615) :
    Calls Try.prog 53 #[.int .u64 u] w (Ret1 w (lm u.toNat)) := by
  obtain ⟨u, rfl⟩ := Int.eq_ofNat_of_zero_le h0
  have hu : u < 18446744073709551616 := by omega
  have hl : Hid (lm (val [u % 4294967296, u / 4294967296]) = lm u) := lm_of64 u hu
  clear hu
  go_enter Try.func53, Try.ntmps53
  go_wp2_with (go_at_call 65; refine (rnorm_any (rd_two (x := u % 4294967296) (y := u / 4294967296) ?_ ?_ ?_ ?_) ?_).mono ?_)
  · omega
  · omega
  · omega
  · omega
  · omega
  · intro e w' h
    rw [hl.out] at h
    obtain ⟨a, n, c, rfl, hO, hB⟩ := h.alloc
    go_wp2
    go_ret
    exact ⟨a, n, c, rfl, hO, hB⟩

/-- the uint64 of a number, if it has one -/
def two64 : Nat := 18446744073709551616
def uv (n : Nat) : Nat := if n < two64 then n else 0
def RetUint (w : World) (n : Nat) (e : Ending) (w' : World) : Prop :=
  e = .returned (.tuple #[.int .u64 (uv n : Int), .bool (decide (n < two64))]) ∧ Below w.heap.size w w'

theorem two64_le {n : Nat} : (lm n).length ≤ 2 ↔ n < two64 := by
  unfold two64
  constructor
  · intro h
    have := lt_pow_length n
    exact Nat.lt_of_lt_of_le this (Nat.pow_le_pow_right (n := 4294967296) (by decide) h)
  · intro h; exact length_lm_le (k := 2) (by simpa using h)

theorem or_hi (u x k : Nat) (hu : u < 4294967296 ^ k) (hk : k ≤ 1) (hx : x < 4294967296) :
    bits BinOp.or IntKind.u64 (u : Int) (((x * 4294967296 ^ k : Nat)) : Int) = ((u + x * 4294967296 ^ k : Nat) : Int) := by
  have hk' : k = 0 ∨ k = 1 := by omega
  have h64 : x * 4294967296 ^ k < 18446744073709551616 := by
    rcases hk' with rfl | rfl <;> simp <;> omega
  rw [u64_or_nat _ _ (by rcases hk' with rfl | rfl <;> simp at hu <;> omega) h64]
  congr 1
  rw [Nat.or_comm, Nat.mul_comm]
  have e : 4294967296 ^ k = 2 ^ (32 * k) := by rw [Nat.pow_mul]
  rw [e] at hu ⊢
  rw [← Nat.two_pow_add_eq_or_of_lt hu]
  omega

set_option maxHeartbeats 400000 in
theorem uint_any {w : World} {a : Option Addr} {n c : Nat} {l : List Nat} (hR : Rd w a n c l) :
    Calls Try.prog 44 #[.slice a n c] w (RetUint w (val l)) := by
  obtain ⟨k, hk⟩ : ∃ k, (lm (val l)).length = k := ⟨_, rfl⟩
  obtain ⟨hRk, hkn⟩ := hR.trim hk
  have hk' : Hid ((lm (val l)).length = k) := hk
  have hb := hRk.bnd
  by_cases h2 : 2 < k
  · have hv : Hid (¬ val l < two64) := fun h => by rw [← two64_le] at h; omega
    clear hk
    go_enter Try.func44, Try.ntmps44
    go_wp2_with (go_at_call 69; refine (trim_any hR hk'.out).mono ?_; rintro e w' ⟨rfl, rfl⟩)
    go_ret2
    exact ⟨by simp [uv, hv.out], Below.refl _ _⟩
  · have hv : Hid (val l < two64) := two64_le.1 (by omega)
    clear hk
    go_enter Try.func44, Try.ntmps44
    go_wp2_with (go_at_call 69; refine (trim_any hR hk'.out).mono ?_; rintro e w' ⟨rfl, rfl⟩)
    go_loop [4, 14] (fun v i => ∃ (j u : Nat), j ≤ k ∧ i = .int .i64 j ∧ v = .int .u64 u ∧ Hid (u = val ((lm (val l)).take j))) (fun _ i => k - (intOf i).toNat)
    case atStart => exact ⟨0, 0, by omega, rfl, rfl, rfl⟩
    case round =>
      obtain ⟨j, u, hj, rfl, rfl, hu⟩ := hrel
      by_cases hlt : j < k
      · obtain ⟨b, o, rfl, hc⟩ := hRk.get hlt
        have hx := hRk.lim.getD j
        have hu1 : u < 4294967296 ^ j := by
          rw [hu.out]
          refine Nat.lt_of_lt_of_le (val_lt (hRk.lim.take j)) (Nat.pow_le_pow_right (by decide) ?_)
          exact List.length_take_le _ _
        have hu2 : Hid (u + (lm (val l)).getD j 0 * 4294967296 ^ j = val ((lm (val l)).take (j + 1))) := by
          show _ = _
          rw [val_take_succ', hu.out]
        have hor := or_hi u ((lm (val l)).getD j 0) j hu1 (by omega) hx
        generalize (lm (val l)).getD j 0 = x at *
        clear hu
        have hj2 : j = 0 ∨ j = 1 := by omega
        rcases hj2 with rfl | rfl
        · simp only [Nat.pow_zero, Nat.mul_one] at hor hu2
          rw [Nat.add_zero] at hc
          go_wp2
          go_round
          case rel => exact ⟨1, u + x, by omega, by go_num, rfl, hu2⟩
          case measure => simp [intOf]; omega
        · simp only [Nat.pow_one] at hor hu2 hu1
          have hor' : bits BinOp.or IntKind.u64 (u : Int) ((x : Int) * 4294967296) = ((u + x * 4294967296 : Nat) : Int) := by
            rw [← hor]; congr 1
          clear hor
          go_wp2
          go_round
          case rel => exact ⟨2, u + x * 4294967296, by omega, by go_num, rfl, hu2⟩
          case measure => simp [intOf]; omega
      · obtain rfl : j = k := by omega
        have hu' : Hid (u = uv (val l)) := by
          show u = _
          rw [hu.out, List.take_of_length_le (by rw [hRk.len]; exact Nat.le_refl _), val_lm, uv, if_pos hv.out]
        clear hu
        go_wp2
        go_ret2
        exact ⟨by simp [hv.out, ← hu'.out], Below.refl _ _⟩

set_option maxHeartbeats 400000 in
theorem ruint_any {w : World} {a : Option Addr} {n c : Nat} {l : List Nat} (hR : Rd w a n c l) (hn : n ≤ 268435456) :
    Calls Try.prog 45 #[.slice a n c] w (RetUint w (val l)) := by
  have hlen : Hid (∀ k, (lm (val l)).length = k → ((2 < k → ¬ val l < two64) ∧ (k ≤ 2 → val l < two64))) := fun k hk => by
    rw [← two64_le]; omega
  go_enter Try.func45, Try.ntmps45
  go_wp2_with (go_at_call 65; refine (rnorm_any hR hn).mono ?_)
  rintro e w' ⟨a', k, c', rfl, hO, hB⟩
  obtain ⟨hv1, hv2⟩ := hlen.out k hO.len
  have hRk := hO.rd
  have hb := hRk.bnd
  by_cases h2 : 2 < k
  · have hv := hid (hv1 h2)
    clear hv1 hv2
    go_wp2
    go_ret2
    exact ⟨by simp [uv, hv.out], hB⟩
  · have hv := hid (hv2 (by omega))
    clear hv1 hv2
    go_wp2
    go_loop [5, 6] (fun v i => ∃ (j u : Nat), j ≤ k ∧ i = .int .i64 ((j : Int) - 1) ∧ v = .int .u64 u ∧ Hid (u = val ((lm (val l)).drop j))) (fun _ i => (intOf i + 1).toNat)
    case atStart => exact ⟨k, 0, by omega, by go_num, rfl, by show 0 = _; rw [List.drop_of_length_le (by rw [hRk.len]; exact Nat.le_refl _)]; rfl⟩
    case round =>
      obtain ⟨j, u, hj, rfl, rfl, hu⟩ := hrel
      by_cases h0 : j = 0
      · subst h0
        have hu' : Hid (u = uv (val l)) := by
          show u = _
          rw [hu.out, List.drop_zero, val_lm, uv, if_pos hv.out]
        clear hu
        go_wp2
        go_ret2
        exact ⟨by simp [hv.out, ← hu'.out], hB⟩
      · obtain ⟨j, rfl⟩ : ∃ i, j = i + 1 := ⟨j - 1, by omega⟩
        obtain ⟨b, o, rfl, hc⟩ := hRk.get (i := j) (by omega)
        have hx := hRk.lim.getD j
        have hu2 : Hid (u * 4294967296 + (lm (val l)).getD j 0 = val ((lm (val l)).drop j)) := by
          show _ = _
          rw [val_drop_succ _ j (by rw [hRk.len]; omega), ← hu.out]; omega
        have hu1 : u < 4294967296 := by
          have h1 := val_lt (hRk.lim.drop (j + 1))
          rw [← hu.out, List.length_drop, hRk.len] at h1
          refine Nat.lt_of_lt_of_le h1 ?_
          have : k - (j + 1) ≤ 1 := by omega
          exact Nat.le_trans (Nat.pow_le_pow_right (by decide) this) (by simp)
        generalize (lm (val l)).getD j 0 = x at *
        clear hu h0
        go_wp2
        go_round
        case rel => exact ⟨j, u * 4294967296 + x, by omega, by go_num, by go_num, hu2⟩
        case measure => simp [intOf]

end Go.Proofs.Ytflmdcmlhpifeaa

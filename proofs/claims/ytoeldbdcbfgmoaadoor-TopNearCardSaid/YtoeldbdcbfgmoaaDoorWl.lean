/- WALKS, 12: shifts. -/
import Derived.Test.YtoeldbdcbfgmoaaDoorWk
import Derived.Test.YtoeldbdcbfgmoaaDoorPP
import Derived.RegionTactic
import Derived.StillTailTactics
namespace Go.Proofs.YtoeldbdcbfgmoaaDoor
set_option linter.unusedVariables false
open Go.ChangeShapes Go.WideShapes Go.ChangeAt Go.RowKit Go.NatP

/-- a fresh slice of k limbs of that value -/
def RetVal (w : World) (k v : Nat) (e : Ending) (w' : World) : Prop :=
  ∃ a c l, e = .returned (.slice a k c) ∧ Own w.heap.size w' a k c l ∧ val l = v ∧ Below w.heap.size w w'

set_option maxHeartbeats 1000000 in
theorem left_any {w : World} {a : Option Addr} {k c : Nat} {l : List Nat} (hR : Rd w a k c l) (hk : k ≤ 16777216) (n : Int) (h0 : 0 ≤ n) (h1 : n ≤ 31) :
    Calls Tryd.prog 65 #[.slice a k c, .int .i64 n] w (RetVal w (k + 1) (val l * 2 ^ n.toNat)) := by
  obtain ⟨n, rfl⟩ := Int.eq_ofNat_of_zero_le h0
  rw [Int.toNat_natCast]
  have hn : n < 32 := by omega
  have hb := hR.bnd
  have HR := hid hR
  clear hR
  go_enter Tryd.func65, Tryd.ntmps65
  go_wp2_with (at_make; refine wpList_mk (B := w.heap.size) rfl _ _ rfl _ (k + 1) rfl rfl ?_ ?_ (Nat.le_refl _) ?_)
  · omega
  · omega
  intro w1 hO1 hK1
  have hB1 : Below w.heap.size w w1 := hK1.toBelow (fun _ _ h => h)
  have HV1 := hid (shlIn_start l (k + 1) n)
  go_wp2
  go_loopw [14] (fun iv wr => ∃ (i : Nat) (S : List Nat), i ≤ k ∧ iv = .int .i64 i ∧ Own w.heap.size wr (some ⟨w.heap.size, 0, none⟩) (k + 1) (k + 1) S ∧ Hid (ShlIn l S n i) ∧ Below w.heap.size w wr) (fun iv _ => k - (intOf iv).toNat)
  case atStart => exact ⟨0, _, by omega, rfl, hO1, HV1, hB1⟩
  case round =>
    clear hO1 hK1 hB1 HV1
    obtain ⟨i, S, hi, rfl, hO, hV, hB⟩ := hrel
    by_cases hlt : i < k
    · obtain ⟨ba, oa, rfl, hca⟩ := (HR.out.below hB).get hlt
      have hx := HR.out.lim.getD i
      have hc1 := hO.cell (i := i) (by omega)
      have hf1 := hO.free i
      have hc2 := hO.cell (i := i + 1) (by omega)
      have hf2 := hO.free (i + 1)
      obtain ⟨hl1, hl2, hl3⟩ := shl_low hn hx hV.out.2.1
      have HV := hid (shlIn_step hn HR.out.lim hV.out (by rw [hO.len]; omega))
      have HS1 := fun (v : Value) => hO.alloc
      have hSs : ∀ (X : Int), X = ((S.getD i 0 + l.getD i 0 * 2 ^ n % 4294967296 : Nat) : Int) → Own w.heap.size (wr.setCell ⟨w.heap.size, i, none⟩ (.int .u32 X)) (some ⟨w.heap.size, 0, none⟩) (k + 1) (k + 1) (S.set i (S.getD i 0 + l.getD i 0 * 2 ^ n % 4294967296)) :=
        fun X hX => hO.setI i _ hX hl1
      clear hV HS1
      obtain ⟨p, hpe⟩ : ∃ p : Nat, p = l.getD i 0 * 2 ^ n := ⟨_, rfl⟩
      have hpi : ((l.getD i 0 : Nat) : Int) * 2 ^ n = (p : Int) := by rw [hpe]; simp
      have hp : p ≤ 9223372034707292160 := by
        have h2 : (2 : Nat) ^ n ≤ 2 ^ 31 := Nat.pow_le_pow_right (by decide) (by omega)
        have : l.getD i 0 * 2 ^ n ≤ 4294967295 * 2 ^ 31 := Nat.mul_le_mul (by omega) h2
        omega
      rw [← hpe] at hl1 hl2 hl3 HV hSs
      generalize l.getD i 0 = x at *
      generalize hs0 : S.getD i 0 = s0 at *
      generalize hs1 : S.getD (i + 1) 0 = s1 at *
      have hor : bits BinOp.or IntKind.u32 (s0 : Int) ((p : Int) % 4294967296) = ((s0 + p % 4294967296 : Nat) : Int) := by
        have h := u32_or_nat s0 (p % 4294967296) (by omega) (by omega)
        rw [hl2] at h
        rw [← h]; congr 1
      have HS := hid hSs
      have HO := hid hO
      clear hs0 hs1 hpe hl2 hSs hO
      go_wp2
      go_region
      go_wp2
      go_roundw
      case rel =>
        have h1 := HS.out _ rfl
        refine ⟨i + 1, _, by omega, by go_num, h1.setI (i + 1) (p / 4294967296) ?_ ?_, HV, (hB.setCell (Nat.le_refl _) _).drew.setCell (Nat.le_refl _) _⟩
        · omega
        · omega
      case measure => simp [intOf]; omega
    · obtain rfl : i = k := by omega
      have hD : Hid (val S = val l * 2 ^ n) := by
        have := hV.out.1
        rw [val_take_all S _ (by rw [hO.len]; exact Nat.le_refl _), val_take_all l _ (by rw [HR.out.len]; exact Nat.le_refl _)] at this
        exact this
      clear hV
      go_wp2
      go_ret
      exact ⟨_, _, S, rfl, hO, hD.out, hB⟩

/-- make(Nat, q, d) -/
theorem wpList_mk2 {w : World} {ops : Array Oper} {rest : List Oper} {o : Oper} {A : Act} {Q : Exit → Act → World → Prop} {B : Nat} (hgd : o.guard = none) (lo co : Operand) (ho : o.op = Op.makeSlice 23 lo co) (L C : Int) (q d : Nat)
    (hl : A.eval lo = .int .i64 L) (hc : A.eval co = .int .i64 C) (hL : L = (q : Int)) (hC : C = (d : Int)) (hq : q ≤ d) (hn : d ≤ 1073741824) (hB : B ≤ w.heap.size)
    (h : ∀ w', Own B w' (some ⟨w.heap.size, 0, none⟩) q d (List.replicate q 0) → Kp (fun _ => False) w w' → wpList Tryd.prog ops Q rest (A.put o.dst (.slice (some ⟨w.heap.size, 0, none⟩) q d)) w') :
    wpList Tryd.prog ops Q (o :: rest) A w := by
  obtain ⟨i0, hi, hz, hz1, hz2⟩ := info_parts infoU32
  subst hL hC
  have hr := run_make (P := Tryd.prog) w 23 67 i0 (.int .u32 0) Tryd.underlying23 hi hz .i64 .i64 (q : Int) (d : Int) (by omega) (by omega) (by rw [hz2]; omega) (by omega)
  simp only [Int.toNat_natCast] at hr
  refine wpList_plain hgd fun K hK => ?_
  unfold Oper.wp execOp
  simp only [ho, Sem.run_bind, Sem.run_pure, Result.andThen_ok, hl, hc, hr]
  refine hK _ _ (h _ ⟨by simp, lim_replicate _ _ (by decide), by simp [encL], .inr ⟨w.heap.size, d, _, rfl, hB, heap_alloc_new w _, hq, by unfold maxLen; omega, ?_, ?_⟩⟩ ((Kp.refl _ w).alloc _))
  · rw [size_madeCells, hz1]
  · rw [hz1, Nat.mul_one, Nat.mul_one, show (Value.int IntKind.u32 0).cells = #[Value.int .u32 0] from rfl, toList_madeCells_one, List.take_replicate, Nat.min_eq_left hq]
    simp [encL]

/-- a number and an error's number -/
def RetE (w : World) (l : List Nat) (er : Int) (e : Ending) (w' : World) : Prop :=
  ∃ a n c, e = .returned (.tuple #[.slice a n c, .int .i64 er]) ∧ Own w.heap.size w' a n c l ∧ Below w.heap.size w w'

set_option maxHeartbeats 1000000 in
theorem shift_up {w : World} {a : Option Addr} {k c : Nat} {l : List Nat} (hR : Rd w a k c l) (hk : k ≤ 8388608) (n : Nat) (h1 : n ≤ 262144) :
    Calls Tryd.prog 39 #[.slice a k c, .int .i64 n] w (RetE w (lm (val l * 2 ^ n)) 0) := by
  obtain ⟨j, hj⟩ : ∃ j, (lm (val l)).length = j := ⟨_, rfl⟩
  obtain ⟨hRj, hjk⟩ := hR.trim hj
  have hj' := hid hj
  have hb := hRj.bnd
  have HN : Hid (∀ L, val L = val (lm (val l)) * 2 ^ (n % 32) → val (List.replicate (n / 32) 0 ++ L) = val l * 2 ^ n) := by
    intro L hL
    rw [val_append, val_replicate_zero, hL, List.length_replicate, val_lm, pow_32, Nat.zero_add, Nat.mul_left_comm, ← Nat.pow_add]
    congr 2
    omega
  clear hj
  go_enter Tryd.func39, Tryd.ntmps39
  go_wp2_with fail
  refine (trim_any hR hj'.out).mono ?_
  rintro e w' ⟨rfl, rfl⟩
  go_wp2_with (at_make; refine wpList_mk2 (B := w.heap.size) rfl _ _ rfl _ _ (n / 32) (n / 32 + j + 1) rfl rfl ?_ ?_ ?_ ?_ (Nat.le_refl _) ?_)
  · omega
  · omega
  · omega
  · omega
  intro w1 hO1 hK1
  have hB1 : Below w.heap.size w w1 := hK1.toBelow (fun _ _ h => h)
  have hR1 := hRj.below hB1
  go_wp2_with fail
  refine (left_any hR1 (by omega) _ (by omega) (by omega)).mono ?_
  rintro e w2 ⟨a2, c2, L, rfl, hO2, hL, hB2⟩
  have HL := hid hL
  clear hL
  have hO1' := hO1.below hB2
  have hs1 := hB1.size
  have hs2 := hB2.size
  go_wp2_with (at_builtin; refine wpList_appR rfl _ _ rfl rfl hO1' rfl hO2.rd (by omega) (by omega) ?_; intro a3 c3 w3 hO3 hK3 _)
  have hV := hid (HN.out L (by rw [HL.out]; congr 2))
  have hB3 : Below w.heap.size w w3 := (hB1.next hB2).kp hK3 (by omega) (fun k hk e => by cases e; omega)
  clear HN HL hO1 hO1' hO2 hK1 hK3
  go_wp2_with fail
  refine (own_any hO3.rd (by omega)).mono ?_
  rw [hV.out]
  rintro e w4 ⟨a4, n4, c4, rfl, hO4, hB4⟩
  go_wp2
  go_ret2
  exact ⟨a4, n4, c4, rfl, hO4.mono hB3.size, hB3.next hB4⟩

/-- s[q:] -/
theorem Rd.suf {w : World} {b o n c q : Nat} {l : List Nat} (h : Rd w (some ⟨b, o, none⟩) n c l) (hq : q ≤ n) : Rd w (some ⟨b, o + q, none⟩) (n - q) (c - q) (l.drop q) := by
  have hb := h.bnd
  refine ⟨by rw [List.length_drop, h.1], h.2.1.drop q, by omega, by have := h.2.2.2.1; omega, fun i hi => ⟨b, o + q, rfl, ?_⟩⟩
  have := h.cell (i := q + i) (by omega)
  rw [← Nat.add_assoc] at this
  rw [this]
  simp [List.getD_eq_getElem?_getD, List.getElem?_drop]

theorem shr_or (y x : Nat) (hx : x < 4294967296) (hy : y < 4294967296) : bits BinOp.or IntKind.u64 ((y : Int) * 4294967296) (x : Int) = ((y * 4294967296 + x : Nat) : Int) := by
  have h := u64_or_nat (y * 4294967296) x (by omega) (by omega)
  have e : y * 4294967296 ||| x = y * 4294967296 + x := by
    have := Nat.two_pow_add_eq_or_of_lt (i := 32) (b := x) (by simpa using hx) y
    rw [Nat.mul_comm] at this
    exact this.symm
  rw [e] at h
  rw [← h]
  congr 1

set_option maxHeartbeats 2000000 in
theorem shift_down {w : World} {a : Option Addr} {k c : Nat} {l : List Nat} (hR : Rd w a k c l) (hk : k ≤ 8388608) (n : Nat) (h0 : 0 < n) (h1 : n ≤ 262144) :
    Calls Tryd.prog 39 #[.slice a k c, .int .i64 (-(n : Int))] w (RetE w (lm (val l / 2 ^ n)) 0) := by
  obtain ⟨j, hj⟩ : ∃ j, (lm (val l)).length = j := ⟨_, rfl⟩
  obtain ⟨hRj, hjk⟩ := hR.trim hj
  have hj' := hid hj
  have hb := hRj.bnd
  have hneg : ¬ (0 : Int) ≤ -(n : Int) := by omega
  by_cases hq : j ≤ n / 32
  · have HZ : Hid (lm (val l / 2 ^ n) = []) := by
      show _ = _
      rw [lm_eq_nil]
      have := div_small_zero (lim_lm (val l)) (q := n / 32) (r := n % 32) (by omega)
      rw [val_lm, show 32 * (n / 32) + n % 32 = n by omega] at this
      exact this
    clear hj
    go_enter Tryd.func39, Tryd.ntmps39
    go_wp2_with fail
    refine (trim_any hR hj'.out).mono ?_
    rintro e w' ⟨rfl, rfl⟩
    go_wp2
    go_ret2
    exact ⟨none, 0, 0, rfl, by rw [HZ.out]; exact own_nil _ _, Below.refl _ _⟩
  · obtain ⟨b, o, rfl⟩ := hRj.head (by omega)
    have hcq : ¬ c = n / 32 := by omega
    have hcq2 : ¬ c ≤ n / 32 := by omega
    have hq0 : n / 32 ≤ j := by omega
    have HS := hid (hRj.suf hq0)
    have HV : Hid (val ((lm (val l)).drop (n / 32)) / 2 ^ (n % 32) = val l / 2 ^ n) := by
      show _ = _
      rw [val_drop_div (lim_lm _), val_lm, pow_32, Nat.div_div_eq_div_mul, ← Nat.pow_add, show 32 * (n / 32) + n % 32 = n by omega]
    clear hj
    have hr : n % 32 < 32 := Nat.mod_lt _ (by decide)
    go_enter Tryd.func39, Tryd.ntmps39
    go_wp2_with fail
    refine (trim_any hR hj'.out).mono ?_
    rintro e w' ⟨rfl, rfl⟩
    go_wp2_with fail
    refine (clone_any HS.out (by omega)).mono ?_
    rintro e w2 ⟨a2, m, c2, rfl, hO2, hB2⟩
    have hm : m = j - n / 32 := by
      have h1 := hO2.len
      have h2 := HS.out.len
      omega
    obtain ⟨g, rfl⟩ : ∃ g, a2 = some ⟨g, 0, none⟩ := by
      rcases hO2.cases with ⟨_, h, _⟩ | ⟨g, h, _⟩
      · omega
      · exact ⟨g, h⟩
    have hm1 : m ≤ 8388608 := by omega
    have hbm := hO2.bnd
    have hVL := val_lt hO2.lim
    rw [hO2.len] at hVL
    have HVL := hid hVL
    have HI : Hid (∀ t, ((lm (val l)).drop (n / 32)).getD t 0 = val ((lm (val l)).drop (n / 32)) / 4294967296 ^ t % 4294967296) := fun t => getD_val hO2.lim t
    have hgl := hO2.lt
    generalize (lm (val l)).drop (n / 32) = D at *
    clear hm hVL hq hcq hcq2 hq0
    go_wp2
    go_loopw [50] (fun iv wr => ∃ (i : Nat) (S : List Nat), i ≤ m ∧ iv = .int .i64 i ∧ Own w.heap.size wr (some ⟨g, 0, none⟩) m c2 S ∧ Hid (∀ t, t < i → S.getD t 0 = val D / 2 ^ (n % 32) / 4294967296 ^ t % 4294967296) ∧ Hid (∀ t, i ≤ t → S.getD t 0 = val D / 4294967296 ^ t % 4294967296) ∧ Below w.heap.size w wr) (fun iv _ => m - (intOf iv).toNat)
    case atStart => exact ⟨0, D, by omega, rfl, hO2, fun t ht => absurd ht (by omega), fun t _ => HI.out t, hB2⟩
    case round =>
      clear hO2 hB2
      obtain ⟨i, S, hi, rfl, hO, hL, hU, hB⟩ := hrel
      by_cases hlt : i < m
      · have hc1 := hO.cell hlt
        have hf1 := hO.free i
        rw [hU.out i (Nat.le_refl _)] at hc1
        have hx : val D / 4294967296 ^ i % 4294967296 < 4294967296 := Nat.mod_lt _ (by decide)
        have hshr := shr_limb (val D) i (n % 32) hr
        have HSs := fun (X : Int) (x : Nat) (hX : X = (x : Int)) (hx : x < 4294967296) => hO.setI i x hX hx
        have HNx : ∀ x, x = val D / 2 ^ (n % 32) / 4294967296 ^ i % 4294967296 → Hid (∀ t, t < i + 1 → (S.set i x).getD t 0 = val D / 2 ^ (n % 32) / 4294967296 ^ t % 4294967296) := fun x hx t ht => by
          by_cases hti : t = i
          · subst hti; rw [NatP.getD_set_eq _ _ _ (by rw [hO.len]; exact hlt), hx]
          · rw [NatP.getD_set_ne _ _ _ _ (by omega)]; exact hL.out t (by omega)
        have HUx : ∀ x, Hid (∀ t, i + 1 ≤ t → (S.set i x).getD t 0 = val D / 4294967296 ^ t % 4294967296) := fun x t ht => by
          rw [NatP.getD_set_ne _ _ _ _ (by omega)]; exact hU.out t (by omega)
        have hcI : ∀ (z : Nat), ((z : Int) / 2 ^ (n % 32) % 4294967296) = ((z / 2 ^ (n % 32) % 4294967296 : Nat) : Int) := fun z => by
          have e : (z : Int) / 2 ^ (n % 32) = ((z / 2 ^ (n % 32) : Nat) : Int) := by rw [Int.natCast_ediv, Int.natCast_pow]; rfl
          rw [e]; omega
        have HcI := hid hcI
        have HS' := hid HSs
        have HN' := hid HNx
        have HU' := hid HUx
        have hBs := fun (X : Int) => hB.setCell (p := ⟨g, i, none⟩) hgl.1 (.int .u32 X)
        have HBs := hid hBs
        by_cases h2 : i + 1 < m
        · have hc2 := hO.cell h2
          rw [hU.out (i + 1) (by omega)] at hc2
          have hy : val D / 4294967296 ^ (i + 1) % 4294967296 < 4294967296 := Nat.mod_lt _ (by decide)
          generalize val D / 4294967296 ^ i % 4294967296 = x at *
          generalize val D / 4294967296 ^ (i + 1) % 4294967296 = y at *
          have HSHR := hid hshr
          have hor := shr_or y x hx hy
          have h2' : (i : Int) + 1 < (m : Int) := by omega
          clear hcI HSs HNx HUx hBs hO hL hU hshr
          go_wp2
          go_roundw
          case rel => exact ⟨i + 1, _, by omega, by go_num, HS'.out _ _ (HcI.out _) (Nat.mod_lt _ (by decide)), HN'.out _ HSHR.out, HU'.out _, HBs.out _⟩
          case measure => simp [intOf]; omega
        · have hy0 : val D / 4294967296 ^ (i + 1) % 4294967296 = 0 := by
            rw [Nat.div_eq_of_lt (Nat.lt_of_lt_of_le HVL.out (Nat.pow_le_pow_right (by decide) (by omega)))]
          rw [hy0] at hshr
          generalize val D / 4294967296 ^ i % 4294967296 = x at *
          simp only [Nat.zero_mul, Nat.zero_add] at hshr
          have HSHR := hid hshr
          have hor : bits BinOp.or IntKind.u64 0 (x : Int) = (x : Int) := by
            have := u64_or_nat 0 x (by omega) (by omega)
            rw [Nat.zero_or] at this
            exact this
          have h2' : ¬ (i : Int) + 1 < (m : Int) := by omega
          clear hcI HSs HNx HUx hBs hO hL hU hshr hy0
          go_wp2
          go_roundw
          case rel => exact ⟨i + 1, _, by omega, by go_num, HS'.out _ _ (HcI.out _) (Nat.mod_lt _ (by decide)), HN'.out _ HSHR.out, HU'.out _, HBs.out _⟩
          case measure => simp [intOf]; omega
      · obtain rfl : i = m := by omega
        have hD : Hid (val S = val l / 2 ^ n) := by
          show _ = _
          rw [← HV.out]
          exact val_of_limbs hO.len (Nat.lt_of_le_of_lt (Nat.div_le_self _ _) HVL.out) hL.out
        clear hL hU
        go_wp2_with fail
        refine (own_any hO.rd (by omega)).mono ?_
        rw [hD.out]
        rintro e w4 ⟨a4, n4, c4, rfl, hO4, hB4⟩
        go_wp2
        go_ret2
        exact ⟨a4, n4, c4, rfl, hO4.mono hB.size, hB.next hB4⟩

end Go.Proofs.YtoeldbdcbfgmoaaDoor

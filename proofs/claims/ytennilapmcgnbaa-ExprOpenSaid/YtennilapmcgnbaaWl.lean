/- WALKS, 12: shifts. -/
import Derived.Test.YtennilapmcgnbaaWk
import Derived.Test.YtennilapmcgnbaaPP
import Derived.RegionTactic
import Derived.StillTailTactics
namespace Go.Proofs.Ytennilapmcgnbaa
set_option linter.unusedVariables false
open Go.ChangeShapes Go.WideShapes Go.ChangeAt Go.RowKit Go.NatP

/-- a fresh slice of k limbs of that value -/
def RetVal (w : World) (k v : Nat) (e : Ending) (w' : World) : Prop :=
  ∃ a c l, e = .returned (.slice a k c) ∧ Own w.heap.size w' a k c l ∧ val l = v ∧ Below w.heap.size w w'

set_option maxHeartbeats 1000000 in
theorem left_any {w : World} {a : Option Addr} {k c : Nat} {l : List Nat} (hR : Rd w a k c l) (hk : k ≤ 16777216) (n : Int) (h0 : 0 ≤ n) (h1 : n ≤ 31) :
    Calls Try.prog 71 #[.slice a k c, .int .i64 n] w (RetVal w (k + 1) (val l * 2 ^ n.toNat)) := by
  obtain ⟨n, rfl⟩ := Int.eq_ofNat_of_zero_le h0
  rw [Int.toNat_natCast]
  have hn : n < 32 := by omega
  have hb := hR.bnd
  have HR := hid hR
  clear hR
  go_enter Try.func71, Try.ntmps71
  go_wp2_with (at_make; refine wpList_mk (B := w.heap.size) rfl _ _ rfl _ (k + 1) rfl rfl ?_ ?_ (Nat.le_refl _) ?_)
  · omega
  · omega
  intro w1 hO1 hK1
  have hB1 : Below w.heap.size w w1 := hK1.toBelow (fun _ _ h => h)
  have HV1 := hid (shlIn_start l (k + 1) n)
  go_wp2
  go_loopw [14] (fun iv wr => ∃ (i : Nat) (S : List Nat), i ≤ k ∧ iv = .int .i64 i ∧ Own w.heap.size wr (some ⟨w.heap.size, 0, none⟩) (k + 1) (k + 1) S ∧ Hid (ShlIn l S n i) ∧ Below w.heap.size w wr) (fun iv _ => k - (intOf iv).toNat)
  case atStart => exact ⟨0, _, by omega, rfl, hO1, HV1, hB1⟩
  case round =>
    clear hO1 hK1 hB1 HV1
    obtain ⟨i, S, hi, rfl, hO, hV, hB⟩ := hrel
    by_cases hlt : i < k
    · obtain ⟨ba, oa, rfl, hca⟩ := (HR.out.below hB).get hlt
      have hx := HR.out.lim.getD i
      have hc1 := hO.cell (i := i) (by omega)
      have hf1 := hO.free i
      have hc2 := hO.cell (i := i + 1) (by omega)
      have hf2 := hO.free (i + 1)
      obtain ⟨hl1, hl2, hl3⟩ := shl_low hn hx hV.out.2.1
      have HV := hid (shlIn_step hn HR.out.lim hV.out (by rw [hO.len]; omega))
      have HS1 := fun (v : Value) => hO.alloc
      have hSs : ∀ (X : Int), X = ((S.getD i 0 + l.getD i 0 * 2 ^ n % 4294967296 : Nat) : Int) → Own w.heap.size (wr.setCell ⟨w.heap.size, i, none⟩ (.int .u32 X)) (some ⟨w.heap.size, 0, none⟩) (k + 1) (k + 1) (S.set i (S.getD i 0 + l.getD i 0 * 2 ^ n % 4294967296)) :=
        fun X hX => hO.setI i _ hX hl1
      clear hV HS1
      obtain ⟨p, hpe⟩ : ∃ p : Nat, p = l.getD i 0 * 2 ^ n := ⟨_, rfl⟩
      have hpi : ((l.getD i 0 : Nat) : Int) * 2 ^ n = (p : Int) := by rw [hpe]; simp
      have hp : p ≤ 9223372034707292160 := by
        have h2 : (2 : Nat) ^ n ≤ 2 ^ 31 := Nat.pow_le_pow_right (by decide) (by omega)
        have : l.getD i 0 * 2 ^ n ≤ 4294967295 * 2 ^ 31 := Nat.mul_le_mul (by omega) h2
        omega
      rw [← hpe] at hl1 hl2 hl3 HV hSs
      generalize l.getD i 0 = x at *
      generalize hs0 : S.getD i 0 = s0 at *
      generalize hs1 : S.getD (i + 1) 0 = s1 at *
      have hor : bits BinOp.or IntKind.u32 (s0 : Int) ((p : Int) % 4294967296) = ((s0 + p % 4294967296 : Nat) : Int) := by
        have h := u32_or_nat s0 (p % 4294967296) (by omega) (by omega)
        rw [hl2] at h
        rw [← h]; congr 1
      have HS := hid hSs
      have HO := hid hO
      clear hs0 hs1 hpe hl2 hSs hO
      go_wp2
      go_region
      go_wp2
      go_roundw
      case rel =>
        have h1 := HS.out _ rfl
        refine ⟨i + 1, _, by omega, by go_num, h1.setI (i + 1) (p / 4294967296) ?_ ?_, HV, (hB.setCell (Nat.le_refl _) _).drew.setCell (Nat.le_refl _) _⟩
        · omega
        · omega
      case measure => simp [intOf]; omega
    · obtain rfl : i = k := by omega
      have hD : Hid (val S = val l * 2 ^ n) := by
        have := hV.out.1
        rw [val_take_all S _ (by rw [hO.len]; exact Nat.le_refl _), val_take_all l _ (by rw [HR.out.len]; exact Nat.le_refl _)] at this
        exact this
      clear hV
      go_wp2
      go_ret
      exact ⟨_, _, S, rfl, hO, hD.out, hB⟩

/-- make(Nat, q, d) -/
theorem wpList_mk2 {w : World} {ops : Array Oper} {rest : List Oper} {o : Oper} {A : Act} {Q : Exit → Act → World → Prop} {B : Nat} (hgd : o.guard = none) (lo co : Operand) (ho : o.op = Op.makeSlice 24 lo co) (L C : Int) (q d : Nat)
    (hl : A.eval lo = .int .i64 L) (hc : A.eval co = .int .i64 C) (hL : L = (q : Int)) (hC : C = (d : Int)) (hq : q ≤ d) (hn : d ≤ 1073741824) (hB : B ≤ w.heap.size)
    (h : ∀ w', Own B w' (some ⟨w.heap.size, 0, none⟩) q d (List.replicate q 0) → Kp (fun _ => False) w w' → wpList Try.prog ops Q rest (A.put o.dst (.slice (some ⟨w.heap.size, 0, none⟩) q d)) w') :
    wpList Try.prog ops Q (o :: rest) A w := by
  obtain ⟨i0, hi, hz, hz1, hz2⟩ := info_parts infoU32
  subst hL hC
  have hr := run_make (P := Try.prog) w 24 97 i0 (.int .u32 0) Try.underlying24 hi hz .i64 .i64 (q : Int) (d : Int) (by omega) (by omega) (by rw [hz2]; omega) (by omega)
  simp only [Int.toNat_natCast] at hr
  refine wpList_plain hgd fun K hK => ?_
  unfold Oper.wp execOp
  simp only [ho, Sem.run_bind, Sem.run_pure, Result.andThen_ok, hl, hc, hr]
  refine hK _ _ (h _ ⟨by simp, lim_replicate _ _ (by decide), by simp [encL], .inr ⟨w.heap.size, d, _, rfl, hB, heap_alloc_new w _, hq, by unfold maxLen; omega, ?_, ?_⟩⟩ ((Kp.refl _ w).alloc _))
  · rw [size_madeCells, hz1]
  · rw [hz1, Nat.mul_one, Nat.mul_one, show (Value.int IntKind.u32 0).cells = #[Value.int .u32 0] from rfl, toList_madeCells_one, List.take_replicate, Nat.min_eq_left hq]
    simp [encL]

/-- a number and an error's number -/
def RetE (w : World) (l : List Nat) (er : Int) (e : Ending) (w' : World) : Prop :=
  ∃ a n c, e = .returned (.tuple #[.slice a n c, .int .i64 er]) ∧ Own w.heap.size w' a n c l ∧ Below w.heap.size w w'

/-- s[q:] -/
theorem Rd.suf {w : World} {b o n c q : Nat} {l : List Nat} (h : Rd w (some ⟨b, o, none⟩) n c l) (hq : q ≤ n) : Rd w (some ⟨b, o + q, none⟩) (n - q) (c - q) (l.drop q) := by
  have hb := h.bnd
  refine ⟨by rw [List.length_drop, h.1], h.2.1.drop q, by omega, by have := h.2.2.2.1; omega, fun i hi => ⟨b, o + q, rfl, ?_⟩⟩
  have := h.cell (i := q + i) (by omega)
  rw [← Nat.add_assoc] at this
  rw [this]
  simp [List.getD_eq_getElem?_getD, List.getElem?_drop]

theorem shr_or (y x : Nat) (hx : x < 4294967296) (hy : y < 4294967296) : bits BinOp.or IntKind.u64 ((y : Int) * 4294967296) (x : Int) = ((y * 4294967296 + x : Nat) : Int) := by
  have h := u64_or_nat (y * 4294967296) x (by omega) (by omega)
  have e : y * 4294967296 ||| x = y * 4294967296 + x := by
    have := Nat.two_pow_add_eq_or_of_lt (i := 32) (b := x) (by simpa using hx) y
    rw [Nat.mul_comm] at this
    exact this.symm
  rw [e] at h
  rw [← h]
  congr 1

end Go.Proofs.Ytennilapmcgnbaa

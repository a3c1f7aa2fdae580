/- WALKS, 9: differences. -/
import Derived.Test.YtennilapmcgnbaaWh
namespace Go.Proofs.Ytennilapmcgnbaa
set_option linter.unusedVariables false
open Go.ChangeShapes Go.WideShapes Go.ChangeAt Go.RowKit Go.NatP

theorem sub_done {S la lb : List Nat} {n c : Nat} (hS : S.length = n) (hSL : Lim S) (ha : la.length = n) (haL : Lim la) (hbL : Lim lb) (hle : val lb ≤ val la)
    (h : val (S.take n) + val (lb.take n) = val (la.take n) + c * 4294967296 ^ n) : val S = val la - val lb := by
  have h1 := val_lt haL
  rw [ha] at h1
  rw [val_take_all S _ (by omega), val_take_all la _ (by omega), val_take_mod hbL, Nat.mod_eq_of_lt (by omega)] at h
  have h2 := val_lt hSL
  rw [hS] at h2
  rcases Nat.eq_zero_or_pos c with rfl | hc
  · omega
  · have : 4294967296 ^ n ≤ c * 4294967296 ^ n := Nat.le_mul_of_pos_left _ hc
    omega

/-- less: in place. -/
def RetLess (B : Nat) (w : World) (a : Option Addr) (n c r : Nat) (e : Ending) (w' : World) : Prop :=
  e = .returned (.tuple #[]) ∧ (∃ l, Own B w' a n c l ∧ val l = r) ∧ Kp (fun b => a = some ⟨b, 0, none⟩) w w'

set_option maxHeartbeats 1000000 in
theorem less_any {B : Nat} {w : World} {a b : Option Addr} {n c m d : Nat} {la lb : List Nat} (hO : Own B w a n c la) (hb : Rd w b m d lb)
    (hne : ∀ g, a = some ⟨g, 0, none⟩ → 0 < m → ∀ o, b ≠ some ⟨g, o, none⟩) (hle : val lb ≤ val la) (hn : n ≤ 16777216) :
    Calls Try.prog 69 #[.slice a n c, .slice b m d] w (RetLess B w a n c (val la - val lb)) := by
  have hb1 := hO.bnd
  have hb2 := hb.bnd
  rcases hO.cases with ⟨rfl, rfl, rfl, rfl⟩ | ⟨g, rfl, _, hg⟩
  · go_enter Try.func69, Try.ntmps69
    go_wp2
    go_loop [9] (fun i => i = .int .i64 0) (fun _ => 0)
    case atStart => rfl
    case round =>
      subst hrel
      go_wp2
      go_end0
      exact ⟨rfl, ⟨[], hO, by simp [val]⟩, Kp.refl _ _⟩
  · have hne' := hid hne
    have hbR := hid hb
    have hlaL := hO.lim
    have hlaN := hO.len
    have hle' := hid hle
    clear hne hb hle
    go_enter Try.func69, Try.ntmps69
    go_wp2
    go_loopw [4, 9] (fun cv iv wr => ∃ (i cy : Nat) (S : List Nat), i ≤ n ∧ iv = .int .i64 i ∧ cv = .int .u64 cy ∧ cy ≤ 1 ∧ Own B wr (some ⟨g, 0, none⟩) n c S ∧ Hid (val (S.take i) + val (lb.take i) = val (la.take i) + cy * 4294967296 ^ i) ∧ Hid (∀ t, i ≤ t → S.getD t 0 = la.getD t 0) ∧ Kp (fun b => (some ⟨g, 0, none⟩ : Option Addr) = some ⟨b, 0, none⟩) w wr) (fun _ iv _ => n - (intOf iv).toNat)
    case atStart => exact ⟨0, 0, la, by omega, rfl, rfl, by omega, hO, by show _ = _; simp [val], fun _ _ => rfl, Kp.refl _ _⟩
    case round =>
      clear hO
      obtain ⟨i, cy, S, hi, rfl, rfl, hcy, hO, hV, hU, hK⟩ := hrel
      by_cases hlt : i < n
      · have hcS := hO.cell hlt
        rw [hU.out i (Nat.le_refl _)] at hcS
        have hfS := hO.free i
        have hx := hlaL.getD i
        have hy := hbR.out.lim.getD i
        have HV := fun s => val_set_take S i s (by rw [hO.len]; exact hlt)
        have HS := fun (X : Int) (x : Nat) (hX : X = (x : Int)) (hx : x < 4294967296) => hO.setI i x hX hx
        have HU : ∀ s t, i + 1 ≤ t → (S.set i s).getD t 0 = la.getD t 0 := fun s t ht => by
          rw [NatP.getD_set_ne _ _ _ _ (by omega)]; exact hU.out t (by omega)
        have HN : ∀ t b', (la.getD i 0) + b' * 4294967296 = lb.getD i 0 + cy + t →
            val (S.take i) + t * 4294967296 ^ i + val (lb.take (i + 1)) = val (la.take (i + 1)) + b' * 4294967296 ^ (i + 1) := fun t b' h => by
          rw [val_take_succ', val_take_succ', Nat.pow_succ]
          exact sub_step hV.out h
        have HKn := fun v => hK.setCell (ad := ⟨g, i, none⟩) (p := fun b => (some ⟨g, 0, none⟩ : Option Addr) = some ⟨b, 0, none⟩) rfl v
        by_cases hM : i < m
        · obtain ⟨bb, ob, rfl, hcb⟩ := hbR.out.get hM
          have hcb : wr.cell? ⟨bb, ob + i, none⟩ = some (.int .u32 (lb.getD i 0 : Nat)) := by
            rw [World.cell?_of_block (w := w) (hK.block bb (World.block_lt_of_cell? w _ hcb) (fun e => by cases e; exact hne'.out g rfl (by omega) ob rfl))]
            exact hcb
          generalize la.getD i 0 = x at *
          generalize lb.getD i 0 = y at *
          have HV' := hid HV
          have HS' := hid HS
          have HU' := hid HU
          have HN' := hid HN
          have HK' := hid HKn
          clear HV HS HU HN HKn hV hU hK
          by_cases hxy : x < cy + y
          · go_wp2
            go_roundw
            case rel => exact ⟨i + 1, 1, S.set i ((x + 4294967296 - (cy + y)) % 4294967296), by omega, by go_num, rfl, by omega, HS'.out _ _ (by omega) (by omega), by show _ = _; rw [HV'.out]; exact HN'.out _ _ (by omega), HU'.out _, HK'.out _⟩
            case measure => simp [intOf]; omega
          · go_wp2
            go_roundw
            case rel => exact ⟨i + 1, 0, S.set i (x - (cy + y)), by omega, by go_num, rfl, by omega, HS'.out _ _ (by omega) (by omega), by show _ = _; rw [HV'.out]; exact HN'.out _ _ (by omega), HU'.out _, HK'.out _⟩
            case measure => simp [intOf]; omega
        · have hy0 : lb.getD i 0 = 0 := getD_ge _ _ (by rw [hbR.out.len]; omega)
          rw [hy0] at HN
          generalize la.getD i 0 = x at *
          have HV' := hid HV
          have HS' := hid HS
          have HU' := hid HU
          have HN' := hid HN
          have HK' := hid HKn
          clear HV HS HU HN HKn hV hU hK hy0 hy
          by_cases hxy : x < cy
          · go_wp2
            go_roundw
            case rel => exact ⟨i + 1, 1, S.set i ((x + 4294967296 - cy) % 4294967296), by omega, by go_num, rfl, by omega, HS'.out _ _ (by omega) (by omega), by show _ = _; rw [HV'.out]; exact HN'.out _ _ (by omega), HU'.out _, HK'.out _⟩
            case measure => simp [intOf]; omega
          · go_wp2
            go_roundw
            case rel => exact ⟨i + 1, 0, S.set i (x - cy), by omega, by go_num, rfl, by omega, HS'.out _ _ (by omega) (by omega), by show _ = _; rw [HV'.out]; exact HN'.out _ _ (by omega), HU'.out _, HK'.out _⟩
            case measure => simp [intOf]; omega
      · obtain rfl : i = n := by omega
        have hD := sub_done hO.len hO.lim hlaN hlaL hbR.out.lim hle'.out hV.out
        have hD' := hid hD
        have hK' := hid hK
        clear hV hU hD hK
        go_wp2
        go_end0
        exact ⟨rfl, ⟨S, hO, hD'.out⟩, hK'.out⟩

/-- A difference, and whether there is one. -/
def RetSub (w : World) (x y : Nat) (e : Ending) (w' : World) : Prop :=
  ∃ a n c, e = .returned (.tuple #[.slice a n c, .bool (decide (y ≤ x))]) ∧ Own w.heap.size w' a n c (lm (x - y)) ∧ Below w.heap.size w w'

set_option maxHeartbeats 1000000 in
theorem sub_any {w : World} {a b : Option Addr} {n c m d : Nat} {la lb : List Nat} (ha : Rd w a n c la) (hb : Rd w b m d lb) (hn : n ≤ 16777216) :
    Calls Try.prog 50 #[.slice a n c, .slice b m d] w (RetSub w (val la) (val lb)) := by
  obtain ⟨k, hk⟩ : ∃ k, (lm (val la)).length = k := ⟨_, rfl⟩
  obtain ⟨j, hj⟩ : ∃ j, (lm (val lb)).length = j := ⟨_, rfl⟩
  have hk' := hid hk
  have hj' := hid hj
  have hkn : k ≤ n := (ha.trim hk).2
  clear hk hj
  by_cases hle : val lb ≤ val la
  · have hc : 0 ≤ cmpI (val la) (val lb) := Int.not_lt.1 fun h => by have := cmpI_neg.1 h; omega
    have HD : Hid (decide (val lb ≤ val la) = true) := decide_eq_true hle
    have HL := hid hle
    have HC := hid (cmp_any ha hb)
    generalize cmpI (val la) (val lb) = z at *
    clear hle
    go_enter Try.func50, Try.ntmps50
    go_wp2_with fail
    refine HC.out.mono ?_
    rintro e w1 ⟨rfl, hD1⟩
    have ha1 := hD1.rd ha
    have hb1 := hD1.rd hb
    go_wp2_with fail
    refine (trim_any ha1 hk'.out).mono ?_
    rintro e w' ⟨rfl, rfl⟩
    go_wp2_with fail
    refine (clone_any (ha1.trim hk'.out).1 (by omega)).mono ?_
    rintro e w2 ⟨a2, n2, c2, rfl, hO2, hB2⟩
    have hb2 := hb1.below hB2
    go_wp2_with fail
    refine (trim_any hb2 hj'.out).mono ?_
    rintro e w' ⟨rfl, rfl⟩
    have hlen2 := hO2.len
    go_wp2_with fail
    refine (less_any hO2 (hb2.trim hj'.out).1 ?_ ?_ ?_).mono ?_
    · rintro g rfl hj0 o rfl
      have h1 := hO2.lt
      obtain ⟨bb, ob, e, hc⟩ := (hb1.trim hj'.out).1.get hj0
      cases e
      have := World.block_lt_of_cell? _ _ hc
      simp only at this
      omega
    · rw [val_lm, val_lm]; exact HL.out
    · have := hk'.out; omega
    rintro e w3 ⟨rfl, ⟨l3, hO3, hv3⟩, hK3⟩
    rw [val_lm, val_lm] at hv3
    have hv3' := hid hv3
    have hB3 : Below w.heap.size w w3 := by
      have h1 : Below w.heap.size w w1 := hD1.below _
      exact (h1.next hB2).kp hK3 (h1.next hB2).size fun g hg e => by subst e; have := hO2.lt; have := h1.size; omega
    clear hv3
    go_wp2_with fail
    refine (own_any hO3.rd ?_).mono ?_
    · have := hk'.out; omega
    rw [hv3'.out]
    rintro e w4 ⟨a4, n4, c4, rfl, hO4, hB4⟩
    go_wp2
    go_ret2
    exact ⟨a4, n4, c4, by rw [HD.out]; rfl, hO4.mono hB3.size, hB3.next hB4⟩
  · have hc : cmpI (val la) (val lb) < 0 := cmpI_neg.2 (by omega)
    have HD : Hid (decide (val lb ≤ val la) = false) := decide_eq_false hle
    have HC := hid (cmp_any ha hb)
    have HL : Hid (lm (val la - val lb) = []) := lm_eq_nil.2 (by omega)
    generalize cmpI (val la) (val lb) = z at *
    clear hle
    go_enter Try.func50, Try.ntmps50
    go_wp2_with fail
    refine HC.out.mono ?_
    rintro e w1 ⟨rfl, hD1⟩
    go_wp2
    go_ret2
    exact ⟨none, 0, 0, by rw [HD.out]; rfl, by rw [HL.out]; exact own_nil _ _, hD1.below _⟩

end Go.Proofs.Ytennilapmcgnbaa

/- WALKS OF FLOATS, 7: a float's value: floats of other names, of 32 bits, and what is no number. -/
import Derived.Test.YtdjicmpanfnajaaDoorFq
namespace Go.Proofs.YtdjicmpanfnajaaDoor
set_option linter.unusedVariables false
set_option linter.unusedSimpArgs false
open Go.ChangeShapes Go.WideShapes Go.ChangeAt Go.RowKit Go.NatP Go.FloatP

def cN (s : Nat) (w : World) : Nat := (Question.nanConv .f64 s).cut (w.tape w.drawn (.nanConv .f64 s))
theorem cN_nan (s : Nat) (w : World) : fnan (cN s w) = true ∧ cN s w < 18446744073709551616 := by
  unfold cN Question.cut
  generalize w.tape w.drawn (.nanConv .f64 s) = t
  show decide (9218868437227405312 < fr (t % 2 * 2 ^ 63 + 0x7ff0000000000000 + 1 + t / 2 % (2 ^ 52 - 1))) = true ∧ t % 2 * 2 ^ 63 + 0x7ff0000000000000 + 1 + t / 2 % (2 ^ 52 - 1) < 18446744073709551616
  have h1 : t / 2 % (2 ^ 52 - 1) < 4503599627370495 := Nat.mod_lt _ (by decide)
  generalize t / 2 % (2 ^ 52 - 1) = m at *
  have h2 : t % 2 < 2 := Nat.mod_lt _ (by decide)
  generalize t % 2 = k at *
  unfold fr
  exact ⟨decide_eq_true (by omega), by omega⟩
theorem run_conv_nan {src dst : TypeId} (s : Nat) (hn : nan32 s = true) (hs : (Tryd.prog.underlying src).isSome = true) (hd : Tryd.prog.underlying dst = some (.float .f64)) (w : World) :
    (convert src dst (.float .f32 s)).run Tryd.prog w = .ok (.float .f64 (cN s w)) w.drew := by
  obtain ⟨u, hs'⟩ := Option.isSome_iff_exists.1 hs
  obtain ⟨sg, t, he⟩ : ∃ sg t, FloatKind.f32.decode s = .nan sg t := by
    rcases read32 s with ⟨_, sg, t, h⟩ | ⟨h, _⟩ | ⟨h, _⟩
    · exact ⟨sg, t, h⟩
    · rw [hn] at h; cases h
    · rw [hn] at h; cases h
  have hq : (Question.nanConv FloatKind.f64 s).forced = false := rfl
  cases u <;> simp [convert, run_underlying hs', run_underlying hd, Conv.floatToFloat, he, hq] <;> rfl

theorem ord_inf {r : Nat} (h : r = 9218868437227405312) : (FloatKind.f64.format.order r 9218868437227405311 == some .gt) = true := by
  subst h; decide +kernel
set_option maxRecDepth 100000 in
theorem isinf_inf {w : World} {x : Nat} (hx : x < 18446744073709551616) (h : fr x = 9218868437227405312) : Calls Tryd.prog 15 #[.float .f64 x, .int .i64 0] w fun e w' => e = .returned (.bool true) ∧ w' = w := by
  have ha := hid (fun w => abs_any (w := w) x hx)
  have ho := ord_inf h
  generalize fr x = r at *
  clear h hx
  go_enter Tryd.func15, Tryd.ntmps15
  go_wp2_with fail
  refine (ha.out _).mono ?_
  rintro e w1 ⟨rfl, rfl⟩
  go_wp2
  go_ret
  exact ⟨rfl, rfl⟩

set_option maxRecDepth 100000 in
set_option maxHeartbeats 4000000 in
theorem nofe64n {w : World} (x : Nat) (hx : x < 18446744073709551616) (hf : fnan x = true) :
    Calls Tryd.prog 6 #[.float .f64 x] w (RetQE w 0 13) := by
  have HN : Hid (∀ w, Calls Tryd.prog 14 #[.float .f64 x] w (fun e w' => e = .returned (.bool true) ∧ Below w.heap.size w w')) := fun w => ((show Calls Tryd.prog 14 #[.float .f64 x] w (fun e w' => e = .returned (.bool true) ∧ w' = w) from hf ▸ isnan_any x)).mono fun e w' ⟨h1, h2⟩ => ⟨h1, by rw [h2]; exact Below.refl _ _⟩
  clear hf
  have hent := ent1 w #[Value.bool false, Value.slice none 0 0, Value.slice none 0 0] 30
  go_enter Tryd.func6, Tryd.ntmps6
  go_wp2_with fail
  generalize (w.alloc (.cells #[Value.bool false, Value.slice none 0 0, Value.slice none 0 0] 30)) = W0 at hent ⊢
  obtain ⟨R_0, hbel_0, hsz_0⟩ := hent
  have cR_0_0 : _ = some (Value.bool false) := R_0.cell 0
  have fR_0_0 := R_0.free 0
  have cR_0_1 : _ = some (Value.slice none 0 0) := R_0.cell 1
  have fR_0_1 := R_0.free 1
  have cR_0_2 : _ = some (Value.slice none 0 0) := R_0.cell 2
  have fR_0_2 := R_0.free 2
  go_wp2_with fail
  refine (HN.out _).mono ?_
  rintro e w1 ⟨rfl, hB⟩
  have hB_1 : Below W0.heap.size W0 w1 := (bl.next hB)
  have R_1 := R_0.next hB_1
  have cR_1_0 : _ = some (Value.bool false) := R_1.cell 0
  have fR_1_0 := R_1.free 0
  have cR_1_1 : _ = some (Value.slice none 0 0) := R_1.cell 1
  have fR_1_1 := R_1.free 1
  have cR_1_2 : _ = some (Value.slice none 0 0) := R_1.cell 2
  have fR_1_2 := R_1.free 2
  have hbel_1 := hbel_0.next hB_1
  have hsz_1 := hB_1.size
  clear R_0 cR_0_0 fR_0_0 cR_0_1 fR_0_1 cR_0_2 fR_0_2 hbel_0 hB_1
  try clear hB
  go_wp2
  refine bodyPost_ret (v := .tuple #[.agg #[.bool false, .slice none 0 0, .slice none 0 0], .int .i64 13]) (by simp [results, Tryd.results6, go_sem, cR_1_0, cR_1_1, cR_1_2]) rfl ?_
  exact retqe_nil (by decide) hbel_1 (by omega)

set_option maxRecDepth 100000 in
set_option maxHeartbeats 4000000 in
theorem nofe64i {w : World} (x : Nat) (hx : x < 18446744073709551616) (hf : fr x = 9218868437227405312) :
    Calls Tryd.prog 6 #[.float .f64 x] w (RetQE w 0 13) := by
  have hn0 : fnan x = false := by unfold fnan; rw [hf]; rfl
  have HN : Hid (∀ w, Calls Tryd.prog 14 #[.float .f64 x] w (fun e w' => e = .returned (.bool false) ∧ Below w.heap.size w w')) := fun w => ((show Calls Tryd.prog 14 #[.float .f64 x] w (fun e w' => e = .returned (.bool false) ∧ w' = w) from hn0 ▸ isnan_any x)).mono fun e w' ⟨h1, h2⟩ => ⟨h1, by rw [h2]; exact Below.refl _ _⟩
  have HI : Hid (∀ w, Calls Tryd.prog 15 #[.float .f64 x, .int .i64 0] w (fun e w' => e = .returned (.bool true) ∧ Below w.heap.size w w')) := fun w => (isinf_inf hx hf).mono fun e w' ⟨h1, h2⟩ => ⟨h1, by rw [h2]; exact Below.refl _ _⟩
  clear hf hn0
  have hent := ent1 w #[Value.bool false, Value.slice none 0 0, Value.slice none 0 0] 30
  go_enter Tryd.func6, Tryd.ntmps6
  go_wp2_with fail
  generalize (w.alloc (.cells #[Value.bool false, Value.slice none 0 0, Value.slice none 0 0] 30)) = W0 at hent ⊢
  obtain ⟨R_0, hbel_0, hsz_0⟩ := hent
  have cR_0_0 : _ = some (Value.bool false) := R_0.cell 0
  have fR_0_0 := R_0.free 0
  have cR_0_1 : _ = some (Value.slice none 0 0) := R_0.cell 1
  have fR_0_1 := R_0.free 1
  have cR_0_2 : _ = some (Value.slice none 0 0) := R_0.cell 2
  have fR_0_2 := R_0.free 2
  go_wp2_with fail
  refine (HN.out _).mono ?_
  rintro e w1 ⟨rfl, hB⟩
  have hB_1 : Below W0.heap.size W0 w1 := (bl.next hB)
  have R_1 := R_0.next hB_1
  have cR_1_0 : _ = some (Value.bool false) := R_1.cell 0
  have fR_1_0 := R_1.free 0
  have cR_1_1 : _ = some (Value.slice none 0 0) := R_1.cell 1
  have fR_1_1 := R_1.free 1
  have cR_1_2 : _ = some (Value.slice none 0 0) := R_1.cell 2
  have fR_1_2 := R_1.free 2
  have hbel_1 := hbel_0.next hB_1
  have hsz_1 := hB_1.size
  clear R_0 cR_0_0 fR_0_0 cR_0_1 fR_0_1 cR_0_2 fR_0_2 hbel_0 hB_1
  try clear hB
  go_wp2_with fail
  refine (HI.out _).mono ?_
  rintro e w2 ⟨rfl, hB⟩
  have hB_2 : Below w1.heap.size w1 w2 := (bl.next hB)
  have R_2 := R_1.next hB_2
  have cR_2_0 : _ = some (Value.bool false) := R_2.cell 0
  have fR_2_0 := R_2.free 0
  have cR_2_1 : _ = some (Value.slice none 0 0) := R_2.cell 1
  have fR_2_1 := R_2.free 1
  have cR_2_2 : _ = some (Value.slice none 0 0) := R_2.cell 2
  have fR_2_2 := R_2.free 2
  have hbel_2 := hbel_1.next hB_2
  have hsz_2 := hB_2.size
  clear R_1 cR_1_0 fR_1_0 cR_1_1 fR_1_1 cR_1_2 fR_1_2 hbel_1 hB_2
  try clear hB
  go_wp2
  refine bodyPost_ret (v := .tuple #[.agg #[.bool false, .slice none 0 0, .slice none 0 0], .int .i64 13]) (by simp [results, Tryd.results6, go_sem, cR_2_0, cR_2_1, cR_2_2]) rfl ?_
  exact retqe_nil (by decide) hbel_2 (by omega)

/-- the value of a float, and its error -/
def fq (x : Nat) : Rat := if fr x < 9218868437227405312 then flV (fs x) (fr x) else 0
def fe (x : Nat) : Int := if fr x < 9218868437227405312 then 0 else 13
theorem fnan_of {x : Nat} (h : ¬ fr x < 9218868437227405312) (h2 : fr x ≠ 9218868437227405312) : fnan x = true := decide_eq_true (by omega)
theorem f_nan {x : Nat} (h : fnan x = true) : fq x = 0 ∧ fe x = 13 := by
  have h2 : ¬ fr x < 9218868437227405312 := by have := of_decide_eq_true h; omega
  exact ⟨if_neg h2, if_neg h2⟩
/-- the value of a float of 32 bits, and its error -/
def fq32 (s : Nat) : Rat := if nan32 s then 0 else fq (c32 s)
def fe32 (s : Nat) : Int := if nan32 s then 13 else fe (c32 s)

theorem near64 {w : World} (x : Nat) (hx : x < 18446744073709551616) : Calls Tryd.prog 6 #[.float .f64 x] w (RetQE w (fq x) (fe x)) := by
  unfold fq fe
  by_cases h : fr x < 9218868437227405312
  · rw [if_pos h, if_pos h]
    by_cases h0 : fr x = 0
    · rw [h0]; exact nof64z x hx h0
    · exact nof64 x hx h h0
  · rw [if_neg h, if_neg h]
    by_cases h2 : fr x = 9218868437227405312
    · exact nofe64i x hx h2
    · exact nofe64n x hx (fnan_of h h2)

end Go.Proofs.YtdjicmpanfnajaaDoor

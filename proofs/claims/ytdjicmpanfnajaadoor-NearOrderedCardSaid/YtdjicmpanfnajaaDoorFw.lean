/- WALKS OF FLOATS, 9: the reference's Of. -/
import Derived.Test.YtdjicmpanfnajaaDoorFu
namespace Go.Proofs.YtdjicmpanfnajaaDoor
set_option linter.unusedVariables false
set_option linter.unusedSimpArgs false
open Go.ChangeShapes Go.WideShapes Go.ChangeAt Go.RowKit Go.NatP Go.FloatP

theorem two_sz {k j : Nat} (h : k < 32 * j) : Sz (2 ^ k) j := by
  show 2 ^ k < 4294967296 ^ j
  rw [show (4294967296 : Nat) = 2 ^ 32 from rfl, ← Nat.pow_mul]
  exact Nat.pow_lt_pow_right (by decide) h
theorem fg_sz {r : Nat} (h : r < 9218868437227405312) : Sz (fg r) 66 := by
  unfold fg
  split
  · rename_i h1
    exact (show Sz r 2 by show r < 4294967296 ^ 2; omega).mono (Nat.le_refl _) (by omega)
  · obtain ⟨k, hk⟩ : ∃ k, r / 4503599627370496 - 1 = k := ⟨_, rfl⟩
    have h1 : Sz (4503599627370496 + r % 4503599627370496) 2 := by
      show _ < 4294967296 ^ 2
      have := Nat.mod_lt r (show 0 < 4503599627370496 by decide); omega
    rw [hk]
    exact h1.mul (two_sz (k := k) (j := 64) (by omega))
theorem e74_sz : Sz (2 ^ E74) 66 := two_sz (by show 1074 < 32 * 66; decide)
theorem retqe_nil0 {w w2 : World} {q : Rat} {er : Int} (he : er ≠ 0) (hB : Below w.heap.size w w2) :
    RetQE w q er (.returned (.tuple #[.agg #[.bool false, .slice none 0 0, .slice none 0 0], .int .i64 er])) w2 := by
  obtain ⟨h1, h2, h3⟩ := q_err q he
  refine ⟨none, 0, 0, none, 0, 0, by rw [h1], ?_, ?_, diff_nil _, hB⟩
  · rw [h2]; exact own_nil _ _
  · rw [h3]; exact own_nil _ _
theorem nb_nan (x y : Nat) (t : Nat) : fnan ((Question.nanBits .f64 x y).cut t) = true := by
  unfold Question.cut
  show decide (9218868437227405312 < fr (t % 2 * 2 ^ 63 + 0x7ff0000000000000 + 1 + t / 2 % (2 ^ 52 - 1))) = true
  have h1 : t / 2 % (2 ^ 52 - 1) < 4503599627370495 := Nat.mod_lt _ (by decide)
  generalize t / 2 % (2 ^ 52 - 1) = m at *
  have h2 : t % 2 < 2 := Nat.mod_lt _ (by decide)
  generalize t % 2 = k at *
  unfold fr
  exact decide_eq_true (by omega)
def nB (x : Nat) (w : World) : Nat := (Question.nanBits .f64 x x).cut (w.tape w.drawn (.nanBits .f64 x x))
theorem nB_ne (x : Nat) (w : World) : (FloatKind.f64.format.order (nB x w) 0 != some .eq) = true := by
  have h : fnan (nB x w) = true := nb_nan _ _ _
  have h2 : FloatKind.f64.format.order (nB x w) 0 = none := fcmp_nan (.inl h)
  rw [h2]; rfl
theorem run_sub_inf {x : Nat} (h : fr x = 9218868437227405312) (w : World) : (binOp .sub 22 (.float .f64 x) (.float .f64 x)).run Tryd.prog w = .ok (.float .f64 (nB x w)) w.drew := by
  have hs : FloatKind.f64.format.sub x x = none := sub_self_inf h
  have hq : (Question.nanBits FloatKind.f64 x x).forced = false := rfl
  simp [binOp, Op.floatArith, hs, hq]
  rfl

end Go.Proofs.YtdjicmpanfnajaaDoor

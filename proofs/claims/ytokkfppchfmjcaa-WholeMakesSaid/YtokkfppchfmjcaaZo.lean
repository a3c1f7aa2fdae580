/- WALKS OF WHOLE NUMBERS, 12: the statements' own equal, size, big. -/
import Derived.Test.YtokkfppchfmjcaaZg
import Derived.Test.YtokkfppchfmjcaaZi
import Derived.Test.YtokkfppchfmjcaaZk
namespace Go.Proofs.Ytokkfppchfmjcaa
set_option linter.unusedVariables false
set_option linter.unusedSimpArgs false
open Go.ChangeShapes Go.WideShapes Go.ChangeAt Go.RowKit Go.NatP

set_option maxRecDepth 100000 in
set_option maxHeartbeats 4000000 in
theorem big_any {w : World} {a : Option Addr} {n c : Nat} {la : List Nat} (s : Bool) (ha : Rd w a n c la) (hn : n ≤ 9223372036854775807) :
    Calls Try.prog 8 #[.agg #[.bool s, .slice a n c]] w (fun e w' => e = .returned (.bool (decide (30 < n))) ∧ Below w.heap.size w w') := by
  have hent := ent1 w #[Value.bool s, Value.slice a n c] 25
  go_enter Try.func8, Try.ntmps8
  go_wp2_with fail
  generalize (w.alloc (.cells #[Value.bool s, Value.slice a n c] 25)) = W0 at hent ⊢
  obtain ⟨Xa_0, hbel, hsz⟩ := hent
  have Xa_0_0 : _ = some (Value.bool s) := Xa_0.cell 0
  have Xa_0_1 : _ = some (Value.slice a n c) := Xa_0.cell 1
  have HA := hid (fun W (h : Below W0.heap.size W0 W) => ha.below (hbel.next h))
  have hza := hid ha.szv
  clear ha
  go_ret
  exact ⟨by simp; omega, hbel⟩

end Go.Proofs.Ytokkfppchfmjcaa
/- WALKS OF WHOLE NUMBERS, 13: a few numbers are reckoned with. -/
namespace Go.Proofs.Ytokkfppchfmjcaa
set_option linter.unusedVariables false
set_option linter.unusedSimpArgs false
open Go.ChangeShapes Go.WideShapes Go.ChangeAt Go.RowKit Go.NatP

theorem bz_x240 : bzX 240 46 1 0 = -9 := by
  rw [bzX_step (by decide), bzX_step (by decide), bzX_step (by decide), bzX_step (by decide), bzX_step (by decide), bzX_end (by decide)]; decide
theorem bz_y240 : bzX 240 46 0 1 = 47 := by
  rw [bzX_step (by decide), bzX_step (by decide), bzX_step (by decide), bzX_step (by decide), bzX_step (by decide), bzX_end (by decide)]; decide
theorem floor72 {w : World} {a : Option Addr} {n c : Nat} {b : Option Addr} {m d : Nat} (ha : Rd w a n c (lm (Int.natAbs (-7)))) (hn : n ≤ 4194304) (hb : Rd w b m d (lm (Int.natAbs 2))) (hm : m ≤ 4194304) :
    Calls Try.prog 50 #[.agg #[.bool true, .slice a n c], .agg #[.bool false, .slice b m d]] w (RetZZ w (-4) 1 0) := by
  have h := zfloor_any true false ha hn hb hm
  simp only [val_lm] at h
  exact h
theorem bez240 {w : World} {a : Option Addr} {n c : Nat} {b : Option Addr} {m d : Nat} (ha : Rd w a n c (lm (Int.natAbs 240))) (hn : n ≤ 4194304) (hb : Rd w b m d (lm (Int.natAbs (-46)))) (hm : m ≤ 4194304) :
    Calls Try.prog 67 #[.agg #[.bool false, .slice a n c], .agg #[.bool true, .slice b m d]] w (RetBz w 2 (-9) (-47)) := by
  have h := zbez_any false true ha hn hb hm
  simp only [val_lm] at h
  rw [show Nat.gcd (Int.natAbs 240) (Int.natAbs (-46)) = 2 from by decide, show bzX (Int.natAbs 240) (Int.natAbs (-46)) 1 0 = -9 from bz_x240, show bzX (Int.natAbs 240) (Int.natAbs (-46)) 0 1 = 47 from bz_y240] at h
  exact h

end Go.Proofs.Ytokkfppchfmjcaa
/- WALKS OF WHOLE NUMBERS, 14: the contracts with their values named. -/
namespace Go.Proofs.Ytokkfppchfmjcaa
set_option linter.unusedVariables false
open Go.ChangeShapes Go.WideShapes Go.ChangeAt Go.RowKit Go.NatP

theorem zvlm (z : Int) : zv (decide (z < 0)) (val (lm z.natAbs)) = z := by rw [val_lm, zv_self]
theorem szI_add {x y z : Int} {k : Nat} (hx : Sz x.natAbs k) (hy : Sz y.natAbs k) (h : x + y = z) : Sz z.natAbs (k + 1) := (hx.add hy).mono (by omega) (Nat.le_refl _)
theorem szI_sub {x y z : Int} {k : Nat} (hx : Sz x.natAbs k) (hy : Sz y.natAbs k) (h : x - y = z) : Sz z.natAbs (k + 1) := (hx.add hy).mono (by omega) (Nat.le_refl _)
theorem szI_mul {x y z : Int} {j k : Nat} (hx : Sz x.natAbs j) (hy : Sz y.natAbs k) (h : x * y = z) : Sz z.natAbs (j + k) := by
  have := hx.mul hy
  rwa [← Int.natAbs_mul, h] at this
theorem szI_neg {x z : Int} {k : Nat} (hx : Sz x.natAbs k) (h : -x = z) : Sz z.natAbs k := hx.mono (by omega) (Nat.le_refl _)
theorem szI_le {x z : Int} {k : Nat} (hx : Sz x.natAbs k) (h : z.natAbs ≤ x.natAbs) : Sz z.natAbs k := hx.mono h (Nat.le_refl _)
section
variable {W : World} {i k : Option Addr} {j c l d : Nat} {la lb : List Nat} {s t : Bool} {x y z : Int}
theorem zaddG (ha : Rd W i j c la) (hn : j ≤ 4194304) (hb : Rd W k l d lb) (hm : l ≤ 4194304) (hx : zv s (val la) = x) (hy : zv t (val lb) = y) (hz : x + y = z) :
    Calls Try.prog 41 #[.agg #[.bool s, .slice i j c], .agg #[.bool t, .slice k l d]] W (RetZ W z) := by
  rw [← hz, ← hx, ← hy]
  exact zadd_any s t ha hb hn hm
theorem zmulG (ha : Rd W i j c la) (hn : j ≤ 4194304) (hb : Rd W k l d lb) (hm : l ≤ 4194304) (hx : zv s (val la) = x) (hy : zv t (val lb) = y) (hz : x * y = z) :
    Calls Try.prog 65 #[.agg #[.bool s, .slice i j c], .agg #[.bool t, .slice k l d]] W (RetZ W z) := by
  rw [← hz, ← hx, ← hy]
  exact zmul_any s t ha hb hn hm
theorem zsubG (ha : Rd W i j c la) (hn : j ≤ 4194304) (hb : Rd W k l d lb) (hm : l ≤ 4194304) (hx : zv s (val la) = x) (hy : zv t (val lb) = y) (hz : x - y = z) :
    Calls Try.prog 46 #[.agg #[.bool s, .slice i j c], .agg #[.bool t, .slice k l d]] W (RetZ W z) := by
  rw [← hz, ← hx, ← hy]
  exact zsub_any s t ha hn hb hm
theorem znegG (ha : Rd W i j c la) (hn : j ≤ 4194304) (hx : zv s (val la) = x) (hz : -x = z) :
    Calls Try.prog 64 #[.agg #[.bool s, .slice i j c]] W (RetZ W z) := by
  have h := zneg_any s ha (show j ≤ 16777216 by omega)
  rw [hx, hz] at h
  exact h
theorem zofG {q : Int} (h1 : -9223372036854775808 ≤ q) (h2 : q ≤ 9223372036854775807) (hz : q = z) :
    Calls Try.prog 29 #[.int .i64 q] W (RetZ W z) := by
  rw [← hz]
  exact zofi_any q h1 h2
theorem zcmpG (ha : Rd W i j c la) (hn : j ≤ 4194304) (hb : Rd W k l d lb) (hm : l ≤ 4194304) (hx : zv s (val la) = x) (hy : zv t (val lb) = y) {e : Int} (he : cmpZ x y = e) :
    Calls Try.prog 28 #[.agg #[.bool s, .slice i j c], .agg #[.bool t, .slice k l d]] W (RetIb W e) := by
  rw [← he, ← hx, ← hy]
  exact zcmp_any s t ha hn hb hm
theorem zsignG (ha : Rd W i j c la) (hn : j ≤ 4194304) (hx : zv s (val la) = x) {e : Int} (he : sgn x = e) :
    Calls Try.prog 27 #[.agg #[.bool s, .slice i j c]] W (RetIb W e) := by
  rw [← he, ← hx]
  exact zsign_any s ha (by omega)
theorem zquoG (ha : Rd W i j c la) (hn : j ≤ 4194304) (hb : Rd W k l d lb) (hm : l ≤ 4194304) (hx : zv s (val la) = x) (hy : zv t (val lb) = y) {q r er : Int} (hq : zv (!(s == t)) (val la / val lb) = q) (hr : zv s (dvR (val la) (val lb)) = r) (he : dvE (val lb) = er) :
    Calls Try.prog 66 #[.agg #[.bool s, .slice i j c], .agg #[.bool t, .slice k l d]] W (RetZZ W q r er) := by
  rw [← hq, ← hr, ← he]
  exact zquo_any s t ha hn hb hm
theorem zfloorG (ha : Rd W i j c la) (hn : j ≤ 4194304) (hb : Rd W k l d lb) (hm : l ≤ 4194304) (hx : zv s (val la) = x) (hy : zv t (val lb) = y) {q r er : Int} (hq : (if dvE (val lb) = 0 ∧ sgn (zv s (dvR (val la) (val lb))) * sgn (zv t (val lb)) < 0 then zv (!(s == t)) (val la / val lb) - 1 else zv (!(s == t)) (val la / val lb)) = q) (hr : (if dvE (val lb) = 0 ∧ sgn (zv s (dvR (val la) (val lb))) * sgn (zv t (val lb)) < 0 then zv s (dvR (val la) (val lb)) + zv t (val lb) else zv s (dvR (val la) (val lb))) = r) (he : dvE (val lb) = er) :
    Calls Try.prog 50 #[.agg #[.bool s, .slice i j c], .agg #[.bool t, .slice k l d]] W (RetZZ W q r er) := by
  rw [← hq, ← hr, ← he]
  exact zfloor_any s t ha hn hb hm
theorem zbezG (ha : Rd W i j c la) (hn : j ≤ 4194304) (hb : Rd W k l d lb) (hm : l ≤ 4194304) (hx : zv s (val la) = x) (hy : zv t (val lb) = y) {q r : Int} {g : Nat} (hg : Nat.gcd (val la) (val lb) = g) (hq : bzS (zv s (val la)) (bzX (val la) (val lb) 1 0) = q) (hr : bzS (zv t (val lb)) (bzX (val la) (val lb) 0 1) = r) :
    Calls Try.prog 67 #[.agg #[.bool s, .slice i j c], .agg #[.bool t, .slice k l d]] W (RetBz W g q r) := by
  rw [← hg, ← hq, ← hr]
  exact zbez_any s t ha hn hb hm
theorem ztextG (ha : Rd W i j c la) (hn : j ≤ 4194304) (hx : zv s (val la) = x) {e : ByteArray} (he : ztx x = e) :
    Calls Try.prog 69 #[.agg #[.bool s, .slice i j c]] W (RetT W e) := by
  rw [← he, ← hx]
  exact ztext_any s ha (by omega)
end
end Go.Proofs.Ytokkfppchfmjcaa

/- WALKS OF FRACTIONS, 16: Norm; the reference's opposites, differences, products, quotients, comparison. -/
import Derived.Test.YtnpkmlpmeeidbaaRQm
namespace Go.Proofs.Ytnpkmlpmeeidbaa
set_option linter.unusedVariables false
set_option linter.unusedSimpArgs false
open Go.ChangeShapes Go.WideShapes Go.ChangeAt Go.RowKit Go.NatP

set_option maxRecDepth 100000 in
set_option maxHeartbeats 4000000 in
theorem qnorm {w : World} {a b : Option Addr} {n c m d v : Nat} {s : Bool} {x : Int} (hx : RdZ 4194304 w s a n c x) (hd : RdN 4194304 w b m d v) :
    Calls Try.prog 128 #[.agg #[.bool s, .slice a n c, .slice b m d]] w (RetQE w (Rat.divInt x (v : Int)) (zE (v : Int))) := by
  have hent := ent2 w #[Value.bool s, Value.slice a n c, Value.slice b m d] #[Value.bool false, Value.slice none 0 0, Value.slice none 0 0] 29 29
  go_enter Try.func128, Try.ntmps128
  go_wp2_with fail
  generalize ((w.alloc (.cells #[Value.bool s, Value.slice a n c, Value.slice b m d] 29)).alloc (.cells #[Value.bool false, Value.slice none 0 0, Value.slice none 0 0] 29)) = W0 at hent ⊢
  obtain ⟨X_0, R0_0, hbel_0, hsz_0⟩ := hent
  have cX_0_0 : _ = some (Value.bool s) := X_0.cell 0
  have cX_0_1 : _ = some (Value.slice a n c) := X_0.cell 1
  have cX_0_2 : _ = some (Value.slice b m d) := X_0.cell 2
  have cR0_0_0 : _ = some (Value.bool false) := R0_0.cell 0
  have fR0_0_0 := R0_0.free 0
  have cR0_0_1 : _ = some (Value.slice none 0 0) := R0_0.cell 1
  have fR0_0_1 := R0_0.free 1
  have cR0_0_2 : _ = some (Value.slice none 0 0) := R0_0.cell 2
  have fR0_0_2 := R0_0.free 2
  have hx_0 := hx.below hbel_0
  clear hx
  have hd_0 := hd.below hbel_0
  clear hd
  go_wp2_with fail
  refine (qnew hx_0 hd_0.toI).mono ?_
  rintro e w1 ⟨qa, qn, qc, da, dn, dc, rfl, hO, hO', hD, hB⟩
  have hB_1 : Below W0.heap.size W0 w1 := (bl.next hB)
  have X_1 := X_0.next hB_1
  have cX_1_0 : _ = some (Value.bool s) := X_1.cell 0
  have cX_1_1 : _ = some (Value.slice a n c) := X_1.cell 1
  have cX_1_2 : _ = some (Value.slice b m d) := X_1.cell 2
  have R0_1 := R0_0.next hB_1
  have cR0_1_0 : _ = some (Value.bool false) := R0_1.cell 0
  have fR0_1_0 := R0_1.free 0
  have cR0_1_1 : _ = some (Value.slice none 0 0) := R0_1.cell 1
  have fR0_1_1 := R0_1.free 1
  have cR0_1_2 : _ = some (Value.slice none 0 0) := R0_1.cell 2
  have fR0_1_2 := R0_1.free 2
  have hx_1 := hx_0.below hB_1
  have hd_1 := hd_0.below hB_1
  have hbel_1 := hbel_0.next hB_1
  have hsz_1 := hB_1.size
  clear X_0 cX_0_0 cX_0_1 cX_0_2 R0_0 cR0_0_0 fR0_0_0 cR0_0_1 fR0_0_1 cR0_0_2 fR0_0_2 hx_0 hd_0 hbel_0 hB_1
  have OQ_1 := hO
  have ltOQ := hO.ltB
  have OD_1 := hO'
  have ltOD := hO'.ltB
  clear hO hO'
  try clear hB
  go_wp2
  refine bodyPost_ret (v := .tuple #[.agg #[.bool (qsg (Rat.divInt x (v : Int)) (zE (v : Int))), .slice qa qn qc, .slice da dn dc], .int .i64 (zE (v : Int))]) (by simp [results, Try.results128, go_sem, cR0_1_0, cR0_1_1, cR0_1_2]) rfl ?_
  exact retqe_set OQ_1 OD_1 hD hbel_1 (by omega) (by omega)

end Go.Proofs.Ytnpkmlpmeeidbaa

/- WALKS OF EXPRESSIONS, 1: parts in memory. -/
import Derived.Test.YtennilapmcgnbaaQn
import Derived.Test.YtennilapmcgnbaaQt
import Derived.Test.YtennilapmcgnbaaHd
import Derived.Deep.MidRow
namespace Go.Proofs.Ytennilapmcgnbaa
set_option linter.unusedVariables false
set_option linter.unusedSimpArgs false
open Go.ChangeShapes Go.WideShapes Go.ChangeAt Go.RowKit Go.NatP

/-- a fraction's cells -/
structure FX where
  s : Bool
  a : Option Addr
  n : Nat
  c : Nat
  b : Option Addr
  m : Nat
  d : Nat
def FX.o : FX := ⟨false, none, 0, 0, none, 0, 0⟩
def FX.cs (x : FX) : List Value := [.bool x.s, .slice x.a x.n x.c, .slice x.b x.m x.d]
/-- a part's cells -/
structure PX where
  kind : Int
  deep : Int
  v : FX
  bad : Bool
  opn : Bool
  A : FX
  B : FX
  C : FX
  D : FX
def PX.o : PX := ⟨0, 0, FX.o, false, false, FX.o, FX.o, FX.o, FX.o⟩
def PX.arr (p : PX) : Array Value := #[.int .i8 p.kind, .int .i64 p.deep, .bool p.v.s, .slice p.v.a p.v.n p.v.c, .slice p.v.b p.v.m p.v.d, .bool p.bad, .bool p.opn,
  .bool p.A.s, .slice p.A.a p.A.n p.A.c, .slice p.A.b p.A.m p.A.d, .bool p.B.s, .slice p.B.a p.B.n p.B.c, .slice p.B.b p.B.m p.B.d,
  .bool p.C.s, .slice p.C.a p.C.n p.C.c, .slice p.C.b p.C.m p.C.d, .bool p.D.s, .slice p.D.a p.D.n p.D.c, .slice p.D.b p.D.m p.D.d]
/-- a line's cells -/
structure LX where
  A : FX
  B : FX
  C : FX
  D : FX
def LX.o : LX := ⟨FX.o, FX.o, FX.o, FX.o⟩
def LX.arr (p : LX) : Array Value := #[.bool p.A.s, .slice p.A.a p.A.n p.A.c, .slice p.A.b p.A.m p.A.d, .bool p.B.s, .slice p.B.a p.B.n p.B.c, .slice p.B.b p.B.m p.B.d,
  .bool p.C.s, .slice p.C.a p.C.n p.C.c, .slice p.C.b p.C.m p.C.d, .bool p.D.s, .slice p.D.a p.D.n p.D.c, .slice p.D.b p.D.m p.D.d]

/-! ### a block as a whole -/
section
variable {P : Program} {W w : World} {g : Nat} {C D : Array Value} {T : TypeId} {d : TypeDesc}
theorem blk_rng (h : Blk W g C) : W.rangeAt g 0 C.toList := fun j v hv => by
  rw [Nat.zero_add, h.cell j]; simpa using hv
theorem blk_there (h : Blk W g C) : W.there g 0 C.size := fun j hj => by
  rw [Nat.zero_add]
  exact ⟨by rw [h.cell j, Array.getElem?_eq_getElem hj]; rfl, h.free j⟩
theorem blk_loadV (h : Blk W g C) (hu : P.underlying T = some d) (hd : d.isRow = true) (hi : (P.info? T).map (·.size) = some C.size) : (loadVar T ⟨g, 0, none⟩).run P W = .ok (.agg C) W := by
  have := run_loadVar_mid W g 0 T C.toList d (blk_rng h) hu hd (by simpa using hi)
  simpa using this
theorem blk_load (h : Blk W g C) (hu : P.underlying T = some d) (hd : d.isRow = true) (hi : (P.info? T).map (·.size) = some C.size) :
    (Instr.loadAt T (.pointer (some ⟨g, 0, none⟩))).run P W = .ok (.agg C) W := by
  have := run_loadAt_mid W g 0 T C.toList d (blk_rng h) hu hd (by simpa using hi)
  simpa using this
theorem res_blk {fn : Func} {p : Tmp} {tmps : Array Value} (h : fn.results = #[.cell p T]) (hp : tmps.getD p undef = .pointer (some ⟨g, 0, none⟩)) (hb : Blk W g C) (hu : P.underlying T = some d) (hd : d.isRow = true) (hi : (P.info? T).map (·.size) = some C.size) : (results fn tmps).run P W = .ok (.agg C) W := by
  obtain ⟨t, hg⟩ := hb
  exact results_cell_row h tmps W g t C (0, 0) d hp hg hu (by cases d <;> simp_all) hi
theorem res_blk_tmp {fn : Func} {p u : Tmp} {tmps : Array Value} {v : Value} (h : fn.results = #[.cell p T, .tmp u]) (hp : tmps.getD p undef = .pointer (some ⟨g, 0, none⟩)) (hv : tmps.getD u undef = v) (hb : Blk W g C) (hu : P.underlying T = some d) (hd : d.isRow = true) (hi : (P.info? T).map (·.size) = some C.size) : (results fn tmps).run P W = .ok (.tuple #[.agg C, v]) W := by
  rw [results_cell_tmp h, hp, hv]
  show (Result.andThen (.ok (⟨g, 0, none⟩ : Addr) W) _) = _
  rw [Result.andThen_ok, blk_loadV hb hu hd hi, Result.andThen_ok]
/-- a load of a whole block, as it stands in a region -/
theorem exec_loadB {o : Oper} {A : Act} (ty : TypeId) (x : Operand) (ho : o.op = .load ty x) (hx : A.eval x = .pointer (some ⟨g, 0, none⟩)) (h : Blk W g C) (hu : P.underlying ty = some d) (hd : d.isRow = true) (hi : (P.info? ty).map (·.size) = some C.size) :
    (execOp A.eval o).run P W = .ok (.value (.agg C)) W := by
  unfold execOp
  simp only [ho, hx, Sem.run_bind, blk_load h hu hd hi, Result.andThen_ok, Sem.run_pure]
theorem setCells_kp (vs : List Value) : ∀ (o : Nat) (W : World), Kp (fun j => j = g) W (W.setCells g o vs) := by
  induction vs with
  | nil => exact fun o W => Kp.refl _ _
  | cons v r ih => exact fun o W => ((Kp.refl (fun j => j = g) W).setCell (ad := ⟨g, o, none⟩) rfl v).kp (ih (o + 1) _) (fun k hk e => .inl e)
theorem setCells_blk : ∀ (vs pre post : List Value) (W : World), Blk W g (pre ++ post).toArray → vs.length = post.length → Blk (W.setCells g pre.length vs) g (pre ++ vs).toArray
  | [], pre, post, W, h, hl => by
    have : post = [] := List.eq_nil_of_length_eq_zero hl.symm
    subst this
    exact h
  | v :: r, pre, post, W, h, hl => by
    cases post with
    | nil => cases hl
    | cons u q =>
      have h1 := h.setCell (i := pre.length) (v := v) (by simp)
      have e : ((pre ++ u :: q).toArray.set pre.length v (by simp)) = ((pre ++ [v]) ++ q).toArray := by
        simp [List.set_append_right]
      rw [e] at h1
      have h2 := setCells_blk r (pre ++ [v]) q _ h1 (by simpa using hl)
      rw [List.length_append] at h2
      have e2 : pre ++ [v] ++ r = pre ++ v :: r := by simp
      rw [e2] at h2
      exact h2
theorem blk_storeB (h : Blk W g C) (hs : D.size = C.size) : Blk (W.setCells g 0 D.toList) g D := by
  have := setCells_blk (g := g) D.toList [] C.toList W (by simpa using h) (by simpa using hs)
  simpa using this
end
/-- loads and stores of whole parts and lines, in regions that do not draw -/
theorem wpList_loadP {w : World} {ops : Array Oper} {rest : List Oper} {o : Oper} {A : Act} {Q : Exit → Act → World → Prop} (hgd : o.guard = none) (x : Operand) (ho : o.op = .load 67 x) {g : Nat} {p : PX} (hx : A.eval x = .pointer (some ⟨g, 0, none⟩)) (hb : Blk w g p.arr)
    (h : wpList Try.prog ops Q rest (A.put o.dst (.agg p.arr)) w) : wpList Try.prog ops Q (o :: rest) A w :=
  wpList_load_mid hgd 67 x ho g 0 hx p.arr.toList _ (blk_rng hb) Try.underlying67 rfl (by kernel_rfl) (by simpa using h)
theorem wpList_loadL {w : World} {ops : Array Oper} {rest : List Oper} {o : Oper} {A : Act} {Q : Exit → Act → World → Prop} (hgd : o.guard = none) (x : Operand) (ho : o.op = .load 32 x) {g : Nat} {p : LX} (hx : A.eval x = .pointer (some ⟨g, 0, none⟩)) (hb : Blk w g p.arr)
    (h : wpList Try.prog ops Q rest (A.put o.dst (.agg p.arr)) w) : wpList Try.prog ops Q (o :: rest) A w :=
  wpList_load_mid hgd 32 x ho g 0 hx p.arr.toList _ (blk_rng hb) Try.underlying32 rfl (by kernel_rfl) (by simpa using h)
theorem wp_loadP {w : World} {o : Oper} {A : Act} {K : Act → World → Prop} {Q : Exit → Act → World → Prop} (x : Operand) (ho : o.op = .load 67 x) {g : Nat} {p : PX} (hx : A.eval x = .pointer (some ⟨g, 0, none⟩)) (hb : Blk w g p.arr)
    (h : K (A.put o.dst (.agg p.arr)) w) : o.wp Try.prog A w K Q :=
  wp_load_mid 67 x ho g 0 hx p.arr.toList _ (blk_rng hb) Try.underlying67 rfl (by kernel_rfl) (by simpa using h)
theorem wp_loadL {w : World} {o : Oper} {A : Act} {K : Act → World → Prop} {Q : Exit → Act → World → Prop} (x : Operand) (ho : o.op = .load 32 x) {g : Nat} {p : LX} (hx : A.eval x = .pointer (some ⟨g, 0, none⟩)) (hb : Blk w g p.arr)
    (h : K (A.put o.dst (.agg p.arr)) w) : o.wp Try.prog A w K Q :=
  wp_load_mid 32 x ho g 0 hx p.arr.toList _ (blk_rng hb) Try.underlying32 rfl (by kernel_rfl) (by simpa using h)
theorem wp_storeP {w : World} {o : Oper} {A : Act} {K : Act → World → Prop} {Q : Exit → Act → World → Prop} (x y : Operand) (ho : o.op = .store 67 x y) {g : Nat} {p q : PX} (hx : A.eval x = .pointer (some ⟨g, 0, none⟩)) (hy : A.eval y = .agg p.arr) (hb : Blk w g q.arr)
    (h : ∀ w', Blk w' g p.arr → Kp (fun j => j = g) w w' → K (A.put o.dst undef) w') : o.wp Try.prog A w K Q :=
  wp_store_mid 67 x y ho g 0 p.arr hx hy (by rw [show p.arr.size = q.arr.size from rfl]; exact blk_there hb) (by kernel_rfl) (by kernel_rfl) (h _ (blk_storeB hb rfl) (setCells_kp _ _ _))
theorem wp_storeL {w : World} {o : Oper} {A : Act} {K : Act → World → Prop} {Q : Exit → Act → World → Prop} (x y : Operand) (ho : o.op = .store 32 x y) {g : Nat} {p q : LX} (hx : A.eval x = .pointer (some ⟨g, 0, none⟩)) (hy : A.eval y = .agg p.arr) (hb : Blk w g q.arr)
    (h : ∀ w', Blk w' g p.arr → Kp (fun j => j = g) w w' → K (A.put o.dst undef) w') : o.wp Try.prog A w K Q :=
  wp_store_mid 32 x y ho g 0 p.arr hx hy (by rw [show p.arr.size = q.arr.size from rfl]; exact blk_there hb) (by kernel_rfl) (by kernel_rfl) (h _ (blk_storeB hb rfl) (setCells_kp _ _ _))
theorem wpList_storeP {w : World} {ops : Array Oper} {rest : List Oper} {o : Oper} {A : Act} {Q : Exit → Act → World → Prop} (hgd : o.guard = none) (x y : Operand) (ho : o.op = .store 67 x y) {g : Nat} {p q : PX} (hx : A.eval x = .pointer (some ⟨g, 0, none⟩)) (hy : A.eval y = .agg p.arr) (hb : Blk w g q.arr)
    (h : ∀ w', Blk w' g p.arr → Kp (fun j => j = g) w w' → wpList Try.prog ops Q rest (A.put o.dst undef) w') : wpList Try.prog ops Q (o :: rest) A w :=
  wpList_store_mid hgd 67 x y ho g 0 p.arr hx hy (by rw [show p.arr.size = q.arr.size from rfl]; exact blk_there hb) (by kernel_rfl) (by kernel_rfl) (h _ (blk_storeB hb rfl) (setCells_kp _ _ _))
theorem wpList_storeL {w : World} {ops : Array Oper} {rest : List Oper} {o : Oper} {A : Act} {Q : Exit → Act → World → Prop} (hgd : o.guard = none) (x y : Operand) (ho : o.op = .store 32 x y) {g : Nat} {p q : LX} (hx : A.eval x = .pointer (some ⟨g, 0, none⟩)) (hy : A.eval y = .agg p.arr) (hb : Blk w g q.arr)
    (h : ∀ w', Blk w' g p.arr → Kp (fun j => j = g) w w' → wpList Try.prog ops Q rest (A.put o.dst undef) w') : wpList Try.prog ops Q (o :: rest) A w :=
  wpList_store_mid hgd 32 x y ho g 0 p.arr hx hy (by rw [show p.arr.size = q.arr.size from rfl]; exact blk_there hb) (by kernel_rfl) (by kernel_rfl) (h _ (blk_storeB hb rfl) (setCells_kp _ _ _))

def RetBl (w : World) (b : Bool) (e : Ending) (w' : World) : Prop := e = .returned (.bool b) ∧ Below w.heap.size w w'
set_option maxRecDepth 100000 in
set_option maxHeartbeats 1000000 in
theorem single_any {w : World} (p : PX) : Calls Try.prog 76 #[.agg p.arr] w (RetBl w (p.kind == 1 || p.kind == 6)) := by
  obtain ⟨X, hbel, hsz⟩ := ent1 w p.arr 67
  have x0 : _ = some (Value.int .i8 p.kind) := X.cell 0
  cases h1 : p.kind == 1 <;> cases h6 : p.kind == 6
  all_goals (go_enter Try.func76, Try.ntmps76; go_wp2; go_ret; exact ⟨rfl, hbel⟩)
set_option maxRecDepth 100000 in
set_option maxHeartbeats 1000000 in
theorem sum_any {w : World} (p : PX) : Calls Try.prog 77 #[.agg p.arr] w (RetBl w (p.kind == 2 || p.kind == 3)) := by
  obtain ⟨X, hbel, hsz⟩ := ent1 w p.arr 67
  have x0 : _ = some (Value.int .i8 p.kind) := X.cell 0
  cases h1 : p.kind == 2 <;> cases h6 : p.kind == 3
  all_goals (go_enter Try.func77, Try.ntmps77; go_wp2; go_ret; exact ⟨rfl, hbel⟩)
/-- how deep a part is, in brackets or not -/
def dpB (b : Bool) (d : Int) : Int := if b then d + 1 else d
set_option maxRecDepth 100000 in
set_option maxHeartbeats 1000000 in
theorem within_any {w : World} (p : PX) (b : Bool) (h0 : 0 ≤ p.deep) (h1 : p.deep ≤ 1000000) : Calls Try.prog 75 #[.agg p.arr, .bool b] w (RetIb w (dpB b p.deep)) := by
  obtain ⟨X, hbel, hsz⟩ := ent1 w p.arr 67
  have x0 : _ = some (Value.int .i64 p.deep) := X.cell 1
  cases b
  all_goals (go_enter Try.func75, Try.ntmps75; go_wp2; go_ret; exact ⟨rfl, hbel⟩)
end Go.Proofs.Ytennilapmcgnbaa

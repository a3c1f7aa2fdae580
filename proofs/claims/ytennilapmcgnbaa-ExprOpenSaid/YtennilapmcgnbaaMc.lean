/- MEMORY, 2: slices of bytes of the call's own; texts. -/
import Derived.Test.YtennilapmcgnbaaW1
import Derived.Test.YtennilapmcgnbaaPP
import Derived.Laws.BytesArg
import Derived.RegionTactic
import Derived.BigRegion
namespace Go.Proofs.Ytennilapmcgnbaa
set_option linter.unusedVariables false
open Go.ChangeShapes Go.WideShapes Go.ChangeAt Go.RowKit Go.NatP

def encB (l : List Nat) : List Value := l.map fun n : Nat => Value.int .u8 (n : Int)
theorem encB_length (l : List Nat) : (encB l).length = l.length := by simp [encB]
theorem encB_get {l : List Nat} {i : Nat} (h : i < l.length) : (encB l)[i]? = some (Value.int .u8 (l.getD i 0 : Nat)) := by
  simp [encB, List.getD_eq_getElem?_getD, List.getElem?_eq_getElem h]
theorem encB_set (l : List Nat) (i x : Nat) : (encB l).set i (Value.int .u8 (x : Int)) = encB (l.set i x) := by
  simp [encB, List.map_set]

/-- A SLICE OF BYTES OF THE CALL'S OWN. -/
def OwnB (B : Nat) (w : World) (a : Option Addr) (n c : Nat) (l : List Nat) : Prop :=
  l.length = n ∧ (∀ x ∈ l, x < 256) ∧ w.ownsRow B 5 1 (.slice a n c) n (encB l)
/-- a text of such bytes -/
def txt (l : List Nat) : ByteArray := strOfNums (l.map fun n : Nat => (n : Int))

section
variable {B : Nat} {w w' : World} {a : Option Addr} {n c : Nat} {l : List Nat}
theorem OwnB.len (h : OwnB B w a n c l) : l.length = n := h.1
theorem OwnB.bnd (h : OwnB B w a n c l) : n ≤ c ∧ c ≤ 9223372036854775807 := ⟨(ownsRow_bnd h.2.2).1, by have := (ownsRow_bnd h.2.2).2.1; unfold maxLen at this; omega⟩
theorem OwnB.byte (h : OwnB B w a n c l) (i : Nat) : l.getD i 0 < 256 := by
  rw [List.getD_eq_getElem?_getD]
  rcases hn : l[i]? with _ | x
  · simp
  · exact h.2.1 x (List.mem_of_getElem? hn)
theorem OwnB.cases (h : OwnB B w a n c l) : (a = none ∧ n = 0 ∧ c = 0 ∧ l = []) ∨ ∃ g, a = some ⟨g, 0, none⟩ ∧ B ≤ g ∧ g < w.heap.size := by
  rcases ownsRow_cases h.2.2 with ⟨h1, h2, h3, h4⟩ | h1
  · exact .inl ⟨h1, h2, h3, by simpa [encB] using h4⟩
  · exact .inr h1
theorem OwnB.lt {g : Nat} (h : OwnB B w (some ⟨g, 0, none⟩) n c l) : B ≤ g ∧ g < w.heap.size := by
  rcases h.cases with ⟨h1, _⟩ | ⟨g', h1, h2⟩
  · cases h1
  · cases h1; exact h2
theorem OwnB.cell {g : Nat} (h : OwnB B w (some ⟨g, 0, none⟩) n c l) {i : Nat} (hi : i < n) : w.cell? ⟨g, i, none⟩ = some (.int .u8 (l.getD i 0 : Nat)) := by
  rw [h.2.2.cellAt i (by omega)]
  exact encB_get (by rw [h.1]; exact hi)
theorem OwnB.free {g : Nat} (h : OwnB B w (some ⟨g, 0, none⟩) n c l) (i : Nat) : w.frozen? ⟨g, i, none⟩ = false := h.2.2.frozenAt i
theorem OwnB.set {g : Nat} (h : OwnB B w (some ⟨g, 0, none⟩) n c l) (i x : Nat) (hx : x < 256) :
    OwnB B (w.setCell ⟨g, i, none⟩ (.int .u8 (x : Int))) (some ⟨g, 0, none⟩) n c (l.set i x) :=
  ⟨by simpa using h.1, fun y hy => by
    rcases List.mem_or_eq_of_mem_set hy with hy | rfl
    · exact h.2.1 y hy
    · exact hx, by rw [← encB_set]; exact (h.2.2.stored i _).1⟩
theorem OwnB.below (h : OwnB B w a n c l) (hb : Below w.heap.size w w') : OwnB B w' a n c l :=
  ⟨h.1, h.2.1, ownsRow_block h.2.2 fun g e => by subst e; exact hb.block g h.lt.2⟩
theorem OwnB.kp {p : Nat → Prop} (h : OwnB B w a n c l) (hk : Kp p w w') (hp : ∀ g, a = some ⟨g, 0, none⟩ → ¬ p g) : OwnB B w' a n c l :=
  ⟨h.1, h.2.1, ownsRow_block h.2.2 fun g e => by subst e; exact hk.block g h.lt.2 (hp g rfl)⟩
theorem OwnB.alloc (h : OwnB B w a n c l) (o : Obj) : OwnB B (w.alloc o) a n c l := h.below ((Below.refl _ _).alloc (Nat.le_refl _) o)
theorem OwnB.drewN (h : OwnB B w a n c l) (k : Nat) : OwnB B (w.drewN k) a n c l := h
theorem OwnB.drew (h : OwnB B w a n c l) : OwnB B w.drew a n c l := h
theorem ownB_nil (B : Nat) (w : World) : OwnB B w none 0 0 [] := ⟨rfl, (fun _ h => by cases h), World.ownsRow_nil w B _ 1⟩
theorem ownB_lt (hO : OwnB B w a n c l) : ∀ k, k < B → ¬ (a = some ⟨k, 0, none⟩) := by
  intro j hj e
  subst e
  have := hO.lt
  omega
end

theorem infoU8 : (Try.prog.info? 5).map (fun i => (i.zero, i.size, i.bytes)) = some (some (.int .u8 0), 1, 1) := by kernel_rfl

/-- append of one byte -/
theorem wpList_appB1 {w : World} {ops : Array Oper} {rest : List Oper} {o : Oper} {A : Act} {Q : Exit → Act → World → Prop} {B : Nat} {sa : Option Addr} {n c y : Nat} {l : List Nat} (hgd : o.guard = none) (s x : Operand)
    (ho : o.op = .call { callee := .builtin .append, args := #[s, x], argTypes := #[107, 107] })
    (hs : A.eval s = .slice sa n c) (hO : OwnB B w sa n c l) (g d : Nat) (hx : A.eval x = .slice (some ⟨g, 0, none⟩) 1 d)
    (hyl : y < 256) (hy : w.cell? ⟨g, 0, none⟩ = some (.int .u8 (y : Int))) (hB : B ≤ w.heap.size) (hn : n + 1 ≤ 1073741824)
    (h : ∀ a' c' w', OwnB B w' a' (n + 1) c' (l ++ [y]) → Kp (fun k => sa = some ⟨k, 0, none⟩) w w' → wpList Try.prog ops Q rest (A.put o.dst (.slice a' (n + 1) c')) w') :
    wpList Try.prog ops Q (o :: rest) A w := by
  obtain ⟨a', c', w', hr, hown, hk, _⟩ := row_append (w := w) 107 o.type Try.underlying107 infoU8 rfl (by decide) hO.2.2 ⟨g, 0, none⟩ 1 d (news := [Value.int .u8 (y : Int)]) rfl
    (fun j v hv => by
      have hj : j = 0 := by have := (List.getElem?_eq_some_iff.1 hv).1; simpa using this
      subst hj
      cases hv
      exact hy) (fun v hv => by rw [List.mem_singleton.1 hv]; rfl) hB hn
  refine wpList_plain hgd fun K hK => ?_
  unfold Oper.wp execOp
  simp only [ho, resolve, invoke, builtin, Sem.run_bind, Sem.run_pure, Result.andThen_ok, List.map_toArray, List.map_cons, List.map_nil, hs, hx, hr]
  refine hK _ _ (h a' c' w' ⟨by rw [List.length_append, hO.1]; rfl, fun z hz => ?_, ?_⟩ hk)
  · rcases List.mem_append.1 hz with hz | hz
    · exact hO.2.1 z hz
    · rw [List.mem_singleton.1 hz]; exact hyl
  · have : encB (l ++ [y]) = encB l ++ [Value.int .u8 (y : Int)] := by simp [encB]
    rw [this]; exact hown

/-- string(b) -/
theorem ownB_string {B : Nat} {w : World} {g n c : Nat} {l : List Nat} (hO : OwnB B w (some ⟨g, 0, none⟩) n c l) :
    (convert 107 9 (.slice (some ⟨g, 0, none⟩) n c)).run Try.prog w = .ok (.string (txt l)) w := by
  refine run_convert_bytes_arg w 107 5 Try.underlying107 Try.underlying5 g 0 n c _ (by simp [hO.1]) (fun i hi => ?_) 9 Try.underlying9
  rw [Nat.zero_add, hO.cell hi]
  congr 2
  have : i < l.length := by rw [hO.1]; exact hi
  simp [List.getD_eq_getElem?_getD, List.getElem?_eq_getElem this]

/-- reversed in place -/
def RetRev (B : Nat) (w : World) (a : Option Addr) (n c : Nat) (l : List Nat) (e : Ending) (w' : World) : Prop :=
  e = .returned (.tuple #[]) ∧ OwnB B w' a n c l.reverse ∧ Kp (fun b => a = some ⟨b, 0, none⟩) w w'

/-- the outer k of each side exchanged -/
def RevTo (l S : List Nat) (k : Nat) : Prop := S.length = l.length ∧ ∀ t, t < l.length → S.getD t 0 = if t < k ∨ l.length - k ≤ t then l.getD (l.length - 1 - t) 0 else l.getD t 0

theorem revTo_step {l S : List Nat} {k : Nat} (h : RevTo l S k) (hk : k + k + 1 < l.length) :
    RevTo l ((S.set k (l.getD (l.length - 1 - k) 0)).set (l.length - 1 - k) (l.getD k 0)) (k + 1) := by
  refine ⟨by simp [h.1], fun t ht => ?_⟩
  by_cases h1 : t = l.length - 1 - k
  · subst h1
    rw [NatP.getD_set_eq _ _ _ (by simp [h.1]; omega), if_pos (by omega)]
    congr 1; omega
  · rw [NatP.getD_set_ne _ _ _ _ (by omega)]
    by_cases h2 : t = k
    · subst h2
      rw [NatP.getD_set_eq _ _ _ (by rw [h.1]; omega), if_pos (by omega)]
    · rw [NatP.getD_set_ne _ _ _ _ (by omega), h.2 t ht]
      by_cases h3 : t < k ∨ l.length - k ≤ t
      · rw [if_pos h3, if_pos (by omega)]
      · rw [if_neg h3, if_neg (by omega)]

theorem revTo_done {l S : List Nat} {k : Nat} (h : RevTo l S k) (hk : l.length ≤ k + k + 1) : S = l.reverse := by
  refine list_eq_of_getD (by rw [h.1]; simp) fun t ht => ?_
  rw [h.1] at ht
  rw [h.2 t ht]
  have e : l.reverse.getD t 0 = l.getD (l.length - 1 - t) 0 := by
    simp [List.getD_eq_getElem?_getD, List.getElem?_reverse ht]
  rw [e]
  split
  · rfl
  · congr 1; omega

set_option maxHeartbeats 2000000 in
theorem reverse_any {B : Nat} {w : World} {a : Option Addr} {n c : Nat} {l : List Nat} (hO : OwnB B w a n c l) :
    Calls Try.prog 64 #[.slice a n c] w (RetRev B w a n c l) := by
  have hb := hO.bnd
  by_cases h0 : n = 0
  · subst h0
    have hl : l = [] := List.eq_nil_of_length_eq_zero hO.len
    subst hl
    go_enter Try.func64, Try.ntmps64
    go_wp2
    go_loop [2, 3] (fun i j => i = .int .i64 0 ∧ j = .int .i64 (-1)) (fun _ _ => 0)
    case atStart => exact ⟨rfl, rfl⟩
    case round =>
      obtain ⟨rfl, rfl⟩ := hrel
      go_wp2
      go_end0
      exact ⟨rfl, by simpa using hO, Kp.refl _ _⟩
  · obtain ⟨g, rfl⟩ : ∃ g, a = some ⟨g, 0, none⟩ := by
      rcases hO.cases with ⟨_, h, _⟩ | ⟨g, h, _⟩
      · omega
      · exact ⟨g, h⟩
    have hlen := hid hO.len
    have hn1 : 1 ≤ n := by omega
    have HB := hid hO.byte
    have HR : Hid (RevTo l l 0) := ⟨rfl, fun t ht => by rw [if_neg (by omega)]⟩
    go_enter Try.func64, Try.ntmps64
    go_wp2
    go_loopw [2, 3] (fun i j wr => ∃ (k m : Nat) (S : List Nat), k + k ≤ n ∧ k + m + 1 = n ∧ i = .int .i64 k ∧ j = .int .i64 m ∧ OwnB B wr (some ⟨g, 0, none⟩) n c S ∧ Hid (RevTo l S k) ∧ Kp (fun b => (some ⟨g, 0, none⟩ : Option Addr) = some ⟨b, 0, none⟩) w wr) (fun i _ _ => n - (intOf i).toNat)
    case atStart => exact ⟨0, n - 1, l, by omega, by omega, rfl, by go_num, hO, HR, Kp.refl _ _⟩
    case round =>
      clear hO HR
      obtain ⟨k, m, S, hk, hkm, rfl, rfl, hO, hR, hK⟩ := hrel
      have hm1 : m ≤ n - 1 - k := by omega
      have hm2 : n - 1 - k ≤ m := by omega
      clear hkm
      by_cases hlt : k < m
      · have c1 := hO.cell (i := k) (by omega)
        have c2 := hO.cell (i := m) (by omega)
        have f1 := hO.free k
        have f2 := hO.free m
        have hmn : m < n := by omega
        have hkn : k < n := by omega
        have hne : k ≠ m := by omega
        rw [hR.out.2 k (by rw [hlen.out]; omega), if_neg (by rw [hlen.out]; omega)] at c1
        rw [hR.out.2 m (by rw [hlen.out]; omega), if_neg (by rw [hlen.out]; omega)] at c2
        have hx := HB.out k
        have hy := HB.out m
        have HS := hid (show OwnB B ((wr.drew.setCell ⟨g, k, none⟩ (.int .u8 (l.getD m 0 : Nat))).setCell ⟨g, m, none⟩ (.int .u8 (l.getD k 0 : Nat))) (some ⟨g, 0, none⟩) n c ((S.set k (l.getD m 0)).set m (l.getD k 0)) from (hO.drew.set k _ hy).set m _ hx)
        have HR' : Hid (RevTo l ((S.set k (l.getD m 0)).set m (l.getD k 0)) (k + 1)) := by
          have := revTo_step hR.out (by rw [hlen.out]; omega)
          rw [hlen.out, show n - 1 - k = m by omega] at this
          exact this
        have HK := hid ((hK.drew.setCell (ad := ⟨g, k, none⟩) (p := fun b => (some ⟨g, 0, none⟩ : Option Addr) = some ⟨b, 0, none⟩) rfl (.int .u8 (l.getD m 0 : Nat))).setCell (ad := ⟨g, m, none⟩) rfl (.int .u8 (l.getD k 0 : Nat)))
        generalize l.getD k 0 = x at *
        generalize l.getD m 0 = y at *
        clear hO hR hK
        go_wp2
        go_region
        go_wp2
        go_roundw
        case rel => exact ⟨k + 1, m - 1, _, by omega, by omega, by go_num, by go_num, HS.out, HR', HK.out⟩
        case measure => simp [intOf]; omega
      · have hD : Hid (S = l.reverse) := revTo_done hR.out (by rw [hlen.out]; omega)
        clear hR
        go_wp2
        go_end0
        exact ⟨rfl, by rw [← hD.out]; exact hO, hK⟩

end Go.Proofs.Ytennilapmcgnbaa

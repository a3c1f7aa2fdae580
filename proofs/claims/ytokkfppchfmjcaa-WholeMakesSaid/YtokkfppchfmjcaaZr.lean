/- WALKS OF WHOLE NUMBERS, 17: the program's answers and the document's, as rows (for WholeMakes). -/
import Derived.Test.YtokkfppchfmjcaaZp
import Derived.Test.YtokkfppchfmjcaaZq
import Derived.Test.YtokkfppchfmjcaaZjc
import Derived.Test.YtokkfppchfmjcaaMq
namespace Go.Proofs.Ytokkfppchfmjcaa
set_option linter.unusedVariables false
set_option linter.unusedSimpArgs false
open Go.ChangeShapes Go.WideShapes Go.ChangeAt Go.RowKit Go.NatP

section
variable {W : World} {i k : Option Addr} {j c l d : Nat} {la lb : List Nat} {s t : Bool} {z : Int}
theorem knorm (ha : Rd W i j c la) (hn : j ≤ 4194304) (hz : zv s (val la) = z) : Calls Try.prog 63 #[.agg #[.bool s, .slice i j c]] W (RetZ W z) := by rw [← hz]; exact znorm_any s ha (by omega)
theorem rknorm (ha : Rd W i j c la) (hn : j ≤ 4194304) (hz : zv s (val la) = z) : Calls Try.prog 55 #[.agg #[.bool s, .slice i j c]] W (RetZ W z) := by rw [← hz]; exact rznorm_any s ha (by omega)
theorem rkneg (ha : Rd W i j c la) (hn : j ≤ 4194304) (hz : -zv s (val la) = z) : Calls Try.prog 56 #[.agg #[.bool s, .slice i j c]] W (RetZ W z) := by rw [← hz]; exact rzneg_any s ha (by omega)
theorem rkadd (ha : Rd W i j c la) (hn : j ≤ 4194304) (hb : Rd W k l d lb) (hm : l ≤ 4194304) (hz : zv s (val la) + zv t (val lb) = z) : Calls Try.prog 57 #[.agg #[.bool s, .slice i j c], .agg #[.bool t, .slice k l d]] W (RetZ W z) := by rw [← hz]; exact rzadd_any s t ha hb hn hm
theorem rkmul (ha : Rd W i j c la) (hn : j ≤ 4194304) (hb : Rd W k l d lb) (hm : l ≤ 4194304) (hz : zv s (val la) * zv t (val lb) = z) : Calls Try.prog 59 #[.agg #[.bool s, .slice i j c], .agg #[.bool t, .slice k l d]] W (RetZ W z) := by rw [← hz]; exact rzmul_any s t ha hb hn hm
theorem rksub (ha : Rd W i j c la) (hn : j ≤ 4194304) (hb : Rd W k l d lb) (hm : l ≤ 4194304) (hz : zv s (val la) - zv t (val lb) = z) : Calls Try.prog 58 #[.agg #[.bool s, .slice i j c], .agg #[.bool t, .slice k l d]] W (RetZ W z) := by rw [← hz]; exact rzsub_any s t ha hn hb hm
theorem kneg (ha : Rd W i j c la) (hn : j ≤ 4194304) (hz : -zv s (val la) = z) : Calls Try.prog 64 #[.agg #[.bool s, .slice i j c]] W (RetZ W z) := by rw [← hz]; exact zneg_any s ha (by omega)
theorem kadd (ha : Rd W i j c la) (hn : j ≤ 4194304) (hb : Rd W k l d lb) (hm : l ≤ 4194304) (hz : zv s (val la) + zv t (val lb) = z) : Calls Try.prog 41 #[.agg #[.bool s, .slice i j c], .agg #[.bool t, .slice k l d]] W (RetZ W z) := by rw [← hz]; exact zadd_any s t ha hb hn hm
theorem kmul (ha : Rd W i j c la) (hn : j ≤ 4194304) (hb : Rd W k l d lb) (hm : l ≤ 4194304) (hz : zv s (val la) * zv t (val lb) = z) : Calls Try.prog 65 #[.agg #[.bool s, .slice i j c], .agg #[.bool t, .slice k l d]] W (RetZ W z) := by rw [← hz]; exact zmul_any s t ha hb hn hm
theorem ksub (ha : Rd W i j c la) (hn : j ≤ 4194304) (hb : Rd W k l d lb) (hm : l ≤ 4194304) (hz : zv s (val la) - zv t (val lb) = z) : Calls Try.prog 46 #[.agg #[.bool s, .slice i j c], .agg #[.bool t, .slice k l d]] W (RetZ W z) := by rw [← hz]; exact zsub_any s t ha hn hb hm
variable {q r er : Int} {g : Nat}
def flQ (s : Bool) (A : Nat) (t : Bool) (B : Nat) : Int := if dvE B = 0 ∧ sgn (zv s (dvR A B)) * sgn (zv t B) < 0 then zv (!(s == t)) (A / B) - 1 else zv (!(s == t)) (A / B)
def flR (s : Bool) (A : Nat) (t : Bool) (B : Nat) : Int := if dvE B = 0 ∧ sgn (zv s (dvR A B)) * sgn (zv t B) < 0 then zv s (dvR A B) + zv t B else zv s (dvR A B)
theorem kfloor (ha : Rd W i j c la) (hn : j ≤ 4194304) (hb : Rd W k l d lb) (hm : l ≤ 4194304) (hq : flQ s (val la) t (val lb) = q) (hr : flR s (val la) t (val lb) = r) (he : dvE (val lb) = er) : Calls Try.prog 50 #[.agg #[.bool s, .slice i j c], .agg #[.bool t, .slice k l d]] W (RetZZ W q r er) := by rw [← hq, ← hr, ← he]; exact zfloor_any s t ha hn hb hm
theorem rkfloor (ha : Rd W i j c la) (hn : j ≤ 4194304) (hb : Rd W k l d lb) (hm : l ≤ 4194304) (hq : flQ s (val la) t (val lb) = q) (hr : flR s (val la) t (val lb) = r) (he : dvE (val lb) = er) : Calls Try.prog 60 #[.agg #[.bool s, .slice i j c], .agg #[.bool t, .slice k l d]] W (RetZZ W q r er) := by rw [← hq, ← hr, ← he]; exact rzfloor_any s t ha hn hb hm
theorem kquo (ha : Rd W i j c la) (hn : j ≤ 4194304) (hb : Rd W k l d lb) (hm : l ≤ 4194304) (hq : zv (!(s == t)) (val la / val lb) = q) (hr : zv s (dvR (val la) (val lb)) = r) (he : dvE (val lb) = er) : Calls Try.prog 66 #[.agg #[.bool s, .slice i j c], .agg #[.bool t, .slice k l d]] W (RetZZ W q r er) := by rw [← hq, ← hr, ← he]; exact zquo_any s t ha hn hb hm
theorem rkquo (ha : Rd W i j c la) (hn : j ≤ 4194304) (hb : Rd W k l d lb) (hm : l ≤ 4194304) (hq : zv (!(s == t)) (val la / val lb) = q) (hr : zv s (dvR (val la) (val lb)) = r) (he : dvE (val lb) = er) : Calls Try.prog 61 #[.agg #[.bool s, .slice i j c], .agg #[.bool t, .slice k l d]] W (RetZZ W q r er) := by rw [← hq, ← hr, ← he]; exact rzquo_any s t ha hn hb hm
theorem kbez (ha : Rd W i j c la) (hn : j ≤ 4194304) (hb : Rd W k l d lb) (hm : l ≤ 4194304) (hg : Nat.gcd (val la) (val lb) = g) (hq : bzS (zv s (val la)) (bzX (val la) (val lb) 1 0) = q) (hr : bzS (zv t (val lb)) (bzX (val la) (val lb) 0 1) = r) : Calls Try.prog 67 #[.agg #[.bool s, .slice i j c], .agg #[.bool t, .slice k l d]] W (RetBz W g q r) := by rw [← hg, ← hq, ← hr]; exact zbez_any s t ha hn hb hm
theorem rkbez (ha : Rd W i j c la) (hn : j ≤ 4194304) (hb : Rd W k l d lb) (hm : l ≤ 4194304) (hg : Nat.gcd (val la) (val lb) = g) (hq : bzS (zv s (val la)) (bzX (val la) (val lb) 1 0) = q) (hr : bzS (zv t (val lb)) (bzX (val la) (val lb) 0 1) = r) : Calls Try.prog 62 #[.agg #[.bool s, .slice i j c], .agg #[.bool t, .slice k l d]] W (RetBz W g q r) := by rw [← hg, ← hq, ← hr]; exact rzbez_any s t ha hn hb hm
end

set_option maxRecDepth 100000 in
set_option maxHeartbeats 4000000 in
theorem call_0 {w : World} {a b : Option Addr} {n c m d : Nat} {la lb : List Nat} {s t : Bool} {Z : Nat → Int} (ha : Rd w a n c la) (hn : n ≤ 4194304) (hb : Rd w b m d lb) (hm : m ≤ 4194304) {z : Int} (hz : zv s (val la) = z) (h0 : Z 0 = z) :
    Calls Try.prog 34 #[.int .i64 0, .agg #[.bool s, .slice a n c], .agg #[.bool t, .slice b m d]] w (RetNums w 1 Z 0) := by
  have H := hid (fun W (ha : Rd W a n c la) (hb : Rd W b m d lb) => knorm (s := s) ha hn hz)
  clear hz
  have hent := ent2 w #[Value.bool s, Value.slice a n c] #[Value.bool t, Value.slice b m d] 25 25
  go_enter Try.func34, Try.ntmps34
  go_wp2_with fail
  generalize ((w.alloc (.cells #[Value.bool s, Value.slice a n c] 25)).alloc (.cells #[Value.bool t, Value.slice b m d] 25)) = W0 at hent ⊢
  obtain ⟨X_0, Y_0, hbel_0, hsz_0⟩ := hent
  have cX_0_0 : _ = some (Value.bool s) := X_0.cell 0
  have cX_0_1 : _ = some (Value.slice a n c) := X_0.cell 1
  have cY_0_0 : _ = some (Value.bool t) := Y_0.cell 0
  have cY_0_1 : _ = some (Value.slice b m d) := Y_0.cell 1
  have ha_0 := ha.below hbel_0
  clear ha
  have hb_0 := hb.below hbel_0
  clear hb
  go_wp2_with fail
  refine (H.out _ ha_0 hb_0).mono ?_
  rintro e w1 ⟨p, pn, pc, rfl, hO, hB⟩
  have hB_1 : Below W0.heap.size W0 w1 := (bl.next hB)
  have X_1 := X_0.next hB_1
  have cX_1_0 : _ = some (Value.bool s) := X_1.cell 0
  have cX_1_1 : _ = some (Value.slice a n c) := X_1.cell 1
  have Y_1 := Y_0.next hB_1
  have cY_1_0 : _ = some (Value.bool t) := Y_1.cell 0
  have cY_1_1 : _ = some (Value.slice b m d) := Y_1.cell 1
  have ha_1 := ha_0.below hB_1
  have hb_1 := hb_0.below hB_1
  have hbel_1 := hbel_0.next hB_1
  have hsz_1 := hB_1.size
  clear X_0 cX_0_0 cX_0_1 Y_0 cY_0_0 cY_0_1 ha_0 hb_0 hbel_0 hB_1
  have O_1 := hO
  have ltO := hO.ltB
  try clear hB
  have hbx := blk_new w1 #[Value.bool (decide (z < 0)), Value.slice p pn pc] 25
  have hbB := (Below.refl w1.heap.size w1).alloc (Nat.le_refl _) (.cells #[Value.bool (decide (z < 0)), Value.slice p pn pc] 25)
  have hltG := hbx.lt
  have hB_2 : Below w1.heap.size w1 (w1.alloc (.cells #[Value.bool (decide (z < 0)), Value.slice p pn pc] 25)) := hbB
  have X_2 := X_1.next hB_2
  have cX_2_0 : _ = some (Value.bool s) := X_2.cell 0
  have cX_2_1 : _ = some (Value.slice a n c) := X_2.cell 1
  have Y_2 := Y_1.next hB_2
  have cY_2_0 : _ = some (Value.bool t) := Y_2.cell 0
  have cY_2_1 : _ = some (Value.slice b m d) := Y_2.cell 1
  have ha_2 := ha_1.below hB_2
  have hb_2 := hb_1.below hB_2
  have O_2 := O_1.below hB_2
  have hbel_2 := hbel_1.next hB_2
  have hsz_2 := hB_2.size
  clear hB_2
  have G_2 := hbx
  clear hbx hbB
  have cG_2_0 : _ = some (Value.bool (decide (z < 0))) := G_2.cell 0
  have cG_2_1 : _ = some (Value.slice p pn pc) := G_2.cell 1
  go_wp2_with fail
  clear X_1 cX_1_0 cX_1_1 Y_1 cY_1_0 cY_1_1 ha_1 hb_1 O_1 hbel_1
  generalize (w1.alloc (.cells #[Value.bool (decide (z < 0)), Value.slice p pn pc] 25)) = v2 at *
  go_wp2
  go_ret2
  exact ⟨_, _, _, _, rfl, nums1 G_2 (O_2.mono (by omega)) (by omega) (fun g' e => by have := ltO g' e; omega) h0, hbel_2⟩

set_option maxRecDepth 100000 in
set_option maxHeartbeats 4000000 in
theorem call_1 {w : World} {a b : Option Addr} {n c m d : Nat} {la lb : List Nat} {s t : Bool} {Z : Nat → Int} (ha : Rd w a n c la) (hn : n ≤ 4194304) (hb : Rd w b m d lb) (hm : m ≤ 4194304) {z : Int} (hz : -zv s (val la) = z) (h0 : Z 0 = z) :
    Calls Try.prog 34 #[.int .i64 1, .agg #[.bool s, .slice a n c], .agg #[.bool t, .slice b m d]] w (RetNums w 1 Z 0) := by
  have H := hid (fun W (ha : Rd W a n c la) (hb : Rd W b m d lb) => kneg (s := s) ha hn hz)
  clear hz
  have hent := ent2 w #[Value.bool s, Value.slice a n c] #[Value.bool t, Value.slice b m d] 25 25
  go_enter Try.func34, Try.ntmps34
  go_wp2_with fail
  generalize ((w.alloc (.cells #[Value.bool s, Value.slice a n c] 25)).alloc (.cells #[Value.bool t, Value.slice b m d] 25)) = W0 at hent ⊢
  obtain ⟨X_0, Y_0, hbel_0, hsz_0⟩ := hent
  have cX_0_0 : _ = some (Value.bool s) := X_0.cell 0
  have cX_0_1 : _ = some (Value.slice a n c) := X_0.cell 1
  have cY_0_0 : _ = some (Value.bool t) := Y_0.cell 0
  have cY_0_1 : _ = some (Value.slice b m d) := Y_0.cell 1
  have ha_0 := ha.below hbel_0
  clear ha
  have hb_0 := hb.below hbel_0
  clear hb
  go_wp2_with fail
  refine (H.out _ ha_0 hb_0).mono ?_
  rintro e w1 ⟨p, pn, pc, rfl, hO, hB⟩
  have hB_1 : Below W0.heap.size W0 w1 := (bl.next hB)
  have X_1 := X_0.next hB_1
  have cX_1_0 : _ = some (Value.bool s) := X_1.cell 0
  have cX_1_1 : _ = some (Value.slice a n c) := X_1.cell 1
  have Y_1 := Y_0.next hB_1
  have cY_1_0 : _ = some (Value.bool t) := Y_1.cell 0
  have cY_1_1 : _ = some (Value.slice b m d) := Y_1.cell 1
  have ha_1 := ha_0.below hB_1
  have hb_1 := hb_0.below hB_1
  have hbel_1 := hbel_0.next hB_1
  have hsz_1 := hB_1.size
  clear X_0 cX_0_0 cX_0_1 Y_0 cY_0_0 cY_0_1 ha_0 hb_0 hbel_0 hB_1
  have O_1 := hO
  have ltO := hO.ltB
  try clear hB
  have hbx := blk_new w1 #[Value.bool (decide (z < 0)), Value.slice p pn pc] 25
  have hbB := (Below.refl w1.heap.size w1).alloc (Nat.le_refl _) (.cells #[Value.bool (decide (z < 0)), Value.slice p pn pc] 25)
  have hltG := hbx.lt
  have hB_2 : Below w1.heap.size w1 (w1.alloc (.cells #[Value.bool (decide (z < 0)), Value.slice p pn pc] 25)) := hbB
  have X_2 := X_1.next hB_2
  have cX_2_0 : _ = some (Value.bool s) := X_2.cell 0
  have cX_2_1 : _ = some (Value.slice a n c) := X_2.cell 1
  have Y_2 := Y_1.next hB_2
  have cY_2_0 : _ = some (Value.bool t) := Y_2.cell 0
  have cY_2_1 : _ = some (Value.slice b m d) := Y_2.cell 1
  have ha_2 := ha_1.below hB_2
  have hb_2 := hb_1.below hB_2
  have O_2 := O_1.below hB_2
  have hbel_2 := hbel_1.next hB_2
  have hsz_2 := hB_2.size
  clear hB_2
  have G_2 := hbx
  clear hbx hbB
  have cG_2_0 : _ = some (Value.bool (decide (z < 0))) := G_2.cell 0
  have cG_2_1 : _ = some (Value.slice p pn pc) := G_2.cell 1
  go_wp2_with fail
  clear X_1 cX_1_0 cX_1_1 Y_1 cY_1_0 cY_1_1 ha_1 hb_1 O_1 hbel_1
  generalize (w1.alloc (.cells #[Value.bool (decide (z < 0)), Value.slice p pn pc] 25)) = v2 at *
  go_wp2
  go_ret2
  exact ⟨_, _, _, _, rfl, nums1 G_2 (O_2.mono (by omega)) (by omega) (fun g' e => by have := ltO g' e; omega) h0, hbel_2⟩

set_option maxRecDepth 100000 in
set_option maxHeartbeats 4000000 in
theorem call_2 {w : World} {a b : Option Addr} {n c m d : Nat} {la lb : List Nat} {s t : Bool} {Z : Nat → Int} (ha : Rd w a n c la) (hn : n ≤ 4194304) (hb : Rd w b m d lb) (hm : m ≤ 4194304) {z : Int} (hz : zv s (val la) + zv t (val lb) = z) (h0 : Z 0 = z) :
    Calls Try.prog 34 #[.int .i64 2, .agg #[.bool s, .slice a n c], .agg #[.bool t, .slice b m d]] w (RetNums w 1 Z 0) := by
  have H := hid (fun W (ha : Rd W a n c la) (hb : Rd W b m d lb) => kadd (s := s) (t := t) ha hn hb hm hz)
  clear hz
  have hent := ent2 w #[Value.bool s, Value.slice a n c] #[Value.bool t, Value.slice b m d] 25 25
  go_enter Try.func34, Try.ntmps34
  go_wp2_with fail
  generalize ((w.alloc (.cells #[Value.bool s, Value.slice a n c] 25)).alloc (.cells #[Value.bool t, Value.slice b m d] 25)) = W0 at hent ⊢
  obtain ⟨X_0, Y_0, hbel_0, hsz_0⟩ := hent
  have cX_0_0 : _ = some (Value.bool s) := X_0.cell 0
  have cX_0_1 : _ = some (Value.slice a n c) := X_0.cell 1
  have cY_0_0 : _ = some (Value.bool t) := Y_0.cell 0
  have cY_0_1 : _ = some (Value.slice b m d) := Y_0.cell 1
  have ha_0 := ha.below hbel_0
  clear ha
  have hb_0 := hb.below hbel_0
  clear hb
  go_wp2_with fail
  refine (H.out _ ha_0 hb_0).mono ?_
  rintro e w1 ⟨p, pn, pc, rfl, hO, hB⟩
  have hB_1 : Below W0.heap.size W0 w1 := (bl.next hB)
  have X_1 := X_0.next hB_1
  have cX_1_0 : _ = some (Value.bool s) := X_1.cell 0
  have cX_1_1 : _ = some (Value.slice a n c) := X_1.cell 1
  have Y_1 := Y_0.next hB_1
  have cY_1_0 : _ = some (Value.bool t) := Y_1.cell 0
  have cY_1_1 : _ = some (Value.slice b m d) := Y_1.cell 1
  have ha_1 := ha_0.below hB_1
  have hb_1 := hb_0.below hB_1
  have hbel_1 := hbel_0.next hB_1
  have hsz_1 := hB_1.size
  clear X_0 cX_0_0 cX_0_1 Y_0 cY_0_0 cY_0_1 ha_0 hb_0 hbel_0 hB_1
  have O_1 := hO
  have ltO := hO.ltB
  try clear hB
  have hbx := blk_new w1 #[Value.bool (decide (z < 0)), Value.slice p pn pc] 25
  have hbB := (Below.refl w1.heap.size w1).alloc (Nat.le_refl _) (.cells #[Value.bool (decide (z < 0)), Value.slice p pn pc] 25)
  have hltG := hbx.lt
  have hB_2 : Below w1.heap.size w1 (w1.alloc (.cells #[Value.bool (decide (z < 0)), Value.slice p pn pc] 25)) := hbB
  have X_2 := X_1.next hB_2
  have cX_2_0 : _ = some (Value.bool s) := X_2.cell 0
  have cX_2_1 : _ = some (Value.slice a n c) := X_2.cell 1
  have Y_2 := Y_1.next hB_2
  have cY_2_0 : _ = some (Value.bool t) := Y_2.cell 0
  have cY_2_1 : _ = some (Value.slice b m d) := Y_2.cell 1
  have ha_2 := ha_1.below hB_2
  have hb_2 := hb_1.below hB_2
  have O_2 := O_1.below hB_2
  have hbel_2 := hbel_1.next hB_2
  have hsz_2 := hB_2.size
  clear hB_2
  have G_2 := hbx
  clear hbx hbB
  have cG_2_0 : _ = some (Value.bool (decide (z < 0))) := G_2.cell 0
  have cG_2_1 : _ = some (Value.slice p pn pc) := G_2.cell 1
  go_wp2_with fail
  clear X_1 cX_1_0 cX_1_1 Y_1 cY_1_0 cY_1_1 ha_1 hb_1 O_1 hbel_1
  generalize (w1.alloc (.cells #[Value.bool (decide (z < 0)), Value.slice p pn pc] 25)) = v2 at *
  go_wp2
  go_ret2
  exact ⟨_, _, _, _, rfl, nums1 G_2 (O_2.mono (by omega)) (by omega) (fun g' e => by have := ltO g' e; omega) h0, hbel_2⟩

set_option maxRecDepth 100000 in
set_option maxHeartbeats 4000000 in
theorem call_3 {w : World} {a b : Option Addr} {n c m d : Nat} {la lb : List Nat} {s t : Bool} {Z : Nat → Int} (ha : Rd w a n c la) (hn : n ≤ 4194304) (hb : Rd w b m d lb) (hm : m ≤ 4194304) {z : Int} (hz : zv s (val la) - zv t (val lb) = z) (h0 : Z 0 = z) :
    Calls Try.prog 34 #[.int .i64 3, .agg #[.bool s, .slice a n c], .agg #[.bool t, .slice b m d]] w (RetNums w 1 Z 0) := by
  have H := hid (fun W (ha : Rd W a n c la) (hb : Rd W b m d lb) => ksub (s := s) (t := t) ha hn hb hm hz)
  clear hz
  have hent := ent2 w #[Value.bool s, Value.slice a n c] #[Value.bool t, Value.slice b m d] 25 25
  go_enter Try.func34, Try.ntmps34
  go_wp2_with fail
  generalize ((w.alloc (.cells #[Value.bool s, Value.slice a n c] 25)).alloc (.cells #[Value.bool t, Value.slice b m d] 25)) = W0 at hent ⊢
  obtain ⟨X_0, Y_0, hbel_0, hsz_0⟩ := hent
  have cX_0_0 : _ = some (Value.bool s) := X_0.cell 0
  have cX_0_1 : _ = some (Value.slice a n c) := X_0.cell 1
  have cY_0_0 : _ = some (Value.bool t) := Y_0.cell 0
  have cY_0_1 : _ = some (Value.slice b m d) := Y_0.cell 1
  have ha_0 := ha.below hbel_0
  clear ha
  have hb_0 := hb.below hbel_0
  clear hb
  go_wp2_with fail
  refine (H.out _ ha_0 hb_0).mono ?_
  rintro e w1 ⟨p, pn, pc, rfl, hO, hB⟩
  have hB_1 : Below W0.heap.size W0 w1 := (bl.next hB)
  have X_1 := X_0.next hB_1
  have cX_1_0 : _ = some (Value.bool s) := X_1.cell 0
  have cX_1_1 : _ = some (Value.slice a n c) := X_1.cell 1
  have Y_1 := Y_0.next hB_1
  have cY_1_0 : _ = some (Value.bool t) := Y_1.cell 0
  have cY_1_1 : _ = some (Value.slice b m d) := Y_1.cell 1
  have ha_1 := ha_0.below hB_1
  have hb_1 := hb_0.below hB_1
  have hbel_1 := hbel_0.next hB_1
  have hsz_1 := hB_1.size
  clear X_0 cX_0_0 cX_0_1 Y_0 cY_0_0 cY_0_1 ha_0 hb_0 hbel_0 hB_1
  have O_1 := hO
  have ltO := hO.ltB
  try clear hB
  have hbx := blk_new w1 #[Value.bool (decide (z < 0)), Value.slice p pn pc] 25
  have hbB := (Below.refl w1.heap.size w1).alloc (Nat.le_refl _) (.cells #[Value.bool (decide (z < 0)), Value.slice p pn pc] 25)
  have hltG := hbx.lt
  have hB_2 : Below w1.heap.size w1 (w1.alloc (.cells #[Value.bool (decide (z < 0)), Value.slice p pn pc] 25)) := hbB
  have X_2 := X_1.next hB_2
  have cX_2_0 : _ = some (Value.bool s) := X_2.cell 0
  have cX_2_1 : _ = some (Value.slice a n c) := X_2.cell 1
  have Y_2 := Y_1.next hB_2
  have cY_2_0 : _ = some (Value.bool t) := Y_2.cell 0
  have cY_2_1 : _ = some (Value.slice b m d) := Y_2.cell 1
  have ha_2 := ha_1.below hB_2
  have hb_2 := hb_1.below hB_2
  have O_2 := O_1.below hB_2
  have hbel_2 := hbel_1.next hB_2
  have hsz_2 := hB_2.size
  clear hB_2
  have G_2 := hbx
  clear hbx hbB
  have cG_2_0 : _ = some (Value.bool (decide (z < 0))) := G_2.cell 0
  have cG_2_1 : _ = some (Value.slice p pn pc) := G_2.cell 1
  go_wp2_with fail
  clear X_1 cX_1_0 cX_1_1 Y_1 cY_1_0 cY_1_1 ha_1 hb_1 O_1 hbel_1
  generalize (w1.alloc (.cells #[Value.bool (decide (z < 0)), Value.slice p pn pc] 25)) = v2 at *
  go_wp2
  go_ret2
  exact ⟨_, _, _, _, rfl, nums1 G_2 (O_2.mono (by omega)) (by omega) (fun g' e => by have := ltO g' e; omega) h0, hbel_2⟩

set_option maxRecDepth 100000 in
set_option maxHeartbeats 4000000 in
theorem call_4 {w : World} {a b : Option Addr} {n c m d : Nat} {la lb : List Nat} {s t : Bool} {Z : Nat → Int} (ha : Rd w a n c la) (hn : n ≤ 4194304) (hb : Rd w b m d lb) (hm : m ≤ 4194304) {z : Int} (hz : zv s (val la) * zv t (val lb) = z) (h0 : Z 0 = z) :
    Calls Try.prog 34 #[.int .i64 4, .agg #[.bool s, .slice a n c], .agg #[.bool t, .slice b m d]] w (RetNums w 1 Z 0) := by
  have H := hid (fun W (ha : Rd W a n c la) (hb : Rd W b m d lb) => kmul (s := s) (t := t) ha hn hb hm hz)
  clear hz
  have hent := ent2 w #[Value.bool s, Value.slice a n c] #[Value.bool t, Value.slice b m d] 25 25
  go_enter Try.func34, Try.ntmps34
  go_wp2_with fail
  generalize ((w.alloc (.cells #[Value.bool s, Value.slice a n c] 25)).alloc (.cells #[Value.bool t, Value.slice b m d] 25)) = W0 at hent ⊢
  obtain ⟨X_0, Y_0, hbel_0, hsz_0⟩ := hent
  have cX_0_0 : _ = some (Value.bool s) := X_0.cell 0
  have cX_0_1 : _ = some (Value.slice a n c) := X_0.cell 1
  have cY_0_0 : _ = some (Value.bool t) := Y_0.cell 0
  have cY_0_1 : _ = some (Value.slice b m d) := Y_0.cell 1
  have ha_0 := ha.below hbel_0
  clear ha
  have hb_0 := hb.below hbel_0
  clear hb
  go_wp2_with fail
  refine (H.out _ ha_0 hb_0).mono ?_
  rintro e w1 ⟨p, pn, pc, rfl, hO, hB⟩
  have hB_1 : Below W0.heap.size W0 w1 := (bl.next hB)
  have X_1 := X_0.next hB_1
  have cX_1_0 : _ = some (Value.bool s) := X_1.cell 0
  have cX_1_1 : _ = some (Value.slice a n c) := X_1.cell 1
  have Y_1 := Y_0.next hB_1
  have cY_1_0 : _ = some (Value.bool t) := Y_1.cell 0
  have cY_1_1 : _ = some (Value.slice b m d) := Y_1.cell 1
  have ha_1 := ha_0.below hB_1
  have hb_1 := hb_0.below hB_1
  have hbel_1 := hbel_0.next hB_1
  have hsz_1 := hB_1.size
  clear X_0 cX_0_0 cX_0_1 Y_0 cY_0_0 cY_0_1 ha_0 hb_0 hbel_0 hB_1
  have O_1 := hO
  have ltO := hO.ltB
  try clear hB
  have hbx := blk_new w1 #[Value.bool (decide (z < 0)), Value.slice p pn pc] 25
  have hbB := (Below.refl w1.heap.size w1).alloc (Nat.le_refl _) (.cells #[Value.bool (decide (z < 0)), Value.slice p pn pc] 25)
  have hltG := hbx.lt
  have hB_2 : Below w1.heap.size w1 (w1.alloc (.cells #[Value.bool (decide (z < 0)), Value.slice p pn pc] 25)) := hbB
  have X_2 := X_1.next hB_2
  have cX_2_0 : _ = some (Value.bool s) := X_2.cell 0
  have cX_2_1 : _ = some (Value.slice a n c) := X_2.cell 1
  have Y_2 := Y_1.next hB_2
  have cY_2_0 : _ = some (Value.bool t) := Y_2.cell 0
  have cY_2_1 : _ = some (Value.slice b m d) := Y_2.cell 1
  have ha_2 := ha_1.below hB_2
  have hb_2 := hb_1.below hB_2
  have O_2 := O_1.below hB_2
  have hbel_2 := hbel_1.next hB_2
  have hsz_2 := hB_2.size
  clear hB_2
  have G_2 := hbx
  clear hbx hbB
  have cG_2_0 : _ = some (Value.bool (decide (z < 0))) := G_2.cell 0
  have cG_2_1 : _ = some (Value.slice p pn pc) := G_2.cell 1
  go_wp2_with fail
  clear X_1 cX_1_0 cX_1_1 Y_1 cY_1_0 cY_1_1 ha_1 hb_1 O_1 hbel_1
  generalize (w1.alloc (.cells #[Value.bool (decide (z < 0)), Value.slice p pn pc] 25)) = v2 at *
  go_wp2
  go_ret2
  exact ⟨_, _, _, _, rfl, nums1 G_2 (O_2.mono (by omega)) (by omega) (fun g' e => by have := ltO g' e; omega) h0, hbel_2⟩

set_option maxRecDepth 100000 in
set_option maxHeartbeats 4000000 in
theorem call_5 {w : World} {a b : Option Addr} {n c m d : Nat} {la lb : List Nat} {s t : Bool} {Z : Nat → Int} (ha : Rd w a n c la) (hn : n ≤ 4194304) (hb : Rd w b m d lb) (hm : m ≤ 4194304) {q r er : Int} (hq : flQ s (val la) t (val lb) = q) (hr : flR s (val la) t (val lb) = r) (he : dvE (val lb) = er) (h0 : Z 0 = q) (h1 : Z 1 = r) :
    Calls Try.prog 34 #[.int .i64 5, .agg #[.bool s, .slice a n c], .agg #[.bool t, .slice b m d]] w (RetNums w 2 Z er) := by
  have H := hid (fun W (ha : Rd W a n c la) (hb : Rd W b m d lb) => kfloor (s := s) (t := t) ha hn hb hm hq hr he)
  clear hq hr he
  have hent := ent2 w #[Value.bool s, Value.slice a n c] #[Value.bool t, Value.slice b m d] 25 25
  go_enter Try.func34, Try.ntmps34
  go_wp2_with fail
  generalize ((w.alloc (.cells #[Value.bool s, Value.slice a n c] 25)).alloc (.cells #[Value.bool t, Value.slice b m d] 25)) = W0 at hent ⊢
  obtain ⟨X_0, Y_0, hbel_0, hsz_0⟩ := hent
  have cX_0_0 : _ = some (Value.bool s) := X_0.cell 0
  have cX_0_1 : _ = some (Value.slice a n c) := X_0.cell 1
  have cY_0_0 : _ = some (Value.bool t) := Y_0.cell 0
  have cY_0_1 : _ = some (Value.slice b m d) := Y_0.cell 1
  have ha_0 := ha.below hbel_0
  clear ha
  have hb_0 := hb.below hbel_0
  clear hb
  go_wp2_with fail
  refine (H.out _ ha_0 hb_0).mono ?_
  rintro e w1 ⟨p, pn, pc, u, un, uc, rfl, hO, hO2, hD, hB⟩
  have hB_1 : Below W0.heap.size W0 w1 := (bl.next hB)
  have X_1 := X_0.next hB_1
  have cX_1_0 : _ = some (Value.bool s) := X_1.cell 0
  have cX_1_1 : _ = some (Value.slice a n c) := X_1.cell 1
  have Y_1 := Y_0.next hB_1
  have cY_1_0 : _ = some (Value.bool t) := Y_1.cell 0
  have cY_1_1 : _ = some (Value.slice b m d) := Y_1.cell 1
  have ha_1 := ha_0.below hB_1
  have hb_1 := hb_0.below hB_1
  have hbel_1 := hbel_0.next hB_1
  have hsz_1 := hB_1.size
  clear X_0 cX_0_0 cX_0_1 Y_0 cY_0_0 cY_0_1 ha_0 hb_0 hbel_0 hB_1
  have O_1 := hO
  have ltO := hO.ltB
  have O2_1 := hO2
  have ltO2 := hO2.ltB
  try clear hB
  have hbx0 : Blk (((w1.alloc (.cells #[Value.bool (decide (q < 0)), Value.slice p pn pc] 25)).alloc (.cells #[Value.bool (decide (r < 0)), Value.slice u un uc] 25)).alloc (.cells #[Value.bool (decide (q < 0)), Value.slice p pn pc, Value.bool (decide (r < 0)), Value.slice u un uc] 25)) (w1.heap.size) #[Value.bool (decide (q < 0)), Value.slice p pn pc] := (((blk_new' w1 #[Value.bool (decide (q < 0)), Value.slice p pn pc] 25 (g := w1.heap.size) (by simp)).alloc _).alloc _)
  have hbx1 : Blk (((w1.alloc (.cells #[Value.bool (decide (q < 0)), Value.slice p pn pc] 25)).alloc (.cells #[Value.bool (decide (r < 0)), Value.slice u un uc] 25)).alloc (.cells #[Value.bool (decide (q < 0)), Value.slice p pn pc, Value.bool (decide (r < 0)), Value.slice u un uc] 25)) (w1.heap.size + 1) #[Value.bool (decide (r < 0)), Value.slice u un uc] := ((blk_new' (w1.alloc (.cells #[Value.bool (decide (q < 0)), Value.slice p pn pc] 25)) #[Value.bool (decide (r < 0)), Value.slice u un uc] 25 (g := w1.heap.size + 1) (by simp)).alloc _)
  have hbx2 : Blk (((w1.alloc (.cells #[Value.bool (decide (q < 0)), Value.slice p pn pc] 25)).alloc (.cells #[Value.bool (decide (r < 0)), Value.slice u un uc] 25)).alloc (.cells #[Value.bool (decide (q < 0)), Value.slice p pn pc, Value.bool (decide (r < 0)), Value.slice u un uc] 25)) (w1.heap.size + 1 + 1) #[Value.bool (decide (q < 0)), Value.slice p pn pc, Value.bool (decide (r < 0)), Value.slice u un uc] := (blk_new' ((w1.alloc (.cells #[Value.bool (decide (q < 0)), Value.slice p pn pc] 25)).alloc (.cells #[Value.bool (decide (r < 0)), Value.slice u un uc] 25)) #[Value.bool (decide (q < 0)), Value.slice p pn pc, Value.bool (decide (r < 0)), Value.slice u un uc] 25 (g := w1.heap.size + 1 + 1) (by simp))
  have hbB : Below w1.heap.size w1 (((w1.alloc (.cells #[Value.bool (decide (q < 0)), Value.slice p pn pc] 25)).alloc (.cells #[Value.bool (decide (r < 0)), Value.slice u un uc] 25)).alloc (.cells #[Value.bool (decide (q < 0)), Value.slice p pn pc, Value.bool (decide (r < 0)), Value.slice u un uc] 25)) := bl
  have hltP := hbx0.lt
  have hltQ := hbx1.lt
  have hltG := hbx2.lt
  have hB_2 : Below w1.heap.size w1 (((w1.alloc (.cells #[Value.bool (decide (q < 0)), Value.slice p pn pc] 25)).alloc (.cells #[Value.bool (decide (r < 0)), Value.slice u un uc] 25)).alloc (.cells #[Value.bool (decide (q < 0)), Value.slice p pn pc, Value.bool (decide (r < 0)), Value.slice u un uc] 25)) := hbB
  have X_2 := X_1.next hB_2
  have cX_2_0 : _ = some (Value.bool s) := X_2.cell 0
  have cX_2_1 : _ = some (Value.slice a n c) := X_2.cell 1
  have Y_2 := Y_1.next hB_2
  have cY_2_0 : _ = some (Value.bool t) := Y_2.cell 0
  have cY_2_1 : _ = some (Value.slice b m d) := Y_2.cell 1
  have ha_2 := ha_1.below hB_2
  have hb_2 := hb_1.below hB_2
  have O_2 := O_1.below hB_2
  have O2_2 := O2_1.below hB_2
  have hbel_2 := hbel_1.next hB_2
  have hsz_2 := hB_2.size
  clear hB_2
  have P_2 := hbx0
  clear hbx0
  have cP_2_0 : _ = some (Value.bool (decide (q < 0))) := P_2.cell 0
  have cP_2_1 : _ = some (Value.slice p pn pc) := P_2.cell 1
  have Q_2 := hbx1
  clear hbx1
  have cQ_2_0 : _ = some (Value.bool (decide (r < 0))) := Q_2.cell 0
  have cQ_2_1 : _ = some (Value.slice u un uc) := Q_2.cell 1
  have G_2 := hbx2
  clear hbx2
  have cG_2_0 : _ = some (Value.bool (decide (q < 0))) := G_2.cell 0
  have cG_2_1 : _ = some (Value.slice p pn pc) := G_2.cell 1
  have cG_2_2 : _ = some (Value.bool (decide (r < 0))) := G_2.cell 2
  have cG_2_3 : _ = some (Value.slice u un uc) := G_2.cell 3
  clear hbB
  go_wp2_with fail
  clear X_1 cX_1_0 cX_1_1 Y_1 cY_1_0 cY_1_1 ha_1 hb_1 O_1 O2_1 hbel_1
  generalize (((w1.alloc (.cells #[Value.bool (decide (q < 0)), Value.slice p pn pc] 25)).alloc (.cells #[Value.bool (decide (r < 0)), Value.slice u un uc] 25)).alloc (.cells #[Value.bool (decide (q < 0)), Value.slice p pn pc, Value.bool (decide (r < 0)), Value.slice u un uc] 25)) = v2 at *
  go_wp2
  go_ret2
  exact ⟨_, _, _, _, rfl, nums2 G_2 (O_2.mono (by omega)) (O2_2.mono (by omega)) hD (by omega) (fun g' e => by have := ltO g' e; omega) (fun g' e => by have := ltO2 g' e; omega) h0 h1, hbel_2⟩

set_option maxRecDepth 100000 in
set_option maxHeartbeats 4000000 in
theorem call_6 {w : World} {a b : Option Addr} {n c m d : Nat} {la lb : List Nat} {s t : Bool} {Z : Nat → Int} (ha : Rd w a n c la) (hn : n ≤ 4194304) (hb : Rd w b m d lb) (hm : m ≤ 4194304) {q r er : Int} (hq : zv (!(s == t)) (val la / val lb) = q) (hr : zv s (dvR (val la) (val lb)) = r) (he : dvE (val lb) = er) (h0 : Z 0 = q) (h1 : Z 1 = r) :
    Calls Try.prog 34 #[.int .i64 6, .agg #[.bool s, .slice a n c], .agg #[.bool t, .slice b m d]] w (RetNums w 2 Z er) := by
  have H := hid (fun W (ha : Rd W a n c la) (hb : Rd W b m d lb) => kquo (s := s) (t := t) ha hn hb hm hq hr he)
  clear hq hr he
  have hent := ent2 w #[Value.bool s, Value.slice a n c] #[Value.bool t, Value.slice b m d] 25 25
  go_enter Try.func34, Try.ntmps34
  go_wp2_with fail
  generalize ((w.alloc (.cells #[Value.bool s, Value.slice a n c] 25)).alloc (.cells #[Value.bool t, Value.slice b m d] 25)) = W0 at hent ⊢
  obtain ⟨X_0, Y_0, hbel_0, hsz_0⟩ := hent
  have cX_0_0 : _ = some (Value.bool s) := X_0.cell 0
  have cX_0_1 : _ = some (Value.slice a n c) := X_0.cell 1
  have cY_0_0 : _ = some (Value.bool t) := Y_0.cell 0
  have cY_0_1 : _ = some (Value.slice b m d) := Y_0.cell 1
  have ha_0 := ha.below hbel_0
  clear ha
  have hb_0 := hb.below hbel_0
  clear hb
  go_wp2_with fail
  refine (H.out _ ha_0 hb_0).mono ?_
  rintro e w1 ⟨p, pn, pc, u, un, uc, rfl, hO, hO2, hD, hB⟩
  have hB_1 : Below W0.heap.size W0 w1 := (bl.next hB)
  have X_1 := X_0.next hB_1
  have cX_1_0 : _ = some (Value.bool s) := X_1.cell 0
  have cX_1_1 : _ = some (Value.slice a n c) := X_1.cell 1
  have Y_1 := Y_0.next hB_1
  have cY_1_0 : _ = some (Value.bool t) := Y_1.cell 0
  have cY_1_1 : _ = some (Value.slice b m d) := Y_1.cell 1
  have ha_1 := ha_0.below hB_1
  have hb_1 := hb_0.below hB_1
  have hbel_1 := hbel_0.next hB_1
  have hsz_1 := hB_1.size
  clear X_0 cX_0_0 cX_0_1 Y_0 cY_0_0 cY_0_1 ha_0 hb_0 hbel_0 hB_1
  have O_1 := hO
  have ltO := hO.ltB
  have O2_1 := hO2
  have ltO2 := hO2.ltB
  try clear hB
  have hbx0 : Blk (((w1.alloc (.cells #[Value.bool (decide (q < 0)), Value.slice p pn pc] 25)).alloc (.cells #[Value.bool (decide (r < 0)), Value.slice u un uc] 25)).alloc (.cells #[Value.bool (decide (q < 0)), Value.slice p pn pc, Value.bool (decide (r < 0)), Value.slice u un uc] 25)) (w1.heap.size) #[Value.bool (decide (q < 0)), Value.slice p pn pc] := (((blk_new' w1 #[Value.bool (decide (q < 0)), Value.slice p pn pc] 25 (g := w1.heap.size) (by simp)).alloc _).alloc _)
  have hbx1 : Blk (((w1.alloc (.cells #[Value.bool (decide (q < 0)), Value.slice p pn pc] 25)).alloc (.cells #[Value.bool (decide (r < 0)), Value.slice u un uc] 25)).alloc (.cells #[Value.bool (decide (q < 0)), Value.slice p pn pc, Value.bool (decide (r < 0)), Value.slice u un uc] 25)) (w1.heap.size + 1) #[Value.bool (decide (r < 0)), Value.slice u un uc] := ((blk_new' (w1.alloc (.cells #[Value.bool (decide (q < 0)), Value.slice p pn pc] 25)) #[Value.bool (decide (r < 0)), Value.slice u un uc] 25 (g := w1.heap.size + 1) (by simp)).alloc _)
  have hbx2 : Blk (((w1.alloc (.cells #[Value.bool (decide (q < 0)), Value.slice p pn pc] 25)).alloc (.cells #[Value.bool (decide (r < 0)), Value.slice u un uc] 25)).alloc (.cells #[Value.bool (decide (q < 0)), Value.slice p pn pc, Value.bool (decide (r < 0)), Value.slice u un uc] 25)) (w1.heap.size + 1 + 1) #[Value.bool (decide (q < 0)), Value.slice p pn pc, Value.bool (decide (r < 0)), Value.slice u un uc] := (blk_new' ((w1.alloc (.cells #[Value.bool (decide (q < 0)), Value.slice p pn pc] 25)).alloc (.cells #[Value.bool (decide (r < 0)), Value.slice u un uc] 25)) #[Value.bool (decide (q < 0)), Value.slice p pn pc, Value.bool (decide (r < 0)), Value.slice u un uc] 25 (g := w1.heap.size + 1 + 1) (by simp))
  have hbB : Below w1.heap.size w1 (((w1.alloc (.cells #[Value.bool (decide (q < 0)), Value.slice p pn pc] 25)).alloc (.cells #[Value.bool (decide (r < 0)), Value.slice u un uc] 25)).alloc (.cells #[Value.bool (decide (q < 0)), Value.slice p pn pc, Value.bool (decide (r < 0)), Value.slice u un uc] 25)) := bl
  have hltP := hbx0.lt
  have hltQ := hbx1.lt
  have hltG := hbx2.lt
  have hB_2 : Below w1.heap.size w1 (((w1.alloc (.cells #[Value.bool (decide (q < 0)), Value.slice p pn pc] 25)).alloc (.cells #[Value.bool (decide (r < 0)), Value.slice u un uc] 25)).alloc (.cells #[Value.bool (decide (q < 0)), Value.slice p pn pc, Value.bool (decide (r < 0)), Value.slice u un uc] 25)) := hbB
  have X_2 := X_1.next hB_2
  have cX_2_0 : _ = some (Value.bool s) := X_2.cell 0
  have cX_2_1 : _ = some (Value.slice a n c) := X_2.cell 1
  have Y_2 := Y_1.next hB_2
  have cY_2_0 : _ = some (Value.bool t) := Y_2.cell 0
  have cY_2_1 : _ = some (Value.slice b m d) := Y_2.cell 1
  have ha_2 := ha_1.below hB_2
  have hb_2 := hb_1.below hB_2
  have O_2 := O_1.below hB_2
  have O2_2 := O2_1.below hB_2
  have hbel_2 := hbel_1.next hB_2
  have hsz_2 := hB_2.size
  clear hB_2
  have P_2 := hbx0
  clear hbx0
  have cP_2_0 : _ = some (Value.bool (decide (q < 0))) := P_2.cell 0
  have cP_2_1 : _ = some (Value.slice p pn pc) := P_2.cell 1
  have Q_2 := hbx1
  clear hbx1
  have cQ_2_0 : _ = some (Value.bool (decide (r < 0))) := Q_2.cell 0
  have cQ_2_1 : _ = some (Value.slice u un uc) := Q_2.cell 1
  have G_2 := hbx2
  clear hbx2
  have cG_2_0 : _ = some (Value.bool (decide (q < 0))) := G_2.cell 0
  have cG_2_1 : _ = some (Value.slice p pn pc) := G_2.cell 1
  have cG_2_2 : _ = some (Value.bool (decide (r < 0))) := G_2.cell 2
  have cG_2_3 : _ = some (Value.slice u un uc) := G_2.cell 3
  clear hbB
  go_wp2_with fail
  clear X_1 cX_1_0 cX_1_1 Y_1 cY_1_0 cY_1_1 ha_1 hb_1 O_1 O2_1 hbel_1
  generalize (((w1.alloc (.cells #[Value.bool (decide (q < 0)), Value.slice p pn pc] 25)).alloc (.cells #[Value.bool (decide (r < 0)), Value.slice u un uc] 25)).alloc (.cells #[Value.bool (decide (q < 0)), Value.slice p pn pc, Value.bool (decide (r < 0)), Value.slice u un uc] 25)) = v2 at *
  go_wp2
  go_ret2
  exact ⟨_, _, _, _, rfl, nums2 G_2 (O_2.mono (by omega)) (O2_2.mono (by omega)) hD (by omega) (fun g' e => by have := ltO g' e; omega) (fun g' e => by have := ltO2 g' e; omega) h0 h1, hbel_2⟩

set_option maxRecDepth 100000 in
set_option maxHeartbeats 4000000 in
theorem call_7 {w : World} {a b : Option Addr} {n c m d : Nat} {la lb : List Nat} {s t : Bool} {Z : Nat → Int} (ha : Rd w a n c la) (hn : n ≤ 4194304) (hb : Rd w b m d lb) (hm : m ≤ 4194304) {q r : Int} {G : Nat} (hG : Nat.gcd (val la) (val lb) = G) (hq : bzS (zv s (val la)) (bzX (val la) (val lb) 1 0) = q) (hr : bzS (zv t (val lb)) (bzX (val la) (val lb) 0 1) = r) (h0 : Z 0 = (G : Int)) (h1 : Z 1 = q) (h2 : Z 2 = r) :
    Calls Try.prog 34 #[.int .i64 7, .agg #[.bool s, .slice a n c], .agg #[.bool t, .slice b m d]] w (RetNums w 3 Z 0) := by
  have H := hid (fun W (ha : Rd W a n c la) (hb : Rd W b m d lb) => kbez (s := s) (t := t) ha hn hb hm hG hq hr)
  clear hG hq hr
  have hent := ent2 w #[Value.bool s, Value.slice a n c] #[Value.bool t, Value.slice b m d] 25 25
  go_enter Try.func34, Try.ntmps34
  go_wp2_with fail
  generalize ((w.alloc (.cells #[Value.bool s, Value.slice a n c] 25)).alloc (.cells #[Value.bool t, Value.slice b m d] 25)) = W0 at hent ⊢
  obtain ⟨X_0, Y_0, hbel_0, hsz_0⟩ := hent
  have cX_0_0 : _ = some (Value.bool s) := X_0.cell 0
  have cX_0_1 : _ = some (Value.slice a n c) := X_0.cell 1
  have cY_0_0 : _ = some (Value.bool t) := Y_0.cell 0
  have cY_0_1 : _ = some (Value.slice b m d) := Y_0.cell 1
  have ha_0 := ha.below hbel_0
  clear ha
  have hb_0 := hb.below hbel_0
  clear hb
  go_wp2_with fail
  refine (H.out _ ha_0 hb_0).mono ?_
  rintro e w1 ⟨p, pn, pc, u, un, uc, v, vn, vc, rfl, hO, hO2, hO3, hD, hE, hF, hB⟩
  have hB_1 : Below W0.heap.size W0 w1 := (bl.next hB)
  have X_1 := X_0.next hB_1
  have cX_1_0 : _ = some (Value.bool s) := X_1.cell 0
  have cX_1_1 : _ = some (Value.slice a n c) := X_1.cell 1
  have Y_1 := Y_0.next hB_1
  have cY_1_0 : _ = some (Value.bool t) := Y_1.cell 0
  have cY_1_1 : _ = some (Value.slice b m d) := Y_1.cell 1
  have ha_1 := ha_0.below hB_1
  have hb_1 := hb_0.below hB_1
  have hbel_1 := hbel_0.next hB_1
  have hsz_1 := hB_1.size
  clear X_0 cX_0_0 cX_0_1 Y_0 cY_0_0 cY_0_1 ha_0 hb_0 hbel_0 hB_1
  have O_1 := hO
  have ltO := hO.ltB
  have O2_1 := hO2
  have ltO2 := hO2.ltB
  have O3_1 := hO3
  have ltO3 := hO3.ltB
  try clear hB
  have hbx0 : Blk (((w1.alloc (.cells #[Value.bool (decide (q < 0)), Value.slice u un uc] 25)).alloc (.cells #[Value.bool (decide (r < 0)), Value.slice v vn vc] 25)).alloc (.cells #[Value.bool false, Value.slice p pn pc, Value.bool (decide (q < 0)), Value.slice u un uc, Value.bool (decide (r < 0)), Value.slice v vn vc] 25)) (w1.heap.size) #[Value.bool (decide (q < 0)), Value.slice u un uc] := (((blk_new' w1 #[Value.bool (decide (q < 0)), Value.slice u un uc] 25 (g := w1.heap.size) (by simp)).alloc _).alloc _)
  have hbx1 : Blk (((w1.alloc (.cells #[Value.bool (decide (q < 0)), Value.slice u un uc] 25)).alloc (.cells #[Value.bool (decide (r < 0)), Value.slice v vn vc] 25)).alloc (.cells #[Value.bool false, Value.slice p pn pc, Value.bool (decide (q < 0)), Value.slice u un uc, Value.bool (decide (r < 0)), Value.slice v vn vc] 25)) (w1.heap.size + 1) #[Value.bool (decide (r < 0)), Value.slice v vn vc] := ((blk_new' (w1.alloc (.cells #[Value.bool (decide (q < 0)), Value.slice u un uc] 25)) #[Value.bool (decide (r < 0)), Value.slice v vn vc] 25 (g := w1.heap.size + 1) (by simp)).alloc _)
  have hbx2 : Blk (((w1.alloc (.cells #[Value.bool (decide (q < 0)), Value.slice u un uc] 25)).alloc (.cells #[Value.bool (decide (r < 0)), Value.slice v vn vc] 25)).alloc (.cells #[Value.bool false, Value.slice p pn pc, Value.bool (decide (q < 0)), Value.slice u un uc, Value.bool (decide (r < 0)), Value.slice v vn vc] 25)) (w1.heap.size + 1 + 1) #[Value.bool false, Value.slice p pn pc, Value.bool (decide (q < 0)), Value.slice u un uc, Value.bool (decide (r < 0)), Value.slice v vn vc] := (blk_new' ((w1.alloc (.cells #[Value.bool (decide (q < 0)), Value.slice u un uc] 25)).alloc (.cells #[Value.bool (decide (r < 0)), Value.slice v vn vc] 25)) #[Value.bool false, Value.slice p pn pc, Value.bool (decide (q < 0)), Value.slice u un uc, Value.bool (decide (r < 0)), Value.slice v vn vc] 25 (g := w1.heap.size + 1 + 1) (by simp))
  have hbB : Below w1.heap.size w1 (((w1.alloc (.cells #[Value.bool (decide (q < 0)), Value.slice u un uc] 25)).alloc (.cells #[Value.bool (decide (r < 0)), Value.slice v vn vc] 25)).alloc (.cells #[Value.bool false, Value.slice p pn pc, Value.bool (decide (q < 0)), Value.slice u un uc, Value.bool (decide (r < 0)), Value.slice v vn vc] 25)) := bl
  have hltP := hbx0.lt
  have hltQ := hbx1.lt
  have hltG := hbx2.lt
  have hB_2 : Below w1.heap.size w1 (((w1.alloc (.cells #[Value.bool (decide (q < 0)), Value.slice u un uc] 25)).alloc (.cells #[Value.bool (decide (r < 0)), Value.slice v vn vc] 25)).alloc (.cells #[Value.bool false, Value.slice p pn pc, Value.bool (decide (q < 0)), Value.slice u un uc, Value.bool (decide (r < 0)), Value.slice v vn vc] 25)) := hbB
  have X_2 := X_1.next hB_2
  have cX_2_0 : _ = some (Value.bool s) := X_2.cell 0
  have cX_2_1 : _ = some (Value.slice a n c) := X_2.cell 1
  have Y_2 := Y_1.next hB_2
  have cY_2_0 : _ = some (Value.bool t) := Y_2.cell 0
  have cY_2_1 : _ = some (Value.slice b m d) := Y_2.cell 1
  have ha_2 := ha_1.below hB_2
  have hb_2 := hb_1.below hB_2
  have O_2 := O_1.below hB_2
  have O2_2 := O2_1.below hB_2
  have O3_2 := O3_1.below hB_2
  have hbel_2 := hbel_1.next hB_2
  have hsz_2 := hB_2.size
  clear hB_2
  have P_2 := hbx0
  clear hbx0
  have cP_2_0 : _ = some (Value.bool (decide (q < 0))) := P_2.cell 0
  have cP_2_1 : _ = some (Value.slice u un uc) := P_2.cell 1
  have Q_2 := hbx1
  clear hbx1
  have cQ_2_0 : _ = some (Value.bool (decide (r < 0))) := Q_2.cell 0
  have cQ_2_1 : _ = some (Value.slice v vn vc) := Q_2.cell 1
  have G_2 := hbx2
  clear hbx2
  have cG_2_0 : _ = some (Value.bool false) := G_2.cell 0
  have cG_2_1 : _ = some (Value.slice p pn pc) := G_2.cell 1
  have cG_2_2 : _ = some (Value.bool (decide (q < 0))) := G_2.cell 2
  have cG_2_3 : _ = some (Value.slice u un uc) := G_2.cell 3
  have cG_2_4 : _ = some (Value.bool (decide (r < 0))) := G_2.cell 4
  have cG_2_5 : _ = some (Value.slice v vn vc) := G_2.cell 5
  clear hbB
  go_wp2_with fail
  clear X_1 cX_1_0 cX_1_1 Y_1 cY_1_0 cY_1_1 ha_1 hb_1 O_1 O2_1 O3_1 hbel_1
  generalize (((w1.alloc (.cells #[Value.bool (decide (q < 0)), Value.slice u un uc] 25)).alloc (.cells #[Value.bool (decide (r < 0)), Value.slice v vn vc] 25)).alloc (.cells #[Value.bool false, Value.slice p pn pc, Value.bool (decide (q < 0)), Value.slice u un uc, Value.bool (decide (r < 0)), Value.slice v vn vc] 25)) = v2 at *
  go_wp2
  go_ret2
  exact ⟨_, _, _, _, rfl, nums3 (x := (G : Int)) (by rw [show decide ((G : Int) < 0) = false from decide_eq_false (by omega)]; exact G_2) (show Own _ _ _ _ _ (lm G) from O_2.mono (by omega)) (O2_2.mono (by omega)) (O3_2.mono (by omega)) hD hE hF (by omega) (fun g' e => by have := ltO g' e; omega) (fun g' e => by have := ltO2 g' e; omega) (fun g' e => by have := ltO3 g' e; omega) h0 h1 h2, hbel_2⟩

set_option maxRecDepth 100000 in
set_option maxHeartbeats 4000000 in
theorem told_0 {w : World} {a b : Option Addr} {n c m d : Nat} {la lb : List Nat} {s t : Bool} {Z : Nat → Int} (ha : Rd w a n c la) (hn : n ≤ 4194304) (hb : Rd w b m d lb) (hm : m ≤ 4194304) {z : Int} (hz : zv s (val la) = z) (h0 : Z 0 = z) :
    Calls Try.prog 32 #[.int .i64 0, .agg #[.bool s, .slice a n c], .agg #[.bool t, .slice b m d]] w (RetNums w 1 Z 0) := by
  have H := hid (fun W (ha : Rd W a n c la) (hb : Rd W b m d lb) => rknorm (s := s) ha hn hz)
  clear hz
  have hent := ent2 w #[Value.bool s, Value.slice a n c] #[Value.bool t, Value.slice b m d] 25 25
  go_enter Try.func32, Try.ntmps32
  go_wp2_with fail
  generalize ((w.alloc (.cells #[Value.bool s, Value.slice a n c] 25)).alloc (.cells #[Value.bool t, Value.slice b m d] 25)) = W0 at hent ⊢
  obtain ⟨X_0, Y_0, hbel_0, hsz_0⟩ := hent
  have cX_0_0 : _ = some (Value.bool s) := X_0.cell 0
  have cX_0_1 : _ = some (Value.slice a n c) := X_0.cell 1
  have cY_0_0 : _ = some (Value.bool t) := Y_0.cell 0
  have cY_0_1 : _ = some (Value.slice b m d) := Y_0.cell 1
  have ha_0 := ha.below hbel_0
  clear ha
  have hb_0 := hb.below hbel_0
  clear hb
  go_wp2_with fail
  refine (H.out _ ha_0 hb_0).mono ?_
  rintro e w1 ⟨p, pn, pc, rfl, hO, hB⟩
  have hB_1 : Below W0.heap.size W0 w1 := (bl.next hB)
  have X_1 := X_0.next hB_1
  have cX_1_0 : _ = some (Value.bool s) := X_1.cell 0
  have cX_1_1 : _ = some (Value.slice a n c) := X_1.cell 1
  have Y_1 := Y_0.next hB_1
  have cY_1_0 : _ = some (Value.bool t) := Y_1.cell 0
  have cY_1_1 : _ = some (Value.slice b m d) := Y_1.cell 1
  have ha_1 := ha_0.below hB_1
  have hb_1 := hb_0.below hB_1
  have hbel_1 := hbel_0.next hB_1
  have hsz_1 := hB_1.size
  clear X_0 cX_0_0 cX_0_1 Y_0 cY_0_0 cY_0_1 ha_0 hb_0 hbel_0 hB_1
  have O_1 := hO
  have ltO := hO.ltB
  try clear hB
  have hbx := blk_new w1 #[Value.bool (decide (z < 0)), Value.slice p pn pc] 25
  have hbB := (Below.refl w1.heap.size w1).alloc (Nat.le_refl _) (.cells #[Value.bool (decide (z < 0)), Value.slice p pn pc] 25)
  have hltG := hbx.lt
  have hB_2 : Below w1.heap.size w1 (w1.alloc (.cells #[Value.bool (decide (z < 0)), Value.slice p pn pc] 25)) := hbB
  have X_2 := X_1.next hB_2
  have cX_2_0 : _ = some (Value.bool s) := X_2.cell 0
  have cX_2_1 : _ = some (Value.slice a n c) := X_2.cell 1
  have Y_2 := Y_1.next hB_2
  have cY_2_0 : _ = some (Value.bool t) := Y_2.cell 0
  have cY_2_1 : _ = some (Value.slice b m d) := Y_2.cell 1
  have ha_2 := ha_1.below hB_2
  have hb_2 := hb_1.below hB_2
  have O_2 := O_1.below hB_2
  have hbel_2 := hbel_1.next hB_2
  have hsz_2 := hB_2.size
  clear hB_2
  have G_2 := hbx
  clear hbx hbB
  have cG_2_0 : _ = some (Value.bool (decide (z < 0))) := G_2.cell 0
  have cG_2_1 : _ = some (Value.slice p pn pc) := G_2.cell 1
  go_wp2_with fail
  clear X_1 cX_1_0 cX_1_1 Y_1 cY_1_0 cY_1_1 ha_1 hb_1 O_1 hbel_1
  generalize (w1.alloc (.cells #[Value.bool (decide (z < 0)), Value.slice p pn pc] 25)) = v2 at *
  go_wp2
  go_ret2
  exact ⟨_, _, _, _, rfl, nums1 G_2 (O_2.mono (by omega)) (by omega) (fun g' e => by have := ltO g' e; omega) h0, hbel_2⟩

set_option maxRecDepth 100000 in
set_option maxHeartbeats 4000000 in
theorem told_1 {w : World} {a b : Option Addr} {n c m d : Nat} {la lb : List Nat} {s t : Bool} {Z : Nat → Int} (ha : Rd w a n c la) (hn : n ≤ 4194304) (hb : Rd w b m d lb) (hm : m ≤ 4194304) {z : Int} (hz : -zv s (val la) = z) (h0 : Z 0 = z) :
    Calls Try.prog 32 #[.int .i64 1, .agg #[.bool s, .slice a n c], .agg #[.bool t, .slice b m d]] w (RetNums w 1 Z 0) := by
  have H := hid (fun W (ha : Rd W a n c la) (hb : Rd W b m d lb) => rkneg (s := s) ha hn hz)
  clear hz
  have hent := ent2 w #[Value.bool s, Value.slice a n c] #[Value.bool t, Value.slice b m d] 25 25
  go_enter Try.func32, Try.ntmps32
  go_wp2_with fail
  generalize ((w.alloc (.cells #[Value.bool s, Value.slice a n c] 25)).alloc (.cells #[Value.bool t, Value.slice b m d] 25)) = W0 at hent ⊢
  obtain ⟨X_0, Y_0, hbel_0, hsz_0⟩ := hent
  have cX_0_0 : _ = some (Value.bool s) := X_0.cell 0
  have cX_0_1 : _ = some (Value.slice a n c) := X_0.cell 1
  have cY_0_0 : _ = some (Value.bool t) := Y_0.cell 0
  have cY_0_1 : _ = some (Value.slice b m d) := Y_0.cell 1
  have ha_0 := ha.below hbel_0
  clear ha
  have hb_0 := hb.below hbel_0
  clear hb
  go_wp2_with fail
  refine (H.out _ ha_0 hb_0).mono ?_
  rintro e w1 ⟨p, pn, pc, rfl, hO, hB⟩
  have hB_1 : Below W0.heap.size W0 w1 := (bl.next hB)
  have X_1 := X_0.next hB_1
  have cX_1_0 : _ = some (Value.bool s) := X_1.cell 0
  have cX_1_1 : _ = some (Value.slice a n c) := X_1.cell 1
  have Y_1 := Y_0.next hB_1
  have cY_1_0 : _ = some (Value.bool t) := Y_1.cell 0
  have cY_1_1 : _ = some (Value.slice b m d) := Y_1.cell 1
  have ha_1 := ha_0.below hB_1
  have hb_1 := hb_0.below hB_1
  have hbel_1 := hbel_0.next hB_1
  have hsz_1 := hB_1.size
  clear X_0 cX_0_0 cX_0_1 Y_0 cY_0_0 cY_0_1 ha_0 hb_0 hbel_0 hB_1
  have O_1 := hO
  have ltO := hO.ltB
  try clear hB
  have hbx := blk_new w1 #[Value.bool (decide (z < 0)), Value.slice p pn pc] 25
  have hbB := (Below.refl w1.heap.size w1).alloc (Nat.le_refl _) (.cells #[Value.bool (decide (z < 0)), Value.slice p pn pc] 25)
  have hltG := hbx.lt
  have hB_2 : Below w1.heap.size w1 (w1.alloc (.cells #[Value.bool (decide (z < 0)), Value.slice p pn pc] 25)) := hbB
  have X_2 := X_1.next hB_2
  have cX_2_0 : _ = some (Value.bool s) := X_2.cell 0
  have cX_2_1 : _ = some (Value.slice a n c) := X_2.cell 1
  have Y_2 := Y_1.next hB_2
  have cY_2_0 : _ = some (Value.bool t) := Y_2.cell 0
  have cY_2_1 : _ = some (Value.slice b m d) := Y_2.cell 1
  have ha_2 := ha_1.below hB_2
  have hb_2 := hb_1.below hB_2
  have O_2 := O_1.below hB_2
  have hbel_2 := hbel_1.next hB_2
  have hsz_2 := hB_2.size
  clear hB_2
  have G_2 := hbx
  clear hbx hbB
  have cG_2_0 : _ = some (Value.bool (decide (z < 0))) := G_2.cell 0
  have cG_2_1 : _ = some (Value.slice p pn pc) := G_2.cell 1
  go_wp2_with fail
  clear X_1 cX_1_0 cX_1_1 Y_1 cY_1_0 cY_1_1 ha_1 hb_1 O_1 hbel_1
  generalize (w1.alloc (.cells #[Value.bool (decide (z < 0)), Value.slice p pn pc] 25)) = v2 at *
  go_wp2
  go_ret2
  exact ⟨_, _, _, _, rfl, nums1 G_2 (O_2.mono (by omega)) (by omega) (fun g' e => by have := ltO g' e; omega) h0, hbel_2⟩

set_option maxRecDepth 100000 in
set_option maxHeartbeats 4000000 in
theorem told_2 {w : World} {a b : Option Addr} {n c m d : Nat} {la lb : List Nat} {s t : Bool} {Z : Nat → Int} (ha : Rd w a n c la) (hn : n ≤ 4194304) (hb : Rd w b m d lb) (hm : m ≤ 4194304) {z : Int} (hz : zv s (val la) + zv t (val lb) = z) (h0 : Z 0 = z) :
    Calls Try.prog 32 #[.int .i64 2, .agg #[.bool s, .slice a n c], .agg #[.bool t, .slice b m d]] w (RetNums w 1 Z 0) := by
  have H := hid (fun W (ha : Rd W a n c la) (hb : Rd W b m d lb) => rkadd (s := s) (t := t) ha hn hb hm hz)
  clear hz
  have hent := ent2 w #[Value.bool s, Value.slice a n c] #[Value.bool t, Value.slice b m d] 25 25
  go_enter Try.func32, Try.ntmps32
  go_wp2_with fail
  generalize ((w.alloc (.cells #[Value.bool s, Value.slice a n c] 25)).alloc (.cells #[Value.bool t, Value.slice b m d] 25)) = W0 at hent ⊢
  obtain ⟨X_0, Y_0, hbel_0, hsz_0⟩ := hent
  have cX_0_0 : _ = some (Value.bool s) := X_0.cell 0
  have cX_0_1 : _ = some (Value.slice a n c) := X_0.cell 1
  have cY_0_0 : _ = some (Value.bool t) := Y_0.cell 0
  have cY_0_1 : _ = some (Value.slice b m d) := Y_0.cell 1
  have ha_0 := ha.below hbel_0
  clear ha
  have hb_0 := hb.below hbel_0
  clear hb
  go_wp2_with fail
  refine (H.out _ ha_0 hb_0).mono ?_
  rintro e w1 ⟨p, pn, pc, rfl, hO, hB⟩
  have hB_1 : Below W0.heap.size W0 w1 := (bl.next hB)
  have X_1 := X_0.next hB_1
  have cX_1_0 : _ = some (Value.bool s) := X_1.cell 0
  have cX_1_1 : _ = some (Value.slice a n c) := X_1.cell 1
  have Y_1 := Y_0.next hB_1
  have cY_1_0 : _ = some (Value.bool t) := Y_1.cell 0
  have cY_1_1 : _ = some (Value.slice b m d) := Y_1.cell 1
  have ha_1 := ha_0.below hB_1
  have hb_1 := hb_0.below hB_1
  have hbel_1 := hbel_0.next hB_1
  have hsz_1 := hB_1.size
  clear X_0 cX_0_0 cX_0_1 Y_0 cY_0_0 cY_0_1 ha_0 hb_0 hbel_0 hB_1
  have O_1 := hO
  have ltO := hO.ltB
  try clear hB
  have hbx := blk_new w1 #[Value.bool (decide (z < 0)), Value.slice p pn pc] 25
  have hbB := (Below.refl w1.heap.size w1).alloc (Nat.le_refl _) (.cells #[Value.bool (decide (z < 0)), Value.slice p pn pc] 25)
  have hltG := hbx.lt
  have hB_2 : Below w1.heap.size w1 (w1.alloc (.cells #[Value.bool (decide (z < 0)), Value.slice p pn pc] 25)) := hbB
  have X_2 := X_1.next hB_2
  have cX_2_0 : _ = some (Value.bool s) := X_2.cell 0
  have cX_2_1 : _ = some (Value.slice a n c) := X_2.cell 1
  have Y_2 := Y_1.next hB_2
  have cY_2_0 : _ = some (Value.bool t) := Y_2.cell 0
  have cY_2_1 : _ = some (Value.slice b m d) := Y_2.cell 1
  have ha_2 := ha_1.below hB_2
  have hb_2 := hb_1.below hB_2
  have O_2 := O_1.below hB_2
  have hbel_2 := hbel_1.next hB_2
  have hsz_2 := hB_2.size
  clear hB_2
  have G_2 := hbx
  clear hbx hbB
  have cG_2_0 : _ = some (Value.bool (decide (z < 0))) := G_2.cell 0
  have cG_2_1 : _ = some (Value.slice p pn pc) := G_2.cell 1
  go_wp2_with fail
  clear X_1 cX_1_0 cX_1_1 Y_1 cY_1_0 cY_1_1 ha_1 hb_1 O_1 hbel_1
  generalize (w1.alloc (.cells #[Value.bool (decide (z < 0)), Value.slice p pn pc] 25)) = v2 at *
  go_wp2
  go_ret2
  exact ⟨_, _, _, _, rfl, nums1 G_2 (O_2.mono (by omega)) (by omega) (fun g' e => by have := ltO g' e; omega) h0, hbel_2⟩

set_option maxRecDepth 100000 in
set_option maxHeartbeats 4000000 in
theorem told_3 {w : World} {a b : Option Addr} {n c m d : Nat} {la lb : List Nat} {s t : Bool} {Z : Nat → Int} (ha : Rd w a n c la) (hn : n ≤ 4194304) (hb : Rd w b m d lb) (hm : m ≤ 4194304) {z : Int} (hz : zv s (val la) - zv t (val lb) = z) (h0 : Z 0 = z) :
    Calls Try.prog 32 #[.int .i64 3, .agg #[.bool s, .slice a n c], .agg #[.bool t, .slice b m d]] w (RetNums w 1 Z 0) := by
  have H := hid (fun W (ha : Rd W a n c la) (hb : Rd W b m d lb) => rksub (s := s) (t := t) ha hn hb hm hz)
  clear hz
  have hent := ent2 w #[Value.bool s, Value.slice a n c] #[Value.bool t, Value.slice b m d] 25 25
  go_enter Try.func32, Try.ntmps32
  go_wp2_with fail
  generalize ((w.alloc (.cells #[Value.bool s, Value.slice a n c] 25)).alloc (.cells #[Value.bool t, Value.slice b m d] 25)) = W0 at hent ⊢
  obtain ⟨X_0, Y_0, hbel_0, hsz_0⟩ := hent
  have cX_0_0 : _ = some (Value.bool s) := X_0.cell 0
  have cX_0_1 : _ = some (Value.slice a n c) := X_0.cell 1
  have cY_0_0 : _ = some (Value.bool t) := Y_0.cell 0
  have cY_0_1 : _ = some (Value.slice b m d) := Y_0.cell 1
  have ha_0 := ha.below hbel_0
  clear ha
  have hb_0 := hb.below hbel_0
  clear hb
  go_wp2_with fail
  refine (H.out _ ha_0 hb_0).mono ?_
  rintro e w1 ⟨p, pn, pc, rfl, hO, hB⟩
  have hB_1 : Below W0.heap.size W0 w1 := (bl.next hB)
  have X_1 := X_0.next hB_1
  have cX_1_0 : _ = some (Value.bool s) := X_1.cell 0
  have cX_1_1 : _ = some (Value.slice a n c) := X_1.cell 1
  have Y_1 := Y_0.next hB_1
  have cY_1_0 : _ = some (Value.bool t) := Y_1.cell 0
  have cY_1_1 : _ = some (Value.slice b m d) := Y_1.cell 1
  have ha_1 := ha_0.below hB_1
  have hb_1 := hb_0.below hB_1
  have hbel_1 := hbel_0.next hB_1
  have hsz_1 := hB_1.size
  clear X_0 cX_0_0 cX_0_1 Y_0 cY_0_0 cY_0_1 ha_0 hb_0 hbel_0 hB_1
  have O_1 := hO
  have ltO := hO.ltB
  try clear hB
  have hbx := blk_new w1 #[Value.bool (decide (z < 0)), Value.slice p pn pc] 25
  have hbB := (Below.refl w1.heap.size w1).alloc (Nat.le_refl _) (.cells #[Value.bool (decide (z < 0)), Value.slice p pn pc] 25)
  have hltG := hbx.lt
  have hB_2 : Below w1.heap.size w1 (w1.alloc (.cells #[Value.bool (decide (z < 0)), Value.slice p pn pc] 25)) := hbB
  have X_2 := X_1.next hB_2
  have cX_2_0 : _ = some (Value.bool s) := X_2.cell 0
  have cX_2_1 : _ = some (Value.slice a n c) := X_2.cell 1
  have Y_2 := Y_1.next hB_2
  have cY_2_0 : _ = some (Value.bool t) := Y_2.cell 0
  have cY_2_1 : _ = some (Value.slice b m d) := Y_2.cell 1
  have ha_2 := ha_1.below hB_2
  have hb_2 := hb_1.below hB_2
  have O_2 := O_1.below hB_2
  have hbel_2 := hbel_1.next hB_2
  have hsz_2 := hB_2.size
  clear hB_2
  have G_2 := hbx
  clear hbx hbB
  have cG_2_0 : _ = some (Value.bool (decide (z < 0))) := G_2.cell 0
  have cG_2_1 : _ = some (Value.slice p pn pc) := G_2.cell 1
  go_wp2_with fail
  clear X_1 cX_1_0 cX_1_1 Y_1 cY_1_0 cY_1_1 ha_1 hb_1 O_1 hbel_1
  generalize (w1.alloc (.cells #[Value.bool (decide (z < 0)), Value.slice p pn pc] 25)) = v2 at *
  go_wp2
  go_ret2
  exact ⟨_, _, _, _, rfl, nums1 G_2 (O_2.mono (by omega)) (by omega) (fun g' e => by have := ltO g' e; omega) h0, hbel_2⟩

set_option maxRecDepth 100000 in
set_option maxHeartbeats 4000000 in
theorem told_4 {w : World} {a b : Option Addr} {n c m d : Nat} {la lb : List Nat} {s t : Bool} {Z : Nat → Int} (ha : Rd w a n c la) (hn : n ≤ 4194304) (hb : Rd w b m d lb) (hm : m ≤ 4194304) {z : Int} (hz : zv s (val la) * zv t (val lb) = z) (h0 : Z 0 = z) :
    Calls Try.prog 32 #[.int .i64 4, .agg #[.bool s, .slice a n c], .agg #[.bool t, .slice b m d]] w (RetNums w 1 Z 0) := by
  have H := hid (fun W (ha : Rd W a n c la) (hb : Rd W b m d lb) => rkmul (s := s) (t := t) ha hn hb hm hz)
  clear hz
  have hent := ent2 w #[Value.bool s, Value.slice a n c] #[Value.bool t, Value.slice b m d] 25 25
  go_enter Try.func32, Try.ntmps32
  go_wp2_with fail
  generalize ((w.alloc (.cells #[Value.bool s, Value.slice a n c] 25)).alloc (.cells #[Value.bool t, Value.slice b m d] 25)) = W0 at hent ⊢
  obtain ⟨X_0, Y_0, hbel_0, hsz_0⟩ := hent
  have cX_0_0 : _ = some (Value.bool s) := X_0.cell 0
  have cX_0_1 : _ = some (Value.slice a n c) := X_0.cell 1
  have cY_0_0 : _ = some (Value.bool t) := Y_0.cell 0
  have cY_0_1 : _ = some (Value.slice b m d) := Y_0.cell 1
  have ha_0 := ha.below hbel_0
  clear ha
  have hb_0 := hb.below hbel_0
  clear hb
  go_wp2_with fail
  refine (H.out _ ha_0 hb_0).mono ?_
  rintro e w1 ⟨p, pn, pc, rfl, hO, hB⟩
  have hB_1 : Below W0.heap.size W0 w1 := (bl.next hB)
  have X_1 := X_0.next hB_1
  have cX_1_0 : _ = some (Value.bool s) := X_1.cell 0
  have cX_1_1 : _ = some (Value.slice a n c) := X_1.cell 1
  have Y_1 := Y_0.next hB_1
  have cY_1_0 : _ = some (Value.bool t) := Y_1.cell 0
  have cY_1_1 : _ = some (Value.slice b m d) := Y_1.cell 1
  have ha_1 := ha_0.below hB_1
  have hb_1 := hb_0.below hB_1
  have hbel_1 := hbel_0.next hB_1
  have hsz_1 := hB_1.size
  clear X_0 cX_0_0 cX_0_1 Y_0 cY_0_0 cY_0_1 ha_0 hb_0 hbel_0 hB_1
  have O_1 := hO
  have ltO := hO.ltB
  try clear hB
  have hbx := blk_new w1 #[Value.bool (decide (z < 0)), Value.slice p pn pc] 25
  have hbB := (Below.refl w1.heap.size w1).alloc (Nat.le_refl _) (.cells #[Value.bool (decide (z < 0)), Value.slice p pn pc] 25)
  have hltG := hbx.lt
  have hB_2 : Below w1.heap.size w1 (w1.alloc (.cells #[Value.bool (decide (z < 0)), Value.slice p pn pc] 25)) := hbB
  have X_2 := X_1.next hB_2
  have cX_2_0 : _ = some (Value.bool s) := X_2.cell 0
  have cX_2_1 : _ = some (Value.slice a n c) := X_2.cell 1
  have Y_2 := Y_1.next hB_2
  have cY_2_0 : _ = some (Value.bool t) := Y_2.cell 0
  have cY_2_1 : _ = some (Value.slice b m d) := Y_2.cell 1
  have ha_2 := ha_1.below hB_2
  have hb_2 := hb_1.below hB_2
  have O_2 := O_1.below hB_2
  have hbel_2 := hbel_1.next hB_2
  have hsz_2 := hB_2.size
  clear hB_2
  have G_2 := hbx
  clear hbx hbB
  have cG_2_0 : _ = some (Value.bool (decide (z < 0))) := G_2.cell 0
  have cG_2_1 : _ = some (Value.slice p pn pc) := G_2.cell 1
  go_wp2_with fail
  clear X_1 cX_1_0 cX_1_1 Y_1 cY_1_0 cY_1_1 ha_1 hb_1 O_1 hbel_1
  generalize (w1.alloc (.cells #[Value.bool (decide (z < 0)), Value.slice p pn pc] 25)) = v2 at *
  go_wp2
  go_ret2
  exact ⟨_, _, _, _, rfl, nums1 G_2 (O_2.mono (by omega)) (by omega) (fun g' e => by have := ltO g' e; omega) h0, hbel_2⟩

set_option maxRecDepth 100000 in
set_option maxHeartbeats 4000000 in
theorem told_5 {w : World} {a b : Option Addr} {n c m d : Nat} {la lb : List Nat} {s t : Bool} {Z : Nat → Int} (ha : Rd w a n c la) (hn : n ≤ 4194304) (hb : Rd w b m d lb) (hm : m ≤ 4194304) {q r er : Int} (hq : flQ s (val la) t (val lb) = q) (hr : flR s (val la) t (val lb) = r) (he : dvE (val lb) = er) (h0 : Z 0 = q) (h1 : Z 1 = r) :
    Calls Try.prog 32 #[.int .i64 5, .agg #[.bool s, .slice a n c], .agg #[.bool t, .slice b m d]] w (RetNums w 2 Z er) := by
  have H := hid (fun W (ha : Rd W a n c la) (hb : Rd W b m d lb) => rkfloor (s := s) (t := t) ha hn hb hm hq hr he)
  clear hq hr he
  have hent := ent2 w #[Value.bool s, Value.slice a n c] #[Value.bool t, Value.slice b m d] 25 25
  go_enter Try.func32, Try.ntmps32
  go_wp2_with fail
  generalize ((w.alloc (.cells #[Value.bool s, Value.slice a n c] 25)).alloc (.cells #[Value.bool t, Value.slice b m d] 25)) = W0 at hent ⊢
  obtain ⟨X_0, Y_0, hbel_0, hsz_0⟩ := hent
  have cX_0_0 : _ = some (Value.bool s) := X_0.cell 0
  have cX_0_1 : _ = some (Value.slice a n c) := X_0.cell 1
  have cY_0_0 : _ = some (Value.bool t) := Y_0.cell 0
  have cY_0_1 : _ = some (Value.slice b m d) := Y_0.cell 1
  have ha_0 := ha.below hbel_0
  clear ha
  have hb_0 := hb.below hbel_0
  clear hb
  go_wp2_with fail
  refine (H.out _ ha_0 hb_0).mono ?_
  rintro e w1 ⟨p, pn, pc, u, un, uc, rfl, hO, hO2, hD, hB⟩
  have hB_1 : Below W0.heap.size W0 w1 := (bl.next hB)
  have X_1 := X_0.next hB_1
  have cX_1_0 : _ = some (Value.bool s) := X_1.cell 0
  have cX_1_1 : _ = some (Value.slice a n c) := X_1.cell 1
  have Y_1 := Y_0.next hB_1
  have cY_1_0 : _ = some (Value.bool t) := Y_1.cell 0
  have cY_1_1 : _ = some (Value.slice b m d) := Y_1.cell 1
  have ha_1 := ha_0.below hB_1
  have hb_1 := hb_0.below hB_1
  have hbel_1 := hbel_0.next hB_1
  have hsz_1 := hB_1.size
  clear X_0 cX_0_0 cX_0_1 Y_0 cY_0_0 cY_0_1 ha_0 hb_0 hbel_0 hB_1
  have O_1 := hO
  have ltO := hO.ltB
  have O2_1 := hO2
  have ltO2 := hO2.ltB
  try clear hB
  have hbx0 : Blk (((w1.alloc (.cells #[Value.bool (decide (q < 0)), Value.slice p pn pc] 25)).alloc (.cells #[Value.bool (decide (r < 0)), Value.slice u un uc] 25)).alloc (.cells #[Value.bool (decide (q < 0)), Value.slice p pn pc, Value.bool (decide (r < 0)), Value.slice u un uc] 25)) (w1.heap.size) #[Value.bool (decide (q < 0)), Value.slice p pn pc] := (((blk_new' w1 #[Value.bool (decide (q < 0)), Value.slice p pn pc] 25 (g := w1.heap.size) (by simp)).alloc _).alloc _)
  have hbx1 : Blk (((w1.alloc (.cells #[Value.bool (decide (q < 0)), Value.slice p pn pc] 25)).alloc (.cells #[Value.bool (decide (r < 0)), Value.slice u un uc] 25)).alloc (.cells #[Value.bool (decide (q < 0)), Value.slice p pn pc, Value.bool (decide (r < 0)), Value.slice u un uc] 25)) (w1.heap.size + 1) #[Value.bool (decide (r < 0)), Value.slice u un uc] := ((blk_new' (w1.alloc (.cells #[Value.bool (decide (q < 0)), Value.slice p pn pc] 25)) #[Value.bool (decide (r < 0)), Value.slice u un uc] 25 (g := w1.heap.size + 1) (by simp)).alloc _)
  have hbx2 : Blk (((w1.alloc (.cells #[Value.bool (decide (q < 0)), Value.slice p pn pc] 25)).alloc (.cells #[Value.bool (decide (r < 0)), Value.slice u un uc] 25)).alloc (.cells #[Value.bool (decide (q < 0)), Value.slice p pn pc, Value.bool (decide (r < 0)), Value.slice u un uc] 25)) (w1.heap.size + 1 + 1) #[Value.bool (decide (q < 0)), Value.slice p pn pc, Value.bool (decide (r < 0)), Value.slice u un uc] := (blk_new' ((w1.alloc (.cells #[Value.bool (decide (q < 0)), Value.slice p pn pc] 25)).alloc (.cells #[Value.bool (decide (r < 0)), Value.slice u un uc] 25)) #[Value.bool (decide (q < 0)), Value.slice p pn pc, Value.bool (decide (r < 0)), Value.slice u un uc] 25 (g := w1.heap.size + 1 + 1) (by simp))
  have hbB : Below w1.heap.size w1 (((w1.alloc (.cells #[Value.bool (decide (q < 0)), Value.slice p pn pc] 25)).alloc (.cells #[Value.bool (decide (r < 0)), Value.slice u un uc] 25)).alloc (.cells #[Value.bool (decide (q < 0)), Value.slice p pn pc, Value.bool (decide (r < 0)), Value.slice u un uc] 25)) := bl
  have hltP := hbx0.lt
  have hltQ := hbx1.lt
  have hltG := hbx2.lt
  have hB_2 : Below w1.heap.size w1 (((w1.alloc (.cells #[Value.bool (decide (q < 0)), Value.slice p pn pc] 25)).alloc (.cells #[Value.bool (decide (r < 0)), Value.slice u un uc] 25)).alloc (.cells #[Value.bool (decide (q < 0)), Value.slice p pn pc, Value.bool (decide (r < 0)), Value.slice u un uc] 25)) := hbB
  have X_2 := X_1.next hB_2
  have cX_2_0 : _ = some (Value.bool s) := X_2.cell 0
  have cX_2_1 : _ = some (Value.slice a n c) := X_2.cell 1
  have Y_2 := Y_1.next hB_2
  have cY_2_0 : _ = some (Value.bool t) := Y_2.cell 0
  have cY_2_1 : _ = some (Value.slice b m d) := Y_2.cell 1
  have ha_2 := ha_1.below hB_2
  have hb_2 := hb_1.below hB_2
  have O_2 := O_1.below hB_2
  have O2_2 := O2_1.below hB_2
  have hbel_2 := hbel_1.next hB_2
  have hsz_2 := hB_2.size
  clear hB_2
  have P_2 := hbx0
  clear hbx0
  have cP_2_0 : _ = some (Value.bool (decide (q < 0))) := P_2.cell 0
  have cP_2_1 : _ = some (Value.slice p pn pc) := P_2.cell 1
  have Q_2 := hbx1
  clear hbx1
  have cQ_2_0 : _ = some (Value.bool (decide (r < 0))) := Q_2.cell 0
  have cQ_2_1 : _ = some (Value.slice u un uc) := Q_2.cell 1
  have G_2 := hbx2
  clear hbx2
  have cG_2_0 : _ = some (Value.bool (decide (q < 0))) := G_2.cell 0
  have cG_2_1 : _ = some (Value.slice p pn pc) := G_2.cell 1
  have cG_2_2 : _ = some (Value.bool (decide (r < 0))) := G_2.cell 2
  have cG_2_3 : _ = some (Value.slice u un uc) := G_2.cell 3
  clear hbB
  go_wp2_with fail
  clear X_1 cX_1_0 cX_1_1 Y_1 cY_1_0 cY_1_1 ha_1 hb_1 O_1 O2_1 hbel_1
  generalize (((w1.alloc (.cells #[Value.bool (decide (q < 0)), Value.slice p pn pc] 25)).alloc (.cells #[Value.bool (decide (r < 0)), Value.slice u un uc] 25)).alloc (.cells #[Value.bool (decide (q < 0)), Value.slice p pn pc, Value.bool (decide (r < 0)), Value.slice u un uc] 25)) = v2 at *
  go_wp2
  go_ret2
  exact ⟨_, _, _, _, rfl, nums2 G_2 (O_2.mono (by omega)) (O2_2.mono (by omega)) hD (by omega) (fun g' e => by have := ltO g' e; omega) (fun g' e => by have := ltO2 g' e; omega) h0 h1, hbel_2⟩

set_option maxRecDepth 100000 in
set_option maxHeartbeats 4000000 in
theorem told_6 {w : World} {a b : Option Addr} {n c m d : Nat} {la lb : List Nat} {s t : Bool} {Z : Nat → Int} (ha : Rd w a n c la) (hn : n ≤ 4194304) (hb : Rd w b m d lb) (hm : m ≤ 4194304) {q r er : Int} (hq : zv (!(s == t)) (val la / val lb) = q) (hr : zv s (dvR (val la) (val lb)) = r) (he : dvE (val lb) = er) (h0 : Z 0 = q) (h1 : Z 1 = r) :
    Calls Try.prog 32 #[.int .i64 6, .agg #[.bool s, .slice a n c], .agg #[.bool t, .slice b m d]] w (RetNums w 2 Z er) := by
  have H := hid (fun W (ha : Rd W a n c la) (hb : Rd W b m d lb) => rkquo (s := s) (t := t) ha hn hb hm hq hr he)
  clear hq hr he
  have hent := ent2 w #[Value.bool s, Value.slice a n c] #[Value.bool t, Value.slice b m d] 25 25
  go_enter Try.func32, Try.ntmps32
  go_wp2_with fail
  generalize ((w.alloc (.cells #[Value.bool s, Value.slice a n c] 25)).alloc (.cells #[Value.bool t, Value.slice b m d] 25)) = W0 at hent ⊢
  obtain ⟨X_0, Y_0, hbel_0, hsz_0⟩ := hent
  have cX_0_0 : _ = some (Value.bool s) := X_0.cell 0
  have cX_0_1 : _ = some (Value.slice a n c) := X_0.cell 1
  have cY_0_0 : _ = some (Value.bool t) := Y_0.cell 0
  have cY_0_1 : _ = some (Value.slice b m d) := Y_0.cell 1
  have ha_0 := ha.below hbel_0
  clear ha
  have hb_0 := hb.below hbel_0
  clear hb
  go_wp2_with fail
  refine (H.out _ ha_0 hb_0).mono ?_
  rintro e w1 ⟨p, pn, pc, u, un, uc, rfl, hO, hO2, hD, hB⟩
  have hB_1 : Below W0.heap.size W0 w1 := (bl.next hB)
  have X_1 := X_0.next hB_1
  have cX_1_0 : _ = some (Value.bool s) := X_1.cell 0
  have cX_1_1 : _ = some (Value.slice a n c) := X_1.cell 1
  have Y_1 := Y_0.next hB_1
  have cY_1_0 : _ = some (Value.bool t) := Y_1.cell 0
  have cY_1_1 : _ = some (Value.slice b m d) := Y_1.cell 1
  have ha_1 := ha_0.below hB_1
  have hb_1 := hb_0.below hB_1
  have hbel_1 := hbel_0.next hB_1
  have hsz_1 := hB_1.size
  clear X_0 cX_0_0 cX_0_1 Y_0 cY_0_0 cY_0_1 ha_0 hb_0 hbel_0 hB_1
  have O_1 := hO
  have ltO := hO.ltB
  have O2_1 := hO2
  have ltO2 := hO2.ltB
  try clear hB
  have hbx0 : Blk (((w1.alloc (.cells #[Value.bool (decide (q < 0)), Value.slice p pn pc] 25)).alloc (.cells #[Value.bool (decide (r < 0)), Value.slice u un uc] 25)).alloc (.cells #[Value.bool (decide (q < 0)), Value.slice p pn pc, Value.bool (decide (r < 0)), Value.slice u un uc] 25)) (w1.heap.size) #[Value.bool (decide (q < 0)), Value.slice p pn pc] := (((blk_new' w1 #[Value.bool (decide (q < 0)), Value.slice p pn pc] 25 (g := w1.heap.size) (by simp)).alloc _).alloc _)
  have hbx1 : Blk (((w1.alloc (.cells #[Value.bool (decide (q < 0)), Value.slice p pn pc] 25)).alloc (.cells #[Value.bool (decide (r < 0)), Value.slice u un uc] 25)).alloc (.cells #[Value.bool (decide (q < 0)), Value.slice p pn pc, Value.bool (decide (r < 0)), Value.slice u un uc] 25)) (w1.heap.size + 1) #[Value.bool (decide (r < 0)), Value.slice u un uc] := ((blk_new' (w1.alloc (.cells #[Value.bool (decide (q < 0)), Value.slice p pn pc] 25)) #[Value.bool (decide (r < 0)), Value.slice u un uc] 25 (g := w1.heap.size + 1) (by simp)).alloc _)
  have hbx2 : Blk (((w1.alloc (.cells #[Value.bool (decide (q < 0)), Value.slice p pn pc] 25)).alloc (.cells #[Value.bool (decide (r < 0)), Value.slice u un uc] 25)).alloc (.cells #[Value.bool (decide (q < 0)), Value.slice p pn pc, Value.bool (decide (r < 0)), Value.slice u un uc] 25)) (w1.heap.size + 1 + 1) #[Value.bool (decide (q < 0)), Value.slice p pn pc, Value.bool (decide (r < 0)), Value.slice u un uc] := (blk_new' ((w1.alloc (.cells #[Value.bool (decide (q < 0)), Value.slice p pn pc] 25)).alloc (.cells #[Value.bool (decide (r < 0)), Value.slice u un uc] 25)) #[Value.bool (decide (q < 0)), Value.slice p pn pc, Value.bool (decide (r < 0)), Value.slice u un uc] 25 (g := w1.heap.size + 1 + 1) (by simp))
  have hbB : Below w1.heap.size w1 (((w1.alloc (.cells #[Value.bool (decide (q < 0)), Value.slice p pn pc] 25)).alloc (.cells #[Value.bool (decide (r < 0)), Value.slice u un uc] 25)).alloc (.cells #[Value.bool (decide (q < 0)), Value.slice p pn pc, Value.bool (decide (r < 0)), Value.slice u un uc] 25)) := bl
  have hltP := hbx0.lt
  have hltQ := hbx1.lt
  have hltG := hbx2.lt
  have hB_2 : Below w1.heap.size w1 (((w1.alloc (.cells #[Value.bool (decide (q < 0)), Value.slice p pn pc] 25)).alloc (.cells #[Value.bool (decide (r < 0)), Value.slice u un uc] 25)).alloc (.cells #[Value.bool (decide (q < 0)), Value.slice p pn pc, Value.bool (decide (r < 0)), Value.slice u un uc] 25)) := hbB
  have X_2 := X_1.next hB_2
  have cX_2_0 : _ = some (Value.bool s) := X_2.cell 0
  have cX_2_1 : _ = some (Value.slice a n c) := X_2.cell 1
  have Y_2 := Y_1.next hB_2
  have cY_2_0 : _ = some (Value.bool t) := Y_2.cell 0
  have cY_2_1 : _ = some (Value.slice b m d) := Y_2.cell 1
  have ha_2 := ha_1.below hB_2
  have hb_2 := hb_1.below hB_2
  have O_2 := O_1.below hB_2
  have O2_2 := O2_1.below hB_2
  have hbel_2 := hbel_1.next hB_2
  have hsz_2 := hB_2.size
  clear hB_2
  have P_2 := hbx0
  clear hbx0
  have cP_2_0 : _ = some (Value.bool (decide (q < 0))) := P_2.cell 0
  have cP_2_1 : _ = some (Value.slice p pn pc) := P_2.cell 1
  have Q_2 := hbx1
  clear hbx1
  have cQ_2_0 : _ = some (Value.bool (decide (r < 0))) := Q_2.cell 0
  have cQ_2_1 : _ = some (Value.slice u un uc) := Q_2.cell 1
  have G_2 := hbx2
  clear hbx2
  have cG_2_0 : _ = some (Value.bool (decide (q < 0))) := G_2.cell 0
  have cG_2_1 : _ = some (Value.slice p pn pc) := G_2.cell 1
  have cG_2_2 : _ = some (Value.bool (decide (r < 0))) := G_2.cell 2
  have cG_2_3 : _ = some (Value.slice u un uc) := G_2.cell 3
  clear hbB
  go_wp2_with fail
  clear X_1 cX_1_0 cX_1_1 Y_1 cY_1_0 cY_1_1 ha_1 hb_1 O_1 O2_1 hbel_1
  generalize (((w1.alloc (.cells #[Value.bool (decide (q < 0)), Value.slice p pn pc] 25)).alloc (.cells #[Value.bool (decide (r < 0)), Value.slice u un uc] 25)).alloc (.cells #[Value.bool (decide (q < 0)), Value.slice p pn pc, Value.bool (decide (r < 0)), Value.slice u un uc] 25)) = v2 at *
  go_wp2
  go_ret2
  exact ⟨_, _, _, _, rfl, nums2 G_2 (O_2.mono (by omega)) (O2_2.mono (by omega)) hD (by omega) (fun g' e => by have := ltO g' e; omega) (fun g' e => by have := ltO2 g' e; omega) h0 h1, hbel_2⟩

set_option maxRecDepth 100000 in
set_option maxHeartbeats 4000000 in
theorem told_7 {w : World} {a b : Option Addr} {n c m d : Nat} {la lb : List Nat} {s t : Bool} {Z : Nat → Int} (ha : Rd w a n c la) (hn : n ≤ 4194304) (hb : Rd w b m d lb) (hm : m ≤ 4194304) {q r : Int} {G : Nat} (hG : Nat.gcd (val la) (val lb) = G) (hq : bzS (zv s (val la)) (bzX (val la) (val lb) 1 0) = q) (hr : bzS (zv t (val lb)) (bzX (val la) (val lb) 0 1) = r) (h0 : Z 0 = (G : Int)) (h1 : Z 1 = q) (h2 : Z 2 = r) :
    Calls Try.prog 32 #[.int .i64 7, .agg #[.bool s, .slice a n c], .agg #[.bool t, .slice b m d]] w (RetNums w 3 Z 0) := by
  have H := hid (fun W (ha : Rd W a n c la) (hb : Rd W b m d lb) => rkbez (s := s) (t := t) ha hn hb hm hG hq hr)
  clear hG hq hr
  have hent := ent2 w #[Value.bool s, Value.slice a n c] #[Value.bool t, Value.slice b m d] 25 25
  go_enter Try.func32, Try.ntmps32
  go_wp2_with fail
  generalize ((w.alloc (.cells #[Value.bool s, Value.slice a n c] 25)).alloc (.cells #[Value.bool t, Value.slice b m d] 25)) = W0 at hent ⊢
  obtain ⟨X_0, Y_0, hbel_0, hsz_0⟩ := hent
  have cX_0_0 : _ = some (Value.bool s) := X_0.cell 0
  have cX_0_1 : _ = some (Value.slice a n c) := X_0.cell 1
  have cY_0_0 : _ = some (Value.bool t) := Y_0.cell 0
  have cY_0_1 : _ = some (Value.slice b m d) := Y_0.cell 1
  have ha_0 := ha.below hbel_0
  clear ha
  have hb_0 := hb.below hbel_0
  clear hb
  go_wp2_with fail
  refine (H.out _ ha_0 hb_0).mono ?_
  rintro e w1 ⟨p, pn, pc, u, un, uc, v, vn, vc, rfl, hO, hO2, hO3, hD, hE, hF, hB⟩
  have hB_1 : Below W0.heap.size W0 w1 := (bl.next hB)
  have X_1 := X_0.next hB_1
  have cX_1_0 : _ = some (Value.bool s) := X_1.cell 0
  have cX_1_1 : _ = some (Value.slice a n c) := X_1.cell 1
  have Y_1 := Y_0.next hB_1
  have cY_1_0 : _ = some (Value.bool t) := Y_1.cell 0
  have cY_1_1 : _ = some (Value.slice b m d) := Y_1.cell 1
  have ha_1 := ha_0.below hB_1
  have hb_1 := hb_0.below hB_1
  have hbel_1 := hbel_0.next hB_1
  have hsz_1 := hB_1.size
  clear X_0 cX_0_0 cX_0_1 Y_0 cY_0_0 cY_0_1 ha_0 hb_0 hbel_0 hB_1
  have O_1 := hO
  have ltO := hO.ltB
  have O2_1 := hO2
  have ltO2 := hO2.ltB
  have O3_1 := hO3
  have ltO3 := hO3.ltB
  try clear hB
  have hbx0 : Blk (((w1.alloc (.cells #[Value.bool (decide (q < 0)), Value.slice u un uc] 25)).alloc (.cells #[Value.bool (decide (r < 0)), Value.slice v vn vc] 25)).alloc (.cells #[Value.bool false, Value.slice p pn pc, Value.bool (decide (q < 0)), Value.slice u un uc, Value.bool (decide (r < 0)), Value.slice v vn vc] 25)) (w1.heap.size) #[Value.bool (decide (q < 0)), Value.slice u un uc] := (((blk_new' w1 #[Value.bool (decide (q < 0)), Value.slice u un uc] 25 (g := w1.heap.size) (by simp)).alloc _).alloc _)
  have hbx1 : Blk (((w1.alloc (.cells #[Value.bool (decide (q < 0)), Value.slice u un uc] 25)).alloc (.cells #[Value.bool (decide (r < 0)), Value.slice v vn vc] 25)).alloc (.cells #[Value.bool false, Value.slice p pn pc, Value.bool (decide (q < 0)), Value.slice u un uc, Value.bool (decide (r < 0)), Value.slice v vn vc] 25)) (w1.heap.size + 1) #[Value.bool (decide (r < 0)), Value.slice v vn vc] := ((blk_new' (w1.alloc (.cells #[Value.bool (decide (q < 0)), Value.slice u un uc] 25)) #[Value.bool (decide (r < 0)), Value.slice v vn vc] 25 (g := w1.heap.size + 1) (by simp)).alloc _)
  have hbx2 : Blk (((w1.alloc (.cells #[Value.bool (decide (q < 0)), Value.slice u un uc] 25)).alloc (.cells #[Value.bool (decide (r < 0)), Value.slice v vn vc] 25)).alloc (.cells #[Value.bool false, Value.slice p pn pc, Value.bool (decide (q < 0)), Value.slice u un uc, Value.bool (decide (r < 0)), Value.slice v vn vc] 25)) (w1.heap.size + 1 + 1) #[Value.bool false, Value.slice p pn pc, Value.bool (decide (q < 0)), Value.slice u un uc, Value.bool (decide (r < 0)), Value.slice v vn vc] := (blk_new' ((w1.alloc (.cells #[Value.bool (decide (q < 0)), Value.slice u un uc] 25)).alloc (.cells #[Value.bool (decide (r < 0)), Value.slice v vn vc] 25)) #[Value.bool false, Value.slice p pn pc, Value.bool (decide (q < 0)), Value.slice u un uc, Value.bool (decide (r < 0)), Value.slice v vn vc] 25 (g := w1.heap.size + 1 + 1) (by simp))
  have hbB : Below w1.heap.size w1 (((w1.alloc (.cells #[Value.bool (decide (q < 0)), Value.slice u un uc] 25)).alloc (.cells #[Value.bool (decide (r < 0)), Value.slice v vn vc] 25)).alloc (.cells #[Value.bool false, Value.slice p pn pc, Value.bool (decide (q < 0)), Value.slice u un uc, Value.bool (decide (r < 0)), Value.slice v vn vc] 25)) := bl
  have hltP := hbx0.lt
  have hltQ := hbx1.lt
  have hltG := hbx2.lt
  have hB_2 : Below w1.heap.size w1 (((w1.alloc (.cells #[Value.bool (decide (q < 0)), Value.slice u un uc] 25)).alloc (.cells #[Value.bool (decide (r < 0)), Value.slice v vn vc] 25)).alloc (.cells #[Value.bool false, Value.slice p pn pc, Value.bool (decide (q < 0)), Value.slice u un uc, Value.bool (decide (r < 0)), Value.slice v vn vc] 25)) := hbB
  have X_2 := X_1.next hB_2
  have cX_2_0 : _ = some (Value.bool s) := X_2.cell 0
  have cX_2_1 : _ = some (Value.slice a n c) := X_2.cell 1
  have Y_2 := Y_1.next hB_2
  have cY_2_0 : _ = some (Value.bool t) := Y_2.cell 0
  have cY_2_1 : _ = some (Value.slice b m d) := Y_2.cell 1
  have ha_2 := ha_1.below hB_2
  have hb_2 := hb_1.below hB_2
  have O_2 := O_1.below hB_2
  have O2_2 := O2_1.below hB_2
  have O3_2 := O3_1.below hB_2
  have hbel_2 := hbel_1.next hB_2
  have hsz_2 := hB_2.size
  clear hB_2
  have P_2 := hbx0
  clear hbx0
  have cP_2_0 : _ = some (Value.bool (decide (q < 0))) := P_2.cell 0
  have cP_2_1 : _ = some (Value.slice u un uc) := P_2.cell 1
  have Q_2 := hbx1
  clear hbx1
  have cQ_2_0 : _ = some (Value.bool (decide (r < 0))) := Q_2.cell 0
  have cQ_2_1 : _ = some (Value.slice v vn vc) := Q_2.cell 1
  have G_2 := hbx2
  clear hbx2
  have cG_2_0 : _ = some (Value.bool false) := G_2.cell 0
  have cG_2_1 : _ = some (Value.slice p pn pc) := G_2.cell 1
  have cG_2_2 : _ = some (Value.bool (decide (q < 0))) := G_2.cell 2
  have cG_2_3 : _ = some (Value.slice u un uc) := G_2.cell 3
  have cG_2_4 : _ = some (Value.bool (decide (r < 0))) := G_2.cell 4
  have cG_2_5 : _ = some (Value.slice v vn vc) := G_2.cell 5
  clear hbB
  go_wp2_with fail
  clear X_1 cX_1_0 cX_1_1 Y_1 cY_1_0 cY_1_1 ha_1 hb_1 O_1 O2_1 O3_1 hbel_1
  generalize (((w1.alloc (.cells #[Value.bool (decide (q < 0)), Value.slice u un uc] 25)).alloc (.cells #[Value.bool (decide (r < 0)), Value.slice v vn vc] 25)).alloc (.cells #[Value.bool false, Value.slice p pn pc, Value.bool (decide (q < 0)), Value.slice u un uc, Value.bool (decide (r < 0)), Value.slice v vn vc] 25)) = v2 at *
  go_wp2
  go_ret2
  exact ⟨_, _, _, _, rfl, nums3 (x := (G : Int)) (by rw [show decide ((G : Int) < 0) = false from decide_eq_false (by omega)]; exact G_2) (show Own _ _ _ _ _ (lm G) from O_2.mono (by omega)) (O2_2.mono (by omega)) (O3_2.mono (by omega)) hD hE hF (by omega) (fun g' e => by have := ltO g' e; omega) (fun g' e => by have := ltO2 g' e; omega) (fun g' e => by have := ltO3 g' e; omega) h0 h1 h2, hbel_2⟩

theorem sz_zv {s : Bool} {v k j : Nat} (h : Sz v k) (hk : k ≤ j) : Sz (zv s v).natAbs j := by rw [zv_abs]; exact h.mono (Nat.le_refl _) hk
theorem sz_one : Sz 1 1 := by show 1 < 4294967296 ^ 1; decide
theorem dvR_leA (A B : Nat) : dvR A B ≤ A := by unfold dvR; split; exact Nat.zero_le _; exact Nat.mod_le _ _
theorem flQ_le (s : Bool) (A : Nat) (t : Bool) (B : Nat) : (flQ s A t B).natAbs ≤ A + 1 := by
  have h1 := zv_abs (!(s == t)) (A / B)
  have h2 := Nat.div_le_self A B
  unfold flQ
  split <;> omega
theorem flR_le (s : Bool) (A : Nat) (t : Bool) (B : Nat) : (flR s A t B).natAbs ≤ A + B := by
  have h1 := zv_abs s (dvR A B)
  have h2 := dvR_leA A B
  have h3 := zv_abs t B
  unfold flR
  split <;> omega
theorem gcd_le_add (A B : Nat) : Nat.gcd A B ≤ A + B := by
  rcases Nat.eq_zero_or_pos A with h | h
  · rw [h, Nat.gcd_zero_left]; omega
  · have := Nat.gcd_le_left B h; omega
theorem bz_le (A B : Nat) : (bzX A B 1 0).natAbs ≤ A + B + 1 ∧ (bzX A B 0 1).natAbs ≤ A + B + 1 := by
  rcases Nat.eq_zero_or_pos (Nat.gcd A B) with h | h
  · obtain rfl : A = 0 := Nat.eq_zero_of_gcd_eq_zero_left h
    obtain rfl : B = 0 := Nat.eq_zero_of_gcd_eq_zero_right h
    rw [bzX_end rfl, bzX_end rfl]
    exact ⟨by decide, by decide⟩
  · obtain ⟨_, h1, h2⟩ := bz_law A B
    have m1 := Nat.le_mul_of_pos_right (bzX A B 1 0).natAbs h
    have m2 := Nat.le_mul_of_pos_right (bzX A B 0 1).natAbs h
    refine ⟨?_, ?_⟩
    · rcases h1 with h1 | h1 <;> omega
    · rcases h2 with h2 | h2 <;> omega
theorem two_sz {x y : Int} {k : Nat} (hx : Sz x.natAbs k) (hy : Sz y.natAbs k) (i : Nat) : Sz (if i = 0 then x else y).natAbs k := by split; exact hx; exact hy
theorem three_sz {x y z : Int} {k : Nat} (hx : Sz x.natAbs k) (hy : Sz y.natAbs k) (hz : Sz z.natAbs k) (i : Nat) : Sz (if i = 0 then x else if i = 1 then y else z).natAbs k := by split; exact hx; split; exact hy; exact hz
theorem bzS_abs (z x : Int) : (bzS z x).natAbs = x.natAbs := by unfold bzS; split; exact Int.natAbs_neg x; rfl
/-- the answers of call number k, of both -/
theorem call_told (k : Nat) (hk : k < 8) (s t : Bool) (A B : Nat) (hA : Sz A 30) (hB : Sz B 30) : ∃ (K : Nat) (Z : Nat → Int) (er : Int), 0 < K ∧ K ≤ 3 ∧ (∀ i, i < K → Sz (Z i).natAbs 100) ∧
    (∀ (W : World) a n c la b m d lb, Rd W a n c la → n ≤ 4194304 → val la = A → Rd W b m d lb → m ≤ 4194304 → val lb = B → Calls Try.prog 34 #[.int .i64 (k : Int), .agg #[.bool s, .slice a n c], .agg #[.bool t, .slice b m d]] W (RetNums W K Z er)) ∧
    (∀ (W : World) a n c la b m d lb, Rd W a n c la → n ≤ 4194304 → val la = A → Rd W b m d lb → m ≤ 4194304 → val lb = B → Calls Try.prog 32 #[.int .i64 (k : Int), .agg #[.bool s, .slice a n c], .agg #[.bool t, .slice b m d]] W (RetNums W K Z er)) := by
  obtain ⟨e, he⟩ : ∃ e, 30 = e := ⟨_, rfl⟩
  rw [he] at hA hB
  have hS : Sz (A + B) (e + e + 1) := szAdd hA hB
  have hS1 : Sz (A + B + 1) (e + e + 1 + 1 + 1) := @szAdd _ _ (e + e + 1) 1 hS sz_one
  obtain ⟨J, hJ⟩ : ∃ J, 100 = J := ⟨_, rfl⟩
  rw [hJ]
  have big : ∀ {v : Nat}, v ≤ A + B + 1 → Sz v J := fun h => hS1.mono h (by omega)
  have za := zv_abs s A
  have zb := zv_abs t B
  rcases (by omega : k = 0 ∨ k = 1 ∨ k = 2 ∨ k = 3 ∨ k = 4 ∨ k = 5 ∨ k = 6 ∨ k = 7) with rfl | rfl | rfl | rfl | rfl | rfl | rfl | rfl
  · exact ⟨1, fun _ => zv s A, 0, by omega, by omega, fun i _ => big (show (zv s A).natAbs ≤ _ by omega), fun W a n c la b m d lb ha hn hA hb hm hB => call_0 ha hn hb hm (by rw [hA]) rfl, fun W a n c la b m d lb ha hn hA hb hm hB => told_0 ha hn hb hm (by rw [hA]) rfl⟩
  · exact ⟨1, fun _ => -zv s A, 0, by omega, by omega, fun i _ => big (show (-zv s A).natAbs ≤ _ by omega), fun W a n c la b m d lb ha hn hA hb hm hB => call_1 ha hn hb hm (by rw [hA]) rfl, fun W a n c la b m d lb ha hn hA hb hm hB => told_1 ha hn hb hm (by rw [hA]) rfl⟩
  · exact ⟨1, fun _ => zv s A + zv t B, 0, by omega, by omega, fun i _ => big (show (zv s A + zv t B).natAbs ≤ _ by omega), fun W a n c la b m d lb ha hn hA hb hm hB => call_2 ha hn hb hm (by rw [hA, hB]) rfl, fun W a n c la b m d lb ha hn hA hb hm hB => told_2 ha hn hb hm (by rw [hA, hB]) rfl⟩
  · exact ⟨1, fun _ => zv s A - zv t B, 0, by omega, by omega, fun i _ => big (show (zv s A - zv t B).natAbs ≤ _ by omega), fun W a n c la b m d lb ha hn hA hb hm hB => call_3 ha hn hb hm (by rw [hA, hB]) rfl, fun W a n c la b m d lb ha hn hA hb hm hB => told_3 ha hn hb hm (by rw [hA, hB]) rfl⟩
  · exact ⟨1, fun _ => zv s A * zv t B, 0, by omega, by omega, fun i _ => by rw [Int.natAbs_mul, za, zb]; exact (hA.mul hB).mono (Nat.le_refl _) (by omega), fun W a n c la b m d lb ha hn hA hb hm hB => call_4 ha hn hb hm (by rw [hA, hB]) rfl, fun W a n c la b m d lb ha hn hA hb hm hB => told_4 ha hn hb hm (by rw [hA, hB]) rfl⟩
  · exact ⟨2, fun i => if i = 0 then flQ s A t B else flR s A t B, dvE B, by omega, by omega, (fun i _ => two_sz (big (by have := flQ_le s A t B; omega)) (big (by have := flR_le s A t B; omega)) i), fun W a n c la b m d lb ha hn hA hb hm hB => call_5 (q := flQ s A t B) (r := flR s A t B) ha hn hb hm (by rw [hA, hB]) (by rw [hA, hB]) (by rw [hB]) rfl rfl, fun W a n c la b m d lb ha hn hA hb hm hB => told_5 (q := flQ s A t B) (r := flR s A t B) ha hn hb hm (by rw [hA, hB]) (by rw [hA, hB]) (by rw [hB]) rfl rfl⟩
  · exact ⟨2, fun i => if i = 0 then zv (!(s == t)) (A / B) else zv s (dvR A B), dvE B, by omega, by omega, (fun i _ => two_sz (big (by rw [zv_abs]; have := Nat.div_le_self A B; omega)) (big (by rw [zv_abs]; have := dvR_leA A B; omega)) i), fun W a n c la b m d lb ha hn hA hb hm hB => call_6 (q := zv (!(s == t)) (A / B)) (r := zv s (dvR A B)) ha hn hb hm (by rw [hA, hB]) (by rw [hA, hB]) (by rw [hB]) rfl rfl, fun W a n c la b m d lb ha hn hA hb hm hB => told_6 (q := zv (!(s == t)) (A / B)) (r := zv s (dvR A B)) ha hn hb hm (by rw [hA, hB]) (by rw [hA, hB]) (by rw [hB]) rfl rfl⟩
  · exact ⟨3, fun i => if i = 0 then (Nat.gcd A B : Int) else if i = 1 then bzS (zv s A) (bzX A B 1 0) else bzS (zv t B) (bzX A B 0 1), 0, by omega, by omega, (fun i _ => three_sz (big (show ((Nat.gcd A B : Nat) : Int).natAbs ≤ _ by have := gcd_le_add A B; omega)) (by rw [bzS_abs]; exact big (bz_le A B).1) (by rw [bzS_abs]; exact big (bz_le A B).2) i), fun W a n c la b m d lb ha hn hA hb hm hB => call_7 (G := Nat.gcd A B) (q := bzS (zv s A) (bzX A B 1 0)) (r := bzS (zv t B) (bzX A B 0 1)) ha hn hb hm (by rw [hA, hB]) (by rw [hA, hB]) (by rw [hA, hB]) rfl rfl rfl, fun W a n c la b m d lb ha hn hA hb hm hB => told_7 (G := Nat.gcd A B) (q := bzS (zv s A) (bzX A B 1 0)) (r := bzS (zv t B) (bzX A B 0 1)) ha hn hb hm (by rw [hA, hB]) (by rw [hA, hB]) (by rw [hA, hB]) rfl rfl rfl⟩
end Go.Proofs.Ytokkfppchfmjcaa

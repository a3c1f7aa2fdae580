/- PLAIN ARITHMETIC, 3: one round of a sum, a difference, a product, a division, limb by limb. No program in sight. -/
import Derived.Test.YtknpacegaclcgaaPb
namespace Go.NatP

theorem add_step {s c x y P va vb : Nat} (h : s + c * P = va + vb) :
    s + (c + x + y) % 4294967296 * P + (c + x + y) / 4294967296 * (P * 4294967296) = va + x * P + (vb + y * P) := by
  have := Nat.div_add_mod (c + x + y) 4294967296
  generalize (c + x + y) / 4294967296 = q at *
  generalize (c + x + y) % 4294967296 = r at *
  grind

/-- the whole sum -/
theorem add_done {S la lb : List Nat} {N c : Nat} (hS : S.length = N + 1) (ha : la.length ≤ N) (hb : lb.length ≤ N)
    (h : val (S.take N) + c * 4294967296 ^ N = val (la.take N) + val (lb.take N)) : val (S.set N c) = val la + val lb := by
  rw [val_take_all la _ ha, val_take_all lb _ hb] at h
  rw [← h, ← val_set_take S N c (by omega), List.take_of_length_le (by simp; omega)]

theorem sub_step {s c x y P va vb t b : Nat} (h : s + vb = va + c * P) (ht : x + b * 4294967296 = y + c + t) :
    s + t * P + (vb + y * P) = va + x * P + b * (P * 4294967296) := by
  grind

theorem mul_step {s q x y z P c t : Nat} (ht : q + t * 4294967296 = c + x * y + z) : s + q * P + t * (P * 4294967296) = s + c * P + x * (y * P) + z * P := by
  grind

end Go.NatP

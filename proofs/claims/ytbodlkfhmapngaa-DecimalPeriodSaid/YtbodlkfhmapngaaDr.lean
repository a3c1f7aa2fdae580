/- THE LIBRARY's strings.Repeat at this program: laid by the kit's own program, in plain words. -/
import Derived.Shelf.Strings.Builder1
import Derived.Shelf.Strings.Builder2
import Derived.Shelf.Small.Bits
import Derived.Shelf.Strings.BuilderF
import Derived.Shelf.Strings.Prefix
import Derived.Shelf.Bits.Mul64
import Derived.Shelf.Strings.Repeat
import Derived.Test.YtbodlkfhmapngaaProg
namespace Go.Proofs
open Go.Shelf
def Try.lays105_ren : Go.Shelf.Ren := ⟨fun | 105 => 191 | 212 => 206 | 99 => 117 | 165 => 207 | 166 => 208 | 170 => 209 | 169 => 210 | 263 => 216 | 264 => 217 | 206 => 182 | 240 => 218 | 241 => 219 | 276 => 227 | 277 => 228 | n => n, fun | 9 => 9 | 3 => 3 | 4 => 4 | 20 => 20 | 0 => 0 | 46 => 181 | 109 => 223 | 5 => 5 | 72 => 227 | 76 => 231 | 51 => 39 | 146 => 238 | 53 => 112 | 148 => 240 | 70 => 225 | 37 => 136 | 75 => 230 | 127 => 242 | 164 => 248 | 80 => 233 | n => n, fun | n => n⟩
theorem Try.lays105 : Go.Proofs.Lays.n105 Try.prog Try.lays105_ren := {
  mixed := by kernel_rfl
  f99 := Try.func117.trans (congrArg some (by kernel_rfl))
  f105 := Try.func191.trans (congrArg some (by kernel_rfl))
  f165 := Try.func207.trans (congrArg some (by kernel_rfl))
  f166 := Try.func208.trans (congrArg some (by kernel_rfl))
  f169 := Try.func210.trans (congrArg some (by kernel_rfl))
  f170 := Try.func209.trans (congrArg some (by kernel_rfl))
  f206 := Try.func182.trans (congrArg some (by kernel_rfl))
  f212 := Try.func206.trans (congrArg some (by kernel_rfl))
  f240 := Try.func218.trans (congrArg some (by kernel_rfl))
  f241 := Try.func219.trans (congrArg some (by kernel_rfl))
  f263 := Try.func216.trans (congrArg some (by kernel_rfl))
  f264 := Try.func217.trans (congrArg some (by kernel_rfl))
  f276 := Try.func227.trans (congrArg some (by kernel_rfl))
  f277 := Try.func228.trans (congrArg some (by kernel_rfl))
  t0 := Try.underlying0
  a0 := Try.isAgg0
  z0 := Try.sizeOf0
  v0 := Try.zeroValue0
  t3 := Try.underlying3
  a3 := Try.isAgg3
  z3 := Try.sizeOf3
  v3 := Try.zeroValue3
  t4 := Try.underlying4
  a4 := Try.isAgg4
  z4 := Try.sizeOf4
  v4 := Try.zeroValue4
  t5 := Try.underlying5
  a5 := Try.isAgg5
  z5 := Try.sizeOf5
  v5 := Try.zeroValue5
  t9 := Try.underlying9
  a9 := Try.isAgg9
  z9 := Try.sizeOf9
  v9 := Try.zeroValue9
  t20 := Try.underlying20
  a20 := Try.isAgg20
  z20 := Try.sizeOf20
  v20 := Try.zeroValue20
  t37 := Try.underlying136
  a37 := Try.isAgg136
  z37 := Try.sizeOf136
  v37 := Try.zeroValue136
  t46 := Try.underlying181
  a46 := Try.isAgg181
  z46 := Try.sizeOf181
  v46 := Try.zeroValue181
  t51 := Try.underlying39
  a51 := Try.isAgg39
  z51 := Try.sizeOf39
  v51 := Try.zeroValue39
  t53 := Try.underlying112
  a53 := Try.isAgg112
  z53 := Try.sizeOf112
  v53 := Try.zeroValue112
  t70 := Try.underlying225
  a70 := Try.isAgg225
  z70 := Try.sizeOf225
  v70 := Try.zeroValue225
  t72 := Try.underlying227
  a72 := Try.isAgg227
  z72 := Try.sizeOf227
  v72 := Try.zeroValue227
  t75 := Try.underlying230
  a75 := Try.isAgg230
  z75 := Try.sizeOf230
  v75 := Try.zeroValue230
  t76 := Try.underlying231
  a76 := Try.isAgg231
  z76 := Try.sizeOf231
  v76 := Try.zeroValue231
  t109 := Try.underlying223
  a109 := Try.isAgg223
  z109 := Try.sizeOf223
  v109 := Try.zeroValue223
  t127 := Try.underlying242
  a127 := Try.isAgg242
  z127 := Try.sizeOf242
  v127 := Try.zeroValue242
  t146 := Try.underlying238
  a146 := Try.isAgg238
  z146 := Try.sizeOf238
  v146 := Try.zeroValue238
  t148 := Try.underlying240
  a148 := Try.isAgg240
  z148 := Try.sizeOf240
  v148 := Try.zeroValue240
  t164 := Try.underlying248
  a164 := Try.isAgg248
  z164 := Try.sizeOf248
  v164 := Try.zeroValue248 }
theorem Try.Builder_Extra_105 : Builder.Extra Try.prog Try.lays105_ren := {
  sizeBuilder := by kernel_rfl
  liesBuilder := by kernel_rfl
  t5 := Try.underlying5
  a5 := Try.isAgg5
  z5 := Try.sizeOf5
  v5 := Try.zeroValue5
  infoByte := by kernel_rfl
  cellsByte := by kernel_rfl
  sizeByte := by kernel_rfl
  neB5 := by decide }
open Go.RowKit Go.Lib in
/-- **strings.Repeat: count ≥ 0, the result within one allocation: count copies of s.** (LAID: no walk: one application.) -/
theorem Try.strings_Repeat (s : ByteArray) (c : Nat) (w : World) (hc : c ≤ 9223372036854775807) (hlen : s.size * c ≤ 140737488355328) :
    Calls Try.prog 191 #[.string s, .int .i64 c] w fun e w' => e = .returned (.string ⟨(Lib.repeatL s.data.toList c).toArray⟩) ∧ Below w.heap.size w w' := Any.strings_Repeat Try.lays105 Try.Builder_Extra_105 s c w hc hlen
end Go.Proofs

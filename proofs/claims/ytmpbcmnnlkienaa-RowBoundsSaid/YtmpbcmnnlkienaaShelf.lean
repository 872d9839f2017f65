/- Contracts of library functions at this program: laid by the kit's shelf (lay-plain), those that are used. -/
import Derived.Shelf.Bytes.SlIndexAt
import Derived.Ground.SlbtProg
import Derived.Shelf.Bytes.SlCut
import Derived.Test.YtmpbcmnnlkienaaProg
namespace Go.Proofs.Ytmpbcmnnlkienaa.Shf
open Go.Shelf
def sh_lays185_ren : Go.Shelf.Ren := ⟨fun | 185 => 58 | 187 => 64 | 115 => 43 | 253 => 65 | 224 => 66 | 254 => 67 | 255 => 69 | 291 => 70 | n => n, fun | 37 => 22 | 3 => 3 | 4 => 4 | 0 => 0 | 5 => 5 | 46 => 92 | 9 => 9 | 146 => 96 | 51 => 95 | n => n, fun | 1 => 0 | n => n⟩
theorem sh_lays185 : Go.Proofs.Lays.n185 Try.prog sh_lays185_ren := {
  mixed := by kernel_rfl
  f115 := Try.func43.trans (congrArg some (by kernel_rfl))
  f185 := Try.func58.trans (congrArg some (by kernel_rfl))
  f187 := Try.func64.trans (congrArg some (by kernel_rfl))
  f224 := Try.func66.trans (congrArg some (by kernel_rfl))
  f253 := Try.func65.trans (congrArg some (by kernel_rfl))
  f254 := Try.func67.trans (congrArg some (by kernel_rfl))
  f255 := Try.func69.trans (congrArg some (by kernel_rfl))
  f291 := Try.func70.trans (congrArg some (by kernel_rfl))
  t0 := Try.underlying0
  a0 := Try.isAgg0
  z0 := Try.sizeOf0
  v0 := Try.zeroValue0
  t3 := Try.underlying3
  a3 := Try.isAgg3
  z3 := Try.sizeOf3
  v3 := Try.zeroValue3
  t4 := Try.underlying4
  a4 := Try.isAgg4
  z4 := Try.sizeOf4
  v4 := Try.zeroValue4
  t5 := Try.underlying5
  a5 := Try.isAgg5
  z5 := Try.sizeOf5
  v5 := Try.zeroValue5
  t9 := Try.underlying9
  a9 := Try.isAgg9
  z9 := Try.sizeOf9
  v9 := Try.zeroValue9
  t37 := Try.underlying22
  a37 := Try.isAgg22
  z37 := Try.sizeOf22
  v37 := Try.zeroValue22
  t46 := Try.underlying92
  a46 := Try.isAgg92
  z46 := Try.sizeOf92
  v46 := Try.zeroValue92
  t51 := Try.underlying95
  a51 := Try.isAgg95
  z51 := Try.sizeOf95
  v51 := Try.zeroValue95
  t146 := Try.underlying96
  a146 := Try.isAgg96
  z146 := Try.sizeOf96
  v146 := Try.zeroValue96
  g1 := by kernel_rfl }
open Go.RowKit Go.Lib in
theorem sh_bytes_Index_one_at (a : Addr) (n c b2 o2 d : Nat) (xs : List Int) (cv : Int) (w : World) (hx : xs.length = n) (hc : ∀ i, i < n → w.cell? (a.add i) = some (.int .u8 (xs.getD i 0))) (hc2 : w.cell? ⟨b2, o2, none⟩ = some (.int .u8 cv)) :
    Calls Try.prog 58 #[.slice (some a) n c, .slice (some ⟨b2, o2, none⟩) 1 d] w fun e w' => e = .returned (.int .i64 (Lib.indexByte (Lib.bytesOf xs) cv.toNat.toUInt8)) ∧ w' = w := Any.bytes_Index_one_at sh_lays185 a n c b2 o2 d xs cv w hx hc hc2
def sh_laysSlT4_ren : Go.Shelf.Ren := ⟨fun | 4 => 36 | 5 => 58 | 6 => 64 | 7 => 43 | 8 => 65 | 9 => 66 | 10 => 67 | 11 => 69 | 12 => 70 | n => n, fun | 22 => 22 | 4 => 4 | 3 => 3 | 0 => 0 | 5 => 5 | 29 => 92 | 9 => 9 | 31 => 96 | 30 => 95 | n => n, fun | 0 => 0 | n => n⟩
theorem sh_laysSlT4 : Go.Proofs.SlLaysT.n4 Try.prog sh_laysSlT4_ren := {
  mixed := by kernel_rfl
  f4 := Try.func36.trans (congrArg some (by kernel_rfl))
  f5 := Try.func58.trans (congrArg some (by kernel_rfl))
  f6 := Try.func64.trans (congrArg some (by kernel_rfl))
  f7 := Try.func43.trans (congrArg some (by kernel_rfl))
  f8 := Try.func65.trans (congrArg some (by kernel_rfl))
  f9 := Try.func66.trans (congrArg some (by kernel_rfl))
  f10 := Try.func67.trans (congrArg some (by kernel_rfl))
  f11 := Try.func69.trans (congrArg some (by kernel_rfl))
  f12 := Try.func70.trans (congrArg some (by kernel_rfl))
  t0 := Try.underlying0
  a0 := Try.isAgg0
  z0 := Try.sizeOf0
  v0 := Try.zeroValue0
  t3 := Try.underlying3
  a3 := Try.isAgg3
  z3 := Try.sizeOf3
  v3 := Try.zeroValue3
  t4 := Try.underlying4
  a4 := Try.isAgg4
  z4 := Try.sizeOf4
  v4 := Try.zeroValue4
  t5 := Try.underlying5
  a5 := Try.isAgg5
  z5 := Try.sizeOf5
  v5 := Try.zeroValue5
  t9 := Try.underlying9
  a9 := Try.isAgg9
  z9 := Try.sizeOf9
  v9 := Try.zeroValue9
  t22 := Try.underlying22
  a22 := Try.isAgg22
  z22 := Try.sizeOf22
  v22 := Try.zeroValue22
  t29 := Try.underlying92
  a29 := Try.isAgg92
  z29 := Try.sizeOf92
  v29 := Try.zeroValue92
  t30 := Try.underlying95
  a30 := Try.isAgg95
  z30 := Try.sizeOf95
  v30 := Try.zeroValue95
  t31 := Try.underlying96
  a31 := Try.isAgg96
  z31 := Try.sizeOf96
  v31 := Try.zeroValue96
  g0 := by kernel_rfl }
theorem sh_bytes_Cut_of (p1 p2 : Option Addr) (n c1 k c2 : Nat) (i : Int) (w : World) (hcap : n ≤ c1) (hlo : -1 ≤ i) (hroom : 0 ≤ i → i + k ≤ n) (hn : n ≤ 4611686018427387904) (hidx : Calls Try.prog 58 #[.slice p1 n c1, .slice p2 k c2] w fun e w' => e = .returned (.int .i64 i) ∧ ∃ q, w' = w.drewN q) :
    Calls Try.prog 36 #[.slice p1 n c1, .slice p2 k c2] w fun e w' => e = .returned (Lib.cutV p1 n c1 k i) ∧ ∃ q, w' = w.drewN q := Any.bytes_Cut_of sh_laysSlT4 p1 p2 n c1 k c2 i w hcap hlo hroom hn hidx
end Go.Proofs.Ytmpbcmnnlkienaa.Shf

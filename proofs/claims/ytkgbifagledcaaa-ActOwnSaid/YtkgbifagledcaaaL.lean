/-
  Plain laws on bits: masks are remainders, disjoint parts are sums.
-/
import Derived.Test.YtkgbifagledcaaaM
import Derived.Laws.Entries
import Derived.Laws.Bits64
namespace Go.Proofs.Ytkgbifagledcaaa.FL
open Go Go.RowKit

theorem ofInt_toNat (x : Int) : ((BitVec.ofInt 64 x).toNat : Int) = x % 18446744073709551616 := by
  rw [BitVec.toNat_ofInt]; omega
theorem and_mask (x : Int) (k : Nat) (hk : k ≤ 63) : bits .and .u64 x ((2 : Int) ^ k - 1) = x % (2 : Int) ^ k := by
  have hp : (0 : Nat) < 2 ^ k := Nat.pow_pos (by omega)
  have hle : 2 ^ k ≤ 2 ^ 63 := Nat.pow_le_pow_right (by omega) hk
  have h2 : (BitVec.ofInt 64 ((2 : Int) ^ k - 1)).toNat = 2 ^ k - 1 := by
    rw [BitVec.toNat_ofInt]
    have : ((2 : Int) ^ k - 1) = ((2 ^ k - 1 : Nat) : Int) := by push_cast [Nat.sub_add_cancel hp, Int.ofNat_sub hp]; omega
    rw [this]; omega
  show IntKind.u64.wrap ((BitVec.ofInt 64 x &&& BitVec.ofInt 64 ((2 : Int) ^ k - 1)).toNat : Int) = _
  rw [BitVec.toNat_and, h2, Nat.and_two_pow_sub_one_eq_mod, IntKind.wrap_u64]
  have h3 : ((((BitVec.ofInt 64 x).toNat % 2 ^ k : Nat) : Int)) = x % (2 : Int) ^ k := by
    rw [Int.natCast_emod, ofInt_toNat]
    have hd : ((2 ^ k : Nat) : Int) ∣ 18446744073709551616 := by
      have : ((2 ^ k : Nat) : Int) ∣ ((2 ^ 64 : Nat) : Int) := Int.natCast_dvd_natCast.2 (Nat.pow_dvd_pow 2 (by omega))
      exact this
    rw [Int.emod_emod_of_dvd x hd]
    push_cast; rfl
  rw [h3]
  have hm : x % (2 : Int) ^ k < (2 : Int) ^ k := Int.emod_lt_of_pos x (by exact_mod_cast hp)
  have hn : 0 ≤ x % (2 : Int) ^ k := Int.emod_nonneg x (by have : (0 : Int) < (2 : Int) ^ k := by exact_mod_cast hp
                                                           omega)
  have hb : (2 : Int) ^ k ≤ (2 : Int) ^ 63 := by exact_mod_cast hle
  omega
theorem or_parts (a b : Int) (k : Nat) (h0 : 0 ≤ a) (h1 : a < (2 : Int) ^ k) (h2 : 0 ≤ b) (h3 : b * (2 : Int) ^ k < 18446744073709551616) (hk : k ≤ 63) :
    bits .or .u64 a (b * (2 : Int) ^ k) = a + b * (2 : Int) ^ k := by
  obtain ⟨x, rfl⟩ := Int.eq_ofNat_of_zero_le h0
  obtain ⟨y, rfl⟩ := Int.eq_ofNat_of_zero_le h2
  have e : ((y : Int) * (2 : Int) ^ k) = ((2 ^ k * y : Nat) : Int) := by push_cast; rw [Int.mul_comm]
  rw [e] at h3 ⊢
  have hx : x < 2 ^ k := by exact_mod_cast h1
  have hle : 2 ^ k ≤ 2 ^ 63 := Nat.pow_le_pow_right (by omega) hk
  have hor : 2 ^ k * y + x = 2 ^ k * y ||| x := Nat.two_pow_add_eq_or_of_lt hx y
  have hd : 2 ^ k * y + x < 2 ^ 64 := by
    have hdv : 2 ^ k ∣ 2 ^ 64 := Nat.pow_dvd_pow 2 (by omega)
    obtain ⟨q, hq⟩ := hdv
    rw [hq]
    have hy : y < q := by
      have : 2 ^ k * y < 2 ^ k * q := by rw [← hq]; omega
      exact Nat.lt_of_mul_lt_mul_left this
    calc 2 ^ k * y + x < 2 ^ k * y + 2 ^ k := by omega
      _ = 2 ^ k * (y + 1) := by rw [Nat.mul_add, Nat.mul_one]
      _ ≤ 2 ^ k * q := Nat.mul_le_mul_left _ hy
  show IntKind.u64.wrap ((BitVec.ofInt 64 (x : Int) ||| BitVec.ofInt 64 ((2 ^ k * y : Nat) : Int)).toNat : Int) = _
  have t1 : (BitVec.ofInt 64 (x : Int)).toNat = x := by rw [BitVec.ofInt_natCast, BitVec.toNat_ofNat]; exact Nat.mod_eq_of_lt (by omega)
  have t2 : (BitVec.ofInt 64 ((2 ^ k * y : Nat) : Int)).toNat = 2 ^ k * y := by rw [BitVec.ofInt_natCast, BitVec.toNat_ofNat]; exact Nat.mod_eq_of_lt (by omega)
  rw [BitVec.toNat_or, t1, t2, Nat.or_comm, ← hor, IntKind.wrap_u64]
  omega

theorem fit_lo (n most : Int) (h : 0 ≤ most) : 0 ≤ fit n most := by unfold fit; split <;> (try split) <;> omega
theorem fit_hi (n most : Int) (h : 0 ≤ most) : fit n most ≤ most := by unfold fit; split <;> (try split) <;> omega
theorem fit_in (n most : Int) (h : 0 ≤ n) (h' : n ≤ most) : fit n most = n := by unfold fit; rw [if_neg (by omega), if_neg (by omega)]

theorem and7 (x : Int) : bits .and .u64 x 7 = x % 8 := and_mask x 3 (by omega)
theorem and3 (x : Int) : bits .and .u64 x 3 = x % 4 := and_mask x 2 (by omega)
theorem and1 (x : Int) : bits .and .u64 x 1 = x % 2 := and_mask x 1 (by omega)
theorem and63 (x : Int) : bits .and .u64 x 63 = x % 64 := and_mask x 6 (by omega)
theorem and16 (x : Int) : bits .and .u64 x 65535 = x % 65536 := and_mask x 16 (by omega)
theorem and17 (x : Int) : bits .and .u64 x 131071 = x % 131072 := and_mask x 17 (by omega)
theorem and20 (x : Int) : bits .and .u64 x 1048575 = x % 1048576 := and_mask x 20 (by omega)
theorem and22 (x : Int) : bits .and .u64 x 4194303 = x % 4194304 := and_mask x 22 (by omega)
theorem and36 (x : Int) : bits .and .u64 x 68719476735 = x % 68719476736 := and_mask x 36 (by omega)
theorem and40 (x : Int) : bits .and .u64 x 1099511627775 = x % 1099511627776 := and_mask x 40 (by omega)
theorem wrap_mod (x n : Int) (h0 : 0 < n) (h : n ≤ 9223372036854775808) : wrap64 (x % n) = x % n := by
  have := Int.emod_nonneg x (b := n) (by omega); have := Int.emod_lt_of_pos x h0; unfold wrap64; omega
theorem or_wrap (a b : Int) (k : Nat) (h0 : 0 ≤ a) (h1 : a < (2 : Int) ^ k) (h2 : 0 ≤ b) (h3 : b * (2 : Int) ^ k < 18446744073709551616) (hk : k ≤ 63) :
    bits .or .u64 a (IntKind.u64.wrap (b * (2 : Int) ^ k)) = a + b * (2 : Int) ^ k := by
  have hp : (0 : Int) ≤ b * (2 : Int) ^ k := Int.mul_nonneg h2 (Int.le_of_lt (Int.pow_pos (by omega)))
  rw [IntKind.wrap_u64, Int.emod_eq_of_lt hp h3]
  exact or_parts a b k h0 h1 h2 h3 hk
theorem putSlot_bits (s : SlotW) : bits .or .u64 (bits .or .u64 (bits .or .u64 (fit s.state 7) (IntKind.u64.wrap (fit s.addr 1048575 * 8))) (IntKind.u64.wrap (fit s.gen 65535 * 8388608))) (IntKind.u64.wrap (fit s.ver 4194303 * 549755813888)) = putSlot s := by
  have a1 := fit_lo s.state 7 (by omega); have b1 := fit_hi s.state 7 (by omega)
  have a2 := fit_lo s.addr 1048575 (by omega); have b2 := fit_hi s.addr 1048575 (by omega)
  have a3 := fit_lo s.gen 65535 (by omega); have b3 := fit_hi s.gen 65535 (by omega)
  have a4 := fit_lo s.ver 4194303 (by omega); have b4 := fit_hi s.ver 4194303 (by omega)
  unfold putSlot
  generalize fit s.state 7 = x1 at *
  generalize fit s.addr 1048575 = x2 at *
  generalize fit s.gen 65535 = x3 at *
  generalize fit s.ver 4194303 = x4 at *
  have e1 : bits .or .u64 x1 (IntKind.u64.wrap (x2 * 8)) = x1 + x2 * 8 := or_wrap x1 x2 3 a1 (by omega) a2 (by omega) (by omega)
  rw [e1]
  have e2 : bits .or .u64 (x1 + x2 * 8) (IntKind.u64.wrap (x3 * 8388608)) = x1 + x2 * 8 + x3 * 8388608 := or_wrap _ x3 23 (by omega) (by omega) a3 (by omega) (by omega)
  rw [e2]
  exact or_wrap _ x4 39 (by omega) (by omega) a4 (by omega) (by omega)
theorem putChunk_bits (c : ChunkW) : bits .or .u64 (bits .or .u64 (bits .or .u64 (fit c.state 3) (IntKind.u64.wrap (fit c.cls 63 * 4))) (IntKind.u64.wrap (fit c.used 1048575 * 256))) (IntKind.u64.wrap (fit c.stamp 68719476735 * 268435456)) = putChunk c := by
  have a1 := fit_lo c.state 3 (by omega); have b1 := fit_hi c.state 3 (by omega)
  have a2 := fit_lo c.cls 63 (by omega); have b2 := fit_hi c.cls 63 (by omega)
  have a3 := fit_lo c.used 1048575 (by omega); have b3 := fit_hi c.used 1048575 (by omega)
  have a4 := fit_lo c.stamp 68719476735 (by omega); have b4 := fit_hi c.stamp 68719476735 (by omega)
  unfold putChunk
  generalize fit c.state 3 = x1 at *
  generalize fit c.cls 63 = x2 at *
  generalize fit c.used 1048575 = x3 at *
  generalize fit c.stamp 68719476735 = x4 at *
  have e1 : bits .or .u64 x1 (IntKind.u64.wrap (x2 * 4)) = x1 + x2 * 4 := or_wrap x1 x2 2 a1 (by omega) a2 (by omega) (by omega)
  rw [e1]
  have e2 : bits .or .u64 (x1 + x2 * 4) (IntKind.u64.wrap (x3 * 256)) = x1 + x2 * 4 + x3 * 256 := or_wrap _ x3 8 (by omega) (by omega) a3 (by omega) (by omega)
  rw [e2]
  exact or_wrap _ x4 28 (by omega) (by omega) a4 (by omega) (by omega)
def headPart (h : HeadW) : Int := fit h.kind 3 + fit h.size 65535 * 4 + fit h.slot 65535 * 262144 + fit h.gen 65535 * 17179869184
theorem headPart_bits (h : HeadW) : bits .or .u64 (bits .or .u64 (bits .or .u64 (fit h.kind 3) (IntKind.u64.wrap (fit h.size 65535 * 4))) (IntKind.u64.wrap (fit h.slot 65535 * 262144))) (IntKind.u64.wrap (fit h.gen 65535 * 17179869184)) = headPart h := by
  have a1 := fit_lo h.kind 3 (by omega); have b1 := fit_hi h.kind 3 (by omega)
  have a2 := fit_lo h.size 65535 (by omega); have b2 := fit_hi h.size 65535 (by omega)
  have a3 := fit_lo h.slot 65535 (by omega); have b3 := fit_hi h.slot 65535 (by omega)
  have a4 := fit_lo h.gen 65535 (by omega); have b4 := fit_hi h.gen 65535 (by omega)
  unfold headPart
  generalize fit h.kind 3 = x1 at *
  generalize fit h.size 65535 = x2 at *
  generalize fit h.slot 65535 = x3 at *
  generalize fit h.gen 65535 = x4 at *
  have e1 : bits .or .u64 x1 (IntKind.u64.wrap (x2 * 4)) = x1 + x2 * 4 := or_wrap x1 x2 2 a1 (by omega) a2 (by omega) (by omega)
  rw [e1]
  have e2 : bits .or .u64 (x1 + x2 * 4) (IntKind.u64.wrap (x3 * 262144)) = x1 + x2 * 4 + x3 * 262144 := or_wrap _ x3 18 (by omega) (by omega) a3 (by omega) (by omega)
  rw [e2]
  exact or_wrap _ x4 34 (by omega) (by omega) a4 (by omega) (by omega)
theorem headPart_own (h : HeadW) : bits .or .u64 (headPart h) 1125899906842624 = headPart h + 1125899906842624 := by
  have a1 := fit_lo h.kind 3 (by omega); have b1 := fit_hi h.kind 3 (by omega)
  have a2 := fit_lo h.size 65535 (by omega); have b2 := fit_hi h.size 65535 (by omega)
  have a3 := fit_lo h.slot 65535 (by omega); have b3 := fit_hi h.slot 65535 (by omega)
  have a4 := fit_lo h.gen 65535 (by omega); have b4 := fit_hi h.gen 65535 (by omega)
  exact or_parts (headPart h) 1 50 (by unfold headPart; omega) (by unfold headPart; omega) (by omega) (by omega) (by omega)
theorem putCell_bits (c : CellW) (hf : c.frozen = true) : bits .or .u64 (fit c.value 1099511627775) (bits .or .u64 9223372036854775808 (IntKind.u64.wrap (fit c.ver 4194303 * 1099511627776))) = putCell c := by
  have a1 := fit_lo c.value 1099511627775 (by omega); have b1 := fit_hi c.value 1099511627775 (by omega)
  have a2 := fit_lo c.ver 4194303 (by omega); have b2 := fit_hi c.ver 4194303 (by omega)
  unfold putCell
  rw [if_pos hf]
  generalize fit c.value 1099511627775 = x1 at *
  generalize fit c.ver 4194303 = x2 at *
  have ec : bits .or .u64 9223372036854775808 (x2 * 1099511627776) = bits .or .u64 (x2 * 1099511627776) 9223372036854775808 := by
    show IntKind.u64.wrap ((BitVec.ofInt 64 _ ||| BitVec.ofInt 64 _).toNat : Int) = IntKind.u64.wrap ((BitVec.ofInt 64 _ ||| BitVec.ofInt 64 _).toNat : Int)
    rw [BitVec.or_comm]
  have e0 : IntKind.u64.wrap (x2 * 1099511627776) = x2 * 1099511627776 := by rw [IntKind.wrap_u64]; omega
  have e1 : bits .or .u64 (x2 * 1099511627776) 9223372036854775808 = x2 * 1099511627776 + 9223372036854775808 := or_parts (x2 * 1099511627776) 1 63 (by omega) (by omega) (by omega) (by omega) (by omega)
  rw [e0, ec, e1]
  have e2 : x2 * 1099511627776 + 9223372036854775808 = (x2 + 8388608) * 1099511627776 := by omega
  rw [e2]
  have e3 : bits .or .u64 x1 ((x2 + 8388608) * 1099511627776) = x1 + (x2 + 8388608) * 1099511627776 := or_parts x1 (x2 + 8388608) 40 a1 (by omega) (by omega) (by omega) (by omega)
  rw [e3]; omega
theorem putHandle_bits (h : HandleW) : bits .or .u64 (fit h.slot 65535) (IntKind.u64.wrap (fit h.gen 65535 * 65536)) = putHandle h := by
  have a3 := fit_lo h.slot 65535 (by omega); have b3 := fit_hi h.slot 65535 (by omega)
  have a4 := fit_lo h.gen 65535 (by omega); have b4 := fit_hi h.gen 65535 (by omega)
  exact or_wrap _ _ 16 a3 (by omega) a4 (by omega) (by omega)
theorem putTop_bits (s n : Int) : bits .or .u64 (fit (wrap64 ((if 65535 < s then 65535 else s) + 1)) 65536) (IntKind.u64.wrap (fit n 68719476735 * 131072)) = putTop s n := by
  unfold putTop
  generalize (wrap64 ((if 65535 < s then 65535 else s) + 1)) = y
  have a3 := fit_lo y 65536 (by omega); have b3 := fit_hi y 65536 (by omega)
  have a4 := fit_lo n 68719476735 (by omega); have b4 := fit_hi n 68719476735 (by omega)
  exact or_wrap _ _ 17 a3 (by omega) a4 (by omega) (by omega)
end Go.Proofs.Ytkgbifagledcaaa.FL

/-
  Plain laws: one byte more, one byte turned. Own work.
-/
import Derived.Test.YtffekklhmdoceaaQ4
namespace Go.Pure
open Go Go.Eng
theorem crc_next {u : List Int} {c : Int} (hc : 0 ≤ c ∧ c < 256) : csum [u, [c]].flatten = 4294967295#32 ^^^ (((4294967295#32 ^^^ csum [u].flatten) >>> 8) ^^^ cnum (BitVec.ofInt 32 ((BitVec.ofInt 8 (IntKind.u8.wrap (bv (4294967295#32 ^^^ csum [u].flatten))) ^^^ BitVec.ofInt 8 c).toNat : Int))) := by
  have e : (4294967295#32 ^^^ csum [u].flatten) = cfold 4294967295#32 u := by
    have : [u].flatten = u := by simp
    rw [this]
    unfold csum
    rw [BitVec.xor_comm (cfold _ u), ← BitVec.xor_assoc, BitVec.xor_self, BitVec.zero_xor]
  have e2 : [u, [c]].flatten = u ++ [c] := by simp
  rw [e, cidx8 hc, ofInt_bv, e2]
  unfold csum
  rw [cfold_app, BitVec.xor_comm]
  rfl
def cinv : List Nat := [0, 65, 195, 130, 134, 199, 69, 4, 77, 12, 142, 207, 203, 138, 8, 73, 154, 219, 89, 24, 28, 93, 223, 158, 215, 150, 20, 85, 81, 16, 146, 211, 117, 52, 182, 247, 243, 178, 48, 113, 56, 121, 251, 186, 190, 255, 125, 60, 239, 174, 44, 109, 105, 40, 170, 235, 162, 227, 97, 32, 36, 101, 231, 166, 234, 171, 41, 104, 108, 45, 175, 238, 167, 230, 100, 37, 33, 96, 226, 163, 112, 49, 179, 242, 246, 183, 53, 116, 61, 124, 254, 191, 187, 250, 120, 57, 159, 222, 92, 29, 25, 88, 218, 155, 210, 147, 17, 80, 84, 21, 151, 214, 5, 68, 198, 135, 131, 194, 64, 1, 72, 9, 139, 202, 206, 143, 13, 76, 149, 212, 86, 23, 19, 82, 208, 145, 216, 153, 27, 90, 94, 31, 157, 220, 15, 78, 204, 141, 137, 200, 74, 11, 66, 3, 129, 192, 196, 133, 7, 70, 224, 161, 35, 98, 102, 39, 165, 228, 173, 236, 110, 47, 43, 106, 232, 169, 122, 59, 185, 248, 252, 189, 63, 126, 55, 118, 244, 181, 177, 240, 114, 51, 127, 62, 188, 253, 249, 184, 58, 123, 50, 115, 241, 176, 180, 245, 119, 54, 229, 164, 38, 103, 99, 34, 160, 225, 168, 233, 107, 42, 46, 111, 237, 172, 10, 75, 201, 136, 140, 205, 79, 14, 71, 6, 132, 197, 193, 128, 2, 67, 144, 209, 83, 18, 22, 87, 213, 148, 221, 156, 30, 95, 91, 26, 152, 217]
set_option maxRecDepth 100000 in
theorem cinv_ok : ∀ i, i < 256 → cinv.getD ((cnum (BitVec.ofNat 32 i)).toNat / 16777216) 0 = i := by decide +kernel
theorem cnum_inj {a b : BitVec 32} (ha : a.toNat < 256) (hb : b.toNat < 256) (h : cnum a >>> 24 = cnum b >>> 24) : a = b := by
  have h1 := cinv_ok a.toNat ha
  have h2 := cinv_ok b.toNat hb
  rw [BitVec.ofNat_toNat, BitVec.setWidth_eq] at h1 h2
  have h3 := congrArg BitVec.toNat h
  rw [BitVec.toNat_ushiftRight, BitVec.toNat_ushiftRight, Nat.shiftRight_eq_div_pow, Nat.shiftRight_eq_div_pow] at h3
  have e : (2 : Nat) ^ 24 = 16777216 := rfl
  rw [e] at h3
  rw [h3, h2] at h1
  exact BitVec.eq_of_toNat_eq h1.symm
theorem cupd_top (x : BitVec 32) (b : Int) : cupd x b >>> 24 = cnum (cidx x b) >>> 24 := by
  unfold cupd
  rw [BitVec.ushiftRight_xor_distrib]
  have e : x >>> 8 >>> 24 = 0#32 := by
    apply BitVec.eq_of_toNat_eq
    rw [BitVec.toNat_ushiftRight, BitVec.toNat_ushiftRight, Nat.shiftRight_eq_div_pow, Nat.shiftRight_eq_div_pow, Nat.div_div_eq_div_mul]
    have := x.isLt
    rw [Nat.div_eq_of_lt (by omega)]
    rfl
  rw [e, BitVec.zero_xor]
theorem xor_left {a b c : BitVec 32} (h : a ^^^ c = b ^^^ c) : a = b := by
  have := congrArg (· ^^^ c) h
  simpa [BitVec.xor_assoc] using this
theorem cupd_idx {x y : BitVec 32} {b b' : Int} (hb : 0 ≤ b ∧ b < 256) (hb' : 0 ≤ b' ∧ b' < 256) (h : cupd x b = cupd y b') : cidx x b = cidx y b' ∧ x >>> 8 = y >>> 8 := by
  have e : cidx x b = cidx y b' := by
    refine cnum_inj ?_ ?_ (by rw [← cupd_top, ← cupd_top, h])
    · have := (cidx_lt (x := x) hb).2; unfold bv at this; omega
    · have := (cidx_lt (x := y) hb').2; unfold bv at this; omega
  refine ⟨e, ?_⟩
  unfold cupd at h
  rw [e] at h
  exact xor_left h
theorem cupd_inj {x y : BitVec 32} {b : Int} (hb : 0 ≤ b ∧ b < 256) (h : cupd x b = cupd y b) : x = y := by
  obtain ⟨h1, h2⟩ := cupd_idx hb hb h
  unfold cidx at h1
  have h3 := congrArg BitVec.toNat (xor_left h1)
  have h4 := congrArg BitVec.toNat h2
  have e1 : (255#32).toNat = 2 ^ 8 - 1 := rfl
  rw [BitVec.toNat_and, BitVec.toNat_and, e1, Nat.and_two_pow_sub_one_eq_mod, Nat.and_two_pow_sub_one_eq_mod] at h3
  rw [BitVec.toNat_ushiftRight, BitVec.toNat_ushiftRight, Nat.shiftRight_eq_div_pow, Nat.shiftRight_eq_div_pow] at h4
  apply BitVec.eq_of_toNat_eq
  omega
theorem cupd_byte {x : BitVec 32} {b b' : Int} (hb : 0 ≤ b ∧ b < 256) (hb' : 0 ≤ b' ∧ b' < 256) (h : cupd x b = cupd x b') : b = b' := by
  obtain ⟨h1, _⟩ := cupd_idx hb hb' h
  unfold cidx at h1
  rw [BitVec.xor_comm, BitVec.xor_comm _ (BitVec.ofInt 32 b')] at h1
  have h3 := congrArg BitVec.toNat (xor_left h1)
  rw [BitVec.toNat_ofInt, BitVec.toNat_ofInt] at h3
  omega
theorem cfold_inj : ∀ {l : List Int} {x y : BitVec 32}, ByteL l → cfold x l = cfold y l → x = y
  | [], _, _, _, h => h
  | b :: l, x, y, hb, h => cupd_inj (hb b (.head _)) (cfold_inj (fun z hz => hb z (.tail _ hz)) h)
theorem csum_turned {l m : List Int} {b b' : Int} (hm : ByteL m) (hb : 0 ≤ b ∧ b < 256) (hb' : 0 ≤ b' ∧ b' < 256) (hne : b ≠ b') : csum (l ++ b :: m) ≠ csum (l ++ b' :: m) := by
  intro h
  unfold csum at h
  have h1 := xor_left h
  rw [cfold_app, cfold_app, cfold_cons, cfold_cons] at h1
  exact hne (cupd_byte hb hb' (cfold_inj hm h1))
theorem x8_ne {p q : Int} (hp : 0 ≤ p ∧ p < 256) (hq : 0 ≤ q ∧ q < 256) (h : ¬ q = 0) : ((BitVec.ofInt 8 p ^^^ BitVec.ofInt 8 q).toNat : Int) ≠ p := by
  intro he
  have e1 : (BitVec.ofInt 8 p).toNat = p.toNat := by rw [BitVec.toNat_ofInt]; omega
  have h1 : (BitVec.ofInt 8 p ^^^ BitVec.ofInt 8 q) = BitVec.ofInt 8 p := by
    apply BitVec.eq_of_toNat_eq
    omega
  have h2 := congrArg (BitVec.ofInt 8 p ^^^ ·) h1
  simp only [← BitVec.xor_assoc, BitVec.xor_self, BitVec.zero_xor] at h2
  have h3 := congrArg BitVec.toNat h2
  rw [BitVec.toNat_ofInt] at h3
  simp at h3
  omega
theorem x8_byte (p q : Int) : 0 ≤ ((BitVec.ofInt 8 p ^^^ BitVec.ofInt 8 q).toNat : Int) ∧ ((BitVec.ofInt 8 p ^^^ BitVec.ofInt 8 q).toNat : Int) < 256 := by
  have := (BitVec.ofInt 8 p ^^^ BitVec.ofInt 8 q).isLt
  omega
theorem upd_split {u : List Int} {i v : Int} (h0 : 0 ≤ i) (h1 : i < u.length) : upd u i v = u.take i.toNat ++ v :: u.drop (i.toNat + 1) ∧ u = u.take i.toNat ++ rd u i :: u.drop (i.toNat + 1) := by
  have hl : i.toNat < u.length := by omega
  refine ⟨?_, ?_⟩
  · unfold upd
    rw [List.set_eq_take_append_cons_drop, if_pos hl]
  · have e := rd_drop_cons h0 h1
    rw [show (i + 1).toNat = i.toNat + 1 by omega] at e
    rw [← e, List.take_append_drop]
theorem csum_upd {u : List Int} {i q : Int} (hu : ByteL u) (h0 : 0 ≤ i) (h1 : i < u.length) (hq : 0 ≤ q ∧ q < 256) (hne : ¬ q = 0) :
    csum [upd u i ((BitVec.ofInt 8 (rd u i) ^^^ BitVec.ofInt 8 q).toNat : Int)].flatten ≠ csum [u].flatten := by
  obtain ⟨e1, e2⟩ := upd_split (v := ((BitVec.ofInt 8 (rd u i) ^^^ BitVec.ofInt 8 q).toNat : Int)) h0 h1
  have f : ∀ l : List Int, [l].flatten = l := fun l => by simp
  rw [f, f, e1]
  conv => rhs; rw [e2]
  exact csum_turned (hu.drop _) (x8_byte _ _) (hu.rd _) (x8_ne (hu.rd _) hq hne)
theorem upd_bytes {u : List Int} {i v : Int} (hu : ByteL u) (hv : 0 ≤ v ∧ v < 256) : ByteL (upd u i v) := by
  intro x hx
  unfold upd at hx
  rcases List.mem_or_eq_of_mem_set hx with h | h
  · exact hu x h
  · rw [h]; exact hv
end Go.Pure

/-
  Plain laws: the sum of 32 digits. Own work.
-/
import Derived.Test.YtffekklhmdoceaaE10
import Derived.Test.YtffekklhmdoceaaQ1
namespace Go.Pure
open Go Go.Eng
def cstep (x : BitVec 32) : BitVec 32 := if x &&& 1#32 = 1#32 then (x >>> 1) ^^^ 3988292384#32 else x >>> 1
def cstepN : Nat → BitVec 32 → BitVec 32
  | 0, x => x
  | k + 1, x => cstepN k (cstep x)
/-- whorlref2.Number. -/
def cnum (x : BitVec 32) : BitVec 32 := cstepN 8 x
theorem cstepN_go {k : Int} {x : BitVec 32} (h : k < 8) : cstepN (8 - k).toNat x = cstepN (8 - (k + 1)).toNat (cstep x) := by
  have e : (8 - k).toNat = (8 - (k + 1)).toNat + 1 := by omega
  rw [e]
  rfl
def cidx (x : BitVec 32) (b : Int) : BitVec 32 := (x &&& 255#32) ^^^ BitVec.ofInt 32 b
def cupd (x : BitVec 32) (b : Int) : BitVec 32 := (x >>> 8) ^^^ cnum (cidx x b)
def cfold (x : BitVec 32) (l : List Int) : BitVec 32 := l.foldl cupd x
/-- The sum of a row. -/
def csum (l : List Int) : BitVec 32 := cfold 4294967295#32 l ^^^ 4294967295#32
/-- The table. -/
def ctab : List Int := (List.range 256).map fun i => bv (cnum (BitVec.ofNat 32 i))
theorem ctab_len : ctab.length = 256 := by unfold ctab; rw [List.length_map, List.length_range]
theorem ctab_at {i : Nat} (h : i < 256) : ctab[i]? = some (bv (cnum (BitVec.ofNat 32 i))) := by
  unfold ctab
  rw [List.getElem?_map, List.getElem?_range h]
  rfl
theorem ofInt_nat (i : Nat) : BitVec.ofInt 32 (i : Int) = BitVec.ofNat 32 i := rfl
theorem cidx_nat {x : BitVec 32} {b : Int} (hb : 0 ≤ b ∧ b < 256) : (cidx x b).toNat = (x.toNat % 256) ^^^ b.toNat := by
  obtain ⟨b, rfl⟩ : ∃ m : Nat, b = m := ⟨b.toNat, by omega⟩
  unfold cidx
  have e1 : (255#32).toNat = 2 ^ 8 - 1 := rfl
  have e2 : (BitVec.ofInt 32 (b : Int)).toNat = b := by rw [ofInt_nat, BitVec.toNat_ofNat]; omega
  rw [BitVec.toNat_xor, BitVec.toNat_and, e1, e2, Nat.and_two_pow_sub_one_eq_mod, Int.toNat_natCast]
theorem cidx_lt {x : BitVec 32} {b : Int} (hb : 0 ≤ b ∧ b < 256) : 0 ≤ bv (cidx x b) ∧ bv (cidx x b) < 256 := by
  have h : (cidx x b).toNat < 2 ^ 8 := by
    rw [cidx_nat hb]
    exact Nat.xor_lt_two_pow (by have := Nat.mod_lt x.toNat (show 0 < 256 by omega); omega) (by omega)
  unfold bv
  omega
theorem cidx8 {x : BitVec 32} {b : Int} (hb : 0 ≤ b ∧ b < 256) : ((BitVec.ofInt 8 (IntKind.u8.wrap (bv x)) ^^^ BitVec.ofInt 8 b).toNat : Int) = bv (cidx x b) := by
  have h := cidx_nat (x := x) hb
  unfold bv
  rw [h, BitVec.toNat_xor, BitVec.toNat_ofInt, BitVec.toNat_ofInt, IntKind.wrap_u8]
  have e1 : (((x.toNat : Int) % 256) % ((2 ^ 8 : Nat) : Int)).toNat = x.toNat % 256 := by omega
  have e2 : (b % ((2 ^ 8 : Nat) : Int)).toNat = b.toNat := by omega
  rw [e1, e2]
theorem cfold_cons (x : BitVec 32) (b : Int) (l : List Int) : cfold x (b :: l) = cfold (cupd x b) l := rfl
theorem cfold_app (x : BitVec 32) (l m : List Int) : cfold x (l ++ m) = cfold (cfold x l) m := List.foldl_append
/-- A Crc's cells: done, the lock, how often it was made, the table. -/
def crcXs (d s r : Int) (t : List Int) : List Value := [.int .u32 d, .int .i32 s, .int .u32 0, .int .i32 r] ++ ints .u32 t
def crcRow (T g : Nat) (d s r : Int) (t : List Int) : Row := ⟨T, 260, some ⟨g, 0, none⟩, 1, 1, crcXs d s r t, false⟩
theorem crcXs_len (d s r : Int) (t : List Int) : (crcXs d s r t).length = 4 + t.length := by
  unfold crcXs
  rw [List.length_append, ints_length]
  rfl
theorem crcXs_at {d s r : Int} {t : List Int} {i : Nat} {x : Int} (h : t[i]? = some x) : (crcXs d s r t)[4 + i]? = some (.int .u32 x) := by
  unfold crcXs
  rw [List.getElem?_append_right (by simp)]
  simp [ints, h]
theorem crcXs_set {d s r : Int} {t : List Int} {i : Nat} {x : Int} : (crcXs d s r t).set (4 + i) (.int .u32 x) = crcXs d s r (t.set i x) := by
  unfold crcXs ints
  rw [List.set_append_right _ _ (by simp), List.map_set]
  simp
theorem ctab_fill {t : List Int} (ht : t.length = 256) {k : Int} (h0 : 0 ≤ k) (h1 : k < 256) : (ctab.take k.toNat ++ t.drop k.toNat).set k.toNat (bv (cnum (BitVec.ofInt 32 k))) = ctab.take (k + 1).toNat ++ t.drop (k + 1).toNat := by
  obtain ⟨k, rfl⟩ : ∃ m : Nat, k = m := ⟨k.toNat, by omega⟩
  have e : ((k : Int) + 1).toNat = k + 1 := by omega
  rw [e, Int.toNat_natCast, ofInt_nat]
  have hk : k < ctab.length := by rw [ctab_len]; omega
  have hl : (ctab.take k).length = k := by rw [List.length_take]; omega
  rw [List.set_append_right _ _ (by omega), hl, Nat.sub_self, List.drop_eq_getElem_cons (by omega : k < t.length), List.set_cons_zero, List.take_add_one, ctab_at (by omega)]
  simp
theorem ctab_bv {x : BitVec 32} (h : bv x < 256) : ctab[(bv x).toNat]? = some (bv (cnum x)) := by
  have e : (bv x).toNat = x.toNat := by unfold bv; rw [Int.toNat_natCast]
  rw [e, ctab_at (by unfold bv at h; omega), BitVec.ofNat_toNat, BitVec.setWidth_eq]
/-- A row of slices of bytes. -/
def SlRd (B : Nat) (w0 : World) (R : List Row) (vals : List Value) (ls : List (List Int)) : Prop := vals.length = ls.length ∧ ∀ (j : Nat) (v : Value), vals[j]? = some v → ∃ (A : Option Addr) (c : Nat) (l : List Int), v = Value.slice A l.length c ∧ ls[j]? = some l ∧ RdC B w0 R A l.length c 1 (ints .u8 l) ∧ ByteL l
theorem SlRd.at {B : Nat} {w0 : World} {R : List Row} {vals : List Value} {ls : List (List Int)} (h : SlRd B w0 R vals ls) {i : Int} (h0 : 0 ≤ i) (h1 : i < vals.length) : ∃ (A : Option Addr) (c : Nat) (l : List Int), vals[i.toNat]? = some (Value.slice A l.length c) ∧ ls[i.toNat]? = some l ∧ RdC B w0 R A l.length c 1 (ints .u8 l) ∧ ByteL l := by
  have hlt : i.toNat < vals.length := by omega
  obtain ⟨A, c, l, e, h2, h3, h4⟩ := h.2 i.toNat _ (List.getElem?_eq_getElem hlt)
  exact ⟨A, c, l, by rw [List.getElem?_eq_getElem hlt, e], h2, h3, h4⟩
theorem SlRd.one {B : Nat} {w0 : World} {R : List Row} {A : Option Addr} {c n : Nat} {l : List Int} (h : RdC B w0 R A n c 1 (ints .u8 l)) (hb : ByteL l) (hn : n = l.length) : SlRd B w0 R [.slice A n c] [l] := by
  subst hn
  exact ⟨rfl, fun j v hv => by
    cases j with
    | zero => exact ⟨A, c, l, by simpa using hv.symm, rfl, h, hb⟩
    | succ j => simp at hv⟩
theorem SlRd.two {B : Nat} {w0 : World} {R : List Row} {A A' : Option Addr} {c c' n n' : Nat} {l l' : List Int} (h : RdC B w0 R A n c 1 (ints .u8 l)) (hb : ByteL l) (hn : n = l.length) (h' : RdC B w0 R A' n' c' 1 (ints .u8 l')) (hb' : ByteL l') (hn' : n' = l'.length) : SlRd B w0 R [.slice A n c, .slice A' n' c'] [l, l'] := by
  subst hn; subst hn'
  exact ⟨rfl, fun j v hv => by
    match j with
    | 0 => exact ⟨A, c, l, by simpa using hv.symm, rfl, h, hb⟩
    | 1 => exact ⟨A', c', l', by simpa using hv.symm, rfl, h', hb'⟩
    | j + 2 => simp at hv⟩
theorem SlRd.of {w : World} {R : List Row} {vals : List Value} {ls : List (List Int)} (h : SlW .u8 w vals ls) : SlRd w.heap.size w R vals ls :=
  ⟨h.1, fun j v hv => by
    have hlt : j < ls.length := by rw [← h.1]; exact (List.getElem?_eq_some_iff.1 hv).1
    obtain ⟨A, c, h1, h2, h3, _⟩ := h.2 j hlt
    rw [h1] at hv
    have e : ls.getD j [] = ls[j] := by simp [List.getD_eq_getElem?_getD, List.getElem?_eq_getElem hlt]
    rw [e] at hv h2 h3
    exact ⟨A, c, ls[j], (Option.some.inj hv).symm, List.getElem?_eq_getElem hlt, h2.c R, byteL_wf h3⟩⟩
/-- No more than a million of them, none longer. -/
def Big (ls : List (List Int)) : Prop := ls.length ≤ 1000000 ∧ ∀ (j : Nat) (l : List Int), ls[j]? = some l → l.length ≤ 1000000
theorem Big.one {l : List Int} (h : l.length ≤ 1000000) : Big [l] := ⟨by simp, fun j q hq => by
  cases j with
  | zero => simp at hq; subst hq; exact h
  | succ j => simp at hq⟩
theorem Big.two {l l' : List Int} (h : l.length ≤ 1000000) (h' : l'.length ≤ 1000000) : Big [l, l'] := ⟨by simp, fun j q hq => by
  match j with
  | 0 => simp at hq; subst hq; exact h
  | 1 => simp at hq; subst hq; exact h'
  | j + 2 => simp at hq⟩
theorem Big.nil : Big [] := ⟨by simp, fun j q hq => by simp at hq⟩
theorem Big.snoc {ls : List (List Int)} {q : List Int} (h : Big ls) (h1 : ls.length < 1000000) (h2 : q.length ≤ 1000000) : Big (ls ++ [q]) := ⟨by simp; omega, fun j r hr => by
  rw [List.getElem?_append] at hr
  split at hr
  · exact h.2 j r hr
  · rename_i hj
    have hz : j - ls.length = 0 := by
      rcases Nat.eq_zero_or_pos (j - ls.length) with e | e
      · exact e
      · rw [List.getElem?_eq_none (by simp; omega)] at hr; cases hr
    rw [hz] at hr
    simp at hr
    rw [← hr]; exact h2⟩
theorem rdl_snoc {ls : List (List Int)} {i : Int} (h0 : 0 ≤ i) (h : i < ls.length) : ls.take (i + 1).toNat = ls.take i.toNat ++ [rdl ls i] := by
  have hl : i.toNat < ls.length := by omega
  have e : (i + 1).toNat = i.toNat + 1 := by omega
  rw [e, List.take_add_one, List.getElem?_eq_getElem hl]
  simp [rdl, List.getD_eq_getElem?_getD, List.getElem?_eq_getElem hl]
theorem SlRd.nil {B : Nat} {w0 : World} {R : List Row} : SlRd B w0 R [] [] := ⟨rfl, fun j v hv => by simp at hv⟩
theorem drop_flat {ls : List (List Int)} {l : List Int} {i : Int} (h0 : 0 ≤ i) (h : ls[i.toNat]? = some l) : (ls.drop i.toNat).flatten = l ++ (ls.drop (i + 1).toNat).flatten := by
  have hlt : i.toNat < ls.length := (List.getElem?_eq_some_iff.1 h).1
  have e : (i + 1).toNat = i.toNat + 1 := by omega
  rw [List.drop_eq_getElem_cons hlt, (List.getElem?_eq_some_iff.1 h).2, e]
  rfl
theorem cfold_step {x : BitVec 32} {l m : List Int} {i : Int} (h0 : 0 ≤ i) (h : i < l.length) : cfold x (l.drop i.toNat ++ m) = cfold (cupd x (rd l i)) (l.drop (i + 1).toNat ++ m) := by
  rw [rd_drop_cons h0 h]
  rfl
theorem drop_len {α : Type} {l : List α} {i : Int} (h : (l.length : Int) ≤ i) : l.drop i.toNat = [] := List.drop_of_length_le (by omega)
end Go.Pure

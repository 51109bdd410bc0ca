/-
  Engine: rows of slices in rows of their own, taken apart and put together; rows of slices with numbers. Own work.
-/
import Derived.Test.YtdfcnalkdlifiaaE26
import Derived.Test.YtdfcnalkdlifiaaE16
import Derived.Test.YtdfcnalkdlifiaaQ37
namespace Go.Eng
open Go Go.RowKit Go.Pure
section
variable {P : Program} {n : Nd} {B : Nat} {w0 : World} {L : Env} {R : List Row} {ty : TypeId}
theorem rd_isNone {w : World} {A : Option Addr} {m c : Nat} {k : IntKind} {u : List Int} (h : Rd w A m c 1 (ints k u)) (hA : A.isNone = true) : u = [] := by
  cases u with
  | nil => rfl
  | cons y l =>
    obtain ⟨b, g, _⟩ := h.at_ 0 (.int k y) (by simp [ints])
    rw [g] at hA
    cases hA
theorem SlR.weak {k : IntKind} {Rs Rs' : List Row} {vals : List Value} {ls : List (List Int)} (h : SlR k Rs vals ls) (hr : ∀ B w0 w, Hp B w0 w Rs' → Hp B w0 w Rs) : SlR k Rs' vals ls :=
  ⟨h.1, fun j hj => by
    obtain ⟨A, c, h1, h2⟩ := h.2 j hj
    exact ⟨A, c, h1, fun B w0 w hw => h2 B w0 w (hr B w0 w hw)⟩⟩
theorem SlR.right {k : IntKind} {Rs : List Row} {vals : List Value} {ls : List (List Int)} (h : SlR k Rs vals ls) (X : List Row) : SlR k (X ++ Rs) vals ls := h.weak fun _ _ _ hw => hw.right
theorem SlR.left {k : IntKind} {Rs : List Row} {vals : List Value} {ls : List (List Int)} (h : SlR k Rs vals ls) (T : List Row) : SlR k (Rs ++ T) vals ls := h.weak fun _ _ _ hw => hw.left
theorem getD_app {l m : List (List Int)} {j : Nat} (h : j < l.length) : (l ++ m).getD j [] = l.getD j [] := by
  rw [List.getD_eq_getElem?_getD, List.getD_eq_getElem?_getD, List.getElem?_append_left h]
theorem SlR.app {k : IntKind} {Rs : List Row} {v1 v2 : List Value} {l1 l2 : List (List Int)} (h : SlR k Rs v1 l1) (g : SlR k Rs v2 l2) : SlR k Rs (v1 ++ v2) (l1 ++ l2) := by
  refine ⟨by simp [h.1, g.1], fun j hj => ?_⟩
  rcases Nat.lt_or_ge j l1.length with q | q
  · obtain ⟨A, c, h1, h2⟩ := h.2 j q
    rw [getD_app q, List.getElem?_append_left (by rw [h.1]; exact q)]
    exact ⟨A, c, h1, h2⟩
  · rw [List.length_append] at hj
    obtain ⟨A, c, h1, h2⟩ := g.2 (j - l1.length) (by omega)
    have e : (l1 ++ l2).getD j [] = l2.getD (j - l1.length) [] := by
      rw [List.getD_eq_getElem?_getD, List.getD_eq_getElem?_getD, List.getElem?_append_right q]
    rw [e, List.getElem?_append_right (by rw [h.1]; exact q), h.1]
    exact ⟨A, c, h1, h2⟩
theorem SlR.take {k : IntKind} {Rs : List Row} {vals : List Value} {ls : List (List Int)} (h : SlR k Rs vals ls) (i : Nat) : SlR k Rs (vals.take i) (ls.take i) := by
  refine ⟨by simp [h.1], fun j hj => ?_⟩
  rw [List.length_take] at hj
  obtain ⟨A, c, h1, h2⟩ := h.2 j (by omega)
  have e : (ls.take i).getD j [] = ls.getD j [] := by
    rw [List.getD_eq_getElem?_getD, List.getD_eq_getElem?_getD, List.getElem?_take_of_lt (by omega)]
  rw [e, List.getElem?_take_of_lt (by omega)]
  exact ⟨A, c, h1, h2⟩
theorem SlR.drop {k : IntKind} {Rs : List Row} {vals : List Value} {ls : List (List Int)} (h : SlR k Rs vals ls) (i : Nat) : SlR k Rs (vals.drop i) (ls.drop i) := by
  refine ⟨by simp [h.1], fun j hj => ?_⟩
  rw [List.length_drop] at hj
  obtain ⟨A, c, h1, h2⟩ := h.2 (i + j) (by omega)
  have e : (ls.drop i).getD j [] = ls.getD (i + j) [] := by
    rw [List.getD_eq_getElem?_getD, List.getD_eq_getElem?_getD, List.getElem?_drop]
  rw [e, List.getElem?_drop]
  exact ⟨A, c, h1, h2⟩
theorem SlR.single {k : IntKind} {Rs : List Row} {A : Option Addr} {m c : Nat} {l : List Int} (hm : m = l.length) (h : ∀ B w0 w, Hp B w0 w Rs → Rd w A m c 1 (ints k l)) : SlR k Rs [.slice A m c] [l] := by
  subst hm
  refine ⟨rfl, fun j hj => ?_⟩
  simp only [List.length_singleton] at hj
  obtain rfl : j = 0 := by omega
  exact ⟨A, c, rfl, h⟩
/-- A slice more, of whatever rows. -/
theorem SlR.push {k : IntKind} {Rs : List Row} {vals : List Value} {ls : List (List Int)} {A : Option Addr} {m c : Nat} {l : List Int} (h : SlR k Rs vals ls) (hm : m = l.length) (hr : ∀ B w0 w, Hp B w0 w Rs → Rd w A m c 1 (ints k l)) : SlR k Rs (vals ++ [.slice A m c]) (ls ++ [l]) := h.app (SlR.single hm hr)
theorem SlR.one {k : IntKind} {Rs : List Row} {vals : List Value} {ls : List (List Int)} (h : SlR k Rs vals ls) : ∀ v ∈ vals, v.oneCell' = true := fun v hv => by
  obtain ⟨j, hj, e⟩ := List.mem_iff_getElem.1 hv
  obtain ⟨A, c, h1, _⟩ := h.2 j (by rw [← h.1]; exact hj)
  rw [List.getElem?_eq_getElem hj, e] at h1
  obtain rfl := Option.some.inj h1
  simp [Value.oneCell']
/-- As slices of a world. -/
def OkB (ls : List (List Int)) : Prop := ∀ l ∈ ls, ByteL l ∧ l.length ≤ 140737488355327
theorem SlR.slw {Rs : List Row} {vals : List Value} {ls : List (List Int)} (h : SlR .u8 Rs vals ls) (hb : OkB ls) {w : World} (hw : Hp B w0 w Rs) : SlW .u8 w vals ls :=
  ⟨h.1, fun j hj => by
    obtain ⟨A, c, h1, h2⟩ := h.2 j hj
    have hm : ls.getD j [] ∈ ls := by
      rw [List.getD_eq_getElem?_getD, List.getElem?_eq_getElem hj]
      exact List.getElem_mem hj
    exact ⟨A, c, h1, h2 _ _ _ hw, fun x hx => wf_byte ((hb _ hm).1 x hx), (hb _ hm).2⟩⟩
theorem SlW.take {k : IntKind} {w : World} {vals : List Value} {ls : List (List Int)} (h : SlW k w vals ls) (i : Nat) : SlW k w (vals.take i) (ls.take i) := by
  refine ⟨by simp [h.1], fun j hj => ?_⟩
  rw [List.length_take] at hj
  have e : (ls.take i).getD j [] = ls.getD j [] := by
    rw [List.getD_eq_getElem?_getD, List.getD_eq_getElem?_getD, List.getElem?_take_of_lt (by omega)]
  rw [e, List.getElem?_take_of_lt (by omega)]
  exact h.2 j (by omega)
theorem SlW.one {k : IntKind} {w : World} {vals : List Value} {ls : List (List Int)} (h : SlW k w vals ls) : ∀ v ∈ vals, v.oneCell' = true := fun v hv => by
  obtain ⟨j, hj, e⟩ := List.mem_iff_getElem.1 hv
  obtain ⟨A, c, h1, _⟩ := h.2 j (by rw [← h.1]; exact hj)
  rw [List.getElem?_eq_getElem hj, e] at h1
  obtain rfl := Option.some.inj h1
  simp [Value.oneCell']
theorem SlW.app {k : IntKind} {w : World} {v1 v2 : List Value} {l1 l2 : List (List Int)} (h : SlW k w v1 l1) (g : SlW k w v2 l2) : SlW k w (v1 ++ v2) (l1 ++ l2) := by
  refine ⟨by simp [h.1, g.1], fun j hj => ?_⟩
  rcases Nat.lt_or_ge j l1.length with q | q
  · rw [getD_app q, List.getElem?_append_left (by rw [h.1]; exact q)]
    exact h.2 j q
  · rw [List.length_append] at hj
    have e : (l1 ++ l2).getD j [] = l2.getD (j - l1.length) [] := by
      rw [List.getD_eq_getElem?_getD, List.getD_eq_getElem?_getD, List.getElem?_append_right q]
    rw [e, List.getElem?_append_right (by rw [h.1]; exact q), h.1]
    exact g.2 (j - l1.length) (by omega)
theorem SlW.okB {w : World} {vals : List Value} {ls : List (List Int)} (h : SlW .u8 w vals ls) : OkB ls := fun l hl => by
  obtain ⟨j, hj, e⟩ := List.mem_iff_getElem.1 hl
  obtain ⟨A, c, _, _, h3, h4⟩ := h.2 j hj
  have e2 : ls.getD j [] = l := by rw [List.getD_eq_getElem?_getD, List.getElem?_eq_getElem hj, e]; rfl
  rw [e2] at h3 h4
  exact ⟨byteL_wf h3, h4⟩
/-! ### slices with numbers -/
structure RC where
  A : Option Addr
  c : Nat
  root : List Int
  times : Int
def encR (r : RC) : List Value := [.slice r.A r.root.length r.c, .int .i64 r.times]
def RC.rt (r : RC) : RT := (r.root, r.times)
def rdG (l : List RC) (i : Int) : RC := l.getD i.toNat ⟨none, 0, [], 0⟩
def rgs (l : List RC) : List Value := l.flatMap encR
def RgR (Rs : List Row) (l : List RC) : Prop := ∀ r ∈ l, ByteL r.root ∧ ∀ (B : Nat) (w0 w : World), Hp B w0 w Rs → Rd w r.A r.root.length r.c 1 (ints .u8 r.root)
theorem RgR.nil (Rs : List Row) : RgR Rs [] := fun r h => by cases h
theorem RgR.weak {Rs Rs' : List Row} {l : List RC} (h : RgR Rs l) (hr : ∀ B w0 w, Hp B w0 w Rs' → Hp B w0 w Rs) : RgR Rs' l := fun r h' => ⟨(h r h').1, fun B w0 w hw => (h r h').2 B w0 w (hr B w0 w hw)⟩
theorem RgR.right {Rs : List Row} {l : List RC} (h : RgR Rs l) (X : List Row) : RgR (X ++ Rs) l := h.weak fun _ _ _ hw => hw.right
theorem RgR.snoc {Rs : List Row} {l : List RC} {e m : Nat} {A : Option Addr} {c : Nat} {u : List Int} {t : Int} {ro : Bool} (h : RgR Rs l) (hm : m = u.length) (hb : ByteL u) : RgR (⟨e, 1, A, m, c, ints .u8 u, ro⟩ :: Rs) (l ++ [⟨A, c, u, t⟩]) := fun r hr => by
  subst hm
  rcases List.mem_append.1 hr with hr | hr
  · exact ⟨(h r hr).1, fun B w0 w hw => (h r hr).2 B w0 w hw.tail⟩
  · obtain rfl := List.mem_singleton.1 hr
    exact ⟨hb, fun B w0 w hw => rdr (R := ⟨e, 1, A, u.length, c, ints .u8 u, ro⟩ :: Rs) 0 rfl w hw⟩
theorem RgR.perm {Rs : List Row} {l m : List RC} (h : RgR Rs l) (hp : m.Perm l) : RgR Rs m := fun r hr => h r (hp.subset hr)
theorem rgs_len (l : List RC) : (rgs l).length = l.length * 2 := flat_len (enc := encR) (fun _ => rfl) l
theorem rgs_app (l m : List RC) : rgs (l ++ m) = rgs l ++ rgs m := List.flatMap_append
theorem rgs_one (l : List RC) : ∀ v ∈ rgs l, v.oneCell' = true := fun v hv => by
  obtain ⟨r, _, h⟩ := List.mem_flatMap.1 hv
  simp only [encR, List.mem_cons, List.not_mem_nil, or_false] at h
  rcases h with rfl | rfl <;> rfl
theorem encR_one (x : RC) : ∀ v ∈ encR x, v.oneCell' = true := fun v hv => by
  simp only [encR, List.mem_cons, List.not_mem_nil, or_false] at hv
  rcases hv with rfl | rfl <;> rfl
theorem rdG_mem {l : List RC} {i : Int} (h0 : 0 ≤ i) (h1 : i < l.length) : rdG l i ∈ l := by
  unfold rdG
  rw [List.getD_eq_getElem?_getD, List.getElem?_eq_getElem (by omega)]
  exact List.getElem_mem _
theorem rgs_at {l : List RC} {i : Int} (h0 : 0 ≤ i) (h1 : i < l.length) : ((rgs l).drop (i.toNat * 2)).take 2 = encR (rdG l i) := by
  have e : l = l.take i.toNat ++ rdG l i :: l.drop (i.toNat + 1) := by
    conv => lhs; rw [← List.take_append_drop i.toNat l]
    congr 1
    rw [List.drop_eq_getElem_cons (by omega)]
    congr 1
    unfold rdG
    rw [List.getD_eq_getElem?_getD, List.getElem?_eq_getElem (by omega)]
    rfl
  have hl : (rgs (l.take i.toNat)).length = i.toNat * 2 := by rw [rgs_len, List.length_take, Nat.min_eq_left (by omega)]
  have e2 : rgs l = rgs (l.take i.toNat) ++ (encR (rdG l i) ++ rgs (l.drop (i.toNat + 1))) := by
    conv => lhs; rw [e]
    rw [rgs_app]
    rfl
  rw [e2, List.drop_left' hl]
  rfl
theorem y_ldR {x : Operand} {t : TypeId} {d : TypeDesc} {A : Option Addr} {m c : Nat} {l : List RC} {i : Int} (hu : P.underlying t = some d) (hd : aggB d = true) (hst : (P.info? t).map (·.size) = some 2) (hx : ev L x = some (.pointer (pat A (i.toNat * 2)))) (hr : RdC B w0 R A m c 2 (rgs l)) (h0 : 0 ≤ i) (h1 : i < l.length) :
    Yl P n B w0 (.load t x) ty L R (.agg #[.slice (rdG l i).A (rdG l i).root.length (rdG l i).c, .int .i64 (rdG l i).times]) := by
  have := y_ldA (P := P) (n := n) (B := B) (w0 := w0) (R := R) (ty := ty) hu hd hst hx rfl hr (by rw [rgs_len]; omega) (by omega)
  rwa [rgs_at h0 h1] at this
theorem a_appendR {s x : Operand} {t e : TypeId} {z : Value} {bytes m p c c2 : Nat} {A A2 : Option Addr} {l news : List RC} (i : Nat) (hi : R[i]? = some ⟨e, 2, A, p, c, rgs l, false⟩) (ht : P.underlying t = some (.slice e)) (hinfo : (P.info? e).map (fun i => (i.zero, i.size, i.bytes)) = some (some z, 2, bytes)) (hz : z.cells.size = 2) (hb0 : Nat.blt 0 bytes = true)
    (hs : ev L s = some (.slice A p c)) (hx : ev L x = some (.slice A2 m c2)) (hrd : RdC B w0 R A2 m c2 2 (rgs news)) (hbytes : (p + m) * bytes ≤ 140737488355328) :
    Ac P n B w0 (.call { callee := .builtin .append, args := #[s, x], argTypes := #[t, t] }) ty L R (fun v R' => ∃ A' c', v = .slice A' (p + m) c' ∧ R' = R.set i ⟨e, 2, A', p + m, c', rgs (l ++ news), false⟩) := by
  have := a_append (P := P) (n := n) (B := B) (w0 := w0) (ty := ty) i hi rfl ht hinfo hz rfl hb0 hs hx hrd (rgs_one news) hbytes
  simp only [← rgs_app] at this
  exact this
theorem a_litR {t e : TypeId} {x : Operand} (r : RC) (ht : P.underlying t = some (.slice e)) (hinfo : (P.info? e).map (fun i => (i.zero, i.size)) = some (some (.agg #[.slice none 0 0, .int .i64 0]), 2)) (hx : ev L x = some (.agg #[.slice r.A r.root.length r.c, .int .i64 r.times])) :
    Ac P n B w0 (.buildSlice t 1 #[(0, x)]) ty L R (fun v R' => ∃ g, v = .slice (some ⟨g, 0, none⟩) 1 1 ∧ R' = ⟨e, 2, some ⟨g, 0, none⟩, 1, 1, rgs [r], false⟩ :: R) := by
  have hv : evp L [(0, x)] = some [(0, .agg #[.slice r.A r.root.length r.c, .int .i64 r.times])] := by simp [evp, hx]
  exact a_buildSlice (P := P) (n := n) (B := B) (w0 := w0) (L := L) (R := R) (ty := ty) (len := 1) (ps := [(0, x)]) (cells := #[.slice r.A r.root.length r.c, .int .i64 r.times]) ht hinfo hv (by decide) (by decide) (by kernel_rfl) (by rfl)
theorem map_snoc {α : Type} (f : α → List Int) (l : List α) (x : α) : (l ++ [x]).map f = l.map f ++ [f x] := by simp
end
end Go.Eng

/-
  Engine: slices.SortFunc over elements of any cells, by the kit's contracts. Own work.
-/
import Derived.Shelf.SlSortCmp.Kit1
import Derived.Test.YtdfcnalkdlifiaaE18
import Derived.Test.YtdfcnalkdlifiaaE24
namespace Go.Eng
open Go Go.RowKit Go.Proofs Go.Sort
section
variable {P : Program} {B : Nat} {w0 : World} {R : List Row}
/-- What the kit's contract says at elements of k cells; at none; at elements of one cell. -/
def SortsK (P : Program) (f g : Nat) (cb : Array Value) (k : Nat) : Prop :=
  ∀ (α : Type) [Inhabited α] (enc : α → List Value) (_ : ∀ x, (enc x).length = k) (_ : ∀ x, ∀ v ∈ enc x, v.oneCell' = true) (cf : α → α → Int) (_ : SWO (ltOf cf)) (blk off cap : Nat) (d : Array α) (w : World)
    (_ : CmpLays P g cb enc k cf blk off d.size w) (_ : HoldsK enc k w blk off d) (_ : blk < w.heap.size) (_ : d.size < 4611686018427387904),
    Calls P f #[.slice (some ⟨blk, off, none⟩) d.size cap, .func (.func g) #[] cb] w fun e w' => e = .returned (.tuple #[]) ∧ ∃ d' n os, PermIn 0 d.size d d' ∧ SortedIn (ltOf cf) 0 d.size d' ∧ w' = sortWorldK enc k w blk off n d' os
def SortsC (P : Program) (f g : Nat) (cb : Array Value) : Prop :=
  ∀ (α : Type) [Inhabited α] (enc : α → Value) (_ : OneCell enc) (cf : α → α → Int) (_ : SWO (ltOf cf)) (blk off cap : Nat) (d : Array α) (w : World)
    (_ : CmpLays1 P g cb enc cf blk off d.size w) (_ : Holds enc w blk off d) (_ : blk < w.heap.size) (_ : d.size < 4611686018427387904),
    Calls P f #[.slice (some ⟨blk, off, none⟩) d.size cap, .func (.func g) #[] cb] w fun e w' => e = .returned (.tuple #[]) ∧ ∃ d' n os, PermIn 0 d.size d d' ∧ SortedIn (ltOf cf) 0 d.size d' ∧ w' = sortWorld enc w blk off n d' os
def SortsNone (P : Program) (f : Nat) : Prop := ∀ (p : Option Addr) (cap : Nat) (fv : Value) (w : World), Calls P f #[.slice p 0 cap, fv] w fun e w' => e = .returned (.tuple #[]) ∧ w' = w
/-- A row put anew. -/
theorem Hp.putRow {w : World} (hw : Hp B w0 w R) {i T k m c blk : Nat} {vs : List Value} (hi : R[i]? = some ⟨T, k, some ⟨blk, 0, none⟩, m, c, vs, false⟩) (xs : Array Value) (hxs : xs.size = m * k) (n : Nat) (os : Array Obj) :
    Hp B w0 (grow (putRow id (Sort.ahead w n) blk 0 xs) os) (R.set i ⟨T, k, some ⟨blk, 0, none⟩, m, c, xs.toList, false⟩) ∧ Hp B w0 (grow (putRow id (Sort.ahead w n) blk 0 xs) os) (R.eraseIdx i) := by
  have hown := Row.lies_w (hw.own _ (List.mem_of_getElem? hi)) rfl
  rcases hown.2 with ⟨hv, hn⟩ | ⟨g, cap, cur, hv, hb, hg, hnc, hcm, hcs, ht⟩
  · simp at hv
  simp only [Value.slice.injEq, Option.some.injEq, Addr.mk.injEq, and_true, true_and] at hv
  obtain ⟨rfl, rfl⟩ := hv
  simp only at ht hcs hg hnc hb
  have hlt : blk < w.heap.size := (Array.getElem?_eq_some_iff.1 hg).1
  have hsz : w.heap.size ≤ (grow (Go.Sort.putRow id (Sort.ahead w n) blk 0 xs) os).heap.size := by
    rw [size_grow, Go.Sort.size_putRow]
    exact Nat.le_add_right _ _
  have hk : ∀ k, k < w.heap.size → blk ≠ k → (grow (Go.Sort.putRow id (Sort.ahead w n) blk 0 xs) os).heap[k]? = w.heap[k]? := by
    intro k hk hbk
    rw [heap_grow_old _ _ (by rw [Go.Sort.size_putRow]; exact hk)]
    simp [Go.Sort.putRow, mapBlock, Array.getElem?_modify, hbk, Sort.ahead]
  have hheap : (grow (Go.Sort.putRow id (Sort.ahead w n) blk 0 xs) os).heap[blk]? = some (.cells (putCells id 0 xs cur) T (0, 0)) := by
    rw [heap_grow_old _ _ (by rw [Go.Sort.size_putRow]; exact hlt)]
    simp [Go.Sort.putRow, mapBlock, Array.getElem?_modify, Sort.ahead, hg, onCells]
  refine ⟨?_, hw.but hi rfl rfl rfl (by show w.drawn ≤ w.drawn + n; omega) hsz fun k h1 h2 => hk k h1 (h2 _ rfl)⟩
  refine hw.upd hi (row := some blk) ⟨rfl, rfl, rfl, hsz, fun k h1 hne => hk k h1 fun e => hne (by rw [e])⟩ ?_ (fun k hk => ?_) ?_ (fun a' ha' => .inl ⟨a', ha', rfl⟩)
  · show w.drawn ≤ w.drawn + n
    omega
  · obtain rfl := Option.some.inj hk
    exact ⟨_, rfl, rfl⟩
  · unfold Row.lies
    simp only
    refine ⟨by rw [Array.length_toList, hxs], .inr ⟨blk, c, _, rfl, hb, hheap, hnc, hcm, ?_, ?_⟩⟩
    · simp only [putCells, Array.size_mapIdx]
      exact hcs
    · apply List.ext_getElem?
      intro t
      rw [List.getElem?_take]
      split
      · rename_i htm
        have htc : t < cur.size := by
          have : m * k ≤ c * k := Nat.mul_le_mul_right _ hnc
          omega
        rw [Array.getElem?_toList, Array.getElem?_toList, Array.getElem?_eq_getElem (by simp [putCells]; exact htc), Array.getElem?_eq_getElem (by rw [hxs]; exact htm)]
        simp only [putCells, Array.getElem_mapIdx, id]
        rw [if_pos ⟨Nat.zero_le _, by rw [Nat.zero_add, hxs]; exact htm⟩, Nat.sub_zero, getElem!_pos _ t (by rw [hxs]; exact htm)]
      · rename_i htm
        rw [List.getElem?_eq_none (by rw [Array.length_toList, hxs]; omega)]
theorem flatK_list {α : Type} [Inhabited α] {enc : α → List Value} {k : Nat} (hk : ∀ x, (enc x).length = k) (d : Array α) : (flatK enc k d).toList = d.toList.flatMap enc := by
  have hlen : ∀ l : List α, (l.flatMap enc).length = l.length * k := fun l => by
    induction l with
    | nil => simp
    | cons x l ih => rw [List.flatMap_cons, List.length_append, ih, hk, List.length_cons, Nat.add_mul]; omega
  have hget : ∀ (l : List α) (t : Nat) (x : α), 0 < k → l[t / k]? = some x → (l.flatMap enc)[t]? = (enc x)[t % k]? := fun l => by
    induction l with
    | nil => intro t x _ h; simp at h
    | cons y l ih =>
      intro t x k0 h
      rw [List.flatMap_cons]
      rcases Nat.lt_or_ge t k with g | g
      · rw [Nat.div_eq_of_lt g] at h
        simp only [List.getElem?_cons_zero, Option.some.injEq] at h
        subst h
        rw [List.getElem?_append_left (by rw [hk]; exact g), Nat.mod_eq_of_lt g]
      · have e : t / k = (t - k) / k + 1 := by
          rw [← Nat.sub_add_cancel g, Nat.add_div_right _ k0]
          simp
        rw [e, List.getElem?_cons_succ] at h
        rw [List.getElem?_append_right (by rw [hk]; exact g), hk, ih (t - k) x k0 h, ← Nat.mod_eq_sub_mod g]
  apply List.ext_getElem?
  intro t
  have hs : (flatK enc k d).size = d.size * k := size_flatK _ _ _
  rcases Nat.lt_or_ge t (d.size * k) with h | h
  · have k0 : 0 < k := Nat.pos_of_ne_zero fun e => by subst e; simp at h
    have hdk : t / k < d.size := Nat.div_lt_of_lt_mul (by rw [Nat.mul_comm]; exact h)
    have e1 : (flatK enc k d)[t]? = some ((flatK enc k d)[t]!) := by
      rw [Array.getElem?_eq_getElem (by rw [hs]; exact h), getElem!_pos _ t (by rw [hs]; exact h)]
    rw [Array.getElem?_toList, e1, get_flatK enc k d t h, hget d.toList t d[t / k] k0 (by rw [Array.getElem?_toList, Array.getElem?_eq_getElem hdk]), getElem!_pos d _ hdk]
    have hm : t % k < (enc d[t / k]).length := by rw [hk]; exact Nat.mod_lt _ k0
    rw [List.getElem?_eq_getElem hm, getElem!_pos (enc d[t / k]) (t % k) hm]
  · rw [List.getElem?_eq_none (by rw [Array.length_toList, hs]; exact h), List.getElem?_eq_none (by rw [hlen, Array.length_toList]; exact h)]
theorem flat_len {α : Type} {enc : α → List Value} {k : Nat} (hk : ∀ x, (enc x).length = k) (l : List α) : (l.flatMap enc).length = l.length * k := by
  induction l with
  | nil => simp
  | cons x l ih => rw [List.flatMap_cons, List.length_append, ih, hk, List.length_cons, Nat.add_mul]; omega
theorem perm_of_permIn {α : Type} [Inhabited α] {d d' : Array α} (h : PermIn 0 d.size d d') : d'.toList.Perm d.toList := by
  obtain ⟨hs, _, hp⟩ := h
  have e1 : (d'.extract 0 d.size).toList = d'.toList := by rw [← hs]; simp
  have e2 : (d.extract 0 d.size).toList = d.toList := by simp
  rw [e1, e2] at hp
  exact hp
theorem sortedIn_list {α : Type} [Inhabited α] {cf : α → α → Int} {d' : Array α} {n : Nat} (h : SortedIn (ltOf cf) 0 n d') (hn : d'.size = n) : d'.toList.Pairwise fun x y => ¬ cf y x < 0 := by
  refine List.pairwise_iff_getElem.2 fun a b ha hb' hab => ?_
  rw [Array.length_toList] at ha hb'
  have h1 := h a b (Nat.zero_le _) hab (by omega)
  rw [getElem!_pos d' a ha, getElem!_pos d' b hb'] at h1
  simp only [ltOf, decide_eq_false_iff_not] at h1
  simpa using h1
theorem nil_row {w : World} (hw : Hp B w0 w R) {i T k c : Nat} {A : Option Addr} {vs : List Value} (hi : R[i]? = some ⟨T, k, A, 0, c, vs, false⟩) : R.set i ⟨T, k, A, 0, c, [], false⟩ = R ∧ vs = [] := by
  have hown := Row.lies_w (hw.own _ (List.mem_of_getElem? hi)) rfl
  have hl := hown.1
  simp only [Nat.zero_mul] at hl
  obtain rfl := List.eq_nil_of_length_eq_zero hl
  refine ⟨?_, rfl⟩
  apply List.ext_getElem?
  intro j
  rw [List.getElem?_set]
  split
  · rename_i h
    subst h
    split
    · exact hi.symm
    · rename_i h2
      rw [List.getElem?_eq_none (by omega)]
  · rfl
/-- slices.SortFunc over elements of some cells. -/
theorem sort_cells {α : Type} {f g k : Nat} {cb : Array Value} {enc : α → List Value} (hSF : SortsK P f g cb k) (hS0 : SortsNone P f) (hk : ∀ x, (enc x).length = k) (h1 : ∀ x, ∀ v ∈ enc x, v.oneCell' = true) {T c : Nat} {A : Option Addr} {l : List α} (i : Nat) (hi : R[i]? = some ⟨T, k, A, l.length, c, l.flatMap enc, false⟩) (hsz : l.length < 4611686018427387904) (cmp : α → α → Int) (hO : SWO (ltOf cmp))
    (hclo : ∀ W, Hp B w0 W (R.eraseIdx i) → ∀ x ∈ l, ∀ y ∈ l,
      Ct P g (#[.agg (enc x).toArray, .agg (enc y).toArray] ++ cb) W.heap.size W [] (fun v _ => v = .int .i64 (cmp x y))) :
    Ct P f #[.slice A l.length c, .func (.func g) #[] cb] B w0 R (fun v R' => v = .tuple #[] ∧ ∃ l' : List α, l'.Perm l ∧ l'.Pairwise (fun x y => ¬ cmp y x < 0) ∧ R' = R.set i ⟨T, k, A, l'.length, c, l'.flatMap enc, false⟩) := by
  intro w hw
  rcases l with _ | ⟨x0, l0⟩
  · refine (hS0 A c _ w).mono ?_
    rintro e w' ⟨rfl, rfl⟩
    obtain ⟨h1, h2⟩ := nil_row hw hi
    exact ⟨_, _, rfl, hw, rfl, [], .refl _, .nil, h1.symm⟩
  generalize hl : x0 :: l0 = l at *
  have hpos : 0 < l.length := by rw [← hl]; simp
  have hown := Row.lies_w (hw.own _ (List.mem_of_getElem? hi)) rfl
  rcases hown.2 with ⟨_, hn⟩ | ⟨blk, cap, cur, hv, hb, hg, hnc, hcm, hcs, ht⟩
  · simp only at hn; omega
  simp only [Value.slice.injEq, true_and] at hv
  obtain ⟨rfl, rfl⟩ := hv
  simp only at ht hcs hg hnc
  haveI : Inhabited { p : α // p ∈ l } := ⟨⟨l[0], List.getElem_mem _⟩⟩
  obtain ⟨d, hd⟩ : ∃ d : Array { p : α // p ∈ l }, d = l.attach.toArray := ⟨_, rfl⟩
  have hds : d.size = l.length := by rw [hd]; simp
  have hdv : d.toList.map Subtype.val = l := by rw [hd]; exact List.attach_map_subtype_val l
  have hk2 : ∀ x : { p : α // p ∈ l }, (enc x.1).length = k := fun x => hk x.1
  have hfm : ∀ e : List { p : α // p ∈ l }, e.flatMap (fun x => enc x.1) = (e.map Subtype.val).flatMap enc := fun e => by rw [List.flatMap_map]
  have hlt : blk < w.heap.size := (Array.getElem?_eq_some_iff.1 hg).1
  have hH : HoldsK (fun x : { p : α // p ∈ l } => enc x.1) k w blk 0 d := by
    intro j hj
    have hj' : j < l.length * k := by
      have : j < (flatK (fun x : { p : α // p ∈ l } => enc x.1) k d).size := hj
      rw [size_flatK, hds] at this
      exact this
    have hf := flatK_list hk2 d
    rw [hfm, hdv] at hf
    have e : (l.flatMap enc)[j]? = some ((flatK (fun x : { p : α // p ∈ l } => enc x.1) k d)[j]!) := by
      rw [← hf, Array.getElem?_toList, Array.getElem?_eq_getElem hj, getElem!_pos _ j hj]
    refine ⟨?_, ?_⟩
    · rw [Nat.zero_add]
      exact hw.cellAt i hi rfl e
    · exact hw.openAt i (0 + j) hi rfl rfl
  have hcmp : CmpLays P g cb (fun x : { p : α // p ∈ l } => enc x.1) k (fun x y => cmp x.1 y.1) blk 0 d.size w := by
    intro m' os dk hdk x y
    have hW := (hw.putRow hi (flatK (fun x : { p : α // p ∈ l } => enc x.1) k dk) (by rw [size_flatK, hdk, hds]) m' os).2
    refine (hclo (sortWorldK (fun x : { p : α // p ∈ l } => enc x.1) k w blk 0 m' dk os) hW x.1 x.2 y.1 y.2 _ (Hp.refl _)).mono ?_
    rintro e w' ⟨v, R', rfl, hh, rfl⟩
    exact ⟨rfl, grown_eq hh.below hh.late.1⟩
  have hO' : SWO (ltOf fun (x y : { p : α // p ∈ l }) => cmp x.1 y.1) := ⟨fun x => hO.irrefl x.1, fun x y z => hO.trans x.1 y.1 z.1, fun x y z => hO.ntrans x.1 y.1 z.1⟩
  have hcall := hSF _ (fun x : { p : α // p ∈ l } => enc x.1) hk2 (fun x => h1 x.1) _ hO' blk 0 c d w hcmp hH hlt (by rw [hds]; exact hsz)
  rw [hds] at hcall
  refine hcall.mono ?_
  rintro e w' ⟨rfl, d', n, os, hperm, hsort, rfl⟩
  rw [← hds] at hperm
  have hd's : d'.size = l.length := by rw [hperm.1, hds]
  have hW := (hw.putRow hi (flatK (fun x : { p : α // p ∈ l } => enc x.1) k d') (by rw [size_flatK, hd's]) n os).1
  rw [flatK_list hk2, hfm] at hW
  have hp' : (d'.toList.map Subtype.val).Perm l := by
    have := (perm_of_permIn hperm).map Subtype.val
    rwa [hdv] at this
  refine ⟨_, _, rfl, hW, rfl, d'.toList.map Subtype.val, hp', ?_, ?_⟩
  · exact List.pairwise_map.2 (sortedIn_list hsort hd's)
  · rw [hp'.length_eq]
/-- slices.SortFunc over elements of one cell. -/
theorem sort_cell1 {α : Type} {f g : Nat} {cb : Array Value} {enc : α → Value} (hSF : SortsC P f g cb) (hS0 : SortsNone P f) (h1 : ∀ x, (enc x).oneCell' = true) {T c : Nat} {A : Option Addr} {l : List α} (i : Nat) (hi : R[i]? = some ⟨T, 1, A, l.length, c, l.map enc, false⟩) (hsz : l.length < 4611686018427387904) (cmp : α → α → Int) (hO : SWO (ltOf cmp))
    (hclo : ∀ W, Hp B w0 W (R.eraseIdx i) → ∀ x ∈ l, ∀ y ∈ l,
      Ct P g (#[enc x, enc y] ++ cb) W.heap.size W [] (fun v _ => v = .int .i64 (cmp x y))) :
    Ct P f #[.slice A l.length c, .func (.func g) #[] cb] B w0 R (fun v R' => v = .tuple #[] ∧ ∃ l' : List α, l'.Perm l ∧ l'.Pairwise (fun x y => ¬ cmp y x < 0) ∧ R' = R.set i ⟨T, 1, A, l'.length, c, l'.map enc, false⟩) := by
  intro w hw
  rcases l with _ | ⟨x0, l0⟩
  · refine (hS0 A c _ w).mono ?_
    rintro e w' ⟨rfl, rfl⟩
    obtain ⟨h1, h2⟩ := nil_row hw hi
    exact ⟨_, _, rfl, hw, rfl, [], .refl _, .nil, h1.symm⟩
  generalize hl : x0 :: l0 = l at *
  have hpos : 0 < l.length := by rw [← hl]; simp
  have hown := Row.lies_w (hw.own _ (List.mem_of_getElem? hi)) rfl
  rcases hown.2 with ⟨_, hn⟩ | ⟨blk, cap, cur, hv, hb, hg, hnc, hcm, hcs, ht⟩
  · simp only at hn; omega
  simp only [Value.slice.injEq, true_and] at hv
  obtain ⟨rfl, rfl⟩ := hv
  simp only at ht hcs hg hnc
  haveI : Inhabited { p : α // p ∈ l } := ⟨⟨l[0], List.getElem_mem _⟩⟩
  obtain ⟨d, hd⟩ : ∃ d : Array { p : α // p ∈ l }, d = l.attach.toArray := ⟨_, rfl⟩
  have hds : d.size = l.length := by rw [hd]; simp
  have hdv : d.toList.map Subtype.val = l := by rw [hd]; exact List.attach_map_subtype_val l
  have hlt : blk < w.heap.size := (Array.getElem?_eq_some_iff.1 hg).1
  have hput : ∀ (W : World) (dk : Array { p : α // p ∈ l }), putRow (fun x : { p : α // p ∈ l } => enc x.1) W blk 0 dk = putRow id W blk 0 (dk.map fun x => enc x.1) := by
    intro W dk
    unfold putRow
    congr 1
    funext cs
    unfold putCells
    apply Array.ext
    · simp
    · intro j h1 h2
      simp only [Array.getElem_mapIdx, Array.size_map, id, Nat.sub_zero, Nat.zero_add]
      split
      · rename_i hc
        rw [getElem!_pos dk j hc.2, getElem!_pos (dk.map fun x => enc x.1) j (by simpa using hc.2)]
        simp
      · rfl
  have hH : Holds (fun x : { p : α // p ∈ l } => enc x.1) w blk 0 d := by
    intro j hj
    have hj' : j < l.length := by rw [← hds]; exact hj
    have e : (l.map enc)[j]? = some (enc d[j]!.1) := by
      have e0 : (d.toList.map fun x => enc x.1) = l.map enc := by
        conv => rhs; rw [← hdv]
        rw [List.map_map]
        rfl
      rw [← e0, List.getElem?_map, Array.getElem?_toList, Array.getElem?_eq_getElem hj, getElem!_pos d j hj]
      rfl
    refine ⟨?_, ?_⟩
    · rw [Nat.zero_add]
      exact hw.cellAt i hi rfl e
    · exact hw.openAt i (0 + j) hi rfl rfl
  have hcmp : CmpLays1 P g cb (fun x : { p : α // p ∈ l } => enc x.1) (fun x y => cmp x.1 y.1) blk 0 d.size w := by
    intro m' os dk hdk x y
    have hW := (hw.putRow hi (dk.map fun x => enc x.1) (by simp [hdk, hds]) m' os).2
    rw [← hput] at hW
    refine (hclo (sortWorld (fun x : { p : α // p ∈ l } => enc x.1) w blk 0 m' dk os) hW x.1 x.2 y.1 y.2 _ (Hp.refl _)).mono ?_
    rintro e w' ⟨v, R', rfl, hh, rfl⟩
    exact ⟨rfl, grown_eq hh.below hh.late.1⟩
  have hO' : SWO (ltOf fun (x y : { p : α // p ∈ l }) => cmp x.1 y.1) := ⟨fun x => hO.irrefl x.1, fun x y z => hO.trans x.1 y.1 z.1, fun x y z => hO.ntrans x.1 y.1 z.1⟩
  have hcall := hSF _ (fun x : { p : α // p ∈ l } => enc x.1) (fun x => h1 x.1) _ hO' blk 0 c d w hcmp hH hlt (by rw [hds]; exact hsz)
  rw [hds] at hcall
  refine hcall.mono ?_
  rintro e w' ⟨rfl, d', n, os, hperm, hsort, rfl⟩
  rw [← hds] at hperm
  have hd's : d'.size = l.length := by rw [hperm.1, hds]
  have hW := (hw.putRow hi (d'.map fun x => enc x.1) (by simp [hd's]) n os).1
  rw [← hput] at hW
  have hp' : (d'.toList.map Subtype.val).Perm l := by
    have := (perm_of_permIn hperm).map Subtype.val
    rwa [hdv] at this
  have em : (d'.map fun x => enc x.1).toList = (d'.toList.map Subtype.val).map enc := by simp
  rw [em] at hW
  refine ⟨_, _, rfl, hW, rfl, d'.toList.map Subtype.val, hp', ?_, ?_⟩
  · exact List.pairwise_map.2 (sortedIn_list hsort hd's)
  · rw [hp'.length_eq]
end
end Go.Eng

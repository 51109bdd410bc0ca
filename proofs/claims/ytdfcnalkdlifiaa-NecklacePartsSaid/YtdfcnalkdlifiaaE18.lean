/-
  Engine: slices.SortFunc over pairs, by the kit's contract (where draws never fall). Own work.
-/
import Derived.Test.YtdfcnalkdlifiaaE12
namespace Go.Eng
open Go Go.RowKit Go.Proofs Go.Sort
/-- A world that has but grown. -/
theorem grown_eq {W w' : World} (hb : Below W.heap.size W w') (hd : W.drawn ≤ w'.drawn) : ∃ q os, w' = grow (W.drewN q) os := by
  refine ⟨w'.drawn - W.drawn, w'.heap.extract W.heap.size w'.heap.size, ?_⟩
  have hh : W.heap ++ w'.heap.extract W.heap.size w'.heap.size = w'.heap := by
    apply Array.ext_getElem?
    intro k
    rw [Array.getElem?_append]
    split
    · rename_i hk
      exact (hb.block k hk).symm
    · rename_i hk
      have := hb.size
      rw [Array.getElem?_extract]
      split
      · congr 1; omega
      · rename_i h2
        rw [Array.getElem?_eq_none (by omega)]
  obtain ⟨h1, h2, h3, h4, h5⟩ := w'
  obtain ⟨g1, g2, g3, g4, g5⟩ := W
  have b1 := hb.os
  have b2 := hb.tape
  have b3 := hb.output
  simp only at b1 b2 b3 hh hd
  subst b1; subst b2; subst b3
  simp only [grow, World.drewN, hh, World.mk.injEq, true_and, and_true]
  omega
section
variable {P : Program} {B : Nat} {w0 : World} {R : List Row}
/-- What the kit's contract of slices.SortFunc says, at elements of two cells. -/
def SortsK2 (P : Program) (f g : Nat) (cb : Array Value) : Prop :=
  ∀ (α : Type) [Inhabited α] (enc : α → List Value) (_ : ∀ x, (enc x).length = 2) (_ : ∀ x, ∀ v ∈ enc x, v.oneCell' = true) (cf : α → α → Int) (_ : SWO (ltOf cf)) (blk off cap : Nat) (d : Array α) (w : World)
    (_ : CmpLays P g cb enc 2 cf blk off d.size w) (_ : HoldsK enc 2 w blk off d) (_ : blk < w.heap.size) (_ : d.size < 4611686018427387904),
    Calls P f #[.slice (some ⟨blk, off, none⟩) d.size cap, .func (.func g) #[] cb] w fun e w' => e = .returned (.tuple #[]) ∧ ∃ d' n os, PermIn 0 d.size d d' ∧ SortedIn (ltOf cf) 0 d.size d' ∧ w' = sortWorldK enc 2 w blk off n d' os
/-- All rows but one, in a world that is as it was but for that one's block. -/
theorem Hp.but {w W : World} (h : Hp B w0 w R) {i : Nat} {r : Row} (hi : R[i]? = some r) (ho : W.os = w.os) (ht : W.tape = w.tape) (hu : W.output = w.output) (hd : w.drawn ≤ W.drawn) (hs : w.heap.size ≤ W.heap.size)
    (hk : ∀ k, k < w.heap.size → (∀ a, r.A = some a → a.block ≠ k) → W.heap[k]? = w.heap[k]?) : Hp B w0 W (R.eraseIdx i) := by
  have hr : r ∈ R := List.mem_of_getElem? hi
  refine ⟨⟨ho.trans h.below.os, ht.trans h.below.tape, hu.trans h.below.output, Nat.le_trans h.below.size hs, fun k hkB => ?_⟩, Nat.le_trans h.base hs, fun q hq => ?_, h.apart.sublist (List.eraseIdx_sublist _ _), h.late.trans ⟨hd, fun k o hk' hc => ?_⟩⟩
  · rw [hk k (Nat.lt_of_lt_of_le hkB h.base) (fun a ha => by have := (Row.lies_lt (h.own r hr) a ha).1; omega), h.below.block k hkB]
  · obtain ⟨j, hj⟩ := List.mem_iff_getElem?.1 hq
    obtain ⟨j', hj', hne⟩ : ∃ j', R[j']? = some q ∧ j' ≠ i := by
      rw [List.getElem?_eraseIdx] at hj
      split at hj
      · exact ⟨j, hj, by omega⟩
      · exact ⟨j + 1, hj, by omega⟩
    refine Row.lies_of_block (h.own q (List.mem_of_getElem? hj')) fun a ha => hk a.block (Row.lies_lt (h.own q (List.mem_of_getElem? hj')) a ha).2 fun a' ha' => ?_
    have hjl := (List.getElem?_eq_some_iff.1 hj').1
    have hjv := (List.getElem?_eq_some_iff.1 hj').2
    have hil := (List.getElem?_eq_some_iff.1 hi).1
    have hiv := (List.getElem?_eq_some_iff.1 hi).2
    rcases Nat.lt_or_gt_of_ne hne with hlt | hlt
    · have := List.pairwise_iff_getElem.1 h.apart j' i hjl hil hlt
      rw [hjv, hiv] at this
      exact fun e => this a a' ha ha' e.symm
    · have := List.pairwise_iff_getElem.1 h.apart i j' hil hjl hlt
      rw [hjv, hiv] at this
      exact this a' a ha' ha
  · rw [hk k (Array.getElem?_eq_some_iff.1 hk').1 fun a ha e => ?_]
    · exact hk'
    · subst e
      obtain ⟨cs, e', fr, hc2⟩ := Row.lies_cells (h.own r hr) ha
      rw [hc2] at hk'
      cases hk'
      cases hc
theorem sort_pairs {f g : Nat} {cb : Array Value} (hSF : SortsK2 P f g cb) {T m c : Nat} {A : Option Addr} {l : List (Int × Int)} (i : Nat) (hi : R[i]? = some ⟨T, 2, A, m, c, prs l, false⟩) (hne : l ≠ []) (hsz : l.length < 4611686018427387904) (cmp : Int × Int → Int × Int → Int) (hO : SWO (ltOf cmp))
    (hclo : ∀ W, Hp B w0 W (R.eraseIdx i) → ∀ x ∈ l, ∀ y ∈ l,
      Ct P g (#[.agg #[.int .i64 x.1, .int .i64 x.2], .agg #[.int .i64 y.1, .int .i64 y.2]] ++ cb) W.heap.size W [] (fun v _ => v = .int .i64 (cmp x y))) :
    Ct P f #[.slice A m c, .func (.func g) #[] cb] B w0 R (fun v R' => v = .tuple #[] ∧ ∃ l', l'.Perm l ∧ l'.Pairwise (fun x y => ¬ cmp y x < 0) ∧ R' = R.set i ⟨T, 2, A, m, c, prs l', false⟩) := by
  intro w hw
  have hown := Row.lies_w (hw.own _ (List.mem_of_getElem? hi)) rfl
  have hrd := Row.rd (hw.own _ (List.mem_of_getElem? hi))
  have hm : m = l.length := by
    have := hrd.len
    rw [prs_length] at this
    simp only at this
    omega
  have hpos : 0 < l.length := List.length_pos_iff.2 hne
  rcases hown.2 with ⟨_, hn⟩ | ⟨blk, cap, cur, hv, hb, hg, hnc, hcm, hcs, ht⟩
  · simp only at hn; omega
  simp only [Value.slice.injEq, true_and] at hv
  obtain ⟨rfl, rfl⟩ := hv
  simp only at ht hcs hg hnc
  haveI : Inhabited { p : Int × Int // p ∈ l } := ⟨⟨l[0], List.getElem_mem _⟩⟩
  let d : Array { p : Int × Int // p ∈ l } := l.attach.toArray
  have hds : d.size = l.length := by simp [d]
  have hdv : d.toList.map Subtype.val = l := List.attach_map_subtype_val l
  have hlt : blk < w.heap.size := (Array.getElem?_eq_some_iff.1 hg).1
  have hH : HoldsK encP 2 w blk 0 d := by
    intro j hj
    have hj' : j < l.length * 2 := by
      have : j < (flatK encP 2 d).size := hj
      rw [size_flatK, hds] at this
      exact this
    have hf := flatK_prs d
    rw [hdv] at hf
    have e : (prs l)[j]? = some ((flatK encP 2 d)[j]!) := by
      rw [← hf, Array.getElem?_toList, Array.getElem?_eq_getElem hj, getElem!_pos _ j hj]
    refine ⟨?_, ?_⟩
    · rw [Nat.zero_add]
      exact hw.cellAt i hi rfl e
    · exact hw.openAt i (0 + j) hi rfl rfl
  have hcmp : CmpLays P g cb (encP (l := l)) 2 (fun x y => cmp x.1 y.1) blk 0 d.size w := by
    intro m' os dk hdk x y
    have hW : w.heap.size ≤ (sortWorldK (encP (l := l)) 2 w blk 0 m' dk os).heap.size := by
      unfold sortWorldK
      rw [size_grow]
      unfold putRowK
      rw [Go.Sort.size_putRow]
      exact Nat.le_add_right _ _
    have hk : ∀ k, k < w.heap.size → (∀ a : Addr, some (⟨blk, 0, none⟩ : Addr) = some a → a.block ≠ k) → (sortWorldK (encP (l := l)) 2 w blk 0 m' dk os).heap[k]? = w.heap[k]? := by
      intro k hk hne
      have hbk : blk ≠ k := hne _ rfl
      unfold sortWorldK
      rw [heap_grow_old _ _ (by unfold putRowK; rw [Go.Sort.size_putRow]; exact hk)]
      simp [putRowK, putRow, mapBlock, Array.getElem?_modify, hbk, Sort.ahead]
    refine (hclo _ (hw.but (W := sortWorldK (encP (l := l)) 2 w blk 0 m' dk os) hi rfl rfl rfl (by show w.drawn ≤ w.drawn + m'; omega) hW hk) x.1 x.2 y.1 y.2 _ (Hp.refl _)).mono ?_
    rintro e w' ⟨v, R', rfl, hh, rfl⟩
    exact ⟨rfl, grown_eq hh.below hh.late.1⟩
  have hO' : SWO (ltOf fun (x y : { p : Int × Int // p ∈ l }) => cmp x.1 y.1) := ⟨fun x => hO.irrefl x.1, fun x y z => hO.trans x.1 y.1 z.1, fun x y z => hO.ntrans x.1 y.1 z.1⟩
  have hcall := hSF _ encP (fun _ => rfl) (fun x v hv => by simp [encP] at hv; rcases hv with rfl | rfl <;> rfl) _ hO' blk 0 c d w hcmp hH hlt (by rw [hds]; exact hsz)
  rw [hds, ← hm] at hcall
  refine hcall.mono ?_
  rintro e w' ⟨rfl, d', n, os, ⟨hs', _, hperm⟩, hsort, rfl⟩
  have hd's : d'.size = l.length := by rw [hs', hds]
  refine ⟨_, _, rfl, ?_, rfl, d'.toList.map Subtype.val, ?_, ?_, rfl⟩
  · have hheap : (sortWorldK encP 2 w blk 0 n d' os).heap[blk]? = some (.cells (putCells id 0 (flatK encP 2 d') cur) T (0, 0)) := by
      unfold sortWorldK
      rw [heap_grow_old _ _ (by unfold putRowK; rw [Go.Sort.size_putRow]; exact hlt)]
      simp [putRowK, putRow, mapBlock, Array.getElem?_modify, Sort.ahead, hg, onCells]
    refine hw.upd hi (row := some blk) ⟨rfl, rfl, rfl, ?_, fun k hk hne => ?_⟩ ?_ (fun k hk => ?_) ?_ (fun a' ha' => .inl ⟨a', ha', rfl⟩)
    · unfold sortWorldK
      rw [size_grow]
      unfold putRowK
      rw [Go.Sort.size_putRow]
      exact Nat.le_add_right _ _
    · have hbk : blk ≠ k := fun e => hne (by rw [e])
      unfold sortWorldK
      rw [heap_grow_old _ _ (by unfold putRowK; rw [Go.Sort.size_putRow]; exact hk)]
      simp [putRowK, putRow, mapBlock, Array.getElem?_modify, hbk, Sort.ahead]
    · show w.drawn ≤ w.drawn + n
      omega
    · obtain rfl := Option.some.inj hk
      exact ⟨_, rfl, rfl⟩
    · unfold Row.lies
      simp only
      refine ⟨by rw [prs_length, List.length_map, Array.length_toList, hd's, hm], .inr ⟨blk, c, _, rfl, hb, hheap, hnc, hcm, ?_, ?_⟩⟩
      · simp only [putCells, Array.size_mapIdx]
        exact hcs
      · have hf := flatK_prs d'
        rw [← hf]
        have hfs : (flatK encP 2 d').size = m * 2 := by rw [size_flatK, hd's, hm]
        apply List.ext_getElem?
        intro t
        rw [List.getElem?_take]
        split
        · rename_i htm
          have htc : t < cur.size := by
            have : m * 2 ≤ c * 2 := Nat.mul_le_mul_right _ hnc
            omega
          rw [Array.getElem?_toList, Array.getElem?_toList, Array.getElem?_eq_getElem (by simp [putCells]; exact htc), Array.getElem?_eq_getElem (by rw [hfs]; exact htm)]
          simp only [putCells, Array.getElem_mapIdx, id]
          rw [if_pos ⟨Nat.zero_le _, by rw [Nat.zero_add, hfs]; exact htm⟩, Nat.sub_zero, getElem!_pos _ t (by rw [hfs]; exact htm)]
        · rename_i htm
          rw [List.getElem?_eq_none (by rw [Array.length_toList, hfs]; omega)]
  · have e1 : (d'.extract 0 m).toList = d'.toList := by rw [show m = d'.size by omega]; simp
    have e2 : (d.extract 0 m).toList = d.toList := by rw [show m = d.size by omega]; simp
    rw [e1, e2] at hperm
    have := hperm.map Subtype.val
    rwa [hdv] at this
  · refine List.pairwise_map.2 (List.pairwise_iff_getElem.2 fun a b ha hb' hab => ?_)
    rw [Array.length_toList] at ha hb'
    have h1 := hsort a b (Nat.zero_le _) hab (by omega)
    rw [getElem!_pos d' a ha, getElem!_pos d' b hb'] at h1
    simp only [ltOf, decide_eq_false_iff_not] at h1
    simpa using h1
end
end Go.Eng

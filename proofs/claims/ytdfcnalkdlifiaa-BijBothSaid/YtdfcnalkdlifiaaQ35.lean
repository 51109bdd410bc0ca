/- Several texts of our own in one: Q32, Q33, Q34, Q35. -/
import Derived.Test.YtdfcnalkdlifiaaQ31
import Derived.Test.YtdfcnalkdlifiaaQ10
import Derived.Test.YtdfcnalkdlifiaaQ12
import Derived.Test.YtdfcnalkdlifiaaQ13
import Derived.Test.YtdfcnalkdlifiaaQ18
/-
  Plain laws: what the rings are. Own work.
-/
namespace Go.Pure
open Go Go.Eng
section
variable {p : List Int}
/-- So many steps on. -/
def pit (p : List Int) : Nat → Int → Int
  | 0, i => i
  | b + 1, i => rd p (pit p b i)
theorem pit_in (hp : p.Perm (iota p.length)) {i : Int} (i0 : 0 ≤ i) (hi : i < p.length) : ∀ b : Nat, 0 ≤ pit p b i ∧ pit p b i < p.length
  | 0 => ⟨i0, hi⟩
  | b + 1 => by
    have ih := pit_in hp i0 hi b
    exact mem_iota.1 (hp.subset (rd_mem (L := p) ih.1 ih.2))
theorem pit_add (p : List Int) (a : Nat) (i : Int) : ∀ b : Nat, pit p (a + b) i = pit p b (pit p a i)
  | 0 => rfl
  | b + 1 => by rw [← Nat.add_assoc, pit, pit_add p a i b, pit]
theorem p_inj (hp : p.Perm (iota p.length)) {x y : Int} (x0 : 0 ≤ x) (hx : x < p.length) (y0 : 0 ≤ y) (hy : y < p.length) (h : rd p x = rd p y) : x = y := rd_inj (hp.symm.nodup (iota_nodup _)) x0 hx y0 hy h
/-- A ring from i on. -/
structure Ring (p : List Int) (i : Int) (c : List Int) : Prop where
  pos : 0 < c.length
  at_ : ∀ b : Nat, b < c.length → rd c b = pit p b i
  close : pit p c.length i = i
  nodup : c.Nodup
  least : ∀ x ∈ c, i ≤ x
structure ClE (p : List Int) (E : List Bool) : Prop where
  len : E.length = p.length
  back : ∀ j : Int, 0 ≤ j → j < p.length → rdb E (rd p j) = true → rdb E j = true
theorem snoc_rd {l : List Int} {x : Int} {b : Nat} (h : b < (l ++ [x]).length) : rd (l ++ [x]) b = if b < l.length then rd l b else x := by
  split
  · rename_i g; rw [rd_append_l (by omega) (by omega)]
  · rename_i g
    have : b = l.length := by simp at h; omega
    subst this
    rw [rd_append_r (by omega), Int.sub_self]
    rfl
theorem walk_full (hp : p.Perm (iota p.length)) {E0 : List Bool} {i : Int} (hE0 : ClE p E0) (i0 : 0 ≤ i) (hi : i < p.length) (hun : rdb E0 i ≠ true) (hall : ∀ j : Int, 0 ≤ j → j < i → rdb E0 j = true) :
    ∀ (f : Nat) (E : List Bool) (acc : List Int), E.length = p.length → cntF E ≤ f → (∀ b : Nat, b < acc.length → rd acc b = pit p b i) → acc.Nodup → (∀ x ∈ acc, rdb E0 x ≠ true) → (∀ j : Int, 0 ≤ j → j < p.length → (rdb E j = true ↔ rdb E0 j = true ∨ j ∈ acc)) →
    Ring p i (acc ++ (walkC p f E (pit p acc.length i)).1) ∧ (∀ x ∈ acc ++ (walkC p f E (pit p acc.length i)).1, rdb E0 x ≠ true) ∧ ∀ j : Int, 0 ≤ j → j < p.length → (rdb (walkC p f E (pit p acc.length i)).2 j = true ↔ rdb E0 j = true ∨ j ∈ acc ++ (walkC p f E (pit p acc.length i)).1)
  | f, E, acc, hl, hf, hat, hnd, hfr, hset => by
    have hk := pit_in hp i0 hi acc.length
    have hmem : ∀ b : Nat, b < acc.length → pit p b i ∈ acc := fun b hb => by rw [← hat b hb]; exact rd_mem (by omega) (by omega)
    by_cases hseen : rdb E (pit p acc.length i) = true
    · rw [walkC_seen hseen]
      simp only [List.append_nil]
      have hne : 0 < acc.length := by
        rcases Nat.eq_zero_or_pos acc.length with z | z
        · exfalso
          have hz : acc = [] := List.eq_nil_of_length_eq_zero z
          subst hz
          rcases (hset i i0 hi).1 hseen with a | a
          · exact hun a
          · cases a
        · exact z
      have hclose : pit p acc.length i = i := by
        have hz := pit_in hp i0 hi (acc.length - 1)
        have hstep : pit p acc.length i = rd p (pit p (acc.length - 1) i) := by
          obtain ⟨m, hm⟩ : ∃ m, acc.length = m + 1 := ⟨acc.length - 1, by omega⟩
          rw [hm, pit]; rfl
        rcases (hset _ hk.1 hk.2).1 hseen with a | a
        · rw [hstep] at a
          exact absurd (hE0.back _ hz.1 hz.2 a) (hfr _ (hmem _ (by omega)))
        · obtain ⟨b, hb, e⟩ := List.mem_iff_getElem.1 a
          have e2 : pit p acc.length i = pit p b i := by rw [← hat b hb, rd_get hb]; exact e.symm
          rcases Nat.eq_zero_or_pos b with z | z
          · rw [e2, z]; rfl
          · exfalso
            have hb1 := pit_in hp i0 hi (b - 1)
            have hstep2 : pit p b i = rd p (pit p (b - 1) i) := by
              obtain ⟨m, rfl⟩ : ∃ m, b = m + 1 := ⟨b - 1, by omega⟩
              rw [pit]; rfl
            have := p_inj hp hz.1 hz.2 hb1.1 hb1.2 (by rw [← hstep, ← hstep2, e2])
            rw [← hat _ (by omega), ← hat _ (by omega)] at this
            have := rd_inj hnd (by omega) (by omega) (by omega) (by omega) this
            omega
      refine ⟨⟨hne, hat, hclose, hnd, fun x hx => ?_⟩, hfr, hset⟩
      obtain ⟨b, hb, rfl⟩ := List.mem_iff_getElem.1 hx
      have hr := pit_in hp i0 hi b
      rw [← hat b hb, rd_get hb] at hr
      rcases Int.lt_or_le acc[b] i with g | g
      · exact absurd (hall _ hr.1 g) (hfr _ hx)
      · exact g
    · have hpos := cntF_pos hk.1 (by omega) hseen
      have hup := cntF_upd hk.1 (by omega) hseen
      obtain ⟨g, rfl⟩ : ∃ g, f = g + 1 := ⟨f - 1, by omega⟩
      rw [walkC_go hk.1 (by omega) hf hseen]
      have hno : ¬ (rdb E0 (pit p acc.length i) = true ∨ pit p acc.length i ∈ acc) := fun h => hseen ((hset _ hk.1 hk.2).2 h)
      have hlen : (acc ++ [pit p acc.length i]).length = acc.length + 1 := by simp
      have ih := walk_full hp hE0 i0 hi hun hall g (updB E (pit p acc.length i) true) (acc ++ [pit p acc.length i]) (by rw [updB_len]; exact hl) (by omega) (fun b hb => by
        rw [snoc_rd hb]
        split
        · rename_i q; exact hat b q
        · rename_i q; rw [show b = acc.length by rw [hlen] at hb; omega]) (List.nodup_append.2 ⟨hnd, by simp, fun x hx y hy e => by obtain rfl := List.mem_singleton.1 hy; subst e; exact hno (.inr hx)⟩) (fun x hx => by
        rcases List.mem_append.1 hx with h | h
        · exact hfr x h
        · obtain rfl := List.mem_singleton.1 h
          exact fun e => hno (.inl e)) (fun j j0 hj => by
        rw [rdb_upd hk.1 (by omega) j0, List.mem_append, List.mem_singleton]
        split
        · rename_i e; exact ⟨fun _ => .inr (.inr e), fun _ => rfl⟩
        · rename_i e; rw [hset j j0 hj]; exact ⟨fun h => h.elim .inl fun h => .inr (.inl h), fun h => h.elim .inl fun h => h.elim .inr fun h => absurd h e⟩)
      rw [hlen, pit, List.append_assoc] at ih
      exact ih
/-- All about the rings so far. -/
structure CycI (p : List Int) (i : Nat) (E : List Bool) (ls : List (List Int)) : Prop where
  cl : ClE p E
  seen : ∀ j : Int, 0 ≤ j → j < p.length → (rdb E j = true ↔ j ∈ ls.flatten)
  nodup : ls.flatten.Nodup
  ring : ∀ c ∈ ls, ∃ i0 : Int, (0 ≤ i0 ∧ i0 < i) ∧ Ring p i0 c
  heads : ls.Pairwise fun c d => rd c 0 < rd d 0
theorem cycI (hp : p.Perm (iota p.length)) : ∀ i : Nat, i ≤ p.length → CycI p i (cycK p i).1 (cycK p i).2
  | 0, _ => ⟨⟨by simp [cycK], fun j j0 hj h => by rw [cycK, rdb_rep] at h; cases h⟩, fun j j0 hj => by rw [cycK, rdb_rep]; simp, by simp [cycK], fun c hc => (by cases hc), .nil⟩
  | i + 1, hi => by
    have ih := cycI hp i (by omega)
    have hseen := cycK_seen hp i (by omega)
    have hf := cycK_facts hp i (by omega)
    have hcnt : cntF (cycK p i).1 ≤ p.length := by have := hf.2.2; omega
    rw [cycK]
    by_cases hun : rdb (cycK p i).1 i = true
    · rw [walkC_seen hun]
      simp only [if_true]
      exact ⟨ih.cl, ih.seen, ih.nodup, fun c hc => by obtain ⟨i0, h, r⟩ := ih.ring c hc; exact ⟨i0, by omega, r⟩, ih.heads⟩
    · obtain ⟨w1, w2, w3⟩ := walk_full hp ih.cl (i := i) (by omega) (by omega) hun (fun j j0 hj => by have := hseen j.toNat (by omega); rwa [show ((j.toNat : Nat) : Int) = j by omega] at this) p.length (cycK p i).1 [] hf.1 hcnt (fun b hb => by simp at hb) .nil (fun x hx => by cases hx) (fun j j0 hj => by simp)
      simp only [List.nil_append, List.length_nil, pit] at w1 w2 w3
      have hwl := (walkC_facts hp p.length (cycK p i).1 i hf.1 (by omega) (by omega))
      generalize walkC p p.length (cycK p i).1 i = r at w1 w2 w3 hwl
      obtain ⟨c, E'⟩ := r
      simp only at w1 w2 w3 hwl ⊢
      rw [if_neg (fun e => by have := w1.pos; rw [e] at this; simp at this)]
      have h0 : rd c 0 = i := w1.at_ 0 w1.pos
      refine ⟨⟨hwl.1, fun j j0 hj h => ?_⟩, fun j j0 hj => ?_, ?_, fun d hd => ?_, ?_⟩
      · have hj' := mem_iota.1 (hp.subset (rd_mem (L := p) j0 hj))
        rcases (w3 _ hj'.1 hj'.2).1 h with a | a
        · exact (w3 j j0 hj).2 (.inl (ih.cl.back j j0 hj a))
        · refine (w3 j j0 hj).2 (.inr ?_)
          obtain ⟨b, hb, e⟩ := List.mem_iff_getElem.1 a
          have e2 : rd p j = pit p b i := by rw [← w1.at_ b hb, rd_get hb]; exact e.symm
          have key : ∀ m : Nat, m < c.length → rd p j = rd p (pit p m i) → j ∈ c := fun m hm e => by
            have hm' := pit_in hp (i := i) (by omega) (by omega) m
            have := p_inj hp j0 hj hm'.1 hm'.2 e
            rw [this, ← w1.at_ m hm]
            exact rd_mem (by omega) (by omega)
          rcases Nat.eq_zero_or_pos b with z | z
          · refine key (c.length - 1) (by have := w1.pos; omega) ?_
            have hc := w1.close
            obtain ⟨m, hm⟩ : ∃ m, c.length = m + 1 := ⟨c.length - 1, by have := w1.pos; omega⟩
            rw [hm, pit] at hc
            rw [e2, z, hm]
            exact hc.symm
          · obtain ⟨m, rfl⟩ : ∃ m, b = m + 1 := ⟨b - 1, by omega⟩
            exact key m (by omega) (by rw [e2, pit])
      · rw [w3 j j0 hj, List.flatten_append, List.mem_append, ih.seen j j0 hj]
        simp
      · rw [List.flatten_append]
        refine List.nodup_append.2 ⟨ih.nodup, by simpa using w1.nodup, fun x hx y hy e => ?_⟩
        subst e
        have hy : x ∈ c := by simpa using hy
        have hx' := hwl.2.1 x hy
        exact w2 x hy ((ih.seen x hx'.1 hx'.2).2 hx)
      · rcases List.mem_append.1 hd with h | h
        · obtain ⟨i0, h, r⟩ := ih.ring d h
          exact ⟨i0, by omega, r⟩
        · obtain rfl := List.mem_singleton.1 h
          exact ⟨i, by omega, w1⟩
      · refine List.pairwise_append.2 ⟨ih.heads, List.pairwise_singleton _ _, fun d hd e he => ?_⟩
        obtain rfl := List.mem_singleton.1 he
        obtain ⟨i0, h, r⟩ := ih.ring d hd
        rw [h0, show rd d 0 = i0 from r.at_ 0 r.pos]
        omega
theorem cycL_I (hp : p.Perm (iota p.length)) : CycI p p.length (cycK p p.length).1 (cycL p) := cycI hp p.length (Nat.le_refl _)
theorem cycL_perm (hp : p.Perm (iota p.length)) : (cycL p).flatten.Perm (iota p.length) := perm_all (cycL_I hp).nodup (fun x hx => by
  obtain ⟨c, hc, hx⟩ := List.mem_flatten.1 hx
  exact mem_iota.2 (cycL_in hp c hc x hx)) (by rw [iota_len, cycL_all hp]; exact Nat.le_refl _)
end
end Go.Pure
/-
  Plain laws: rows as words without end; ring words are less than all their endings, and do not increase. Own work.
-/
namespace Go.Pure
open Go Go.Eng
section
variable {l : List Int}
/-- The row that leads here. -/
def phi (l : List Int) (q : Int) : Int := rd (passK (iota l.length) l 256) q
theorem phi_in (hl : ByteL l) {q : Int} (q0 : 0 ≤ q) (hq : q < l.length) : 0 ≤ phi l q ∧ phi l q < l.length := by
  have h := lf_order (l := l) hl
  have hlen := h.1.length_eq
  rw [iota_len] at hlen
  exact mem_iota.1 (h.1.subset (rd_mem q0 (by omega)))
theorem lf_phi (hl : ByteL l) {q : Int} (q0 : 0 ≤ q) (hq : q < l.length) : lfC l (phi l q) = q := lf_at (l := l) hl q0 hq
theorem phi_lf (hl : ByteL l) {i : Int} (i0 : 0 ≤ i) (hi : i < l.length) : phi l (lfC l i) = i := by
  obtain ⟨q, q0, q1, e, f⟩ := lf_ix (l := l) hl i0 hi
  rw [f]; exact e
theorem phi_tl (hl : ByteL l) {i k : Int} (i0 : 0 ≤ i) (h : i < k) (hk : k < l.length) : tl l (phi l i) (phi l k) := by
  have hlen := (lf_order (l := l) hl).1.length_eq
  rw [iota_len] at hlen
  exact pairwise_rd (lf_order (l := l) hl).2 i0 h (by omega)
/-- The word without end of a row. -/
def uw (l : List Int) : Nat → Int → Int
  | 0, i => rd l (phi l i)
  | d + 1, i => uw l d (phi l i)
def U (l : List Int) (i : Int) (d : Nat) : Int := uw l d i
theorem U_zero (i : Int) : U l i 0 = rd l (phi l i) := by unfold U; rw [uw]
theorem U_succ (i : Int) (d : Nat) : U l i (d + 1) = U l (phi l i) d := by unfold U; rw [uw]
theorem U_lf (hl : ByteL l) {i : Int} (i0 : 0 ≤ i) (hi : i < l.length) : U l (lfC l i) 0 = rd l i ∧ ∀ d, U l (lfC l i) (d + 1) = U l i d := by
  rw [U_zero, phi_lf hl i0 hi]
  exact ⟨rfl, fun d => by rw [U_succ, phi_lf hl i0 hi]⟩
/-- The rows are in order, more or less. -/
theorem U_mono (hl : ByteL l) : ∀ (d : Nat) (i k : Int), 0 ≤ i → i < k → k < l.length → (∀ e, e < d → U l i e = U l k e) → U l i d ≤ U l k d
  | 0, i, k, i0, h, hk, _ => by
    have := phi_tl hl i0 h hk
    rw [U_zero, U_zero]
    unfold tl at this
    omega
  | d + 1, i, k, i0, h, hk, he => by
    have h0 := he 0 (by omega)
    rw [U_zero, U_zero] at h0
    have ht := phi_tl hl i0 h hk
    unfold tl at ht
    have hi' := phi_in hl (q := i) i0 (by omega)
    have hk' := phi_in hl (q := k) (by omega) hk
    rw [U_succ, U_succ]
    refine U_mono hl d _ _ hi'.1 (by omega) hk'.2 fun e he' => ?_
    have := he (e + 1) (by omega)
    rwa [U_succ, U_succ] at this
theorem U_le (hl : ByteL l) {i k : Int} (i0 : 0 ≤ i) (h : i ≤ k) (hk : k < l.length) : ¬ Lt (U l k) (U l i) := by
  rintro ⟨d, h1, h2⟩
  rcases Int.lt_or_le i k with a | a
  · have := U_mono hl d i k i0 a hk fun e he => (h1 e he).symm
    omega
  · obtain rfl : i = k := by omega
    omega
/-- Rows of one word keep their order on the way back. -/
theorem phi_mono (hl : ByteL l) {i k : Int} (i0 : 0 ≤ i) (h : i < k) (hk : k < l.length) (he : ∀ d, U l i d = U l k d) : phi l i < phi l k ∧ ∀ d, U l (phi l i) d = U l (phi l k) d := by
  have ht := phi_tl hl i0 h hk
  have h0 := he 0
  rw [U_zero, U_zero] at h0
  unfold tl at ht
  refine ⟨by omega, fun d => ?_⟩
  have := he (d + 1)
  rwa [U_succ, U_succ] at this
/-- So many rows back. -/
def phit (l : List Int) : Nat → Int → Int
  | 0, i => i
  | b + 1, i => phit l b (phi l i)
theorem phit_in (hl : ByteL l) : ∀ (b : Nat) {i : Int}, 0 ≤ i → i < l.length → 0 ≤ phit l b i ∧ phit l b i < l.length
  | 0, i, i0, hi => ⟨i0, hi⟩
  | b + 1, i, i0, hi => by
    have h := phi_in hl i0 hi
    exact phit_in hl b h.1 h.2
theorem phit_mono (hl : ByteL l) : ∀ (b : Nat) {i k : Int}, 0 ≤ i → i < k → k < l.length → (∀ d, U l i d = U l k d) → phit l b i < phit l b k ∧ ∀ d, U l (phit l b i) d = U l (phit l b k) d
  | 0, i, k, _, h, _, he => ⟨h, he⟩
  | b + 1, i, k, i0, h, hk, he => by
    have h1 := phi_mono hl i0 h hk he
    have hi' := phi_in hl (q := i) i0 (by omega)
    have hk' := phi_in hl (q := k) (by omega) hk
    exact phit_mono hl b hi'.1 h1.1 hk'.2 h1.2
theorem U_phit (i : Int) : ∀ (b d : Nat), U l (phit l b i) d = U l i (b + d)
  | 0, d => by rw [Nat.zero_add]; rfl
  | b + 1, d => by
    rw [phit, U_phit (phi l i) b d, ← U_succ, show b + d + 1 = b + 1 + d by omega]
theorem phit_add (i : Int) : ∀ (a b : Nat), phit l (a + b) i = phit l b (phit l a i)
  | 0, b => by rw [Nat.zero_add]; rfl
  | a + 1, b => by rw [show a + 1 + b = (a + b) + 1 by omega, phit, phit_add (phi l i) a b]; rfl
theorem iter_up (hl : ByteL l) {i : Int} (i0 : 0 ≤ i) (hi : i < l.length) {b : Nat} (h : i < phit l b i) (he : ∀ d, U l i d = U l (phit l b i) d) : ∀ t : Nat, i + t ≤ phit l (t * b) i
  | 0 => by rw [Nat.zero_mul]; show i + 0 ≤ i; omega
  | t + 1 => by
    have ih := iter_up hl i0 hi h he t
    have hk := phit_in hl b i0 hi
    have h1 := (phit_mono hl (t * b) i0 h hk.2 he).1
    rw [← phit_add i b (t * b), show b + t * b = (t + 1) * b by rw [Nat.succ_mul]; omega] at h1
    omega
theorem iter_dn (hl : ByteL l) {i : Int} (i0 : 0 ≤ i) (hi : i < l.length) {b : Nat} (h : phit l b i < i) (he : ∀ d, U l i d = U l (phit l b i) d) : ∀ t : Nat, phit l (t * b) i + t ≤ i
  | 0 => by rw [Nat.zero_mul]; show i + 0 ≤ i; omega
  | t + 1 => by
    have ih := iter_dn hl i0 hi h he t
    have hk := phit_in hl b i0 hi
    have h1 := (phit_mono hl (t * b) hk.1 h hi fun d => (he d).symm).1
    rw [← phit_add i b (t * b), show b + t * b = (t + 1) * b by rw [Nat.succ_mul]; omega] at h1
    omega
/-- No row of a ring says the same as another one of it. -/
theorem row_once (hl : ByteL l) {i : Int} (i0 : 0 ≤ i) (hi : i < l.length) {b : Nat} (hne : phit l b i ≠ i) : ¬ ∀ d, U l i d = U l (phit l b i) d := fun he => by
  rcases Int.lt_or_le i (phit l b i) with h | h
  · have := iter_up hl i0 hi h he (l.length + 1)
    have := phit_in hl ((l.length + 1) * b) i0 hi
    omega
  · have := iter_dn hl i0 hi (by omega) he (l.length + 1)
    have := phit_in hl ((l.length + 1) * b) i0 hi
    omega
/-! ring words -/
theorem fs_perm (hl : ByteL l) : (((iota l.length).map (lfC l))).Perm (iota ((iota l.length).map (lfC l)).length) := by
  rw [List.length_map, iota_len]
  exact bij_perm (fun x h0 h1 => lf_bd (l := l) hl h0 h1) fun x y x0 x1 y0 y1 e => lf_inj (l := l) hl x0 x1 y0 y1 e
def lfL (l : List Int) : List Int := (iota l.length).map (lfC l)
theorem lfL_len (l : List Int) : (lfL l).length = l.length := by unfold lfL; rw [List.length_map, iota_len]
theorem rd_lfL {i : Int} (i0 : 0 ≤ i) (hi : i < l.length) : rd (lfL l) i = lfC l i := by
  unfold lfL
  rw [rd_map i0 (by rw [iota_len]; exact hi), rd_iota i0 hi]
theorem lfL_perm (hl : ByteL l) : (lfL l).Perm (iota (lfL l).length) := fs_perm hl
theorem phit_pit (hl : ByteL l) {i : Int} (i0 : 0 ≤ i) (hi : i < l.length) : ∀ b : Nat, phit l b (pit (lfL l) b i) = i
  | 0 => rfl
  | b + 1 => by
    have h := pit_in (lfL_perm hl) i0 (by rw [lfL_len]; exact hi) b
    rw [lfL_len] at h
    rw [phit, pit, rd_lfL h.1 h.2, phi_lf hl h.1 h.2]
    exact phit_pit hl i0 hi b
section
variable {i : Int} {c : List Int} (hl : ByteL l) (i0 : 0 ≤ i) (hi : i < l.length) (hc : Ring (lfL l) i c)
include hl i0 hi hc
/-- Back in a ring: as its rows stand, from the end. -/
theorem ring_back {b : Nat} (hb : b ≤ c.length) : phit l b i = pit (lfL l) (c.length - b) i := by
  have h := phit_pit hl (pit_in (lfL_perm hl) i0 (by rw [lfL_len]; exact hi) (c.length - b)).1 (by have := (pit_in (lfL_perm hl) i0 (by rw [lfL_len]; exact hi) (c.length - b)).2; rw [lfL_len] at this; exact this) b
  rw [← pit_add, show c.length - b + b = c.length by omega, hc.close] at h
  exact h
theorem ring_round : phit l c.length i = i := by
  rw [ring_back hl i0 hi hc (Nat.le_refl _), Nat.sub_self]; rfl
theorem ring_per : Per (U l i) c.length := fun d => by
  rw [Nat.add_comm, ← U_phit, ring_round hl i0 hi hc]
theorem wordC_at {d : Nat} (hd : d < c.length) : rd (wordC l c) d = U l i d := by
  have h1 : rd (wordC l c) d = rd l (rd c ((c.length - 1 - d : Nat) : Int)) := by
    unfold wordC
    rw [rd_map (by omega) (by rw [List.length_reverse]; omega)]
    congr 1
    rw [rd_get (by rw [List.length_reverse]; exact hd), List.getElem_reverse, rd_get (by omega)]
  have h2 : U l i d = rd l (phit l (d + 1) i) := by
    have := U_phit (l := l) i d 0
    rw [Nat.add_zero, U_zero] at this
    rw [← this, phit_add i d 1]; rfl
  rw [h1, h2, hc.at_ _ (by omega), ring_back hl i0 hi hc (by omega), show c.length - (d + 1) = c.length - 1 - d by omega]
theorem wordC_om : om (wordC l c) = U l i := by
  funext d
  have hp := hc.pos
  have h1 : om (wordC l c) d = rd (wordC l c) ((d % c.length : Nat) : Int) := by
    unfold om rd
    rw [wordC_len, Int.toNat_natCast]
  rw [h1, wordC_at hl i0 hi hc (Nat.mod_lt _ hp)]
  exact (ring_per hl i0 hi hc).mod d
theorem ring_other {r : Nat} (r0 : 0 < r) (hr : r < c.length) : i < phit l r i := by
  rw [ring_back hl i0 hi hc (by omega)]
  have h1 := hc.least _ (rd_mem (L := c) (k := ((c.length - r : Nat) : Int)) (by omega) (by omega))
  rw [hc.at_ _ (by omega)] at h1
  rcases Int.lt_or_le i (pit (lfL l) (c.length - r) i) with g | g
  · exact g
  · exfalso
    have e : rd c ((c.length - r : Nat) : Int) = rd c ((0 : Nat) : Int) := by
      rw [hc.at_ _ (by omega), hc.at_ 0 hc.pos]
      show _ = i
      omega
    have := rd_inj hc.nodup (by omega) (by omega) (by omega) (by have := hc.pos; omega) e
    omega
/-- A ring's word is less than all its endings. -/
theorem ring_lyn : LynB (wordC l c) = true := by
  rw [LynB_iff, wordC_len]
  refine ⟨hc.pos, fun r r0 hr => ?_⟩
  have hot := ring_other hl i0 hi hc r0 hr
  have hin := phit_in hl r i0 hi
  have hnl := U_le hl i0 (Int.le_of_lt hot) hin.2
  have hne := row_once hl i0 hi (b := r) (by omega)
  have hlt : Lt (U l i) (U l (phit l r i)) := by
    rcases lt_tri (U l i) (U l (phit l r i)) with a | a | a
    · exact a
    · exact absurd a hne
    · exact absurd a hnl
  obtain ⟨d, h1, h2⟩ := hlt
  have hsh : ∀ e, U l (phit l r i) e = U l i (r + e) := fun e => U_phit i r e
  rw [hsh] at h2
  have hdm : d < c.length - r := by
    rcases Nat.lt_or_ge d (c.length - r) with g | g
    · exact g
    · exfalso
      have hper := ring_per hl i0 hi hc
      have hot2 := ring_other hl i0 hi hc (r := c.length - r) (by omega) (by omega)
      have hin2 := phit_in hl (c.length - r) i0 hi
      refine U_le hl i0 (Int.le_of_lt hot2) hin2.2 ⟨d - (c.length - r), fun e he => ?_, ?_⟩
      · rw [U_phit]
        have := h1 (c.length - r + e) (by omega)
        rw [this, hsh, show r + (c.length - r + e) = e + c.length by omega, hper]
      · rw [U_phit, show c.length - r + (d - (c.length - r)) = d by omega]
        rw [show r + d = (d - (c.length - r)) + c.length by omega, hper] at h2
        exact h2
  rw [cmpL_neg_iff _ _ (by rw [List.length_drop, wordC_len]; omega), List.length_drop, wordC_len]
  have hlt : ∀ e, e < c.length → lt (wordC l c) e = U l i e := fun e he => by
    rw [← wordC_at hl i0 hi hc he]
    unfold lt rd
    rw [Int.toNat_natCast]
  refine ⟨d, hdm, fun e he => ?_, ?_⟩
  · rw [lt_drop, hlt e (by omega), hlt (r + e) (by omega), h1 e he, hsh]
  · rw [lt_drop, hlt d (by omega), hlt (r + d) (by omega)]
    exact h2
end
end
end Go.Pure
/-
  Plain laws: words that are less than all their endings, not increasing, are the factors of their text. Own work.
-/
namespace Go.Pure
open Go Go.Eng
theorem om_at {w : List Int} {e : Nat} (h : e < w.length) : om w e = lt w e := om_lt h
theorem LynB_at {v : List Int} (h : LynB v = true) {r : Nat} (r0 : 0 < r) (hr : r < v.length) : ∃ d, d < v.length - r ∧ (∀ e, e < d → lt v e = lt v (r + e)) ∧ lt v d < lt v (r + d) := by
  have := ((LynB_iff v).1 h).2 r r0 hr
  rw [cmpL_neg_iff _ _ (by rw [List.length_drop]; omega), List.length_drop] at this
  obtain ⟨d, h1, h2, h3⟩ := this
  refine ⟨d, h1, fun e he => ?_, ?_⟩
  · rw [h2 e he, lt_drop]
  · rwa [lt_drop] at h3
/-- A word that goes on beyond a beginning of it that is such a word is greater without end. -/
theorem longer {w v : List Int} (hw : 0 < w.length) (hv : LynB v = true) (hlen : w.length < v.length) (hpre : ∀ e, e < w.length → lt v e = lt w e) : Lt (om w) (om v) := by
  obtain ⟨d, h1, h2, h3⟩ := LynB_at hv hw hlen
  have hper := om_per w
  have agr : ∀ e, e < w.length + d → lt v e = om w e := by
    intro e
    induction e using Nat.strongRecOn with
    | ind e ih =>
      intro he
      rcases Nat.lt_or_ge e w.length with g | g
      · rw [hpre e g, om_at g]
      · have e1 := h2 (e - w.length) (by omega)
        rw [show w.length + (e - w.length) = e by omega] at e1
        have e2 := hper (e - w.length)
        rw [show e - w.length + w.length = e by omega] at e2
        rw [← e1, e2]
        exact ih (e - w.length) (by omega) (by omega)
  refine ⟨w.length + d, fun f hf => ?_, ?_⟩
  · rw [om_at (w := v) (by omega), agr f hf]
  · rw [om_at (w := v) (by omega)]
    have e1 := hper d
    rw [Nat.add_comm d w.length] at e1
    rw [e1, ← agr d (by omega)]
    exact h3
theorem in_word : ∀ (ws : List (List Int)) (m : Nat), 0 < m → m ≤ ws.flatten.length → ∃ v ∈ ws, ∃ r, r < m ∧ m ≤ r + v.length ∧ ∀ e, e < v.length → lt ws.flatten (r + e) = lt v e
  | [], m, h0, h => by simp at h; omega
  | w :: ws, m, h0, h => by
    rw [List.flatten_cons, List.length_append] at h
    rcases Nat.lt_or_ge w.length m with g | g
    · obtain ⟨v, hv, r, h1, h2, h3⟩ := in_word ws (m - w.length) (by omega) (by omega)
      refine ⟨v, List.mem_cons_of_mem _ hv, w.length + r, by omega, by omega, fun e he => ?_⟩
      rw [List.flatten_cons, ← h3 e he]
      unfold lt
      rw [List.getD_eq_getElem?_getD, List.getD_eq_getElem?_getD, List.getElem?_append_right (by omega), show w.length + r + e - w.length = r + e by omega]
    · refine ⟨w, by simp, 0, h0, by omega, fun e he => ?_⟩
      rw [List.flatten_cons, Nat.zero_add]
      unfold lt
      rw [List.getD_eq_getElem?_getD, List.getD_eq_getElem?_getD, List.getElem?_append_left he]
theorem fac_first {w : List Int} {ws : List (List Int)} (hw : LynB w = true) (hws : ∀ v ∈ ws, LynB v = true) (hle : ∀ v ∈ ws, ¬ Lt (om w) (om v)) : lynLen (w ++ ws.flatten) (w ++ ws.flatten).length = w.length := by
  have hpos := ((LynB_iff w).1 hw).1
  refine lynLen_eq (by rw [List.take_left']; exact hw; rfl) _ (by simp) fun m h1 h2 => ?_
  cases hb : LynB ((w ++ ws.flatten).take m) with
  | false => rfl
  | true =>
    exfalso
    rw [List.length_append] at h2
    obtain ⟨v, hv, r, r1, r2, r3⟩ := in_word ws (m - w.length) (by omega) (by omega)
    have hml : ((w ++ ws.flatten).take m).length = m := by rw [List.length_take, List.length_append]; omega
    obtain ⟨d, d1, d2, d3⟩ := LynB_at hb (r := w.length + r) (by omega) (by omega)
    rw [hml] at d1
    have hs : ∀ e, e < m → lt ((w ++ ws.flatten).take m) e = lt (w ++ ws.flatten) e := fun e he => lt_take he
    have hsw : ∀ e, e < w.length → lt (w ++ ws.flatten) e = lt w e := fun e he => by
      unfold lt
      rw [List.getD_eq_getElem?_getD, List.getD_eq_getElem?_getD, List.getElem?_append_left he]
    have hsv : ∀ e, e < v.length → lt (w ++ ws.flatten) (w.length + r + e) = lt v e := fun e he => by
      rw [← r3 e he]
      unfold lt
      rw [List.getD_eq_getElem?_getD, List.getD_eq_getElem?_getD, List.getElem?_append_right (by omega), show w.length + r + e - w.length = r + e by omega]
    have hlv := hws v hv
    have q2 : ∀ e, e < d → lt (w ++ ws.flatten) e = lt v e := fun e he => by
      have := d2 e he
      rwa [hs _ (by omega), hs _ (by omega), hsv e (by omega)] at this
    have q3 : lt (w ++ ws.flatten) d < lt v d := by rwa [hs _ (by omega), hs _ (by omega), hsv d (by omega)] at d3
    rcases Nat.lt_or_ge d w.length with g | g
    · refine hle v hv ⟨d, fun e he => ?_, ?_⟩
      · rw [om_at (w := w) (by omega), om_at (w := v) (by omega), ← q2 e he, hsw e (by omega)]
      · rw [om_at (w := w) g, om_at (w := v) (by omega), ← hsw d g]
        exact q3
    · exact hle v hv (longer hpos hlv (by omega) fun e he => by rw [← q2 e (by omega), hsw e he])
theorem fac_all : ∀ {ws : List (List Int)}, (∀ v ∈ ws, LynB v = true) → ws.Pairwise (fun a b => ¬ Lt (om a) (om b)) → facL ws.flatten = ws.map fun w => (w.length : Int)
  | [], _, _ => facL_nil rfl
  | w :: ws, hl, hp => by
    obtain ⟨h1, h2⟩ := List.pairwise_cons.1 hp
    have hw := hl w (by simp)
    have hpos := ((LynB_iff w).1 hw).1
    have hf := fac_first hw (fun v hv => hl v (List.mem_cons_of_mem _ hv)) h1
    rw [List.flatten_cons, facL_cons (by rw [List.length_append]; omega), hf, List.drop_left', List.map_cons, fac_all (fun v hv => hl v (List.mem_cons_of_mem _ hv)) h2]
    rfl
theorem ps_map_len (ws : List (List Int)) (k : Nat) : ps (ws.map fun w => (w.length : Int)) k = ((ws.take k).flatten.length : Int) := by
  unfold ps
  rw [Int.toNat_natCast, ← List.map_take]
  induction ws.take k with
  | nil => rfl
  | cons w l ih => rw [List.map_cons, List.sum_cons, ih, List.flatten_cons, List.length_append]; omega
theorem cut_words (ws : List (List Int)) : wordsK ws.flatten (ws.map fun w => (w.length : Int)) ws.length = ws := by
  refine List.ext_getElem (by rw [wordsK_len]; omega) fun k h1 h2 => ?_
  simp only [wordsK, List.getElem_map, List.getElem_range]
  rw [ps_map_len, Int.toNat_natCast, rd_get (by rw [List.length_map]; exact h2), List.getElem_map, Int.toNat_natCast]
  have e : ws.flatten = (ws.take k).flatten ++ (ws[k] ++ (ws.drop (k + 1)).flatten) := by
    conv => lhs; rw [← List.take_append_drop k ws, List.drop_eq_getElem_cons h2]
    rw [List.flatten_append, List.flatten_cons]
  rw [e, List.drop_left' rfl, List.take_left' rfl]
/-- Its factors are these words. -/
theorem bws_words {ws : List (List Int)} (hl : ∀ v ∈ ws, LynB v = true) (hp : ws.Pairwise (fun a b => ¬ Lt (om a) (om b))) : bws ws.flatten = ws := by
  unfold bws
  rw [fac_all hl hp, List.length_map]
  exact cut_words ws
end Go.Pure
/-
  Plain laws: turned without a mark, and back; back, and turned. Own work.
-/
namespace Go.Pure
open Go Go.Eng
section
variable {l : List Int}
def ringW (l : List Int) : List (List Int) := ((cycL (lfL l)).reverse).map (wordC l)
theorem backL_ring (l : List Int) : backL l (cycL (lfL l)) = (ringW l).flatten := rfl
theorem ring_of (hl : ByteL l) {c : List Int} (hc : c ∈ cycL (lfL l)) : ∃ i : Int, (0 ≤ i ∧ i < l.length) ∧ Ring (lfL l) i c ∧ rd c 0 = i := by
  obtain ⟨i, h, r⟩ := (cycL_I (lfL_perm hl)).ring c hc
  rw [lfL_len] at h
  exact ⟨i, h, r, r.at_ 0 r.pos⟩
theorem ringW_lyn (hl : ByteL l) : ∀ v ∈ ringW l, LynB v = true := fun v hv => by
  obtain ⟨c, hc, rfl⟩ := List.mem_map.1 hv
  obtain ⟨i, h, r, _⟩ := ring_of hl (List.mem_reverse.1 hc)
  exact ring_lyn hl h.1 h.2 r
theorem ringW_down (hl : ByteL l) : (ringW l).Pairwise (fun a b => ¬ Lt (om a) (om b)) := by
  unfold ringW
  rw [List.map_reverse]
  refine List.pairwise_reverse.2 (List.pairwise_map.2 ?_)
  refine List.Pairwise.imp_of_mem (fun {c d} hc hd h => ?_) (cycL_I (lfL_perm hl)).heads
  obtain ⟨i, hi, r, e⟩ := ring_of hl hc
  obtain ⟨k, hk, q, f⟩ := ring_of hl hd
  rw [wordC_om hl hi.1 hi.2 r, wordC_om hl hk.1 hk.2 q]
  exact U_le hl hi.1 (by omega) hk.2
/-- The factors of what is read back are the rings' words. -/
theorem bws_back (hl : ByteL l) : bws (backL l (cycL (lfL l))) = ringW l := by
  rw [backL_ring]
  exact bws_words (ringW_lyn hl) (ringW_down hl)
theorem tw_om {ws : List (List Int)} {w : Int} {j : Nat} : tw ws (w, (j : Int)) = fun d => om (rdl ws w) (j + d) := by
  funext d
  unfold tw om
  simp only [Int.toNat_natCast]
/-- The rows of a ring, from its first one back. -/
theorem ring_perm (hl : ByteL l) {i : Int} {c : List Int} (i0 : 0 ≤ i) (hi : i < l.length) (hc : Ring (lfL l) i c) : ((List.range c.length).map fun j => phit l j i).Perm c := by
  have hpos := hc.pos
  have hback : ∀ j, j < c.length → phit l j i = rd c (((c.length - j) % c.length : Nat) : Int) := fun j hj => by
    rw [ring_back hl i0 hi hc (by omega)]
    rcases Nat.eq_zero_or_pos j with z | z
    · subst z
      rw [Nat.sub_zero, hc.close, Nat.mod_self, hc.at_ 0 hpos]
      rfl
    · rw [Nat.mod_eq_of_lt (by omega), hc.at_ _ (by omega)]
  refine perm_all ?_ (fun x hx => ?_) (by simp)
  · refine List.pairwise_map.2 (List.Pairwise.imp_of_mem (fun {a b} ha hb hab e => ?_) List.nodup_range)
    have ha := List.mem_range.1 ha
    have hb := List.mem_range.1 hb
    rw [hback a ha, hback b hb] at e
    have h1 := Nat.mod_lt (c.length - a) hpos
    have h2 := Nat.mod_lt (c.length - b) hpos
    have := rd_inj hc.nodup (by omega) (by omega) (by omega) (by omega) e
    have e3 : (c.length - a) % c.length = (c.length - b) % c.length := by omega
    refine hab ?_
    rcases Nat.eq_zero_or_pos a with z | z
    · rcases Nat.eq_zero_or_pos b with y | y
      · omega
      · rw [z, Nat.sub_zero, Nat.mod_self, Nat.mod_eq_of_lt (by omega)] at e3; omega
    · rcases Nat.eq_zero_or_pos b with y | y
      · rw [y, Nat.sub_zero, Nat.mod_self, Nat.mod_eq_of_lt (by omega)] at e3; omega
      · rw [Nat.mod_eq_of_lt (by omega), Nat.mod_eq_of_lt (by omega)] at e3; omega
  · obtain ⟨j, hj, rfl⟩ := List.mem_map.1 hx
    have hj := List.mem_range.1 hj
    have h1 := Nat.mod_lt (c.length - j) hpos
    rw [hback j hj]
    exact rd_mem (by omega) (by omega)
/-- All rotations of the rings' words are the rows. -/
theorem turns_rows (hl : ByteL l) : ∀ k : Nat, k ≤ (cycL (lfL l)).length → ((tlist (ringW l) k).map (tw (ringW l))).Perm (((((cycL (lfL l)).reverse).take k).flatten).map (U l))
  | 0, _ => .refl _
  | k + 1, hk => by
    have ih := turns_rows hl k (by omega)
    have hlt : k < (cycL (lfL l)).reverse.length := by rw [List.length_reverse]; omega
    rw [tlist, List.map_append, List.take_add_one, List.getElem?_eq_getElem hlt, List.flatten_append, List.map_append]
    refine ih.append ?_
    simp only [Option.toList_some, List.flatten_cons, List.flatten_nil, List.append_nil]
    have hmem : (cycL (lfL l)).reverse[k] ∈ cycL (lfL l) := List.mem_reverse.1 (List.getElem_mem hlt)
    have hrw : rdl (ringW l) (k : Int) = wordC l (cycL (lfL l)).reverse[k] := by
      unfold rdl ringW
      rw [Int.toNat_natCast, List.getD_eq_getElem?_getD, List.getElem?_map, List.getElem?_eq_getElem hlt]
      rfl
    generalize (cycL (lfL l)).reverse[k] = c at hmem hrw
    obtain ⟨i, hi, r, _⟩ := ring_of hl hmem
    have h1 := (ring_perm hl hi.1 hi.2 r).map (U l)
    refine List.Perm.trans (.of_eq ?_) h1
    rw [hrw, wordC_len]
    unfold turnsOf
    rw [List.map_map, List.map_map]
    refine List.map_congr_left fun j _ => ?_
    show tw (ringW l) ((k : Int), (j : Int)) = U l (phit l j i)
    rw [tw_om, hrw, wordC_om hl hi.1 hi.2 r]
    funext d
    rw [U_phit]
theorem row_round (hl : ByteL l) {q : Int} (q0 : 0 ≤ q) (hq : q < l.length) : ∃ m : Nat, 0 < m ∧ phit l m q = q := by
  have hp := cycL_perm (lfL_perm hl)
  obtain ⟨c, hc, hqc⟩ := List.mem_flatten.1 (hp.symm.subset (mem_iota.2 ⟨q0, by rw [lfL_len]; exact hq⟩))
  obtain ⟨i, hi, r, _⟩ := ring_of hl hc
  obtain ⟨j, hj, e⟩ := List.mem_map.1 ((ring_perm hl hi.1 hi.2 r).symm.subset hqc)
  refine ⟨c.length, r.pos, ?_⟩
  rw [← e, ← phit_add, Nat.add_comm, phit_add, ring_round hl hi.1 hi.2 r]
theorem phit_mul {q : Int} {m : Nat} (h : phit l m q = q) : ∀ t : Nat, phit l (t * m) q = q
  | 0 => by rw [Nat.zero_mul]; rfl
  | t + 1 => by rw [Nat.succ_mul, phit_add, phit_mul h t, h]
theorem U_last {q : Int} {m t : Nat} (hm : phit l m q = q) (m0 : 0 < m) (t0 : 0 < t) : U l q (m * t - 1) = rd l q := by
  have h := phit_mul hm t
  rw [Nat.mul_comm] at h
  have hpos : 0 < m * t := Nat.mul_pos m0 t0
  have h2 := U_phit (l := l) q (m * t - 1) 0
  rw [Nat.add_zero, U_zero] at h2
  rw [← h2]
  have h3 := phit_add (l := l) q (m * t - 1) 1
  rw [show m * t - 1 + 1 = m * t by omega, h] at h3
  rw [show phi l (phit l (m * t - 1) q) = phit l 1 (phit l (m * t - 1) q) from rfl, ← h3]
/-- What is read back turns to it again. -/
theorem turn_back (hl : ByteL l) {T : List (Int × Int)} (hp : T.Perm (tlist (bws (backL l (cycL (lfL l)))) (bws (backL l (cycL (lfL l)))).length)) (ho : T.Pairwise (ordO (bws (backL l (cycL (lfL l)))))) : T.map (lastB (bws (backL l (cycL (lfL l))))) = l := by
  rw [bws_back hl] at hp ho ⊢
  have hlen : (ringW l).length = (cycL (lfL l)).length := by unfold ringW; rw [List.length_map, List.length_reverse]
  -- the endless words, both ways
  have h1 : (T.map (tw (ringW l))).Perm ((iota l.length).map (U l)) := by
    refine (hp.map _).trans ?_
    rw [hlen]
    refine (turns_rows hl _ (Nat.le_refl _)).trans ?_
    rw [List.take_of_length_le (by rw [List.length_reverse]; exact Nat.le_refl _)]
    have hc := cycL_perm (lfL_perm hl)
    rw [lfL_len] at hc
    exact (((List.reverse_perm _).flatten).trans hc).map _
  have s1 : (T.map (tw (ringW l))).Pairwise fun a b => ¬ Lt b a := List.pairwise_map.2 (ho.imp fun {t u} h hlt => by
    rcases h with h | h
    · exact h.asymm hlt
    · exact hlt.not_eq fun i => (h.1 i).symm)
  have s2 : ((iota l.length).map (U l)).Pairwise fun a b => ¬ Lt b a := List.pairwise_map.2 (List.Pairwise.imp_of_mem (fun {i k} hi hk h => by
    have hi := mem_iota.1 hi
    have hk := mem_iota.1 hk
    exact U_le hl hi.1 (Int.le_of_lt h) hk.2) (iota_inc l.length))
  have same : T.map (tw (ringW l)) = (iota l.length).map (U l) := h1.eq_of_pairwise (fun a b _ _ x y => by
    rcases lt_tri a b with z | z | z
    · exact absurd z y
    · exact funext z
    · exact absurd z x) s1 s2
  have hTl : T.length = l.length := by
    have := congrArg List.length same
    rwa [List.length_map, List.length_map, iota_len] at this
  refine list_ext_rd (by rw [List.length_map]; exact hTl) fun q q0 q1 => ?_
  rw [List.length_map] at q1
  rw [rd_mapP q0 q1]
  have hv := mem_all.1 (hp.subset (rdp_mem (l := T) q0 q1))
  have hU : tw (ringW l) (rdp T q) = U l q := by
    have e1 : (T.map (tw (ringW l)))[q.toNat]? = some (tw (ringW l) (rdp T q)) := by
      rw [List.getElem?_map, List.getElem?_eq_getElem (by omega)]
      unfold rdp
      rw [List.getD_eq_getElem?_getD, List.getElem?_eq_getElem (by omega)]
      rfl
    have e2 : ((iota l.length).map (U l))[q.toNat]? = some (U l q) := by
      rw [List.getElem?_map, List.getElem?_eq_getElem (by rw [iota_len]; omega)]
      have := rd_iota (n := l.length) q0 (by omega)
      rw [rd_getI q0 (by rw [iota_len]; omega)] at this
      rw [this]
      rfl
    rw [same, e2] at e1
    exact (Option.some.inj e1).symm
  obtain ⟨m, m0, hm⟩ := row_round hl q0 (by omega : q < l.length)
  obtain ⟨a1, a2, a3, a4⟩ := hv
  have hw0 : 0 < (rdl (ringW l) (rdp T q).1).length := by omega
  generalize hwl : (rdl (ringW l) (rdp T q).1).length = wl at hw0 a4
  -- at the last place of a common round
  have hlast : U l q (m * wl - 1) = rd l q := U_last hm m0 hw0
  rw [← hlast, ← hU]
  have hpos : 0 < m * wl := Nat.mul_pos m0 hw0
  unfold lastB tw rd
  rw [hwl]
  congr 1
  obtain ⟨j, hj⟩ : ∃ j : Nat, (rdp T q).2 = j := ⟨(rdp T q).2.toNat, by omega⟩
  rw [hj, Int.toNat_natCast, show (j : Int) + (wl : Int) - 1 = ((j + wl - 1 : Nat) : Int) by omega, ← Int.natCast_emod, Int.toNat_natCast]
  have e : j + (m * wl - 1) = (j + wl - 1) + wl * (m - 1) := by
    obtain ⟨m', rfl⟩ : ∃ m', m = m' + 1 := ⟨m - 1, by omega⟩
    rw [Nat.succ_mul, Nat.add_sub_cancel, Nat.mul_comm wl m']
    omega
  rw [e, Nat.add_mul_mod_self_left]
end
/-! all texts of bytes of one length -/
def byteV : List Int := (List.range 256).map fun c : Nat => (c : Int)
theorem mem_byteV {x : Int} : x ∈ byteV ↔ 0 ≤ x ∧ x < 256 := by
  unfold byteV
  rw [List.mem_map]
  constructor
  · rintro ⟨c, hc, rfl⟩
    have := List.mem_range.1 hc
    omega
  · intro h
    exact ⟨x.toNat, List.mem_range.2 (by omega), by omega⟩
theorem byteV_nodup : byteV.Nodup := List.pairwise_map.2 (List.Pairwise.imp (fun h e => h (by omega)) List.nodup_range)
def allW : Nat → List (List Int)
  | 0 => [[]]
  | n + 1 => byteV.flatMap fun c => (allW n).map fun w => c :: w
theorem mem_allW : ∀ {n : Nat} {w : List Int}, w ∈ allW n ↔ w.length = n ∧ ByteL w
  | 0, w => by
    rw [allW, List.mem_singleton]
    exact ⟨fun h => by subst h; exact ⟨rfl, fun x hx => by cases hx⟩, fun h => List.eq_nil_of_length_eq_zero h.1⟩
  | n + 1, w => by
    rw [allW, List.mem_flatMap]
    constructor
    · rintro ⟨c, hc, hw⟩
      obtain ⟨v, hv, rfl⟩ := List.mem_map.1 hw
      have hv := mem_allW.1 hv
      refine ⟨by simp [hv.1], fun x hx => ?_⟩
      rcases List.mem_cons.1 hx with rfl | hx
      · exact mem_byteV.1 hc
      · exact hv.2 x hx
    · rintro ⟨hl, hb⟩
      cases w with
      | nil => simp at hl
      | cons c v => exact ⟨c, mem_byteV.2 (hb c (by simp)), List.mem_map.2 ⟨v, mem_allW.2 ⟨by simpa using hl, fun x hx => hb x (List.mem_cons_of_mem _ hx)⟩, rfl⟩⟩
theorem allW_nodup : ∀ n : Nat, (allW n).Nodup
  | 0 => by rw [allW]; exact List.pairwise_singleton _ _
  | n + 1 => by
    rw [allW]
    refine List.pairwise_flatMap.2 ⟨fun c _ => List.pairwise_map.2 ((allW_nodup n).imp fun h e => h (List.cons.inj e).2), byteV_nodup.imp fun {c d} h x hx y hy e => ?_⟩
    obtain ⟨v, _, rfl⟩ := List.mem_map.1 hx
    obtain ⟨w, _, rfl⟩ := List.mem_map.1 hy
    exact h (List.cons.inj e).1
/-- What is read back tells what it was read from. -/
theorem back_inj {l k : List Int} (hl : ByteL l) (hk : ByteL k) (hlen : l.length = k.length) (h : backL l (cycL (lfL l)) = backL k (cycL (lfL k))) : l = k := by
  have hw : ringW l = ringW k := by rw [← bws_back hl, ← bws_back hk, h]
  have all : ∀ {x : List Int}, ByteL x → ((tlist (ringW x) (ringW x).length).map (tw (ringW x))).Perm ((iota x.length).map (U x)) := fun {x} hx => by
    have hlx : (ringW x).length = (cycL (lfL x)).length := by unfold ringW; rw [List.length_map, List.length_reverse]
    rw [hlx]
    refine (turns_rows hx _ (Nat.le_refl _)).trans ?_
    rw [List.take_of_length_le (by rw [List.length_reverse]; exact Nat.le_refl _)]
    have hc := cycL_perm (lfL_perm hx)
    rw [lfL_len] at hc
    exact (((List.reverse_perm _).flatten).trans hc).map _
  have srt : ∀ {x : List Int}, ByteL x → ((iota x.length).map (U x)).Pairwise fun a b => ¬ Lt b a := fun {x} hx => List.pairwise_map.2 (List.Pairwise.imp_of_mem (fun {i k} hi hk h => by
    have hi := mem_iota.1 hi
    have hk := mem_iota.1 hk
    exact U_le hx hi.1 (Int.le_of_lt h) hk.2) (iota_inc x.length))
  have h1 := all hl
  rw [hw] at h1
  have same : (iota l.length).map (U l) = (iota k.length).map (U k) := (h1.symm.trans (all hk)).eq_of_pairwise (fun a b _ _ x y => by
    rcases lt_tri a b with z | z | z
    · exact absurd z y
    · exact funext z
    · exact absurd z x) (srt hl) (srt hk)
  refine list_ext_rd hlen fun q q0 q1 => ?_
  have at_ : ∀ {x : List Int}, q < x.length → ((iota x.length).map (U x))[q.toNat]? = some (U x q) := fun {x} hx => by
    rw [List.getElem?_map, List.getElem?_eq_getElem (by rw [iota_len]; omega)]
    have := rd_iota (n := x.length) q0 hx
    rw [rd_getI q0 (by rw [iota_len]; omega)] at this
    rw [this]
    rfl
  have e := at_ q1
  rw [same, at_ (by omega)] at e
  have eU : U k q = U l q := Option.some.inj e
  obtain ⟨m, m0, hm⟩ := row_round hl q0 q1
  obtain ⟨m', m0', hm'⟩ := row_round hk q0 (by omega : q < k.length)
  have a := U_last hm m0 m0'
  have b := U_last hm' m0' m0
  rw [Nat.mul_comm, eU, a] at b
  exact b
/-- All texts are read back from one. -/
theorem back_onto {s : List Int} (hs : ByteL s) : ∃ l : List Int, ByteL l ∧ l.length = s.length ∧ backL l (cycL (lfL l)) = s := by
  have hp : ((allW s.length).map fun l => backL l (cycL (lfL l))).Perm (allW s.length) := by
    refine perm_all ?_ (fun x hx => ?_) (by simp)
    · refine List.pairwise_map.2 (List.Pairwise.imp_of_mem (fun {a b} ha hb hab e => ?_) (allW_nodup _))
      have ha := mem_allW.1 ha
      have hb := mem_allW.1 hb
      exact hab (back_inj ha.2 hb.2 (by omega) e)
    · obtain ⟨l, hl, rfl⟩ := List.mem_map.1 hx
      have hl := mem_allW.1 hl
      exact mem_allW.2 ⟨by rw [backL_len, cycL_all (lfL_perm hl.2), lfL_len, hl.1], backL_byt hl.2 _⟩
  obtain ⟨l, hl, e⟩ := List.mem_map.1 (hp.symm.subset (mem_allW.2 ⟨rfl, hs⟩))
  have hl := mem_allW.1 hl
  exact ⟨l, hl.2, hl.1, e⟩
/-- What is turned comes back. -/
theorem back_turn {s : List Int} (hs : ByteL s) {T : List (Int × Int)} (hp : T.Perm (tlist (bws s) (bws s).length)) (ho : T.Pairwise (ordO (bws s))) : backL (T.map (lastB (bws s))) (cycL (lfL (T.map (lastB (bws s))))) = s := by
  obtain ⟨l, hl, _, e⟩ := back_onto hs
  subst e
  rw [turn_back hl hp ho]
end Go.Pure

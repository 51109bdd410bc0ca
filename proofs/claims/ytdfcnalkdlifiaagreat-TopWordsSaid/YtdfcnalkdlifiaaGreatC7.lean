/- Several texts of our own in one: Q35, Q38, Q39, E30, X1, E31, X2, X3, K4. -/
import Derived.Test.YtdfcnalkdlifiaaGreatC6
/-! ## Q35 -/
/-
 Plain laws: what the rings are. Own work.
-/
namespace Go.Pure
open Go Go.Eng
section
variable {p : List Int}
/-- So many steps on. -/
def pit (p : List Int) : Nat → Int → Int
 | 0, i => i
 | b + 1, i => rd p (pit p b i)
theorem pit_in (hp : p.Perm (iota p.length)) {i : Int} (i0 : 0 ≤ i) (hi : i < p.length) : ∀ b : Nat, 0 ≤ pit p b i ∧ pit p b i < p.length
 | 0 => ⟨i0, hi⟩
 | b + 1 => by
  have ih := pit_in hp i0 hi b
  exact mem_iota.1 (hp.subset (rd_mem (L := p) ih.1 ih.2))
theorem pit_add (p : List Int) (a : Nat) (i : Int) : ∀ b : Nat, pit p (a + b) i = pit p b (pit p a i)
 | 0 => rfl
 | b + 1 => by rw [← Nat.add_assoc, pit, pit_add p a i b, pit]
theorem p_inj (hp : p.Perm (iota p.length)) {x y : Int} (x0 : 0 ≤ x) (hx : x < p.length) (y0 : 0 ≤ y) (hy : y < p.length) (h : rd p x = rd p y) : x = y := rd_inj (hp.symm.nodup (iota_nodup _)) x0 hx y0 hy h
/-- A ring from i on. -/
structure Ring (p : List Int) (i : Int) (c : List Int) : Prop where
 pos : 0 < c.length
 at_ : ∀ b : Nat, b < c.length → rd c b = pit p b i
 close : pit p c.length i = i
 nodup : c.Nodup
 least : ∀ x ∈ c, i ≤ x
structure ClE (p : List Int) (E : List Bool) : Prop where
 len : E.length = p.length
 back : ∀ j : Int, 0 ≤ j → j < p.length → rdb E (rd p j) = true → rdb E j = true
theorem snoc_rd {l : List Int} {x : Int} {b : Nat} (h : b < (l ++ [x]).length) : rd (l ++ [x]) b = if b < l.length then rd l b else x := by
 split
 ·rename_i g; rw [rd_append_l (by omega) (by omega)]
 ·rename_i g
  have : b = l.length := by simp at h; omega
  subst this
  rw [rd_append_r (by omega), Int.sub_self]
  rfl
theorem walk_full (hp : p.Perm (iota p.length)) {E0 : List Bool} {i : Int} (hE0 : ClE p E0) (i0 : 0 ≤ i) (hi : i < p.length) (hun : rdb E0 i ≠ true) (hall : ∀ j : Int, 0 ≤ j → j < i → rdb E0 j = true) :
  ∀ (f : Nat) (E : List Bool) (acc : List Int), E.length = p.length → cntF E ≤ f → (∀ b : Nat, b < acc.length → rd acc b = pit p b i) → acc.Nodup → (∀ x ∈ acc, rdb E0 x ≠ true) → (∀ j : Int, 0 ≤ j → j < p.length → (rdb E j = true ↔ rdb E0 j = true ∨ j ∈ acc)) →
  Ring p i (acc ++ (walkC p f E (pit p acc.length i)).1) ∧ (∀ x ∈ acc ++ (walkC p f E (pit p acc.length i)).1, rdb E0 x ≠ true) ∧ ∀ j : Int, 0 ≤ j → j < p.length → (rdb (walkC p f E (pit p acc.length i)).2 j = true ↔ rdb E0 j = true ∨ j ∈ acc ++ (walkC p f E (pit p acc.length i)).1)
 | f, E, acc, hl, hf, hat, hnd, hfr, hset => by
  have hk := pit_in hp i0 hi acc.length
  have hmem : ∀ b : Nat, b < acc.length → pit p b i ∈ acc := fun b hb => by rw [← hat b hb]; exact rd_mem (by omega) (by omega)
  by_cases hseen : rdb E (pit p acc.length i) = true
  ·rw [walkC_seen hseen]
   simp only [List.append_nil]
   have hne : 0 < acc.length := by
    rcases Nat.eq_zero_or_pos acc.length with z | z
    ·exfalso
     have hz : acc = [] := List.eq_nil_of_length_eq_zero z
     subst hz
     rcases (hset i i0 hi).1 hseen with a | a
     ·exact hun a
     ·cases a
    ·exact z
   have hclose : pit p acc.length i = i := by
    have hz := pit_in hp i0 hi (acc.length - 1)
    have hstep : pit p acc.length i = rd p (pit p (acc.length - 1) i) := by
     obtain ⟨m, hm⟩ : ∃ m, acc.length = m + 1 := ⟨acc.length - 1, by omega⟩
     rw [hm, pit]; rfl
    rcases (hset _ hk.1 hk.2).1 hseen with a | a
    ·rw [hstep] at a
     exact absurd (hE0.back _ hz.1 hz.2 a) (hfr _ (hmem _ (by omega)))
    ·obtain ⟨b, hb, e⟩ := List.mem_iff_getElem.1 a
     have e2 : pit p acc.length i = pit p b i := by rw [← hat b hb, rd_get hb]; exact e.symm
     rcases Nat.eq_zero_or_pos b with z | z
     ·rw [e2, z]; rfl
     ·exfalso
      have hb1 := pit_in hp i0 hi (b - 1)
      have hstep2 : pit p b i = rd p (pit p (b - 1) i) := by
       obtain ⟨m, rfl⟩ : ∃ m, b = m + 1 := ⟨b - 1, by omega⟩
       rw [pit]; rfl
      have := p_inj hp hz.1 hz.2 hb1.1 hb1.2 (by rw [← hstep, ← hstep2, e2])
      rw [← hat _ (by omega), ← hat _ (by omega)] at this
      have := rd_inj hnd (by omega) (by omega) (by omega) (by omega) this
      omega
   refine ⟨⟨hne, hat, hclose, hnd, fun x hx => ?_⟩, hfr, hset⟩
   obtain ⟨b, hb, rfl⟩ := List.mem_iff_getElem.1 hx
   have hr := pit_in hp i0 hi b
   rw [← hat b hb, rd_get hb] at hr
   rcases Int.lt_or_le acc[b] i with g | g
   ·exact absurd (hall _ hr.1 g) (hfr _ hx)
   ·exact g
  ·have hpos := cntF_pos hk.1 (by omega) hseen
   have hup := cntF_upd hk.1 (by omega) hseen
   obtain ⟨g, rfl⟩ : ∃ g, f = g + 1 := ⟨f - 1, by omega⟩
   rw [walkC_go hk.1 (by omega) hf hseen]
   have hno : ¬ (rdb E0 (pit p acc.length i) = true ∨ pit p acc.length i ∈ acc) := fun h => hseen ((hset _ hk.1 hk.2).2 h)
   have hlen : (acc ++ [pit p acc.length i]).length = acc.length + 1 := by simp
   have ih := walk_full hp hE0 i0 hi hun hall g (updB E (pit p acc.length i) true) (acc ++ [pit p acc.length i]) (by rw [updB_len]; exact hl) (by omega) (fun b hb => by
    rw [snoc_rd hb]
    split
    ·rename_i q; exact hat b q
    ·rename_i q; rw [show b = acc.length by rw [hlen] at hb; omega]) (List.nodup_append.2 ⟨hnd, by simp, fun x hx y hy e => by obtain rfl := List.mem_singleton.1 hy; subst e; exact hno (.inr hx)⟩) (fun x hx => by
    rcases List.mem_append.1 hx with h | h
    ·exact hfr x h
    ·obtain rfl := List.mem_singleton.1 h
     exact fun e => hno (.inl e)) (fun j j0 hj => by
    rw [rdb_upd hk.1 (by omega) j0, List.mem_append, List.mem_singleton]
    split
    ·rename_i e; exact ⟨fun _ => .inr (.inr e), fun _ => rfl⟩
    ·rename_i e; rw [hset j j0 hj]; exact ⟨fun h => h.elim .inl fun h => .inr (.inl h), fun h => h.elim .inl fun h => h.elim .inr fun h => absurd h e⟩)
   rw [hlen, pit, List.append_assoc] at ih
   exact ih
/-- All about the rings so far. -/
structure CycI (p : List Int) (i : Nat) (E : List Bool) (ls : List (List Int)) : Prop where
 cl : ClE p E
 seen : ∀ j : Int, 0 ≤ j → j < p.length → (rdb E j = true ↔ j ∈ ls.flatten)
 nodup : ls.flatten.Nodup
 ring : ∀ c ∈ ls, ∃ i0 : Int, (0 ≤ i0 ∧ i0 < i) ∧ Ring p i0 c
 heads : ls.Pairwise fun c d => rd c 0 < rd d 0
theorem cycI (hp : p.Perm (iota p.length)) : ∀ i : Nat, i ≤ p.length → CycI p i (cycK p i).1 (cycK p i).2
 | 0, _ => ⟨⟨by simp [cycK], fun j j0 hj h => by rw [cycK, rdb_rep] at h; cases h⟩, fun j j0 hj => by rw [cycK, rdb_rep]; simp, by simp [cycK], fun c hc => (by cases hc), .nil⟩
 | i + 1, hi => by
  have ih := cycI hp i (by omega)
  have hseen := cycK_seen hp i (by omega)
  have hf := cycK_facts hp i (by omega)
  have hcnt : cntF (cycK p i).1 ≤ p.length := by have := hf.2.2; omega
  rw [cycK]
  by_cases hun : rdb (cycK p i).1 i = true
  ·rw [walkC_seen hun]
   simp only [if_true]
   exact ⟨ih.cl, ih.seen, ih.nodup, fun c hc => by obtain ⟨i0, h, r⟩ := ih.ring c hc; exact ⟨i0, by omega, r⟩, ih.heads⟩
  ·obtain ⟨w1, w2, w3⟩ := walk_full hp ih.cl (i := i) (by omega) (by omega) hun (fun j j0 hj => by have := hseen j.toNat (by omega); rwa [show ((j.toNat : Nat) : Int) = j by omega] at this) p.length (cycK p i).1 [] hf.1 hcnt (fun b hb => by simp at hb) .nil (fun x hx => by cases hx) (fun j j0 hj => by simp)
   simp only [List.nil_append, List.length_nil, pit] at w1 w2 w3
   have hwl := (walkC_facts hp p.length (cycK p i).1 i hf.1 (by omega) (by omega))
   generalize walkC p p.length (cycK p i).1 i = r at w1 w2 w3 hwl
   obtain ⟨c, E'⟩ := r
   simp only at w1 w2 w3 hwl ⊢
   rw [if_neg (fun e => by have := w1.pos; rw [e] at this; simp at this)]
   have h0 : rd c 0 = i := w1.at_ 0 w1.pos
   refine ⟨⟨hwl.1, fun j j0 hj h => ?_⟩, fun j j0 hj => ?_, ?_, fun d hd => ?_, ?_⟩
   ·have hj' := mem_iota.1 (hp.subset (rd_mem (L := p) j0 hj))
    rcases (w3 _ hj'.1 hj'.2).1 h with a | a
    ·exact (w3 j j0 hj).2 (.inl (ih.cl.back j j0 hj a))
    ·refine (w3 j j0 hj).2 (.inr ?_)
     obtain ⟨b, hb, e⟩ := List.mem_iff_getElem.1 a
     have e2 : rd p j = pit p b i := by rw [← w1.at_ b hb, rd_get hb]; exact e.symm
     have key : ∀ m : Nat, m < c.length → rd p j = rd p (pit p m i) → j ∈ c := fun m hm e => by
      have hm' := pit_in hp (i := i) (by omega) (by omega) m
      have := p_inj hp j0 hj hm'.1 hm'.2 e
      rw [this, ← w1.at_ m hm]
      exact rd_mem (by omega) (by omega)
     rcases Nat.eq_zero_or_pos b with z | z
     ·refine key (c.length - 1) (by have := w1.pos; omega) ?_
      have hc := w1.close
      obtain ⟨m, hm⟩ : ∃ m, c.length = m + 1 := ⟨c.length - 1, by have := w1.pos; omega⟩
      rw [hm, pit] at hc
      rw [e2, z, hm]
      exact hc.symm
     ·obtain ⟨m, rfl⟩ : ∃ m, b = m + 1 := ⟨b - 1, by omega⟩
      exact key m (by omega) (by rw [e2, pit])
   ·rw [w3 j j0 hj, List.flatten_append, List.mem_append, ih.seen j j0 hj]
    simp
   ·rw [List.flatten_append]
    refine List.nodup_append.2 ⟨ih.nodup, by simpa using w1.nodup, fun x hx y hy e => ?_⟩
    subst e
    have hy : x ∈ c := by simpa using hy
    have hx' := hwl.2.1 x hy
    exact w2 x hy ((ih.seen x hx'.1 hx'.2).2 hx)
   ·rcases List.mem_append.1 hd with h | h
    ·obtain ⟨i0, h, r⟩ := ih.ring d h
     exact ⟨i0, by omega, r⟩
    ·obtain rfl := List.mem_singleton.1 h
     exact ⟨i, by omega, w1⟩
   ·refine List.pairwise_append.2 ⟨ih.heads, List.pairwise_singleton _ _, fun d hd e he => ?_⟩
    obtain rfl := List.mem_singleton.1 he
    obtain ⟨i0, h, r⟩ := ih.ring d hd
    rw [h0, show rd d 0 = i0 from r.at_ 0 r.pos]
    omega
theorem cycL_I (hp : p.Perm (iota p.length)) : CycI p p.length (cycK p p.length).1 (cycL p) := cycI hp p.length (Nat.le_refl _)
theorem cycL_perm (hp : p.Perm (iota p.length)) : (cycL p).flatten.Perm (iota p.length) := perm_all (cycL_I hp).nodup (fun x hx => by
 obtain ⟨c, hc, hx⟩ := List.mem_flatten.1 hx
 exact mem_iota.2 (cycL_in hp c hc x hx)) (by rw [iota_len, cycL_all hp]; exact Nat.le_refl _)
end
end Go.Pure
/-
 Plain laws: rows asx words without end; ring words are less than all their endings, and do not increase. Own work.
-/
namespace Go.Pure
open Go Go.Eng
section
variable {l : List Int}
/-- The row that leads here. -/
def phi (l : List Int) (q : Int) : Int := rd (passK (iota l.length) l 256) q
theorem phi_in (hl : ByteL l) {q : Int} (q0 : 0 ≤ q) (hq : q < l.length) : 0 ≤ phi l q ∧ phi l q < l.length := by
 have h := lf_order (l := l) hl
 have hlen := h.1.length_eq
 rw [iota_len] at hlen
 exact mem_iota.1 (h.1.subset (rd_mem q0 (by omega)))
theorem phi_lf (hl : ByteL l) {i : Int} (i0 : 0 ≤ i) (hi : i < l.length) : phi l (lfC l i) = i := by
 obtain ⟨q, q0, q1, e, f⟩ := lf_ix (l := l) hl i0 hi
 rw [f]; exact e
theorem phi_tl (hl : ByteL l) {i k : Int} (i0 : 0 ≤ i) (h : i < k) (hk : k < l.length) : tl l (phi l i) (phi l k) := by
 have hlen := (lf_order (l := l) hl).1.length_eq
 rw [iota_len] at hlen
 exact pairwise_rd (lf_order (l := l) hl).2 i0 h (by omega)
/-- The word without end of a row. -/
def uw (l : List Int) : Nat → Int → Int
 | 0, i => rd l (phi l i)
 | d + 1, i => uw l d (phi l i)
def U (l : List Int) (i : Int) (d : Nat) : Int := uw l d i
theorem U_zero (i : Int) : U l i 0 = rd l (phi l i) := by unfold U; rw [uw]
theorem U_succ (i : Int) (d : Nat) : U l i (d + 1) = U l (phi l i) d := by unfold U; rw [uw]
/-- The rows are in order, more or less. -/
theorem U_mono (hl : ByteL l) : ∀ (d : Nat) (i k : Int), 0 ≤ i → i < k → k < l.length → (∀ e, e < d → U l i e = U l k e) → U l i d ≤ U l k d
 | 0, i, k, i0, h, hk, _ => by
  have := phi_tl hl i0 h hk
  rw [U_zero, U_zero]
  unfold tl at this
  omega
 | d + 1, i, k, i0, h, hk, he => by
  have h0 := he 0 (by omega)
  rw [U_zero, U_zero] at h0
  have ht := phi_tl hl i0 h hk
  unfold tl at ht
  have hi' := phi_in hl (q := i) i0 (by omega)
  have hk' := phi_in hl (q := k) (by omega) hk
  rw [U_succ, U_succ]
  refine U_mono hl d _ _ hi'.1 (by omega) hk'.2 fun e he' => ?_
  have := he (e + 1) (by omega)
  rwa [U_succ, U_succ] at this
theorem U_le (hl : ByteL l) {i k : Int} (i0 : 0 ≤ i) (h : i ≤ k) (hk : k < l.length) : ¬ Lt (U l k) (U l i) := by
 rintro ⟨d, h1, h2⟩
 rcases Int.lt_or_le i k with a | a
 ·have := U_mono hl d i k i0 a hk fun e he => (h1 e he).symm
  omega
 ·obtain rfl : i = k := by omega
  omega
/-- Rows of one word keep their order on the way back. -/
theorem phi_mono (hl : ByteL l) {i k : Int} (i0 : 0 ≤ i) (h : i < k) (hk : k < l.length) (he : ∀ d, U l i d = U l k d) : phi l i < phi l k ∧ ∀ d, U l (phi l i) d = U l (phi l k) d := by
 have ht := phi_tl hl i0 h hk
 have h0 := he 0
 rw [U_zero, U_zero] at h0
 unfold tl at ht
 refine ⟨by omega, fun d => ?_⟩
 have := he (d + 1)
 rwa [U_succ, U_succ] at this
/-- So many rows back. -/
def phit (l : List Int) : Nat → Int → Int
 | 0, i => i
 | b + 1, i => phit l b (phi l i)
theorem phit_in (hl : ByteL l) : ∀ (b : Nat) {i : Int}, 0 ≤ i → i < l.length → 0 ≤ phit l b i ∧ phit l b i < l.length
 | 0, i, i0, hi => ⟨i0, hi⟩
 | b + 1, i, i0, hi => by
  have h := phi_in hl i0 hi
  exact phit_in hl b h.1 h.2
theorem phit_mono (hl : ByteL l) : ∀ (b : Nat) {i k : Int}, 0 ≤ i → i < k → k < l.length → (∀ d, U l i d = U l k d) → phit l b i < phit l b k ∧ ∀ d, U l (phit l b i) d = U l (phit l b k) d
 | 0, i, k, _, h, _, he => ⟨h, he⟩
 | b + 1, i, k, i0, h, hk, he => by
  have h1 := phi_mono hl i0 h hk he
  have hi' := phi_in hl (q := i) i0 (by omega)
  have hk' := phi_in hl (q := k) (by omega) hk
  exact phit_mono hl b hi'.1 h1.1 hk'.2 h1.2
theorem U_phit (i : Int) : ∀ (b d : Nat), U l (phit l b i) d = U l i (b + d)
 | 0, d => by rw [Nat.zero_add]; rfl
 | b + 1, d => by
  rw [phit, U_phit (phi l i) b d, ← U_succ, show b + d + 1 = b + 1 + d by omega]
theorem phit_add (i : Int) : ∀ (a b : Nat), phit l (a + b) i = phit l b (phit l a i)
 | 0, b => by rw [Nat.zero_add]; rfl
 | a + 1, b => by rw [show a + 1 + b = (a + b) + 1 by omega, phit, phit_add (phi l i) a b]; rfl
theorem iter_up (hl : ByteL l) {i : Int} (i0 : 0 ≤ i) (hi : i < l.length) {b : Nat} (h : i < phit l b i) (he : ∀ d, U l i d = U l (phit l b i) d) : ∀ t : Nat, i + t ≤ phit l (t * b) i
 | 0 => by rw [Nat.zero_mul]; show i + 0 ≤ i; omega
 | t + 1 => by
  have ih := iter_up hl i0 hi h he t
  have hk := phit_in hl b i0 hi
  have h1 := (phit_mono hl (t * b) i0 h hk.2 he).1
  rw [← phit_add i b (t * b), show b + t * b = (t + 1) * b by rw [Nat.succ_mul]; omega] at h1
  omega
theorem iter_dn (hl : ByteL l) {i : Int} (i0 : 0 ≤ i) (hi : i < l.length) {b : Nat} (h : phit l b i < i) (he : ∀ d, U l i d = U l (phit l b i) d) : ∀ t : Nat, phit l (t * b) i + t ≤ i
 | 0 => by rw [Nat.zero_mul]; show i + 0 ≤ i; omega
 | t + 1 => by
  have ih := iter_dn hl i0 hi h he t
  have hk := phit_in hl b i0 hi
  have h1 := (phit_mono hl (t * b) hk.1 h hi fun d => (he d).symm).1
  rw [← phit_add i b (t * b), show b + t * b = (t + 1) * b by rw [Nat.succ_mul]; omega] at h1
  omega
/-- No row of a ring says the same asx another one of it. -/
theorem row_once (hl : ByteL l) {i : Int} (i0 : 0 ≤ i) (hi : i < l.length) {b : Nat} (hne : phit l b i ≠ i) : ¬ ∀ d, U l i d = U l (phit l b i) d := fun he => by
 rcases Int.lt_or_le i (phit l b i) with h | h
 ·have := iter_up hl i0 hi h he (l.length + 1)
  have := phit_in hl ((l.length + 1) * b) i0 hi
  omega
 ·have := iter_dn hl i0 hi (by omega) he (l.length + 1)
  have := phit_in hl ((l.length + 1) * b) i0 hi
  omega
theorem fs_perm (hl : ByteL l) : (((iota l.length).map (lfC l))).Perm (iota ((iota l.length).map (lfC l)).length) := by
 rw [List.length_map, iota_len]
 exact bij_perm (fun x h0 h1 => lf_bd (l := l) hl h0 h1) fun x y x0 x1 y0 y1 e => lf_inj (l := l) hl x0 x1 y0 y1 e
def lfL (l : List Int) : List Int := (iota l.length).map (lfC l)
theorem lfL_len (l : List Int) : (lfL l).length = l.length := by unfold lfL; rw [List.length_map, iota_len]
theorem rd_lfL {i : Int} (i0 : 0 ≤ i) (hi : i < l.length) : rd (lfL l) i = lfC l i := by
 unfold lfL
 rw [rd_map i0 (by rw [iota_len]; exact hi), rd_iota i0 hi]
theorem lfL_perm (hl : ByteL l) : (lfL l).Perm (iota (lfL l).length) := fs_perm hl
theorem phit_pit (hl : ByteL l) {i : Int} (i0 : 0 ≤ i) (hi : i < l.length) : ∀ b : Nat, phit l b (pit (lfL l) b i) = i
 | 0 => rfl
 | b + 1 => by
  have h := pit_in (lfL_perm hl) i0 (by rw [lfL_len]; exact hi) b
  rw [lfL_len] at h
  rw [phit, pit, rd_lfL h.1 h.2, phi_lf hl h.1 h.2]
  exact phit_pit hl i0 hi b
section
variable {i : Int} {c : List Int} (hl : ByteL l) (i0 : 0 ≤ i) (hi : i < l.length) (hc : Ring (lfL l) i c)
include hl i0 hi hc
/-- Back in a ring: asx its rows stand, from the end. -/
theorem ring_back {b : Nat} (hb : b ≤ c.length) : phit l b i = pit (lfL l) (c.length - b) i := by
 have h := phit_pit hl (pit_in (lfL_perm hl) i0 (by rw [lfL_len]; exact hi) (c.length - b)).1 (by have := (pit_in (lfL_perm hl) i0 (by rw [lfL_len]; exact hi) (c.length - b)).2; rw [lfL_len] at this; exact this) b
 rw [← pit_add, show c.length - b + b = c.length by omega, hc.close] at h
 exact h
theorem ring_round : phit l c.length i = i := by
 rw [ring_back hl i0 hi hc (Nat.le_refl _), Nat.sub_self]; rfl
theorem ring_per : Per (U l i) c.length := fun d => by
 rw [Nat.add_comm, ← U_phit, ring_round hl i0 hi hc]
theorem wordC_at {d : Nat} (hd : d < c.length) : rd (wordC l c) d = U l i d := by
 have h1 : rd (wordC l c) d = rd l (rd c ((c.length - 1 - d : Nat) : Int)) := by
  unfold wordC
  rw [rd_map (by omega) (by rw [List.length_reverse]; omega)]
  congr 1
  rw [rd_get (by rw [List.length_reverse]; exact hd), List.getElem_reverse, rd_get (by omega)]
 have h2 : U l i d = rd l (phit l (d + 1) i) := by
  have := U_phit (l := l) i d 0
  rw [Nat.add_zero, U_zero] at this
  rw [← this, phit_add i d 1]; rfl
 rw [h1, h2, hc.at_ _ (by omega), ring_back hl i0 hi hc (by omega), show c.length - (d + 1) = c.length - 1 - d by omega]
theorem wordC_om : om (wordC l c) = U l i := by
 funext d
 have hp := hc.pos
 have h1 : om (wordC l c) d = rd (wordC l c) ((d % c.length : Nat) : Int) := by
  unfold om rd
  rw [wordC_len, Int.toNat_natCast]
 rw [h1, wordC_at hl i0 hi hc (Nat.mod_lt _ hp)]
 exact (ring_per hl i0 hi hc).mod d
theorem ring_other {r : Nat} (r0 : 0 < r) (hr : r < c.length) : i < phit l r i := by
 rw [ring_back hl i0 hi hc (by omega)]
 have h1 := hc.least _ (rd_mem (L := c) (k := ((c.length - r : Nat) : Int)) (by omega) (by omega))
 rw [hc.at_ _ (by omega)] at h1
 rcases Int.lt_or_le i (pit (lfL l) (c.length - r) i) with g | g
 ·exact g
 ·exfalso
  have e : rd c ((c.length - r : Nat) : Int) = rd c ((0 : Nat) : Int) := by
   rw [hc.at_ _ (by omega), hc.at_ 0 hc.pos]
   show _ = i
   omega
  have := rd_inj hc.nodup (by omega) (by omega) (by omega) (by have := hc.pos; omega) e
  omega
/-- A ring's word is less than all its endings. -/
theorem ring_lyn : LynB (wordC l c) = true := by
 rw [LynB_iff, wordC_len]
 refine ⟨hc.pos, fun r r0 hr => ?_⟩
 have hot := ring_other hl i0 hi hc r0 hr
 have hin := phit_in hl r i0 hi
 have hnl := U_le hl i0 (Int.le_of_lt hot) hin.2
 have hne := row_once hl i0 hi (b := r) (by omega)
 have hlt : Lt (U l i) (U l (phit l r i)) := by
  rcases lt_tri (U l i) (U l (phit l r i)) with a | a | a
  ·exact a
  ·exact absurd a hne
  ·exact absurd a hnl
 obtain ⟨d, h1, h2⟩ := hlt
 have hsh : ∀ e, U l (phit l r i) e = U l i (r + e) := fun e => U_phit i r e
 rw [hsh] at h2
 have hdm : d < c.length - r := by
  rcases Nat.lt_or_ge d (c.length - r) with g | g
  ·exact g
  ·exfalso
   have hper := ring_per hl i0 hi hc
   have hot2 := ring_other hl i0 hi hc (r := c.length - r) (by omega) (by omega)
   have hin2 := phit_in hl (c.length - r) i0 hi
   refine U_le hl i0 (Int.le_of_lt hot2) hin2.2 ⟨d - (c.length - r), fun e he => ?_, ?_⟩
   ·rw [U_phit]
    have := h1 (c.length - r + e) (by omega)
    rw [this, hsh, show r + (c.length - r + e) = e + c.length by omega, hper]
   ·rw [U_phit, show c.length - r + (d - (c.length - r)) = d by omega]
    rw [show r + d = (d - (c.length - r)) + c.length by omega, hper] at h2
    exact h2
 rw [cmpL_neg_iff _ _ (by rw [List.length_drop, wordC_len]; omega), List.length_drop, wordC_len]
 have hlt : ∀ e, e < c.length → lt (wordC l c) e = U l i e := fun e he => by
  rw [← wordC_at hl i0 hi hc he]
  unfold lt rd
  rw [Int.toNat_natCast]
 refine ⟨d, hdm, fun e he => ?_, ?_⟩
 ·rw [lt_drop, hlt e (by omega), hlt (r + e) (by omega), h1 e he, hsh]
 ·rw [lt_drop, hlt d (by omega), hlt (r + d) (by omega)]
  exact h2
end
end
end Go.Pure
/-
 Plain laws: words that are less than all their endings, not increasing, are the factors of their text. Own work.
-/
namespace Go.Pure
open Go Go.Eng
theorem om_at {w : List Int} {e : Nat} (h : e < w.length) : om w e = lt w e := om_lt h
theorem LynB_at {v : List Int} (h : LynB v = true) {r : Nat} (r0 : 0 < r) (hr : r < v.length) : ∃ d, d < v.length - r ∧ (∀ e, e < d → lt v e = lt v (r + e)) ∧ lt v d < lt v (r + d) := by
 have := ((LynB_iff v).1 h).2 r r0 hr
 rw [cmpL_neg_iff _ _ (by rw [List.length_drop]; omega), List.length_drop] at this
 obtain ⟨d, h1, h2, h3⟩ := this
 refine ⟨d, h1, fun e he => ?_, ?_⟩
 ·rw [h2 e he, lt_drop]
 ·rwa [lt_drop] at h3
/-- A word that goes on beyond a beginning of it that is such a word is greater without end. -/
theorem longer {w v : List Int} (hw : 0 < w.length) (hv : LynB v = true) (hlen : w.length < v.length) (hpre : ∀ e, e < w.length → lt v e = lt w e) : Lt (om w) (om v) := by
 obtain ⟨d, h1, h2, h3⟩ := LynB_at hv hw hlen
 have hper := om_per w
 have agr : ∀ e, e < w.length + d → lt v e = om w e := by
  intro e
  induction e using Nat.strongRecOn with
  | ind e ih =>
   intro he
   rcases Nat.lt_or_ge e w.length with g | g
   ·rw [hpre e g, om_at g]
   ·have e1 := h2 (e - w.length) (by omega)
    rw [show w.length + (e - w.length) = e by omega] at e1
    have e2 := hper (e - w.length)
    rw [show e - w.length + w.length = e by omega] at e2
    rw [← e1, e2]
    exact ih (e - w.length) (by omega) (by omega)
 refine ⟨w.length + d, fun f hf => ?_, ?_⟩
 ·rw [om_at (w := v) (by omega), agr f hf]
 ·rw [om_at (w := v) (by omega)]
  have e1 := hper d
  rw [Nat.add_comm d w.length] at e1
  rw [e1, ← agr d (by omega)]
  exact h3
theorem in_word : ∀ (ws : List (List Int)) (m : Nat), 0 < m → m ≤ ws.flatten.length → ∃ v ∈ ws, ∃ r, r < m ∧ m ≤ r + v.length ∧ ∀ e, e < v.length → lt ws.flatten (r + e) = lt v e
 | [], m, h0, h => by simp at h; omega
 | w :: ws, m, h0, h => by
  rw [List.flatten_cons, List.length_append] at h
  rcases Nat.lt_or_ge w.length m with g | g
  ·obtain ⟨v, hv, r, h1, h2, h3⟩ := in_word ws (m - w.length) (by omega) (by omega)
   refine ⟨v, List.mem_cons_of_mem _ hv, w.length + r, by omega, by omega, fun e he => ?_⟩
   rw [List.flatten_cons, ← h3 e he]
   unfold lt
   rw [List.getD_eq_getElem?_getD, List.getD_eq_getElem?_getD, List.getElem?_append_right (by omega), show w.length + r + e - w.length = r + e by omega]
  ·refine ⟨w, by simp, 0, h0, by omega, fun e he => ?_⟩
   rw [List.flatten_cons, Nat.zero_add]
   unfold lt
   rw [List.getD_eq_getElem?_getD, List.getD_eq_getElem?_getD, List.getElem?_append_left he]
theorem fac_first {w : List Int} {ws : List (List Int)} (hw : LynB w = true) (hws : ∀ v ∈ ws, LynB v = true) (hle : ∀ v ∈ ws, ¬ Lt (om w) (om v)) : lynLen (w ++ ws.flatten) (w ++ ws.flatten).length = w.length := by
 have hpos := ((LynB_iff w).1 hw).1
 refine lynLen_eq (by rw [List.take_left']; exact hw; rfl) _ (by simp) fun m h1 h2 => ?_
 cases hb : LynB ((w ++ ws.flatten).take m) with
 | false => rfl
 | true =>
  exfalso
  rw [List.length_append] at h2
  obtain ⟨v, hv, r, r1, r2, r3⟩ := in_word ws (m - w.length) (by omega) (by omega)
  have hml : ((w ++ ws.flatten).take m).length = m := by rw [List.length_take, List.length_append]; omega
  obtain ⟨d, d1, d2, d3⟩ := LynB_at hb (r := w.length + r) (by omega) (by omega)
  rw [hml] at d1
  have hs : ∀ e, e < m → lt ((w ++ ws.flatten).take m) e = lt (w ++ ws.flatten) e := fun e he => lt_take he
  have hsw : ∀ e, e < w.length → lt (w ++ ws.flatten) e = lt w e := fun e he => by
   unfold lt
   rw [List.getD_eq_getElem?_getD, List.getD_eq_getElem?_getD, List.getElem?_append_left he]
  have hsv : ∀ e, e < v.length → lt (w ++ ws.flatten) (w.length + r + e) = lt v e := fun e he => by
   rw [← r3 e he]
   unfold lt
   rw [List.getD_eq_getElem?_getD, List.getD_eq_getElem?_getD, List.getElem?_append_right (by omega), show w.length + r + e - w.length = r + e by omega]
  have hlv := hws v hv
  have q2 : ∀ e, e < d → lt (w ++ ws.flatten) e = lt v e := fun e he => by
   have := d2 e he
   rwa [hs _ (by omega), hs _ (by omega), hsv e (by omega)] at this
  have q3 : lt (w ++ ws.flatten) d < lt v d := by rwa [hs _ (by omega), hs _ (by omega), hsv d (by omega)] at d3
  rcases Nat.lt_or_ge d w.length with g | g
  ·refine hle v hv ⟨d, fun e he => ?_, ?_⟩
   ·rw [om_at (w := w) (by omega), om_at (w := v) (by omega), ← q2 e he, hsw e (by omega)]
   ·rw [om_at (w := w) g, om_at (w := v) (by omega), ← hsw d g]
    exact q3
  ·exact hle v hv (longer hpos hlv (by omega) fun e he => by rw [← q2 e (by omega), hsw e he])
theorem fac_all : ∀ {ws : List (List Int)}, (∀ v ∈ ws, LynB v = true) → ws.Pairwise (fun a b => ¬ Lt (om a) (om b)) → facL ws.flatten = ws.map fun w => (w.length : Int)
 | [], _, _ => facL_nil rfl
 | w :: ws, hl, hp => by
  obtain ⟨h1, h2⟩ := List.pairwise_cons.1 hp
  have hw := hl w (by simp)
  have hpos := ((LynB_iff w).1 hw).1
  have hf := fac_first hw (fun v hv => hl v (List.mem_cons_of_mem _ hv)) h1
  rw [List.flatten_cons, facL_cons (by rw [List.length_append]; omega), hf, List.drop_left', List.map_cons, fac_all (fun v hv => hl v (List.mem_cons_of_mem _ hv)) h2]
  rfl
theorem ps_map_len (ws : List (List Int)) (k : Nat) : ps (ws.map fun w => (w.length : Int)) k = ((ws.take k).flatten.length : Int) := by
 unfold ps
 rw [Int.toNat_natCast, ← List.map_take]
 induction ws.take k with
 | nil => rfl
 | cons w l ih => rw [List.map_cons, List.sum_cons, ih, List.flatten_cons, List.length_append]; omega
theorem cut_words (ws : List (List Int)) : wordsK ws.flatten (ws.map fun w => (w.length : Int)) ws.length = ws := by
 refine List.ext_getElem (by rw [wordsK_len]; omega) fun k h1 h2 => ?_
 simp only [wordsK, List.getElem_map, List.getElem_range]
 rw [ps_map_len, Int.toNat_natCast, rd_get (by rw [List.length_map]; exact h2), List.getElem_map, Int.toNat_natCast]
 have e : ws.flatten = (ws.take k).flatten ++ (ws[k] ++ (ws.drop (k + 1)).flatten) := by
  conv => lhs; rw [← List.take_append_drop k ws, List.drop_eq_getElem_cons h2]
  rw [List.flatten_append, List.flatten_cons]
 rw [e, List.drop_left' rfl, List.take_left' rfl]
/-- Its factors are these words. -/
theorem bws_words {ws : List (List Int)} (hl : ∀ v ∈ ws, LynB v = true) (hp : ws.Pairwise (fun a b => ¬ Lt (om a) (om b))) : bws ws.flatten = ws := by
 unfold bws
 rw [fac_all hl hp, List.length_map]
 exact cut_words ws
end Go.Pure
/-
 Plain laws: turned without a mark, and back; back, and turned. Own work.
-/
namespace Go.Pure
open Go Go.Eng
section
variable {l : List Int}
def ringW (l : List Int) : List (List Int) := ((cycL (lfL l)).reverse).map (wordC l)
theorem backL_ring (l : List Int) : backL l (cycL (lfL l)) = (ringW l).flatten := rfl
theorem ring_of (hl : ByteL l) {c : List Int} (hc : c ∈ cycL (lfL l)) : ∃ i : Int, (0 ≤ i ∧ i < l.length) ∧ Ring (lfL l) i c ∧ rd c 0 = i := by
 obtain ⟨i, h, r⟩ := (cycL_I (lfL_perm hl)).ring c hc
 rw [lfL_len] at h
 exact ⟨i, h, r, r.at_ 0 r.pos⟩
theorem ringW_lyn (hl : ByteL l) : ∀ v ∈ ringW l, LynB v = true := fun v hv => by
 obtain ⟨c, hc, rfl⟩ := List.mem_map.1 hv
 obtain ⟨i, h, r, _⟩ := ring_of hl (List.mem_reverse.1 hc)
 exact ring_lyn hl h.1 h.2 r
theorem ringW_down (hl : ByteL l) : (ringW l).Pairwise (fun a b => ¬ Lt (om a) (om b)) := by
 unfold ringW
 rw [List.map_reverse]
 refine List.pairwise_reverse.2 (List.pairwise_map.2 ?_)
 refine List.Pairwise.imp_of_mem (fun {c d} hc hd h => ?_) (cycL_I (lfL_perm hl)).heads
 obtain ⟨i, hi, r, e⟩ := ring_of hl hc
 obtain ⟨k, hk, q, f⟩ := ring_of hl hd
 rw [wordC_om hl hi.1 hi.2 r, wordC_om hl hk.1 hk.2 q]
 exact U_le hl hi.1 (by omega) hk.2
/-- The factors of what is read back are the rings' words. -/
theorem bws_back (hl : ByteL l) : bws (backL l (cycL (lfL l))) = ringW l := by
 rw [backL_ring]
 exact bws_words (ringW_lyn hl) (ringW_down hl)
theorem tw_om {ws : List (List Int)} {w : Int} {j : Nat} : tw ws (w, (j : Int)) = fun d => om (rdl ws w) (j + d) := by
 funext d
 unfold tw om
 simp only [Int.toNat_natCast]
/-- The rows of a ring, from its first one back. -/
theorem ring_perm (hl : ByteL l) {i : Int} {c : List Int} (i0 : 0 ≤ i) (hi : i < l.length) (hc : Ring (lfL l) i c) : ((List.range c.length).map fun j => phit l j i).Perm c := by
 have hpos := hc.pos
 have hback : ∀ j, j < c.length → phit l j i = rd c (((c.length - j) % c.length : Nat) : Int) := fun j hj => by
  rw [ring_back hl i0 hi hc (by omega)]
  rcases Nat.eq_zero_or_pos j with z | z
  ·subst z
   rw [Nat.sub_zero, hc.close, Nat.mod_self, hc.at_ 0 hpos]
   rfl
  ·rw [Nat.mod_eq_of_lt (by omega), hc.at_ _ (by omega)]
 refine perm_all ?_ (fun x hx => ?_) (by simp)
 ·refine List.pairwise_map.2 (List.Pairwise.imp_of_mem (fun {a b} ha hb hab e => ?_) List.nodup_range)
  have ha := List.mem_range.1 ha
  have hb := List.mem_range.1 hb
  rw [hback a ha, hback b hb] at e
  have h1 := Nat.mod_lt (c.length - a) hpos
  have h2 := Nat.mod_lt (c.length - b) hpos
  have := rd_inj hc.nodup (by omega) (by omega) (by omega) (by omega) e
  have e3 : (c.length - a) % c.length = (c.length - b) % c.length := by omega
  refine hab ?_
  rcases Nat.eq_zero_or_pos a with z | z
  ·rcases Nat.eq_zero_or_pos b with y | y
   ·omega
   ·rw [z, Nat.sub_zero, Nat.mod_self, Nat.mod_eq_of_lt (by omega)] at e3; omega
  ·rcases Nat.eq_zero_or_pos b with y | y
   ·rw [y, Nat.sub_zero, Nat.mod_self, Nat.mod_eq_of_lt (by omega)] at e3; omega
   ·rw [Nat.mod_eq_of_lt (by omega), Nat.mod_eq_of_lt (by omega)] at e3; omega
 ·obtain ⟨j, hj, rfl⟩ := List.mem_map.1 hx
  have hj := List.mem_range.1 hj
  have h1 := Nat.mod_lt (c.length - j) hpos
  rw [hback j hj]
  exact rd_mem (by omega) (by omega)
/-- All rotations of the rings' words are the rows. -/
theorem turns_rows (hl : ByteL l) : ∀ k : Nat, k ≤ (cycL (lfL l)).length → ((tlist (ringW l) k).map (tw (ringW l))).Perm (((((cycL (lfL l)).reverse).take k).flatten).map (U l))
 | 0, _ => .refl _
 | k + 1, hk => by
  have ih := turns_rows hl k (by omega)
  have hlt : k < (cycL (lfL l)).reverse.length := by rw [List.length_reverse]; omega
  rw [tlist, List.map_append, List.take_add_one, List.getElem?_eq_getElem hlt, List.flatten_append, List.map_append]
  refine ih.append ?_
  simp only [Option.toList_some, List.flatten_cons, List.flatten_nil, List.append_nil]
  have hmem : (cycL (lfL l)).reverse[k] ∈ cycL (lfL l) := List.mem_reverse.1 (List.getElem_mem hlt)
  have hrw : rdl (ringW l) (k : Int) = wordC l (cycL (lfL l)).reverse[k] := by
   unfold rdl ringW
   rw [Int.toNat_natCast, List.getD_eq_getElem?_getD, List.getElem?_map, List.getElem?_eq_getElem hlt]
   rfl
  generalize (cycL (lfL l)).reverse[k] = c at hmem hrw
  obtain ⟨i, hi, r, _⟩ := ring_of hl hmem
  have h1 := (ring_perm hl hi.1 hi.2 r).map (U l)
  refine List.Perm.trans (.of_eq ?_) h1
  rw [hrw, wordC_len]
  unfold turnsOf
  rw [List.map_map, List.map_map]
  refine List.map_congr_left fun j _ => ?_
  show tw (ringW l) ((k : Int), (j : Int)) = U l (phit l j i)
  rw [tw_om, hrw, wordC_om hl hi.1 hi.2 r]
  funext d
  rw [U_phit]
theorem row_round (hl : ByteL l) {q : Int} (q0 : 0 ≤ q) (hq : q < l.length) : ∃ m : Nat, 0 < m ∧ phit l m q = q := by
 have hp := cycL_perm (lfL_perm hl)
 obtain ⟨c, hc, hqc⟩ := List.mem_flatten.1 (hp.symm.subset (mem_iota.2 ⟨q0, by rw [lfL_len]; exact hq⟩))
 obtain ⟨i, hi, r, _⟩ := ring_of hl hc
 obtain ⟨j, hj, e⟩ := List.mem_map.1 ((ring_perm hl hi.1 hi.2 r).symm.subset hqc)
 refine ⟨c.length, r.pos, ?_⟩
 rw [← e, ← phit_add, Nat.add_comm, phit_add, ring_round hl hi.1 hi.2 r]
theorem phit_mul {q : Int} {m : Nat} (h : phit l m q = q) : ∀ t : Nat, phit l (t * m) q = q
 | 0 => by rw [Nat.zero_mul]; rfl
 | t + 1 => by rw [Nat.succ_mul, phit_add, phit_mul h t, h]
theorem U_last {q : Int} {m t : Nat} (hm : phit l m q = q) (m0 : 0 < m) (t0 : 0 < t) : U l q (m * t - 1) = rd l q := by
 have h := phit_mul hm t
 rw [Nat.mul_comm] at h
 have hpos : 0 < m * t := Nat.mul_pos m0 t0
 have h2 := U_phit (l := l) q (m * t - 1) 0
 rw [Nat.add_zero, U_zero] at h2
 rw [← h2]
 have h3 := phit_add (l := l) q (m * t - 1) 1
 rw [show m * t - 1 + 1 = m * t by omega, h] at h3
 rw [show phi l (phit l (m * t - 1) q) = phit l 1 (phit l (m * t - 1) q) from rfl, ← h3]
end
def byteV : List Int := (List.range 256).map fun c : Nat => (c : Int)
theorem mem_byteV {x : Int} : x ∈ byteV ↔ 0 ≤ x ∧ x < 256 := by
 unfold byteV
 rw [List.mem_map]
 constructor
 ·rintro ⟨c, hc, rfl⟩
  have := List.mem_range.1 hc
  omega
 ·intro h
  exact ⟨x.toNat, List.mem_range.2 (by omega), by omega⟩
theorem byteV_nodup : byteV.Nodup := List.pairwise_map.2 (List.Pairwise.imp (fun h e => h (by omega)) List.nodup_range)
def allW : Nat → List (List Int)
 | 0 => [[]]
 | n + 1 => byteV.flatMap fun c => (allW n).map fun w => c :: w
theorem mem_allW : ∀ {n : Nat} {w : List Int}, w ∈ allW n ↔ w.length = n ∧ ByteL w
 | 0, w => by
  rw [allW, List.mem_singleton]
  exact ⟨fun h => by subst h; exact ⟨rfl, fun x hx => by cases hx⟩, fun h => List.eq_nil_of_length_eq_zero h.1⟩
 | n + 1, w => by
  rw [allW, List.mem_flatMap]
  constructor
  ·rintro ⟨c, hc, hw⟩
   obtain ⟨v, hv, rfl⟩ := List.mem_map.1 hw
   have hv := mem_allW.1 hv
   refine ⟨by simp [hv.1], fun x hx => ?_⟩
   rcases List.mem_cons.1 hx with rfl | hx
   ·exact mem_byteV.1 hc
   ·exact hv.2 x hx
  ·rintro ⟨hl, hb⟩
   cases w with
   | nil => simp at hl
   | cons c v => exact ⟨c, mem_byteV.2 (hb c (by simp)), List.mem_map.2 ⟨v, mem_allW.2 ⟨by simpa using hl, fun x hx => hb x (List.mem_cons_of_mem _ hx)⟩, rfl⟩⟩
theorem allW_nodup : ∀ n : Nat, (allW n).Nodup
 | 0 => by rw [allW]; exact List.pairwise_singleton _ _
 | n + 1 => by
  rw [allW]
  refine List.pairwise_flatMap.2 ⟨fun c _ => List.pairwise_map.2 ((allW_nodup n).imp fun h e => h (List.cons.inj e).2), byteV_nodup.imp fun {c d} h x hx y hy e => ?_⟩
  obtain ⟨v, _, rfl⟩ := List.mem_map.1 hx
  obtain ⟨w, _, rfl⟩ := List.mem_map.1 hy
  exact h (List.cons.inj e).1
/-- What is read back tells what it was read from. -/
theorem back_inj {l k : List Int} (hl : ByteL l) (hk : ByteL k) (hlen : l.length = k.length) (h : backL l (cycL (lfL l)) = backL k (cycL (lfL k))) : l = k := by
 have hw : ringW l = ringW k := by rw [← bws_back hl, ← bws_back hk, h]
 have all : ∀ {x : List Int}, ByteL x → ((tlist (ringW x) (ringW x).length).map (tw (ringW x))).Perm ((iota x.length).map (U x)) := fun {x} hx => by
  have hlx : (ringW x).length = (cycL (lfL x)).length := by unfold ringW; rw [List.length_map, List.length_reverse]
  rw [hlx]
  refine (turns_rows hx _ (Nat.le_refl _)).trans ?_
  rw [List.take_of_length_le (by rw [List.length_reverse]; exact Nat.le_refl _)]
  have hc := cycL_perm (lfL_perm hx)
  rw [lfL_len] at hc
  exact (((List.reverse_perm _).flatten).trans hc).map _
 have srt : ∀ {x : List Int}, ByteL x → ((iota x.length).map (U x)).Pairwise fun a b => ¬ Lt b a := fun {x} hx => List.pairwise_map.2 (List.Pairwise.imp_of_mem (fun {i k} hi hk h => by
  have hi := mem_iota.1 hi
  have hk := mem_iota.1 hk
  exact U_le hx hi.1 (Int.le_of_lt h) hk.2) (iota_inc x.length))
 have h1 := all hl
 rw [hw] at h1
 have same : (iota l.length).map (U l) = (iota k.length).map (U k) := (h1.symm.trans (all hk)).eq_of_pairwise (fun a b _ _ x y => by
  rcases lt_tri a b with z | z | z
  ·exact absurd z y
  ·exact funext z
  ·exact absurd z x) (srt hl) (srt hk)
 refine list_ext_rd hlen fun q q0 q1 => ?_
 have at_ : ∀ {x : List Int}, q < x.length → ((iota x.length).map (U x))[q.toNat]? = some (U x q) := fun {x} hx => by
  rw [List.getElem?_map, List.getElem?_eq_getElem (by rw [iota_len]; omega)]
  have := rd_iota (n := x.length) q0 hx
  rw [rd_getI q0 (by rw [iota_len]; omega)] at this
  rw [this]
  rfl
 have e := at_ q1
 rw [same, at_ (by omega)] at e
 have eU : U k q = U l q := Option.some.inj e
 obtain ⟨m, m0, hm⟩ := row_round hl q0 q1
 obtain ⟨m', m0', hm'⟩ := row_round hk q0 (by omega : q < k.length)
 have a := U_last hm m0 m0'
 have b := U_last hm' m0' m0
 rw [Nat.mul_comm, eU, a] at b
 exact b
/-- All texts are read back from one. -/
theorem back_onto {s : List Int} (hs : ByteL s) : ∃ l : List Int, ByteL l ∧ l.length = s.length ∧ backL l (cycL (lfL l)) = s := by
 have hp : ((allW s.length).map fun l => backL l (cycL (lfL l))).Perm (allW s.length) := by
  refine perm_all ?_ (fun x hx => ?_) (by simp)
  ·refine List.pairwise_map.2 (List.Pairwise.imp_of_mem (fun {a b} ha hb hab e => ?_) (allW_nodup _))
   have ha := mem_allW.1 ha
   have hb := mem_allW.1 hb
   exact hab (back_inj ha.2 hb.2 (by omega) e)
  ·obtain ⟨l, hl, rfl⟩ := List.mem_map.1 hx
   have hl := mem_allW.1 hl
   exact mem_allW.2 ⟨by rw [backL_len, cycL_all (lfL_perm hl.2), lfL_len, hl.1], backL_byt hl.2 _⟩
 obtain ⟨l, hl, e⟩ := List.mem_map.1 (hp.symm.subset (mem_allW.2 ⟨rfl, hs⟩))
 have hl := mem_allW.1 hl
 exact ⟨l, hl.2, hl.1, e⟩
end Go.Pure

/-! ## Q38 -/
namespace Go.Pure
open Go Go.Eng
def ER (w : List Int) : List (Nat → Int) := (List.range w.length).map fun j => rot w j
def EW (ws : List (List Int)) : List (Nat → Int) := ws.flatMap ER
theorem tlist_EW (ws : List (List Int)) : ∀ k : Nat, k ≤ ws.length → (tlist ws k).map (tw ws) = EW (ws.take k)
 | 0, _ => rfl
 | k + 1, hk => by
  have ih := tlist_EW ws k (by omega)
  rw [tlist, List.map_append, ih, List.take_add_one, List.getElem?_eq_getElem (by omega)]
  unfold EW
  rw [List.flatMap_append]
  congr 1
  simp only [Option.toList_some, List.flatMap_cons, List.flatMap_nil, List.append_nil]
  have e : rdl ws (k : Int) = ws[k] := by
   unfold rdl
   rw [Int.toNat_natCast, List.getD_eq_getElem?_getD, List.getElem?_eq_getElem (by omega)]
   rfl
  unfold turnsOf ER
  rw [List.map_map, e]
  refine List.map_congr_left fun j _ => ?_
  show tw ws ((k : Int), (j : Int)) = rot ws[k] j
  rw [tw_om, e]
  rfl
theorem EW_app (a b : List (List Int)) : EW (a ++ b) = EW a ++ EW b := List.flatMap_append
theorem EW_perm {a b : List (List Int)} (h : a.Perm b) : (EW a).Perm (EW b) := h.flatMap_right _
theorem rot_add (u : List Int) (q : Nat) : rot u (q + u.length) = rot u q := by
 rw [← rot_mod (q + u.length), Nat.add_mod_right, rot_mod]
theorem rot_addm (u : List Int) (q k : Nat) : rot u (k * u.length + q) = rot u q := by
 rw [← rot_mod (k * u.length + q), Nat.add_comm, Nat.add_mul_mod_self_right, rot_mod]
theorem ER_turn {w : List Int} {r : Nat} (hr : r ≤ w.length) (hn : 0 < w.length) : (ER (turnS w r)).Perm (ER w) := by
 have hl := turnS_len w r
 have e : ER (turnS w r) = (ER w).drop r ++ (ER w).take r := by
  refine List.ext_getElem (by unfold ER; simp [hl]; omega) fun j h1 h2 => ?_
  unfold ER at h1 h2 ⊢
  rw [List.length_map, List.length_range, hl] at h1
  rw [List.getElem_map, List.getElem_range, rot_rot hr hn]
  rcases Nat.lt_or_ge j (w.length - r) with g | g
  ·rw [List.getElem_append_left (by simp; exact g), List.getElem_drop, List.getElem_map, List.getElem_range]
  ·rw [List.getElem_append_right (by simp; omega), List.getElem_take, List.getElem_map, List.getElem_range]
   simp only [List.length_drop, List.length_map, List.length_range]
   rw [← rot_add w (j - (w.length - r))]
   congr 1
   omega
 rw [e]
 refine List.perm_append_comm.trans ?_
 rw [List.take_append_drop]
theorem rot_rep {r : List Int} {k : Nat} (hr : 0 < r.length) (hk : 0 < k) (q : Nat) : rot (rep r k) q = rot r q := by
 funext d
 show om (rep r k) (q + d) = om r (q + d)
 exact om_rep hr hk _
theorem ER_rep {r : List Int} {k : Nat} (hr : 0 < r.length) (hk : 0 < k) : ER (rep r k) = EW (List.replicate k r) := by
 have h1 : ∀ m : Nat, (List.range (m * r.length)).map (fun j => rot r j) = EW (List.replicate m r) := fun m => by
  induction m with
  | zero => simp [EW]
  | succ m ih =>
   rw [List.replicate_succ', EW_app, Nat.succ_mul, List.range_add, List.map_append, ih, List.map_map]
   congr 1
   unfold EW ER
   simp only [List.flatMap_cons, List.flatMap_nil, List.append_nil]
   exact List.map_congr_left fun j _ => rot_addm r j m
 rw [← h1 k]
 unfold ER
 rw [rep_length, Int.toNat_natCast]
 exact List.map_congr_left fun j _ => rot_rep hr hk j
/-- The rings' roots, each asx often asx it is there. -/
def expR (rs : List RT) : List (List Int) := rs.flatMap fun r => List.replicate r.2.toNat r.1
def exs (ws : List (List Int)) : List (List Int) := expR (ringS ws)
theorem ER_ring {w : List Int} (hw : 0 < w.length) : (ER w).Perm (EW (List.replicate (ringOf w).2.toNat (ringOf w).1)) := by
 have hb := lrot_bd w
 have hl := lw_len w
 have h1 : (ER (lw w)).Perm (ER w) := by
  have := ER_turn (w := w) (r := (lrot w).toNat) (by omega) hw
  rwa [Int.toNat_of_nonneg hb.1] at this
 have h2 := unring_root (c := lw w) (by omega)
 have ht := times_pos (c := lw w) (by omega)
 have hr := root_len (c := lw w) (by omega)
 have hp := rl_range (u := lw w) (by omega)
 have h3 := ER_rep (r := rootW (lw w)) (k := (timesW (lw w)).toNat) (by omega) (by omega)
 rw [Int.toNat_of_nonneg (by omega), h2] at h3
 rw [h3] at h1
 exact h1.symm
theorem EW_rings : ∀ ws : List (List Int), (EW ws).Perm (EW (expR (ringsOf ws)))
 | [] => .refl _
 | w :: ws => by
  have ih := EW_rings ws
  rw [show w :: ws = [w] ++ ws from rfl, EW_app, ringsOf_append]
  unfold expR
  rw [List.flatMap_append, EW_app]
  refine List.Perm.append ?_ ih
  by_cases h : 0 < w.length
  ·have e : ringsOf [w] = [ringOf w] := by unfold ringsOf; simp [h]
   rw [e]
   have := ER_ring h
   unfold EW at this ⊢
   simpa using this
  ·have e : ringsOf [w] = [] := by unfold ringsOf; simp [h]
   have e2 : w = [] := List.eq_nil_of_length_eq_zero (by omega)
   rw [e, e2]
   unfold EW ER
   simp
theorem EW_exs (ws : List (List Int)) : (EW ws).Perm (EW (exs ws)) := by
 refine (EW_rings ws).trans (EW_perm ?_)
 unfold exs expR
 exact (ringS_perm ws).symm.flatMap_right _
theorem root_lyn {w : List Int} (hw : 0 < w.length) : LynB (ringOf w).1 = true := by
 have hc : 0 < (lw w).length := by rw [lw_len]; exact hw
 generalize hcd : lw w = c at hc
 have hz : lrot c = 0 := by rw [← hcd]; exact lrot_lw w
 have hle : ∀ q, ¬ Lt (rot c q) (om c) := fun q => by
  have fl := lrot_FL hc
  have := fl.any q
  have e0 : lrotK c c.length = 0 := by
   have : (lrotK c c.length : Int) = 0 := hz
   omega
  rw [e0] at this
  have e1 : rot c 0 = om c := by funext d; show om c (0 + d) = _; rw [Nat.zero_add]
  rwa [e1] at this
 obtain ⟨p, hp, p1, p2, ho, hmin⟩ := rl_spec hc
 have hroot : (ringOf w).1 = c.take p := by
  show rootW (lw w) = _
  rw [hcd]
  unfold rootW
  rw [hp]
  rfl
 rw [hroot]
 have hom : om c = om (c.take p) := funext ho
 generalize hr : c.take p = r at hom
 have hrl : r.length = p := by rw [← hr, List.length_take]; omega
 have hrot : ∀ q, rot c q = rot r q := fun q => by
  funext d
  show om c (q + d) = om r (q + d)
  rw [hom]
 have hlt : ∀ j, 0 < j → j < p → Lt (om r) (rot r j) := fun j j0 hj => by
  rcases lt_tri (om r) (rot r j) with a | a | a
  ·exact a
  ·exfalso
   have : Per (om c) j := fun i => by
    have := a i
    rw [hom, this]
    show om r (i + j) = om r (j + i)
    rw [Nat.add_comm]
   have := hmin j j0 this
   omega
  ·have := hle j
   rw [hrot, hom] at this
   exact absurd a this
 rw [LynB_iff]
 refine ⟨by omega, fun j j0 hj => ?_⟩
 rw [cmpL_neg_iff _ _ (by rw [List.length_drop]; omega)]
 obtain ⟨d, h1, h2⟩ := hlt j j0 (by omega)
 have hdr : ∀ e, lt (r.drop j) e = lt r (j + e) := fun e => by
  unfold lt
  rw [List.getD_eq_getElem?_getD, List.getD_eq_getElem?_getD, List.getElem?_drop]
 have hro : ∀ e, rot r j e = om r (j + e) := fun e => rfl
 rcases Nat.lt_or_ge d (p - j) with g | g
 ·refine ⟨d, by rw [List.length_drop]; omega, fun e he => ?_, ?_⟩
  ·have := h1 e he
   rw [hro, om_lt (by omega), om_lt (by omega)] at this
   rw [hdr]; exact this
  ·rw [hro, om_lt (by omega), om_lt (by omega)] at h2
   rw [hdr]; exact h2
 ·exfalso
  have := hle (p - j)
  rw [hrot, hom] at this
  have hper := om_per r
  rw [hrl] at hper
  refine this ⟨d - (p - j), fun i hi => ?_, ?_⟩
  ·have h3 := h1 (p - j + i) (by omega)
   rw [hro, show j + (p - j + i) = i + p by omega, hper] at h3
   exact h3
  ·have h3 := h2
   rw [hro, show j + d = (d - (p - j)) + p by omega, hper] at h3
   show om r (p - j + (d - (p - j))) < om r (d - (p - j))
   rw [show p - j + (d - (p - j)) = d by omega]
   exact h3
theorem cmpL_split : ∀ a b : List Int, cmpL a b < 0 → (∃ d, d < a.length ∧ d < b.length ∧ (∀ e, e < d → lt a e = lt b e) ∧ lt a d < lt b d) ∨ a.length < b.length ∧ ∀ e, e < a.length → lt a e = lt b e
 | [], [], h => by simp [cmpL] at h
 | [], y :: b, _ => .inr ⟨by simp, fun e he => by simp at he⟩
 | _ :: _, [], h => by simp [cmpL] at h
 | x :: a, y :: b, h => by
  rw [cmpL] at h
  split at h
  ·rename_i c
   exact .inl ⟨0, by simp, by simp, fun e he => by omega, c⟩
  ·split at h
   ·omega
   ·have hxy : x = y := by omega
    rcases cmpL_split a b h with ⟨d, h1, h2, h3, h4⟩ | ⟨h1, h2⟩
    ·refine .inl ⟨d + 1, by simp; omega, by simp; omega, fun e he => ?_, ?_⟩
     ·rcases e with _ | e
      ·exact hxy
      ·exact h3 e (by omega)
     ·exact h4
    ·refine .inr ⟨by simp; omega, fun e he => ?_⟩
     rcases e with _ | e
     ·exact hxy
     ·exact h2 e (by simp at he; omega)
theorem lyn_lt {a b : List Int} (ha : 0 < a.length) (hb : LynB b = true) (h : cmpL a b < 0) : Lt (om a) (om b) := by
 rcases cmpL_split a b h with ⟨d, h1, h2, h3, h4⟩ | ⟨h1, h2⟩
 ·exact ⟨d, fun e he => by rw [om_lt (by omega), om_lt (by omega)]; exact h3 e he, by rw [om_lt h1, om_lt h2]; exact h4⟩
 ·exact longer ha hb h1 fun e he => (h2 e he).symm
theorem lyn_le {a b : List Int} (ha : LynB a = true) (hb : LynB b = true) : cmpL a b ≤ 0 ↔ ¬ Lt (om b) (om a) := by
 have hal := ((LynB_iff a).1 ha).1
 have hbl := ((LynB_iff b).1 hb).1
 constructor
 ·intro h
  rcases Int.lt_or_eq_of_le h with g | g
  ·exact (lyn_lt hal hb g).asymm
  ·rw [(cmpL_eq a b).1 g]; exact fun h => h.asymm h
 ·intro h
  rcases Int.lt_or_le 0 (cmpL a b) with g | g
  ·exact absurd (lyn_lt hbl ha (by rw [cmpL_anti a b]; omega)) h
  ·exact g
theorem rwW_eq (l : List Int) : (cycL (lfL l)).map (wordC l) = (ringW l).reverse := by
 unfold ringW
 rw [List.map_reverse, List.reverse_reverse]
theorem EW_rows {l : List Int} (hl : ByteL l) : (EW (ringW l)).Perm ((iota l.length).map (U l)) := by
 have hlen : (ringW l).length = (cycL (lfL l)).length := by unfold ringW; rw [List.length_map, List.length_reverse]
 have h0 := tlist_EW (ringW l) (ringW l).length (Nat.le_refl _)
 rw [List.take_length] at h0
 rw [← h0, hlen]
 refine (turns_rows hl _ (Nat.le_refl _)).trans ?_
 rw [List.take_of_length_le (by rw [List.length_reverse]; exact Nat.le_refl _)]
 have hc := cycL_perm (lfL_perm hl)
 rw [lfL_len] at hc
 exact (((List.reverse_perm _).flatten).trans hc).map _
/-- Words whose rotations are the rows turn to the bytes. -/
theorem turn_any {l : List Int} (hl : ByteL l) {ws : List (List Int)} {T : List (Int × Int)} (hp : T.Perm (tlist ws ws.length)) (ho : T.Pairwise (ordO ws)) (hE : (EW ws).Perm (EW (ringW l))) : T.map (lastB ws) = l := by
 have h1 : (T.map (tw ws)).Perm ((iota l.length).map (U l)) := by
  refine (hp.map _).trans ?_
  have h0 := tlist_EW ws ws.length (Nat.le_refl _)
  rw [List.take_length] at h0
  rw [h0]
  exact hE.trans (EW_rows hl)
 have s1 : (T.map (tw ws)).Pairwise fun a b => ¬ Lt b a := List.pairwise_map.2 (ho.imp fun {t u} h hlt => by
  rcases h with h | h
  ·exact h.asymm hlt
  ·exact hlt.not_eq fun i => (h.1 i).symm)
 have s2 : ((iota l.length).map (U l)).Pairwise fun a b => ¬ Lt b a := List.pairwise_map.2 (List.Pairwise.imp_of_mem (fun {i k} hi hk h => by
  have hi := mem_iota.1 hi
  have hk := mem_iota.1 hk
  exact U_le hl hi.1 (Int.le_of_lt h) hk.2) (iota_inc l.length))
 have same : T.map (tw ws) = (iota l.length).map (U l) := h1.eq_of_pairwise (fun a b _ _ x y => by
  rcases lt_tri a b with z | z | z
  ·exact absurd z y
  ·exact funext z
  ·exact absurd z x) s1 s2
 have hTl : T.length = l.length := by
  have := congrArg List.length same
  rwa [List.length_map, List.length_map, iota_len] at this
 refine list_ext_rd (by rw [List.length_map]; exact hTl) fun q q0 q1 => ?_
 rw [List.length_map] at q1
 rw [rd_mapP q0 q1]
 have hv := mem_all.1 (hp.subset (rdp_mem (l := T) q0 q1))
 have hU : tw ws (rdp T q) = U l q := by
  have e1 : (T.map (tw ws))[q.toNat]? = some (tw ws (rdp T q)) := by
   rw [List.getElem?_map, List.getElem?_eq_getElem (by omega)]
   unfold rdp
   rw [List.getD_eq_getElem?_getD, List.getElem?_eq_getElem (by omega)]
   rfl
  have e2 : ((iota l.length).map (U l))[q.toNat]? = some (U l q) := by
   rw [List.getElem?_map, List.getElem?_eq_getElem (by rw [iota_len]; omega)]
   have := rd_iota (n := l.length) q0 (by omega)
   rw [rd_getI q0 (by rw [iota_len]; omega)] at this
   rw [this]
   rfl
  rw [same, e2] at e1
  exact (Option.some.inj e1).symm
 obtain ⟨m, m0, hm⟩ := row_round hl q0 (by omega : q < l.length)
 obtain ⟨a1, a2, a3, a4⟩ := hv
 have hw0 : 0 < (rdl ws (rdp T q).1).length := by omega
 generalize hwl : (rdl ws (rdp T q).1).length = wl at hw0 a4
 have hlast : U l q (m * wl - 1) = rd l q := U_last hm m0 hw0
 rw [← hlast, ← hU]
 have hpos : 0 < m * wl := Nat.mul_pos m0 hw0
 unfold lastB tw rd
 rw [hwl]
 congr 1
 obtain ⟨j, hj⟩ : ∃ j : Nat, (rdp T q).2 = j := ⟨(rdp T q).2.toNat, by omega⟩
 rw [hj, Int.toNat_natCast, show (j : Int) + (wl : Int) - 1 = ((j + wl - 1 : Nat) : Int) by omega, ← Int.natCast_emod, Int.toNat_natCast]
 have e : j + (m * wl - 1) = (j + wl - 1) + wl * (m - 1) := by
  obtain ⟨m', rfl⟩ : ∃ m', m = m' + 1 := ⟨m - 1, by omega⟩
  rw [Nat.succ_mul, Nat.add_sub_cancel, Nat.mul_comm wl m']
  omega
 rw [e, Nat.add_mul_mod_self_left]
theorem exs_lyn {ws : List (List Int)} : ∀ v ∈ exs ws, LynB v = true := fun v hv => by
 obtain ⟨r, hr, h⟩ := List.mem_flatMap.1 hv
 obtain ⟨_, rfl⟩ := List.mem_replicate.1 h
 obtain ⟨w, _, hw, rfl⟩ := mem_ringS hr
 exact root_lyn hw
theorem expR_sorted : ∀ {rs : List RT}, rs.Pairwise (fun a b => kcmp a b ≤ 0) → (expR rs).Pairwise fun a b => cmpL a b ≤ 0
 | [], _ => .nil
 | r :: rs, h => by
  obtain ⟨h1, h2⟩ := List.pairwise_cons.1 h
  have ih := expR_sorted h2
  show (List.replicate r.2.toNat r.1 ++ expR rs).Pairwise _
  rw [List.pairwise_append]
  refine ⟨List.pairwise_replicate.2 (.inr (by rw [(cmpL_eq r.1 r.1).2 rfl]; omega)), ih, fun a ha b hb => ?_⟩
  obtain ⟨_, rfl⟩ := List.mem_replicate.1 ha
  obtain ⟨q, hq, hqb⟩ := List.mem_flatMap.1 hb
  obtain ⟨_, rfl⟩ := List.mem_replicate.1 hqb
  have := kcmp_le_iff.1 (h1 q hq)
  rcases this with g | g
  ·omega
  ·rw [(cmpL_eq _ _).2 g.1]; omega
theorem exs_bytes {ws : List (List Int)} (hb : ∀ w ∈ ws, ByteL w) : ∀ v ∈ exs ws, ByteL v := fun v hv => by
 obtain ⟨r, hr, h⟩ := List.mem_flatMap.1 hv
 obtain ⟨_, rfl⟩ := List.mem_replicate.1 h
 obtain ⟨w, h1, hw, rfl⟩ := mem_ringS hr
 have h2 := hb w h1
 exact (ByteL.append (h2.drop _) (h2.take _)).take _
/-- Of words turned the rings' words are their roots. -/
theorem turned_ext {ws : List (List Int)} (hb : ∀ w ∈ ws, ByteL w) {T : List (Int × Int)} (hp : T.Perm (tlist ws ws.length)) (ho : T.Pairwise (ordO ws)) : (cycL (lfL (T.map (lastB ws)))).map (wordC (T.map (lastB ws))) = exs ws ∧ ∀ (xs : List (List Int)) (T' : List (Int × Int)), exs xs = exs ws → T'.Perm (tlist xs xs.length) → T'.Pairwise (ordO xs) → T'.map (lastB xs) = T.map (lastB ws) := by
 have hlyn : ∀ v ∈ (exs ws).reverse, LynB v = true := fun v hv => exs_lyn v (List.mem_reverse.1 hv)
 have hdown : (exs ws).reverse.Pairwise fun a b => ¬ Lt (om a) (om b) := List.pairwise_reverse.2 (List.Pairwise.imp_of_mem (fun {a b} ha hb h => (lyn_le (exs_lyn a ha) (exs_lyn b hb)).1 h) (expR_sorted (ringS_sorted ws)))
 have hbs : ByteL (exs ws).reverse.flatten := fun x hx => by
  obtain ⟨v, hv, hxv⟩ := List.mem_flatten.1 hx
  exact exs_bytes hb v (List.mem_reverse.1 hv) x hxv
 have hbw := bws_words hlyn hdown
 obtain ⟨l, hl, _, hback⟩ := back_onto hbs
 have hrw : ringW l = (exs ws).reverse := by rw [← bws_back hl, hback, hbw]
 have hE : ∀ xs : List (List Int), exs xs = exs ws → (EW xs).Perm (EW (ringW l)) := fun xs e => by
  refine (EW_exs xs).trans ?_
  rw [hrw, e]
  exact EW_perm (List.reverse_perm _).symm
 have hT := turn_any hl hp ho (hE ws rfl)
 rw [hT]
 exact ⟨by rw [rwW_eq, hrw, List.reverse_reverse], fun xs T' e hp' ho' => turn_any hl hp' ho' (hE xs e)⟩
end Go.Pure

/-! ## Q39 -/
namespace Go.Pure
open Go Go.Eng
def backE : List (List Int) → List Int → Int → List Int → Option (List (List Int))
 | all, _, _, [] => if 0 < all.length then none else some []
 | all, last, many, n :: ts => if n < 1 ∨ (all.length : Int) < n then none else if rdl all (n - 1) ≠ rdl all 0 ∨ last = rdl all 0 ∧ n < many then none else (backE (all.drop n.toNat) (rdl all 0) n ts).map fun p => rep (rdl all 0) n :: p
def refB : List (List Int) → List Int → Option (List (List Int) × List (List Int))
 | all, [] => some ([], all)
 | all, n :: ts => if n < 1 ∨ (all.length : Int) < n then none else (refB (all.drop n.toNat) ts).map fun p => ((all.take n.toNat).flatten :: p.1, p.2)
theorem rdl_rep_app {n : Nat} {r : List Int} {e : List (List Int)} {i : Int} (h0 : 0 ≤ i) (h1 : i < n) : rdl (List.replicate n r ++ e) i = r := by
 unfold rdl
 rw [List.getD_eq_getElem?_getD, List.getElem?_append_left (by rw [List.length_replicate]; omega), List.getElem?_replicate, if_pos (by omega)]
 rfl
theorem expR_cons (r : RT) (rs : List RT) : expR (r :: rs) = List.replicate r.2.toNat r.1 ++ expR rs := rfl
theorem exp_back : ∀ {rs : List RT} {last : List Int} {many : Int}, rs.Pairwise (fun a b => kcmp a b ≤ 0) → (∀ r ∈ rs, 1 ≤ r.2) → (∀ r ∈ rs, last = r.1 → many ≤ r.2) → backE (expR rs) last many (rs.map Prod.snd) = some (rs.map unring)
 | [], _, _, _, _, _ => rfl
 | r :: rs, last, many, hs, h1, hl => by
  obtain ⟨s1, s2⟩ := List.pairwise_cons.1 hs
  have hr := h1 r (.head _)
  rw [expR_cons, List.map_cons, backE]
  have hlen : (List.replicate r.2.toNat r.1 ++ expR rs).length = r.2.toNat + (expR rs).length := by simp
  rw [if_neg (by omega), rdl_rep_app (by omega) (by omega), rdl_rep_app (by omega) (by omega)]
  rw [if_neg (by
   rintro (h | ⟨h, h2⟩)
   ·exact h rfl
   ·have := hl r (.head _) h; omega)]
  rw [List.drop_left' (by simp), exp_back s2 (fun q hq => h1 q (.tail _ hq)) (fun q hq e => by
   have := kcmp_le_iff.1 (s1 q hq)
   rcases this with g | g
   ·rw [(cmpL_eq r.1 q.1).2 e] at g; omega
   ·exact g.2)]
  rfl
theorem back_exp : ∀ {ts : List Int} {all ws : List (List Int)} {last : List Int} {many : Int}, all.Pairwise (fun a b => cmpL a b ≤ 0) → (∀ a ∈ all, cmpL last a ≤ 0) → backE all last many ts = some ws → ∃ rs : List RT, all = expR rs ∧ ts = rs.map Prod.snd ∧ ws = rs.map unring ∧ (∀ r ∈ rs, 1 ≤ r.2) ∧ rs.Pairwise (fun a b => kcmp a b ≤ 0) ∧ ∀ r ∈ rs, kcmp (last, many) r ≤ 0
 | [], all, ws, last, many, _, _, h => by
  rw [backE] at h
  split at h
  ·cases h
  ·rename_i c
   obtain rfl := Option.some.inj h
   obtain rfl := List.eq_nil_of_length_eq_zero (show all.length = 0 by omega)
   refine ⟨[], rfl, rfl, ?_, ?_, List.Pairwise.nil, ?_⟩
   ·rfl
   ·intro r hr; cases hr
   ·intro r hr; cases hr
 | n :: ts, all, ws, last, many, hs, hl, h => by
  rw [backE] at h
  split at h
  ·cases h
  rename_i c1
  split at h
  ·cases h
  rename_i c2
  obtain ⟨ws', h', rfl⟩ := Option.map_eq_some_iff.1 h
  have hg : ∀ i : Int, 0 ≤ i → i < all.length → rdl all i = all.getD i.toNat [] := fun i _ _ => rfl
  have hroot : rdl all 0 ∈ all := by
   unfold rdl
   rw [List.getD_eq_getElem?_getD, List.getElem?_eq_getElem (by omega)]
   exact List.getElem_mem _
  have hge : ∀ i, (hi : i < all.length) → cmpL (rdl all 0) all[i] ≤ 0 := fun i hi => by
   have e0 : rdl all 0 = all[0]'(by omega) := by
    unfold rdl
    rw [List.getD_eq_getElem?_getD, List.getElem?_eq_getElem (by omega)]
    rfl
   rw [e0]
   rcases Nat.eq_zero_or_pos i with z | z
   ·subst z; rw [(cmpL_eq _ _).2 rfl]; omega
   ·exact List.pairwise_iff_getElem.1 hs 0 i (by omega) hi z
  have hd : (all.drop n.toNat).Pairwise fun a b => cmpL a b ≤ 0 := hs.sublist (List.drop_sublist _ _)
  have hd2 : ∀ a ∈ all.drop n.toNat, cmpL (rdl all 0) a ≤ 0 := fun a ha => by
   obtain ⟨i, hi, rfl⟩ := List.mem_iff_getElem.1 (List.mem_of_mem_drop ha)
   exact hge i hi
  obtain ⟨rs, e1, e2, e3, e4, e5, e6⟩ := back_exp hd hd2 h'
  have hblock : all.take n.toNat = List.replicate n.toNat (rdl all 0) := by
   refine List.ext_getElem (by rw [List.length_take, List.length_replicate]; omega) fun i h1 h2 => ?_
   rw [List.length_take] at h1
   rw [List.getElem_take, List.getElem_replicate]
   have a1 := hge i (by omega)
   have eN : rdl all (n - 1) = all[(n - 1).toNat]'(by omega) := by
    unfold rdl
    rw [List.getD_eq_getElem?_getD, List.getElem?_eq_getElem (by omega)]
    rfl
   have hq : rdl all (n - 1) = rdl all 0 := by
    rcases Classical.em (rdl all (n - 1) = rdl all 0) with g | g
    ·exact g
    ·exact absurd (.inl g) c2
   have a2 : cmpL all[i] (rdl all 0) ≤ 0 := by
    rw [← hq, eN]
    rcases Nat.lt_or_ge i (n - 1).toNat with g | g
    ·exact List.pairwise_iff_getElem.1 hs i (n - 1).toNat (by omega) (by omega) g
    ·have : i = (n - 1).toNat := by omega
     subst this
     rw [(cmpL_eq _ _).2 rfl]; omega
   rw [cmpL_anti (rdl all 0)] at a2
   exact ((cmpL_eq _ _).1 (by omega)).symm
  have hk : kcmp (last, many) (rdl all 0, n) ≤ 0 := by
   rw [kcmp_le_iff]
   have := hl _ hroot
   rcases Int.lt_or_eq_of_le this with g | g
   ·exact .inl g
   ·refine .inr ⟨(cmpL_eq _ _).1 g, ?_⟩
    rcases Int.lt_or_le n many with q | q
    ·exact absurd (.inr ⟨(cmpL_eq _ _).1 g, q⟩) c2
    ·exact q
  refine ⟨(rdl all 0, n) :: rs, ?_, by rw [e2]; rfl, by rw [e3]; rfl, fun r hr => ?_, List.pairwise_cons.2 ⟨e6, e5⟩, fun r hr => ?_⟩
  ·rw [expR_cons, ← e1, ← hblock, List.take_append_drop]
  ·rcases List.mem_cons.1 hr with rfl | hr
   ·show 1 ≤ n; omega
   ·exact e4 r hr
  ·rcases List.mem_cons.1 hr with rfl | hr
   ·exact hk
   ·exact kcmp_le _ _ _ hk (e6 r hr)
def ExtR (ws : List (List Int)) (L TS : List Int) (e : Int) : Prop :=
 (e = 2 ∧ (1000 < ws.length ∨ 100000 < ws.flatten.length) ∧ L = [] ∧ TS = []) ∨
 (¬ (1000 < ws.length ∨ 100000 < ws.flatten.length) ∧ e = 1 ∧ (∃ w ∈ ws, w.length = 0) ∧ L = [] ∧ TS = []) ∨
 (¬ (1000 < ws.length ∨ 100000 < ws.flatten.length) ∧ e = 0 ∧ (∀ w ∈ ws, 0 < w.length) ∧ (∃ T : List (Int × Int), T.Perm (tlist ws ws.length) ∧ T.Pairwise (ordO ws) ∧ L = T.map (lastB ws)) ∧ TS = (ringS ws).map Prod.snd)
theorem ExtR.same {ws xs : List (List Int)} {L L' TS TS' : List Int} {e e' : Int} (h : ExtR ws L TS e) (h' : ExtR xs L' TS' e') (hb : ∀ w ∈ ws, ByteL w) (hl : xs.length = ws.length) (hf : xs.flatten.length = ws.flatten.length) (hz : (∃ w ∈ xs, w.length = 0) ↔ ∃ w ∈ ws, w.length = 0) (hr : (ringsOf xs).Perm (ringsOf ws)) : e' = e ∧ L' = L ∧ TS' = TS := by
 have hS := ringS_congr hr
 unfold ExtR at h'
 rw [hl, hf, hz, hS] at h'
 rcases h with ⟨rfl, c, rfl, rfl⟩ | ⟨c, rfl, d, rfl, rfl⟩ | ⟨c, rfl, d, ⟨T, hp, ho, rfl⟩, rfl⟩
 ·rcases h' with ⟨rfl, _, rfl, rfl⟩ | ⟨c', _⟩ | ⟨c', _⟩
  ·exact ⟨rfl, rfl, rfl⟩
  ·exact absurd c c'
  ·exact absurd c c'
 ·rcases h' with ⟨_, c', _⟩ | ⟨_, rfl, _, rfl, rfl⟩ | ⟨_, _, d', _⟩
  ·exact absurd c' c
  ·exact ⟨rfl, rfl, rfl⟩
  ·have d2 := hz.2 d
   obtain ⟨w, hw, e⟩ := d2
   have := d' w hw
   omega
 ·rcases h' with ⟨_, c', _⟩ | ⟨_, _, d', _⟩ | ⟨_, rfl, _, ⟨T', hp', ho', rfl⟩, rfl⟩
  ·exact absurd c' c
  ·obtain ⟨w, hw, e⟩ := d'
   have := d w hw
   omega
  ·refine ⟨rfl, (turned_ext hb hp ho).2 xs T' (by unfold exs; rw [hS]) (by rw [hl] at *; exact hp') ho', rfl⟩
theorem ExtR.one {ws : List (List Int)} {L L' TS TS' : List Int} {e e' : Int} (h : ExtR ws L TS e) (h' : ExtR ws L' TS' e') (hb : ∀ w ∈ ws, ByteL w) : e' = e ∧ L' = L ∧ TS' = TS := h.same h' hb rfl rfl Iff.rfl (.refl _)
theorem wordC_lyn {l : List Int} (hl : ByteL l) : ∀ v ∈ (cycL (lfL l)).map (wordC l), LynB v = true := fun v hv => by
 rw [rwW_eq] at hv
 exact ringW_lyn hl v (List.mem_reverse.1 hv)
theorem wordC_up {l : List Int} (hl : ByteL l) : ((cycL (lfL l)).map (wordC l)).Pairwise fun a b => cmpL a b ≤ 0 := by
 rw [rwW_eq]
 refine List.pairwise_reverse.2 (List.Pairwise.imp_of_mem (fun {a b} ha hb h => ?_) (ringW_down hl))
 exact (lyn_le (ringW_lyn hl b hb) (ringW_lyn hl a ha)).2 h
theorem cycW_flat {l : List Int} (hl : ByteL l) : ((cycL (lfL l)).map (wordC l)).flatten.length = l.length := by
 have hc := cycL_perm (lfL_perm hl)
 rw [lfL_len] at hc
 have h1 := hc.length_eq
 rw [iota_len] at h1
 have h2 : ∀ cs : List (List Int), (cs.map (wordC l)).flatten.length = cs.flatten.length := fun cs => by
  induction cs with
  | nil => rfl
  | cons c cs ih => rw [List.map_cons, List.flatten_cons, List.flatten_cons, List.length_append, List.length_append, ih, wordC_len]
 rw [h2, h1]
theorem unring_flat (rs : List RT) : (rs.map unring).flatten = (expR rs).flatten := by
 induction rs with
 | nil => rfl
 | cons r rs ih =>
  rw [List.map_cons, List.flatten_cons, expR_cons, List.flatten_append, ih]
  rfl
end Go.Pure

/-! ## E30 -/
namespace Go.Eng
open Go Go.RowKit
section
variable {P : Program} {n : Nd} {B : Nat} {w0 w00 : World} {F : Exit → Act → World → Prop} {L : Env} {R : List Row}
def LF {σ : Type} (F : Exit → Act → World → Prop) (m B : Nat) (w00 w0 : World) (Lx : σ → Env) (Rx : σ → List Row) (K : σ → Prop) : Exit → Act → World → Prop
 | .normal, a, w => ∃ s ds W, K s ∧ Below B w0 W ∧ Gd B w00 ⟨m, ds, none⟩ W ∧ Sat ⟨m, ds, none⟩ (Lx s) a ∧ Hp B W w (Rx s)
 | e, a, w => F e a w
theorem v_loop {σ : Type} {m : Nat} {ds : List Deferred} {c : Code} (Lx : σ → Env) (Rx : σ → List Row) (J : σ → Prop) (μ : σ → Nat) (h0 : Fam B w0 Lx Rx J L R) (hG : Gd B w00 ⟨m, ds, none⟩ w0)
  (round : ∀ s ds W, J s → Below B w0 W → Gd B w00 ⟨m, ds, none⟩ W → V P ⟨m, ds, none⟩ B W c (LF F m B w00 w0 Lx Rx fun y => J y ∧ μ y < μ s) (Lx s) (Rx s)) : V P ⟨m, ds, none⟩ B w0 (.loop c) F L R := by
 intro a w hs hp
 obtain ⟨x0, hJ0, hL0, hR0⟩ := h0
 refine wpIn_loop_ghost (fun k a w => ∃ x ds W, μ x = k ∧ J x ∧ Below B w0 W ∧ Gd B w00 ⟨m, ds, none⟩ W ∧ Sat ⟨m, ds, none⟩ (Lx x) a ∧ Hp B W w (Rx x)) (μ x0) ⟨x0, ds, w0, rfl, hJ0, Below.refl _ _, hG, hs.sub hL0, hR0 w hp⟩ ?_
 rintro k a w ⟨x, ds, W, rfl, hJ, hb, hg, hs, hp⟩
 refine wpIn_mono (round x ds W hJ hb hg a w hs hp) ?_
 intro e a' w' hq
 cases e with
 | normal =>
  obtain ⟨y, ds', W', ⟨hJy, hlt⟩, hb', hg', hs', hp'⟩ := hq
  exact ⟨μ y, hlt, y, ds', W', rfl, hJy, hb', hg', hs', hp'⟩
 | exit id => exact hq
 | goto l => exact hq
 | ret => exact hq
 | panic ch => exact hq
 | outgrown => exact hq
theorem v_again {σ : Type} {m : Nat} {ds : List Deferred} {W : World} {Lx : σ → Env} {Rx : σ → List Row} {K : σ → Prop} (hb : Below B w0 W) (hG : Gd B w00 ⟨m, ds, none⟩ W) (h : Fam B W Lx Rx K L R) : VN ⟨m, ds, none⟩ B W (LF F m B w00 w0 Lx Rx K) L R := fun a w hs hp => by
 obtain ⟨s, hK, hL, hR⟩ := h
 exact ⟨s, ds, W, hK, hb, hG, hs.sub hL, hR w hp⟩
/-- An exit on its way out. -/
def VX (n : Nd) (B : Nat) (w0 : World) (F : Exit → Act → World → Prop) (i : Nat) (L : Env) (R : List Row) : Prop := ∀ a w, Sat n L a → Hp B w0 w R → F (.exit i) a w
theorem v_exit {i : Nat} (h : VX n B w0 F i L R) : (FQ F n B w0).ext i L R := h
theorem v_exL {σ : Type} {m i : Nat} {W : World} {Lx : σ → Env} {Rx : σ → List Row} {K : σ → Prop} (h : VX n B W F i L R) : VX n B W (LF F m B w00 w0 Lx Rx K) i L R := h
theorem v_exB {i : Nat} (h : VN n B w0 F L R) : VX n B w0 (Exit.inBlock i F) i L R := fun a w hs hp => by
 show (if i = i then F .normal a w else F (.exit i) a w)
 rw [if_pos rfl]
 exact h a w hs hp
theorem v_loop7 {σ0 σ1 σ2 σ3 σ4 σ5 σ6 : Type} {m : Nat} {ds : List Deferred} {c : Code} (Lx : σ0 → σ1 → σ2 → σ3 → σ4 → σ5 → σ6 → Env) (Rx : σ0 → σ1 → σ2 → σ3 → σ4 → σ5 → σ6 → List Row) (J : σ0 → σ1 → σ2 → σ3 → σ4 → σ5 → σ6 → Prop) (μ : σ0 → σ1 → σ2 → σ3 → σ4 → σ5 → σ6 → Nat)
  (h0 : ∃ x0 x1 x2 x3 x4 x5 x6, J x0 x1 x2 x3 x4 x5 x6 ∧ Sub (Lx x0 x1 x2 x3 x4 x5 x6) L ∧ ∀ w, Hp B w0 w R → Hp B w0 w (Rx x0 x1 x2 x3 x4 x5 x6)) (hG : Gd B w00 ⟨m, ds, none⟩ w0)
  (round : ∀ x0 x1 x2 x3 x4 x5 x6 ds W, J x0 x1 x2 x3 x4 x5 x6 → Below B w0 W → Gd B w00 ⟨m, ds, none⟩ W → V P ⟨m, ds, none⟩ B W c (LF F m B w00 w0 (fun p : σ0 × σ1 × σ2 × σ3 × σ4 × σ5 × σ6 => Lx p.1 p.2.1 p.2.2.1 p.2.2.2.1 p.2.2.2.2.1 p.2.2.2.2.2.1 p.2.2.2.2.2.2) (fun p => Rx p.1 p.2.1 p.2.2.1 p.2.2.2.1 p.2.2.2.2.1 p.2.2.2.2.2.1 p.2.2.2.2.2.2) (fun p => J p.1 p.2.1 p.2.2.1 p.2.2.2.1 p.2.2.2.2.1 p.2.2.2.2.2.1 p.2.2.2.2.2.2 ∧ μ p.1 p.2.1 p.2.2.1 p.2.2.2.1 p.2.2.2.2.1 p.2.2.2.2.2.1 p.2.2.2.2.2.2 < μ x0 x1 x2 x3 x4 x5 x6)) (Lx x0 x1 x2 x3 x4 x5 x6) (Rx x0 x1 x2 x3 x4 x5 x6)) : V P ⟨m, ds, none⟩ B w0 (.loop c) F L R := by
 obtain ⟨x0, x1, x2, x3, x4, x5, x6, h1, h2, h3⟩ := h0
 exact v_loop (σ := σ0 × σ1 × σ2 × σ3 × σ4 × σ5 × σ6) (fun p => Lx p.1 p.2.1 p.2.2.1 p.2.2.2.1 p.2.2.2.2.1 p.2.2.2.2.2.1 p.2.2.2.2.2.2) (fun p => Rx p.1 p.2.1 p.2.2.1 p.2.2.2.1 p.2.2.2.2.1 p.2.2.2.2.2.1 p.2.2.2.2.2.2) (fun p => J p.1 p.2.1 p.2.2.1 p.2.2.2.1 p.2.2.2.2.1 p.2.2.2.2.2.1 p.2.2.2.2.2.2) (fun p => μ p.1 p.2.1 p.2.2.1 p.2.2.2.1 p.2.2.2.2.1 p.2.2.2.2.2.1 p.2.2.2.2.2.2) ⟨(x0, x1, x2, x3, x4, x5, x6), h1, h2, h3⟩ hG fun p ds W hp hb hg => round p.1 p.2.1 p.2.2.1 p.2.2.2.1 p.2.2.2.2.1 p.2.2.2.2.2.1 p.2.2.2.2.2.2 ds W hp hb hg
theorem v_again7 {σ0 σ1 σ2 σ3 σ4 σ5 σ6 : Type} {m M : Nat} {ds : List Deferred} {W : World} {Lx : σ0 → σ1 → σ2 → σ3 → σ4 → σ5 → σ6 → Env} {Rx : σ0 → σ1 → σ2 → σ3 → σ4 → σ5 → σ6 → List Row} {J : σ0 → σ1 → σ2 → σ3 → σ4 → σ5 → σ6 → Prop} {μ : σ0 → σ1 → σ2 → σ3 → σ4 → σ5 → σ6 → Nat} (hb : Below B w0 W) (hG : Gd B w00 ⟨m, ds, none⟩ W)
  (h : ∃ y0 y1 y2 y3 y4 y5 y6, J y0 y1 y2 y3 y4 y5 y6 ∧ μ y0 y1 y2 y3 y4 y5 y6 < M ∧ Sub (Lx y0 y1 y2 y3 y4 y5 y6) L ∧ ∀ w, Hp B W w R → Hp B W w (Rx y0 y1 y2 y3 y4 y5 y6)) : VN ⟨m, ds, none⟩ B W (LF F m B w00 w0 (fun p : σ0 × σ1 × σ2 × σ3 × σ4 × σ5 × σ6 => Lx p.1 p.2.1 p.2.2.1 p.2.2.2.1 p.2.2.2.2.1 p.2.2.2.2.2.1 p.2.2.2.2.2.2) (fun p => Rx p.1 p.2.1 p.2.2.1 p.2.2.2.1 p.2.2.2.2.1 p.2.2.2.2.2.1 p.2.2.2.2.2.2) (fun p => J p.1 p.2.1 p.2.2.1 p.2.2.2.1 p.2.2.2.2.1 p.2.2.2.2.2.1 p.2.2.2.2.2.2 ∧ μ p.1 p.2.1 p.2.2.1 p.2.2.2.1 p.2.2.2.2.1 p.2.2.2.2.2.1 p.2.2.2.2.2.2 < M)) L R := by
 obtain ⟨y0, y1, y2, y3, y4, y5, y6, g1, g2, g3, g4⟩ := h
 exact v_again hb hG ⟨(y0, y1, y2, y3, y4, y5, y6), ⟨g1, g2⟩, g3, g4⟩
end
end Go.Eng

/-! ## X1 -/
namespace Go.Proofs.YtdfcnalkdlifiaaGreat
open Go Go.Eng Go.Pure
open Tryz
set_option linter.unusedVariables false
abbrev emptyP (ws : List (List Int)) : Prop := ∃ w ∈ ws, w.length = 0
theorem emptyP_at {ws : List (List Int)} {i : Int} (h0 : 0 ≤ i) (h1 : i < ws.length) (h : ((rdl ws i).length : Int) = 0) : emptyP ws := ⟨_, rdl_mem2 h0 h1, by omega⟩
theorem emptyP_no {ws : List (List Int)} {i : Int} (hi : (ws.length : Int) ≤ i) (h : ∀ j : Int, 0 ≤ j → j < i → j < ws.length → 0 < (rdl ws j).length) : ¬ emptyP ws := fun ⟨w, hw, e⟩ => by
 obtain ⟨k, hk, rfl⟩ := List.mem_iff_getElem.1 hw
 have := h k (by omega) (by omega) (by omega)
 unfold rdl at this
 rw [Int.toNat_natCast, List.getD_eq_getElem?_getD, List.getElem?_eq_getElem hk] at this
 simp at this
 omega
set_option maxRecDepth 100000 in
theorem len0_ct {w : World} {A_u : Option Addr} {n_u c_u : Nat} {u : List Int} (h_u : Rd w A_u n_u c_u 1 (ints .u8 u)) :
  Ct Tryz.prog 18 #[.slice A_u n_u c_u] w.heap.size w [] (fun v R' => v = .bool (decide ((u.length : Int) = 0))) := by
 obtain rfl := h_u.lenI
 refine fn1 Tryz.func18 rfl rfl rfl ?_
 have m_u := h_u.max
 refine wq <| wg rfl rfl <| wr_nil <| wq <| wm rfl rfl <| wr_y rfl (y_len underlying23 rfl) <| wr_y rfl (y_eq rfl rfl) <| wg rfl rfl <| wr_nil <| w_ret ?_
 refine ⟨_, rfl, ?_⟩
 rfl

set_option maxRecDepth 100000 in
set_option maxHeartbeats 600000 in
theorem indexE_ct {w : World} {A_ws : Option Addr} {n_ws c_ws : Nat} {vals_ws : List Value} {ws : List (List Int)} (h_ws : Rd w A_ws n_ws c_ws 1 vals_ws) (s_ws : SlW .u8 w vals_ws ws) :
  Ct Tryz.prog 33 #[.slice A_ws n_ws c_ws, .func (.func 18) #[] #[]] w.heap.size w [] (fun v R' => ∃ z : Int, v = .int .i64 z ∧ (0 ≤ z ↔ emptyP ws)) := by
 obtain rfl : n_ws = ws.length := by have := h_ws.len; have := s_ws.1; omega
 refine fn1 Tryz.func33 rfl rfl rfl ?_
 have m_ws := h_ws.max
 refine wq <| wg rfl rfl <| wr_nil <| w_seq <| wq <| wm rfl rfl <| wr_y rfl (y_len underlying22 rfl) <| wm rfl rfl <| wr_nil <| w_block ?_
 refine w_loop1 (fun (k : Int) => [(0, .slice A_ws ws.length c_ws), (1, .func (.func 18) #[] #[]), (7, .int .i64 ((ws.length : Nat) : Int)), (8, .int .i64 k)]) (fun (k : Int) => []) (fun (k : Int) => (0 ≤ k) ∧ (k ≤ ws.length) ∧ (∀ j : Int, 0 ≤ j → j < k → j < ws.length → 0 < (rdl ws j).length)) (fun (k : Int) => (ws.length - k).toNat) ?_ ?_
 ·
  exact ⟨0, ⟨(by omega), (by omega), (fun j h1 h2 => by omega)⟩, (sc rfl (sc rfl (sc rfl (sc rfl Sub.nil)))), fun _ h => h⟩
 intro k ⟨hk0, hk1, hne⟩
 refine wq <| wL rfl rfl rfl <| wr_nil <| w_seq <| w_if rfl (fun hc1 => ?_) (fun hc1 => ?_)
 ·
  refine w_skip <| w_seq <| w_block <| wq <| wm rfl rfl <| wg rfl rfl <| wr_nil <| wq <| wm rfl rfl <| wm rfl rfl <| wm rfl rfl <| wr_y rfl (y_index1 underlying22 sz23 rfl rfl (h_ws.c _) (by omega) (by omega)) ?_
  refine s_ws.elim (i := k) (by omega) (by omega) (fun A_1 c_2 hv_3 hr_4 hb_5 mhr_4 => ?_)
  refine wr_y rfl (y_ld underlying23 rfl rfl rfl (h_ws.c _) hv_3) <| wr_a rfl (a_call en18 rfl rfl (Ct.quiet (fun w hw => len0_ct ((hr_4.c _) w hw)))) ?_
  rintro _ _ ⟨rfl, rfl⟩
  refine wr_nil <| w_if rfl (fun hc2 => ?_) (fun hc2 => ?_)
  ·
   refine wq <| wm rfl rfl <| wg rfl rfl <| wr_nil <| w_ret ?_
   refine ⟨_, rfl, ?_⟩
   exact ⟨k, rfl, ⟨fun _ => emptyP_at hk0 (by omega) (by assumption), fun _ => hk0⟩⟩
  ·
   refine w_skip <| w_reg <| wA rfl rfl rfl (by omega) <| wm rfl rfl <| wr_nil ?_
   exact ⟨k + 1, ⟨(by omega), (by omega), (fun j h1 h2 h3 => by
     rcases Int.lt_or_le j k with g | g
     ·exact hne j h1 g h3
     ·obtain rfl : j = k := by omega
      omega)⟩, (by omega), (sc rfl (sc rfl (sc rfl (sc rfl Sub.nil)))), fun _ h => h⟩
 ·
  refine w_exit <| wq <| wg rfl rfl <| wr_nil <| w_ret ?_
  refine ⟨_, rfl, ?_⟩
  exact ⟨-1, rfl, ⟨fun h => by omega, fun h => absurd h (emptyP_no (by omega) hne)⟩⟩

set_option maxRecDepth 100000 in
theorem containsE_ct {w : World} {A_ws : Option Addr} {n_ws c_ws : Nat} {vals_ws : List Value} {ws : List (List Int)} (h_ws : Rd w A_ws n_ws c_ws 1 vals_ws) (s_ws : SlW .u8 w vals_ws ws) :
  Ct Tryz.prog 17 #[.slice A_ws n_ws c_ws, .func (.func 18) #[] #[]] w.heap.size w [] (fun v R' => v = .bool (decide (emptyP ws))) := by
 obtain rfl : n_ws = ws.length := by have := h_ws.len; have := s_ws.1; omega
 refine fn1 Tryz.func17 rfl rfl rfl ?_
 have m_ws := h_ws.max
 refine wq <| wg rfl rfl <| wr_nil <| wq <| wm rfl rfl <| wm rfl rfl <| wr_a rfl (a_callF en33 rfl (Ct.quiet (fun w hw => indexE_ct ((h_ws.c _) w hw) (s_ws.c hw)))) ?_
 rintro _ _ ⟨rfl, z1, rfl, hz1⟩
 refine wr_y rfl (y_ge rfl rfl) <| wg rfl rfl <| wr_nil <| w_ret ?_
 refine ⟨_, rfl, ?_⟩
 exact congrArg Value.bool (decide_eq_decide.2 hz1)

set_option maxRecDepth 100000 in
set_option maxHeartbeats 2000000 in
theorem extTurn_ct {w : World} {A_ws : Option Addr} {n_ws c_ws : Nat} {vals_ws : List Value} {ws : List (List Int)} (h_ws : Rd w A_ws n_ws c_ws 1 vals_ws) (s_ws : SlW .u8 w vals_ws ws) (hN : (∀ w ∈ ws, w.length ≤ 8000) ∧ ws.length ≤ 100000) :
  Ct Tryz.prog 7 #[.slice A_ws n_ws c_ws] w.heap.size w [] (fun v R' => ∃ (A A2 : Option Addr) (c c2 : Nat) (L TS : List Int) (e : Int), v = .tuple #[.slice A L.length c, .slice A2 TS.length c2, .int .i64 e] ∧ ExtR ws L TS e ∧ R' = [⟨5, 1, A, L.length, c, ints .u8 L, false⟩, ⟨3, 1, A2, TS.length, c2, ints .i64 TS, false⟩]) := by
 obtain rfl : n_ws = ws.length := by have := h_ws.len; have := s_ws.1; omega
 refine fn3 Tryz.func7 rfl rfl rfl ?_
 have m_ws := h_ws.max
 refine wq <| wr_sub (R1 := (⟨5, 1, none, 0, 0, ints .u8 ([]), false⟩ :: [])) (Sub.refl _) (fun _ h => h.nil 5 1) <| wg rfl rfl <| wr_sub (R1 := (⟨3, 1, none, 0, 0, ints .i64 ([]), false⟩ :: ⟨5, 1, none, 0, 0, ints .u8 ([]), false⟩ :: [])) (Sub.refl _) (fun _ h => h.nil 3 1) <| wg rfl rfl <| wg rfl rfl <| wr_nil <| wq <| wg rfl rfl <| wr_nil <| w_seq <| wq ?_
 refine wm rfl rfl <| wr_y rfl (y_len underlying22 rfl) <| wm rfl rfl <| wr_nil <| w_block ?_
 refine w_loop2 (fun (i : Int) (z : Int) => [(0, .slice A_ws ws.length c_ws), (5, .int .i64 z), (11, .slice A_ws ws.length c_ws), (12, .int .i64 ((ws.length : Nat) : Int)), (13, .int .i64 i)]) (fun (i : Int) (z : Int) => (⟨3, 1, none, 0, 0, ints .i64 ([]), false⟩ :: ⟨5, 1, none, 0, 0, ints .u8 ([]), false⟩ :: [])) (fun (i : Int) (z : Int) => (0 ≤ i) ∧ (i ≤ ws.length) ∧ (z = ((ws.take i.toNat).flatten.length : Int)) ∧ (0 ≤ z ∧ z ≤ i * 8000)) (fun (i : Int) (z : Int) => (ws.length - i).toNat) ?_ ?_
 ·
  exact ⟨0, 0, ⟨(by omega), (by omega), (rfl), (by omega)⟩, (sc rfl (sc rfl (sc rfl (sc rfl (sc rfl Sub.nil))))), fun _ h => h⟩
 intro i z ⟨hi0, hi1, hz, hz2⟩
 have hwl : 0 ≤ i → i < ws.length → (rdl ws i).length ≤ 8000 := fun h h' => hN.1 _ (rdl_mem2 h h')
 refine wq <| wL rfl rfl rfl <| wr_nil <| w_seq <| w_if rfl (fun hc1 => ?_) (fun hc1 => ?_)
 ·
  have hwl2 := hwl hi0 (by omega)
  refine w_skip <| w_seq <| w_block <| wq <| wr_y rfl (y_index1 underlying22 sz23 rfl rfl (h_ws.c _) (by omega) (by omega)) ?_
  refine s_ws.elim (i := i) (by omega) (by omega) (fun A_1 c_2 hv_3 hr_4 hb_5 mhr_4 => ?_)
  refine wr_y rfl (y_ld underlying23 rfl rfl rfl (h_ws.c _) hv_3) <| wg rfl rfl <| wr_nil <| w_reg <| wm rfl rfl <| wm rfl rfl <| wr_y rfl (y_len underlying23 rfl) <| wA rfl rfl rfl (by omega) <| wg rfl rfl <| wr_nil <| w_reg <| wA rfl rfl rfl (by omega) <| wm rfl rfl <| wr_nil ?_
  exact ⟨i + 1, z + (((rdl ws i).length : Nat) : Int), ⟨(by omega), (by omega), (by rw [flat_take_succ hi0 (by omega), List.length_append, hz]; omega), (by omega)⟩, (by omega), (sc rfl (sc rfl (sc rfl (sc rfl (sc rfl Sub.nil))))), fun _ h => h⟩
 ·
  obtain rfl : i = ws.length := by omega
  rw [Int.toNat_natCast, List.take_length] at hz
  refine w_exit <| w_seq <| wq <| wm rfl rfl <| wr_y rfl (y_len underlying22 rfl) <| wr_y rfl (y_gt rfl rfl) <| wm rfl rfl <| wr_mid 3 [(0, .slice A_ws ws.length c_ws), (28, .bool (decide ((1000 < ((ws.length : Nat) : Int)) ∨ (100000 < z))))] (⟨3, 1, none, 0, 0, ints .i64 ([]), false⟩ :: ⟨5, 1, none, 0, 0, ints .u8 ([]), false⟩ :: []) ?_ ?_
  ·
   refine wr_case 25 rfl (fun hc2 => ?_) (fun hc2 => ?_)
   ·
    refine wr_no rfl rfl rfl rfl <| wr_no rfl rfl rfl rfl <| wr_y rfl (y_pickT rfl rfl) <| wr_nil ?_
    exact ⟨(sc rfl (Sub.to rfl (mb_t (by first | omega | exact ⟨fun h => ⟨(by assumption), h⟩, fun h => h.2⟩ | exact .inl (by assumption) | exact ⟨.inr, fun h => h.resolve_left (by assumption)⟩ | exact ⟨fun h => h.resolve_left (by assumption), .inr⟩ | simp [*])) Sub.nil)), fun _ h => h⟩
   ·
    refine wr_yes rfl rfl <| wm rfl rfl <| wr_yes rfl rfl <| wr_y rfl (y_gt rfl rfl) <| wr_y rfl (y_pickF rfl rfl) <| wr_nil ?_
    exact ⟨(sc rfl (Sub.to rfl (mb (by first | omega | exact ⟨fun h => ⟨(by assumption), h⟩, fun h => h.2⟩ | exact .inl (by assumption) | exact ⟨.inr, fun h => h.resolve_left (by assumption)⟩ | exact ⟨fun h => h.resolve_left (by assumption), .inr⟩ | simp [*])) Sub.nil)), fun _ h => h⟩
  refine wr_nil <| w_if rfl (fun hc3 => ?_) (fun hc3 => ?_)
  ·
   refine wq <| wg rfl rfl <| wg rfl rfl <| wg rfl rfl <| wr_nil <| w_retR (R1 := [⟨5, 1, none, 0, 0, ints .u8 ([]), false⟩, ⟨3, 1, none, 0, 0, ints .i64 ([]), false⟩]) (fun _ h => (h.selR (F := [_, _]) (F' := [_, _]) [1, 0] (by decide) rfl).left (X := [_, _])) ?_
   refine ⟨_, _, _, rfl, rfl, rfl, ?_⟩
   exact ⟨_, _, _, _, [], [], 2, rfl, .inl ⟨rfl, by omega, rfl, rfl⟩, rfl⟩
  ·
   refine w_skip <| w_seq <| wq <| wm rfl rfl <| wr_a rfl (a_callF en17 rfl (Ct.quiet (fun w hw => containsE_ct ((h_ws.c _) w hw) (s_ws.c hw)))) ?_
   rintro _ _ ⟨rfl, rfl⟩
   refine wr_nil <| w_if rfl (fun hc4 => ?_) (fun hc4 => ?_)
   ·
    refine wq <| wg rfl rfl <| wg rfl rfl <| wg rfl rfl <| wr_nil <| w_retR (R1 := [⟨5, 1, none, 0, 0, ints .u8 ([]), false⟩, ⟨3, 1, none, 0, 0, ints .i64 ([]), false⟩]) (fun _ h => (h.selR (F := [_, _]) (F' := [_, _]) [1, 0] (by decide) rfl).left (X := [_, _])) ?_
    refine ⟨_, _, _, rfl, rfl, rfl, ?_⟩
    exact ⟨_, _, _, _, [], [], 1, rfl, .inr (.inl ⟨by omega, rfl, hc4, rfl, rfl⟩), rfl⟩
   ·
    refine w_skip <| wq <| wr_a rfl (a_litI .u8 [] underlying23 zs5 rfl rfl rfl) ?_
    rintro _ _ ⟨g_7, rfl, rfl⟩
    refine wg rfl rfl <| wr_nil <| w_seq <| wq <| wm rfl rfl <| wr_a rfl (a_callF en19 rfl (Ct.fresh (fun w hw => turns_ct ((h_ws.c _) w hw) (s_ws.c hw) ⟨by omega, by omega⟩))) ?_
    rintro _ _ ⟨_, rfl, lt, A_9, c_10, rfl, hpt, hst, rfl⟩
    refine wr_y rfl (y_len underlying43 rfl) <| wm rfl rfl <| wr_nil <| w_block ?_
    refine w_loop5 (fun (q : Int) (B1 : Option Addr) (m1 : Nat) (d1 : Nat) (acc : List Int) => [(0, .slice A_ws ws.length c_ws), (2, .slice B1 m1 d1), (33, .slice A_9 lt.length c_10), (34, .int .i64 ((lt.length : Nat) : Int)), (35, .int .i64 q)]) (fun (q : Int) (B1 : Option Addr) (m1 : Nat) (d1 : Nat) (acc : List Int) => (⟨45, 2, A_9, lt.length, c_10, prs lt, false⟩ :: ⟨5, 1, B1, m1, d1, ints .u8 acc, false⟩ :: ⟨3, 1, none, 0, 0, ints .i64 ([]), false⟩ :: ⟨5, 1, none, 0, 0, ints .u8 ([]), false⟩ :: [])) (fun (q : Int) (B1 : Option Addr) (m1 : Nat) (d1 : Nat) (acc : List Int) => (0 ≤ q) ∧ (q ≤ lt.length) ∧ (m1 = acc.length) ∧ (acc.length = q.toNat) ∧ (acc = (lt.take q.toNat).map (lastB ws))) (fun (q : Int) (B1 : Option Addr) (m1 : Nat) (d1 : Nat) (acc : List Int) => (lt.length - q).toNat) ?_ ?_
    ·
     exact ⟨0, some ⟨g_7, 0, none⟩, 0, 0, [], ⟨(by omega), (by omega), (rfl), (rfl), (rfl)⟩, (sc rfl (sc rfl (sc rfl (sc rfl (sc rfl Sub.nil))))), fun _ h => h⟩
    intro q B1 m1 d1 acc ⟨hq0, hq1, hm1, haq, hacc⟩
    have hll := all_len hpt
    refine wq <| wL rfl rfl rfl <| wr_nil <| w_seq <| w_if rfl (fun hc5 => ?_) (fun hc5 => ?_)
    ·
     have ht := mem_all.1 (hpt.subset (rdp_mem (l := lt) hq0 (by omega)))
     have htm := ht.2.2
     have he0 := Int.emod_nonneg ((rdp lt q).2 + (rdl ws (rdp lt q).1).length - 1) (show ((rdl ws (rdp lt q).1).length : Int) ≠ 0 by omega)
     have he1 := Int.emod_lt_of_pos ((rdp lt q).2 + (rdl ws (rdp lt q).1).length - 1) (show (0 : Int) < (rdl ws (rdp lt q).1).length by omega)
     refine w_skip <| w_seq <| w_block <| wq <| wr_y rfl (y_index underlying43 sz45 rfl rfl (rdr 0 rfl) rfl (by omega) (by omega)) <| wr_y rfl (y_ldP underlying45 rfl sz45 rfl (rdr 0 rfl) (by omega) (by omega)) <| wr_a rfl (a_alloc (sz := 2) zz45 rfl) ?_
     rintro _ _ ⟨g_13, rfl, rfl⟩
     refine wr_rows (R1 := (⟨45, 2, (some ⟨g_13, 0, none⟩), 1, 1, [.int .i64 0, .int .i64 0], false⟩ :: ⟨45, 2, A_9, lt.length, c_10, prs lt, false⟩ :: ⟨5, 1, B1, m1, d1, ints .u8 acc, false⟩ :: ⟨3, 1, none, 0, 0, ints .i64 ([]), false⟩ :: ⟨5, 1, none, 0, 0, ints .u8 ([]), false⟩ :: [])) rfl <| wr_n (a_storeAll (vs := [.int .i64 ((rdp lt q).1), .int .i64 ((rdp lt q).2)]) 0 rfl sz45 rfl rfl rfl (by intro v hv; simp at hv; rcases hv with rfl | rfl <;> rfl) rfl) ?_
     rintro _ _ rfl
     refine wr_rows (R1 := (⟨45, 2, (some ⟨g_13, 0, none⟩), 1, 1, [.int .i64 ((rdp lt q).1), .int .i64 ((rdp lt q).2)], false⟩ :: ⟨45, 2, A_9, lt.length, c_10, prs lt, false⟩ :: ⟨5, 1, B1, m1, d1, ints .u8 acc, false⟩ :: ⟨3, 1, none, 0, 0, ints .i64 ([]), false⟩ :: ⟨5, 1, none, 0, 0, ints .u8 ([]), false⟩ :: [])) rfl <| wr_nil <| wq <| wm rfl rfl <| wr_y rfl (y_indexIn (q := 0) (rdR 0 (r := ⟨45, 2, (some ⟨g_13, 0, none⟩), 1, 1, [.int .i64 ((rdp lt q).1), .int .i64 ((rdp lt q).2)], false⟩) rfl) underlying45 sz3 rfl rfl (Nat.le_of_ble_eq_true rfl) (by decide) (by decide) rfl) <| wr_y rfl (y_ldIn (rdR 0 (r := ⟨45, 2, (some ⟨g_13, 0, none⟩), 1, 1, [.int .i64 ((rdp lt q).1), .int .i64 ((rdp lt q).2)], false⟩) rfl) underlying3 rfl rfl rfl) <| wr_y rfl (y_index1 underlying22 sz23 rfl rfl (h_ws.c _) (by first | exact ht.1 | exact ht.2.1) (by first | exact ht.1 | exact ht.2.1)) ?_
     refine s_ws.elim (i := (rdp lt q).1) (by first | exact ht.1 | exact ht.2.1) (by first | exact ht.1 | exact ht.2.1) (fun A_14 c_15 hv_16 hr_17 hb_18 mhr_17 => ?_)
     refine wr_y rfl (y_ld underlying23 rfl rfl rfl (h_ws.c _) hv_16) <| wg rfl rfl <| wr_nil <| w_reg <| wm rfl rfl <| wm rfl rfl <| wr_y rfl (y_indexIn (q := 1) (rdR 0 (r := ⟨45, 2, (some ⟨g_13, 0, none⟩), 1, 1, [.int .i64 ((rdp lt q).1), .int .i64 ((rdp lt q).2)], false⟩) rfl) underlying45 sz3 rfl rfl (Nat.le_of_ble_eq_true rfl) (by decide) (by decide) rfl) <| wr_y rfl (y_ldIn (rdR 0 (r := ⟨45, 2, (some ⟨g_13, 0, none⟩), 1, 1, [.int .i64 ((rdp lt q).1), .int .i64 ((rdp lt q).2)], false⟩) rfl) underlying3 rfl rfl rfl) <| wm rfl rfl <| wr_y rfl (y_len underlying23 rfl) <| wA rfl rfl rfl (by omega) <| wS rfl rfl rfl (by omega) <| wm rfl rfl <| wr_y rfl (y_len underlying23 rfl) <| wr_y rfl (y_rem rfl rfl (by omega) (by omega)) ?_
     refine wr_y rfl (y_index1 underlying23 sz5 rfl rfl (hr_17.c _) (by omega) (by omega)) <| wr_y rfl (y_ldI underlying5 rfl rfl (hr_17.c _) (by omega) (by omega)) <| wr_a rfl (a_litI .u8 [rd (rdl ws ((rdp lt q).1)) (((((rdp lt q).2) + (((rdl ws ((rdp lt q).1)).length : Nat) : Int)) - 1) % (((rdl ws ((rdp lt q).1)).length : Nat) : Int))] underlying23 zs5 rfl rfl rfl) ?_
     rintro _ _ ⟨g_20, rfl, rfl⟩
     refine wr_a rfl (a_appendI 3 rfl underlying23 zb5 rfl rfl rfl (rdr 0 rfl) (by omega)) ?_
     rintro _ _ ⟨A_21, c_22, rfl, rfl⟩
     refine wr_rows (R1 := (⟨5, 1, (some ⟨g_20, 0, none⟩), 1, 1, ints .u8 ([rd (rdl ws ((rdp lt q).1)) (((((rdp lt q).2) + (((rdl ws ((rdp lt q).1)).length : Nat) : Int)) - 1) % (((rdl ws ((rdp lt q).1)).length : Nat) : Int))]), false⟩ :: ⟨45, 2, (some ⟨g_13, 0, none⟩), 1, 1, [.int .i64 ((rdp lt q).1), .int .i64 ((rdp lt q).2)], false⟩ :: ⟨45, 2, A_9, lt.length, c_10, prs lt, false⟩ :: ⟨5, 1, A_21, (m1 + 1), c_22, ints .u8 (acc ++ ([rd (rdl ws ((rdp lt q).1)) (((((rdp lt q).2) + (((rdl ws ((rdp lt q).1)).length : Nat) : Int)) - 1) % (((rdl ws ((rdp lt q).1)).length : Nat) : Int))])), false⟩ :: ⟨3, 1, none, 0, 0, ints .i64 ([]), false⟩ :: ⟨5, 1, none, 0, 0, ints .u8 ([]), false⟩ :: [])) rfl <| wr_as (v := .slice A_21 (m1 + 1) c_22) rfl <| wg rfl rfl <| wr_nil <| w_reg <| wA rfl rfl rfl (by omega) <| wm rfl rfl <| wr_nil ?_
     exact ⟨q + 1, A_21, m1 + 1, c_22, acc ++ ([rd (rdl ws ((rdp lt q).1)) (((((rdp lt q).2) + (((rdl ws ((rdp lt q).1)).length : Nat) : Int)) - 1) % (((rdl ws ((rdp lt q).1)).length : Nat) : Int))]), ⟨(by omega), (by omega), (by rw [List.length_append, hm1]; rfl), (by rw [List.length_append, haq, List.length_singleton]; omega), (by rw [take_rdp hq0 (by omega), List.map_append, hacc]; rfl)⟩, (by omega), (sc rfl (sc rfl (sc rfl (sc rfl (sc rfl Sub.nil))))), fun _ h => h.selR (F := [_, _, _, _, _, _]) (F' := [_, _, _, _]) [2, 3, 4, 5] (by decide) rfl⟩
    ·
     refine w_exit <| wq <| wm rfl rfl <| wr_a rfl (a_callF en20 rfl (Ct.fresh (fun w hw => rootsN_ct ((h_ws.c _) w hw) (s_ws.c hw) hN))) ?_
     rintro _ _ ⟨_, rfl, A_23, c_24, A_25, c_26, vals_27, Rs_28, rfl, hsl_29, rfl⟩
     have hn_hsl_29 := hsl_29.1
     refine wr_sub (R1 := (⟨23, 1, A_23, vals_27.length, c_24, vals_27, false⟩ :: ⟨3, 1, A_25, ((ringS ws).map Prod.snd).length, c_26, ints .i64 ((ringS ws).map Prod.snd), false⟩ :: ⟨45, 2, A_9, lt.length, c_10, prs lt, false⟩ :: ⟨5, 1, B1, m1, d1, ints .u8 acc, false⟩ :: ⟨3, 1, none, 0, 0, ints .i64 ([]), false⟩ :: ⟨5, 1, none, 0, 0, ints .u8 ([]), false⟩ :: Rs_28)) (Sub.refl _) (fun _ h => Hp.toTail0 (X := [_, _]) (Y := [_, _, _, _]) h) <| wm rfl rfl <| wX rfl rfl rfl <| wX rfl rfl rfl <| wg rfl rfl <| wr_nil <| wq <| wm rfl rfl <| wm rfl rfl <| wg rfl rfl <| wg rfl rfl <| wg rfl rfl <| wr_nil <| w_retR (R1 := [⟨5, 1, B1, m1, d1, ints .u8 acc, false⟩, ⟨3, 1, A_25, ((ringS ws).map Prod.snd).length, c_26, ints .i64 ((ringS ws).map Prod.snd), false⟩]) (fun _ h => (h.selR (F := [_, _, _, _, _, _]) (F' := [_, _]) [3, 1] (by decide) rfl).left (X := [_, _])) ?_
     refine ⟨_, _, _, rfl, rfl, rfl, ?_⟩
     rw [List.take_of_length_le (by omega)] at hacc
     obtain rfl := hm1
     exact ⟨_, _, _, _, acc, _, 0, rfl, .inr (.inr ⟨by omega, rfl, fun w hw => Nat.pos_of_ne_zero fun e => hc4 ⟨w, hw, e⟩, ⟨lt, hpt, hst, hacc⟩, rfl⟩), rfl⟩

theorem _root_.Go.Pure.ExtR.bytes {ws : List (List Int)} {L TS : List Int} {e : Int} (h : ExtR ws L TS e) (hb : ∀ w ∈ ws, ByteL w) : ByteL L := by
 rcases h with ⟨_, _, rfl, _⟩ | ⟨_, _, _, rfl, _⟩ | ⟨_, _, _, ⟨T, hp, _, rfl⟩, _⟩
 ·exact ByteL.nil
 ·exact ByteL.nil
 ·exact lastB_bytes hp fun x hx => by
   obtain ⟨w, hw, h⟩ := List.mem_flatten.1 hx
   exact hb w hw x h
theorem _root_.Go.Pure.ExtR.tlen {ws : List (List Int)} {L TS : List Int} {e : Int} (h : ExtR ws L TS e) : TS.length ≤ ws.length := by
 rcases h with ⟨_, _, _, rfl⟩ | ⟨_, _, _, _, rfl⟩ | ⟨_, _, _, _, rfl⟩
 ·exact Nat.zero_le _
 ·exact Nat.zero_le _
 ·rw [List.length_map, (ringS_perm ws).length_eq]; exact ringsOf_few ws
theorem _root_.Go.Pure.ExtR.all {ws : List (List Int)} {L TS : List Int} {e : Int} (h : ExtR ws L TS e) (he : e = 0) : TS.length = ws.length ∧ ∀ w ∈ ws, 0 < w.length := by
 rcases h with ⟨rfl, _⟩ | ⟨_, rfl, _⟩ | ⟨_, _, hne, _, rfl⟩
 ·omega
 ·omega
 ·refine ⟨?_, hne⟩
  rw [List.length_map, (ringS_perm ws).length_eq]
  unfold ringsOf
  rw [List.length_map, List.filter_eq_self.2 fun w hw => decide_eq_true (hne w hw)]
end Go.Proofs.YtdfcnalkdlifiaaGreat

/-! ## E31 -/
namespace Go.Eng
open Go Go.RowKit Go.Pure
section
variable {P : Program} {n : Nd} {B : Nat} {w0 : World}
theorem w_loop16 {σ0 σ1 σ2 σ3 σ4 σ5 σ6 σ7 σ8 σ9 σ10 σ11 σ12 σ13 σ14 σ15 : Type} {c : Code} {Q : PostC} {L : Env} {R : List Row} (Lx : σ0 → σ1 → σ2 → σ3 → σ4 → σ5 → σ6 → σ7 → σ8 → σ9 → σ10 → σ11 → σ12 → σ13 → σ14 → σ15 → Env) (Rx : σ0 → σ1 → σ2 → σ3 → σ4 → σ5 → σ6 → σ7 → σ8 → σ9 → σ10 → σ11 → σ12 → σ13 → σ14 → σ15 → List Row) (J : σ0 → σ1 → σ2 → σ3 → σ4 → σ5 → σ6 → σ7 → σ8 → σ9 → σ10 → σ11 → σ12 → σ13 → σ14 → σ15 → Prop) (μ : σ0 → σ1 → σ2 → σ3 → σ4 → σ5 → σ6 → σ7 → σ8 → σ9 → σ10 → σ11 → σ12 → σ13 → σ14 → σ15 → Nat)
  (h0 : ∃ x0 x1 x2 x3 x4 x5 x6 x7 x8 x9 x10 x11 x12 x13 x14 x15, J x0 x1 x2 x3 x4 x5 x6 x7 x8 x9 x10 x11 x12 x13 x14 x15 ∧ Sub (Lx x0 x1 x2 x3 x4 x5 x6 x7 x8 x9 x10 x11 x12 x13 x14 x15) L ∧ ∀ w, Hp B w0 w R → Hp B w0 w (Rx x0 x1 x2 x3 x4 x5 x6 x7 x8 x9 x10 x11 x12 x13 x14 x15))
  (round : ∀ x0 x1 x2 x3 x4 x5 x6 x7 x8 x9 x10 x11 x12 x13 x14 x15, J x0 x1 x2 x3 x4 x5 x6 x7 x8 x9 x10 x11 x12 x13 x14 x15 → W P n B w0 c { Q with nrm := fun L' R' => ∃ y0 y1 y2 y3 y4 y5 y6 y7 y8 y9 y10 y11 y12 y13 y14 y15, J y0 y1 y2 y3 y4 y5 y6 y7 y8 y9 y10 y11 y12 y13 y14 y15 ∧ μ y0 y1 y2 y3 y4 y5 y6 y7 y8 y9 y10 y11 y12 y13 y14 y15 < μ x0 x1 x2 x3 x4 x5 x6 x7 x8 x9 x10 x11 x12 x13 x14 x15 ∧ Sub (Lx y0 y1 y2 y3 y4 y5 y6 y7 y8 y9 y10 y11 y12 y13 y14 y15) L' ∧ ∀ w, Hp B w0 w R' → Hp B w0 w (Rx y0 y1 y2 y3 y4 y5 y6 y7 y8 y9 y10 y11 y12 y13 y14 y15) } (Lx x0 x1 x2 x3 x4 x5 x6 x7 x8 x9 x10 x11 x12 x13 x14 x15) (Rx x0 x1 x2 x3 x4 x5 x6 x7 x8 x9 x10 x11 x12 x13 x14 x15)) : W P n B w0 (.loop c) Q L R := by
 obtain ⟨x0, x1, x2, x3, x4, x5, x6, x7, x8, x9, x10, x11, x12, x13, x14, x15, h1, h2, h3⟩ := h0
 refine w_loop (σ := σ0 × σ1 × σ2 × σ3 × σ4 × σ5 × σ6 × σ7 × σ8 × σ9 × σ10 × σ11 × σ12 × σ13 × σ14 × σ15) (fun p => Lx p.1 p.2.1 p.2.2.1 p.2.2.2.1 p.2.2.2.2.1 p.2.2.2.2.2.1 p.2.2.2.2.2.2.1 p.2.2.2.2.2.2.2.1 p.2.2.2.2.2.2.2.2.1 p.2.2.2.2.2.2.2.2.2.1 p.2.2.2.2.2.2.2.2.2.2.1 p.2.2.2.2.2.2.2.2.2.2.2.1 p.2.2.2.2.2.2.2.2.2.2.2.2.1 p.2.2.2.2.2.2.2.2.2.2.2.2.2.1 p.2.2.2.2.2.2.2.2.2.2.2.2.2.2.1 p.2.2.2.2.2.2.2.2.2.2.2.2.2.2.2) (fun p => Rx p.1 p.2.1 p.2.2.1 p.2.2.2.1 p.2.2.2.2.1 p.2.2.2.2.2.1 p.2.2.2.2.2.2.1 p.2.2.2.2.2.2.2.1 p.2.2.2.2.2.2.2.2.1 p.2.2.2.2.2.2.2.2.2.1 p.2.2.2.2.2.2.2.2.2.2.1 p.2.2.2.2.2.2.2.2.2.2.2.1 p.2.2.2.2.2.2.2.2.2.2.2.2.1 p.2.2.2.2.2.2.2.2.2.2.2.2.2.1 p.2.2.2.2.2.2.2.2.2.2.2.2.2.2.1 p.2.2.2.2.2.2.2.2.2.2.2.2.2.2.2) (fun p => J p.1 p.2.1 p.2.2.1 p.2.2.2.1 p.2.2.2.2.1 p.2.2.2.2.2.1 p.2.2.2.2.2.2.1 p.2.2.2.2.2.2.2.1 p.2.2.2.2.2.2.2.2.1 p.2.2.2.2.2.2.2.2.2.1 p.2.2.2.2.2.2.2.2.2.2.1 p.2.2.2.2.2.2.2.2.2.2.2.1 p.2.2.2.2.2.2.2.2.2.2.2.2.1 p.2.2.2.2.2.2.2.2.2.2.2.2.2.1 p.2.2.2.2.2.2.2.2.2.2.2.2.2.2.1 p.2.2.2.2.2.2.2.2.2.2.2.2.2.2.2) (fun p => μ p.1 p.2.1 p.2.2.1 p.2.2.2.1 p.2.2.2.2.1 p.2.2.2.2.2.1 p.2.2.2.2.2.2.1 p.2.2.2.2.2.2.2.1 p.2.2.2.2.2.2.2.2.1 p.2.2.2.2.2.2.2.2.2.1 p.2.2.2.2.2.2.2.2.2.2.1 p.2.2.2.2.2.2.2.2.2.2.2.1 p.2.2.2.2.2.2.2.2.2.2.2.2.1 p.2.2.2.2.2.2.2.2.2.2.2.2.2.1 p.2.2.2.2.2.2.2.2.2.2.2.2.2.2.1 p.2.2.2.2.2.2.2.2.2.2.2.2.2.2.2) ⟨(x0, x1, x2, x3, x4, x5, x6, x7, x8, x9, x10, x11, x12, x13, x14, x15), h1, h2, h3⟩ fun p hp => w_mono (round p.1 p.2.1 p.2.2.1 p.2.2.2.1 p.2.2.2.2.1 p.2.2.2.2.2.1 p.2.2.2.2.2.2.1 p.2.2.2.2.2.2.2.1 p.2.2.2.2.2.2.2.2.1 p.2.2.2.2.2.2.2.2.2.1 p.2.2.2.2.2.2.2.2.2.2.1 p.2.2.2.2.2.2.2.2.2.2.2.1 p.2.2.2.2.2.2.2.2.2.2.2.2.1 p.2.2.2.2.2.2.2.2.2.2.2.2.2.1 p.2.2.2.2.2.2.2.2.2.2.2.2.2.2.1 p.2.2.2.2.2.2.2.2.2.2.2.2.2.2.2 hp) ?_ (fun _ _ h => h) (fun _ _ _ h => h)
 rintro L' R' ⟨y0, y1, y2, y3, y4, y5, y6, y7, y8, y9, y10, y11, y12, y13, y14, y15, g1, g2, g3, g4⟩
 exact ⟨(y0, y1, y2, y3, y4, y5, y6, y7, y8, y9, y10, y11, y12, y13, y14, y15), ⟨g1, g2⟩, g3, g4⟩
def encS (r : RC) : Value := .slice r.A r.root.length r.c
theorem SlR.toRg {Rs : List Row} {vals : List Value} {ls : List (List Int)} (h : SlR .u8 Rs vals ls) (hb : ∀ l ∈ ls, ByteL l) : ∃ lr : List RC, vals = lr.map encS ∧ lr.map RC.root = ls ∧ RgR Rs lr := by
 obtain ⟨hl, h⟩ := h
 induction ls generalizing vals with
 | nil => exact ⟨[], by simpa using hl, rfl, RgR.nil _⟩
 | cons l ls ih =>
  rcases vals with _ | ⟨v, vals⟩
  ·simp at hl
  obtain ⟨A, c, h1, h2⟩ := h 0 (by simp)
  obtain ⟨lr, e1, e2, e3⟩ := ih (vals := vals) (fun q hq => hb q (.tail _ hq)) (by simpa using hl) (fun j hj => by
   obtain ⟨A, c, h1, h2⟩ := h (j + 1) (by simp; omega)
   exact ⟨A, c, by simpa using h1, by simpa using h2⟩)
  simp only [List.getElem?_cons_zero, Option.some.injEq, List.getD_cons_zero] at h1 h2
  refine ⟨⟨A, c, l, 0⟩ :: lr, by rw [h1, e1]; rfl, by rw [← e2]; rfl, fun r hr => ?_⟩
  rcases List.mem_cons.1 hr with rfl | hr
  ·exact ⟨hb _ (.head _), h2⟩
  ·exact e3 r hr
theorem RgR.toSl {Rs : List Row} {lr : List RC} (h : RgR Rs lr) : SlR .u8 Rs (lr.map encS) (lr.map RC.root) := by
 refine ⟨by simp, fun j hj => ?_⟩
 rw [List.length_map] at hj
 refine ⟨lr[j].A, lr[j].c, ?_, ?_⟩
 ·rw [List.getElem?_map, List.getElem?_eq_getElem hj, List.getD_eq_getElem?_getD, List.getElem?_map, List.getElem?_eq_getElem hj]
  rfl
 ·rw [List.getD_eq_getElem?_getD, List.getElem?_map, List.getElem?_eq_getElem hj]
  exact (h _ (List.getElem_mem hj)).2
theorem encS_one (x : RC) : (encS x).oneCell' = true := rfl
theorem cmpL_swo : Go.Sort.SWO (Go.Proofs.ltOf fun x y : RC => cmpL x.root y.root) := by
 have e : ∀ x y : RC, Go.Proofs.ltOf (fun x y : RC => cmpL x.root y.root) x y = true ↔ cmpL x.root y.root < 0 := fun x y => by simp [Go.Proofs.ltOf]
 have e' : ∀ x y : RC, Go.Proofs.ltOf (fun x y : RC => cmpL x.root y.root) x y = false ↔ cmpL y.root x.root ≤ 0 := fun x y => by
  rw [← Bool.not_eq_true, e, cmpL_anti x.root y.root]; omega
 refine ⟨fun x => ?_, fun x y z h1 h2 => ?_, fun x y z h1 h2 => ?_⟩
 ·rw [e', (cmpL_eq x.root x.root).2 rfl]; omega
 ·rw [e] at h1 h2 ⊢
  have h3 := cmpL_le x.root y.root z.root (by omega) (by omega)
  rcases Int.lt_or_eq_of_le h3 with g | g
  ·exact g
  ·have g2 := (cmpL_eq _ _).1 g
   rw [g2, cmpL_anti y.root z.root] at h1
   omega
 ·rw [e'] at h1 h2 ⊢
  exact cmpL_le _ _ _ h2 h1
theorem cmpL_one {a b : List (List Int)} (hp : a.Perm b) (ha : a.Pairwise fun x y => cmpL x y ≤ 0) (hb : b.Pairwise fun x y => cmpL x y ≤ 0) : a = b :=
 hp.eq_of_pairwise (fun x y _ _ h1 h2 => (cmpL_eq x y).1 (by rw [cmpL_anti x y] at h2; omega)) ha hb
end
end Go.Eng
namespace Go.Eng
open Go Go.RowKit
section
variable {P : Program} {n : Nd} {B : Nat} {w0 : World} {ops : Array Oper} {K : Env → List Row → Prop} {L : Env} {R R1 : List Row}
end
end Go.Eng

/-! ## X2 -/
namespace Go.Proofs.YtdfcnalkdlifiaaGreat
open Go Go.Eng Go.Pure
open Tryz
set_option linter.unusedVariables false
theorem sortsRows (cb : Array Value) : SortsC Tryz.prog 40 41 cb := fun α _ enc h1 cf hO blk off cap d w hcmp hH hblk hsz =>
 Any.slices_SortFunc Tryz.laysRow enc h1 cf hO 41 cb blk off cap d w en41 hcmp hH hblk hsz
theorem sortsRows0 : SortsNone Tryz.prog 40 := fun p cap fv w => AnyF.slices_SortFunc_none { Tryz.laysRow with } p cap fv w
theorem roots_step {l : List Int} {cs : List (List Int)} {ls : List (List Int)} {acc : List Int} {i : Int} (h0 : 0 ≤ i) (h1 : i < cs.length) (h : ls = (cs.take i.toNat).map (wordC l)) (ha : acc = [] ++ ((rdl cs i).reverse.take (rdl cs i).length).map (rd l)) : ls ++ [acc] = (cs.take (i + 1).toNat).map (wordC l) := by
 rw [cw_step (wordC l) h0 h1, ← h, ha, List.nil_append, List.take_of_length_le (by rw [List.length_reverse]; omega)]
 rfl
theorem words_ok {u : List Int} (h : ByteL u) (hN : u.length ≤ 1000000 := by omega) : OkB ((cycL (fsL u)).map (wordC u)) := fun l hl => by
 obtain ⟨c, hc, rfl⟩ := List.mem_map.1 hl
 refine ⟨fun x hx => by obtain ⟨y, hy, rfl⟩ := List.mem_map.1 hx; exact h.rd y, ?_⟩
 have hfp := fsL_perm h
 have h1 := List.Sublist.length_le (List.sublist_flatten_of_mem hc)
 have h2 := cycL_len hfp
 have h3 := fsL_len u
 rw [wordC_len]
 omega
set_option maxRecDepth 100000 in
set_option maxHeartbeats 2000000 in
theorem extRoots_ct {w : World} {A_u : Option Addr} {n_u c_u : Nat} {u : List Int} (h_u : Rd w A_u n_u c_u 1 (ints .u8 u)) (bh_u : ByteL u) (hN : u.length ≤ 1000000) :
  Ct Tryz.prog 21 #[.slice A_u n_u c_u] w.heap.size w [] (fun v R' => ∃ (A : Option Addr) (c : Nat) (vals : List Value) (Rs : List Row), v = .slice A vals.length c ∧ SlR .u8 Rs vals (((cycL (fsL u)).map (wordC u))) ∧ R' = ⟨23, 1, A, vals.length, c, vals, false⟩ :: Rs) := by
 obtain rfl := h_u.lenI
 refine fnV Tryz.func21 rfl rfl ?_
 have m_u := h_u.max
 have hfp := fsL_perm bh_u
 have hfl := fsL_len u
 have hcl0 := cycL_len hfp
 have hcf := cyc_count (p := fsL u)
 refine v_seqW ?_
 refine w_reg <| wr_a rfl (a_box (sz := 1) rfl rfl) ?_
 rintro _ _ ⟨g_1, rfl, rfl⟩
 refine wr_rows (R1 := (⟨23, 1, (some ⟨g_1, 0, none⟩), 1, 1, [.slice A_u u.length c_u], false⟩ :: [])) rfl <| wr_sub (R1 := (⟨23, 1, none, 0, 0, [], false⟩ :: ⟨23, 1, (some ⟨g_1, 0, none⟩), 1, 1, [.slice A_u u.length c_u], false⟩ :: [])) (Sub.refl _) (fun _ h => h.nil 23 1) <| wg rfl rfl <| wr_nil ?_
 refine v_seqW ?_
 refine w_reg <| wr_y rfl (y_ldIn (rdR 1 (r := ⟨23, 1, (some ⟨g_1, 0, none⟩), 1, 1, [.slice A_u u.length c_u], false⟩) rfl) underlying23 rfl rfl rfl) <| wr_a rfl (a_callF en38 rfl (Ct.fresh (fun w hw => lfOf_ct ((h_u.c _) w hw) bh_u hN))) ?_
 rintro _ _ ⟨_, rfl, A_3, c_4, rfl, rfl⟩
 refine wr_a rfl (a_callF en37 rfl (Ct.fresh (fun w hw => cycles_ct ((rdr 0 rfl) w hw) hfp (by omega)))) ?_
 rintro _ _ ⟨_, rfl, A_6, c_7, vals_8, Rs_9, rfl, hsl_10, rfl⟩
 have hn_hsl_10 := hsl_10.1
 refine wr_sub (R1 := (⟨24, 1, A_6, vals_8.length, c_7, vals_8, false⟩ :: ⟨3, 1, A_3, (fsL u).length, c_4, ints .i64 (fsL u), false⟩ :: ⟨23, 1, none, 0, 0, [], false⟩ :: ⟨23, 1, (some ⟨g_1, 0, none⟩), 1, 1, [.slice A_u u.length c_u], false⟩ :: Rs_9)) (Sub.refl _) (fun _ h => Hp.toTail0 (X := [_]) (Y := [_, _, _]) h) <| wm rfl rfl <| wX rfl rfl rfl <| wX rfl rfl rfl <| wg rfl rfl <| wg rfl rfl <| wr_nil ?_
 refine v_seqW ?_
 refine w_reg <| wr_sub (R1 := (⟨23, 1, none, 0, 0, [], false⟩ :: ⟨24, 1, A_6, vals_8.length, c_7, vals_8, false⟩ :: ⟨3, 1, A_3, (fsL u).length, c_4, ints .i64 (fsL u), false⟩ :: ⟨23, 1, none, 0, 0, [], false⟩ :: ⟨23, 1, (some ⟨g_1, 0, none⟩), 1, 1, [.slice A_u u.length c_u], false⟩ :: Rs_9)) (Sub.refl _) (fun _ h => h.nil 23 1) <| wg rfl rfl <| wr_nil ?_
 refine v_seq ?_
 refine v_seqW ?_
 refine w_reg <| wm rfl rfl <| wr_y rfl (y_len underlying59 rfl) <| wm rfl rfl <| wr_nil ?_
 refine v_block ?_
 refine v_loop7 (fun (i : Int) (A1 : Option Addr) (n1 : Nat) (c1 : Nat) (vals : List Value) (ls : List (List Int)) (Rs : List Row) => [(1, .pointer (some ⟨g_1, 0, none⟩)), (5, .slice A1 n1 c1), (17, .slice A_6 vals_8.length c_7), (18, .int .i64 ((vals_8.length : Nat) : Int)), (19, .int .i64 i)]) (fun (i : Int) (A1 : Option Addr) (n1 : Nat) (c1 : Nat) (vals : List Value) (ls : List (List Int)) (Rs : List Row) => (⟨23, 1, A1, n1, c1, vals, false⟩ :: ⟨24, 1, A_6, vals_8.length, c_7, vals_8, false⟩ :: ⟨3, 1, A_3, (fsL u).length, c_4, ints .i64 (fsL u), false⟩ :: ⟨23, 1, none, 0, 0, [], false⟩ :: ⟨23, 1, (some ⟨g_1, 0, none⟩), 1, 1, [.slice A_u u.length c_u], false⟩ :: Rs)) (fun (i : Int) (A1 : Option Addr) (n1 : Nat) (c1 : Nat) (vals : List Value) (ls : List (List Int)) (Rs : List Row) => (0 ≤ i) ∧ (i ≤ vals_8.length) ∧ (n1 = vals.length) ∧ (SlR .u8 Rs vals ls) ∧ (SlR .i64 Rs vals_8 (cycL (fsL u))) ∧ (ls = ((cycL (fsL u)).take i.toNat).map (wordC u))) (fun (i : Int) (A1 : Option Addr) (n1 : Nat) (c1 : Nat) (vals : List Value) (ls : List (List Int)) (Rs : List Row) => (vals_8.length - i).toNat) ?_ Gd.refl ?_
 ·
  exact ⟨0, none, 0, 0, [], [], Rs_9, ⟨(by omega), (by omega), (rfl), (SlR.nilR _ _), (hsl_10), (rfl)⟩, (sc rfl (sc rfl (sc rfl (sc rfl (sc rfl Sub.nil))))), fun _ h => h⟩
 intro i A1 n1 c1 vals ls Rs dsW1 WW1 ⟨hi0, hi1, hn1, hsl, hcy, hls⟩ hbW1 hGW1
 have hcl := hcy.1
 have hsn := hsl.1
 have hll := congrArg List.length hls
 rw [List.length_map, List.length_take] at hll
 have hcm0 : 0 ≤ i → i < (cycL (fsL u)).length → rdl (cycL (fsL u)) i ∈ cycL (fsL u) := fun h h' => cyc_mem h h'
 refine v_seqW ?_
 refine w_reg <| wL rfl rfl rfl <| wr_nil ?_
 refine v_seqW ?_
 refine w_if rfl (fun hc2 => ?_) (fun hc2 => ?_)
 ·
  refine w_skip ?_
  refine v_seq ?_
  refine v_block ?_
  refine v_seqW ?_
  refine w_reg <| wr_y rfl (y_index1 underlying59 sz24 rfl rfl (rdr 1 rfl) (by omega) (by omega)) ?_
  obtain ⟨A_11, c_12, hv_13, hr_14⟩ := hcy.at (i := i) (by omega) (by omega)
  refine wr_y rfl (y_ld underlying24 rfl rfl rfl (rdr 1 rfl) hv_13) <| wg rfl rfl <| wr_nil ?_
  refine v_seqW ?_
  refine w_reg <| wr_a rfl (a_alloc (sz := 1) zz23 rfl) ?_
  rintro _ _ ⟨g_15, rfl, rfl⟩
  refine wr_sub (R1 := (⟨5, 1, none, 0, 0, ints .u8 ([]), false⟩ :: ⟨23, 1, (some ⟨g_15, 0, none⟩), 1, 1, [.slice none 0 0], false⟩ :: ⟨23, 1, A1, n1, c1, vals, false⟩ :: ⟨24, 1, A_6, vals_8.length, c_7, vals_8, false⟩ :: ⟨3, 1, A_3, (fsL u).length, c_4, ints .i64 (fsL u), false⟩ :: ⟨23, 1, none, 0, 0, [], false⟩ :: ⟨23, 1, (some ⟨g_1, 0, none⟩), 1, 1, [.slice A_u u.length c_u], false⟩ :: Rs)) (Sub.refl _) (fun _ h => h.nil 5 1) <| wr_nil ?_
  refine v_seq ?_
  refine v_seqW ?_
  refine w_reg <| wm rfl rfl <| wr_a rfl (a_callF en39 rfl (backInts_ct)) ?_
  rintro _ _ ⟨g_16, rfl, rfl⟩
  refine wr_nil ?_
  refine v_block ?_
  have hcm := hcm0 hi0 (by omega)
  have hcl2 : (rdl (cycL (fsL u)) i).length ≤ u.length := by have := List.Sublist.length_le (List.sublist_flatten_of_mem hcm); omega
  refine v_range4 rfl en68 (back0_ints (A := A_11) (c := c_12) (zs := rdl (cycL (fsL u)) i) (by omega)) rfl (fun _ => rfl) hGW1 (fun (kr : Nat) (A2 : Option Addr) (n2 : Nat) (c2 : Nat) (acc : List Int) => (⟨24, 1, (some ⟨g_16, 0, none⟩), 1, 1, [.slice A_11 ((rdl (cycL (fsL u)) i).length) c_12], false⟩ :: ⟨5, 1, A2, n2, c2, ints .u8 acc, false⟩ :: ⟨23, 1, (some ⟨g_15, 0, none⟩), 1, 1, [.slice A2 n2 c2], false⟩ :: ⟨23, 1, A1, n1, c1, vals, false⟩ :: ⟨24, 1, A_6, vals_8.length, c_7, vals_8, false⟩ :: ⟨3, 1, A_3, (fsL u).length, c_4, ints .i64 (fsL u), false⟩ :: ⟨23, 1, none, 0, 0, [], false⟩ :: ⟨23, 1, (some ⟨g_1, 0, none⟩), 1, 1, [.slice A_u u.length c_u], false⟩ :: Rs)) (fun (kr : Nat) (A2 : Option Addr) (n2 : Nat) (c2 : Nat) (acc : List Int) => (n2 = acc.length) ∧ (acc = [] ++ ((rdl (cycL (fsL u)) i).reverse.take kr).map (rd u))) ?_ ?_ ?_ ?_
  ·
   exact ⟨none, 0, 0, [], ⟨(rfl), (by rw [List.take_zero]; rfl)⟩, fun _ h => h⟩
  ·
   intro kr A2 n2 c2 acc w ⟨hn2, hacc⟩ hw
   exact ⟨(rdR 0 (r := ⟨24, 1, (some ⟨g_16, 0, none⟩), 1, 1, [.slice A_11 ((rdl (cycL (fsL u)) i).length) c_12], false⟩) rfl) w hw, (fun _ h => hr_14 _ _ _ (h.right (R' := [_, _, _, _, _, _, _, _]))) w hw⟩
  ·
   intro lr kr A2 n2 c2 acc WW3 hkr ⟨hn2, hacc⟩ hbW3
   have hel := cycL_in hfp _ hcm _ (rd_mem (L := rdl (cycL (fsL u)) i) (k := (((rdl (cycL (fsL u)) i).length - 1 - kr : Nat) : Int)) (by omega) (by omega))
   have hal2 : acc.length ≤ (rdl (cycL (fsL u)) i).length := by rw [hacc, List.nil_append, List.length_map, List.length_take, List.length_reverse]; omega
   refine w_reg <| wg rfl rfl <| wr_nil ?_
   intro WW33 hbW33
   refine w_block <| w_regd mixed <| wd_y 0 rfl (by kernel_rfl) rfl (y_ldIn (rdR 2 (r := ⟨23, 1, (some ⟨g_15, 0, none⟩), 1, 1, [.slice A2 n2 c2], false⟩) rfl) underlying23 rfl rfl rfl) <| wd_y 1 rfl (by kernel_rfl) rfl (y_ldIn (rdR 7 (r := ⟨23, 1, (some ⟨g_1, 0, none⟩), 1, 1, [.slice A_u u.length c_u], false⟩) rfl) underlying23 rfl rfl rfl) <| wd_y 2 rfl (by kernel_rfl) rfl (y_move rfl) <| wd_y 3 rfl (by kernel_rfl) rfl (y_index1 underlying23 sz5 rfl rfl (h_u.cb (hbW1.trans hbW33) _) (by omega) (by omega)) <| wd_y 4 rfl (by kernel_rfl) rfl (y_ldI underlying5 rfl rfl (h_u.cb (hbW1.trans hbW33) _) (by omega) (by omega)) <| wd_a 5 rfl (by kernel_rfl) rfl (a_litI .u8 [rd u (rd (rdl (cycL (fsL u)) i) (((rdl (cycL (fsL u)) i).length - 1 - kr : Nat) : Int))] underlying23 zs5 rfl rfl rfl) ?_
   rintro _ _ ⟨g_19, rfl, rfl⟩
   refine ⟨.inr fun _ h => h.right (R' := [_]), ?_⟩
   refine wd_a 6 rfl (by kernel_rfl) rfl (a_appendI 2 rfl underlying23 zb5 rfl rfl rfl (rdr 0 rfl) (by omega)) ?_
   rintro _ _ ⟨A_20, c_21, rfl, rfl⟩
   refine ⟨.inl (by kernel_rfl), ?_⟩
   refine wd_rows (R1 := (⟨5, 1, (some ⟨g_19, 0, none⟩), 1, 1, ints .u8 ([rd u (rd (rdl (cycL (fsL u)) i) (((rdl (cycL (fsL u)) i).length - 1 - kr : Nat) : Int))]), false⟩ :: ⟨24, 1, (some ⟨g_16, 0, none⟩), 1, 1, [.slice A_11 ((rdl (cycL (fsL u)) i).length) c_12], false⟩ :: ⟨5, 1, A_20, (n2 + 1), c_21, ints .u8 (acc ++ ([rd u (rd (rdl (cycL (fsL u)) i) (((rdl (cycL (fsL u)) i).length - 1 - kr : Nat) : Int))])), false⟩ :: ⟨23, 1, (some ⟨g_15, 0, none⟩), 1, 1, [.slice A2 n2 c2], false⟩ :: ⟨23, 1, A1, n1, c1, vals, false⟩ :: ⟨24, 1, A_6, vals_8.length, c_7, vals_8, false⟩ :: ⟨3, 1, A_3, (fsL u).length, c_4, ints .i64 (fsL u), false⟩ :: ⟨23, 1, none, 0, 0, [], false⟩ :: ⟨23, 1, (some ⟨g_1, 0, none⟩), 1, 1, [.slice A_u u.length c_u], false⟩ :: Rs)) rfl <| wd_as (v := .slice A_20 (n2 + 1) c_21) rfl <| wd_n 7 rfl (by kernel_rfl) (a_storeAt 3 rfl rfl rfl sz23 rfl rfl rfl rfl (Nat.le_of_ble_eq_true rfl)) ?_
   rintro _ _ rfl
   refine ⟨.inl (by kernel_rfl), ?_⟩
   refine wd_rows (R1 := (⟨5, 1, (some ⟨g_19, 0, none⟩), 1, 1, ints .u8 ([rd u (rd (rdl (cycL (fsL u)) i) (((rdl (cycL (fsL u)) i).length - 1 - kr : Nat) : Int))]), false⟩ :: ⟨24, 1, (some ⟨g_16, 0, none⟩), 1, 1, [.slice A_11 ((rdl (cycL (fsL u)) i).length) c_12], false⟩ :: ⟨5, 1, A_20, (n2 + 1), c_21, ints .u8 (acc ++ ([rd u (rd (rdl (cycL (fsL u)) i) (((rdl (cycL (fsL u)) i).length - 1 - kr : Nat) : Int))])), false⟩ :: ⟨23, 1, (some ⟨g_15, 0, none⟩), 1, 1, [.slice A_20 (n2 + 1) c_21], false⟩ :: ⟨23, 1, A1, n1, c1, vals, false⟩ :: ⟨24, 1, A_6, vals_8.length, c_7, vals_8, false⟩ :: ⟨3, 1, A_3, (fsL u).length, c_4, ints .i64 (fsL u), false⟩ :: ⟨23, 1, none, 0, 0, [], false⟩ :: ⟨23, 1, (some ⟨g_1, 0, none⟩), 1, 1, [.slice A_u u.length c_u], false⟩ :: Rs)) rfl <| wd_nil (by kernel_rfl) ?_
   exact ⟨A_20, (n2 + 1), c_21, acc ++ ([rd u (rd (rdl (cycL (fsL u)) i) (((rdl (cycL (fsL u)) i).length - 1 - kr : Nat) : Int))]), ⟨(by rw [List.length_append, hn2]; rfl), (word_inner hkr hacc)⟩, fun _ => fun _ h => h.selR (F := [_, _, _, _, _, _, _, _, _]) (F' := [_, _, _, _, _, _, _, _]) [1, 2, 3, 4, 5, 6, 7, 8] (by decide) rfl⟩
  intro WW35 DW3 A2 n2 c2 acc ⟨hn2, hacc⟩ hbW35 hGW35
  refine v_goB ?_
  refine v_go ?_
  refine v_w ?_
  refine w_reg <| wm rfl rfl <| wr_y rfl (y_ldIn (rdR 2 (r := ⟨23, 1, (some ⟨g_15, 0, none⟩), 1, 1, [.slice A2 n2 c2], false⟩) rfl) underlying23 rfl rfl rfl) <| wr_a rfl (a_lit [Value.slice A2 n2 c2] underlying22 zs23 rfl rfl rfl rfl) ?_
  rintro _ _ ⟨g_23, rfl, rfl⟩
  refine wr_a rfl (a_append 4 rfl rfl underlying22 zb23 rfl rfl rfl rfl rfl (rdr 0 rfl) (by simp [Value.oneCell']) (by dsimp only; omega)) ?_
  rintro _ _ ⟨A_24, c_25, rfl, rfl⟩
  refine wr_rows (R1 := (⟨23, 1, (some ⟨g_23, 0, none⟩), 1, 1, [Value.slice A2 n2 c2], false⟩ :: ⟨24, 1, (some ⟨g_16, 0, none⟩), 1, 1, [.slice A_11 ((rdl (cycL (fsL u)) i).length) c_12], false⟩ :: ⟨5, 1, A2, n2, c2, ints .u8 acc, false⟩ :: ⟨23, 1, (some ⟨g_15, 0, none⟩), 1, 1, [.slice A2 n2 c2], false⟩ :: ⟨23, 1, A_24, (n1 + 1), c_25, vals ++ ([Value.slice A2 n2 c2]), false⟩ :: ⟨24, 1, A_6, vals_8.length, c_7, vals_8, false⟩ :: ⟨3, 1, A_3, (fsL u).length, c_4, ints .i64 (fsL u), false⟩ :: ⟨23, 1, none, 0, 0, [], false⟩ :: ⟨23, 1, (some ⟨g_1, 0, none⟩), 1, 1, [.slice A_u u.length c_u], false⟩ :: Rs)) rfl <| wr_as (v := .slice A_24 (n1 + 1) c_25) rfl <| wg rfl rfl <| wr_nil ?_
  refine v_goB ?_
  refine v_go ?_
  refine v_w ?_
  refine w_reg <| wA rfl rfl rfl (by omega) <| wm rfl rfl <| wr_nil ?_
  refine v_again7 (Lx := fun (i : Int) (A1 : Option Addr) (n1 : Nat) (c1 : Nat) (vals : List Value) (ls : List (List Int)) (Rs : List Row) => [(1, .pointer (some ⟨g_1, 0, none⟩)), (5, .slice A1 n1 c1), (17, .slice A_6 vals_8.length c_7), (18, .int .i64 ((vals_8.length : Nat) : Int)), (19, .int .i64 i)]) (Rx := fun (i : Int) (A1 : Option Addr) (n1 : Nat) (c1 : Nat) (vals : List Value) (ls : List (List Int)) (Rs : List Row) => (⟨23, 1, A1, n1, c1, vals, false⟩ :: ⟨24, 1, A_6, vals_8.length, c_7, vals_8, false⟩ :: ⟨3, 1, A_3, (fsL u).length, c_4, ints .i64 (fsL u), false⟩ :: ⟨23, 1, none, 0, 0, [], false⟩ :: ⟨23, 1, (some ⟨g_1, 0, none⟩), 1, 1, [.slice A_u u.length c_u], false⟩ :: Rs)) (J := fun (i : Int) (A1 : Option Addr) (n1 : Nat) (c1 : Nat) (vals : List Value) (ls : List (List Int)) (Rs : List Row) => (0 ≤ i) ∧ (i ≤ vals_8.length) ∧ (n1 = vals.length) ∧ (SlR .u8 Rs vals ls) ∧ (SlR .i64 Rs vals_8 (cycL (fsL u))) ∧ (ls = ((cycL (fsL u)).take i.toNat).map (wordC u))) (μ := fun (i : Int) (A1 : Option Addr) (n1 : Nat) (c1 : Nat) (vals : List Value) (ls : List (List Int)) (Rs : List Row) => (vals_8.length - i).toNat) (hbW1.trans hbW35) hGW35 ?_
  exact ⟨i + 1, A_24, n1 + 1, c_25, vals ++ ([Value.slice A2 n2 c2]), (ls ++ [acc]), (⟨5, 1, A2, n2, c2, ints .u8 acc, false⟩ :: Rs), ⟨(by omega), (by omega), (by rw [List.length_append, hn1]; rfl), (hsl.snoc hn2), (hcy.right [_]), (roots_step hi0 (by omega) hls hacc)⟩, (by omega), (sc rfl (sc rfl (sc rfl (sc rfl (sc rfl Sub.nil))))), fun _ h => h.selR (F := [_, _, _, _, _, _, _, _, _]) (F' := [_, _, _, _, _, _]) [4, 5, 6, 7, 8, 2] (by decide) rfl⟩
 ·
  obtain rfl : ls = ((cycL (fsL u)).map (wordC u)) := by rw [hls, List.take_of_length_le (by omega)]
  have hbw : ∀ l ∈ ((cycL (fsL u)).map (wordC u)), ByteL l := fun l hl => by obtain ⟨c, hc, rfl⟩ := List.mem_map.1 hl; intro x hx; obtain ⟨y, hy, rfl⟩ := List.mem_map.1 hx; exact bh_u.rd y
  obtain ⟨lr, rfl, hlr, hrg⟩ := hsl.toRg hbw
  rw [List.length_map] at hn1
  obtain rfl := hn1
  have hlrn := congrArg List.length hlr
  rw [List.length_map, List.length_map] at hlrn
  refine w_exit ?_
  refine v_exit ?_
  refine v_exL ?_
  refine v_exB ?_
  refine v_go ?_
  refine v_w ?_
  refine wq <| wm rfl rfl <| wr_a rfl (a_callF en40 rfl (sort_cell1 (enc := Go.Eng.encS) (sortsRows _) sortsRows0 Go.Eng.encS_one (l := lr) 0 rfl (by omega) (fun x y => cmpL x.root y.root) cmpL_swo (fun W hW x hx y hy => compareBB_ct ((hrg x hx).2 _ _ _ (hW.right (R' := [_, _, _, _]))) ((hrg y hy).2 _ _ _ (hW.right (R' := [_, _, _, _]))) (hrg x hx).1 (hrg y hy).1))) ?_
  rintro _ _ ⟨rfl, l1, hp1, hs1, rfl⟩
  rw [← hp1.length_eq]
  refine wr_rows (R1 := (⟨23, 1, A1, l1.length, c1, (l1.map Go.Eng.encS), false⟩ :: ⟨24, 1, A_6, vals_8.length, c_7, vals_8, false⟩ :: ⟨3, 1, A_3, (fsL u).length, c_4, ints .i64 (fsL u), false⟩ :: ⟨23, 1, none, 0, 0, [], false⟩ :: ⟨23, 1, (some ⟨g_1, 0, none⟩), 1, 1, [.slice A_u u.length c_u], false⟩ :: Rs)) rfl <| wr_nil <| wq <| wm rfl rfl <| wg rfl rfl <| wr_nil <| w_retR (R1 := (⟨23, 1, A1, l1.length, c1, (l1.map Go.Eng.encS), false⟩ :: Rs)) (fun _ h => h.selR (F := [_, _, _, _, _]) (F' := [_]) [0] (by decide) rfl) ?_
  refine fin1 rfl hGW1 ⟨_, rfl, ?_⟩
  have hfin : l1.map RC.root = ((cycL (fsL u)).map (wordC u)) := cmpL_one ((hp1.map RC.root).trans (by rw [hlr])) (List.pairwise_map.2 (hs1.imp fun {a b} h => by rw [cmpL_anti a.root b.root] at h; omega)) (wordC_up bh_u)
  exact ⟨_, _, l1.map Go.Eng.encS, Rs, by rw [List.length_map], by rw [← hfin]; exact (hrg.perm hp1).toSl, by rw [List.length_map]⟩

theorem block_eq {all : List (List Int)} {n : Int} (hs : all.Pairwise fun a b => cmpL a b ≤ 0) (n1 : 1 ≤ n) (hn : n ≤ all.length) (hq : rdl all (n - 1) = rdl all 0) : all.take n.toNat = List.replicate n.toNat (rdl all 0) := by
 have hg : ∀ i : Int, 0 ≤ i → (hi : i < all.length) → rdl all i = all[i.toNat]'(by omega) := fun i h0 hi => by
  unfold rdl
  rw [List.getD_eq_getElem?_getD, List.getElem?_eq_getElem (by omega)]
  rfl
 have hle : ∀ i j, (hi : i < all.length) → (hj : j < all.length) → i ≤ j → cmpL all[i] all[j] ≤ 0 := fun i j hi hj h => by
  rcases Nat.lt_or_ge i j with g | g
  ·exact List.pairwise_iff_getElem.1 hs i j hi hj g
  ·obtain rfl : i = j := by omega
   rw [(cmpL_eq _ _).2 rfl]; omega
 refine List.ext_getElem (by rw [List.length_take, List.length_replicate]; omega) fun i h1 h2 => ?_
 rw [List.length_take] at h1
 rw [List.getElem_take, List.getElem_replicate]
 have a1 := hle 0 i (by omega) (by omega) (Nat.zero_le _)
 have a2 := hle i (n - 1).toNat (by omega) (by omega) (by omega)
 rw [← hg (n - 1) (by omega) (by omega), hq] at a2
 have e0 : rdl all 0 = all[0]'(by omega) := hg 0 (by omega) (by omega)
 rw [← e0, cmpL_anti all[i]] at a1
 exact (cmpL_eq _ _).1 (by omega)
theorem block_len {all : List (List Int)} {n : Int} {r : List Int} (h : all.take n.toNat = List.replicate n.toNat r) : n.toNat * r.length ≤ all.flatten.length := by
 have h1 := congrArg (fun x : List (List Int) => x.flatten.length) h
 have h2 : (List.replicate n.toNat r).flatten.length = n.toNat * r.length := by simp
 simp only [h2] at h1
 have h3 := flat_le (ws := all) n.toNat
 omega
theorem be_bad1 {als : List (List Int)} {last tm : List Int} {many i : Int} (h0 : 0 ≤ i) (h1 : i < tm.length) (hb : rd tm i < 1 ∨ (als.length : Int) < rd tm i) : backE als last many (tm.drop i.toNat) = none := by
 rw [rd_drop_cons h0 h1, backE, if_pos hb]
theorem be_bad2 {als : List (List Int)} {last tm : List Int} {many i : Int} (h0 : 0 ≤ i) (h1 : i < tm.length) (hc : rdl als (rd tm i - 1) ≠ rdl als 0 ∨ last = rdl als 0 ∧ rd tm i < many) : backE als last many (tm.drop i.toNat) = none := by
 rw [rd_drop_cons h0 h1, backE]
 by_cases hb : rd tm i < 1 ∨ (als.length : Int) < rd tm i
 ·rw [if_pos hb]
 ·rw [if_neg hb, if_pos hc]
theorem be_go {als ls : List (List Int)} {last tm : List Int} {many i : Int} {o : Option (List (List Int))} (h0 : 0 ≤ i) (h1 : i < tm.length) (hb : ¬ (rd tm i < 1 ∨ (als.length : Int) < rd tm i)) (hc : ¬ (rdl als (rd tm i - 1) ≠ rdl als 0 ∨ last = rdl als 0 ∧ rd tm i < many)) (h : o = (backE als last many (tm.drop i.toNat)).map fun p => ls ++ p) :
  o = (backE (als.drop (rd tm i).toNat) (rdl als 0) (rd tm i) (tm.drop (i + 1).toNat)).map fun p => (ls ++ [rep (rdl als 0) (rd tm i)]) ++ p := by
 rw [h, rd_drop_cons h0 h1, backE, if_neg hb, if_neg hc, Option.map_map]
 congr 1
 funext p
 simp
def oE (o : Option (List (List Int))) : Int := if o.isSome then 0 else 5
theorem be_end {als ls : List (List Int)} {last tm : List Int} {many i : Int} {o : Option (List (List Int))} (hi : (tm.length : Int) ≤ i) (h : o = (backE als last many (tm.drop i.toNat)).map fun p => ls ++ p) : (0 < als.length → o = none) ∧ (¬ 0 < als.length → o = some ls) := by
 rw [List.drop_of_length_le (by omega), backE] at h
 constructor
 ·intro c
  rw [h, if_pos c]; rfl
 ·intro c
  rw [h, if_neg c]; simp
theorem drop_flat {ws : List (List Int)} {k M : Nat} (h : ws.flatten.length ≤ M) : (ws.drop k).flatten.length ≤ M := by
 have : ws.flatten = (ws.take k).flatten ++ (ws.drop k).flatten := by rw [← List.flatten_append, List.take_append_drop]
 rw [this, List.length_append] at h
 omega
theorem words_8 {u : List Int} (h : ByteL u) (hN : u.length ≤ 8000) {a : List Int} (ha : a ∈ (cycL (fsL u)).map (wordC u)) : ByteL a ∧ 0 < a.length ∧ a.length ≤ 8000 := by
 have h1 := words_ok h (by omega) a ha
 have h2 := ((LynB_iff a).1 (wordC_lyn h a ha)).1
 have h3 := List.Sublist.length_le (List.sublist_flatten_of_mem ha)
 have h4 : ((cycL (fsL u)).map (wordC u)).flatten.length = u.length := cycW_flat h
 exact ⟨h1.1, h2, by omega⟩
set_option maxRecDepth 100000 in
set_option maxHeartbeats 4000000 in
theorem extBack_ct {w : World} {A_u : Option Addr} {n_u c_u : Nat} {u : List Int} {A_tm : Option Addr} {n_tm c_tm : Nat} {tm : List Int} (h_u : Rd w A_u n_u c_u 1 (ints .u8 u)) (h_tm : Rd w A_tm n_tm c_tm 1 (ints .i64 tm)) (bh_u : ByteL u) (hN : u.length ≤ 8000 ∧ tm.length ≤ 1000) :
  Ct Tryz.prog 8 #[.slice A_u n_u c_u, .slice A_tm n_tm c_tm] w.heap.size w [] (fun v R' => ∃ (A : Option Addr) (c : Nat) (vals : List Value) (Rs : List Row), v = .tuple #[.slice A vals.length c, .int .i64 (oE (backE ((cycL (fsL u)).map (wordC u)) [] 0 tm))] ∧ SlR .u8 Rs vals ((backE ((cycL (fsL u)).map (wordC u)) [] 0 tm).getD []) ∧ R' = ⟨23, 1, A, vals.length, c, vals, false⟩ :: Rs) := by
 obtain rfl := h_u.lenI
 obtain rfl := h_tm.lenI
 refine fn2 Tryz.func8 rfl rfl rfl ?_
 have m_u := h_u.max
 have m_tm := h_tm.max
 refine wq <| wr_sub (R1 := (⟨23, 1, none, 0, 0, [], false⟩ :: [])) (Sub.refl _) (fun _ h => h.nil 23 1) <| wg rfl rfl <| wg rfl rfl <| wr_nil <| w_seq <| wq <| wm rfl rfl <| wr_y rfl (y_len underlying23 rfl) <| wr_y rfl (Yl.f (y_gt rfl rfl) (by omega)) <| wm rfl rfl <| wr_yes rfl rfl <| wm rfl rfl ?_
 refine wr_yes rfl rfl <| wr_y rfl (y_len underlying24 rfl) <| wr_yes rfl rfl <| wr_y rfl (Yl.f (y_gt rfl rfl) (by omega)) <| wr_y rfl (y_pickF rfl rfl) <| wr_nil <| w_false rfl <| w_skip <| wq <| wm rfl rfl <| wr_a rfl (a_callF en21 rfl (Ct.fresh (fun w hw => extRoots_ct ((h_u.c _) w hw) bh_u (by omega)))) ?_
 rintro _ _ ⟨_, rfl, A_1, c_2, vals_3, Rs_4, rfl, hsl_5, rfl⟩
 have hn_hsl_5 := hsl_5.1
 refine wr_sub (R1 := (⟨23, 1, A_1, vals_3.length, c_2, vals_3, false⟩ :: ⟨23, 1, none, 0, 0, [], false⟩ :: Rs_4)) (Sub.refl _) (fun _ h => Hp.toTail0 (X := [_]) (Y := [_]) h) <| wg rfl rfl <| wr_nil <| wq <| wr_a rfl (a_lit [] underlying22 zs23 rfl rfl rfl rfl) ?_
 rintro _ _ ⟨g_7, rfl, rfl⟩
 refine wg rfl rfl <| wr_nil <| wq <| wg rfl rfl <| wr_nil <| wq <| wg rfl rfl <| wr_nil <| w_seq <| wq <| wm rfl rfl <| wr_y rfl (y_len underlying24 rfl) ?_
 refine wm rfl rfl <| wr_nil <| w_block ?_
 refine w_loop16 (fun (i : Int) (A1 : Option Addr) (n1 : Nat) (c1 : Nat) (vals : List Value) (ls : List (List Int)) (A6 : Option Addr) (n6 : Nat) (c6 : Nat) (avals : List Value) (als : List (List Int)) (AL : Option Addr) (cL : Nat) (last : List Int) (many : Int) (Rs : List Row) => [(6, .slice A6 n6 c6), (7, .slice A1 n1 c1), (8, .slice AL last.length cL), (9, .int .i64 many), (24, .slice A_tm tm.length c_tm), (25, .int .i64 ((tm.length : Nat) : Int)), (26, .int .i64 i)]) (fun (i : Int) (A1 : Option Addr) (n1 : Nat) (c1 : Nat) (vals : List Value) (ls : List (List Int)) (A6 : Option Addr) (n6 : Nat) (c6 : Nat) (avals : List Value) (als : List (List Int)) (AL : Option Addr) (cL : Nat) (last : List Int) (many : Int) (Rs : List Row) => (⟨23, 1, A1, n1, c1, vals, false⟩ :: ⟨23, 1, none, 0, 0, [], false⟩ :: Rs)) (fun (i : Int) (A1 : Option Addr) (n1 : Nat) (c1 : Nat) (vals : List Value) (ls : List (List Int)) (A6 : Option Addr) (n6 : Nat) (c6 : Nat) (avals : List Value) (als : List (List Int)) (AL : Option Addr) (cL : Nat) (last : List Int) (many : Int) (Rs : List Row) => (0 ≤ i) ∧ (i ≤ tm.length) ∧ (n1 = vals.length) ∧ (SlR .u8 Rs vals ls) ∧ ((ls.length : Int) = i) ∧ (n6 = avals.length) ∧ (∀ (B : Nat) (w0 w : World), Hp B w0 w Rs → Rd w A6 n6 c6 1 avals) ∧ (SlR .u8 Rs avals als) ∧ (∀ (B : Nat) (w0 w : World), Hp B w0 w Rs → Rd w AL last.length cL 1 (ints .u8 last)) ∧ (∀ a ∈ als, ByteL a ∧ 0 < a.length ∧ a.length ≤ 8000) ∧ (ByteL last) ∧ (als.Pairwise fun a b => cmpL a b ≤ 0) ∧ (als.flatten.length ≤ 8000) ∧ (als.length ≤ 8000) ∧ ((backE ((cycL (fsL u)).map (wordC u)) [] 0 tm) = (backE als last many (tm.drop i.toNat)).map fun p => ls ++ p)) (fun (i : Int) (A1 : Option Addr) (n1 : Nat) (c1 : Nat) (vals : List Value) (ls : List (List Int)) (A6 : Option Addr) (n6 : Nat) (c6 : Nat) (avals : List Value) (als : List (List Int)) (AL : Option Addr) (cL : Nat) (last : List Int) (many : Int) (Rs : List Row) => (tm.length - i).toNat) ?_ ?_
 ·
  exact ⟨0, some ⟨g_7, 0, none⟩, 0, 0, [], [], A_1, vals_3.length, c_2, vals_3, ((cycL (fsL u)).map (wordC u)), none, 0, [], 0, (⟨23, 1, A_1, vals_3.length, c_2, vals_3, false⟩ :: Rs_4), ⟨(by omega), (by omega), (rfl), (SlR.nilR _ _), (rfl), (rfl), (fun _ _ _ h => rdr 0 rfl _ h), (hsl_5.right [_]), (fun _ _ _ _ => rd_none .u8), (fun a ha => words_8 bh_u (by omega) ha), (ByteL.nil), (wordC_up bh_u), (by have := cycW_flat bh_u; show (((cycL (fsL u)).map (wordC u))).flatten.length ≤ 8000; exact Nat.le_trans (Nat.le_of_eq this) (by omega)), (by rw [List.length_map]; have := cyc_count (p := fsL u); have := fsL_len u; omega), (by simp)⟩, (sc rfl (sc rfl (sc rfl (sc rfl (sc rfl (sc rfl (sc rfl Sub.nil))))))), fun _ h => h.selR (F := [_, _, _]) (F' := [_, _, _]) [0, 2, 1] (by decide) rfl⟩
 intro i A1 n1 c1 vals ls A6 n6 c6 avals als AL cL last many Rs ⟨hi0, hi1, hn1, hsl, hln, hn6, hall, hasl, hlast, hok, hlb, hsrt, hfl, ha8, hbe⟩
 have hsn := hsl.1
 have han := hasl.1
 refine wq <| wL rfl rfl rfl <| wr_nil <| w_seq <| w_if rfl (fun hc1 => ?_) (fun hc1 => ?_)
 ·
  refine w_skip <| w_seq <| w_block <| wq <| wr_y rfl (y_index1 underlying24 sz3 rfl rfl (h_tm.c _) (by omega) (by omega)) <| wr_y rfl (y_ldI underlying3 rfl rfl (h_tm.c _) (by omega) (by omega)) <| wg rfl rfl <| wr_nil <| w_seq <| wq <| wm rfl rfl <| wL rfl rfl rfl <| wm rfl rfl ?_
  refine wr_mid 5 [(6, .slice A6 n6 c6), (7, .slice A1 n1 c1), (8, .slice AL last.length cL), (9, .int .i64 many), (11, .int .i64 (rd tm i)), (24, .slice A_tm tm.length c_tm), (25, .int .i64 ((tm.length : Nat) : Int)), (26, .int .i64 i), (37, .bool (decide (((rd tm i) < 1) ∨ (((n6 : Nat) : Int) < (rd tm i)))))] (⟨23, 1, A1, n1, c1, vals, false⟩ :: ⟨23, 1, none, 0, 0, [], false⟩ :: Rs) ?_ ?_
  ·
   refine wr_case 32 rfl (fun hc2 => ?_) (fun hc2 => ?_)
   ·
    refine wr_no rfl rfl rfl rfl <| wr_no rfl rfl rfl rfl <| wr_no rfl rfl rfl rfl <| wr_no rfl rfl rfl rfl <| wr_y rfl (y_pickT rfl rfl) <| wr_nil ?_
    exact ⟨(sc rfl (sc rfl (sc rfl (sc rfl (sc rfl (sc rfl (sc rfl (sc rfl (Sub.to rfl (mb_t (by first | omega | exact ⟨fun h => ⟨(by assumption), h⟩, fun h => h.2⟩ | exact .inl (by assumption) | exact ⟨.inr, fun h => h.resolve_left (by assumption)⟩ | exact ⟨fun h => h.resolve_left (by assumption), .inr⟩ | simp [*])) Sub.nil))))))))), fun _ h => h⟩
   ·
    refine wr_yes rfl rfl <| wm rfl rfl <| wr_yes rfl rfl <| wm rfl rfl <| wr_yes rfl rfl <| wr_y rfl (y_len underlying22 rfl) <| wr_yes rfl rfl <| wr_y rfl (y_gt rfl rfl) <| wr_y rfl (y_pickF rfl rfl) <| wr_nil ?_
    exact ⟨(sc rfl (sc rfl (sc rfl (sc rfl (sc rfl (sc rfl (sc rfl (sc rfl (Sub.to rfl (mb (by first | omega | exact ⟨fun h => ⟨(by assumption), h⟩, fun h => h.2⟩ | exact .inl (by assumption) | exact ⟨.inr, fun h => h.resolve_left (by assumption)⟩ | exact ⟨fun h => h.resolve_left (by assumption), .inr⟩ | simp [*])) Sub.nil))))))))), fun _ h => h⟩
  refine wr_nil <| w_if rfl (fun hc3 => ?_) (fun hc3 => ?_)
  ·
   refine wq <| wg rfl rfl <| wg rfl rfl <| wr_nil <| w_retR (R1 := (⟨23, 1, none, 0, 0, [], false⟩ :: Rs)) (fun _ h => h.selR (F := [_, _]) (F' := [_]) [1] (by decide) rfl) ?_
   refine ⟨_, _, rfl, rfl, ?_⟩
   have hO : (backE ((cycL (fsL u)).map (wordC u)) [] 0 tm) = none := by rw [hbe, be_bad1 hi0 (by omega) (by omega)]; rfl
   rw [hO]
   exact ⟨none, 0, [], _, rfl, SlR.nilR _ _, rfl⟩
  ·
   have hb1 : ¬ (rd tm i < 1 ∨ (als.length : Int) < rd tm i) := by omega
   have hr0 := hok _ (rdl_mem2 (ws := als) (i := 0) (by omega) (by omega))
   have hrn := hok _ (rdl_mem2 (ws := als) (i := rd tm i - 1) (by omega) (by omega))
   refine w_skip <| wq <| wm rfl rfl <| wr_y rfl (y_index1 underlying22 sz23 rfl rfl (fun _ h => hall _ _ _ (h.right (R' := [_, _]))) (by omega) (by omega)) ?_
   obtain ⟨A_9, c_10, hv_11, hr_12⟩ := hasl.at (i := 0) (by omega) (by omega)
   refine wr_y rfl (y_ld underlying23 rfl rfl rfl (fun _ h => hall _ _ _ (h.right (R' := [_, _]))) hv_11) <| wg rfl rfl <| wr_nil <| w_seq <| wq <| wm rfl rfl <| wm rfl rfl <| wS rfl rfl rfl (by omega) <| wr_y rfl (y_index1 underlying22 sz23 rfl rfl (fun _ h => hall _ _ _ (h.right (R' := [_, _]))) (by omega) (by omega)) ?_
   obtain ⟨A_13, c_14, hv_15, hr_16⟩ := hasl.at (i := (rd tm i) - 1) (by omega) (by omega)
   refine wr_y rfl (y_ld underlying23 rfl rfl rfl (fun _ h => hall _ _ _ (h.right (R' := [_, _]))) hv_15) <| wm rfl rfl <| wr_a rfl (a_callF en22 rfl (Ct.quiet (fun w hw => equalB_ct ((fun _ h => hr_16 _ _ _ (h.right (R' := [_, _]))) w hw) ((fun _ h => hr_12 _ _ _ (h.right (R' := [_, _]))) w hw) hrn.1 hr0.1))) ?_
   rintro _ _ ⟨rfl, rfl⟩
   refine wr_y rfl (y_notD rfl) <| wm rfl rfl <| wr_mid 9 [(6, .slice A6 n6 c6), (7, .slice A1 n1 c1), (11, .int .i64 (rd tm i)), (12, .slice A_9 ((rdl als 0).length) c_10), (24, .slice A_tm tm.length c_tm), (25, .int .i64 ((tm.length : Nat) : Int)), (26, .int .i64 i), (58, .bool (decide ((¬ ((rdl als ((rd tm i) - 1)) = (rdl als 0))) ∨ ((last = (rdl als 0)) ∧ ((rd tm i) < many)))))] (⟨23, 1, A1, n1, c1, vals, false⟩ :: ⟨23, 1, none, 0, 0, [], false⟩ :: Rs) ?_ ?_
   ·
    refine wr_case 49 rfl (fun hc4 => ?_) (fun hc4 => ?_)
    ·
     refine wr_no rfl rfl rfl rfl <| wr_no rfl rfl rfl rfl <| wr_no rfl rfl rfl rfl <| wr_no rfl rfl rfl rfl <| wr_nou rfl rfl rfl <| wr_nou rfl rfl rfl <| wr_nou rfl rfl rfl <| wr_no rfl rfl rfl rfl <| wr_y rfl (y_pickT rfl rfl) <| wr_nil ?_
     exact ⟨(sc rfl (sc rfl (sc rfl (sc rfl (sc rfl (sc rfl (sc rfl (Sub.to rfl (mb_t (by first | omega | exact ⟨fun h => ⟨(by assumption), h⟩, fun h => h.2⟩ | exact .inl (by assumption) | exact ⟨.inr, fun h => h.resolve_left (by assumption)⟩ | exact ⟨fun h => h.resolve_left (by assumption), .inr⟩ | simp [*])) Sub.nil)))))))), fun _ h => h⟩
    ·
     refine wr_yes rfl rfl <| wm rfl rfl <| wr_yes rfl rfl <| wm rfl rfl <| wr_yes rfl rfl <| wr_a rfl (a_callF en22 rfl (Ct.quiet (fun w hw => equalB_ct ((fun _ h => hlast _ _ _ (h.right (R' := [_, _]))) w hw) ((fun _ h => hr_12 _ _ _ (h.right (R' := [_, _]))) w hw) hlb hr0.1))) ?_
     rintro _ _ ⟨rfl, rfl⟩
     refine wr_yes rfl rfl <| wm rfl rfl <| wr_mid 4 [(6, .slice A6 n6 c6), (7, .slice A1 n1 c1), (11, .int .i64 (rd tm i)), (12, .slice A_9 ((rdl als 0).length) c_10), (24, .slice A_tm tm.length c_tm), (25, .int .i64 ((tm.length : Nat) : Int)), (26, .int .i64 i), (49, .bool false), (57, .bool (decide ((last = (rdl als 0)) ∧ ((rd tm i) < many))))] (⟨23, 1, A1, n1, c1, vals, false⟩ :: ⟨23, 1, none, 0, 0, [], false⟩ :: Rs) ?_ ?_
     ·
      refine wr_case 53 rfl (fun hc5 => ?_) (fun hc5 => ?_)
      ·
       refine wr_yes rfl rfl <| wm rfl rfl <| wr_yes rfl rfl <| wm rfl rfl <| wr_yes rfl rfl <| wL rfl rfl rfl <| wr_yes rfl rfl <| wr_y rfl (y_pickT rfl rfl) <| wr_nil ?_
       exact ⟨(sc rfl (sc rfl (sc rfl (sc rfl (sc rfl (sc rfl (sc rfl (sc rfl (Sub.to rfl (mb (by first | omega | exact ⟨fun h => ⟨(by assumption), h⟩, fun h => h.2⟩ | exact .inl (by assumption) | exact ⟨.inr, fun h => h.resolve_left (by assumption)⟩ | exact ⟨fun h => h.resolve_left (by assumption), .inr⟩ | simp [*])) Sub.nil))))))))), fun _ h => h⟩
      ·
       refine wr_no rfl rfl rfl rfl <| wr_no rfl rfl rfl rfl <| wr_no rfl rfl rfl rfl <| wr_yes rfl rfl <| wr_y rfl (y_pickF rfl rfl) <| wr_nil ?_
       exact ⟨(sc rfl (sc rfl (sc rfl (sc rfl (sc rfl (sc rfl (sc rfl (sc rfl (Sub.to rfl (mb_f (by first | omega | exact ⟨fun h => ⟨(by assumption), h⟩, fun h => h.2⟩ | exact .inl (by assumption) | exact ⟨.inr, fun h => h.resolve_left (by assumption)⟩ | exact ⟨fun h => h.resolve_left (by assumption), .inr⟩ | simp [*])) Sub.nil))))))))), fun _ h => h⟩
     refine wr_y rfl (y_pickF rfl rfl) <| wr_nil ?_
     exact ⟨(sc rfl (sc rfl (sc rfl (sc rfl (sc rfl (sc rfl (sc rfl (Sub.to rfl (mb (by first | omega | exact ⟨fun h => ⟨(by assumption), h⟩, fun h => h.2⟩ | exact .inl (by assumption) | exact ⟨.inr, fun h => h.resolve_left (by assumption)⟩ | exact ⟨fun h => h.resolve_left (by assumption), .inr⟩ | simp [*])) Sub.nil)))))))), fun _ h => h⟩
   refine wr_nil <| w_if rfl (fun hc6 => ?_) (fun hc6 => ?_)
   ·
    have hb2 : rdl als (rd tm i - 1) ≠ rdl als 0 ∨ last = rdl als 0 ∧ rd tm i < many := hc6
    refine wq <| wg rfl rfl <| wg rfl rfl <| wr_nil <| w_retR (R1 := (⟨23, 1, none, 0, 0, [], false⟩ :: Rs)) (fun _ h => h.selR (F := [_, _]) (F' := [_]) [1] (by decide) rfl) ?_
    refine ⟨_, _, rfl, rfl, ?_⟩
    have hO : (backE ((cycL (fsL u)).map (wordC u)) [] 0 tm) = none := by rw [hbe, be_bad2 hi0 (by omega) hb2]; rfl
    rw [hO]
    exact ⟨none, 0, [], _, rfl, SlR.nilR _ _, rfl⟩
   ·
    have hb2 : ¬ (rdl als (rd tm i - 1) ≠ rdl als 0 ∨ last = rdl als 0 ∧ rd tm i < many) := hc6
    have hq : rdl als (rd tm i - 1) = rdl als 0 := Decidable.byContradiction fun e => hb2 (.inl e)
    have hblk := block_eq hsrt (by omega) (by omega) hq
    refine w_skip <| wq <| wm rfl rfl <| wm rfl rfl <| wm rfl rfl <| wr_a rfl (a_callF en23 rfl (Ct.fresh (fun w hw => repeatB_ct ((fun _ h => hr_12 _ _ _ (h.right (R' := [_, _]))) w hw) hr0.2.1 (by omega) (Nat.le_trans (block_len hblk) hfl)))) ?_
    rintro _ _ ⟨_, rfl, A_17, c_18, rfl, rfl⟩
    refine wr_a rfl (a_lit [Value.slice A_17 ((rep (rdl als 0) (rd tm i)).length) c_18] underlying22 zs23 rfl rfl rfl rfl) ?_
    rintro _ _ ⟨g_20, rfl, rfl⟩
    refine wr_a rfl (a_append 2 rfl rfl underlying22 zb23 rfl rfl rfl rfl rfl (rdr 0 rfl) (by simp [Value.oneCell']) (by dsimp only; omega)) ?_
    rintro _ _ ⟨A_21, c_22, rfl, rfl⟩
    refine wr_rows (R1 := (⟨23, 1, (some ⟨g_20, 0, none⟩), 1, 1, [Value.slice A_17 ((rep (rdl als 0) (rd tm i)).length) c_18], false⟩ :: ⟨5, 1, A_17, (rep (rdl als 0) (rd tm i)).length, c_18, ints .u8 (rep (rdl als 0) (rd tm i)), true⟩ :: ⟨23, 1, A_21, (n1 + 1), c_22, vals ++ ([Value.slice A_17 ((rep (rdl als 0) (rd tm i)).length) c_18]), false⟩ :: ⟨23, 1, none, 0, 0, [], false⟩ :: Rs)) rfl <| wr_as (v := .slice A_21 (n1 + 1) c_22) rfl <| wg rfl rfl <| wr_nil <| w_regd mixed <| wd_y 0 rfl (by kernel_rfl) rfl (y_move rfl) <| wd_y 1 rfl (by kernel_rfl) rfl (y_move rfl) <| wd_y 2 rfl (by kernel_rfl) rfl (y_move rfl) <| wd_y 3 rfl (by kernel_rfl) rfl (y_move rfl) <| wd_y 4 rfl (by kernel_rfl) rfl (y_sliceFrom underlying22 sz23 rfl rfl (by omega) (by omega)) <| wd_y 5 rfl (by kernel_rfl) rfl (y_assign rfl) <| wd_y 6 rfl (by kernel_rfl) rfl (y_assign rfl) <| wd_y 7 rfl (by kernel_rfl) rfl (y_assign rfl) <| wd_nil (by kernel_rfl) <| w_reg ?_
    refine wA rfl rfl rfl (by omega) <| wm rfl rfl <| wr_nil ?_
    exact ⟨i + 1, A_21, n1 + 1, c_22, vals ++ ([Value.slice A_17 ((rep (rdl als 0) (rd tm i)).length) c_18]), (ls ++ [rep (rdl als 0) (rd tm i)]), cutA A6 (rd tm i).toNat c6 1, n6 - (rd tm i).toNat, c6 - (rd tm i).toNat, (avals.drop (rd tm i).toNat), (als.drop (rd tm i).toNat), A_9, c_10, (rdl als 0), rd tm i, (⟨5, 1, A_17, (rep (rdl als 0) (rd tm i)).length, c_18, ints .u8 (rep (rdl als 0) (rd tm i)), true⟩ :: Rs), ⟨(by omega), (by omega), (by rw [List.length_append, hn1]; rfl), (hsl.snoc rfl), (by rw [List.length_append, List.length_singleton]; omega), (by rw [List.length_drop, hn6]), (fun B w0 w h => (RdC.fromV (fun w h => hall B w0 w h) (by omega)) w h.tail), ((hasl.drop _).right [_]), (fun B w0 w h => hr_12 B w0 w h.tail), (fun a ha => hok a (List.mem_of_mem_drop ha)), (hr0.1), (hsrt.sublist (List.drop_sublist _ _)), (drop_flat hfl), (by rw [List.length_drop]; omega), (be_go hi0 (by omega) hb1 hb2 hbe)⟩, (by omega), (sc rfl (sc rfl (sc rfl (sc rfl (sc rfl (sc rfl (sc rfl Sub.nil))))))), fun _ h => h.selR (F := [_, _, _, _]) (F' := [_, _, _]) [2, 3, 1] (by decide) rfl⟩
 ·
  refine w_exit <| w_seq <| wq <| wm rfl rfl <| wr_y rfl (y_len underlying22 rfl) <| wr_y rfl (y_gt rfl rfl) <| wr_nil <| w_if rfl (fun hc7 => ?_) (fun hc7 => ?_)
  ·
   refine wq <| wg rfl rfl <| wg rfl rfl <| wr_nil <| w_retR (R1 := (⟨23, 1, none, 0, 0, [], false⟩ :: Rs)) (fun _ h => h.selR (F := [_, _]) (F' := [_]) [1] (by decide) rfl) ?_
   refine ⟨_, _, rfl, rfl, ?_⟩
   have hO : (backE ((cycL (fsL u)).map (wordC u)) [] 0 tm) = none := (be_end (by omega) hbe).1 (by omega)
   rw [hO]
   exact ⟨none, 0, [], _, rfl, SlR.nilR _ _, rfl⟩
  ·
   refine w_skip <| wq <| wm rfl rfl <| wg rfl rfl <| wg rfl rfl <| wr_nil <| w_retR (R1 := (⟨23, 1, A1, n1, c1, vals, false⟩ :: Rs)) (fun _ h => h.selR (F := [_, _]) (F' := [_]) [0] (by decide) rfl) ?_
   refine ⟨_, _, rfl, rfl, ?_⟩
   have hO : (backE ((cycL (fsL u)).map (wordC u)) [] 0 tm) = some ls := (be_end (by omega) hbe).2 (by omega)
   rw [hO]
   subst hn1
   exact ⟨_, _, vals, Rs, rfl, hsl, rfl⟩

end Go.Proofs.YtdfcnalkdlifiaaGreat

/-! ## X3 -/
namespace Go.Proofs.YtdfcnalkdlifiaaGreat
open Go Go.Eng Go.Pure
set_option linter.unusedVariables false
theorem ext_round {ws : List (List Int)} {L TS : List Int} {e : Int} (hx : ExtR ws L TS e) (he : e = 0) (hb : ∀ w ∈ ws, ByteL w) : backE ((cycL (fsL L)).map (wordC L)) [] 0 TS = some (canon ws) := by
 rcases hx with ⟨h, _⟩ | ⟨_, h, _⟩ | ⟨_, _, hne, ⟨T, hp, ho, rfl⟩, rfl⟩
 ·omega
 ·omega
 ·have hA : (cycL (fsL (T.map (lastB ws)))).map (wordC (T.map (lastB ws))) = expR (ringS ws) := (turned_ext hb hp ho).1
  have h1 : ∀ r ∈ ringS ws, 1 ≤ r.2 ∧ 0 < r.1.length := fun r hr' => by
   obtain ⟨w, _, hw, rfl⟩ := mem_ringS hr'
   have hc : 0 < (lw w).length := by rw [lw_len]; exact hw
   have a1 := times_pos hc
   have a2 := root_len hc
   have a3 := rl_range hc
   exact ⟨by show 1 ≤ timesW (lw w); omega, by show 0 < (rootW (lw w)).length; omega⟩
  rw [hA]
  exact exp_back (ringS_sorted ws) (fun r h => (h1 r h).1) (fun r h e => by have := (h1 r h).2; rw [← e] at this; simp at this)
theorem _root_.Go.Pure.ExtR.len {ws : List (List Int)} {L TS : List Int} {e : Int} (h : ExtR ws L TS e) : L.length ≤ ws.flatten.length := by
 rcases h with ⟨_, _, rfl, _⟩ | ⟨_, _, _, rfl, _⟩ | ⟨_, _, _, ⟨T, hp, _, rfl⟩, _⟩
 ·exact Nat.zero_le _
 ·exact Nat.zero_le _
 ·rw [List.length_map, all_len hp]; exact Nat.le_refl _
theorem back_ok {L TS : List Int} (hb : ByteL L) (hN : L.length ≤ 8000) {o : Option (List (List Int))} (ho : backE ((cycL (fsL L)).map (wordC L)) [] 0 TS = o) : OkB (o.getD []) ∧ (o.getD []).length ≤ TS.length := by
 cases o with
 | none => exact ⟨okB_nil, Nat.zero_le _⟩
 | some ws =>
  obtain ⟨rs, e1, e2, e3, e4, e5, _⟩ := back_exp (wordC_up hb) (fun a _ => by cases a <;> simp [cmpL]) ho
  have hfl : ws.flatten.length ≤ 8000 := by
   rw [e3, unring_flat, ← e1]
   exact Nat.le_trans (Nat.le_of_eq (cycW_flat hb)) hN
  refine ⟨fun l hl => ⟨fun x hx => ?_, ?_⟩, by show ws.length ≤ _; rw [e3, e2, List.length_map, List.length_map]; exact Nat.le_refl _⟩
  ·have hx2 : x ∈ ws.flatten := List.mem_flatten.2 ⟨l, hl, hx⟩
   rw [e3, unring_flat, ← e1] at hx2
   obtain ⟨w, hw, hxw⟩ := List.mem_flatten.1 hx2
   obtain ⟨c, _, rfl⟩ := List.mem_map.1 hw
   obtain ⟨y, _, rfl⟩ := List.mem_map.1 hxw
   exact hb.rd y
  ·have := List.Sublist.length_le (List.sublist_flatten_of_mem (show l ∈ ws from hl))
   omega
end Go.Proofs.YtdfcnalkdlifiaaGreat

/-! ## K4 -/
namespace Go.Proofs.YtdfcnalkdlifiaaGreat
open Go Go.Eng Go.Pure
open Tryz
set_option linter.unusedVariables false
theorem ban_orderT : ([5, 3, 1, 0, 4, 2] : List Int).Perm (iota ([98, 97, 110, 97, 110, 97] : List Int).length) ∧ ([5, 3, 1, 0, 4, 2] : List Int).Pairwise (ordE [98, 97, 110, 97, 110, 97]) := by
 refine ⟨by decide +kernel, ?_⟩
 have h : ([5, 3, 1, 0, 4, 2] : List Int).Pairwise (fun x y => cmpL (([98, 97, 110, 97, 110, 97] : List Int).drop x.toNat) (([98, 97, 110, 97, 110, 97] : List Int).drop y.toNat) < 0) := by decide +kernel
 exact h.imp fun h => ordE_cmp.1 h
set_option maxRecDepth 100000 in
set_option maxHeartbeats 1000000 in
theorem knownTop_ct {w : World}  :
  Ct Tryz.prog 11 #[] w.heap.size w [] (fun v R' => v = .bool true) := by
 refine fn1 Tryz.func11 rfl rfl rfl ?_
 refine wq <| wg rfl rfl <| wr_nil <| wq <| wr_a rfl (a_callF en26 rfl (Ct.fresh (fun w hw => crossNew_ct))) ?_
 rintro _ _ ⟨_, rfl, g_1, rfl, rfl⟩
 refine wg rfl rfl <| wr_nil <| w_seq <| wq <| wm rfl rfl <| wr_y rfl (y_ptrEq underlying52 rfl rfl) <| wr_nil <| w_false rfl <| w_skip <| wq <| wm rfl rfl <| wr_a rfl (a_litI .u8 [98, 97, 110, 97, 110, 97] underlying23 zs5 rfl rfl rfl) ?_
 rintro _ _ ⟨g_3, rfl, rfl⟩
 refine wr_a rfl (a_mark 0 rfl rfl underlying23 underlying5 rfl rfl) ?_
 rintro _ _ ⟨rfl, rfl⟩
 refine wr_rows (R1 := [⟨5, 1, (some ⟨g_3, 0, none⟩), 6, 6, ints .u8 ([98, 97, 110, 97, 110, 97]), true⟩, ⟨93, 3, (some ⟨g_1, 0, none⟩), 1, 1, [.int .i64 0, .int .i64 0, .int .i64 0], false⟩]) rfl <| wr_a rfl (a_callF en27 rfl (Ct.sub (R1 := [⟨93, 3, (some ⟨g_1, 0, none⟩), 1, 1, [.int .i64 0, .int .i64 0, .int .i64 0], false⟩, ⟨5, 1, (some ⟨g_3, 0, none⟩), 6, 6, ints .u8 ([98, 97, 110, 97, 110, 97]), true⟩]) (fun _ h => h.sel [1, 0] (by decide) rfl) (crossRun_ct (rdR 0 (r := ⟨5, 1, (some ⟨g_3, 0, none⟩), 6, 6, ints .u8 ([98, 97, 110, 97, 110, 97]), true⟩) rfl) (by first | rfl | (simp; done) | omega) (by show ByteL [98, 97, 110, 97, 110, 97]; unfold ByteL; decide) (by show [98, 97, 110, 97, 110, 97].length ≤ 100000; decide) (by decide)))) ?_
 rintro _ _ ⟨b1, A_4, A_6, c_5, c_7, rfl, hp_b1, hs_b1, rfl⟩
 refine wm rfl rfl <| wX rfl rfl rfl <| wX rfl rfl rfl <| wr_a rfl (a_alloc (sz := 3) zz55 rfl) ?_
 rintro _ _ ⟨g_11, rfl, rfl⟩
 refine wr_rows (R1 := [⟨55, 3, (some ⟨g_11, 0, none⟩), 1, 1, [.slice none 0 0, .slice none 0 0, .bool false], false⟩, ⟨3, 1, A_4, ([98, 97, 110, 97, 110, 97]).length, c_5, ints .i64 b1, false⟩, ⟨3, 1, A_6, ([98, 97, 110, 97, 110, 97]).length, c_7, ints .i64 (lcpV ([98, 97, 110, 97, 110, 97]) b1), false⟩, ⟨93, 3, (some ⟨g_1, 0, none⟩), 1, 1, [.int .i64 (0 + 1), .int .i64 (0 + 1), .int .i64 (0 + 1)], false⟩, ⟨5, 1, (some ⟨g_3, 0, none⟩), 6, 6, ints .u8 ([98, 97, 110, 97, 110, 97]), true⟩]) rfl <| wr_n (a_storeAll (vs := [.slice A_4 (([98, 97, 110, 97, 110, 97]).length) c_5, .slice A_6 (([98, 97, 110, 97, 110, 97]).length) c_7, .bool true]) 0 rfl sz55 rfl rfl rfl (by intro v hv; simp at hv; rcases hv with rfl | rfl | rfl <;> rfl) rfl) ?_
 rintro _ _ rfl
 refine wr_rows (R1 := [⟨55, 3, (some ⟨g_11, 0, none⟩), 1, 1, [.slice A_4 (([98, 97, 110, 97, 110, 97]).length) c_5, .slice A_6 (([98, 97, 110, 97, 110, 97]).length) c_7, .bool true], false⟩, ⟨3, 1, A_4, ([98, 97, 110, 97, 110, 97]).length, c_5, ints .i64 b1, false⟩, ⟨3, 1, A_6, ([98, 97, 110, 97, 110, 97]).length, c_7, ints .i64 (lcpV ([98, 97, 110, 97, 110, 97]) b1), false⟩, ⟨93, 3, (some ⟨g_1, 0, none⟩), 1, 1, [.int .i64 (0 + 1), .int .i64 (0 + 1), .int .i64 (0 + 1)], false⟩, ⟨5, 1, (some ⟨g_3, 0, none⟩), 6, 6, ints .u8 ([98, 97, 110, 97, 110, 97]), true⟩]) rfl <| wg rfl rfl <| wr_nil <| wq <| wm rfl rfl <| wr_y rfl (Yl.t (y_eq rfl rfl) (by decide)) <| wm rfl rfl <| wr_yes rfl rfl <| wr_y rfl (y_fieldAt (off := 2) (m := 2) underlying55 rfl sz4 rfl rfl rfl) <| wr_yes rfl rfl <| wr_y rfl (y_ldIn (rdR 0 (r := ⟨55, 3, (some ⟨g_11, 0, none⟩), 1, 1, [.slice A_4 (([98, 97, 110, 97, 110, 97]).length) c_5, .slice A_6 (([98, 97, 110, 97, 110, 97]).length) c_7, .bool true], false⟩) rfl) underlying4 rfl rfl rfl) <| wr_y rfl (y_pickT rfl rfl) <| wm rfl rfl <| wr_yes rfl rfl ?_
 refine wr_y rfl (y_fieldAt (off := 0) (m := 0) underlying55 rfl sz24 rfl rfl rfl) <| wr_yes rfl rfl <| wr_y rfl (y_ldIn (rdR 0 (r := ⟨55, 3, (some ⟨g_11, 0, none⟩), 1, 1, [.slice A_4 (([98, 97, 110, 97, 110, 97]).length) c_5, .slice A_6 (([98, 97, 110, 97, 110, 97]).length) c_7, .bool true], false⟩) rfl) underlying24 rfl rfl rfl) <| wr_yes rfl rfl <| wr_a rfl (a_litI .i64 [5, 3, 1, 0, 4, 2] underlying24 zs3 rfl rfl rfl) ?_
 rintro _ _ ⟨g_13, rfl, rfl⟩
 refine wr_yes rfl rfl <| wr_a rfl (a_callF en14 rfl (Ct.quiet (fun w hw => ints4_ct ((rdr 2 rfl) w hw) ((rdr 0 rfl) w hw) (by rw [hp_b1.length_eq, iota_len]; decide)))) ?_
 rintro _ _ ⟨rfl, rfl⟩
 refine wr_setT 24 rfl (one_orderE hp_b1 ban_orderT.1 hs_b1 ban_orderT.2) <| wr_y rfl (y_pickT rfl rfl) <| wg rfl rfl <| wr_nil <| w_retR (R1 := []) (fun _ h => h.sel [] (by decide) rfl) ?_
 refine ⟨_, rfl, ?_⟩
 rfl

theorem top_e {ws : List (List Int)} {L TS : List Int} {e : Int} (hx : ExtR ws L TS e) (hpos : ∀ w ∈ ws, 0 < w.length) (h1 : ws.length ≤ 1000) (h2 : ws.flatten.length ≤ 100000) : e = 0 := by
 rcases hx with ⟨_, h, _⟩ | ⟨_, _, ⟨w, hw, h⟩, _⟩ | ⟨_, h, _⟩
 ·omega
 ·have := hpos w hw; omega
 ·exact h
theorem top_l {ws : List (List Int)} {L TS : List Int} {e : Int} (hx : ExtR ws L TS e) (he : e = 0) : L.length = ws.flatten.length := by
 rcases hx with ⟨h, _⟩ | ⟨_, h, _⟩ | ⟨_, _, _, ⟨T, hT, _, h⟩, _⟩
 ·omega
 ·omega
 ·rw [h, List.length_map, all_len hT]
theorem pos_step {ws : List (List Int)} {i : Int} (h0 : 0 ≤ i) (h : i < ws.length) (hp : 0 < (rdl ws i).length) (hall : ∀ w ∈ ws.take i.toNat, 0 < w.length) : ∀ w ∈ ws.take (i + 1).toNat, 0 < w.length := by
 intro w hw
 have hi : i.toNat < ws.length := by omega
 rw [show (i + 1).toNat = i.toNat + 1 by omega, List.take_succ_eq_append_getElem hi] at hw
 rcases List.mem_append.1 hw with hw | hw
 ·exact hall w hw
 ·rw [List.mem_singleton.1 hw]
  have e : rdl ws i = ws[i.toNat] := by
   unfold rdl
   rw [List.getD_eq_getElem?_getD, List.getElem?_eq_getElem hi]
   rfl
  rwa [← e]
set_option maxRecDepth 100000 in
set_option maxHeartbeats 2000000 in
theorem topWords_ct {w : World} {A_ws : Option Addr} {n_ws c_ws : Nat} {vals_ws : List Value} {ws : List (List Int)} (h_ws : Rd w A_ws n_ws c_ws 1 vals_ws) (s_ws : SlW .u8 w vals_ws ws) :
  Ct Tryz.prog 3 #[.slice A_ws n_ws c_ws] w.heap.size w [] (fun v R' => v = .bool true) := by
 obtain rfl : n_ws = ws.length := by have := h_ws.len; have := s_ws.1; omega
 refine fn1 Tryz.func3 rfl rfl rfl ?_
 have m_ws := h_ws.max
 refine wq <| wg rfl rfl <| wr_nil <| wq <| wg rfl rfl <| wr_nil <| w_seq <| wq <| wg rfl rfl <| wr_nil <| w_block ?_
 refine w_loop2 (fun (i : Int) (n : Int) => [(0, .slice A_ws ws.length c_ws), (3, .int .i64 n), (4, .int .i64 i)]) (fun (i : Int) (n : Int) => ([])) (fun (i : Int) (n : Int) => (0 ≤ i) ∧ (i ≤ ws.length) ∧ (n = ((ws.take i.toNat).flatten.length : Int)) ∧ (n ≤ 80) ∧ (i ≤ 31) ∧ (∀ w ∈ ws.take i.toNat, 0 < w.length)) (fun (i : Int) (n : Int) => (ws.length - i).toNat) ?_ ?_
 ·
  exact ⟨0, 0, ⟨(by omega), (by omega), (rfl), (by omega), (by omega), (fun w hw => by cases hw)⟩, (sc rfl (sc rfl (sc rfl Sub.nil))), fun _ h => h⟩
 intro i n ⟨hi0, hi1, hz, hn, hi3, hpos⟩
 have hob := s_ws.okB
 have hwl : i < ws.length → (rdl ws i).length ≤ 140737488355327 := fun h => (hob _ (rdl_mem2 hi0 h)).2
 refine w_seq <| wq <| wm rfl rfl <| wm rfl rfl <| wr_y rfl (y_len underlying22 rfl) <| wL rfl rfl rfl <| wr_nil <| w_if rfl (fun hc1 => ?_) (fun hc1 => ?_)
 ·
  have hwl2 := hwl (by omega)
  refine w_skip <| w_seq <| w_block <| wq <| wm rfl rfl <| wm rfl rfl <| wm rfl rfl <| wr_y rfl (y_index1 underlying22 sz23 rfl rfl (h_ws.c _) (by omega) (by omega)) ?_
  obtain ⟨A_1, c_2, hv_3, hr_4, hb_5, mhr_4⟩ := s_ws.at (i := i) (by omega) (by omega)
  refine wr_y rfl (y_ld underlying23 rfl rfl rfl (h_ws.c _) hv_3) <| wr_y rfl (y_len underlying23 rfl) <| wA rfl rfl rfl (by omega) <| wg rfl rfl <| wr_nil <| wq <| wm rfl rfl <| wm rfl rfl <| wr_y rfl (y_index1 underlying22 sz23 rfl rfl (h_ws.c _) (by omega) (by omega)) ?_
  obtain ⟨A_6, c_7, hv_8, hr_9, hb_10, mhr_9⟩ := s_ws.at (i := i) (by omega) (by omega)
  refine wr_y rfl (y_ld underlying23 rfl rfl rfl (h_ws.c _) hv_8) <| wr_y rfl (y_len underlying23 rfl) <| wr_y rfl (y_eq rfl rfl) <| wm rfl rfl <| wr_mid 3 [(0, .slice A_ws ws.length c_ws), (3, .int .i64 (n + (((rdl ws i).length : Nat) : Int))), (4, .int .i64 i), (32, .bool (decide (((((rdl ws i).length : Nat) : Int) = 0) ∨ (80 < (n + (((rdl ws i).length : Nat) : Int))))))] ([]) ?_ ?_
  ·
   refine wr_case 29 rfl (fun hc2 => ?_) (fun hc2 => ?_)
   ·
    refine wr_no rfl rfl rfl rfl <| wr_no rfl rfl rfl rfl <| wr_y rfl (y_pickT rfl rfl) <| wr_nil ?_
    exact ⟨(sc rfl (sc rfl (sc rfl (Sub.to rfl (mb_t (by first | omega | exact ⟨fun h => ⟨(by assumption), h⟩, fun h => h.2⟩ | exact .inl (by assumption) | exact ⟨.inr, fun h => h.resolve_left (by assumption)⟩ | exact ⟨fun h => h.resolve_left (by assumption), .inr⟩ | simp [*])) Sub.nil)))), fun _ h => h⟩
   ·
    refine wr_yes rfl rfl <| wm rfl rfl <| wr_yes rfl rfl <| wr_y rfl (y_gt rfl rfl) <| wr_y rfl (y_pickF rfl rfl) <| wr_nil ?_
    exact ⟨(sc rfl (sc rfl (sc rfl (Sub.to rfl (mb (by first | omega | exact ⟨fun h => ⟨(by assumption), h⟩, fun h => h.2⟩ | exact .inl (by assumption) | exact ⟨.inr, fun h => h.resolve_left (by assumption)⟩ | exact ⟨fun h => h.resolve_left (by assumption), .inr⟩ | simp [*])) Sub.nil)))), fun _ h => h⟩
  refine wm rfl rfl <| wr_mid 3 [(0, .slice A_ws ws.length c_ws), (3, .int .i64 (n + (((rdl ws i).length : Nat) : Int))), (4, .int .i64 i), (36, .bool (decide ((((((rdl ws i).length : Nat) : Int) = 0) ∨ (80 < (n + (((rdl ws i).length : Nat) : Int)))) ∨ (30 < i))))] ([]) ?_ ?_
  ·
   refine wr_case 33 rfl (fun hc3 => ?_) (fun hc3 => ?_)
   ·
    refine wr_no rfl rfl rfl rfl <| wr_no rfl rfl rfl rfl <| wr_y rfl (y_pickT rfl rfl) <| wr_nil ?_
    exact ⟨(sc rfl (sc rfl (sc rfl (Sub.to rfl (mb_t (by first | omega | exact ⟨fun h => ⟨(by assumption), h⟩, fun h => h.2⟩ | exact .inl (by assumption) | exact ⟨.inr, fun h => h.resolve_left (by assumption)⟩ | exact ⟨fun h => h.resolve_left (by assumption), .inr⟩ | simp [*])) Sub.nil)))), fun _ h => h⟩
   ·
    refine wr_yes rfl rfl <| wm rfl rfl <| wr_yes rfl rfl <| wr_y rfl (y_gt rfl rfl) <| wr_y rfl (y_pickF rfl rfl) <| wr_nil ?_
    exact ⟨(sc rfl (sc rfl (sc rfl (Sub.to rfl (mb (by first | omega | exact ⟨fun h => ⟨(by assumption), h⟩, fun h => h.2⟩ | exact .inl (by assumption) | exact ⟨.inr, fun h => h.resolve_left (by assumption)⟩ | exact ⟨fun h => h.resolve_left (by assumption), .inr⟩ | simp [*])) Sub.nil)))), fun _ h => h⟩
  refine wr_nil <| w_if rfl (fun hc4 => ?_) (fun hc4 => ?_)
  ·
   refine wq <| wg rfl rfl <| wr_nil <| w_retR (R1 := []) (fun _ h => (h.selR (F := []) (F' := []) [] (by decide) rfl).left (X := [])) ?_
   refine ⟨_, rfl, ?_⟩
   rfl
  ·
   refine w_skip <| w_reg <| wm rfl rfl <| wA rfl rfl rfl (by omega) <| wg rfl rfl <| wr_nil ?_
   exact ⟨i + 1, n + (((rdl ws i).length : Nat) : Int), ⟨(by omega), (by omega), (by rw [flat_take_succ hi0 (by omega), List.length_append, hz]; omega), (by omega), (by omega), (pos_step hi0 (by omega) (by omega) hpos)⟩, (by omega), (sc rfl (sc rfl (sc rfl Sub.nil))), fun _ h => h⟩
 ·
  have hall : ws.take i.toNat = ws := List.take_of_length_le (by omega)
  rw [hall] at hz hpos
  have hNN : (∀ w ∈ ws, w.length ≤ 8000) ∧ ws.length ≤ 100000 := ⟨fun w hw => by have := List.Sublist.length_le (List.sublist_flatten_of_mem hw); omega, by omega⟩
  have hfew := canon_few ws
  refine w_exit <| wq <| wm rfl rfl <| wr_a rfl (a_callF en7 rfl (Ct.fresh (fun w hw => extTurn_ct ((h_ws.c _) w hw) (s_ws.c hw) hNN))) ?_
  rintro _ _ ⟨_, rfl, A_11, A_13, c_12, c_14, L1, TS1, e1, rfl, hx1, rfl⟩
  refine wm rfl rfl <| wX rfl rfl rfl <| wX rfl rfl rfl <| wX rfl rfl rfl <| wg rfl rfl <| wg rfl rfl <| wg rfl rfl <| wr_nil <| wq <| wm rfl rfl <| wm rfl rfl <| wr_a rfl (a_callF en8 rfl (Ct.fresh (fun w hw => extBack_ct ((rdr 0 rfl) w hw) ((rdr 1 rfl) w hw) (hx1.bytes fun w hw => (hob w hw).1) ⟨Nat.le_trans hx1.len (by omega), Nat.le_trans hx1.tlen (by omega)⟩))) ?_
  rintro _ _ ⟨_, rfl, A_17, c_18, vals_19, Rs_20, rfl, hsl_21, rfl⟩
  have hn_hsl_21 := hsl_21.1
  refine wr_sub (R1 := (⟨23, 1, A_17, vals_19.length, c_18, vals_19, false⟩ :: ⟨5, 1, A_11, L1.length, c_12, ints .u8 L1, false⟩ :: ⟨3, 1, A_13, TS1.length, c_14, ints .i64 TS1, false⟩ :: Rs_20)) (Sub.refl _) (fun _ h => Hp.toTail0 (X := [_]) (Y := [_, _]) h) <| wm rfl rfl <| wX rfl rfl rfl <| wX rfl rfl rfl <| wg rfl rfl <| wg rfl rfl <| wr_nil <| wq <| wm rfl rfl <| wr_y rfl (Yl.t (y_eq rfl rfl) (top_e hx1 hpos (by omega) (by omega))) <| wm rfl rfl <| wr_yes rfl rfl <| wm rfl rfl <| wr_yes rfl rfl ?_
  refine wr_y rfl (Yl.t (y_eq rfl rfl) (by rw [ext_round hx1 (top_e hx1 hpos (by omega) (by omega)) fun w hw => (hob w hw).1]; rfl)) ?_
  refine wr_y rfl (y_pickT rfl rfl) <| wm rfl rfl <| wr_yes rfl rfl <| wm rfl rfl <| wr_yes rfl rfl <| wr_y rfl (y_len underlying23 rfl) <| wr_yes rfl rfl <| wm rfl rfl <| wr_yes rfl rfl <| wr_y rfl (Yl.t (y_eq rfl rfl) (by have := top_l hx1 (top_e hx1 hpos (by omega) (by omega)); omega)) ?_
  refine wr_y rfl (y_pickT rfl rfl) <| wm rfl rfl <| wr_yes rfl rfl <| wm rfl rfl <| wr_yes rfl rfl <| wm rfl rfl <| wr_yes rfl rfl <| wr_a rfl (a_callF en10 rfl (Ct.fresh (fun w hw => canon9_ct ((h_ws.c _) w hw) (s_ws.c hw) hNN))) ?_
  rintro _ _ ⟨_, rfl, A_23, c_24, vals_25, Rs_26, rfl, hsl_27, rfl⟩
  have hn_hsl_27 := hsl_27.1
  have hw_29 := hsl_27.left Rs_20
  have hw_30 := hsl_21.right Rs_26
  refine wr_sub (R1 := (⟨23, 1, A_23, vals_25.length, c_24, vals_25, false⟩ :: ⟨23, 1, A_17, vals_19.length, c_18, vals_19, false⟩ :: ⟨5, 1, A_11, L1.length, c_12, ints .u8 L1, false⟩ :: ⟨3, 1, A_13, TS1.length, c_14, ints .i64 TS1, false⟩ :: (Rs_26 ++ Rs_20))) (Sub.refl _) (fun _ h => Hp.toTail (X := [_]) (Y := [_, _, _]) h) <| wr_yes rfl rfl <| wr_a rfl (a_callF en9 rfl (Ct.quiet (fun w hw => rows9_ct ((rdr 1 rfl) w hw) (hw_30.slw (back_ok (hx1.bytes fun w hw => (hob w hw).1) (Nat.le_trans hx1.len (by omega)) rfl).1 (Hp.right (R' := [_, _, _, _]) hw)) ((rdr 0 rfl) w hw) (hw_29.slw (canon_ok s_ws.okB) (Hp.right (R' := [_, _, _, _]) hw)) (by rw [ext_round hx1 (top_e hx1 hpos (by omega) (by omega)) fun w hw => (hob w hw).1]; show (canon ws).length ≤ _; omega)))) ?_
  rintro _ _ ⟨rfl, rfl⟩
  refine wr_setT 65 rfl (by rw [ext_round hx1 (top_e hx1 hpos (by omega) (by omega)) fun w hw => (hob w hw).1]; rfl) ?_
  refine wr_y rfl (y_pickT rfl rfl) <| wm rfl rfl <| wr_yes rfl rfl <| wr_a rfl (a_callF en11 rfl (Ct.quiet (fun w hw => knownTop_ct))) ?_
  rintro _ _ ⟨rfl, rfl⟩
  refine wr_setT 68 rfl (trivial) <| wr_y rfl (y_pickT rfl rfl) <| wg rfl rfl <| wr_nil <| w_retR (R1 := []) (fun _ h => (h.selR (F := [_, _, _, _]) (F' := []) [] (by decide) rfl).left (X := [])) ?_
  refine ⟨_, rfl, ?_⟩
  rfl

end Go.Proofs.YtdfcnalkdlifiaaGreat


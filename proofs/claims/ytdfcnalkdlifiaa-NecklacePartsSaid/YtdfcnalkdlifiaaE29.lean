/-
  Engine: parts of rows of whatever cells; the rows behind. Own work.
-/
import Derived.Test.YtdfcnalkdlifiaaE27
import Derived.Test.YtdfcnalkdlifiaaE23
namespace Go.Eng
open Go Go.RowKit Go.Pure
section
variable {P : Program} {n : Nd} {B : Nat} {w0 : World} {L : Env} {R : List Row} {ty : TypeId}
theorem RdC.toV {A : Option Addr} {m h c : Nat} {xs : List Value} (hr : RdC B w0 R A m c 1 xs) (h2 : h ≤ m) : RdC B w0 R A h c 1 (xs.take h) := by
  have := hr.to h2
  rwa [Nat.mul_one] at this
theorem RdC.fromV {A : Option Addr} {m c l : Nat} {xs : List Value} (hr : RdC B w0 R A m c 1 xs) (h1 : l ≤ m) : RdC B w0 R (cutA A l c 1) (m - l) (c - l) 1 (xs.drop l) := fun w hw => by
  have h := hr.cut h1 (Nat.le_refl m) w hw
  have hl := (hr w hw).len
  rw [Nat.mul_one, Nat.mul_one, List.take_of_length_le (by rw [List.length_drop]; omega)] at h
  exact h
theorem Hp.dropMid {w : World} {X Rs T : List Row} (h : Hp B w0 w (X ++ (Rs ++ T))) : Hp B w0 w (X ++ T) := h.sublist ((List.sublist_append_right Rs T).append_left X)
/-- A drawn region whose computing rests on some of the rows alone. -/
theorem w_regdc {id : Nat} {l : List Oper} {Q : PostC} {Rc : List Row} (hm : P.follows .mixedOrders = true) (hR : ∀ w, Hp B w0 w R → Hp B w0 w Rc) (h : WDc P n B w0 l.toArray Q.nrm l.toArray.size (Array.replicate l.toArray.size false) L R Rc) (hd : noDef n.rd l = true := by exact rfl) : W P n B w0 (.region id l.toArray true) Q L R := by
  intro a w hs hp
  refine wpIn_region_any hm (anyIn PQ_out hd _ _ _ _ <| wpAny_of_B _ _ _ _ _ (h a _ _ hs (hp.drawn _ (Nat.le_succ _)) hR (fun _ _ _ h => h) fun _ _ L' R' hs' hp' hk => ⟨L', R', hs', hp', hk⟩))
theorem RgR.left {Rs : List Row} {l : List RC} (h : RgR Rs l) (T : List Row) : RgR (Rs ++ T) l := h.weak fun _ _ _ hw => hw.left
theorem SlR.nilR (k : IntKind) (Rs : List Row) : SlR k Rs [] [] := ⟨rfl, fun j hj => by simp at hj⟩
theorem canon_ok {ws : List (List Int)} (h : OkB ws) : OkB (canon ws) := fun c hc => by
  obtain ⟨w, h1, h2, rfl⟩ := mem_canon hc
  have h3 := h w h1
  rw [lw_len]
  exact ⟨ByteL.append (h3.1.drop _) (h3.1.take _), h3.2⟩
theorem roots_ok {ws : List (List Int)} (h : OkB ws) : OkB ((ringS ws).map Prod.fst) := fun c hc => by
  obtain ⟨r, hr, rfl⟩ := List.mem_map.1 hc
  obtain ⟨w, h1, h2, rfl⟩ := mem_ringS hr
  have h3 := h w h1
  have h4 : (ringOf w).1.length ≤ (lw w).length := by
    show ((lw w).take _).length ≤ _
    rw [List.length_take]
    omega
  rw [lw_len] at h4
  exact ⟨(ByteL.append (h3.1.drop _) (h3.1.take _)).take _, by omega⟩
theorem OkB.app {a b : List (List Int)} (ha : OkB a) (hb : OkB b) : OkB (a ++ b) := fun l hl => (List.mem_append.1 hl).elim (ha l) (hb l)
theorem canon_small {ws : List (List Int)} {M : Nat} (h : ∀ w ∈ ws, w.length ≤ M) : ∀ w ∈ canon ws, w.length ≤ M := fun c hc => by
  obtain ⟨w, h1, h2, rfl⟩ := mem_canon hc
  rw [lw_len]
  exact h w h1
theorem canon_few (ws : List (List Int)) : (canon ws).length ≤ ws.length := by
  rw [canon_len]
  unfold ringsOf
  rw [List.length_map]
  exact List.length_filter_le _ _
end
end Go.Eng

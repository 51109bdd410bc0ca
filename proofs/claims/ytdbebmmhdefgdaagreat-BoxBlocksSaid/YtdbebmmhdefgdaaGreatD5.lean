/- Several texts of our own in one: F6, F7, F9, F10, Q18, F11, Q31, H2, W1, P1, E29, P2, P3, P4, P5, Q4, C1, F3, E28, S4, N3, N4, F2, N5, N6, Q46. -/
import Derived.Tactics
import Derived.Tactics2
import Derived.Defers
import Derived.Laws.Pointers
import Derived.Laws.LoneSync
import Derived.RegionTactic
import Derived.RegionCalls
import Derived.ChangeAlike
import Derived.Lib.MakeNoZero
import Derived.Ground.SlsfProg
import Derived.Shelf.SlSortCmp.NoneTotal
import Derived.Test.YtdbebmmhdefgdaaGreatProg
import Derived.Test.YtdbebmmhdefgdaaGreatD4
set_option linter.unusedVariables false
set_option linter.unusedSimpArgs false
namespace Go.Proofs.YtdbebmmhdefgdaaGreat
open Go Go.Eng Go.Pure
open Tryz
set_option maxRecDepth 100000
theorem aLy {w:World} {A_l:Option Addr} {n_l c_l:Nat} {l:List Int} (h_l:Rd w A_l n_l c_l 1 (ints .i64 l)):
  Ct Tryz.prog 119 #[.slice A_l n_l c_l] w.heap.size w [] (fun v R'=>v=I (orL l)):=by
 obtain rfl:=h_l.lenI
 refine fn1 Tryz.func119 Z Z Z ?_
 have m_l:=h_l.max
 refine wq<|wg Z<|aA<|wq<|wg Z<|aA<|aG<|wq<|wm Z<|wy (aR underlying52 Z)<|wm Z<|aA ?_
 refine aI ?_
 refine rQ (fun(k:Int)=>[(3,I 0),(6, .slice A_l l.length c_l),(7,I ((l.length:Nat):Int)),(8,I k)]) (fun(k:Int)=>[]) (fun(k:Int)=>(0≤k)∧(k≤l.length)∧(orL l=orL (l.drop k.toNat))) (fun(k:Int)=>(l.length-k).toNat) ?_ ?_
 ·exact⟨0,⟨(by omega),(by omega),(Z)⟩,(G4 Z Z Z Z),fun _ h=>h⟩
 intro k ⟨hk0,hk1,ho⟩
 refine wq<|wL Z Z<|aA<|aG<|bM Z (fun hc1=> ?_) (fun hc1=> ?_)
 ·refine aJ<|aG<|aI<|wq<|wy (aH underlying52 sz3 Z Z (h_l.c _) (by omega) (by omega))<|wy (aX underlying3 Z Z (h_l.c _) (by omega) (by omega))<|wg Z<|aA<|wq<|wm Z<|wm Z<|wy (iT Z Z)<|aA ?_
  refine bM Z (fun hc2=> ?_) (fun hc2=> ?_)
  ·refine wq<|wm Z<|wg Z<|aA<|dL ?_
   refine⟨_,Z,?_⟩
   exact congrArg (Value.int .i64) (by rw[ho,aSe hk0 (by omega) (by omega)])
  ·refine aJ<|aL<|wA Z Z<|wm Z<|aA ?_
   exact⟨k+1,⟨(by omega),(by omega),(by rw[ho,aXk hk0 (by omega) (by omega)])⟩,(by omega),(G4 Z Z Z Z),fun _ h=>h⟩
 ·refine aZ<|wq<|wm Z<|wg Z<|aA<|dL ?_
  refine⟨_,Z,?_⟩
  exact congrArg (Value.int .i64) (by rw[ho,List.drop_of_length_le (by omega)];rfl)
theorem uL {w:World} {g_s:Nat} {A_w A_t A_b A_r:Option Addr} {n_t c_w c_t c_b c_r:Nat} {vals_w:List Value} {ws:List (List Int)} {bs rs:List Int} {t1 t2:Int} {h:Int} (h_s:Rd w (GG g_s) 1 1 4 [.slice A_w ws.length c_w, .slice A_t n_t c_t, .slice A_b bs.length c_b, .slice A_r rs.length c_r]) (h_w:Rd w A_w ws.length c_w 1 vals_w) (s_w:SlW .u8 w vals_w ws) (h_b:Rd w A_b bs.length c_b 1 (ints .i64 bs)) (h_r:Rd w A_r rs.length c_r 1 (ints .i64 rs)) (ha_t:0≤t1∧t1<ws.length∧t1<bs.length) (hb_t:0≤t2∧t2≤1000000) (hc_t:0<(rdl ws t1).length) (hd_t:0≤rd bs t1∧rd bs t1+(rdl ws t1).length≤rs.length) (hh:0≤h∧h≤1000000):
  Ct Tryz.prog 279 #[.pointer (GG g_s), .agg #[I t1,I t2],I h] w.heap.size w [] (fun v R'=>v=I (ahd ws bs rs (t1,t2) h)):=by
 refine fn1 Tryz.func279 Z Z Z ?_
 have m_r:=h_r.max
 have m_b:=h_b.max
 have m_w:=h_w.max
 have e1:=Int.emod_nonneg (t2+h) (show((rdl ws t1).length:Int)≠0 by omega)
 have e2:=Int.emod_lt_of_pos (t2+h) (show(0:Int)<((rdl ws t1).length:Int) by omega)
 refine wq<|wa (dV (sz:=2) Z Z) ?_
 rintro _ _ ⟨g_1,rfl,rfl⟩
 refine wg Z<|aA<|aG<|bT mixed<|wD 0 Z (aM Z)<|wD 1 Z (aF Z)<|wD 2 Z (aC (off:=3) (m:=3) underlying281 Z iB Z Z Z)<|wD 3 Z (aK (h_s.c _) underlying52 Z Z Z)<|wD 4 Z (aM Z)<|wD 5 Z (aF Z)<|wD 6 Z (aC (off:=2) (m:=2) underlying281 Z iB Z Z Z)<|wD 7 Z (aK (h_s.c _) underlying52 Z Z Z)<|wD 8 Z (dD (q:=0) (rdr 0 Z) underlying230 sz3 Z Z (Nat.le_of_ble_eq_true Z) (by decide) (by decide) Z)<|wD 9 Z (aK (rdr 0 Z) underlying3 Z Z Z)<|wD 10 Z (aH underlying52 sz3 Z Z (h_b.c _) (by omega) (by omega)) ?_
 refine wD 11 Z (aX underlying3 Z Z (h_b.c _) (by omega) (by omega))<|wD 12 Z (dD (q:=1) (rdr 0 Z) underlying230 sz3 Z Z (Nat.le_of_ble_eq_true Z) (by decide) (by decide) Z)<|wD 13 Z (aK (rdr 0 Z) underlying3 Z Z Z)<|wD 14 Z (aM Z)<|wD 15 Z (dG Z Z (by omega))<|wD 16 Z (aM Z)<|wD 17 Z (aF Z)<|wD 18 Z (aC (off:=0) (m:=0) underlying281 Z vM Z Z Z)<|wD 19 Z (aK (h_s.c _) underlying23 Z Z Z)<|wD 20 Z (dD (q:=0) (rdr 0 Z) underlying230 sz3 Z Z (Nat.le_of_ble_eq_true Z) (by decide) (by decide) Z)<|wD 21 Z (aK (rdr 0 Z) underlying3 Z Z Z)<|wD 22 Z (aH underlying23 fP Z Z (h_w.c _) (by omega) (by omega)) ?_
 obtain⟨A_3,c_4,hv_5,hr_6,hb_7,mhr_6⟩:=s_w.at (i:=t1) (by omega) (by omega)
 refine wD 23 Z (EE underlying22 Z Z Z (h_w.c _) hv_5)<|wD 24 Z (aR underlying22 Z)<|wD 25 Z (BI Z Z (by omega) (by omega))<|wD 26 Z (dG Z Z (by omega))<|wD 27 Z (aH underlying52 sz3 Z Z (h_r.c _) (by omega) (by omega))<|wD 28 Z (aX underlying3 Z Z (h_r.c _) (by omega) (by omega))<|wD 29 Z (bV Z)<|bP (by kernel_rfl)<|bA [] 99 (by decide) Z ?_
 refine⟨_,Z,?_⟩
 rfl
theorem OQ {w:World} {g_s:Nat} {A_w A_t A_b A_r:Option Addr} {n_t c_w c_t c_b c_r:Nat} {vals_w:List Value} {ws:List (List Int)} {bs rs:List Int} {t1 t2:Int} (h_s:Rd w (GG g_s) 1 1 4 [.slice A_w ws.length c_w, .slice A_t n_t c_t, .slice A_b bs.length c_b, .slice A_r rs.length c_r]) (h_w:Rd w A_w ws.length c_w 1 vals_w) (s_w:SlW .u8 w vals_w ws) (h_b:Rd w A_b bs.length c_b 1 (ints .i64 bs)) (h_r:Rd w A_r rs.length c_r 1 (ints .i64 rs)) (ha_t:0≤t1∧t1<ws.length∧t1<bs.length) (hb_t:0≤t2∧t2≤1000000) (hc_t:0<(rdl ws t1).length) (hd_t:0≤rd bs t1∧rd bs t1+(rdl ws t1).length≤rs.length):
  Ct Tryz.prog 278 #[.pointer (GG g_s), .agg #[I t1,I t2]] w.heap.size w [] (fun v R'=>v=I (ahd ws bs rs (t1,t2) 0)):=by
 refine fn1 Tryz.func278 Z Z Z ?_
 have m_r:=h_r.max
 have m_b:=h_b.max
 have m_w:=h_w.max
 refine wq<|wa (dV (sz:=2) Z Z) ?_
 rintro _ _ ⟨g_1,rfl,rfl⟩
 refine wg Z<|aA<|wq<|wm Z<|wy (dZ (vs:=[I t1,I t2]) (rdr 0 Z) underlying230 Z lU Z Z (Nat.le_of_ble_eq_true Z) Z)<|wa (aD UI Z (Ct.quiet (fun w hw=>uL ((h_s.c _) w hw) ((h_w.c _) w hw) (s_w.c hw) ((h_b.c _) w hw) ((h_r.c _) w hw) (by first|assumption|omega|decide) (by first|assumption|omega|decide) (by first|assumption|omega|decide) (by first|assumption|omega|decide) (by first|assumption|omega|decide)))) ?_
 rintro _ _ ⟨rfl,rfl⟩
 refine wg Z<|aA<|bA [] 99 (by decide) Z ?_
 refine⟨_,Z,?_⟩
 rfl
theorem WQ {w:World} {t1 t2:Int} {u1 u2:Int} {g_s:Nat} {A_w A_t A_b A_r:Option Addr} {n_t c_w c_t c_b c_r:Nat} {vals_w:List Value} {ws:List (List Int)} {bs rs:List Int} {g_p:Nat} {g_h:Nat} {h:Int} (h_s:Rd w (GG g_s) 1 1 4 [.slice A_w ws.length c_w, .slice A_t n_t c_t, .slice A_b bs.length c_b, .slice A_r rs.length c_r]) (h_w:Rd w A_w ws.length c_w 1 vals_w) (s_w:SlW .u8 w vals_w ws) (h_b:Rd w A_b bs.length c_b 1 (ints .i64 bs)) (h_r:Rd w A_r rs.length c_r 1 (ints .i64 rs)) (h_p:Rd w (GG g_p) 1 1 1 [.pointer (GG g_s)]) (h_h:Rd w (GG g_h) 1 1 1 [I h]) (ha_t:0≤t1∧t1<ws.length∧t1<bs.length) (hb_t:0≤t2∧t2≤1000000) (hc_t:0<(rdl ws t1).length) (hd_t:0≤rd bs t1∧rd bs t1+(rdl ws t1).length≤rs.length) (ha_u:0≤u1∧u1<ws.length∧u1<bs.length) (hb_u:0≤u2∧u2≤1000000) (hc_u:0<(rdl ws u1).length) (hd_u:0≤rd bs u1∧rd bs u1+(rdl ws u1).length≤rs.length) (hh:0≤h∧h≤1000000):
  Ct Tryz.prog 277 #[.agg #[I t1,I t2], .agg #[I u1,I u2], .pointer (GG g_p), .pointer (GG g_h)] w.heap.size w [] (fun v R'=>v=I (WV ws bs rs h (t1,t2) (u1,u2))):=by
 refine fn1 Tryz.func277 Z Z Z ?_
 have m_r:=h_r.max
 have m_b:=h_b.max
 have m_w:=h_w.max
 refine wq<|wa (dV (sz:=2) Z Z) ?_
 rintro _ _ ⟨g_1,rfl,rfl⟩
 refine wa (dV (sz:=2) Z Z) ?_
 rintro _ _ ⟨g_3,rfl,rfl⟩
 refine wg Z<|aA<|aG<|bT mixed<|wD 0 Z (aK (h_p.c _) underlying279 Z Z Z)<|wD 1 Z (dZ (vs:=[I t1,I t2]) (rdr 1 Z) underlying230 Z lU Z Z (Nat.le_of_ble_eq_true Z) Z)<|wD 3 Z (aK (h_p.c _) underlying279 Z Z Z)<|wD 4 Z (dZ (vs:=[I u1,I u2]) (rdr 0 Z) underlying230 Z lU Z Z (Nat.le_of_ble_eq_true Z) Z)<|wD 7 Z (aK (h_p.c _) underlying279 Z Z Z)<|wD 8 Z (dZ (vs:=[I t1,I t2]) (rdr 1 Z) underlying230 Z lU Z Z (Nat.le_of_ble_eq_true Z) Z)<|wD 9 Z (aK (h_h.c _) underlying3 Z Z Z)<|wD 11 Z (aK (h_p.c _) underlying279 Z Z Z)<|wD 12 Z (dZ (vs:=[I u1,I u2]) (rdr 0 Z) underlying230 Z lU Z Z (Nat.le_of_ble_eq_true Z) Z)<|wD 13 Z (aK (h_h.c _) underlying3 Z Z Z)<|wD 16 Z (dD (q:=0) (rdr 1 Z) underlying230 sz3 Z Z (Nat.le_of_ble_eq_true Z) (by decide) (by decide) Z) ?_
 refine wD 17 Z (aK (rdr 1 Z) underlying3 Z Z Z)<|wD 18 Z (dD (q:=0) (rdr 0 Z) underlying230 sz3 Z Z (Nat.le_of_ble_eq_true Z) (by decide) (by decide) Z)<|wD 19 Z (aK (rdr 0 Z) underlying3 Z Z Z)<|wD 21 Z (dD (q:=1) (rdr 1 Z) underlying230 sz3 Z Z (Nat.le_of_ble_eq_true Z) (by decide) (by decide) Z)<|wD 22 Z (aK (rdr 1 Z) underlying3 Z Z Z)<|wD 23 Z (dD (q:=1) (rdr 0 Z) underlying230 sz3 Z Z (Nat.le_of_ble_eq_true Z) (by decide) (by decide) Z)<|wD 24 Z (aK (rdr 0 Z) underlying3 Z Z Z)<|fO 2 Z (by kernel_rfl) Z (aD aDa Z (Ct.quiet (fun w hw=>OQ ((h_s.c _) w hw) ((h_w.c _) w hw) (s_w.c hw) ((h_b.c _) w hw) ((h_r.c _) w hw) (by first|assumption|omega|decide) (by first|assumption|omega|decide) (by first|assumption|omega|decide) (by first|assumption|omega|decide)))) ?_
 rintro _ _ ⟨rfl,rfl⟩
 refine⟨.inr fun _ h=>h,?_⟩
 refine fO 5 Z (by kernel_rfl) Z (aD aDa Z (Ct.quiet (fun w hw=>OQ ((h_s.c _) w hw) ((h_w.c _) w hw) (s_w.c hw) ((h_b.c _) w hw) ((h_r.c _) w hw) (by first|assumption|omega|decide) (by first|assumption|omega|decide) (by first|assumption|omega|decide) (by first|assumption|omega|decide)))) ?_
 rintro _ _ ⟨rfl,rfl⟩
 refine⟨.inr fun _ h=>h,?_⟩
 refine fO 6 Z (by kernel_rfl) Z (aD UK Z (Ct.quiet (fun w hw=>nD))) ?_
 rintro _ _ ⟨rfl,rfl⟩
 refine⟨.inr fun _ h=>h,?_⟩
 refine fO 10 Z (by kernel_rfl) Z (aD UI Z (Ct.quiet (fun w hw=>uL ((h_s.c _) w hw) ((h_w.c _) w hw) (s_w.c hw) ((h_b.c _) w hw) ((h_r.c _) w hw) (by first|assumption|omega|decide) (by first|assumption|omega|decide) (by first|assumption|omega|decide) (by first|assumption|omega|decide) (by first|assumption|omega|decide)))) ?_
 rintro _ _ ⟨rfl,rfl⟩
 refine⟨.inr fun _ h=>h,?_⟩
 refine fO 14 Z (by kernel_rfl) Z (aD UI Z (Ct.quiet (fun w hw=>uL ((h_s.c _) w hw) ((h_w.c _) w hw) (s_w.c hw) ((h_b.c _) w hw) ((h_r.c _) w hw) (by first|assumption|omega|decide) (by first|assumption|omega|decide) (by first|assumption|omega|decide) (by first|assumption|omega|decide) (by first|assumption|omega|decide)))) ?_
 rintro _ _ ⟨rfl,rfl⟩
 refine⟨.inr fun _ h=>h,?_⟩
 refine fO 15 Z (by kernel_rfl) Z (aD UK Z (Ct.quiet (fun w hw=>nD))) ?_
 rintro _ _ ⟨rfl,rfl⟩
 refine⟨.inr fun _ h=>h,?_⟩
 refine fO 20 Z (by kernel_rfl) Z (aD UK Z (Ct.quiet (fun w hw=>nD))) ?_
 rintro _ _ ⟨rfl,rfl⟩
 refine⟨.inr fun _ h=>h,?_⟩
 refine fO 25 Z (by kernel_rfl) Z (aD UK Z (Ct.quiet (fun w hw=>nD))) ?_
 rintro _ _ ⟨rfl,rfl⟩
 refine⟨.inr fun _ h=>h,?_⟩
 refine fO 26 Z (by kernel_rfl) Z (cB .i64 [jZ (ahd ws bs rs (t1,t2) 0) (ahd ws bs rs (u1,u2) 0),jZ (ahd ws bs rs (t1,t2) h) (ahd ws bs rs (u1,u2) h),jZ t1 u1,jZ t2 u2] underlying52 zs3 Z Z Z) ?_
 rintro _ _ ⟨g_6,rfl,rfl⟩
 refine⟨.inr fun _ h=>h.right (R':=[_]),?_⟩
 refine fO 27 Z (by kernel_rfl) Z (aD aWf Z (Ct.quiet (fun w hw=>aLy ((rdr 0 Z) w hw)))) ?_
 rintro _ _ ⟨rfl,rfl⟩
 refine⟨.inr fun _ h=>h,?_⟩
 refine wD 28 Z (bV Z)<|bP (by kernel_rfl)<|bA [] 99 (by decide) Z ?_
 refine⟨_,Z,?_⟩
 rfl
theorem XA (cb:Array Value):aDt Tryz.prog 276 277 cb:=fun α _ enc hk h1 cf hO blk off cap d w hcmp hH hblk hsz=>
 Tryz.slices_SortFunc 2 (fun w=>by kernel_rfl) (fun w=>by kernel_rfl) enc hk h1 cf hO 277 cb blk off cap d w bBa hcmp hH hblk hsz
theorem YY {B:Nat} {w0:World} {R:List Row} {g_s:Nat} {A_w A_t A_b A_r A_o:Option Addr} {n_t n_o n_b n_r c_w c_t c_b c_r c_o:Nat} {vals_w:List Value} {ws:List (List Int)} {bs rs:List Int} {ts:List (Int × Int)} {h:Int} (hno:n_o=ts.length) (hnb:n_b=bs.length) (hnr:n_r=rs.length) (hrw:RdC B w0 R A_w ws.length c_w 1 vals_w) (hsw: ∀w,Hp B w0 w R→SlW .u8 w vals_w ws) (hv: ∀t∈ts,TOk ws bs rs.length t) (hinj: ∀t∈ts,∀u∈ts,gN bs t=gN bs u→t=u) (hnd:ts.Nodup) (hne:ts≠[]) (hN:rs.length≤1000000∧ts.length≤1000000) (hh:0≤h∧h≤1000000):
  Ct Tryz.prog 238 #[.pointer (GG g_s), .slice A_o n_o c_o,I h] B w0 (⟨281,4,(GG g_s),1,1,[.slice A_w ws.length c_w, .slice A_t n_t c_t, .slice A_b n_b c_b, .slice A_r n_r c_r],false⟩::⟨230,2,A_o,n_o,c_o,prs ts,false⟩::(ri 3 A_b n_b c_b bs)::(ri 3 A_r n_r c_r rs)::R) (fun v R'=> ∃(l1:List (Int × Int)) (rk:List Int) (A':Option Addr) (c':Nat),v=I (gQ ws bs rs h l1 (l1.length-1))∧l1.Perm ts∧l1.Pairwise (fun x y=> ¬WV ws bs rs h y x<0)∧rk.length=rs.length∧(∀j:Nat,j<l1.length→rd rk (gN bs (rdp l1 j))=gQ ws bs rs h l1 j)∧R'=⟨281,4,(GG g_s),1,1,[.slice A_w ws.length c_w, .slice A_t n_t c_t, .slice A_b n_b c_b, .slice A' n_r c'],false⟩::⟨230,2,A_o,n_o,c_o,prs l1,false⟩::(ri 3 A_b n_b c_b bs)::(ri 3 A' n_r c' rk)::R):=by
 subst hno;subst hnb;subst hnr
 refine fn1 Tryz.func238 Z Z Z ?_
 have hinj1: ∀t∈ts,0≤gN bs t:=fun t ht=>by have:=hv t ht;unfold TOk at this;unfold gN;omega
 refine wq<|wa (dV (sz:=1) Z Z) ?_
 rintro _ _ ⟨g_1,rfl,rfl⟩
 refine wa (dV (sz:=1) Z Z) ?_
 rintro _ _ ⟨g_3,rfl,rfl⟩
 refine wg Z<|aA<|wq<|wm Z<|wy (kR Z Z)<|wa (aD bBb Z (XC (XA _) 3 Z hne (by omega) (WV ws bs rs h) (aJn ws bs rs h) (fun W hW x hx y hy=>WQ ((rdr 2 Z) W hW) ((RdC.right hrw [_,_,_,_,_]) W hW) (hsw W (Hp.right (R':=[_,_,_,_,_]) hW)) ((rdr 3 Z) W hW) ((rdr 4 Z) W hW) ((rdr 1 Z) W hW) ((rdr 0 Z) W hW) (hv x hx).1 (by have:=(hv x hx).2.1;omega) (hv x hx).2.2.1 (hv x hx).2.2.2 (hv y hy).1 (by have:=(hv y hy).2.1;omega) (hv y hy).2.2.1 (hv y hy).2.2.2 hh))) ?_
 rintro _ _ ⟨rfl,l1,hp1,hs1,rfl⟩
 have hl1:=hp1.length_eq
 have hv1: ∀t∈l1,TOk ws bs rs.length t:=fun t ht=>hv t (hp1.mem_iff.1 ht)
 have hnd1:=hp1.nodup_iff.2 hnd
 refine aA<|wq<|wy (aK (rdr 1 Z) underlying279 Z Z Z)<|wy (aF Z)<|wy (aC (off:=3) (m:=3) underlying281 Z iB Z Z Z)<|wy (aK (rdr 2 Z) underlying52 Z Z Z)<|wy (aR underlying52 Z)<|wa (dF underlying52 zb3 Z Z (by omega) (by omega) (by omega)) ?_
 rintro _ _ ⟨g_5,rfl,rfl⟩
 refine bO (v:= .slice (GG g_5) rs.length rs.length) Z<|wg Z<|aA<|wq<|wg Z<|aA<|aG<|wq<|wm Z<|wy (aR underlying228 Z)<|wm Z<|aA<|aI ?_
 refine gF (fun(i:Int) (n:Int) (rk:List Int)=>[(1, .slice A_o ts.length c_o),(3, .pointer (GG g_1)),(5, .pointer (GG g_3)),(7, .slice (GG g_5) rs.length rs.length),(8,I n),(21, .slice A_o ts.length c_o),(22,I ((ts.length:Nat):Int)),(23,I i)]) (fun(i:Int) (n:Int) (rk:List Int)=>((ri 3 (GG g_5) rs.length rs.length rk)::⟨3,1,(GG g_3),1,1,[I h],false⟩::⟨279,1,(GG g_1),1,1,[.pointer (GG g_s)],false⟩::⟨281,4,(GG g_s),1,1,[.slice A_w ws.length c_w, .slice A_t n_t c_t, .slice A_b bs.length c_b, .slice A_r rs.length c_r],false⟩::⟨230,2,A_o,ts.length,c_o,prs l1,false⟩::(ri 3 A_b bs.length c_b bs)::(ri 3 A_r rs.length c_r rs)::R)) (fun(i:Int) (n:Int) (rk:List Int)=>(0≤i)∧(i≤l1.length)∧(0≤n∧n≤i)∧(n=gQ ws bs rs h l1 (i-1).toNat)∧(rk.length=rs.length)∧(∀j:Nat,j<i→rd rk (gN bs (rdp l1 j))=gQ ws bs rs h l1 j)) (fun(i:Int) (n:Int) (rk:List Int)=>(l1.length-i).toNat) ?_ ?_
 ·exact⟨0,0,List.replicate rs.length (0:Int),⟨(by omega),(by omega),(by omega),(Z),(by rw[List.length_replicate]),(fun j hj=>by omega)⟩,(G8 rfl rfl rfl rfl rfl rfl rfl rfl),fun _ h=>h⟩
 intro i n rk ⟨hi0,hi1,hn0,hn,hkl,hrk⟩
 refine wq<|wL Z Z<|aA<|aG<|bM Z (fun hc1=> ?_) (fun hc1=> ?_)
 ·have hq:=hv1 _ (lH hi0 (show i<l1.length by omega))
  obtain⟨⟨q1,q2,q3⟩,⟨q4,q5,q6⟩,q7,q8,q9⟩:=hq
  have hps: ∀t∈l1,0≤gN bs t:=fun t ht=>hinj1 t (hp1.mem_iff.1 ht)
  have hij: ∀t∈l1,∀u∈l1,gN bs t=gN bs u→t=u:=fun t ht u hu=>hinj t (hp1.mem_iff.1 ht) u (hp1.mem_iff.1 hu)
  refine aJ<|aG<|aI<|wq<|wm Z<|wy (wW underlying228 lU Z Z (rdr 4 Z) Z (by omega) (by omega))<|wy (aIv underlying230 Z lU Z (rdr 4 Z) (by omega) (by omega))<|wa (fA (sz:=2) aIn Z) ?_
  rintro _ _ ⟨g_7,rfl,rfl⟩
  refine wg Z<|bY (dQ (vs:=[I ((rdp l1 i).1),I ((rdp l1 i).2)]) 0 Z lU Z Z Z (by intro v hv;simp at hv;rcases hv with rfl|rfl<;>rfl) Z) ?_
  rintro _ _ rfl
  refine aA<|aG<|wq<|wm Z<|wy (dR Z Z)<|aA<|bM Z (fun hc2=> ?_) (fun hc2=> ?_)
  ·have hq':=hv1 _ (lH (show 0≤i-1 by omega) (show i-1<l1.length by omega))
   obtain⟨⟨p1,p2,p3⟩,⟨p4,p5,p6⟩,p7,p8,p9⟩:=hq'
   refine wq<|wm Z<|wm Z<|wS Z Z<|wy (wW underlying228 lU Z Z (rdr 5 Z) Z (by omega) (by omega))<|wy (aIv underlying230 Z lU Z (rdr 5 Z) (by omega) (by omega))<|wa (fA (sz:=2) aIn Z) ?_
   rintro _ _ ⟨g_9,rfl,rfl⟩
   refine bY (dQ (vs:=[I ((rdp l1 (i-1)).1),I ((rdp l1 (i-1)).2)]) 0 Z lU Z Z Z (by intro v hv;simp at hv;rcases hv with rfl|rfl<;>rfl) Z) ?_
   rintro _ _ rfl
   refine aA ?_
   refine uU [(1, .slice A_o ts.length c_o),(3, .pointer (GG g_1)),(5, .pointer (GG g_3)),(7, .slice (GG g_5) rs.length rs.length),(8,I n),(10, .pointer (GG g_7)),(21, .slice A_o ts.length c_o),(22,I ((ts.length:Nat):Int)),(23,I i),(52, .bool (decide (((ahd ws bs rs (((rdp l1 (i-1)).1),((rdp l1 (i-1)).2)) 0)≠(ahd ws bs rs (((rdp l1 i).1),((rdp l1 i).2)) 0))∨((ahd ws bs rs (((rdp l1 (i-1)).1),((rdp l1 (i-1)).2)) h)≠(ahd ws bs rs (((rdp l1 i).1),((rdp l1 i).2)) h)))))] (⟨230,2,(GG g_9),1,1,[I ((rdp l1 (i-1)).1),I ((rdp l1 (i-1)).2)],false⟩::⟨230,2,(GG g_7),1,1,[I ((rdp l1 i).1),I ((rdp l1 i).2)],false⟩::(ri 3 (GG g_5) rs.length rs.length rk)::⟨3,1,(GG g_3),1,1,[I h],false⟩::⟨279,1,(GG g_1),1,1,[.pointer (GG g_s)],false⟩::⟨281,4,(GG g_s),1,1,[.slice A_w ws.length c_w, .slice A_t n_t c_t, .slice A_b bs.length c_b, .slice A_r rs.length c_r],false⟩::⟨230,2,A_o,ts.length,c_o,prs l1,false⟩::(ri 3 A_b bs.length c_b bs)::(ri 3 A_r rs.length c_r rs)::R) ?_ ?_
   ·refine bT mixed<|wD 0 Z (aK (rdr 4 Z) underlying279 Z Z Z)<|wD 1 Z (dZ (vs:=[I ((rdp l1 (i-1)).1),I ((rdp l1 (i-1)).2)]) (rdr 0 Z) underlying230 Z lU Z Z (Nat.le_of_ble_eq_true Z) Z)<|wD 3 Z (aK (rdr 4 Z) underlying279 Z Z Z)<|wD 4 Z (dZ (vs:=[I ((rdp l1 i).1),I ((rdp l1 i).2)]) (rdr 1 Z) underlying230 Z lU Z Z (Nat.le_of_ble_eq_true Z) Z)<|fO 2 Z (by kernel_rfl) Z (aD aDa Z (Ct.quiet (fun w hw=>OQ ((rdr 5 Z) w hw) ((RdC.right hrw [_,_,_,_,_,_,_,_,_]) w hw) (hsw w (Hp.right (R':=[_,_,_,_,_,_,_,_,_]) hw)) ((rdr 7 Z) w hw) ((rdr 8 Z) w hw) (by first|assumption|omega|decide) (by first|assumption|omega|decide) (by first|assumption|omega|decide) (by first|assumption|omega|decide)))) ?_
    rintro _ _ ⟨rfl,rfl⟩
    refine⟨.inr fun _ h=>h,?_⟩
    refine fO 5 Z (by kernel_rfl) Z (aD aDa Z (Ct.quiet (fun w hw=>OQ ((rdr 5 Z) w hw) ((RdC.right hrw [_,_,_,_,_,_,_,_,_]) w hw) (hsw w (Hp.right (R':=[_,_,_,_,_,_,_,_,_]) hw)) ((rdr 7 Z) w hw) ((rdr 8 Z) w hw) (by first|assumption|omega|decide) (by first|assumption|omega|decide) (by first|assumption|omega|decide) (by first|assumption|omega|decide)))) ?_
    rintro _ _ ⟨rfl,rfl⟩
    refine⟨.inr fun _ h=>h,?_⟩
    refine wD 6 Z (iT Z Z)<|wD 7 Z (aM Z)<|nK 42 Z (fun hc3=> ?_) (fun hc3=> ?_)
    ·refine bJ 8 Z (by kernel_rfl) Z Z Z Z<|bJ 9 Z (by kernel_rfl) Z Z Z Z<|bJ 10 Z (by kernel_rfl) Z Z Z Z<|bJ 11 Z (by kernel_rfl) Z Z Z Z<|bJ 12 Z (by kernel_rfl) Z Z Z Z<|bJ 13 Z (by kernel_rfl) Z Z Z Z<|bJ 14 Z (by kernel_rfl) Z Z Z Z<|bJ 15 Z (by kernel_rfl) Z Z Z Z<|bJ 16 Z (by kernel_rfl) Z Z Z Z<|wD 17 Z (aT Z Z)<|bP (by kernel_rfl) ?_
     exact⟨(sc Z (sc Z (sc Z (sc Z (sc Z (sc Z (sc Z (sc Z (sc Z (Sub.to Z mtA Sub.nil)))))))))),fun _ h=>h⟩
    ·refine aY 8 Z (by kernel_rfl) Z Z Z (aK (rdr 4 Z) underlying279 Z Z Z)<|aY 9 Z (by kernel_rfl) Z Z Z (dZ (vs:=[I ((rdp l1 (i-1)).1),I ((rdp l1 (i-1)).2)]) (rdr 0 Z) underlying230 Z lU Z Z (Nat.le_of_ble_eq_true Z) Z)<|aY 10 Z (by kernel_rfl) Z Z Z (aK (rdr 3 Z) underlying3 Z Z Z)<|aY 12 Z (by kernel_rfl) Z Z Z (aK (rdr 4 Z) underlying279 Z Z Z)<|aY 13 Z (by kernel_rfl) Z Z Z (dZ (vs:=[I ((rdp l1 i).1),I ((rdp l1 i).2)]) (rdr 1 Z) underlying230 Z lU Z Z (Nat.le_of_ble_eq_true Z) Z)<|aY 14 Z (by kernel_rfl) Z Z Z (aK (rdr 3 Z) underlying3 Z Z Z)<|aUz 11 Z (by kernel_rfl) Z Z Z (aD UI Z (Ct.quiet (fun w hw=>uL ((rdr 5 Z) w hw) ((RdC.right hrw [_,_,_,_,_,_,_,_,_]) w hw) (hsw w (Hp.right (R':=[_,_,_,_,_,_,_,_,_]) hw)) ((rdr 7 Z) w hw) ((rdr 8 Z) w hw) (by first|assumption|omega|decide) (by first|assumption|omega|decide) (by first|assumption|omega|decide) (by first|assumption|omega|decide) (by first|assumption|omega|decide)))) ?_
     rintro _ _ ⟨rfl,rfl⟩
     refine⟨.inr fun _ h=>h,?_⟩
     refine aUz 15 Z (by kernel_rfl) Z Z Z (aD UI Z (Ct.quiet (fun w hw=>uL ((rdr 5 Z) w hw) ((RdC.right hrw [_,_,_,_,_,_,_,_,_]) w hw) (hsw w (Hp.right (R':=[_,_,_,_,_,_,_,_,_]) hw)) ((rdr 7 Z) w hw) ((rdr 8 Z) w hw) (by first|assumption|omega|decide) (by first|assumption|omega|decide) (by first|assumption|omega|decide) (by first|assumption|omega|decide) (by first|assumption|omega|decide)))) ?_
     rintro _ _ ⟨rfl,rfl⟩
     refine⟨.inr fun _ h=>h,?_⟩
     refine aY 16 Z (by kernel_rfl) Z Z Z (iT Z Z)<|wD 17 Z (aP Z Z)<|bP (by kernel_rfl) ?_
     exact⟨(sc Z (sc Z (sc Z (sc Z (sc Z (sc Z (sc Z (sc Z (sc Z (Sub.to Z mbA Sub.nil)))))))))),fun _ h=>h⟩
   refine bM Z (fun hc4=> ?_) (fun hc4=> ?_)
   ·refine aL<|wm Z<|wA Z Z<|wg Z<|aA<|bT mixed<|wD 0 Z (aM Z)<|wD 1 Z (aK (rdr 4 Z) underlying279 Z Z Z)<|wD 2 Z (aF Z)<|wD 3 Z (aC (off:=2) (m:=2) underlying281 Z iB Z Z Z)<|wD 4 Z (aK (rdr 5 Z) underlying52 Z Z Z)<|wD 5 Z (dD (q:=0) (rdr 1 Z) underlying230 sz3 Z Z (Nat.le_of_ble_eq_true Z) (by decide) (by decide) Z)<|wD 6 Z (aK (rdr 1 Z) underlying3 Z Z Z)<|wD 7 Z (aH underlying52 sz3 Z Z (rdr 7 Z) (by omega) (by omega))<|wD 8 Z (aX underlying3 Z Z (rdr 7 Z) (by omega) (by omega)) ?_
    refine wD 9 Z (dD (q:=1) (rdr 1 Z) underlying230 sz3 Z Z (Nat.le_of_ble_eq_true Z) (by decide) (by decide) Z)<|wD 10 Z (aK (rdr 1 Z) underlying3 Z Z Z)<|wD 11 Z (dG Z Z (by omega))<|wD 12 Z (aM Z)<|wD 13 Z (aH underlying52 sz3 Z Z (rdr 2 Z) (by omega) (by omega))<|qJ 14 Z (by kernel_rfl) (bG 2 Z sz3 Z Z (by omega) (by omega)) ?_
    rintro _ _ rfl
    refine⟨.inl (by kernel_rfl),?_⟩
    refine bP (by kernel_rfl)<|aL<|wA Z Z<|wm Z<|aA ?_
    exact⟨i+1,n+1,upd rk ((rd bs ((rdp l1 i).1))+((rdp l1 i).2)) (n+1),⟨(by omega),(by omega),(by omega),(by rw[show i+1-1=i by omega,vJ (by omega),if_pos (by assumption),←hn]),(by rw[upd,List.length_set];exact hkl),(wF hnd1 hij hi0 (by omega) hps (by unfold gN;omega) hrk (by have e:(i+1-1)=i:=(by omega);have hc:=(by rw[show i+1-1=i by omega,vJ (by omega),if_pos (by assumption),←hn]:_=gQ ws bs rs h l1 (i+1-1).toNat);rw[e] at hc;exact hc))⟩,(by omega),(G8 Z Z Z Z Z Z Z Z),fun _ h=>h.selR (F:=[_,_,_,_,_,_,_,_,_]) (F':=[_,_,_,_,_,_,_]) [2,3,4,5,6,7,8] (by decide) Z⟩
   ·refine aJ<|bT mixed<|wD 0 Z (aM Z)<|wD 1 Z (aK (rdr 4 Z) underlying279 Z Z Z)<|wD 2 Z (aF Z)<|wD 3 Z (aC (off:=2) (m:=2) underlying281 Z iB Z Z Z)<|wD 4 Z (aK (rdr 5 Z) underlying52 Z Z Z)<|wD 5 Z (dD (q:=0) (rdr 1 Z) underlying230 sz3 Z Z (Nat.le_of_ble_eq_true Z) (by decide) (by decide) Z)<|wD 6 Z (aK (rdr 1 Z) underlying3 Z Z Z)<|wD 7 Z (aH underlying52 sz3 Z Z (rdr 7 Z) (by omega) (by omega))<|wD 8 Z (aX underlying3 Z Z (rdr 7 Z) (by omega) (by omega))<|wD 9 Z (dD (q:=1) (rdr 1 Z) underlying230 sz3 Z Z (Nat.le_of_ble_eq_true Z) (by decide) (by decide) Z)<|wD 10 Z (aK (rdr 1 Z) underlying3 Z Z Z)<|wD 11 Z (dG Z Z (by omega))<|wD 12 Z (aM Z) ?_
    refine wD 13 Z (aH underlying52 sz3 Z Z (rdr 2 Z) (by omega) (by omega))<|qJ 14 Z (by kernel_rfl) (bG 2 Z sz3 Z Z (by omega) (by omega)) ?_
    rintro _ _ rfl
    refine⟨.inl (by kernel_rfl),?_⟩
    refine bP (by kernel_rfl)<|aL<|wA Z Z<|wm Z<|aA ?_
    exact⟨i+1,n,upd rk ((rd bs ((rdp l1 i).1))+((rdp l1 i).2)) n,⟨(by omega),(by omega),(by omega),(by rw[show i+1-1=i by omega,vJ (by omega),if_neg (by assumption),←hn,Int.add_zero]),(by rw[upd,List.length_set];exact hkl),(wF hnd1 hij hi0 (by omega) hps (by unfold gN;omega) hrk (by have e:(i+1-1)=i:=(by omega);have hc:=(by rw[show i+1-1=i by omega,vJ (by omega),if_neg (by assumption),←hn,Int.add_zero]:_=gQ ws bs rs h l1 (i+1-1).toNat);rw[e] at hc;exact hc))⟩,(by omega),(G8 Z Z Z Z Z Z Z Z),fun _ h=>h.selR (F:=[_,_,_,_,_,_,_,_,_]) (F':=[_,_,_,_,_,_,_]) [2,3,4,5,6,7,8] (by decide) Z⟩
  ·refine aJ<|bT mixed<|wD 0 Z (aM Z)<|wD 1 Z (aK (rdr 3 Z) underlying279 Z Z Z)<|wD 2 Z (aF Z)<|wD 3 Z (aC (off:=2) (m:=2) underlying281 Z iB Z Z Z)<|wD 4 Z (aK (rdr 4 Z) underlying52 Z Z Z)<|wD 5 Z (dD (q:=0) (rdr 0 Z) underlying230 sz3 Z Z (Nat.le_of_ble_eq_true Z) (by decide) (by decide) Z)<|wD 6 Z (aK (rdr 0 Z) underlying3 Z Z Z)<|wD 7 Z (aH underlying52 sz3 Z Z (rdr 6 Z) (by omega) (by omega))<|wD 8 Z (aX underlying3 Z Z (rdr 6 Z) (by omega) (by omega))<|wD 9 Z (dD (q:=1) (rdr 0 Z) underlying230 sz3 Z Z (Nat.le_of_ble_eq_true Z) (by decide) (by decide) Z)<|wD 10 Z (aK (rdr 0 Z) underlying3 Z Z Z)<|wD 11 Z (dG Z Z (by omega))<|wD 12 Z (aM Z) ?_
   refine wD 13 Z (aH underlying52 sz3 Z Z (rdr 1 Z) (by omega) (by omega))<|qJ 14 Z (by kernel_rfl) (bG 1 Z sz3 Z Z (by omega) (by omega)) ?_
   rintro _ _ rfl
   refine⟨.inl (by kernel_rfl),?_⟩
   refine bP (by kernel_rfl)<|aL<|wA Z Z<|wm Z<|aA ?_
   exact⟨i+1,n,upd rk ((rd bs ((rdp l1 i).1))+((rdp l1 i).2)) n,⟨(by omega),(by omega),(by omega),(by have h0:i=0:=(by omega);subst h0;exact hn),(by rw[upd,List.length_set];exact hkl),(wF hnd1 hij hi0 (by omega) hps (by unfold gN;omega) hrk (by have e:(i+1-1)=i:=(by omega);have hc:=(by have h0:i=0:=(by omega);subst h0;exact hn:_=gQ ws bs rs h l1 (i+1-1).toNat);rw[e] at hc;exact hc))⟩,(by omega),(G8 Z Z Z Z Z Z Z Z),fun _ h=>h.selR (F:=[_,_,_,_,_,_,_,_]) (F':=[_,_,_,_,_,_,_]) [1,2,3,4,5,6,7] (by decide) Z⟩
 ·refine aZ<|wq<|wy (aK (rdr 2 Z) underlying279 Z Z Z)<|wm Z<|wy (aF Z)<|wy (aC (off:=3) (m:=3) underlying281 Z iB Z Z Z)<|bY (bF 3 Z Z Z iB Z Z Z Z (Nat.le_of_ble_eq_true Z)) ?_
  rintro _ _ rfl
  refine aA<|wq<|wm Z<|wg Z<|aA<|bA [3,4,5,0] 7 (by decide) Z ?_
  refine⟨_,Z,?_⟩
  obtain rfl:i=l1.length:=by omega
  refine⟨l1,rk,_,_,?_,hp1,hs1,hkl,fun j hj=>hrk j (by omega),Z⟩
  rw[hn,show((l1.length:Int)-1).toNat=l1.length-1 by omega]
theorem aHs {w:World} {A_l:Option Addr} {n_l c_l:Nat} {l:List (Int × Int)} (h_l:Rd w A_l n_l c_l 2 (prs l)) (hN:l.length≤1000000):
  Ct Tryz.prog 237 #[.slice A_l n_l c_l] w.heap.size w [] (fun v R'=> ∃A c,v= .slice A l.length c∧R'=[⟨230,2,A,l.length,c,prs l,false⟩]):=by
 obtain rfl:n_l=l.length:=by have:=h_l.len;rw[lZ] at this;omega
 refine fn1 Tryz.func237 Z Z Z ?_
 refine wq<|wg Z<|aA<|aG<|wq<|wm Z<|wy (aAo underlying228 Z Z)<|aA<|EK Z (fun hc1=> ?_) (fun hc1=> ?_)
 ·refine wq<|wg Z<|aA<|bX (R1:=[⟨230,2,none,0,0,prs [],false⟩]) (fun _ h=>h.nilP 230) ?_
  refine⟨_,Z,?_⟩
  have hA:A_l=none:=by simpa using hc1
  subst hA
  obtain rfl:=aLk h_l
  exact⟨none,0,Z,Z⟩
 ·refine aJ<|wq<|wa (aUp underlying228 aUt) ?_
  rintro _ _ ⟨g_2,rfl,rfl⟩
  refine wm Z<|wa (NP 0 Z underlying228 aUu Z Z Z Z (h_l.c _) (by omega)) ?_
  rintro _ _ ⟨A_3,c_4,rfl,rfl⟩
  refine bO (v:= .slice A_3 (0+l.length) c_4) Z<|wg Z<|aA<|bX (R1:=[⟨230,2,A_3,(0+l.length),c_4,prs (([])++l),false⟩]) (fun _ h=>h) ?_
  refine⟨_,Z,?_⟩
  simp only[Nat.zero_add,List.nil_append]
  exact⟨_,_,Z,Z⟩
theorem aJi {w:World} {A_ws:Option Addr} {n_ws c_ws:Nat} {vals_ws:List Value} {ws:List (List Int)} (h_ws:Rd w A_ws n_ws c_ws 1 vals_ws) (s_ws:SlW .u8 w vals_ws ws) (hN:ws.flatten.length≤400000∧ws.length≤1000000):
  Ct Tryz.prog 179 #[.slice A_ws n_ws c_ws] w.heap.size w [] (fun v R'=> ∃(l:List (Int × Int)) (A:Option Addr) (c:Nat),v= .slice A l.length c∧l.Perm (jD ws ws.length)∧l.Pairwise (qV ws)∧R'=[⟨230,2,A,l.length,c,prs l,false⟩]):=by
 obtain rfl:n_ws=ws.length:=by have:=h_ws.len;have:=s_ws.1;omega
 refine fn1 Tryz.func179 Z Z Z ?_
 have m_ws:=h_ws.max
 have hfl:=hN.1
 refine wq<|wg Z<|aA<|wq<|wm Z<|wy (dS (v:= .agg #[.slice A_ws ws.length c_ws, .slice none 0 0, .slice none 0 0, .slice none 0 0]) Z (fun w=>by kernel_rfl))<|wa (dV (sz:=4) rfl rfl) ?_
 rintro _ _ ⟨g_1,rfl,rfl⟩
 refine dK (R1:=[⟨230,2,none,0,0,prs ([]),false⟩,(ri 3 none 0 0 ([])),(ri 3 none 0 0 ([])),⟨281,4,(GG g_1),1,1,[.slice A_ws ws.length c_ws, .slice none 0 0, .slice none 0 0, .slice none 0 0],false⟩]) (Sub.refl _) (fun _ h=>((h.nil 3 1).nil 3 1).nilP 230)<|wg Z<|aA<|wq<|wg Z<|aA<|aG<|wq<|wm Z<|wy (aR underlying23 Z)<|wm Z<|aA<|aI ?_
 refine aJb (fun(k:Int) (lg:Int) (A1:Option Addr) (n1:Nat) (c1:Nat) (T:List (Int × Int)) (A2:Option Addr) (n2:Nat) (c2:Nat) (Bs:List Int) (A3:Option Addr) (n3:Nat) (c3:Nat) (Rs:List Int)=>[(3, .pointer (GG g_1)),(4,I lg),(16, .slice A_ws ws.length c_ws),(17,I ((ws.length:Nat):Int)),(18,I k)]) (fun(k:Int) (lg:Int) (A1:Option Addr) (n1:Nat) (c1:Nat) (T:List (Int × Int)) (A2:Option Addr) (n2:Nat) (c2:Nat) (Bs:List Int) (A3:Option Addr) (n3:Nat) (c3:Nat) (Rs:List Int)=>[⟨230,2,A1,n1,c1,prs T,false⟩,(ri 3 A2 n2 c2 Bs),(ri 3 A3 n3 c3 Rs),⟨281,4,(GG g_1),1,1,[.slice A_ws ws.length c_ws, .slice A1 n1 c1, .slice A2 n2 c2, .slice A3 n3 c3],false⟩]) (fun(k:Int) (lg:Int) (A1:Option Addr) (n1:Nat) (c1:Nat) (T:List (Int × Int)) (A2:Option Addr) (n2:Nat) (c2:Nat) (Bs:List Int) (A3:Option Addr) (n3:Nat) (c3:Nat) (Rs:List Int)=>(0≤k)∧(k≤ws.length)∧(0≤lg∧lg≤400000)∧(∀w:Int,0≤w→w<k→((rdl ws w).length:Int)≤lg)∧(lg=0∧mG ws k.toNat=0∨0<lg∧0<mG ws k.toNat)∧(T=jD ws k.toNat)∧(n1=mG ws k.toNat)∧(Bs=qC ws k.toNat)∧(n2=k.toNat)∧(Rs=(ws.take k.toNat).flatten)∧(n3=mG ws k.toNat)) (fun(k:Int) (lg:Int) (A1:Option Addr) (n1:Nat) (c1:Nat) (T:List (Int × Int)) (A2:Option Addr) (n2:Nat) (c2:Nat) (Bs:List Int) (A3:Option Addr) (n3:Nat) (c3:Nat) (Rs:List Int)=>(ws.length-k).toNat) ?_ ?_
 ·exact⟨0,0,none,0,0,[],none,0,0,[],none,0,0,[],⟨(by omega),(by omega),(by omega),(fun w h0 h1=>by omega),(.inl ⟨rfl,rfl⟩),(rfl),(rfl),(rfl),(rfl),(rfl),(rfl)⟩,(G5 rfl rfl rfl rfl rfl),fun _ h=>h⟩
 intro k lg A1 n1 c1 T A2 n2 c2 Bs A3 n3 c3 Rs ⟨hk0,hk1,hg0,hlg,hge,hT,hnT,hBs,hnB,hRs,hnR⟩
 refine wq<|wL Z Z<|aA<|aG<|bM Z (fun hc1=> ?_) (fun hc1=> ?_)
 ·have hofs:=kX hk0 (show k<ws.length by omega)
  have hole:=aCd ws (k+1).toNat
  refine aJ<|aG<|aI<|wq<|wm Z<|wy (aH underlying23 fP Z Z (h_ws.c _) (by omega) (by omega)) ?_
  obtain⟨A_2,c_3,hv_4,hr_5,hb_6,mhr_5⟩:=s_ws.at (i:=k) (by omega) (by omega)
  refine wy (EE underlying22 Z Z Z (h_ws.c _) hv_4)<|wg Z<|wg Z<|aA<|aG<|bT mixed<|wD 0 Z (aM Z)<|wD 1 Z (aM Z)<|wD 2 Z (aF Z)<|wD 3 Z (aC (off:=2) (m:=2) underlying281 Z iB Z Z Z)<|wD 4 Z (aK (rdr 3 Z) underlying52 Z Z Z)<|wD 5 Z (aM Z)<|wD 6 Z (aF Z)<|wD 7 Z (aC (off:=1) (m:=1) underlying281 Z QU Z Z Z)<|wD 8 Z (aK (rdr 3 Z) underlying228 Z Z Z) ?_
  refine wD 9 Z (aR underlying228 Z)<|fO 10 Z (by kernel_rfl) Z (cB .i64 [((n1:Nat):Int)] underlying52 zs3 Z Z Z) ?_
  rintro _ _ ⟨g_8,rfl,rfl⟩
  refine⟨.inr fun _ h=>h.right (R':=[_]),?_⟩
  refine fO 11 Z (by kernel_rfl) Z (bD 2 Z underlying52 zb3 Z Z Z (rdr 0 Z) (by omega)) ?_
  rintro _ _ ⟨A_9,c_10,rfl,rfl⟩
  refine⟨.inl (by kernel_rfl),?_⟩
  refine EI (v:= .slice A_9 (n2+1) c_10) Z<|wD 12 Z (aF Z)<|wD 13 Z (aC (off:=2) (m:=2) underlying281 Z iB Z Z Z)<|qJ 14 Z (by kernel_rfl) (bF 4 Z Z Z iB Z Z Z Z (Nat.le_of_ble_eq_true Z)) ?_
  rintro _ _ rfl
  refine⟨.inl (by kernel_rfl),?_⟩
  refine bP (by kernel_rfl)<|wq<|wm Z<|wm Z<|wy (aR underlying22 Z)<|wy (aIu Z Z)<|wg Z<|aA<|wq<|wm Z<|wy (aR underlying22 Z)<|wm Z<|aA ?_
  refine aI ?_
  refine CY (fun(j:Int) (B1:Option Addr) (m1:Nat) (d1:Nat) (U:List (Int × Int)) (B3:Option Addr) (m3:Nat) (d3:Nat) (V:List Int)=>[(3, .pointer (GG g_1)),(4,I (max lg (((rdl ws k).length:Nat):Int))),(5,I k),(16, .slice A_ws ws.length c_ws),(17,I ((ws.length:Nat):Int)),(18,I k),(41, .slice A_2 ((rdl ws k).length) c_3),(42,I (((rdl ws k).length:Nat):Int)),(43,I j)]) (fun(j:Int) (B1:Option Addr) (m1:Nat) (d1:Nat) (U:List (Int × Int)) (B3:Option Addr) (m3:Nat) (d3:Nat) (V:List Int)=>[(ri 3 (GG g_8) 1 1 ([((n1:Nat):Int)])),⟨230,2,B1,m1,d1,prs U,false⟩,(ri 3 A_9 (n2+1) c_10 (Bs++([((n1:Nat):Int)]))),(ri 3 B3 m3 d3 V),⟨281,4,(GG g_1),1,1,[.slice A_ws ws.length c_ws, .slice B1 m1 d1, .slice A_9 (n2+1) c_10, .slice B3 m3 d3],false⟩]) (fun(j:Int) (B1:Option Addr) (m1:Nat) (d1:Nat) (U:List (Int × Int)) (B3:Option Addr) (m3:Nat) (d3:Nat) (V:List Int)=>(0≤j)∧(j≤(rdl ws k).length)∧(U=jD ws k.toNat++turnsOf k j.toNat)∧(m1=mG ws k.toNat+j.toNat)∧(V=(ws.take k.toNat).flatten++(rdl ws k).take j.toNat)∧(m3=mG ws k.toNat+j.toNat)) (fun(j:Int) (B1:Option Addr) (m1:Nat) (d1:Nat) (U:List (Int × Int)) (B3:Option Addr) (m3:Nat) (d3:Nat) (V:List Int)=>((rdl ws k).length-j).toNat) ?_ ?_
  ·exact⟨0,A1,n1,c1,T,A3,n3,c3,Rs,⟨(by omega),(by omega),(by rw[hT];exact(List.append_nil _).symm),(hnT),(by rw[hRs];exact(List.append_nil _).symm),(hnR)⟩,(G9 Z Z Z Z Z Z Z Z Z),fun _ h=>h⟩
  intro j B1 m1 d1 U B3 m3 d3 V ⟨hj0,hj1,hU,hm1,hV,hm3⟩
  refine wq<|wL Z Z<|aA<|aG<|bM Z (fun hc2=> ?_) (fun hc2=> ?_)
  ·refine aJ<|aG<|aI<|wq<|wm Z<|wy (aH underlying22 sz5 Z Z (hr_5.c _) (by omega) (by omega))<|wy (aX underlying5 Z Z (hr_5.c _) (by omega) (by omega))<|wg Z<|wg Z<|aA<|wq<|wm Z<|wm Z ?_
   refine wy (aF Z)<|wy (aC (off:=1) (m:=1) underlying281 Z QU Z Z Z)<|wy (aK (rdr 4 Z) underlying228 Z Z Z)<|wm Z<|wm Z<|wy (dS (v:= .agg #[I k,I j]) Z (fun w=>by kernel_rfl))<|wa (aZb underlying228 aUt rfl) ?_
   rintro _ _ ⟨g_12,rfl,rfl⟩
   refine wa (NP 2 Z underlying228 aUu Z Z Z Z (rdr 0 Z) (by omega)) ?_
   rintro _ _ ⟨A_13,c_14,rfl,rfl⟩
   refine bO (v:= .slice A_13 (m1+1) c_14) Z<|wy (aF Z)<|wy (aC (off:=1) (m:=1) underlying281 Z QU Z Z Z)<|bY (bF 5 Z Z Z QU Z Z Z Z (Nat.le_of_ble_eq_true Z)) ?_
   rintro _ _ rfl
   refine aA<|aL<|wm Z<|wm Z<|wy (aF Z)<|wy (aC (off:=3) (m:=3) underlying281 Z iB Z Z Z)<|wy (aK (rdr 5 Z) underlying52 Z Z Z)<|wm Z<|wy (iY underlying5 underlying3 Z (by have hby:=(byteL_wf (by assumption: ∀x∈rdl ws k,(Lit.int .u8 x).wf=true)).rd j;omega)) ?_
   refine wa (cB .i64 [rd (rdl ws k) j] underlying52 zs3 Z Z Z) ?_
   rintro _ _ ⟨g_16,rfl,rfl⟩
   refine wa (bD 5 Z underlying52 zb3 Z Z Z (rdr 0 Z) (by omega)) ?_
   rintro _ _ ⟨A_17,c_18,rfl,rfl⟩
   refine bO (v:= .slice A_17 (m3+1) c_18) Z<|wy (aF Z)<|wy (aC (off:=3) (m:=3) underlying281 Z iB Z Z Z)<|bY (bF 6 Z Z Z iB Z Z Z Z (Nat.le_of_ble_eq_true Z)) ?_
   rintro _ _ rfl
   refine aA<|aL<|wA Z Z<|wm Z<|aA ?_
   exact⟨j+1,A_13,(m1+1),c_14,U++([(k,j)]),A_17,(m3+1),c_18,V++([rd (rdl ws k) j]),⟨(by omega),(by omega),(by rw[hU,OA k hj0,List.append_assoc]),(by omega),(by rw[hV,List.append_assoc,dE hj0 (by omega)]),(by omega)⟩,(by omega),(G9 Z Z Z Z Z Z Z Z Z),fun _ h=>h.sel [2,3,4,5,6] (by decide) Z⟩
  ·refine aZ<|aL<|wA Z Z<|wm Z<|aA ?_
   exact⟨k+1,max lg (((rdl ws k).length:Nat):Int),B1,m1,d1,U,A_9,(n2+1),c_10,Bs++([((n1:Nat):Int)]),B3,m3,d3,V,⟨(by omega),(by omega),(by omega),(fun w h0 h1=>by
      by_cases hw:w=k
      ·rw[hw];omega
      ·have:=hlg w h0 (by omega);omega),(by have hofs:=kX hk0 (show k<ws.length by omega);omega),(by have hj:j.toNat=(rdl ws k).length:=(by omega);rw[hU,hj,WT hk0]),(by rw[hm1,kX hk0 (by omega)];omega),(by rw[hBs,ZY hk0,hnT]),(by omega),(by have hj:j.toNat=(rdl ws k).length:=(by omega);rw[hV,hj,List.take_length,iO hk0 (by omega)]),(by rw[hm3,kX hk0 (by omega)];omega)⟩,(by omega),(G5 rfl rfl rfl rfl rfl),fun _ h=>h.sel [1,2,3,4] (by decide) rfl⟩
 ·have hke:k=ws.length:=by omega
  have hkn:k.toNat=ws.length:=by omega
  rw[hkn] at hT hBs hRs hnT hnB hnR hge
  rw[List.take_length] at hRs
  have hoT:=zQ ws ws.length (Nat.le_refl _)
  have hoB:=NK ws ws.length
  have hoR:mG ws ws.length=ws.flatten.length:=by unfold mG;rw[List.take_length]
  obtain rfl:n1=T.length:=by rw[hT];omega
  obtain rfl:n2=Bs.length:=by rw[hBs];omega
  obtain rfl:n3=Rs.length:=by rw[hRs];omega
  have hTl:T.length≤1000000:=by rw[hT];omega
  refine aZ<|wq<|wm Z<|wy (aF Z)<|wy (aC (off:=1) (m:=1) underlying281 Z QU Z Z Z)<|wy (aK (rdr 3 Z) underlying228 Z Z Z)<|wa (aD bBn Z (Ct.fresh (fun w hw=>aHs ((rdr 0 Z) w hw) hTl))) ?_
  rintro _ _ ⟨_,rfl,A_19,c_20,rfl,rfl⟩
  refine wg Z<|aA<|wq<|wg Z<|aA<|aG<|wq<|wg Z<|aA<|aI ?_
  refine nN (fun(h:Int) (was:Int) (l:List (Int × Int)) (A4:Option Addr) (c4:Nat) (rs:List Int)=>[(3, .pointer (GG g_1)),(4,I lg),(9, .slice A_19 T.length c_20),(10,I was),(11,I h)]) (fun(h:Int) (was:Int) (l:List (Int × Int)) (A4:Option Addr) (c4:Nat) (rs:List Int)=>[⟨230,2,A_19,T.length,c_20,prs l,false⟩,⟨230,2,A1,T.length,c1,prs T,false⟩,(ri 3 A2 Bs.length c2 Bs),(ri 3 A4 Rs.length c4 rs),⟨281,4,(GG g_1),1,1,[.slice A_ws ws.length c_ws, .slice A1 T.length c1, .slice A2 Bs.length c2, .slice A4 Rs.length c4],false⟩]) (fun(h:Int) (was:Int) (l:List (Int × Int)) (A4:Option Addr) (c4:Nat) (rs:List Int)=>(0≤h)∧(l.Perm T)∧(rs.length=Rs.length)∧(RK ws Bs (lS h) rs)∧(0<h→Sorted ws (lS h) l∧Go.Pure.Steps Bs rs l was)) (fun(h:Int) (was:Int) (l:List (Int × Int)) (A4:Option Addr) (c4:Nat) (rs:List Int)=>(2*lg-h).toNat) ?_ ?_
  ·exact⟨0,-1,T,A3,c3,Rs,⟨(by omega),(.refl _),(Z),(by rw[hRs,hBs];exact aKk ws),(fun h=>absurd h (by omega))⟩,(G5 Z Z Z Z Z),fun _ h=>h⟩
  intro h was l A4 c4 rs ⟨hh0,hlp,hrl,hRK,hst⟩
  have htv: ∀t∈l,TV ws t:=fun t ht=>yJ.1 (by rw[←hT];exact hlp.mem_iff.1 ht)
  have hvv: ∀t∈l,TOk ws Bs rs.length t:=fun t ht=>by rw[hrl,hRs,hBs];exact aUl (by omega) (htv t ht)
  have hij: ∀t∈l,∀u∈l,gN Bs t=gN Bs u→t=u:=fun t ht u hu e=>aLm (htv t ht) (htv u hu) (by rw[←hBs];exact e)
  have hnd:l.Nodup:=hlp.nodup_iff.2 (by rw[hT];exact sZ ws _)
  have hrs:Rs.length=ws.flatten.length:=by rw[hRs]
  have hll:=hlp.length_eq
  have hTo:T.length=mG ws ws.length:=by rw[hT];exact hoT
  refine aG<|wq<|wm Z<|wm Z<|wy (iF Z Z (by omega))<|wL Z Z<|aA<|bM Z (fun hc3=> ?_) (fun hc3=> ?_)
  ·have hne:l≠[]:=fun e=>by rw[e] at hll;simp only[List.length_nil] at hll;omega
   refine aJ<|aG<|aI<|wq<|wm Z<|wm Z<|wm Z<|dK (R1:=[⟨281,4,(GG g_1),1,1,[.slice A_ws ws.length c_ws, .slice A1 T.length c1, .slice A2 Bs.length c2, .slice A4 Rs.length c4],false⟩,⟨230,2,A_19,T.length,c_20,prs l,false⟩,(ri 3 A2 Bs.length c2 Bs),(ri 3 A4 Rs.length c4 rs),⟨230,2,A1,T.length,c1,prs T,false⟩]) (Sub.refl _) (fun _ h=>h.sel [4,0,2,3,1] (by decide) Z)<|wa (aD bBm Z (YY (bs:=Bs) (rs:=rs) (ts:=l) hll.symm Z hrl.symm (h_ws.c _) (fun w hw=>s_ws.c hw) hvv hij hnd hne ⟨by omega,by omega⟩ ⟨hh0,by omega⟩)) ?_
   rintro _ _ ⟨l_23,rk_24,A_21,c_22,rfl,hp_l_23,hs_l_23,hl_rk_24,hr_rk_24,rfl⟩
   have hs2:Sorted ws (fU h) l_23:=⟨fun t ht=>htv t (hp_l_23.mem_iff.1 ht),hp_l_23.nodup_iff.2 hnd,hs_l_23.imp_of_mem fun {x y} hx hy hn ho=>hn ((aJo hh0 hRK (htv y (hp_l_23.mem_iff.1 hy)) (htv x (hp_l_23.mem_iff.1 hx))).2 ho)⟩
   have hall2: ∀t,TV ws t→t∈l_23:=fun t ht=>hp_l_23.mem_iff.2 (hlp.mem_iff.2 (by rw[hT];exact yJ.2 ht))
   have hRK2:=aRl hh0 hRK hs2 hall2 hr_rk_24
   have hst2:=WY hh0 hRK hs2 hr_rk_24
   have hcl:=hp_l_23.length_eq
   refine wg Z<|aA<|aG<|wq<|wm Z<|wm Z<|wy (dI Z Z)<|wm Z<|cZ 3 [(3, .pointer (GG g_1)),(4,I lg),(9, .slice A_19 T.length c_20),(11,I h),(12,I (gQ ws Bs rs h l_23 (l_23.length-1))),(95, .bool (decide (((gQ ws Bs rs h l_23 (l_23.length-1))=was)∧(0<h))))] [⟨281,4,(GG g_1),1,1,[.slice A_ws ws.length c_ws, .slice A1 T.length c1, .slice A2 Bs.length c2, .slice A_21 Rs.length c_22],false⟩,⟨230,2,A_19,T.length,c_20,prs l_23,false⟩,(ri 3 A2 Bs.length c2 Bs),(ri 3 A_21 Rs.length c_22 rk_24),⟨230,2,A1,T.length,c1,prs T,false⟩] ?_ ?_
   ·refine bR 92 Z (fun hc4=> ?_) (fun hc4=> ?_)
    ·refine aB Z Z<|wm Z<|aB Z Z<|wy (dR Z Z)<|wy (aT Z Z)<|aA ?_
     exact⟨(sc Z (sc Z (sc Z (sc Z (sc Z (Sub.to Z mbA Sub.nil)))))),fun _ h=>h⟩
    ·refine aO Z Z Z Z<|aO Z Z Z Z<|wy (aP Z Z)<|aA ?_
     exact⟨(sc Z (sc Z (sc Z (sc Z (sc Z (Sub.to Z mfA Sub.nil)))))),fun _ h=>h⟩
   refine aA<|bM Z (fun hc5=> ?_) (fun hc5=> ?_)
   ·refine aZ<|wq<|wm Z<|wg Z<|aA<|bA [1] 99 (by decide) Z ?_
    refine⟨_,Z,?_⟩
    have hle:T.length=l_23.length:=by omega
    rw[hle]
    refine⟨l_23,_,_,Z,?_,?_,Z⟩
    ·rw[←hT];exact hp_l_23.trans hlp
    ·exact stay hc5.2 hRK hs2 hall2 hp_l_23 (hst hc5.2).2 hc5.1
   ·refine aJ<|aL<|wm Z<|wg Z<|aA<|aL<|wm Z<|wy (iF Z Z (by omega))<|wy (aIu Z Z)<|wg Z<|aA ?_
    exact⟨max 1 (2*h),gQ ws Bs rs h l_23 (l_23.length-1),l_23,A_21,c_22,rk_24,⟨(by omega),(hp_l_23.trans hlp),(by omega),(by have e:lS (max 1 (2*h))=fU h:=(by unfold lS fU;split<;>omega);rw[e];exact hRK2),(fun _=>by have e:lS (max 1 (2*h))=fU h:=(by unfold lS fU;split<;>omega);rw[e];exact⟨hs2,hst2⟩)⟩,(by omega),(G5 rfl rfl rfl rfl rfl),fun _ h=>h.sel [1,4,2,3,0] (by decide) rfl⟩
  ·refine aZ<|wq<|wm Z<|wg Z<|aA<|bA [0] 99 (by decide) Z ?_
   refine⟨_,Z,?_⟩
   have hle:T.length=l.length:=by omega
   rw[hle]
   refine⟨l,_,_,Z,?_,?_,Z⟩
   ·rw[←hT];exact hlp
   ·by_cases h0:0<h
    ·refine (hst h0).1.toO fun t u ht hu e=>UE ht hu ?_ e
     have a:=hlg t.1 ht.1 (by rw[hke];exact ht.2.1)
     have b:=hlg u.1 hu.1 (by rw[hke];exact hu.2.1)
     unfold lS
     omega
    ·have hl0:l=[]:=List.eq_nil_of_length_eq_zero (by omega)
     rw[hl0]
     exact .nil
end Go.Proofs.YtdbebmmhdefgdaaGreat

namespace Go.Proofs.YtdbebmmhdefgdaaGreat
open Go Go.Eng Go.Pure
set_option maxRecDepth 100000
end Go.Proofs.YtdbebmmhdefgdaaGreat

namespace Go.Proofs.YtdbebmmhdefgdaaGreat
open Go Go.Eng Go.Pure
open Tryz
set_option maxRecDepth 100000
theorem YU {w:World} {A_u:Option Addr} {n_u c_u:Nat} {u:List Int} (h_u:Rd w A_u n_u c_u 1 (ints .u8 u)) (hN:u.length≤1000000):
  Ct Tryz.prog 178 #[.slice A_u n_u c_u] w.heap.size w [] (fun v R'=> ∃A c,v= .slice A (fD u).length c∧R'=[(ri 3 A ((fD u).length) c (fD u))]):=by
 obtain rfl:=h_u.lenI
 refine fn1 Tryz.func178 Z Z Z ?_
 have m_u:=h_u.max
 refine wq<|wg Z<|aA<|wq<|dK (R1:=[(ri 3 none 0 0 ([]))]) (Sub.refl _) (fun _ h=>h.nil 3 1)<|wg Z<|aA<|aG<|wq<|wg Z<|aA<|aI ?_
 refine jT (fun(a:Int) (A1:Option Addr) (n1:Nat) (c1:Nat) (acc:List Int)=>[(0, .slice A_u u.length c_u),(3, .slice A1 n1 c1),(4,I a)]) (fun(a:Int) (A1:Option Addr) (n1:Nat) (c1:Nat) (acc:List Int)=>[(ri 3 A1 n1 c1 acc)]) (fun(a:Int) (A1:Option Addr) (n1:Nat) (c1:Nat) (acc:List Int)=>(0≤a)∧(a≤u.length)∧(n1=acc.length)∧(acc.length≤a)∧(fD u=acc++fD (u.drop a.toNat))) (fun(a:Int) (A1:Option Addr) (n1:Nat) (c1:Nat) (acc:List Int)=>(u.length-a).toNat) ?_ ?_
 ·exact⟨0,none,0,0,[],⟨(by omega),(by omega),(Z),(by simp),(Z)⟩,(G3 Z Z Z),fun _ h=>h⟩
 intro a A1 n1 c1 acc ⟨ha0,ha1,hn1,hlu,hfac⟩
 refine aG<|wq<|wm Z<|wm Z<|wy (aR underlying22 Z)<|wL Z Z<|aA<|bM Z (fun hc1=> ?_) (fun hc1=> ?_)
 ·refine aJ<|aI<|wq<|wm Z<|wm Z<|wA Z Z<|wg Z<|wg Z<|aA<|aG<|aI ?_
  refine dW (fun(i:Int) (j:Int)=>[(0, .slice A_u u.length c_u),(3, .slice A1 n1 c1),(4,I a),(5,I i),(6,I j)]) (fun(i:Int) (j:Int)=>[(ri 3 A1 n1 c1 acc)]) (fun(i:Int) (j:Int)=>(a≤i)∧(i<j)∧(j≤u.length)∧(rJ u a (j-i))∧(rF u a (j-i) (j-a))) (fun(i:Int) (j:Int)=>(u.length-j).toNat) ?_ ?_
  ·exact⟨a,a+1,⟨(by omega),(by omega),(by omega),(CF.1),(CF.2)⟩,(G5 Z Z Z Z Z),fun _ h=>h⟩
  intro i j ⟨hai,hij,hj,hL,hP⟩
  refine aG ?_
  refine uU [(0, .slice A_u u.length c_u),(3, .slice A1 n1 c1),(4,I a),(5,I i),(6,I j),(28, .bool (decide ((j<((u.length:Nat):Int))∧((rd u i)≤(rd u j)))))] [(ri 3 A1 n1 c1 acc)] ?_ ?_
  ·refine bT mixed<|wD 0 Z (aM Z)<|wD 1 Z (aM Z)<|wD 2 Z (aR underlying22 Z)<|wD 3 Z (fG Z Z)<|wD 4 Z (aM Z)<|nK 18 Z (fun hc2=> ?_) (fun hc2=> ?_)
   ·refine aY 5 Z (by kernel_rfl) Z Z Z (aM Z)<|aY 6 Z (by kernel_rfl) Z Z Z (aM Z)<|aY 7 Z (by kernel_rfl) Z Z Z (aH underlying22 sz5 Z Z (h_u.c _) (by omega) (by omega))<|aY 8 Z (by kernel_rfl) Z Z Z (aX underlying5 Z Z (h_u.c _) (by omega) (by omega))<|aY 9 Z (by kernel_rfl) Z Z Z (aM Z)<|aY 10 Z (by kernel_rfl) Z Z Z (aM Z)<|aY 11 Z (by kernel_rfl) Z Z Z (aH underlying22 sz5 Z Z (h_u.c _) (by omega) (by omega))<|aY 12 Z (by kernel_rfl) Z Z Z (aX underlying5 Z Z (h_u.c _) (by omega) (by omega))<|aY 13 Z (by kernel_rfl) Z Z Z (vL Z Z)<|wD 14 Z (aT Z Z)<|bP (by kernel_rfl) ?_
    exact⟨(sc Z (sc Z (sc Z (sc Z (sc Z (Sub.to Z mbA Sub.nil)))))),fun _ h=>h⟩
   ·refine bJ 5 Z (by kernel_rfl) Z Z Z Z<|bJ 6 Z (by kernel_rfl) Z Z Z Z<|bJ 7 Z (by kernel_rfl) Z Z Z Z<|bJ 8 Z (by kernel_rfl) Z Z Z Z<|bJ 9 Z (by kernel_rfl) Z Z Z Z<|bJ 10 Z (by kernel_rfl) Z Z Z Z<|bJ 11 Z (by kernel_rfl) Z Z Z Z<|bJ 12 Z (by kernel_rfl) Z Z Z Z<|bJ 13 Z (by kernel_rfl) Z Z Z Z<|wD 14 Z (aP Z Z)<|bP (by kernel_rfl) ?_
    exact⟨(sc Z (sc Z (sc Z (sc Z (sc Z (Sub.to Z mfA Sub.nil)))))),fun _ h=>h⟩
  refine bM Z (fun hc3=> ?_) (fun hc3=> ?_)
  ·refine aJ<|aI<|aG<|aG<|bT mixed<|wD 0 Z (aM Z)<|wD 1 Z (aM Z)<|wD 2 Z (aH underlying22 sz5 Z Z (h_u.c _) (by omega) (by omega))<|wD 3 Z (aX underlying5 Z Z (h_u.c _) (by omega) (by omega))<|wD 4 Z (aM Z)<|wD 5 Z (aM Z)<|wD 6 Z (aH underlying22 sz5 Z Z (h_u.c _) (by omega) (by omega))<|wD 7 Z (aX underlying5 Z Z (h_u.c _) (by omega) (by omega))<|wD 8 Z (fG Z Z)<|bP (by kernel_rfl) ?_
   refine bM Z (fun hc4=> ?_) (fun hc4=> ?_)
   ·refine aL<|wm Z<|wg Z<|aA<|aL<|wm Z<|wA Z Z<|wg Z<|aA ?_
    exact⟨a,j+1,⟨(by omega),(by omega),(by omega),((UL ha0 hai hij hL hP hc4).1),((UL ha0 hai hij hL hP hc4).2)⟩,(by omega),(G5 Z Z Z Z Z),fun _ h=>h⟩
   ·refine aL<|wm Z<|wA Z Z<|wg Z<|aA<|aL<|wm Z<|wA Z Z<|wg Z<|aA ?_
    exact⟨i+1,j+1,⟨(by omega),(by omega),(by omega),((UM ha0 hai hij hL hP hc3.2 hc4).1),((UM ha0 hai hij hL hP hc3.2 hc4).2)⟩,(by omega),(G5 Z Z Z Z Z),fun _ h=>h⟩
  ·refine aZ<|aI ?_
   refine jT (fun(b:Int) (A2:Option Addr) (n2:Nat) (c2:Nat) (ac2:List Int)=>[(0, .slice A_u u.length c_u),(3, .slice A2 n2 c2),(4,I b),(5,I i),(6,I j)]) (fun(b:Int) (A2:Option Addr) (n2:Nat) (c2:Nat) (ac2:List Int)=>[(ri 3 A2 n2 c2 ac2)]) (fun(b:Int) (A2:Option Addr) (n2:Nat) (c2:Nat) (ac2:List Int)=>(a≤b)∧(b≤j)∧(n2=ac2.length)∧(ac2.length≤b)∧(fD u=ac2++fD (u.drop b.toNat))∧(b≤i→rJ u b (j-i)∧rF u b (j-i) (j-b))) (fun(b:Int) (A2:Option Addr) (n2:Nat) (c2:Nat) (ac2:List Int)=>(j-b).toNat) ?_ ?_
   ·exact⟨a,A1,n1,c1,acc,⟨(by omega),(by omega),(hn1),(hlu),(hfac),(fun _=>⟨hL,hP⟩)⟩,(G5 Z Z Z Z Z),fun _ h=>h⟩
   intro b A2 n2 c2 ac2 ⟨hb0,hb1,hn2,hlu2,hfac2,hLP⟩
   refine aG<|wq<|wm Z<|wm Z<|wy (vL Z Z)<|aA<|bM Z (fun hc5=> ?_) (fun hc5=> ?_)
   ·refine aJ<|aI<|wq<|wm Z<|wm Z<|wm Z<|wS Z Z<|wa (cB .i64 [j-i] underlying52 zs3 Z Z Z) ?_
    rintro _ _ ⟨g_2,rfl,rfl⟩
    refine wa (bD 1 Z underlying52 zb3 Z Z Z (rdr 0 Z) (by omega)) ?_
    rintro _ _ ⟨A_3,c_4,rfl,rfl⟩
    refine bO (v:= .slice A_3 (n2+1) c_4) Z<|wg Z<|aA<|aL<|wm Z<|wm Z<|wm Z<|wS Z Z<|wA Z Z<|wg Z<|aA ?_
    exact⟨b+(j-i),A_3,n2+1,c_4,ac2++([j-i]),⟨(by omega),(by omega),(by rw[List.length_append,hn2];rfl),(by rw[List.length_append,List.length_singleton];omega),(by rw[hfac2,aHe (by omega) hc5 hij hj (hLP hc5).1 (hLP hc5).2 hc3,List.append_assoc];rfl),(fun h=>YX (by omega) hij (hLP hc5).1 (hLP hc5).2 h)⟩,(by omega),(G5 Z Z Z Z Z),fun _ h=>h.sel [1] (by decide) Z⟩
   ·refine aZ ?_
    exact⟨b,A2,n2,c2,ac2,⟨(by omega),(by omega),(hn2),(hlu2),(hfac2)⟩,(by omega),(G3 Z Z Z),fun _ h=>h⟩
 ·refine aZ<|wq<|wm Z<|wg Z<|aA<|bA [0] 99 (by decide) Z ?_
  refine⟨_,Z,?_⟩
  have e:(u.drop a.toNat).length=0:=by rw[List.length_drop];omega
  rw[UA e,List.append_nil] at hfac
  rw[hfac]
  obtain rfl:=hn1
  exact⟨_,_,Z,Z⟩
end Go.Proofs.YtdbebmmhdefgdaaGreat

namespace Go.Pure
open Go Go.Eng
def aWi (c:Int) (l:List Int):Int:=((l.filter fun x=>decide (x=c)).length:Int)
def CntI (u m:List Int) (i:Int) (V:List Int):Prop:= ∀c:Int,0≤c→c<256→rd V c=aWi c (u.take i.toNat)-aWi c (m.take i.toNat)
section
variable {u m V:List Int} {i:Int}
end
theorem aRt {l:List (Int × Int)} {f:Int × Int→Int} {i:Int} (h0:0≤i) (h:i<l.length):rd (l.map f) i=f (rdp l i):=by
 unfold rd rdp
 rw[List.getD_eq_getElem?_getD,List.getD_eq_getElem?_getD,List.getElem?_map,List.getElem?_eq_getElem (by omega)]
 rfl
end Go.Pure

namespace Go.Proofs.YtdbebmmhdefgdaaGreat
open Go Go.Eng Go.Pure
open Tryz
set_option maxRecDepth 100000
theorem WJ {s:List Int} {k:Int} (h:k=(fD s).length):gK s (fD s) k=bws s:=by rw[h];rfl
set_option maxHeartbeats 1000000 in
theorem ZZ {w:World} {A_u:Option Addr} {n_u c_u:Nat} {u:List Int} (h_u:Rd w A_u n_u c_u 1 (ints .u8 u)) (bh_u:aN u) (hN:u.length≤100000):
  Ct Tryz.prog 104 #[.slice A_u n_u c_u] w.heap.size w [] (fun v R'=> ∃(lt:List (Int × Int)) (A:Option Addr) (c:Nat),v= .tuple #[.slice A lt.length c,I 0]∧lt.Perm (jD (bws u) (bws u).length)∧lt.Pairwise (qV (bws u))∧R'=[(ru 5 A lt.length c (lt.map (lastB (bws u))))]):=by
 obtain rfl:=h_u.lenI
 refine fn2 Tryz.func104 Z Z Z ?_
 have m_u:=h_u.max
 have hfl:=UB u
 refine wq<|wg Z<|wg Z<|aA<|aG<|wq<|wm Z<|wy (aR underlying22 Z)<|wy (Yl.f (dR Z Z) (by omega))<|aA<|aQ Z<|aJ<|aG ?_
 refine aL<|dK (R1:=[⟨22,1,none,0,0,[],false⟩]) (Sub.refl _) (fun _ h=>h.nil 22 1)<|wg Z<|aA<|wq<|wg Z<|aA<|aG<|wq<|wm Z<|wa (aD bCd Z (Ct.fresh (fun w hw=>YU ((h_u.c _) w hw) (by omega)))) ?_
 rintro _ _ ⟨_,rfl,A_1,c_2,rfl,rfl⟩
 refine wy (aR underlying52 Z)<|wm Z<|aA<|aI ?_
 refine nN (fun(k:Int) (A1:Option Addr) (n1:Nat) (c1:Nat) (vals:List Value) (a:Int)=>[(0, .slice A_u u.length c_u),(4, .slice A1 n1 c1),(5,I a),(16, .slice A_1 ((fD (u)).length) c_2),(17,I (((fD (u)).length:Nat):Int)),(18,I k)]) (fun(k:Int) (A1:Option Addr) (n1:Nat) (c1:Nat) (vals:List Value) (a:Int)=>[(ri 3 A_1 ((fD (u)).length) c_2 (fD (u))),⟨22,1,A1,n1,c1,vals,false⟩]) (fun(k:Int) (A1:Option Addr) (n1:Nat) (c1:Nat) (vals:List Value) (a:Int)=>(0≤k)∧(k≤(fD u).length)∧(n1=k.toNat)∧(SlW .u8 w vals (gK u (fD u) k))∧(a=ps (fD u) k)) (fun(k:Int) (A1:Option Addr) (n1:Nat) (c1:Nat) (vals:List Value) (a:Int)=>((fD u).length-k).toNat) ?_ ?_
 ·exact⟨0,none,0,0,[],0,⟨(by omega),(by omega),(Z),(jE _ _),(Z)⟩,(G6 Z Z Z Z Z Z),fun _ h=>h⟩
 intro k A1 n1 c1 vals a ⟨hk0,hk1,hn1,hsl,ha⟩
 refine wq<|wL Z Z<|aA<|aG<|bM Z (fun hc1=> ?_) (fun hc1=> ?_)
 ·have hps:=lJ (L:=fD u) hk0 (by omega)
  have hpl:=aZz u (k+1)
  have hnn:=LY (uG u) k
  have hrp:=uG u _ (bI (L:=fD u) hk0 (by omega))
  have hsl2:SlW .u8 w (vals++[.slice (jB A_u a.toNat c_u 1) ((a+rd (fD u) k).toNat-a.toNat) (c_u-a.toNat)]) (gK u (fD u) (k+1)):=by
   rw[BK hk0,←ha,show(rd (fD u) k).toNat=(a+rd (fD u) k).toNat-a.toNat by omega]
   exact hsl.snoc (h_u.cutI (by omega) (by omega)) (fun x hx=>fM (bh_u x (List.mem_of_mem_drop (List.mem_of_mem_take hx)))) (by rw[List.length_take,List.length_drop];omega)
  refine aJ<|aG<|aI<|wq<|wy (aH underlying52 sz3 Z Z (rdr 0 Z) (by omega) (by omega))<|wy (aX underlying3 Z Z (rdr 0 Z) (by omega) (by omega))<|wg Z<|aA<|wq<|wm Z<|wm Z<|wm Z<|wm Z ?_
  refine wm Z<|wA Z Z<|wy (aAn underlying22 sz5 Z Z Z (h_u.c _) (by omega) (by omega) (by omega))<|wa (nG [Value.slice (jB A_u (a).toNat c_u 1) ((a+(rd (fD (u)) k)).toNat-(a).toNat) (c_u-(a).toNat)] underlying23 wV Z Z Z Z) ?_
  rintro _ _ ⟨g_5,rfl,rfl⟩
  refine wa (rE 2 Z Z underlying23 aZm Z Z Z Z Z (rdr 0 Z) (by simp[Value.oneCell']) (by dsimp only;omega)) ?_
  rintro _ _ ⟨A_6,c_7,rfl,rfl⟩
  refine bO (v:= .slice A_6 (n1+1) c_7) Z<|wg Z<|aA<|aL<|wm Z<|wm Z<|wA Z Z<|wg Z<|aA<|aL<|wA Z Z<|wm Z<|aA ?_
  exact⟨k+1,A_6,n1+1,c_7,vals++([Value.slice (jB A_u (a).toNat c_u 1) ((a+(rd (fD (u)) k)).toNat-(a).toNat) (c_u-(a).toNat)]),a+(rd (fD (u)) k),⟨(by omega),(by omega),(by omega),(hsl2),(by rw[hps,ha])⟩,(by omega),(G6 Z Z Z Z Z Z),fun _ h=>h.sel [1,2] (by decide) Z⟩
 ·refine aZ<|wq<|wa (cB .u8 [] underlying22 zs5 Z Z Z) ?_
  rintro _ _ ⟨g_9,rfl,rfl⟩
  refine wg Z<|aA<|aG<|wq<|wm Z<|wa (aD bCc Z (Ct.fresh (fun w hw=>aJi ((rdr 2 Z) w hw) (hsl.c hw) (by rw[WJ (show k=(fD u).length by omega),pK,aUd];have:=UB u;omega)))) ?_
  rintro _ _ ⟨_,rfl,lt,A_11,c_12,rfl,hpt,hst,rfl⟩
  refine wy (aR underlying228 Z)<|wm Z<|aA<|aI ?_
  refine jT (fun(q:Int) (B1:Option Addr) (m1:Nat) (d1:Nat) (acc:List Int)=>[(4, .slice A1 n1 c1),(8, .slice B1 m1 d1),(37, .slice A_11 lt.length c_12),(38,I ((lt.length:Nat):Int)),(39,I q)]) (fun(q:Int) (B1:Option Addr) (m1:Nat) (d1:Nat) (acc:List Int)=>[⟨230,2,A_11,lt.length,c_12,prs lt,false⟩,(ru 5 B1 m1 d1 acc),(ri 3 A_1 ((fD (u)).length) c_2 (fD (u))),⟨22,1,A1,n1,c1,vals,false⟩]) (fun(q:Int) (B1:Option Addr) (m1:Nat) (d1:Nat) (acc:List Int)=>(0≤q)∧(q≤lt.length)∧(m1=acc.length)∧(acc.length=q.toNat)∧(acc=(lt.take q.toNat).map (lastB (gK u (fD u) k)))) (fun(q:Int) (B1:Option Addr) (m1:Nat) (d1:Nat) (acc:List Int)=>(lt.length-q).toNat) ?_ ?_
  ·exact⟨0,GG g_9,0,0,[],⟨(by omega),(by omega),(Z),(Z),(Z)⟩,(G5 Z Z Z Z Z),fun _ h=>h⟩
  intro q B1 m1 d1 acc ⟨hq0,hq1,hm1,haq,hacc⟩
  have hll:lt.length=u.length:=by rw[WJ (show k=(fD u).length by omega)] at hpt;exact EB hpt
  refine wq<|wL Z Z<|aA<|aG<|bM Z (fun hc2=> ?_) (fun hc2=> ?_)
  ·have ht:=yJ.1 (hpt.subset (lH (l:=lt) hq0 (by omega)))
   have htm:=ht.2.2
   have he0:=Int.emod_nonneg ((rdp lt q).2+(rdl (gK u (fD u) k) (rdp lt q).1).length-1) (show((rdl (gK u (fD u) k) (rdp lt q).1).length:Int)≠0 by omega)
   have he1:=Int.emod_lt_of_pos ((rdp lt q).2+(rdl (gK u (fD u) k) (rdp lt q).1).length-1) (show(0:Int)<(rdl (gK u (fD u) k) (rdp lt q).1).length by omega)
   refine aJ<|aG<|aI<|wq<|wy (wW underlying228 lU Z Z (rdr 0 Z) Z (by omega) (by omega))<|wy (aIv underlying230 Z lU Z (rdr 0 Z) (by omega) (by omega))<|wa (fA (sz:=2) aIn Z) ?_
   rintro _ _ ⟨g_15,rfl,rfl⟩
   refine bY (dQ (vs:=[I ((rdp lt q).1),I ((rdp lt q).2)]) 0 Z lU Z Z Z (by intro v hv;simp at hv;rcases hv with rfl|rfl<;>rfl) Z) ?_
   rintro _ _ rfl
   refine aA<|wq<|wm Z<|wy (dD (q:=0) (rdr 0 Z) underlying230 sz3 Z Z (Nat.le_of_ble_eq_true Z) (by decide) (by decide) Z)<|wy (aK (rdr 0 Z) underlying3 Z Z Z)<|wy (aH underlying23 fP Z Z (rdr 4 Z) (by first|exact ht.1|(have:=ht.2.1;rw[rO] at this;omega)) (by first|exact ht.1|(have:=ht.2.1;rw[rO] at this;omega))) ?_
   refine hsl.elim (i:=(rdp lt q).1) (by first|exact ht.1|exact ht.2.1) (by first|exact ht.1|exact ht.2.1) (fun A_16 c_17 hv_18 hr_19 hb_20 mhr_19=> ?_)
   refine wy (EE underlying22 Z Z Z (rdr 4 Z) hv_18)<|wg Z<|aA<|aL<|wm Z<|wm Z<|wy (dD (q:=1) (rdr 0 Z) underlying230 sz3 Z Z (Nat.le_of_ble_eq_true Z) (by decide) (by decide) Z)<|wy (aK (rdr 0 Z) underlying3 Z Z Z)<|wm Z<|wy (aR underlying22 Z)<|wA Z Z<|wS Z Z<|wm Z<|wy (aR underlying22 Z)<|wy (BI Z Z (by omega) (by omega)) ?_
   refine wy (aH underlying22 sz5 Z Z (hr_19.c _) (by omega) (by omega))<|wy (aX underlying5 Z Z (hr_19.c _) (by omega) (by omega))<|wa (cB .u8 [rd (rdl (gK u (fD u) k) ((rdp lt q).1)) (((((rdp lt q).2)+(((rdl (gK u (fD u) k) ((rdp lt q).1)).length:Nat):Int))-1)%(((rdl (gK u (fD u) k) ((rdp lt q).1)).length:Nat):Int))] underlying22 zs5 Z Z Z) ?_
   rintro _ _ ⟨g_22,rfl,rfl⟩
   refine wa (bD 3 Z underlying22 zb5 Z Z Z (rdr 0 Z) (by omega)) ?_
   rintro _ _ ⟨A_23,c_24,rfl,rfl⟩
   refine bO (v:= .slice A_23 (m1+1) c_24) Z<|wg Z<|aA<|aL<|wA Z Z<|wm Z<|aA ?_
   exact⟨q+1,A_23,m1+1,c_24,acc++([rd (rdl (gK u (fD u) k) ((rdp lt q).1)) (((((rdp lt q).2)+(((rdl (gK u (fD u) k) ((rdp lt q).1)).length:Nat):Int))-1)%(((rdl (gK u (fD u) k) ((rdp lt q).1)).length:Nat):Int))]),⟨(by omega),(by omega),(by rw[List.length_append,hm1];rfl),(by rw[List.length_append,haq,List.length_singleton];omega),(by rw[aJq hq0 (by omega),List.map_append,hacc];rfl)⟩,(by omega),(G5 Z Z Z Z Z),fun _ h=>h.sel [2,3,4,5] (by decide) Z⟩
  ·refine aZ<|wq<|wm Z<|wg Z<|wg Z<|aA<|bA [1] 99 (by decide) Z ?_
   refine⟨_,_,Z,Z,?_⟩
   have e:k=(fD u).length:=by omega
   rw[WJ e] at hpt hst hacc
   rw[List.take_of_length_le (by omega)] at hacc
   subst hacc
   obtain rfl:m1=lt.length:=by rw[hm1,List.length_map]
   exact⟨lt,_,_,Z,hpt,hst,Z⟩
end Go.Proofs.YtdbebmmhdefgdaaGreat

namespace Go.Pure
open Go Go.Eng
section
variable {p:List Int}
theorem sV {j:Int} (j0:0≤j): ∀(f:Nat) (E:List Bool) (k:Int),(hp:p.Perm (iota p.length))→E.length=p.length→0≤k→k<p.length→rdb E j=true→rdb (fV p f E k).2 j=true
 |0,E,k,_,_,_,_,h=>h
 | f+1,E,k,hp,hl,k0,hk,h=>by
  rw[fV]
  split
  ·exact h
  ·have hn:=aW.1 (hp.subset (bI (L:=p) k0 hk))
   refine sV j0 f _ _ hp (by rw[kH];exact hl) hn.1 hn.2 ?_
   rw[uZ k0 (by omega) j0]
   split
   ·rfl
   ·exact h
theorem QH (hp:p.Perm (iota p.length)) {f:Nat} {E:List Bool} {k:Int} (hl:E.length=p.length) (k0:0≤k) (hk:k<p.length) (hf:cntF E≤f):rdb (fV p f E k).2 k=true:=by
 by_cases h:rdb E k=true
 ·rw[rP h];exact h
 ·rw [EJ k0 (by omega) hf h]
  have hn:=aW.1 (hp.subset (bI (L:=p) k0 hk))
  exact sV k0 _ _ _ hp (by rw[kH];exact hl) hn.1 hn.2 (by rw[uZ k0 (by omega) k0,if_pos rfl])
theorem BC (hp:p.Perm (iota p.length)): ∀i:Nat,i≤p.length→ ∀j:Nat,j<i→rdb (iI p i).1 j=true
 |0,_,j,hj=>by omega
 | i+1,hi,j,hj=>by
  have hf:=kU hp i (by omega)
  have hc:cntF (iI p i).1≤p.length:=by have:=hf.2.2;omega
  rw[iI]
  rcases Nat.lt_or_ge j i with g|g
  ·exact sV (by omega) _ _ _ hp hf.1 (by omega) (by omega) (BC hp i (by omega) j g)
  ·obtain rfl:j=i:=by omega
   exact QH hp hf.1 (by omega) (by omega) hc
theorem aHp {E:List Bool} (h: ∀j:Nat,j<E.length→rdb E j=true):cntF E=0:=by
 unfold cntF
 rw[List.countP_eq_zero]
 intro b hb
 obtain⟨j,hj,rfl⟩:=List.mem_iff_getElem.1 hb
 have:=h j hj
 have e:rdb E (j:Int)=E[j]:=by unfold rdb;rw[Int.toNat_natCast,List.getD_eq_getElem?_getD,List.getElem?_eq_getElem hj];rfl
 rw[e] at this
 rw[this];simp
theorem UO (hp:p.Perm (iota p.length)):(fE p).flatten.length=p.length:=by
 have hf:=kU hp p.length (Nat.le_refl _)
 have:=aHp (E:=(iI p p.length).1) fun j hj=>BC hp p.length (Nat.le_refl _) j (by rw[hf.1] at hj;exact hj)
 unfold fE
 omega
theorem aIh (l:List Int) (cs:List (List Int)):(backL l cs).length=cs.flatten.length:=by
 unfold backL
 rw[List.length_flatten,List.map_map,List.length_flatten,List.map_reverse,List.sum_reverse]
 congr 2
 funext c
 exact lW l c
theorem aFq {l:List Int} {cs:List (List Int)} {x:Int} (h:x∈backL l cs): ∃y,y∈cs.flatten∧x=rd l y:=by
 unfold backL at h
 obtain⟨w,hw,hx⟩:=List.mem_flatten.1 h
 obtain⟨c,hc,rfl⟩:=List.mem_map.1 hw
 unfold kC at hx
 obtain⟨y,hy,rfl⟩:=List.mem_map.1 hx
 exact⟨y,List.mem_flatten.2 ⟨c,List.mem_reverse.1 hc,List.mem_reverse.1 hy⟩,rfl⟩
theorem aIi {l:List Int} (hl:aN l) (cs:List (List Int)):aN (backL l cs):=fun x hx=>by
 obtain⟨y,_,rfl⟩:=aFq hx
 exact hl.rd _
theorem aTv {cs:List (List Int)} {k:Int} (k0:0≤k) (hk:k<cs.length):rdl cs k∈cs:=by
 unfold rdl
 rw[List.getD_eq_getElem?_getD,List.getElem?_eq_getElem (by omega)]
 exact List.getElem_mem _
theorem aAb {l acc acc2:List Int} {cs:List (List Int)} {m kr:Nat} (hm:m=cs.length) (hkr:kr<m) (hacc:acc=(((cs.reverse).take kr).map (kC l)).flatten) (h2:acc2=acc++(((rdl cs ((m-1-kr:Nat):Int)).reverse).take (rdl cs ((m-1-kr:Nat):Int)).length).map (rd l)):acc2=(((cs.reverse).take (kr+1)).map (kC l)).flatten:=by
 rw[aAc (by omega),h2,hacc,List.take_of_length_le (l:=(rdl cs ((m-1-kr:Nat):Int)).reverse) (by rw[List.length_reverse];exact Nat.le_refl _),show((m-1-kr:Nat):Int)=(cs.length:Int)-1-kr by omega]
 rfl
theorem WH {l acc acc2 c:List Int} {kq:Nat} (hk:kq<c.length) (h:acc2=acc++((c.reverse).take kq).map (rd l)):acc2++[rd l (rd c ((c.length-1-kq:Nat):Int))]=acc++((c.reverse).take (kq+1)).map (rd l):=by
 rw[WI hk,←List.append_assoc,←h,show((c.length-1-kq:Nat):Int)=(c.length:Int)-1-kq by omega]
theorem aHj {p:List Int}:(fE p).length≤p.length:=IP p p.length
end
end Go.Pure

namespace Go.Proofs.YtdbebmmhdefgdaaGreat
open Go Go.Eng Go.Pure
open Tryz
set_option maxRecDepth 100000
theorem VT {B:Nat} {w0:World} {R:List Row} {A_s:Option Addr} {n_s c_s:Nat}:
  Ct Tryz.prog 185 #[.slice A_s n_s c_s] B w0 R (fun v R'=> ∃g,v= .func (.func 240) #[] #[.pointer (GG g)]∧R'=⟨232,1,GG g,1,1,[.slice A_s n_s c_s],false⟩::R):=by
 refine fn1 Tryz.func185 Z Z Z ?_
 refine wq<|wa (dV (sz:=1) Z Z) ?_
 rintro _ _ ⟨g,rfl,rfl⟩
 refine wg Z<|aA<|wq<|wy (kR Z Z)<|wg Z<|aA<|dL ?_
 exact⟨_,Z,g,Z,Z⟩
theorem VU {B:Nat} {w0:World} {R:List Row} {A_s:Option Addr} {n_s c_s:Nat}:
  Ct Tryz.prog 186 #[.slice A_s n_s c_s] B w0 R (fun v R'=> ∃g,v= .func (.func 241) #[] #[.pointer (GG g)]∧R'=⟨52,1,GG g,1,1,[.slice A_s n_s c_s],false⟩::R):=by
 refine fn1 Tryz.func186 Z Z Z ?_
 refine wq<|wa (dV (sz:=1) Z Z) ?_
 rintro _ _ ⟨g,rfl,rfl⟩
 refine wg Z<|aA<|wq<|wy (kR Z Z)<|wg Z<|aA<|dL ?_
 exact⟨_,Z,g,Z,Z⟩
set_option maxHeartbeats 2000000 in
theorem aAa {w:World} {A_u:Option Addr} {n_u c_u:Nat} {u:List Int} (h_u:Rd w A_u n_u c_u 1 (ints .u8 u)) (bh_u:aN u) (hN:u.length≤100000):
  Ct Tryz.prog 110 #[.slice A_u n_u c_u] w.heap.size w [] (fun v R'=> ∃A c,v= .tuple #[.slice A (backL u (fE (fsL u))).length c,I 0]∧R'=[(ru 5 A ((backL u (fE (fsL u))).length) c (backL u (fE (fsL u))))]):=by
 obtain rfl:=h_u.lenI
 refine fnV Tryz.func110 Z Z ?_
 have m_u:=h_u.max
 have hfp:=aNo bh_u
 have hfl:=vH u
 have hcl:=aOv hfp
 have hcf:=aHj (p:=fsL u)
 refine gD ?_
 refine aL<|wa (dV (sz:=1) Z Z) ?_
 rintro _ _ ⟨g_1,rfl,rfl⟩
 refine wg Z<|wg Z<|aA ?_
 refine gD ?_
 refine wq<|wy (aK (rdr 0 Z) underlying22 Z Z Z)<|wy (aR underlying22 Z)<|wy (Yl.f (dR Z Z) (by omega))<|aA<|aQ Z<|aJ ?_
 refine gD ?_
 refine aL<|wy (aK (rdr 0 Z) underlying22 Z Z Z)<|wa (aD bBz Z (Ct.fresh (fun w hw=>aTb ((h_u.c _) w hw) bh_u (by omega)))) ?_
 rintro _ _ ⟨_,rfl,A_3,c_4,rfl,rfl⟩
 refine wa (aD bCa Z (Ct.fresh (fun w hw=>aHi ((rdr 0 Z) w hw) hfp (by omega)))) ?_
 rintro _ _ ⟨_,rfl,A_6,c_7,vals_8,Rs_9,rfl,hsl_10,rfl⟩
 have hn_hsl_10:=hsl_10.1
 refine dK (R1:=(⟨52,1,A_6,vals_8.length,c_7,vals_8,false⟩::(ri 3 A_3 ((fsL u).length) c_4 (fsL u))::⟨22,1,(GG g_1),1,1,[.slice A_u u.length c_u],false⟩::Rs_9)) (Sub.refl _) (fun _ h=>Hp.toTail0 (X:=[_]) (Y:=[_,_]) h)<|wm Z<|wX Z Z<|wX Z Z<|wg Z<|wg Z<|aA ?_
 refine gD ?_
 refine aL<|wa (cB .u8 [] underlying22 zs5 Z Z Z) ?_
 rintro _ _ ⟨g_13,rfl,rfl⟩
 refine wa (fA (sz:=1) aZi Z) ?_
 rintro _ _ ⟨g_14,rfl,rfl⟩
 refine bY (bF 0 Z Z Z fP Z Z Z Z (Nat.le_of_ble_eq_true Z)) ?_
 rintro _ _ rfl
 refine aA ?_
 refine aAt ?_
 refine gD ?_
 refine aL<|wm Z<|wa (aD bBy Z (VT)) ?_
 rintro _ _ ⟨g_15,rfl,rfl⟩
 refine aA ?_
 refine DD ?_
 refine aDz Z bBl (aPt (A:=A_6) (c:=c_7) (xs:=vals_8) (by have:=hsl_10.1;omega)) Z (fun _=>Z) Gd.refl (fun(kr:Nat) (A1:Option Addr) (n1:Nat) (c1:Nat) (acc:List Int)=>(⟨232,1,(GG g_15),1,1,[.slice A_6 vals_8.length c_7],false⟩::⟨22,1,(GG g_14),1,1,[.slice A1 n1 c1],false⟩::(ru 5 A1 n1 c1 acc)::⟨52,1,A_6,vals_8.length,c_7,vals_8,false⟩::(ri 3 A_3 ((fsL u).length) c_4 (fsL u))::⟨22,1,(GG g_1),1,1,[.slice A_u u.length c_u],false⟩::Rs_9)) (fun(kr:Nat) (A1:Option Addr) (n1:Nat) (c1:Nat) (acc:List Int)=>(n1=acc.length)∧(acc=(((fE (fsL u)).reverse.take kr).map (kC u)).flatten)) ?_ ?_ ?_ ?_
 ·exact⟨GG g_13,0,0,[],⟨(Z),(Z)⟩,fun _ h=>h⟩
 ·intro kr A1 n1 c1 acc w ⟨hn1,hacc⟩ hw
  exact⟨(rdr 0 Z) w hw,(rdr 3 Z) w hw⟩
 ·intro lr kr A1 n1 c1 acc WW1 hkr ⟨hn1,hacc⟩ hbW1
  have hal:acc.length≤u.length:=by rw[hacc];exact Nat.le_trans TT (by omega)
  obtain⟨A_17,c_18,hv_19,hr_20⟩:=hsl_10.at (i:=((vals_8.length-1-kr:Nat):Int)) (by omega) (by have:=hsl_10.1;omega)
  have he_21:vals_8[vals_8.length-1-kr]?.getD undef= .slice A_17 (rdl (fE (fsL u)) ((vals_8.length-1-kr:Nat):Int)).length c_18:=by
   rw[Int.toNat_natCast] at hv_19
   rw[hv_19];rfl
  refine bDm (d:=24) (v:= .slice A_17 (rdl (fE (fsL u)) ((vals_8.length-1-kr:Nat):Int)).length c_18) (congrArg some he_21) ?_
  have hcm:rdl (fE (fsL u)) ((vals_8.length-1-kr:Nat):Int)∈fE (fsL u):=aTv (by omega) (by have:=hsl_10.1;omega)
  have hcl2:(rdl (fE (fsL u)) ((vals_8.length-1-kr:Nat):Int)).length≤u.length:=by have:=List.Sublist.length_le (List.sublist_flatten_of_mem hcm);omega
  refine aL<|wg Z<|aA ?_
  intro WW13 hbW13 hlW13
  refine aI<|wq<|wm Z<|wa (aD aWb Z (VU)) ?_
  rintro _ _ ⟨g_22,rfl,rfl⟩
  refine aA<|aI ?_
  refine aJa Z aVv (JF (A:=A_17) (c:=c_18) (zs:=rdl (fE (fsL u)) ((vals_8.length-1-kr:Nat):Int)) (by omega)) Z (fun _=>Z) ⟨_,hlW13.choose_spec⟩ (fun(kq:Nat) (A2:Option Addr) (n2:Nat) (c2:Nat) (acc2:List Int)=>(⟨52,1,(GG g_22),1,1,[.slice A_17 ((rdl (fE (fsL u)) ((vals_8.length-1-kr:Nat):Int)).length) c_18],false⟩::⟨232,1,(GG g_15),1,1,[.slice A_6 vals_8.length c_7],false⟩::⟨22,1,(GG g_14),1,1,[.slice A2 n2 c2],false⟩::(ru 5 A2 n2 c2 acc2)::⟨52,1,A_6,vals_8.length,c_7,vals_8,false⟩::(ri 3 A_3 ((fsL u).length) c_4 (fsL u))::⟨22,1,(GG g_1),1,1,[.slice A_u u.length c_u],false⟩::Rs_9)) (fun(kq:Nat) (A2:Option Addr) (n2:Nat) (c2:Nat) (acc2:List Int)=>(n2=acc2.length)∧(acc2=acc++((rdl (fE (fsL u)) ((vals_8.length-1-kr:Nat):Int)).reverse.take kq).map (rd u))) ?_ ?_ ?_ ?_
  ·exact⟨A1,n1,c1,acc,⟨(hn1),(by rw[List.take_zero];simp)⟩,fun _ h=>h⟩
  ·intro kq A2 n2 c2 acc2 w ⟨hn2,hacc2⟩ hw
   exact⟨(rdr 0 Z) w hw,(fun _ h=>hr_20 _ _ _ (h.right (R':=[_,_,_,_,_,_,_]))) w hw⟩
  ·intro lr kq A2 n2 c2 acc2 WW2 hkq ⟨hn2,hacc2⟩ hbW2
   have hel:=aDc hfp _ hcm _ (bI (L:=rdl (fE (fsL u)) ((vals_8.length-1-kr:Nat):Int)) (k:=(((rdl (fE (fsL u)) ((vals_8.length-1-kr:Nat):Int)).length-1-kq:Nat):Int)) (by omega) (by omega))
   have hal2:acc2.length≤acc.length+(rdl (fE (fsL u)) ((vals_8.length-1-kr:Nat):Int)).length:=by rw[hacc2,List.length_append,List.length_map,List.length_take,List.length_reverse];omega
   refine aL<|wg Z<|aA ?_
   intro WW23 hbW23 hlW23
   refine aI<|bT mixed<|wD 0 Z (aK (rdr 2 Z) underlying22 Z Z Z)<|wD 1 Z (aK (rdr 6 Z) underlying22 Z Z Z)<|wD 2 Z (aM Z)<|wD 3 Z (aH underlying22 sz5 Z Z (h_u.cb (hbW13.trans hbW23) _) (by omega) (by omega))<|wD 4 Z (aX underlying5 Z Z (h_u.cb (hbW13.trans hbW23) _) (by omega) (by omega))<|fO 5 Z (by kernel_rfl) Z (cB .u8 [rd u (rd (rdl (fE (fsL u)) ((vals_8.length-1-kr:Nat):Int)) (((rdl (fE (fsL u)) ((vals_8.length-1-kr:Nat):Int)).length-1-kq:Nat):Int))] underlying22 zs5 Z Z Z) ?_
   rintro _ _ ⟨g_25,rfl,rfl⟩
   refine⟨.inr fun _ h=>h.right (R':=[_]),?_⟩
   refine fO 6 Z (by kernel_rfl) Z (bD 4 Z underlying22 zb5 Z Z Z (rdr 0 Z) (by omega)) ?_
   rintro _ _ ⟨A_26,c_27,rfl,rfl⟩
   refine⟨.inl (by kernel_rfl),?_⟩
   refine EI (v:= .slice A_26 (n2+1) c_27) Z<|qJ 7 Z (by kernel_rfl) (bF 3 Z Z Z fP Z Z Z Z (Nat.le_of_ble_eq_true Z)) ?_
   rintro _ _ rfl
   refine⟨.inl (by kernel_rfl),?_⟩
   refine bP (by kernel_rfl) ?_
   exact⟨A_26,n2+1,c_27,acc2++([rd u (rd (rdl (fE (fsL u)) ((vals_8.length-1-kr:Nat):Int)) (((rdl (fE (fsL u)) ((vals_8.length-1-kr:Nat):Int)).length-1-kq:Nat):Int))]),⟨(by rw[List.length_append,hn2];rfl),(WH hkq hacc2)⟩,fun _=>fun _ h=>h.selR (F:=[_,_,_,_,_,_,_,_]) (F':=[_,_,_,_,_,_,_]) [1,2,3,4,5,6,7] (by decide) Z⟩
  intro A2 n2 c2 acc2 ⟨hn2,hacc2⟩
  exact⟨A2,n2,c2,acc2,⟨(hn2),(aAb hsl_10.1 hkr hacc hacc2)⟩,fun _=>fun _ h=>h.selR (F:=[_,_,_,_,_,_,_]) (F':=[_,_,_,_,_,_]) [1,2,3,4,5,6] (by decide) Z⟩
 intro WW15 DW1 A1 n1 c1 acc ⟨hn1,hacc⟩ hbW15 hGW15
 have hvl:=hsl_10.1
 refine aAv ?_
 refine aQn ?_
 refine v_w ?_
 refine wq<|wy (aK (rdr 1 Z) underlying22 Z Z Z)<|wg Z<|wg Z<|aA<|bX (R1:=[(ru 5 A1 n1 c1 acc)]) (fun _ h=>(h.selR (F:=[_,_,_,_,_,_]) (F':=[_]) [2] (by decide) Z).left (X:=[_])) ?_
 refine aNs Z hGW15 ⟨_,_,Z,Z,?_⟩
 rw[List.take_of_length_le (by rw[List.length_reverse];omega)] at hacc
 obtain rfl:acc=backL u (fE (fsL u)):=hacc
 obtain rfl:=hn1
 exact⟨_,_,Z,Z⟩
end Go.Proofs.YtdbebmmhdefgdaaGreat

namespace Go.Proofs.YtdbebmmhdefgdaaGreat
open Go Go.Eng Go.Pure
open Tryz
set_option maxRecDepth 100000
set_option maxHeartbeats 800000 in
theorem aYr {w:World} {A_u:Option Addr} {n_u c_u:Nat} {u:List Int} {A_a:Option Addr} {n_a c_a:Nat} {a:List Int} (h_u:Rd w A_u n_u c_u 1 (ints .u8 u)) (h_a:Rd w A_a n_a c_a 1 (ints .i64 a)) (hp:a.Perm (iota u.length)) (hN:u.length≤1000000):
  Ct Tryz.prog 124 #[.slice A_u n_u c_u, .slice A_a n_a c_a] w.heap.size w [] (fun v R'=> ∃A c,v= .tuple #[.slice A (ofL u a).length c,I (zat a), .bool true]∧R'=[(ru 5 A ((ofL u a).length) c (ofL u a))]):=by
 obtain rfl:=h_u.lenI
 obtain rfl:=h_a.lenI
 refine fn3 Tryz.func124 Z Z Z ?_
 have m_u:=h_u.max
 have m_a:=h_a.max
 have hal0:a.length=u.length:=by rw[hp.length_eq,bE]
 have hnd:a.Nodup:=hp.symm.nodup (eT _)
 have hpa:a.Perm (iota a.length):=by rw[hal0];exact hp
 refine wq<|wg Z<|wg Z<|wg Z<|aA<|aG<|wq<|wm Z<|wy (aR underlying52 Z)<|wm Z<|wy (aR underlying22 Z)<|wy (Yl.f (iT Z Z) (by omega))<|wm Z ?_
 refine aB Z Z<|wm Z<|aB Z Z<|wa (aD aVz Z (Ct.quiet (fun w hw=>aKp ((h_a.c _) w hw) hpa (by omega)))) ?_
 rintro _ _ ⟨rfl,rfl⟩
 refine aB Z Z<|wy (dH Z)<|wy (aP Z Z)<|aA<|aQ Z<|aJ<|wq<|wa (cB .u8 [] underlying22 zs5 Z Z Z) ?_
 rintro _ _ ⟨g_2,rfl,rfl⟩
 refine wg Z<|aA<|aG<|wq<|wm Z<|wy (aR underlying22 Z)<|wy (dR Z Z)<|aA<|bM Z (fun hc1=> ?_) (fun hc1=> ?_)
 ·refine aL<|wm Z<|wm Z<|wm Z<|wy (aR underlying22 Z)<|wS Z Z<|wy (aH underlying22 sz5 Z Z (h_u.c _) (by omega) (by omega))<|wy (aX underlying5 Z Z (h_u.c _) (by omega) (by omega))<|wa (cB .u8 [rd u (((u.length:Nat):Int)-1)] underlying22 zs5 Z Z Z) ?_
  rintro _ _ ⟨g_5,rfl,rfl⟩
  refine wa (bD 1 Z underlying22 zb5 Z Z Z (rdr 0 Z) (by omega)) ?_
  rintro _ _ ⟨A_6,c_7,rfl,rfl⟩
  refine bO (v:= .slice A_6 (0+1) c_7) Z<|wg Z<|aA<|aG<|wq<|wm Z<|wy (aR underlying52 Z)<|wm Z<|aA<|aI ?_
  refine nN (fun(i:Int) (A1:Option Addr) (n1:Nat) (c1:Nat) (acc:List Int) (m:Int)=>[(0, .slice A_u u.length c_u),(4, .slice A1 n1 c1),(5,I m),(32, .slice A_a a.length c_a),(33,I ((a.length:Nat):Int)),(34,I i)]) (fun(i:Int) (A1:Option Addr) (n1:Nat) (c1:Nat) (acc:List Int) (m:Int)=>[(ru 5 (GG g_5) 1 1 ([rd u (((u.length:Nat):Int)-1)])),(ru 5 A1 n1 c1 acc)]) (fun(i:Int) (A1:Option Addr) (n1:Nat) (c1:Nat) (acc:List Int) (m:Int)=>(0≤i)∧(i≤a.length)∧(n1=acc.length)∧(acc=(if 0<u.length then [rd u (u.length-1)] else [])++ofT u (a.take i.toNat))∧(m=zat (a.take i.toNat))) (fun(i:Int) (A1:Option Addr) (n1:Nat) (c1:Nat) (acc:List Int) (m:Int)=>(a.length-i).toNat) ?_ ?_
  ·exact⟨0,A_6,0+1,c_7,([])++([rd u (((u.length:Nat):Int)-1)]),0,⟨(by omega),(by omega),(by first|rfl|simp),(by first|(rw[if_pos (by omega)];rfl)|(rw[if_neg (by omega)];rfl)),(Z)⟩,(G6 Z Z Z Z Z Z),fun _ h=>h⟩
  intro i A1 n1 c1 acc m ⟨hi0,hi1,hn1,hacc,hm⟩
  have hal:acc.length≤i.toNat+1:=by
   have h1:=aCf u (a.take i.toNat)
   rw[List.length_take] at h1
   rw[hacc,List.length_append]
   split<;>simp only[List.length_cons,List.length_nil]<;>omega
  have hai:i<a.length→0≤rd a i∧rd a i<u.length:=fun h=>aW.1 (hp.subset (bI hi0 h))
  refine wq<|wL Z Z<|aA<|aG<|bM Z (fun hc2=> ?_) (fun hc2=> ?_)
  ·have hai2:=hai (by omega)
   refine aJ<|aG<|aI<|wq<|wm Z<|wy (aH underlying52 sz3 Z Z (h_a.c _) (by omega) (by omega))<|wy (aX underlying3 Z Z (h_a.c _) (by omega) (by omega))<|wg Z<|wg Z<|aA<|aG<|wq<|wm Z ?_
   refine wy (dI Z Z)<|aA<|bM Z (fun hc3=> ?_) (fun hc3=> ?_)
   ·refine wq<|wm Z<|wA Z Z<|wg Z<|aA<|aZ<|aL<|wA Z Z<|wm Z<|aA ?_
    exact⟨i+1,A1,n1,c1,acc,i+1,⟨(by omega),(by omega),(hn1),(aCe hi0 (by omega) hacc (by assumption)),(aAm hnd hi0 (by omega) (by assumption))⟩,(by omega),(G6 Z Z Z Z Z Z),fun _ h=>h⟩
   ·refine aJ<|aL<|wm Z<|wm Z<|wm Z<|wS Z Z<|wy (aH underlying22 sz5 Z Z (h_u.c _) (by omega) (by omega))<|wy (aX underlying5 Z Z (h_u.c _) (by omega) (by omega))<|wa (cB .u8 [rd u ((rd a i)-1)] underlying22 zs5 Z Z Z) ?_
    rintro _ _ ⟨g_9,rfl,rfl⟩
    refine wa (bD 2 Z underlying22 zb5 Z Z Z (rdr 0 Z) (by omega)) ?_
    rintro _ _ ⟨A_10,c_11,rfl,rfl⟩
    refine bO (v:= .slice A_10 (n1+1) c_11) Z<|wg Z<|aA<|aL<|wA Z Z<|wm Z<|aA ?_
    exact⟨i+1,A_10,n1+1,c_11,acc++([rd u ((rd a i)-1)]),m,⟨(by omega),(by omega),(by rw[List.length_append,hn1];rfl),(aMc hi0 (by omega) hacc (by assumption)),(aIo hnd hi0 (by omega) hm (by assumption))⟩,(by omega),(G6 Z Z Z Z Z Z),fun _ h=>h.sel [1,2] (by decide) Z⟩
  ·refine aZ<|wq<|wm Z<|wm Z<|wg Z<|wg Z<|wg Z<|aA<|bA [1] 99 (by decide) Z ?_
   refine⟨_,_,_,Z,Z,Z,?_⟩
   have hte:a.take i.toNat=a:=List.take_of_length_le (by omega)
   rw[hte] at hacc hm
   obtain rfl:acc=ofL u a:=hacc
   obtain rfl:=hn1
   subst hm
   exact⟨_,_,Z,Z⟩
 ·refine aJ<|aG<|wq<|wm Z<|wy (aR underlying52 Z)<|wm Z<|aA<|aI ?_
  refine nN (fun(i:Int) (A1:Option Addr) (n1:Nat) (c1:Nat) (acc:List Int) (m:Int)=>[(0, .slice A_u u.length c_u),(4, .slice A1 n1 c1),(5,I m),(32, .slice A_a a.length c_a),(33,I ((a.length:Nat):Int)),(34,I i)]) (fun(i:Int) (A1:Option Addr) (n1:Nat) (c1:Nat) (acc:List Int) (m:Int)=>[(ru 5 A1 n1 c1 acc)]) (fun(i:Int) (A1:Option Addr) (n1:Nat) (c1:Nat) (acc:List Int) (m:Int)=>(0≤i)∧(i≤a.length)∧(n1=acc.length)∧(acc=(if 0<u.length then [rd u (u.length-1)] else [])++ofT u (a.take i.toNat))∧(m=zat (a.take i.toNat))) (fun(i:Int) (A1:Option Addr) (n1:Nat) (c1:Nat) (acc:List Int) (m:Int)=>(a.length-i).toNat) ?_ ?_
  ·exact⟨0,GG g_2,0,0,[],0,⟨(by omega),(by omega),(by first|rfl|simp),(by first|(rw[if_pos (by omega)];rfl)|(rw[if_neg (by omega)];rfl)),(Z)⟩,(G6 Z Z Z Z Z Z),fun _ h=>h⟩
  intro i A1 n1 c1 acc m ⟨hi0,hi1,hn1,hacc,hm⟩
  have hal:acc.length≤i.toNat+1:=by
   have h1:=aCf u (a.take i.toNat)
   rw[List.length_take] at h1
   rw[hacc,List.length_append]
   split<;>simp only[List.length_cons,List.length_nil]<;>omega
  have hai:i<a.length→0≤rd a i∧rd a i<u.length:=fun h=>aW.1 (hp.subset (bI hi0 h))
  refine wq<|wL Z Z<|aA<|aG<|bM Z (fun hc4=> ?_) (fun hc4=> ?_)
  ·have hai2:=hai (by omega)
   refine aJ<|aG<|aI<|wq<|wm Z<|wy (aH underlying52 sz3 Z Z (h_a.c _) (by omega) (by omega))<|wy (aX underlying3 Z Z (h_a.c _) (by omega) (by omega))<|wg Z<|wg Z<|aA<|aG<|wq<|wm Z ?_
   refine wy (dI Z Z)<|aA<|bM Z (fun hc5=> ?_) (fun hc5=> ?_)
   ·refine wq<|wm Z<|wA Z Z<|wg Z<|aA<|aZ<|aL<|wA Z Z<|wm Z<|aA ?_
    exact⟨i+1,A1,n1,c1,acc,i+1,⟨(by omega),(by omega),(hn1),(aCe hi0 (by omega) hacc (by assumption)),(aAm hnd hi0 (by omega) (by assumption))⟩,(by omega),(G6 Z Z Z Z Z Z),fun _ h=>h⟩
   ·refine aJ<|aL<|wm Z<|wm Z<|wm Z<|wS Z Z<|wy (aH underlying22 sz5 Z Z (h_u.c _) (by omega) (by omega))<|wy (aX underlying5 Z Z (h_u.c _) (by omega) (by omega))<|wa (cB .u8 [rd u ((rd a i)-1)] underlying22 zs5 Z Z Z) ?_
    rintro _ _ ⟨g_13,rfl,rfl⟩
    refine wa (bD 1 Z underlying22 zb5 Z Z Z (rdr 0 Z) (by omega)) ?_
    rintro _ _ ⟨A_14,c_15,rfl,rfl⟩
    refine bO (v:= .slice A_14 (n1+1) c_15) Z<|wg Z<|aA<|aL<|wA Z Z<|wm Z<|aA ?_
    exact⟨i+1,A_14,n1+1,c_15,acc++([rd u ((rd a i)-1)]),m,⟨(by omega),(by omega),(by rw[List.length_append,hn1];rfl),(aMc hi0 (by omega) hacc (by assumption)),(aIo hnd hi0 (by omega) hm (by assumption))⟩,(by omega),(G6 Z Z Z Z Z Z),fun _ h=>h.sel [1] (by decide) Z⟩
  ·refine aZ<|wq<|wm Z<|wm Z<|wg Z<|wg Z<|wg Z<|aA<|bA [0] 99 (by decide) Z ?_
   refine⟨_,_,_,Z,Z,Z,?_⟩
   have hte:a.take i.toNat=a:=List.take_of_length_le (by omega)
   rw[hte] at hacc hm
   obtain rfl:acc=ofL u a:=hacc
   obtain rfl:=hn1
   subst hm
   exact⟨_,_,Z,Z⟩
set_option maxHeartbeats 800000 in
theorem aGp {w:World} {A_u:Option Addr} {n_u c_u:Nat} {u:List Int} (h_u:Rd w A_u n_u c_u 1 (ints .u8 u)) (bh_u:aN u) (hN:u.length≤1000000):
  Ct Tryz.prog 182 #[.slice A_u n_u c_u] w.heap.size w [] (fun v R'=> ∃A c,v= .slice A (fsL u).length c∧R'=[(ri 3 A ((fsL u).length) c (fsL u))]):=by
 obtain rfl:=h_u.lenI
 refine fn1 Tryz.func182 Z Z Z ?_
 have m_u:=h_u.max
 refine wq<|wg Z<|aA<|wq<|wm Z<|wy (aR underlying22 Z)<|wa (dF underlying52 zb3 Z Z (by omega) (by omega) (by omega)) ?_
 rintro _ _ ⟨g_1,rfl,rfl⟩
 refine bO (v:= .slice (GG g_1) u.length u.length) Z<|wg Z<|aA<|wq<|wm Z<|wy (aR underlying22 Z)<|wa (dF underlying52 zb3 Z Z (by omega) (by omega) (by omega)) ?_
 rintro _ _ ⟨g_2,rfl,rfl⟩
 refine bO (v:= .slice (GG g_2) u.length u.length) Z<|wg Z<|aA<|aG<|wq<|wm Z<|wy (aR underlying22 Z)<|wm Z<|aA<|aI ?_
 refine gF (fun(i:Int) (V:List Int) (K:List Int)=>[(3, .slice (GG g_1) u.length u.length),(4, .slice (GG g_2) u.length u.length),(15, .slice A_u u.length c_u),(16,I ((u.length:Nat):Int)),(17,I i)]) (fun(i:Int) (V:List Int) (K:List Int)=>[(ri 3 (GG g_2) u.length u.length K),(ri 3 (GG g_1) u.length u.length V)]) (fun(i:Int) (V:List Int) (K:List Int)=>(0≤i)∧(i≤u.length)∧(V.length=u.length)∧(K.length=u.length)∧(∀j:Int,0≤j→j<i→rd V j=j)∧(∀j:Int,0≤j→j<i→rd K j=rd u j)) (fun(i:Int) (V:List Int) (K:List Int)=>(u.length-i).toNat) ?_ ?_
 ·exact⟨0,List.replicate u.length (0:Int),List.replicate u.length (0:Int),⟨(by omega),(by omega),(by rw[List.length_replicate]),(by rw[List.length_replicate]),(fun j h1 h2=>by omega),(fun j h1 h2=>by omega)⟩,(G5 rfl rfl rfl rfl rfl),fun _ h=>h⟩
 intro i V K ⟨hi0,hi1,hVl,hKl,hV,hK⟩
 refine wq<|wL Z Z<|aA<|aG<|bM Z (fun hc1=> ?_) (fun hc1=> ?_)
 ·have hbi:=bh_u.rd i
  refine aJ<|aG<|aI<|wq<|wm Z<|wy (aH underlying22 sz5 Z Z (h_u.c _) (by omega) (by omega))<|wy (aX underlying5 Z Z (h_u.c _) (by omega) (by omega))<|wg Z<|wg Z<|aA<|aL<|wm Z<|wm Z<|wm Z ?_
  refine wm Z<|wm Z<|wm Z<|wy (iY underlying5 underlying3 Z (by omega))<|wy (aH underlying52 sz3 Z Z (rdr 1 Z) (by omega) (by omega))<|bY (bG 1 Z sz3 Z Z (by omega) (by omega)) ?_
  rintro _ _ rfl
  refine wy (aH underlying52 sz3 Z Z (rdr 0 Z) (by omega) (by omega))<|bY (bG 0 Z sz3 Z Z (by omega) (by omega)) ?_
  rintro _ _ rfl
  refine aA<|aL<|wA Z Z<|wm Z<|aA ?_
  exact⟨i+1,upd V i i,upd K i (rd u i),⟨(by omega),(by omega),(by rw[aV];exact hVl),(by rw[aV];exact hKl),(eH (f:=fun j=>j) hi0 (by omega) hV Z),(eH (f:=fun j=>rd u j) hi0 (by omega) hK Z)⟩,(by omega),(G5 Z Z Z Z Z),fun _ h=>h⟩
 ·obtain rfl:V=iota u.length:=bH (by rw[bE];omega) fun j h0 h1=>by rw[vB h0 (by omega)];exact hV j h0 (by omega)
  obtain rfl:u=K:=(bH (by omega) fun j h0 h1=>hK j h0 (by omega):K=u).symm
  refine aZ<|wq<|wm Z<|wm Z<|wa (aD IL Z (Ct.fresh (fun w hw=>rY ((rdr 1 Z) w hw) ((rdr 0 Z) w hw) (by omega) bh_u (fun i hi=>aW.1 hi) (by rw[bE];omega)))) ?_
  rintro _ _ ⟨_,rfl,A_3,c_4,rfl,rfl⟩
  refine wm Z<|wX Z Z<|wX Z Z<|wg Z<|aA<|wq<|wm Z<|wa (aD aOn Z (Ct.fresh (fun w hw=>OH ((rdr 0 Z) w hw) (aBx bh_u) (by rw[zZ bh_u];omega)))) ?_
  rintro _ _ ⟨_,rfl,A_5,c_6,inv,rfl,hl_inv,hq_inv,rfl⟩
  refine wm Z<|wX Z Z<|wX Z Z<|wg Z<|wg Z<|aA<|wq<|wm Z<|wg Z<|aA<|bA [0] 99 (by decide) Z ?_
  refine⟨_,Z,?_⟩
  obtain rfl:inv=fsL u:=aVh bh_u hl_inv hq_inv
  have el:(bW (iota u.length) u (256:Int).toNat).length=(fsL u).length:=by rw[zZ bh_u,vH]
  rw[el]
  exact⟨_,_,Z,Z⟩
theorem aDm {u S:List Int} {m k:Int} (k0:0≤k) (hk:k<u.length) (hl:S.length=u.length) (h: ∀j:Int,k<j→j<u.length→rd S j=rd (pM u m) j) {x:Int} (hx:x=rd u (ixr m (iW u m (u.length-1-k).toNat))): ∀j:Int,k-1<j→j<u.length→rd (upd S k x) j=rd (pM u m) j:=by
 intro j h1 h2
 rw[fT k0 (by omega) (by omega)]
 split
 ·rename_i e;rw[e,RX k0 hk,hx]
 ·exact h j (by omega) h2
theorem aDn {u:List Int} {m k r i:Int} (k0:0≤k) (hk:k<u.length) (hr:r=iW u m (u.length-1-k).toNat) (hi:i=ixr m r):lfC u i+1=iW u m (u.length-1-(k-1)).toNat:=by
 rw[show((u.length:Int)-1-(k-1)).toNat=(u.length-1-k).toNat+1 by omega,iW,hi,hr]
theorem aUi {u S:List Int} {m:Int} (hl:S.length=u.length) (h: ∀j:Int,-1<j→j<u.length→rd S j=rd (pM u m) j):S=pM u m:=bH (by rw[hl,vK]) fun j h0 h1=>h j (by omega) (by omega)
theorem aCa {u:List Int} {m k r:Int} (k0:0≤k) (hk:k<u.length) (h: ∀t:Nat,(t:Int)<u.length-1-k→iW u m t≠m) (hr:r=iW u m (u.length-1-k).toNat) (hne:r≠m): ∀t:Nat,(t:Int)<u.length-1-(k-1)→iW u m t≠m:=by
 intro t ht
 rcases Int.lt_or_le t (u.length-1-k) with g|g
 ·exact h t g
 ·rw[show t=(u.length-1-k).toNat by omega,←hr];exact hne
set_option maxHeartbeats 1000000 in
theorem aPr {w:World} {A_u:Option Addr} {n_u c_u:Nat} {u:List Int} {m:Int} (h_u:Rd w A_u n_u c_u 1 (ints .u8 u)) (bh_u:aN u) (hok:aZg u m) (hN:u.length≤100000):
  Ct Tryz.prog 109 #[.slice A_u n_u c_u,I m] w.heap.size w [] (fun v R'=> ∃A c,v= .tuple #[.slice A u.length c,I 0]∧R'=[(ru 5 A u.length c (pM u m))]):=by
 obtain rfl:=h_u.lenI
 refine fn2 Tryz.func109 Z Z Z ?_
 have m_u:=h_u.max
 have hfl:=vH u
 have hpre:=hok.1
 have hp1:=hok.1.1
 have hp2:=hok.1.2
 have hon0:=hok.2.1
 refine wq<|wg Z<|wg Z<|aA<|wq<|wm Z<|wy (aR underlying22 Z)<|wg Z<|aA<|aG<|wq<|wm Z ?_
 refine wy (Yl.f (dR Z Z) (by omega))<|wm Z<|aB Z Z<|wm Z<|aB Z Z<|wm Z<|aB Z Z<|wy (sQ Z Z)<|aB Z Z<|wy (Yl.f (fG Z Z) (by omega))<|wy (aP Z Z)<|wm Z<|aB Z Z<|wm Z<|aB Z Z ?_
 refine wm Z<|aB Z Z<|wy (Yl.f (dR Z Z) (by omega))<|wy (aP Z Z)<|aA<|aQ Z<|aJ<|wq<|wm Z<|wa (aD bCb Z (Ct.fresh (fun w hw=>aGp ((h_u.c _) w hw) bh_u (by omega)))) ?_
 rintro _ _ ⟨_,rfl,A_1,c_2,rfl,rfl⟩
 refine wg Z<|aA<|wq<|wm Z<|wa (dF underlying22 zb5 Z Z (by omega) (by omega) (by omega)) ?_
 rintro _ _ ⟨g_3,rfl,rfl⟩
 refine bO (v:= .slice (GG g_3) u.length u.length) Z<|wg Z<|aA<|wq<|wg Z<|aA<|aG<|wq<|wm Z<|wS Z Z<|wg Z<|aA<|aI ?_
 refine gF (fun(k:Int) (r:Int) (S:List Int)=>[(0, .slice A_u u.length c_u),(1,I m),(7, .slice A_1 ((fsL u).length) c_2),(8, .slice (GG g_3) u.length u.length),(9,I r),(10,I k)]) (fun(k:Int) (r:Int) (S:List Int)=>[(ru 5 (GG g_3) u.length u.length S),(ri 3 A_1 ((fsL u).length) c_2 (fsL u))]) (fun(k:Int) (r:Int) (S:List Int)=>(-1≤k)∧(k<u.length)∧(S.length=u.length)∧(r=iW u m (u.length-1-k).toNat)∧(∀t:Nat,(t:Int)<u.length-1-k→iW u m t≠m)∧(∀j:Int,k<j→j<u.length→rd S j=rd (pM u m) j)) (fun(k:Int) (r:Int) (S:List Int)=>(k+1).toNat) ?_ ?_
 ·exact⟨((u.length:Nat):Int)-1,0,List.replicate u.length (0:Int),⟨(by omega),(by omega),(by rw[List.length_replicate]),(by rw[show((u.length:Int)-1-(((u.length:Nat):Int)-1)).toNat=0 by omega];rfl),(fun t h=>by omega),(fun j h1 h2=>by omega)⟩,(G6 rfl rfl rfl rfl rfl rfl),fun _ h=>h⟩
 intro k r S ⟨hk0,hk1,hSl,hr,hon,hS⟩
 refine aG<|wq<|wm Z<|wy (jS Z Z)<|aA<|bM Z (fun hc1=> ?_) (fun hc1=> ?_)
 ·have hk':0≤k:=by omega
  have hbd:=VO (l:=u) bh_u hpre (u.length-1-k).toNat (fun t ht=>hon t (by omega)) (by omega)
  rw[←hr] at hbd
  have hm0:0≤m:=by have:=hpre.1;omega
  have hm1:=hpre.2
  have hne:r≠m:=by rw[hr];exact hon0 _ (by omega)
  refine aJ<|aG<|aI<|wq<|wm Z<|wg Z<|aA<|aG<|aI<|wq<|wm Z<|wm Z<|wy (Yl.f (dI Z Z) (hne)) ?_
  refine wg Z<|aA<|aQ Z<|wq<|wm Z<|wm Z<|wy (dR Z Z)<|wg Z<|aA<|bM Z (fun hc2=> ?_) (fun hc2=> ?_)
  ·have hiv:r-1=ixr m r:=by unfold ixr;split<;>omega
   have hxx:rd u (r-1)=rd u (ixr m (iW u m (u.length-1-k).toNat)):=by rw[hiv,←hr]
   have hib:=OX (n:=u.length) hbd.1 hbd.2 hne hm0 hm1 (by omega)
   rw[←hiv] at hib
   have hfs:=XP (l:=u) hib.1 hib.2
   have hlf:=TF (l:=u) bh_u hib.1 hib.2
   have hnx:rd (fsL u) (r-1)+1=iW u m (u.length-1-(k-1)).toNat:=by rw[hfs];exact aDn hk' hk1 hr hiv
   refine aL<|wm Z<|wS Z Z<|wg Z<|aA<|wq<|wm Z<|wm Z<|wm Z<|wm Z<|wy (aH underlying22 sz5 Z Z (h_u.c _) (by omega) (by omega))<|wy (aX underlying5 Z Z (h_u.c _) (by omega) (by omega))<|wy (aH underlying22 sz5 Z Z (rdr 0 Z) (by omega) (by omega))<|bY (bG 0 Z sz5 Z Z (by omega) (by omega)) ?_
   rintro _ _ rfl
   refine aA<|aL<|wm Z<|wm Z<|wy (aH underlying52 sz3 Z Z (rdr 1 Z) (by omega) (by omega))<|wy (aX underlying3 Z Z (rdr 1 Z) (by omega) (by omega))<|wA Z Z<|wg Z<|aA<|aL<|wm Z<|wS Z Z<|wg Z<|aA ?_
   exact⟨k-1,(rd (fsL u) (r-1))+1,upd S k (rd u (r-1)),⟨(by omega),(by omega),(by rw[aV];exact hSl),(hnx),(aCa hk' hk1 hon hr hne),(aDm hk' hk1 hSl hS hxx)⟩,(by omega),(G6 Z Z Z Z Z Z),fun _ h=>h⟩
  ·have hiv:r=ixr m r:=by unfold ixr;split<;>omega
   have hxx:rd u (r)=rd u (ixr m (iW u m (u.length-1-k).toNat)):=by rw[hiv,←hr]
   have hib:=OX (n:=u.length) hbd.1 hbd.2 hne hm0 hm1 (by omega)
   rw[←hiv] at hib
   have hfs:=XP (l:=u) hib.1 hib.2
   have hlf:=TF (l:=u) bh_u hib.1 hib.2
   have hnx:rd (fsL u) (r)+1=iW u m (u.length-1-(k-1)).toNat:=by rw[hfs];exact aDn hk' hk1 hr hiv
   refine aJ<|wq<|wm Z<|wm Z<|wm Z<|wm Z<|wy (aH underlying22 sz5 Z Z (h_u.c _) (by omega) (by omega))<|wy (aX underlying5 Z Z (h_u.c _) (by omega) (by omega))<|wy (aH underlying22 sz5 Z Z (rdr 0 Z) (by omega) (by omega))<|bY (bG 0 Z sz5 Z Z (by omega) (by omega)) ?_
   rintro _ _ rfl
   refine aA<|aL<|wm Z<|wm Z<|wy (aH underlying52 sz3 Z Z (rdr 1 Z) (by omega) (by omega))<|wy (aX underlying3 Z Z (rdr 1 Z) (by omega) (by omega))<|wA Z Z<|wg Z<|aA<|aL<|wm Z<|wS Z Z<|wg Z<|aA ?_
   exact⟨k-1,(rd (fsL u) r)+1,upd S k (rd u r),⟨(by omega),(by omega),(by rw[aV];exact hSl),(hnx),(aCa hk' hk1 hon hr hne),(aDm hk' hk1 hSl hS hxx)⟩,(by omega),(G6 Z Z Z Z Z Z),fun _ h=>h⟩
 ·refine aZ<|aG<|wq<|wm Z<|wm Z<|wy (Yl.f (iT Z Z) (by
     have e:((u.length:Int)-1-k).toNat=u.length:=by omega
     rw[hr,e,hok.2.2]
     exact fun h=>h Z)) ?_
  refine aA<|aQ Z<|aJ<|wq<|wm Z<|wg Z<|wg Z<|aA<|bA [0] 99 (by decide) Z ?_
  refine⟨_,_,Z,Z,?_⟩
  obtain rfl:S=pM u m:=aUi hSl fun j h1 h2=>hS j (by omega) h2
  exact⟨_,_,Z,Z⟩
end Go.Proofs.YtdbebmmhdefgdaaGreat

namespace Go.Proofs.YtdbebmmhdefgdaaGreat
open Go Go.Eng Go.Pure
open Tryz
set_option maxRecDepth 100000
theorem RN {w:World}:
  Ct Tryz.prog 105 #[] w.heap.size w [] (fun v R'=> ∃A c,v= .slice A 256 c∧R'=[(ru 5 A 256 c aS)]):=by
 refine fn1 Tryz.func105 Z Z Z ?_
 refine wq<|wg Z<|aA<|wq<|wa (dF underlying22 zb5 Z Z (by omega) (by omega) (by omega)) ?_
 rintro _ _ ⟨g_1,rfl,rfl⟩
 refine bO (v:= .slice (GG g_1) ((256:Int).toNat) ((256:Int).toNat)) Z<|wg Z<|aA<|aG<|wq<|wm Z<|wy (aR underlying22 Z)<|wm Z<|aA<|aI ?_
 refine dW (fun(i:Int) (V:List Int)=>[(1, .slice (GG g_1) ((256:Int).toNat) ((256:Int).toNat)),(5,I (((256:Int).toNat:Nat):Int)),(6,I i)]) (fun(i:Int) (V:List Int)=>[(ru 5 (GG g_1) ((256:Int).toNat) ((256:Int).toNat) V)]) (fun(i:Int) (V:List Int)=>(0≤i)∧(i≤256)∧(V.length=256)∧(∀j:Int,0≤j→j<i→rd V j=j)) (fun(i:Int) (V:List Int)=>(256-i).toNat) ?_ ?_
 ·exact⟨0,List.replicate ((256:Int).toNat) (0:Int),⟨(by omega),(by omega),(Z),(fun j h1 h2=>by omega)⟩,(G3 rfl rfl rfl),fun _ h=>h⟩
 intro i V ⟨hi0,hi1,hVl,hV⟩
 refine wq<|wL Z Z<|aA<|aG<|bM Z (fun hc1=> ?_) (fun hc1=> ?_)
 ·refine aJ<|aG<|aI<|wq<|wm Z<|wg Z<|aA<|aL<|wm Z<|wm Z<|wm Z<|wy (oJ underlying3 underlying5 Z)<|wy (aH underlying22 sz5 Z Z (rdr 0 Z) (by omega) (by omega))<|bY (bG 0 Z sz5 Z Z (by omega) (by omega)) ?_
  rintro _ _ rfl
  refine aA<|aL<|wA Z Z<|wm Z<|aA ?_
  exact⟨i+1,upd V i (IntKind.u8.wrap i),⟨(by omega),(by omega),(by rw[aV];exact hVl),(eH (f:=fun j=>j) hi0 (by omega) hV (rM hi0 (by omega)))⟩,(by omega),(G3 Z Z Z),fun _ h=>h⟩
 ·refine aZ<|wq<|wm Z<|wg Z<|aA<|bA [0] 99 (by decide) Z ?_
  refine⟨_,Z,?_⟩
  obtain rfl:V=aS:=aCm hVl (fun j h1 h2=>hV j h1 (by omega))
  exact⟨_,_,Z,Z⟩
theorem TA {B:Nat} {w0:World} {R:List Row} {A:Option Addr} {m c:Nat} {l:List Int} {k:Int} (hm:m=l.length) (hk:0≤k∧k<l.length) (h2:1<l.length):
  Ct Tryz.prog 107 #[.slice A m c,I k] B w0 ((ru 5 A m c l)::R) (fun v R'=>v= .tuple #[]∧R'=(ru 5 A m c (mtf l k))::R):=by
 subst hm
 refine fn0 Tryz.func107 Z Z Z ?_
 refine wq<|wm Z<|wm Z<|wy (aH underlying22 sz5 Z Z (rdr 0 Z) (by omega) (by omega))<|wy (aX underlying5 Z Z (rdr 0 Z) (by omega) (by omega))<|wg Z<|aA<|aG<|bT mixed<|wD 0 Z (aM Z)<|wD 1 Z (gH underlying22 sz5 Z Z (by omega) (by omega))<|wD 2 Z (aM Z)<|wD 3 Z (aM Z)<|wD 4 Z (iL underlying22 sz5 Z Z (rdr 0 Z) (by omega) (by omega)) ?_
 refine fO 5 Z (by kernel_rfl) Z (QA (lo:=1) 0 Z underlying22 sz5 Z Z Z Z (by omega) (RdC.toI (h:=(k).toNat) (rdr 0 Z) (by first|omega|(dsimp only;omega)))) ?_
 rintro _ _ ⟨rfl,rfl⟩
 refine⟨.inl (by kernel_rfl),?_⟩
 refine bP (by kernel_rfl)<|aL<|wm Z<|wm Z<|wy (aH underlying22 sz5 Z Z (rdr 0 Z) (by omega) (by omega))<|bY (bG 0 Z sz5 Z Z (by omega) (by omega)) ?_
 rintro _ _ rfl
 refine aA ?_
 skip
 rw[aXu hk.1 hk.2]
 exact⟨Z,Z⟩
theorem PD {w:World} {A_u:Option Addr} {n_u c_u:Nat} {u:List Int} {c:Int} (h_u:Rd w A_u n_u c_u 1 (ints .u8 u)) (bh_u:aN u) (hc:0≤c∧c<256) (hm:c∈u):
  Ct Tryz.prog 106 #[.slice A_u n_u c_u, .int .u8 c] w.heap.size w [] (fun v R'=>v=I (idx u c)):=by
 obtain rfl:=h_u.lenI
 refine fn1 Tryz.func106 Z Z Z ?_
 have m_u:=h_u.max
 refine wq<|wg Z<|aA<|wq<|wm Z<|wm Z<|wa (VX Tryz.func180 (by kernel_rfl) (by kernel_rfl) (by kernel_rfl) (by kernel_rfl) Z Z (h_u.c _) bh_u hc hm) ?_
 rintro _ _ ⟨rfl,rfl⟩
 refine wg Z<|aA<|dL ?_
 refine⟨_,Z,?_⟩
 rfl
theorem aFn {w:World} {A_b:Option Addr} {n_b c_b:Nat} {b:List Int} (h_b:Rd w A_b n_b c_b 1 (ints .u8 b)) (bh_b:aN b) (hN:b.length≤1000000):
  Ct Tryz.prog 60 #[.slice A_b n_b c_b] w.heap.size w [] (fun v R'=> ∃A c,v= .slice A (b.length) c∧R'=[(ru 5 A b.length c (bB aS b))]):=by
 obtain rfl:=h_b.lenI
 refine fn1 Tryz.func60 Z Z Z ?_
 have m_b:=h_b.max
 refine wq<|wg Z<|aA<|wq<|wa (aD aWh Z (Ct.fresh (fun w hw=>RN))) ?_
 rintro _ _ ⟨_,rfl,A_1,c_2,rfl,rfl⟩
 refine wg Z<|aA<|wq<|wm Z<|wy (aR underlying22 Z)<|wa (dF underlying22 zb5 Z Z (by omega) (by omega) (by omega)) ?_
 rintro _ _ ⟨g_3,rfl,rfl⟩
 refine bO (v:= .slice (GG g_3) b.length b.length) Z<|wg Z<|aA<|aG<|wq<|wm Z<|wy (aR underlying22 Z)<|wm Z<|aA<|aI ?_
 refine gF (fun(i:Int) (V:List Int) (U:List Int)=>[(3, .slice A_1 256 c_2),(4, .slice (GG g_3) b.length b.length),(12, .slice A_b b.length c_b),(13,I ((b.length:Nat):Int)),(14,I i)]) (fun(i:Int) (V:List Int) (U:List Int)=>[(ru 5 (GG g_3) b.length b.length U),(ru 5 A_1 256 c_2 V)]) (fun(i:Int) (V:List Int) (U:List Int)=>(0≤i)∧(i≤b.length)∧(V=xO aS (b.take i.toNat))∧(U.length=b.length)∧(∀j:Int,0≤j→j<i→rd U j=rd (bB aS b) j)) (fun(i:Int) (V:List Int) (U:List Int)=>(b.length-i).toNat) ?_ ?_
 ·exact⟨0,aS,List.replicate b.length (0:Int),⟨(by omega),(by omega),(Z),(by rw[List.length_replicate]),(fun j h1 h2=>by omega)⟩,(G5 rfl rfl rfl rfl rfl),fun _ h=>h⟩
 intro i V U ⟨hi0,hi1,hV,hUl,hU⟩
 have hvp:V.Perm aS:=by rw[hV];exact aKg bh_b _
 have hvf:=LJ hvp
 have hbi:=bh_b.rd i
 have hix:=hvf.2.2 _ hbi.1 hbi.2
 refine wq<|wL Z Z<|aA<|aG<|bM Z (fun hc1=> ?_) (fun hc1=> ?_)
 ·refine aJ<|aG<|aI<|wq<|wm Z<|wy (aH underlying22 sz5 Z Z (h_b.c _) (by omega) (by omega))<|wy (aX underlying5 Z Z (h_b.c _) (by omega) (by omega))<|wg Z<|wg Z<|aA<|wq<|wm Z<|wm Z ?_
  refine wa (aD bCw Z (Ct.quiet (fun w hw=>PD ((rdr 1 Z) w hw) hvf.2.1 hbi hix.1))) ?_
  rintro _ _ ⟨rfl,rfl⟩
  refine wg Z<|aA<|wq<|wm Z<|wm Z<|wm Z<|wy (oJ underlying3 underlying5 Z)<|wy (aH underlying22 sz5 Z Z (rdr 0 Z) (by omega) (by omega))<|bY (bG 0 Z sz5 Z Z (by omega) (by omega)) ?_
  rintro _ _ rfl
  refine aA<|aL<|wm Z<|wm Z<|wa (aD aWg Z (Ct.at 1 Z (TA hvf.1.symm (by omega) (by omega)))) ?_
  rintro _ _ ⟨rfl,rfl⟩
  refine aA<|aL<|wA Z Z<|wm Z<|aA ?_
  exact⟨i+1,mtf V (idx V (rd b i)),upd U i (IntKind.u8.wrap (idx V (rd b i))),⟨(by omega),(by omega),(by rw[aEx hi0 (by omega),←hV]),(by rw[aV];exact hUl),(eH (f:=fun j=>rd (bB aS b) j) hi0 (by omega) hU (by rw[aLe hi0 (by omega),←hV];exact rM hix.2.1 hix.2.2))⟩,(by omega),(G5 Z Z Z Z Z),fun _ h=>h⟩
 ·refine aZ<|wq<|wm Z<|wg Z<|aA<|bA [0] 99 (by decide) Z ?_
  refine⟨_,Z,?_⟩
  obtain rfl:U=bB aS b:=bH (by rw[hUl,jW]) (fun j h1 h2=>hU j h1 (by omega))
  exact⟨_,_,Z,Z⟩
theorem aIj {w:World} {A_b:Option Addr} {n_b c_b:Nat} {b:List Int} (h_b:Rd w A_b n_b c_b 1 (ints .u8 b)) (bh_b:aN b) (hN:b.length≤1000000):
  Ct Tryz.prog 111 #[.slice A_b n_b c_b] w.heap.size w [] (fun v R'=> ∃A c,v= .slice A (b.length) c∧R'=[(ru 5 A b.length c (mW aS b))]):=by
 obtain rfl:=h_b.lenI
 refine fn1 Tryz.func111 Z Z Z ?_
 have m_b:=h_b.max
 refine wq<|wg Z<|aA<|wq<|wa (aD aWh Z (Ct.fresh (fun w hw=>RN))) ?_
 rintro _ _ ⟨_,rfl,A_1,c_2,rfl,rfl⟩
 refine wg Z<|aA<|wq<|wm Z<|wy (aR underlying22 Z)<|wa (dF underlying22 zb5 Z Z (by omega) (by omega) (by omega)) ?_
 rintro _ _ ⟨g_3,rfl,rfl⟩
 refine bO (v:= .slice (GG g_3) b.length b.length) Z<|wg Z<|aA<|aG<|wq<|wm Z<|wy (aR underlying22 Z)<|wm Z<|aA<|aI ?_
 refine gF (fun(i:Int) (V:List Int) (U:List Int)=>[(3, .slice A_1 256 c_2),(4, .slice (GG g_3) b.length b.length),(11, .slice A_b b.length c_b),(12,I ((b.length:Nat):Int)),(13,I i)]) (fun(i:Int) (V:List Int) (U:List Int)=>[(ru 5 (GG g_3) b.length b.length U),(ru 5 A_1 256 c_2 V)]) (fun(i:Int) (V:List Int) (U:List Int)=>(0≤i)∧(i≤b.length)∧(V=CK aS (b.take i.toNat))∧(U.length=b.length)∧(∀j:Int,0≤j→j<i→rd U j=rd (mW aS b) j)) (fun(i:Int) (V:List Int) (U:List Int)=>(b.length-i).toNat) ?_ ?_
 ·exact⟨0,aS,List.replicate b.length (0:Int),⟨(by omega),(by omega),(Z),(by rw[List.length_replicate]),(fun j h1 h2=>by omega)⟩,(G5 rfl rfl rfl rfl rfl),fun _ h=>h⟩
 intro i V U ⟨hi0,hi1,hV,hUl,hU⟩
 have hvp:V.Perm aS:=by rw[hV];exact aKf bh_b _
 have hvf:=LJ hvp
 have hbi:=bh_b.rd i
 have hix:=hvf.2.2 _ hbi.1 hbi.2
 refine wq<|wL Z Z<|aA<|aG<|bM Z (fun hc1=> ?_) (fun hc1=> ?_)
 ·refine aJ<|aG<|aI<|wq<|wm Z<|wy (aH underlying22 sz5 Z Z (h_b.c _) (by omega) (by omega))<|wy (aX underlying5 Z Z (h_b.c _) (by omega) (by omega))<|wg Z<|wg Z<|aA<|wq<|wm Z<|wm Z ?_
  refine wm Z<|wm Z<|wy (aH underlying22 sz5 Z Z (rdr 1 Z) (by omega) (by omega))<|wy (aX underlying5 Z Z (rdr 1 Z) (by omega) (by omega))<|wy (aH underlying22 sz5 Z Z (rdr 0 Z) (by omega) (by omega))<|bY (bG 0 Z sz5 Z Z (by omega) (by omega)) ?_
  rintro _ _ rfl
  refine aA<|aL<|wm Z<|wm Z<|wy (iY underlying5 underlying3 Z (by omega))<|wa (aD aWg Z (Ct.at 1 Z (TA hvf.1.symm (by omega) (by omega)))) ?_
  rintro _ _ ⟨rfl,rfl⟩
  refine aA<|aL<|wA Z Z<|wm Z<|aA ?_
  exact⟨i+1,mtf V (rd b i),upd U i (rd V (rd b i)),⟨(by omega),(by omega),(by rw[aEw hi0 (by omega),←hV]),(by rw[aV];exact hUl),(eH (f:=fun j=>rd (mW aS b) j) hi0 (by omega) hU (by rw[aLc hi0 (by omega),←hV]))⟩,(by omega),(G5 Z Z Z Z Z),fun _ h=>h⟩
 ·refine aZ<|wq<|wm Z<|wg Z<|aA<|bA [0] 99 (by decide) Z ?_
  refine⟨_,Z,?_⟩
  obtain rfl:U=mW aS b:=bH (by rw[hUl,zO]) (fun j h1 h2=>hU j h1 (by omega))
  exact⟨_,_,Z,Z⟩
end Go.Proofs.YtdbebmmhdefgdaaGreat

namespace Go.Eng
open Go Go.RowKit Go.Pure
section
variable {P:Program} {n:Nd} {B:Nat} {w0:World} {L:Env} {R:List Row} {ty:TypeId}
theorem aQl {id:Nat} {l:List Oper} {Q:eO} {Rc:List Row} (hm:P.follows .mixedOrders=true) (hR: ∀w,Hp B w0 w R→Hp B w0 w Rc) (h:WDc P n B w0 l.toArray Q.nrm l.toArray.size (Array.replicate l.toArray.size false) L R Rc) (hd:yH n.rd l=true:=by exact rfl):W P n B w0 (.region id l.toArray true) Q L R:=by
 intro a w hs hp
 refine wpIn_region_any hm (VV aAk hd _ _ _ _<|vW _ _ _ _ _ (h a _ _ hs (hp.drawn _ (Nat.le_succ _)) hR (fun _ _ _ h=>h) fun _ _ L' R' hs' hp' hk=>⟨L',R',hs',hp',hk⟩))
theorem RgR.left {Rs:List Row} {l:List RC} (h:RgR Rs l) (T:List Row):RgR (Rs++T) l:=h.weak fun _ _ _ hw=>hw.left
theorem SlR.nilR (k:IntKind) (Rs:List Row):SlR k Rs [] []:=⟨rfl,fun j hj=>by simp at hj⟩
theorem OkB.app {a b:List (List Int)} (ha:OkB a) (hb:OkB b):OkB (a++b):=fun l hl=>(List.mem_append.1 hl).elim (ha l) (hb l)
end
end Go.Eng

namespace Go.Proofs.YtdbebmmhdefgdaaGreat
open Go Go.Eng Go.Pure
open Tryz
set_option maxRecDepth 100000
theorem aEd {n m:Int} {acc:List Int} (h:iJ n.toNat=acc++iJ m.toNat) (hp:0<m) {d q:Int} (hd:d=(m-1)%2) (hq:q=(m-1)/2):iJ n.toNat=(acc++[d])++iJ q.toNat:=by
 rw[h,xG (by omega),List.append_assoc,List.singleton_append]
 have e1:(((m.toNat-1)%2:Nat):Int)=d:=by omega
 have e2:(m.toNat-1)/2=q.toNat:=by omega
 rw[e1,e2]
theorem aEe {b acc:List Int} {i n:Int} (h:acc++bC n.toNat (b.drop i.toNat)=bC 0 b) (i0:0≤i) (hi:i<b.length) (n0:0≤n) (hc:rd b i=0):acc++bC (n+1).toNat (b.drop (i+1).toNat)=bC 0 b:=by
 rw[fZ i0 hi,bC,if_pos hc] at h
 rw[show(n+1).toNat=n.toNat+1 by omega]
 exact h
theorem aJm {b acc:List Int} {i n:Int} (h:acc++bC n.toNat (b.drop i.toNat)=bC 0 b) (i0:0≤i) (hi:i<b.length) (hc: ¬rd b i=0):((acc++iJ n.toNat)++[rd b i+1])++bC 0 (b.drop (i+1).toNat)=bC 0 b:=by
 rw[fZ i0 hi,bC,if_neg hc] at h
 rw[←h]
 simp
theorem WU {b acc:List Int} {i n:Int} (h:acc++bC n.toNat (b.drop i.toNat)=bC 0 b):acc.length≤b.length:=by
 have h1:=congrArg List.length h
 have h2:=oM b 0
 rw[List.length_append] at h1
 omega
theorem aEc {n:Int} (h0:0≤n):((iJ n.toNat).length:Int)≤n:=by
 have:=xH _ _ (Nat.le_refl n.toNat)
 omega
theorem KV {w:World} {n:Int} (h0:0≤n∧n≤1000000):
  Ct Tryz.prog 201 #[I n] w.heap.size w [] (fun v R'=> ∃A c,v= .slice A ((iJ n.toNat).length) c∧R'=[(ri 3 A ((iJ n.toNat).length) c (iJ n.toNat))]):=by
 refine fn1 Tryz.func201 Z Z Z ?_
 refine wq<|wg Z<|aA<|wq<|dK (R1:=[(ri 3 none 0 0 ([]))]) (Sub.refl _) (fun _ h=>h.nil 3 1)<|wg Z<|aA<|aG<|aI ?_
 refine jT (fun(A1:Option Addr) (n1:Nat) (c1:Nat) (acc:List Int) (m:Int)=>[(0,I m),(3, .slice A1 n1 c1)]) (fun(A1:Option Addr) (n1:Nat) (c1:Nat) (acc:List Int) (m:Int)=>[(ri 3 A1 n1 c1 acc)]) (fun(A1:Option Addr) (n1:Nat) (c1:Nat) (acc:List Int) (m:Int)=>(n1=acc.length)∧(0≤m)∧(iJ n.toNat=acc++iJ m.toNat)∧(acc.length+m≤n)) (fun(A1:Option Addr) (n1:Nat) (c1:Nat) (acc:List Int) (m:Int)=>m.toNat) ?_ ?_
 ·exact⟨none,0,0,[],n,⟨(Z),(by omega),(Z),(by show((0:Nat):Int)+n≤n;omega)⟩,(G2 Z Z),fun _ h=>h⟩
 intro A1 n1 c1 acc m ⟨hn1,hm0,hT,hL⟩
 refine aG<|wq<|wm Z<|wy (dR Z Z)<|aA<|bM Z (fun hc1=> ?_) (fun hc1=> ?_)
 ·refine aJ<|aG<|aI<|aL<|wm Z<|wm Z<|wS Z Z<|wy (BI Z Z (by omega) (by omega))<|wa (cB .i64 [(m-1)%2] underlying52 zs3 Z Z Z) ?_
  rintro _ _ ⟨g_2,rfl,rfl⟩
  refine wa (bD 1 Z underlying52 zb3 Z Z Z (rdr 0 Z) (by omega)) ?_
  rintro _ _ ⟨A_3,c_4,rfl,rfl⟩
  refine bO (v:= .slice A_3 (n1+1) c_4) Z<|wg Z<|aA<|aL<|wm Z<|wS Z Z<|wy (NU Z Z (by omega) (by omega) (by omega))<|wg Z<|aA ?_
  exact⟨A_3,n1+1,c_4,acc++([(m-1)%2]),(m-1)/2,⟨(by rw[List.length_append,hn1];try rfl),(by omega),(aEd hT (by omega) (by omega) (by omega)),(by rw[List.length_append,List.length_singleton];omega)⟩,(by omega),(G2 Z Z),fun _ h=>h.sel [1] (by decide) Z⟩
 ·refine aZ<|wq<|wm Z<|wg Z<|aA<|bA [0] 99 (by decide) Z ?_
  refine⟨_,Z,?_⟩
  obtain rfl:m=0:=by omega
  have e:iJ n.toNat=acc:=by rw[hT];exact List.append_nil _
  rw[e]
  obtain rfl:=hn1
  exact⟨_,_,Z,Z⟩
theorem aEf {w:World} {A_b:Option Addr} {n_b c_b:Nat} {b:List Int} (h_b:Rd w A_b n_b c_b 1 (ints .u8 b)) (bh_b:aN b) (hN:b.length≤1000000):
  Ct Tryz.prog 129 #[.slice A_b n_b c_b] w.heap.size w [] (fun v R'=> ∃A c,v= .slice A ((bC 0 b).length) c∧R'=[(ri 3 A ((bC 0 b).length) c (bC 0 b))]):=by
 obtain rfl:=h_b.lenI
 refine fn1 Tryz.func129 Z Z Z ?_
 have m_b:=h_b.max
 refine wq<|wg Z<|aA<|wq<|dK (R1:=[(ri 3 none 0 0 ([]))]) (Sub.refl _) (fun _ h=>h.nil 3 1)<|wg Z<|aA<|wq<|wg Z<|aA<|aG<|aG ?_
 refine aL<|wm Z<|wy (aR underlying22 Z)<|wm Z<|aA<|aI ?_
 refine nN (fun(A1:Option Addr) (n1:Nat) (c1:Nat) (acc:List Int) (i:Int) (m:Int)=>[(3, .slice A1 n1 c1),(4,I m),(7, .slice A_b b.length c_b),(8,I ((b.length:Nat):Int)),(9,I i)]) (fun(A1:Option Addr) (n1:Nat) (c1:Nat) (acc:List Int) (i:Int) (m:Int)=>[(ri 3 A1 n1 c1 acc)]) (fun(A1:Option Addr) (n1:Nat) (c1:Nat) (acc:List Int) (i:Int) (m:Int)=>(n1=acc.length)∧(0≤i)∧(i≤b.length)∧(0≤m)∧(m≤i)∧(acc++bC m.toNat (b.drop i.toNat)=bC 0 b)) (fun(A1:Option Addr) (n1:Nat) (c1:Nat) (acc:List Int) (i:Int) (m:Int)=>(b.length-i).toNat) ?_ ?_
 ·exact⟨none,0,0,[],0,0,⟨(Z),(by omega),(by omega),(by omega),(by omega),(Z)⟩,(G5 Z Z Z Z Z),fun _ h=>h⟩
 intro A1 n1 c1 acc i m ⟨hn1,hi0,hi1,hm0,hm1,hT⟩
 have hab:=WU hT
 have hts:=aEc hm0
 refine wq<|wL Z Z<|aA<|aG<|bM Z (fun hc1=> ?_) (fun hc1=> ?_)
 ·have hbi:=bh_b.rd i
  refine aJ<|aG<|aI<|wq<|wy (aH underlying22 sz5 Z Z (h_b.c _) (by omega) (by omega))<|wy (aX underlying5 Z Z (h_b.c _) (by omega) (by omega))<|wg Z<|aA<|aG<|wq<|wm Z<|wy (dI Z Z)<|aA ?_
  refine bM Z (fun hc2=> ?_) (fun hc2=> ?_)
  ·refine wq<|wm Z<|wA Z Z<|wg Z<|aA<|aZ<|aL<|wA Z Z<|wm Z<|aA ?_
   exact⟨A1,n1,c1,acc,i+1,m+1,⟨(by first|exact hn1|simp[hn1,Nat.add_assoc]),(by omega),(by omega),(by omega),(by omega),(aEe hT hi0 (by omega) hm0 (by assumption))⟩,(by omega),(G5 Z Z Z Z Z),fun _ h=>h⟩
  ·refine aJ<|wq<|wm Z<|wm Z<|wa (aD aVy Z (Ct.fresh (fun w hw=>KV (by omega)))) ?_
   rintro _ _ ⟨_,rfl,A_1,c_2,rfl,rfl⟩
   refine wa (bD 1 Z underlying52 zb3 Z Z Z (rdr 0 Z) (by omega)) ?_
   rintro _ _ ⟨A_4,c_5,rfl,rfl⟩
   refine bO (v:= .slice A_4 (n1+((iJ (m).toNat).length)) c_5) Z<|wm Z<|wy (iY underlying5 underlying3 Z (by omega))<|wA Z Z<|wa (cB .i64 [(rd b i)+1] underlying52 zs3 Z Z Z) ?_
   rintro _ _ ⟨g_7,rfl,rfl⟩
   refine wa (bD 2 Z underlying52 zb3 Z Z Z (rdr 0 Z) (by omega)) ?_
   rintro _ _ ⟨A_8,c_9,rfl,rfl⟩
   refine bO (v:= .slice A_8 ((n1+((iJ (m).toNat).length))+1) c_9) Z<|wg Z<|aA<|aL<|wg Z<|aA<|aL<|wA Z Z<|wm Z<|aA ?_
   exact⟨A_8,(n1+((iJ (m).toNat).length))+1,c_9,(acc++(iJ (m).toNat))++([(rd b i)+1]),i+1,0,⟨(by first|exact hn1|simp[hn1,Nat.add_assoc]),(by omega),(by omega),(by omega),(by omega),(aJm hT hi0 (by omega) (by assumption))⟩,(by omega),(G5 Z Z Z Z Z),fun _ h=>h.sel [2] (by decide) Z⟩
 ·refine aZ<|wq<|wm Z<|wm Z<|wa (aD aVy Z (Ct.fresh (fun w hw=>KV (by omega)))) ?_
  rintro _ _ ⟨_,rfl,A_10,c_11,rfl,rfl⟩
  refine wa (bD 1 Z underlying52 zb3 Z Z Z (rdr 0 Z) (by omega)) ?_
  rintro _ _ ⟨A_13,c_14,rfl,rfl⟩
  refine bO (v:= .slice A_13 (n1+((iJ (m).toNat).length)) c_14) Z<|wg Z<|aA<|bA [1] 99 (by decide) Z ?_
  refine⟨_,Z,?_⟩
  rw[List.drop_eq_nil_of_le (by omega)] at hT
  have e2:acc++iJ m.toNat=bC 0 b:=hT
  have e:n1+(iJ m.toNat).length=(bC 0 b).length:=by rw[←e2,List.length_append,hn1]
  rw[e,e2]
  exact⟨_,_,Z,Z⟩
theorem GQ {B:Nat} {w0:World} {R:List Row} {g:Nat} {A:Option Addr} {n c:Nat} {C:List Int} {sym:Int} (hn:n=C.length) (hs:0≤sym∧sym<C.length):
  Ct Tryz.prog 202 #[.pointer (GG g),I sym] B w0 (⟨256,2,(GG g),1,1,[.slice A n c,I (aU C)],false⟩::(ri 3 A n c C)::R) (fun v R'=>v= .bool true∧R'=⟨256,2,(GG g),1,1,[.slice A n c,I (aU C)],false⟩::(ri 3 A n c C)::R):=by
 subst hn
 refine fn1 Tryz.func202 Z Z Z ?_
 refine wq<|wg Z<|aA<|wq<|wm Z<|wy (aQj underlying185 Z Z)<|wm Z<|aB Z Z<|wm Z<|aB Z Z<|wy (Yl.t (jS Z Z) (by omega))<|wy (aT Z Z)<|wm Z ?_
 refine aB Z Z<|wm Z<|aB Z Z<|wm Z<|aB Z Z<|wy (aF Z)<|aB Z Z<|wy (aC (off:=0) (m:=0) underlying256 Z iB Z Z Z)<|aB Z Z<|wy (aK (rdr 0 Z) underlying52 Z Z Z)<|aB Z Z<|wy (aR underlying52 Z)<|aB Z Z<|wy (Yl.t (fG Z Z) (by omega))<|wy (aT Z Z) ?_
 refine wg Z<|aA<|bX (R1:=(⟨256,2,(GG g),1,1,[.slice A C.length c,I (aU C)],false⟩::(ri 3 A C.length c C)::R)) (fun _ h=>h) ?_
 refine⟨_,Z,?_⟩
 exact⟨Z,Z⟩
theorem iH {B:Nat} {w0:World} {R:List Row} {g:Nat} {A:Option Addr} {n c:Nat} {C:List Int}:
  Ct Tryz.prog 133 #[.pointer (GG g)] B w0 (⟨256,2,(GG g),1,1,[.slice A n c,I (aU C)],false⟩::(ri 3 A n c C)::R) (fun v R'=>v=I (aU C)∧R'=⟨256,2,(GG g),1,1,[.slice A n c,I (aU C)],false⟩::(ri 3 A n c C)::R):=by
 refine fn1 Tryz.func133 Z Z Z ?_
 refine wq<|wg Z<|aA<|aG<|wq<|wm Z<|wy (jR underlying185 Z Z)<|aA<|aQ Z<|aJ<|wq<|wm Z ?_
 refine wy (aF Z)<|wy (aC (off:=1) (m:=1) underlying256 Z sz3 Z Z Z)<|wy (aK (rdr 0 Z) underlying3 Z Z Z)<|wg Z<|aA<|bX (R1:=(⟨256,2,(GG g),1,1,[.slice A n c,I (aU C)],false⟩::(ri 3 A n c C)::R)) (fun _ h=>h) ?_
 refine⟨_,Z,?_⟩
 exact⟨Z,Z⟩
theorem jX {B:Nat} {w0:World} {R:List Row} {g:Nat} {A:Option Addr} {n c:Nat} {C:List Int} {sym:Int} (hn:n=C.length) (hs:0≤sym∧sym<C.length) (hok:lD C):
  Ct Tryz.prog 131 #[.pointer (GG g),I sym] B w0 (⟨256,2,(GG g),1,1,[.slice A n c,I (aU C)],false⟩::(ri 3 A n c C)::R) (fun v R'=>v= .tuple #[I (aU (C.take sym.toNat)),I (rd C sym), .bool true]∧R'=⟨256,2,(GG g),1,1,[.slice A n c,I (aU C)],false⟩::(ri 3 A n c C)::R):=by
 subst hn
 refine fn3 Tryz.func131 Z Z Z ?_
 refine wq<|wg Z<|wg Z<|wg Z<|aA<|aG<|wq<|wm Z<|wm Z<|wa (aD aVx Z ((GQ Z (by omega)))) ?_
 rintro _ _ ⟨rfl,rfl⟩
 refine wy (dH Z)<|aA<|aQ Z<|aJ<|aG<|wq<|wm Z<|wy (aF Z)<|wy (aC (off:=0) (m:=0) underlying256 Z iB Z Z Z)<|wy (aK (rdr 0 Z) underlying52 Z Z Z)<|wm Z<|wy (iL underlying52 sz3 Z Z (rdr 1 Z) (by omega) (by omega))<|wy (aR underlying52 Z)<|wm Z ?_
 refine aA<|aI ?_
 refine dW (fun(i:Int) (low:Int)=>[(0, .pointer (GG g)),(1,I sym),(4,I low),(18, .slice A ((sym).toNat) c),(19,I (((sym).toNat:Nat):Int)),(20,I i)]) (fun(i:Int) (low:Int)=>(⟨256,2,(GG g),1,1,[.slice A C.length c,I (aU C)],false⟩::(ri 3 A C.length c C)::R)) (fun(i:Int) (low:Int)=>(0≤i)∧(i≤sym)∧(low=aU (C.take i.toNat))) (fun(i:Int) (low:Int)=>(sym-i).toNat) ?_ ?_
 ·exact⟨0,0,⟨(by omega),(by omega),(Z)⟩,(G6 Z Z Z Z Z Z),fun _ h=>h⟩
 intro i low ⟨hi0,hi1,hlow⟩
 have hpt:=qN (i:=i) hok.2.1 hi0 (by omega)
 have hlim:=hok.2.2
 have hcl:=hok.1
 have hrt:=OJ (l:=C) (k:=sym) (i:=i) hi0
 refine wq<|wL Z Z<|aA<|aG<|bM Z (fun hc1=> ?_) (fun hc1=> ?_)
 ·have hrt:=hrt (by omega)
  refine aJ<|aG<|aI<|wq<|wy (aH underlying52 sz3 Z Z (RdC.toI (h:=(sym).toNat) (rdr 1 Z) (by first|omega|(dsimp only;omega))) (by omega) (by omega)) ?_
  refine wy (aX underlying3 Z Z (RdC.toI (h:=(sym).toNat) (rdr 1 Z) (by first|omega|(dsimp only;omega))) (by omega) (by omega)) ?_
  refine wg Z<|aA<|aL<|wm Z<|wm Z<|wA Z Z<|wg Z<|aA<|aL<|wA Z Z<|wm Z<|aA ?_
  exact⟨i+1,low+(rd ((C).take (sym).toNat) i),⟨(by omega),(by omega),(by rw[qM hi0 (by omega),←hlow,OJ hi0 (by omega)])⟩,(by omega),(G6 Z Z Z Z Z Z),fun _ h=>h⟩
 ·refine aZ<|aG<|bT mixed<|wD 0 Z (aM Z)<|wD 1 Z (aM Z)<|wD 2 Z (aF Z)<|wD 3 Z (aC (off:=0) (m:=0) underlying256 Z iB Z Z Z)<|wD 4 Z (aK (rdr 0 Z) underlying52 Z Z Z)<|wD 5 Z (aM Z)<|wD 6 Z (aH underlying52 sz3 Z Z (rdr 1 Z) (by omega) (by omega))<|wD 7 Z (aX underlying3 Z Z (rdr 1 Z) (by omega) (by omega))<|wD 8 Z (bV Z)<|wD 9 Z (bV Z)<|wD 10 Z (bV Z)<|bP (by kernel_rfl) ?_
  refine bX (R1:=(⟨256,2,(GG g),1,1,[.slice A C.length c,I (aU C)],false⟩::(ri 3 A C.length c C)::R)) (fun _ h=>h) ?_
  refine⟨_,_,_,Z,Z,Z,?_⟩
  obtain rfl:i=sym:=by omega
  rw[←hlow]
  exact⟨Z,Z⟩
theorem uB {w:World}:
  Ct Tryz.prog 200 #[I 258] w.heap.size w [] (fun v R'=> ∃g A c,v= .pointer (GG g)∧R'=[⟨256,2,(GG g),1,1,[.slice A 258 c,I 258],false⟩,(ri 3 A 258 c wH)]):=by
 refine fn1 Tryz.func200 Z Z Z ?_
 refine wq<|wg Z<|aA<|aG<|wq<|wm Z<|wy (Yl.f (fG Z Z) (by decide))<|wm Z<|aB Z Z<|wm Z<|aB Z Z<|wy (Yl.f (dR Z Z) (by decide))<|wy (aP Z Z) ?_
 refine aA<|aQ Z<|aJ<|wq<|wm Z<|wm Z<|wa (dF underlying52 zb3 Z Z (by omega) (by omega) (by omega)) ?_
 rintro _ _ ⟨g_1,rfl,rfl⟩
 refine bO (v:= .slice (GG g_1) ((258:Int).toNat) ((258:Int).toNat)) Z<|wy (dS (v:= .agg #[.slice (GG g_1) ((258:Int).toNat) ((258:Int).toNat),I 258]) Z (fun w=>by kernel_rfl))<|wa (dV (sz:=2) rfl rfl) ?_
 rintro _ _ ⟨g_2,rfl,rfl⟩
 refine wg Z<|aA<|aG<|wq<|wm Z<|wy (aF Z)<|wy (aC (off:=0) (m:=0) underlying256 Z iB Z Z Z)<|wy (aK (rdr 0 Z) underlying52 Z Z Z)<|wy (aR underlying52 Z)<|wm Z<|aA<|aI ?_
 refine dW (fun(i:Int) (V:List Int)=>[(3, .pointer (GG g_2)),(20,I (((258:Int).toNat:Nat):Int)),(21,I i)]) (fun(i:Int) (V:List Int)=>[⟨256,2,(GG g_2),1,1,[.slice (GG g_1) ((258:Int).toNat) ((258:Int).toNat),I 258],false⟩,(ri 3 (GG g_1) ((258:Int).toNat) ((258:Int).toNat) V)]) (fun(i:Int) (V:List Int)=>(0≤i)∧(i≤258)∧(V.length=258)∧(∀j:Int,0≤j→j<i→rd V j=1)) (fun(i:Int) (V:List Int)=>(258-i).toNat) ?_ ?_
 ·exact⟨0,List.replicate ((258:Int).toNat) (0:Int),⟨(by omega),(by omega),(List.length_replicate),(fun j h1 h2=>by omega)⟩,(G3 rfl rfl rfl),fun _ h=>h⟩
 intro i V ⟨hi0,hi1,hVl,hV⟩
 refine wq<|wL Z Z<|aA<|aG<|bM Z (fun hc1=> ?_) (fun hc1=> ?_)
 ·refine aJ<|aG<|aI<|wq<|wm Z<|wg Z<|aA<|aL<|wm Z<|wy (aF Z)<|wy (aC (off:=0) (m:=0) underlying256 Z iB Z Z Z)<|wy (aK (rdr 0 Z) underlying52 Z Z Z)<|wm Z<|wy (aH underlying52 sz3 Z Z (rdr 1 Z) (by omega) (by omega)) ?_
  refine bY (bG 1 Z sz3 Z Z (by omega) (by omega)) ?_
  rintro _ _ rfl
  refine aA<|aL<|wA Z Z<|wm Z<|aA ?_
  exact⟨i+1,upd V i 1,⟨(by omega),(by omega),(by rw[aV];exact hVl),(eH (f:=fun _=>1) hi0 (by omega) hV Z)⟩,(by omega),(G3 Z Z Z),fun _ h=>h⟩
 ·refine aZ<|wq<|wm Z<|wg Z<|aA<|bX (R1:=[⟨256,2,(GG g_2),1,1,[.slice (GG g_1) ((258:Int).toNat) ((258:Int).toNat),I 258],false⟩,(ri 3 (GG g_1) ((258:Int).toNat) ((258:Int).toNat) V)]) (fun _ h=>h) ?_
  refine⟨_,Z,?_⟩
  obtain rfl:V=wH:=aXv hVl (fun j h1 h2=>hV j h1 (by omega))
  exact⟨_,_,_,Z,Z⟩
set_option maxHeartbeats 1000000 in
theorem uA {B:Nat} {w0:World} {R:List Row} {g:Nat} {A:Option Addr} {n c:Nat} {C:List Int} {sym:Int} (hn:n=C.length) (hs:0≤sym∧sym<C.length) (hok:lD C):
  Ct Tryz.prog 205 #[.pointer (GG g),I sym] B w0 (⟨256,2,(GG g),1,1,[.slice A n c,I (aU C)],false⟩::(ri 3 A n c C)::R) (fun v R'=>v= .bool true∧R'=⟨256,2,(GG g),1,1,[.slice A n c,I (aU (lF C sym))],false⟩::(ri 3 A n c (lF C sym))::R):=by
 subst hn
 have hcl:=hok.1
 have hpt:=hok.le.part (i:=sym) hs.1 (by omega)
 have hup:=hok.up (s:=sym) hs.1 (by omega)
 have hlim:=hok.2.2
 have hul:=hup.1.1
 have hsn:=tF hok.2.1
 refine fn1 Tryz.func205 Z Z Z ?_
 refine wq<|wg Z<|aA<|aG<|wq<|wm Z<|wm Z<|wa (aD aVx Z ((GQ Z (by omega)))) ?_
 rintro _ _ ⟨rfl,rfl⟩
 refine wy (dH Z)<|aA<|aQ Z<|aJ<|wq<|wm Z<|wy (aF Z)<|wy (aC (off:=0) (m:=0) underlying256 Z iB Z Z Z)<|wy (aK (rdr 0 Z) underlying52 Z Z Z)<|wm Z<|wy (aH underlying52 sz3 Z Z (rdr 1 Z) (by omega) (by omega))<|wy (aX underlying3 Z Z (rdr 1 Z) (by omega) (by omega))<|wA Z Z<|wy (aH underlying52 sz3 Z Z (rdr 1 Z) (by omega) (by omega)) ?_
 refine bY (bG 1 Z sz3 Z Z (by omega) (by omega)) ?_
 rintro _ _ rfl
 refine aA<|wq<|wm Z<|wy (aF Z)<|wy (aC (off:=1) (m:=1) underlying256 Z sz3 Z Z Z)<|wy (aK (rdr 0 Z) underlying3 Z Z Z)<|wA Z Z<|wy (aF Z)<|wy (aC (off:=1) (m:=1) underlying256 Z sz3 Z Z Z)<|bY (bF 0 Z Z Z sz3 Z Z Z Z (Nat.le_of_ble_eq_true Z)) ?_
 rintro _ _ rfl
 refine aA<|aG<|wq<|wm Z<|wy (aF Z)<|wy (aC (off:=1) (m:=1) underlying256 Z sz3 Z Z Z)<|wy (aK (rdr 0 Z) underlying3 Z Z Z)<|wy (dR Z Z)<|aA<|bM Z (fun hc1=> ?_) (fun hc1=> ?_)
 ·refine wq<|wm Z<|wy (aF Z)<|wy (aC (off:=1) (m:=1) underlying256 Z sz3 Z Z Z)<|bY (bF 0 Z Z Z sz3 Z Z Z Z (Nat.le_of_ble_eq_true Z)) ?_
  rintro _ _ rfl
  refine aA<|wq<|wm Z<|wy (aF Z)<|wy (aC (off:=0) (m:=0) underlying256 Z iB Z Z Z)<|wy (aK (rdr 0 Z) underlying52 Z Z Z)<|wy (aR underlying52 Z)<|wm Z<|aA<|aI ?_
  refine gF (fun(i:Int) (V:List Int) (t:Int)=>[(0, .pointer (GG g)),(38, .slice A C.length c),(39,I ((C.length:Nat):Int)),(40,I i)]) (fun(i:Int) (V:List Int) (t:Int)=>(⟨256,2,(GG g),1,1,[.slice A C.length c,I t],false⟩::(ri 3 A C.length c V)::R)) (fun(i:Int) (V:List Int) (t:Int)=>(0≤i)∧(i≤258)∧(JN (upd C sym (rd C sym+32)) V i t)) (fun(i:Int) (V:List Int) (t:Int)=>(258-i).toNat) ?_ ?_
  ·exact⟨0,upd C sym ((rd C sym)+32),0,⟨(by omega),(by omega),(YP hul)⟩,(G4 Z Z Z Z),fun _ h=>h⟩
  intro i V t ⟨hi0,hi1,hI⟩
  have hhp:=hup.1.part (i:=i) hi0
  have hhq:=hup.1.half.le.part (i:=i) hi0
  have hVl:=hI.len
  have hsm:=hI.sum
  refine wq<|wL Z Z<|aA<|aG<|bM Z (fun hc2=> ?_) (fun hc2=> ?_)
  ·have hhp:=hhp (by omega)
   have hhq:=hhq (by omega)
   have hlf:=hI.left i (by omega) (by omega)
   have hrs:=eG (l:=V) (i:=i) (v:=(rd V i+1)/2) hi0 (by omega)
   have hht:0≤t∧t≤65536:=by rw[hsm];exact hhq.1
   refine aJ<|aG<|aI<|wq<|wm Z<|wy (aH underlying52 sz3 Z Z (rdr 1 Z) (by omega) (by omega))<|wy (aX underlying3 Z Z (rdr 1 Z) (by omega) (by omega))<|wg Z<|wg Z<|aA<|wq<|wm Z<|wy (aF Z) ?_
   refine wy (aC (off:=0) (m:=0) underlying256 Z iB Z Z Z)<|wy (aK (rdr 0 Z) underlying52 Z Z Z)<|wm Z<|wm Z<|wA Z Z<|wy (NU Z Z (by omega) (by omega) (by omega))<|wy (aH underlying52 sz3 Z Z (rdr 1 Z) (by omega) (by omega))<|bY (bG 1 Z sz3 Z Z (by omega) (by omega)) ?_
   rintro _ _ rfl
   refine aA<|bT mixed<|wD 0 Z (aM Z)<|wD 1 Z (aF Z)<|wD 2 Z (aC (off:=1) (m:=1) underlying256 Z sz3 Z Z Z)<|wD 3 Z (aK (rdr 0 Z) underlying3 Z Z Z)<|wD 4 Z (aM Z)<|wD 5 Z (aF Z)<|wD 6 Z (aC (off:=0) (m:=0) underlying256 Z iB Z Z Z)<|wD 7 Z (aK (rdr 0 Z) underlying52 Z Z Z)<|wD 8 Z (aM Z)<|wD 9 Z (aH underlying52 sz3 Z Z (rdr 1 Z) (by omega) (by omega))<|wD 10 Z (aX underlying3 Z Z (rdr 1 Z) (by omega) (by omega))<|wD 11 Z (dG Z Z (by omega))<|wD 12 Z (aF Z) ?_
   refine wD 13 Z (aC (off:=1) (m:=1) underlying256 Z sz3 Z Z Z)<|qJ 14 Z (by kernel_rfl) (bF 0 Z Z Z sz3 Z Z Z Z (Nat.le_of_ble_eq_true Z)) ?_
   rintro _ _ rfl
   refine⟨.inl (by kernel_rfl),?_⟩
   refine bP (by kernel_rfl)<|aL<|wA Z Z<|wm Z<|aA ?_
   exact⟨i+1,upd V i (((rd V i)+1)/2),(t+rd (upd V i ((rd V i+1)/2)) i),⟨(by omega),(by omega),(hI.step hul hi0 (by omega))⟩,(by omega),(G4 Z Z Z Z),fun _ h=>h⟩
  ·refine aZ<|wq<|wg Z<|aA<|bX (R1:=(⟨256,2,(GG g),1,1,[.slice A C.length c,I t],false⟩::(ri 3 A C.length c V)::R)) (fun _ h=>h) ?_
   refine⟨_,Z,?_⟩
   obtain rfl:i=258:=by omega
   obtain⟨e1,e2⟩:=hI.done_all hul
   have e3:lF C sym=V:=by unfold lF;rw[if_pos (by omega),e1]
   rw[e3,e1,←e2]
   exact⟨Z,Z⟩
 ·refine aJ<|wq<|wg Z<|aA<|bX (R1:=(⟨256,2,(GG g),1,1,[.slice A C.length c,I ((aU C)+32)],false⟩::(ri 3 A C.length c (upd C sym ((rd C sym)+32)))::R)) (fun _ h=>h) ?_
  refine⟨_,Z,?_⟩
  have e3:lF C sym=(upd C sym (rd C sym+32)):=by unfold lF;rw[if_neg (by omega)]
  rw[e3,hup.2]
  exact⟨Z,Z⟩
theorem CE {w:World} {low:Int} {size:Int} {total:Int} (hsp:uP low size total):
  Ct Tryz.prog 203 #[I low,I size,I total] w.heap.size w [] (fun v R'=>v= .bool true):=by
 refine fn1 Tryz.func203 Z Z Z ?_
 obtain⟨s1,s2,s3,s4⟩:=hsp
 refine wq<|wg Z<|aA<|wq<|wm Z<|wy (Yl.t (vL Z Z) (by omega))<|wm Z<|aB Z Z<|wm Z<|aB Z Z<|wy (Yl.t (jS Z Z) (by omega))<|wy (aT Z Z)<|wm Z ?_
 refine aB Z Z<|wm Z<|aB Z Z<|wy (Yl.t (jS Z Z) (by omega))<|wy (aT Z Z)<|wm Z<|aB Z Z<|wm Z<|aB Z Z<|wm Z<|aB Z Z<|wy (Yl.t (vL Z Z) (by omega))<|wy (aT Z Z)<|wm Z<|aB Z Z ?_
 refine wm Z<|aB Z Z<|wm Z<|aB Z Z<|wm Z<|aB Z Z<|wS Z Z<|aB Z Z<|wy (Yl.t (vL Z Z) (by omega))<|wy (aT Z Z)<|wg Z<|aA<|dL ?_
 refine⟨_,Z,?_⟩
 rfl
theorem GM {w:World}:
  Ct Tryz.prog 128 #[] w.heap.size w [] (fun v R'=> ∃g A c,v= .pointer (GG g)∧R'=[⟨253,3,(GG g),1,1,[.slice A cd0.k c, .int .u64 (cd0.N%4294967296), .int .u64 cd0.R],false⟩,(ru 5 A cd0.k c (beL cd0.k (cd0.N/4294967296)))]):=by
 refine fn1 Tryz.func128 Z Z Z ?_
 refine wq<|wg Z<|aA<|wq<|wy (dS (v:= .agg #[.slice none 0 0, .int .u64 0, .int .u64 4294967295]) Z (fun w=>by kernel_rfl))<|wa (dV (sz:=3) rfl rfl) ?_
 rintro _ _ ⟨g_1,rfl,rfl⟩
 refine dK (R1:=[(ru 5 none 0 0 ([])),⟨253,3,(GG g_1),1,1,[.slice none 0 0, .int .u64 0, .int .u64 4294967295],false⟩]) (Sub.refl _) (fun _ h=>h.nil 5 1)<|wg Z<|aA<|bA [1,0] 99 (by decide) Z ?_
 refine⟨_,Z,?_⟩
 exact⟨_,_,_,Z,Z⟩
theorem PN {B:Nat} {w0:World} {R:List Row} {g:Nat} {A:Option Addr} {n c:Nat} {b:List Int} {x r:Int} (hn:n=b.length) (hb:aN b) (hL:b.length≤1000000):
  Ct Tryz.prog 204 #[.pointer (GG g)] B w0 (⟨253,3,(GG g),1,1,[.slice A n c, .int .u64 x, .int .u64 r],false⟩::(ru 5 A n c b)::R) (fun v R'=>v= .tuple #[]∧R'=⟨253,3,(GG g),1,1,[.slice A n c, .int .u64 x, .int .u64 r],false⟩::(ru 5 A n c (CV b 1))::R):=by
 subst hn
 refine fn0 Tryz.func204 Z Z Z ?_
 refine wq<|wm Z<|wy (aF Z)<|wy (aC (off:=0) (m:=0) underlying253 Z fP Z Z Z)<|wy (aK (rdr 0 Z) underlying22 Z Z Z)<|wy (aR underlying22 Z)<|wS Z Z<|wg Z<|aA<|aI ?_
 refine dW (fun(i:Int) (V:List Int)=>[(0, .pointer (GG g)),(2,I i)]) (fun(i:Int) (V:List Int)=>(⟨253,3,(GG g),1,1,[.slice A b.length c, .int .u64 x, .int .u64 r],false⟩::(ru 5 A b.length c V)::R)) (fun(i:Int) (V:List Int)=>(-1≤i)∧(i<b.length)∧(aAl b 1 V i 1)) (fun(i:Int) (V:List Int)=>(i+1).toNat) ?_ ?_
 ·exact⟨((b.length:Nat):Int)-1,b,⟨(by omega),(by omega),(aIl hb Z)⟩,(G2 Z Z),fun _ h=>h⟩
 intro i V ⟨hi0,hi1,hI⟩
 have hVl:=hI.1
 have hVb:=hI.2.1.rd i
 have hrs:=eG (l:=V) (i:=i) (v:=(rd V i+1)%256)
 refine aG<|wq<|wm Z<|wy (jS Z Z)<|aA<|bM Z (fun hc1=> ?_) (fun hc1=> ?_)
 ·have hrs:=hrs (by omega) (by omega)
  refine aJ<|aG<|aI<|wq<|wm Z<|wy (aF Z)<|wy (aC (off:=0) (m:=0) underlying253 Z fP Z Z Z)<|wy (aK (rdr 0 Z) underlying22 Z Z Z)<|wm Z<|wy (aH underlying22 sz5 Z Z (rdr 1 Z) (by omega) (by omega))<|wy (aX underlying5 Z Z (rdr 1 Z) (by omega) (by omega))<|wy (aWp Z Z)<|wy (aH underlying22 sz5 Z Z (rdr 1 Z) (by omega) (by omega))<|bY (bG 1 Z sz5 Z Z (by omega) (by omega)) ?_
  rintro _ _ rfl
  refine aA<|wq<|wm Z<|wy (aF Z)<|wy (aC (off:=0) (m:=0) underlying253 Z fP Z Z Z)<|wy (aK (rdr 0 Z) underlying22 Z Z Z)<|wm Z<|wy (aH underlying22 sz5 Z Z (rdr 1 Z) (by omega) (by omega))<|wy (aX underlying5 Z Z (rdr 1 Z) (by omega) (by omega))<|wy (iT Z Z)<|aA<|bM Z (fun hc2=> ?_) (fun hc2=> ?_)
  ·refine bX (R1:=(⟨253,3,(GG g),1,1,[.slice A b.length c, .int .u64 x, .int .u64 r],false⟩::(ru 5 A b.length c (upd V i (((rd V i)+1)%256)))::R)) (fun _ h=>h) ?_
   skip
   have e:upd V i ((rd V i+1)%256)=CV b 1:=(hI.step (y:=0) (d:=(rd V i+1)%256) (by omega) (by omega) (by omega) (by omega)).stop (.inl rfl)
   rw[e]
   exact⟨Z,Z⟩
  ·refine aJ<|aL<|wm Z<|wS Z Z<|wg Z<|aA ?_
   exact⟨i-1,upd V i (((rd V i)+1)%256),⟨(by omega),(by omega),(hI.step (by omega) (by omega) (by omega) (by omega))⟩,(by omega),(G2 Z Z),fun _ h=>h⟩
 ·refine aZ ?_
  skip
  obtain rfl:=hI.stop (.inr (by omega))
  exact⟨Z,Z⟩
set_option maxHeartbeats 1000000 in
theorem FT {B:Nat} {w0:World} {R:List Row} {g:Nat} {A:Option Addr} {n c:Nat} {s:CdS} {low size total:Int} (hn:n=s.k) (hc:WC s) (hsp:uP low size total) (hk:s.k≤1000000):
  Ct Tryz.prog 132 #[.pointer (GG g),I low,I size,I total] B w0 (⟨253,3,(GG g),1,1,[.slice A n c, .int .u64 (s.N%4294967296), .int .u64 s.R],false⟩::(ru 5 A n c (beL s.k (s.N/4294967296)))::R) (fun v R'=> ∃(A1:Option Addr) (c1:Nat),v= .bool true∧R'=⟨253,3,(GG g),1,1,[.slice A1 ((gV s low size total).k) c1, .int .u64 ((gV s low size total).N%4294967296), .int .u64 ((gV s low size total).R)],false⟩::(ru 5 A1 ((gV s low size total).k) c1 (beL (gV s low size total).k ((gV s low size total).N/4294967296)))::R):=by
 subst hn
 obtain⟨r0,r1,n0,nr⟩:=hc
 have hsp':=hsp
 obtain⟨s1,s2,s3,s4⟩:=hsp'
 obtain⟨f1,f2,f3,f4,f5⟩:=oN hsp ⟨r0,r1⟩
 refine fn1 Tryz.func132 Z Z Z ?_
 refine wq<|wg Z<|aA<|aG<|wq<|wm Z<|wy (jR underlying181 Z Z)<|wm Z<|aB Z Z<|wm Z<|aB Z Z<|wm Z<|aB Z Z ?_
 refine wm Z<|aB Z Z<|wa (aD aVw Z (Ct.quiet (fun w hw=>CE hsp))) ?_
 rintro _ _ ⟨rfl,rfl⟩
 refine aB Z Z<|wy (dH Z)<|wy (aP Z Z)<|aA<|aQ Z<|aJ<|wq<|wm Z<|wy (aF Z)<|wy (aC (off:=2) (m:=2) underlying253 Z dP Z Z Z)<|wy (aK (rdr 0 Z) underlying112 Z Z Z)<|wm Z<|wy (iX underlying3 underlying112 Z (by omega))<|wy (EC Z Z (by omega) (by omega)) ?_
 refine wg Z<|aA<|wq<|wm Z<|wy (aF Z)<|wy (aC (off:=1) (m:=1) underlying253 Z dP Z Z Z)<|wy (aK (rdr 0 Z) underlying112 Z Z Z)<|wm Z<|wm Z<|wy (iX underlying3 underlying112 Z (by omega))<|wy (vV Z Z (by omega))<|wy (aWo Z Z (by omega))<|wy (aF Z)<|wy (aC (off:=1) (m:=1) underlying253 Z dP Z Z Z) ?_
 refine bY (bF 0 Z Z Z dP Z Z Z Z (Nat.le_of_ble_eq_true Z)) ?_
 rintro _ _ rfl
 refine aA<|aG<|wq<|wm Z<|wy (aF Z)<|wy (aC (off:=1) (m:=1) underlying253 Z dP Z Z Z)<|wy (aK (rdr 0 Z) underlying112 Z Z Z)<|wy (pO (k:=32) (m:=4294967296) Z Z Z (by omega) Z)<|wy (dR Z Z)<|aA<|bM Z (fun hc1=> ?_) (fun hc1=> ?_)
 ·refine wq<|wm Z<|wy (aF Z)<|wy (aC (off:=1) (m:=1) underlying253 Z dP Z Z Z)<|wy (aK (rdr 0 Z) underlying112 Z Z Z)<|wy (NW (m:=4294967296) 32 Z Z Z Z (by omega) Z)<|wy (aF Z)<|wy (aC (off:=1) (m:=1) underlying253 Z dP Z Z Z)<|bY (bF 0 Z Z Z dP Z Z Z Z (Nat.le_of_ble_eq_true Z)) ?_
  rintro _ _ rfl
  refine aA<|aL<|wm Z<|wa (aD bBv Z ((PN (by rw[kQ]) (BH _ _) (by rw[kQ];omega)))) ?_
  rintro _ _ ⟨rfl,rfl⟩
  refine aA<|aG<|wq<|wm Z<|wm Z<|wm Z<|wy (iX underlying3 underlying112 Z (by omega))<|wy (vV Z Z (by omega))<|wy (aF Z)<|wy (aC (off:=2) (m:=2) underlying253 Z dP Z Z Z)<|bY (bF 0 Z Z Z dP Z Z Z Z (Nat.le_of_ble_eq_true Z)) ?_
  rintro _ _ rfl
  refine aA<|aI ?_
  refine CZ (fun(j:Nat) (A1:Option Addr) (n1:Nat) (c1:Nat) (V:List Int) (x:Int) (r:Int) (M:Int)=>[(0, .pointer (GG g))]) (fun(j:Nat) (A1:Option Addr) (n1:Nat) (c1:Nat) (V:List Int) (x:Int) (r:Int) (M:Int)=>(⟨253,3,(GG g),1,1,[.slice A1 n1 c1, .int .u64 x, .int .u64 r],false⟩::(ru 5 A1 n1 c1 V)::R)) (fun(j:Nat) (A1:Option Addr) (n1:Nat) (c1:Nat) (V:List Int) (x:Int) (r:Int) (M:Int)=>(M=(s.N+s.R/total*low)*256^j)∧(r=(s.R/total*size)*256^j)∧(j≤shN (s.R/total*size))∧(V=beL (s.k+j) (M/4294967296))∧(x=M%4294967296)∧(n1=s.k+j)) (fun(j:Nat) (A1:Option Addr) (n1:Nat) (c1:Nat) (V:List Int) (x:Int) (r:Int) (M:Int)=>(4-j)) ?_ ?_
  ·exact⟨0,A,s.k,c,CV (beL s.k (s.N/4294967296)) 1,((s.N%4294967296)+((s.R/total)*low))%4294967296,(s.R/total)*size,(s.N+s.R/total*low),⟨(by rw[Int.pow_zero,Int.mul_one]),(by rw[Int.pow_zero,Int.mul_one]),(Nat.zero_le _),(by first|(rw[PW,Nat.add_zero,show(s.N+s.R/total*low)/4294967296=s.N/4294967296+1 by omega])|(rw[Nat.add_zero,show(s.N+s.R/total*low)/4294967296=s.N/4294967296 by omega])),(by omega),(Z)⟩,(G1 Z),fun _ h=>h⟩
  intro j A1 n1 c1 V x r M ⟨hM,hr,hj,hV,hx,hn1⟩
  have hsl:=ET (s.R/total*size)
  have hrp:1≤r:=by rw[hr];exact FU (by omega)
  refine aG<|wq<|wm Z<|wy (aF Z)<|wy (aC (off:=2) (m:=2) underlying253 Z dP Z Z Z)<|wy (aK (rdr 0 Z) underlying112 Z Z Z)<|wL Z Z<|aA<|bM Z (fun hc2=> ?_) (fun hc2=> ?_)
  ·refine aJ<|aG<|aI<|aG<|bT mixed<|wD 0 Z (aM Z)<|wD 1 Z (aM Z)<|wD 2 Z (aF Z)<|wD 3 Z (aC (off:=0) (m:=0) underlying253 Z fP Z Z Z)<|wD 4 Z (aK (rdr 0 Z) underlying22 Z Z Z)<|wD 5 Z (aM Z)<|wD 6 Z (aF Z)<|wD 7 Z (aC (off:=1) (m:=1) underlying253 Z dP Z Z Z)<|wD 8 Z (aK (rdr 0 Z) underlying112 Z Z Z)<|wD 9 Z (pO (k:=24) (m:=16777216) Z Z Z (by omega) Z) ?_
   refine wD 10 Z (iA underlying112 underlying5 Z)<|fO 11 Z (by kernel_rfl) Z (cB .u8 [(x/16777216)%256] underlying22 zs5 Z Z Z) ?_
   rintro _ _ ⟨g_2,rfl,rfl⟩
   refine⟨.inr fun _ h=>h.right (R':=[_]),?_⟩
   refine fO 12 Z (by kernel_rfl) Z (bD 2 Z underlying22 zb5 Z Z Z (rdr 0 Z) (by omega)) ?_
   rintro _ _ ⟨A_3,c_4,rfl,rfl⟩
   refine⟨.inl (by kernel_rfl),?_⟩
   refine EI (v:= .slice A_3 (n1+1) c_4) Z<|wD 13 Z (aF Z)<|wD 14 Z (aC (off:=0) (m:=0) underlying253 Z fP Z Z Z)<|qJ 15 Z (by kernel_rfl) (bF 1 Z Z Z fP Z Z Z Z (Nat.le_of_ble_eq_true Z)) ?_
   rintro _ _ rfl
   refine⟨.inl (by kernel_rfl),?_⟩
   refine bP (by kernel_rfl)<|aL<|wm Z<|wm Z<|wy (aF Z)<|wy (aC (off:=1) (m:=1) underlying253 Z dP Z Z Z)<|wy (aK (rdr 1 Z) underlying112 Z Z Z)<|wy (vU (k:=8) (m:=256) Z Z Z (by omega) Z)<|wy (NW (m:=4294967296) 32 Z Z Z Z (by omega) Z)<|wy (aF Z)<|wy (aC (off:=1) (m:=1) underlying253 Z dP Z Z Z)<|bY (bF 1 Z Z Z dP Z Z Z Z (Nat.le_of_ble_eq_true Z)) ?_
   rintro _ _ rfl
   refine aA<|aL<|wm Z<|wy (aF Z)<|wy (aC (off:=2) (m:=2) underlying253 Z dP Z Z Z)<|wy (aK (rdr 1 Z) underlying112 Z Z Z)<|wy (vU (k:=8) (m:=256) Z Z Z (by omega) Z)<|wy (aF Z)<|wy (aC (off:=2) (m:=2) underlying253 Z dP Z Z Z)<|bY (bF 1 Z Z Z dP Z Z Z Z (Nat.le_of_ble_eq_true Z)) ?_
   rintro _ _ rfl
   refine aA ?_
   exact⟨(j+1),A_3,n1+1,c_4,V++([(x/16777216)%256]),(x*256)%4294967296,r*256,(M*256),⟨(by rw[hM,Int.mul_assoc,←Int.pow_succ]),(by rw[hr,Int.mul_assoc,←Int.pow_succ]),(ES (by omega) hj (by rw[←hr];assumption)),(by rw[hV,hx];exact(VQ _ _).symm),(by omega),(by rw[hn1];rfl)⟩,(by omega),(G1 Z),fun _ h=>h.selR (F:=[_,_,_]) (F':=[_,_]) [1,2] (by decide) Z⟩
  ·refine aZ<|wq<|wg Z<|aA<|bX (R1:=(⟨253,3,(GG g),1,1,[.slice A1 n1 c1, .int .u64 x, .int .u64 r],false⟩::(ru 5 A1 n1 c1 V)::R)) (fun _ h=>h) ?_
   refine⟨_,Z,?_⟩
   obtain rfl:j=shN (s.R/total*size):=OE (by omega) hj (by rw[←hr];omega)
   refine⟨A1,c1,Z,?_⟩
   rw[hV,hx,hr,hM,hn1]
   rfl
 ·refine aJ<|aG<|wq<|wm Z<|wm Z<|wm Z<|wy (iX underlying3 underlying112 Z (by omega))<|wy (vV Z Z (by omega))<|wy (aF Z)<|wy (aC (off:=2) (m:=2) underlying253 Z dP Z Z Z)<|bY (bF 0 Z Z Z dP Z Z Z Z (Nat.le_of_ble_eq_true Z)) ?_
  rintro _ _ rfl
  refine aA<|aI ?_
  refine CZ (fun(j:Nat) (A1:Option Addr) (n1:Nat) (c1:Nat) (V:List Int) (x:Int) (r:Int) (M:Int)=>[(0, .pointer (GG g))]) (fun(j:Nat) (A1:Option Addr) (n1:Nat) (c1:Nat) (V:List Int) (x:Int) (r:Int) (M:Int)=>(⟨253,3,(GG g),1,1,[.slice A1 n1 c1, .int .u64 x, .int .u64 r],false⟩::(ru 5 A1 n1 c1 V)::R)) (fun(j:Nat) (A1:Option Addr) (n1:Nat) (c1:Nat) (V:List Int) (x:Int) (r:Int) (M:Int)=>(M=(s.N+s.R/total*low)*256^j)∧(r=(s.R/total*size)*256^j)∧(j≤shN (s.R/total*size))∧(V=beL (s.k+j) (M/4294967296))∧(x=M%4294967296)∧(n1=s.k+j)) (fun(j:Nat) (A1:Option Addr) (n1:Nat) (c1:Nat) (V:List Int) (x:Int) (r:Int) (M:Int)=>(4-j)) ?_ ?_
  ·exact⟨0,A,s.k,c,beL s.k (s.N/4294967296),(s.N%4294967296)+((s.R/total)*low),(s.R/total)*size,(s.N+s.R/total*low),⟨(by rw[Int.pow_zero,Int.mul_one]),(by rw[Int.pow_zero,Int.mul_one]),(Nat.zero_le _),(by first|(rw[PW,Nat.add_zero,show(s.N+s.R/total*low)/4294967296=s.N/4294967296+1 by omega])|(rw[Nat.add_zero,show(s.N+s.R/total*low)/4294967296=s.N/4294967296 by omega])),(by omega),(Z)⟩,(G1 Z),fun _ h=>h⟩
  intro j A1 n1 c1 V x r M ⟨hM,hr,hj,hV,hx,hn1⟩
  have hsl:=ET (s.R/total*size)
  have hrp:1≤r:=by rw[hr];exact FU (by omega)
  refine aG<|wq<|wm Z<|wy (aF Z)<|wy (aC (off:=2) (m:=2) underlying253 Z dP Z Z Z)<|wy (aK (rdr 0 Z) underlying112 Z Z Z)<|wL Z Z<|aA<|bM Z (fun hc3=> ?_) (fun hc3=> ?_)
  ·refine aJ<|aG<|aI<|aG<|bT mixed<|wD 0 Z (aM Z)<|wD 1 Z (aM Z)<|wD 2 Z (aF Z)<|wD 3 Z (aC (off:=0) (m:=0) underlying253 Z fP Z Z Z)<|wD 4 Z (aK (rdr 0 Z) underlying22 Z Z Z)<|wD 5 Z (aM Z)<|wD 6 Z (aF Z)<|wD 7 Z (aC (off:=1) (m:=1) underlying253 Z dP Z Z Z)<|wD 8 Z (aK (rdr 0 Z) underlying112 Z Z Z)<|wD 9 Z (pO (k:=24) (m:=16777216) Z Z Z (by omega) Z) ?_
   refine wD 10 Z (iA underlying112 underlying5 Z)<|fO 11 Z (by kernel_rfl) Z (cB .u8 [(x/16777216)%256] underlying22 zs5 Z Z Z) ?_
   rintro _ _ ⟨g_6,rfl,rfl⟩
   refine⟨.inr fun _ h=>h.right (R':=[_]),?_⟩
   refine fO 12 Z (by kernel_rfl) Z (bD 2 Z underlying22 zb5 Z Z Z (rdr 0 Z) (by omega)) ?_
   rintro _ _ ⟨A_7,c_8,rfl,rfl⟩
   refine⟨.inl (by kernel_rfl),?_⟩
   refine EI (v:= .slice A_7 (n1+1) c_8) Z<|wD 13 Z (aF Z)<|wD 14 Z (aC (off:=0) (m:=0) underlying253 Z fP Z Z Z)<|qJ 15 Z (by kernel_rfl) (bF 1 Z Z Z fP Z Z Z Z (Nat.le_of_ble_eq_true Z)) ?_
   rintro _ _ rfl
   refine⟨.inl (by kernel_rfl),?_⟩
   refine bP (by kernel_rfl)<|aL<|wm Z<|wm Z<|wy (aF Z)<|wy (aC (off:=1) (m:=1) underlying253 Z dP Z Z Z)<|wy (aK (rdr 1 Z) underlying112 Z Z Z)<|wy (vU (k:=8) (m:=256) Z Z Z (by omega) Z)<|wy (NW (m:=4294967296) 32 Z Z Z Z (by omega) Z)<|wy (aF Z)<|wy (aC (off:=1) (m:=1) underlying253 Z dP Z Z Z)<|bY (bF 1 Z Z Z dP Z Z Z Z (Nat.le_of_ble_eq_true Z)) ?_
   rintro _ _ rfl
   refine aA<|aL<|wm Z<|wy (aF Z)<|wy (aC (off:=2) (m:=2) underlying253 Z dP Z Z Z)<|wy (aK (rdr 1 Z) underlying112 Z Z Z)<|wy (vU (k:=8) (m:=256) Z Z Z (by omega) Z)<|wy (aF Z)<|wy (aC (off:=2) (m:=2) underlying253 Z dP Z Z Z)<|bY (bF 1 Z Z Z dP Z Z Z Z (Nat.le_of_ble_eq_true Z)) ?_
   rintro _ _ rfl
   refine aA ?_
   exact⟨(j+1),A_7,n1+1,c_8,V++([(x/16777216)%256]),(x*256)%4294967296,r*256,(M*256),⟨(by rw[hM,Int.mul_assoc,←Int.pow_succ]),(by rw[hr,Int.mul_assoc,←Int.pow_succ]),(ES (by omega) hj (by rw[←hr];assumption)),(by rw[hV,hx];exact(VQ _ _).symm),(by omega),(by rw[hn1];rfl)⟩,(by omega),(G1 Z),fun _ h=>h.selR (F:=[_,_,_]) (F':=[_,_]) [1,2] (by decide) Z⟩
  ·refine aZ<|wq<|wg Z<|aA<|bX (R1:=(⟨253,3,(GG g),1,1,[.slice A1 n1 c1, .int .u64 x, .int .u64 r],false⟩::(ru 5 A1 n1 c1 V)::R)) (fun _ h=>h) ?_
   refine⟨_,Z,?_⟩
   obtain rfl:j=shN (s.R/total*size):=OE (by omega) hj (by rw[←hr];omega)
   refine⟨A1,c1,Z,?_⟩
   rw[hV,hx,hr,hM,hn1]
   rfl
theorem aNx {B:Nat} {w0:World} {R:List Row} {g:Nat} {A:Option Addr} {n c:Nat} {s:CdS} (hn:n=s.k) (hk:s.k≤1000000):
  Ct Tryz.prog 135 #[.pointer (GG g)] B w0 (⟨253,3,(GG g),1,1,[.slice A n c, .int .u64 (s.N%4294967296), .int .u64 s.R],false⟩::(ru 5 A n c (beL s.k (s.N/4294967296)))::R) (fun v R'=> ∃(A1:Option Addr) (c1:Nat),v= .slice A1 (s.k+4) c1∧R'=(ru 5 A1 (s.k+4) c1 (beL (s.k+4) s.N))::⟨253,3,(GG g),1,1,[.slice A n c, .int .u64 (s.N%4294967296), .int .u64 s.R],false⟩::(ru 5 A n c (beL s.k (s.N/4294967296)))::R):=by
 subst hn
 have hbl:=kQ s.k (s.N/4294967296)
 refine fn1 Tryz.func135 Z Z Z ?_
 refine wq<|wg Z<|aA<|aG<|wq<|wm Z<|wy (jR underlying181 Z Z)<|aA<|aQ Z<|aJ<|wq<|wm Z ?_
 refine wy (aF Z)<|wy (aC (off:=0) (m:=0) underlying253 Z fP Z Z Z)<|wy (aK (rdr 0 Z) underlying22 Z Z Z)<|wa (aD aHd Z (Ct.fresh (fun w hw=>oG ((rdr 1 Z) w hw) (by rw[kQ];exact hk)))) ?_
 rintro _ _ ⟨_,rfl,A_1,c_2,rfl,rfl⟩
 refine wg Z<|aA<|aG<|wq<|wm Z<|aA<|aI<|qK 5<|eB<|wq<|wy (Yl.t (fG Z Z) (by decide))<|aA<|aG ?_
 refine dB Z<|aJ<|aG<|aI<|wq<|wm Z<|wg Z<|aA<|aL<|wm Z<|wm Z<|wy (aF Z)<|wy (aC (off:=1) (m:=1) underlying253 Z dP Z Z Z)<|wy (aK (rdr 1 Z) underlying112 Z Z Z) ?_
 refine wm Z<|wy (Yl.is (dG Z Z (by omega)) Z)<|wy (Yl.is (iF Z Z (by omega)) Z)<|wy (Yl.is (oI Z Z (by omega)) Z)<|wy (pO (k:=24) (m:=16777216) Z Z Z (by omega) Z)<|wy (iA underlying112 underlying5 Z)<|wa (cB .u8 [((s.N%4294967296)/16777216)%256] underlying22 zs5 Z Z Z) ?_
 rintro _ _ ⟨g_4,rfl,rfl⟩
 refine wa (bD 1 Z underlying22 zb5 Z Z Z (rdr 0 Z) (by omega)) ?_
 rintro _ _ ⟨A_5,c_6,rfl,rfl⟩
 refine bO (v:= .slice A_5 (((beL s.k (s.N/4294967296)).length)+1) c_6) Z<|wg Z<|aA<|aL<|wy (Yl.is (dG Z Z (by omega)) Z)<|wm Z<|aA<|eB<|wq<|wy (Yl.t (fG Z Z) (by decide))<|aA<|aG<|dB Z<|aJ ?_
 refine aG<|aI<|wq<|wm Z<|wg Z<|aA<|aL<|wm Z<|wm Z<|wy (aF Z)<|wy (aC (off:=1) (m:=1) underlying253 Z dP Z Z Z)<|wy (aK (rdr 2 Z) underlying112 Z Z Z)<|wm Z<|wy (Yl.is (dG Z Z (by omega)) Z) ?_
 refine wy (Yl.is (iF Z Z (by omega)) Z)<|wy (Yl.is (oI Z Z (by omega)) Z)<|wy (pO (k:=16) (m:=65536) Z Z Z (by omega) Z)<|wy (iA underlying112 underlying5 Z)<|wa (cB .u8 [((s.N%4294967296)/65536)%256] underlying22 zs5 Z Z Z) ?_
 rintro _ _ ⟨g_8,rfl,rfl⟩
 refine wa (bD 2 Z underlying22 zb5 Z Z Z (rdr 0 Z) (by omega)) ?_
 rintro _ _ ⟨A_9,c_10,rfl,rfl⟩
 refine bO (v:= .slice A_9 ((((beL s.k (s.N/4294967296)).length)+1)+1) c_10) Z<|wg Z<|aA<|aL<|wy (Yl.is (dG Z Z (by omega)) Z)<|wm Z<|aA<|eB<|wq<|wy (Yl.t (fG Z Z) (by decide))<|aA<|aG<|dB Z<|aJ ?_
 refine aG<|aI<|wq<|wm Z<|wg Z<|aA<|aL<|wm Z<|wm Z<|wy (aF Z)<|wy (aC (off:=1) (m:=1) underlying253 Z dP Z Z Z)<|wy (aK (rdr 3 Z) underlying112 Z Z Z)<|wm Z<|wy (Yl.is (dG Z Z (by omega)) Z) ?_
 refine wy (Yl.is (iF Z Z (by omega)) Z)<|wy (Yl.is (oI Z Z (by omega)) Z)<|wy (pO (k:=8) (m:=256) Z Z Z (by omega) Z)<|wy (iA underlying112 underlying5 Z)<|wa (cB .u8 [((s.N%4294967296)/256)%256] underlying22 zs5 Z Z Z) ?_
 rintro _ _ ⟨g_12,rfl,rfl⟩
 refine wa (bD 3 Z underlying22 zb5 Z Z Z (rdr 0 Z) (by omega)) ?_
 rintro _ _ ⟨A_13,c_14,rfl,rfl⟩
 refine bO (v:= .slice A_13 (((((beL s.k (s.N/4294967296)).length)+1)+1)+1) c_14) Z<|wg Z<|aA<|aL<|wy (Yl.is (dG Z Z (by omega)) Z)<|wm Z<|aA<|eB<|wq<|wy (Yl.t (fG Z Z) (by decide))<|aA<|aG<|dB Z<|aJ ?_
 refine aG<|aI<|wq<|wm Z<|wg Z<|aA<|aL<|wm Z<|wm Z<|wy (aF Z)<|wy (aC (off:=1) (m:=1) underlying253 Z dP Z Z Z)<|wy (aK (rdr 4 Z) underlying112 Z Z Z)<|wm Z<|wy (Yl.is (dG Z Z (by omega)) Z) ?_
 refine wy (Yl.is (iF Z Z (by omega)) Z)<|wy (Yl.is (oI Z Z (by omega)) Z)<|wy (pO (k:=0) (m:=1) Z Z Z (by omega) Z)<|wy (iA underlying112 underlying5 Z)<|wa (cB .u8 [((s.N%4294967296)/1)%256] underlying22 zs5 Z Z Z) ?_
 rintro _ _ ⟨g_16,rfl,rfl⟩
 refine wa (bD 4 Z underlying22 zb5 Z Z Z (rdr 0 Z) (by omega)) ?_
 rintro _ _ ⟨A_17,c_18,rfl,rfl⟩
 refine bO (v:= .slice A_17 ((((((beL s.k (s.N/4294967296)).length)+1)+1)+1)+1) c_18) Z<|wg Z<|aA<|aL<|wy (Yl.is (dG Z Z (by omega)) Z)<|wm Z<|aA<|eB<|wq<|wy (Yl.f (fG Z Z) (by decide))<|aA<|aG<|aQ Z<|aZ ?_
 refine wq<|wm Z<|wg Z<|aA<|bA [4,5,6] 7 (by decide) Z ?_
 refine⟨_,Z,?_⟩
 have e:(beL s.k (s.N/4294967296)).length+1+1+1+1=s.k+4:=by omega
 rw[e,←aUk s.k s.N _ rfl]
 exact⟨_,_,Z,Z⟩
theorem wQ {w:World} {sym:Int}:
  Ct Tryz.prog 206 #[I sym] w.heap.size w [] (fun v R'=>v=I (lC sym)):=by
 refine fn1 Tryz.func206 Z Z Z ?_
 refine wq<|wg Z<|aA<|aG<|aI<|wq<|wm Z<|wL Z Z<|wg Z<|aA<|bM Z (fun hc1=> ?_) (fun hc1=> ?_)
 ·refine wq<|wg Z<|aA<|dL ?_
  refine⟨_,Z,?_⟩
  exact congrArg (Value.int .i64) (by unfold lC;rw[if_pos (by assumption)])
 ·refine wq<|wm Z<|wL Z Z<|wg Z<|aA<|bM Z (fun hc2=> ?_) (fun hc2=> ?_)
  ·refine wq<|wg Z<|aA<|dL ?_
   refine⟨_,Z,?_⟩
   exact congrArg (Value.int .i64) (by unfold lC;rw[if_neg (by assumption),if_pos (by assumption)])
  ·refine aJ<|wq<|wg Z<|aA<|dL ?_
   refine⟨_,Z,?_⟩
   exact congrArg (Value.int .i64) (by unfold lC;rw[if_neg (by assumption),if_neg (by assumption)])
theorem yM {w:World} {o:Int} (ho:o=0∨o=1):
  Ct Tryz.prog 126 #[I o] w.heap.size w [] (fun v R'=>v= .bool true):=by
 refine fn1 Tryz.func126 Z Z Z ?_
 refine wq<|wg Z<|aA<|wq<|wm Z<|wy (dI Z Z)<|wm Z<|cZ 3 [(8, .bool (decide ((o=0)∨(o=1))))] [] ?_ ?_
 ·refine bR 5 Z (fun hc1=> ?_) (fun hc1=> ?_)
  ·refine aO Z Z Z Z<|aO Z Z Z Z<|wy (aT Z Z)<|aA ?_
   exact⟨(Sub.to Z mtA Sub.nil),fun _ h=>h⟩
  ·refine aB Z Z<|wm Z<|aB Z Z<|wy (dI Z Z)<|wy (aP Z Z)<|aA ?_
   exact⟨(Sub.to Z mbA Sub.nil),fun _ h=>h⟩
 refine pQ 8 Z (ho)<|wg Z<|aA<|dL ?_
 refine⟨_,Z,?_⟩
 rfl
theorem MH {w:World} {o:Int}:
  Ct Tryz.prog 127 #[I o] w.heap.size w [] (fun v R'=> ∃(g g0 g1 g2:Nat) (A0 A1 A2:Option Addr) (c0 c1 c2:Nat),v= .pointer (GG g)∧R'=[⟨250,5,(GG g),1,1,[.pointer (GG g0), .pointer (GG g1), .pointer (GG g2),I 0,I o],false⟩,⟨256,2,(GG g0),1,1,[.slice A0 258 c0,I 258],false⟩,(ri 3 A0 258 c0 wH),⟨256,2,(GG g1),1,1,[.slice A1 258 c1,I 258],false⟩,(ri 3 A1 258 c1 wH),⟨256,2,(GG g2),1,1,[.slice A2 258 c2,I 258],false⟩,(ri 3 A2 258 c2 wH)]):=by
 refine fn1 Tryz.func127 Z Z Z ?_
 refine wq<|wg Z<|aA<|wq<|wm Z<|wy (dS (v:= .agg #[.pointer none, .pointer none, .pointer none,I 0,I o]) Z (fun w=>by kernel_rfl))<|wa (dV (sz:=5) rfl rfl) ?_
 rintro _ _ ⟨g_1,rfl,rfl⟩
 refine wg Z<|aA<|aG<|wq<|wm Z<|aA<|aI<|qK 4<|eB<|wq<|wy (Yl.t (fG Z Z) (by decide))<|aA<|aG ?_
 refine dB Z<|aJ<|aG<|aI<|wq<|wm Z<|wg Z<|aA<|bT mixed<|wD 0 Z (aM Z)<|wD 1 Z (aM Z)<|wD 3 Z (aF Z)<|wD 4 Z (aC (off:=0) (m:=0) underlying250 Z KX Z Z Z)<|fO 2 Z (by kernel_rfl) Z (aD aOi Z (Ct.fresh (fun w hw=>uB))) ?_
 rintro _ _ ⟨_,rfl,g_2,A_3,c_4,rfl,rfl⟩
 refine⟨.inr fun _ h=>h.right (R':=[_,_]),?_⟩
 refine wD 5 Z (dD (q:=0) (rdr 2 Z) underlying248 xJ Z Z (Nat.le_of_ble_eq_true Z) (by decide) (by decide) Z)<|qJ 6 Z (by kernel_rfl) (bF 2 Z Z Z xJ Z Z Z Z (Nat.le_of_ble_eq_true Z)) ?_
 rintro _ _ rfl
 refine⟨.inl (by kernel_rfl),?_⟩
 refine bP (by kernel_rfl)<|aL<|wy (Yl.is (dG Z Z (by omega)) Z)<|wm Z<|aA<|eB<|wq<|wy (Yl.t (fG Z Z) (by decide))<|aA<|aG<|dB Z<|aJ<|aG<|aI ?_
 refine wq<|wm Z<|wg Z<|aA<|bT mixed<|wD 0 Z (aM Z)<|wD 1 Z (aM Z)<|wD 3 Z (aF Z)<|wD 4 Z (aC (off:=0) (m:=0) underlying250 Z KX Z Z Z)<|fO 2 Z (by kernel_rfl) Z (aD aOi Z (Ct.fresh (fun w hw=>uB))) ?_
 rintro _ _ ⟨_,rfl,g_6,A_7,c_8,rfl,rfl⟩
 refine⟨.inr fun _ h=>h.right (R':=[_,_]),?_⟩
 refine wD 5 Z (dD (q:=1) (rdr 4 Z) underlying248 xJ Z Z (Nat.le_of_ble_eq_true Z) (by decide) (by decide) Z)<|qJ 6 Z (by kernel_rfl) (bF 4 Z Z Z xJ Z Z Z Z (Nat.le_of_ble_eq_true Z)) ?_
 rintro _ _ rfl
 refine⟨.inl (by kernel_rfl),?_⟩
 refine bP (by kernel_rfl)<|aL<|wy (Yl.is (dG Z Z (by omega)) Z)<|wm Z<|aA<|eB<|wq<|wy (Yl.t (fG Z Z) (by decide))<|aA<|aG<|dB Z<|aJ<|aG<|aI ?_
 refine wq<|wm Z<|wg Z<|aA<|bT mixed<|wD 0 Z (aM Z)<|wD 1 Z (aM Z)<|wD 3 Z (aF Z)<|wD 4 Z (aC (off:=0) (m:=0) underlying250 Z KX Z Z Z)<|fO 2 Z (by kernel_rfl) Z (aD aOi Z (Ct.fresh (fun w hw=>uB))) ?_
 rintro _ _ ⟨_,rfl,g_10,A_11,c_12,rfl,rfl⟩
 refine⟨.inr fun _ h=>h.right (R':=[_,_]),?_⟩
 refine wD 5 Z (dD (q:=2) (rdr 6 Z) underlying248 xJ Z Z (Nat.le_of_ble_eq_true Z) (by decide) (by decide) Z)<|qJ 6 Z (by kernel_rfl) (bF 6 Z Z Z xJ Z Z Z Z (Nat.le_of_ble_eq_true Z)) ?_
 rintro _ _ rfl
 refine⟨.inl (by kernel_rfl),?_⟩
 refine bP (by kernel_rfl)<|aL<|wy (Yl.is (dG Z Z (by omega)) Z)<|wm Z<|aA<|eB<|wq<|wy (Yl.f (fG Z Z) (by decide))<|aA<|aG<|aQ Z<|aZ<|wq ?_
 refine wm Z<|wg Z<|aA<|bA [6,4,5,2,3,0,1] 99 (by decide) Z ?_
 refine⟨_,Z,?_⟩
 exact⟨_,_,_,_,_,_,_,_,_,_,Z,Z⟩
theorem mK {B:Nat} {w0:World} {R:List Row} {g g0 g1 g2:Nat} {cls o:Int} (hk:cls*o=0):
  Ct Tryz.prog 130 #[.pointer (GG g)] B w0 (⟨250,5,(GG g),1,1,[.pointer (GG g0), .pointer (GG g1), .pointer (GG g2),I cls,I o],false⟩::R) (fun v R'=>v= .pointer (GG g0)∧R'=⟨250,5,(GG g),1,1,[.pointer (GG g0), .pointer (GG g1), .pointer (GG g2),I cls,I o],false⟩::R):=by
 refine fn1 Tryz.func130 Z Z Z ?_
 refine wq<|wg Z<|aA<|aG<|bT mixed<|wD 0 Z (aM Z)<|wD 1 Z (aM Z)<|wD 2 Z (aF Z)<|wD 3 Z (aC (off:=3) (m:=3) underlying250 Z sz3 Z Z Z)<|wD 4 Z (aK (rdr 0 Z) underlying3 Z Z Z)<|wD 5 Z (aM Z)<|wD 6 Z (aF Z)<|wD 7 Z (aC (off:=4) (m:=4) underlying250 Z sz3 Z Z Z)<|wD 8 Z (aK (rdr 0 Z) underlying3 Z Z Z) ?_
 refine wD 9 Z (Yl.is (iF Z Z (by omega)) (by rw[hk])) ?_
 refine wD 10 Z (aF Z)<|wD 11 Z (aC (off:=0) (m:=0) underlying250 Z KX Z Z Z)<|wD 12 Z (dD (q:=0) (rdr 0 Z) underlying248 xJ Z Z (Nat.le_of_ble_eq_true Z) (by decide) (by decide) Z)<|wD 13 Z (aK (rdr 0 Z) underlying185 Z Z Z)<|wD 14 Z (bV Z)<|bP (by kernel_rfl)<|bX (R1:=(⟨250,5,(GG g),1,1,[.pointer (GG g0), .pointer (GG g1), .pointer (GG g2),I cls,I o],false⟩::R)) (fun _ h=>h) ?_
 refine⟨_,Z,?_⟩
 exact⟨Z,Z⟩
theorem mJ {B:Nat} {w0:World} {R:List Row} {g g0 g1 g2:Nat} {cls o:Int} (hk:cls*o=1):
  Ct Tryz.prog 130 #[.pointer (GG g)] B w0 (⟨250,5,(GG g),1,1,[.pointer (GG g0), .pointer (GG g1), .pointer (GG g2),I cls,I o],false⟩::R) (fun v R'=>v= .pointer (GG g1)∧R'=⟨250,5,(GG g),1,1,[.pointer (GG g0), .pointer (GG g1), .pointer (GG g2),I cls,I o],false⟩::R):=by
 refine fn1 Tryz.func130 Z Z Z ?_
 refine wq<|wg Z<|aA<|aG<|bT mixed<|wD 0 Z (aM Z)<|wD 1 Z (aM Z)<|wD 2 Z (aF Z)<|wD 3 Z (aC (off:=3) (m:=3) underlying250 Z sz3 Z Z Z)<|wD 4 Z (aK (rdr 0 Z) underlying3 Z Z Z)<|wD 5 Z (aM Z)<|wD 6 Z (aF Z)<|wD 7 Z (aC (off:=4) (m:=4) underlying250 Z sz3 Z Z Z)<|wD 8 Z (aK (rdr 0 Z) underlying3 Z Z Z) ?_
 refine wD 9 Z (Yl.is (iF Z Z (by omega)) (by rw[hk])) ?_
 refine wD 10 Z (aF Z)<|wD 11 Z (aC (off:=0) (m:=0) underlying250 Z KX Z Z Z)<|wD 12 Z (dD (q:=1) (rdr 0 Z) underlying248 xJ Z Z (Nat.le_of_ble_eq_true Z) (by decide) (by decide) Z)<|wD 13 Z (aK (rdr 0 Z) underlying185 Z Z Z)<|wD 14 Z (bV Z)<|bP (by kernel_rfl)<|bX (R1:=(⟨250,5,(GG g),1,1,[.pointer (GG g0), .pointer (GG g1), .pointer (GG g2),I cls,I o],false⟩::R)) (fun _ h=>h) ?_
 refine⟨_,Z,?_⟩
 exact⟨Z,Z⟩
theorem mI {B:Nat} {w0:World} {R:List Row} {g g0 g1 g2:Nat} {cls o:Int} (hk:cls*o=2):
  Ct Tryz.prog 130 #[.pointer (GG g)] B w0 (⟨250,5,(GG g),1,1,[.pointer (GG g0), .pointer (GG g1), .pointer (GG g2),I cls,I o],false⟩::R) (fun v R'=>v= .pointer (GG g2)∧R'=⟨250,5,(GG g),1,1,[.pointer (GG g0), .pointer (GG g1), .pointer (GG g2),I cls,I o],false⟩::R):=by
 refine fn1 Tryz.func130 Z Z Z ?_
 refine wq<|wg Z<|aA<|aG<|bT mixed<|wD 0 Z (aM Z)<|wD 1 Z (aM Z)<|wD 2 Z (aF Z)<|wD 3 Z (aC (off:=3) (m:=3) underlying250 Z sz3 Z Z Z)<|wD 4 Z (aK (rdr 0 Z) underlying3 Z Z Z)<|wD 5 Z (aM Z)<|wD 6 Z (aF Z)<|wD 7 Z (aC (off:=4) (m:=4) underlying250 Z sz3 Z Z Z)<|wD 8 Z (aK (rdr 0 Z) underlying3 Z Z Z) ?_
 refine wD 9 Z (Yl.is (iF Z Z (by omega)) (by rw[hk])) ?_
 refine wD 10 Z (aF Z)<|wD 11 Z (aC (off:=0) (m:=0) underlying250 Z KX Z Z Z)<|wD 12 Z (dD (q:=2) (rdr 0 Z) underlying248 xJ Z Z (Nat.le_of_ble_eq_true Z) (by decide) (by decide) Z)<|wD 13 Z (aK (rdr 0 Z) underlying185 Z Z Z)<|wD 14 Z (bV Z)<|bP (by kernel_rfl)<|bX (R1:=(⟨250,5,(GG g),1,1,[.pointer (GG g0), .pointer (GG g1), .pointer (GG g2),I cls,I o],false⟩::R)) (fun _ h=>h) ?_
 refine⟨_,Z,?_⟩
 exact⟨Z,Z⟩
theorem EX {B:Nat} {w0:World} {R:List Row} {g g0 g1 g2 c:Nat} {A:Option Addr} {cls o sym:Int} {C:List Int} (hk:cls*o=0) (hs:0≤sym∧sym<C.length) (hok:lD C):
  Ct Tryz.prog 134 #[.pointer (GG g),I sym] B w0 (⟨250,5,(GG g),1,1,[.pointer (GG g0), .pointer (GG g1), .pointer (GG g2),I cls,I o],false⟩::⟨256,2,(GG g0),1,1,[.slice A 258 c,I (aU C)],false⟩::(ri 3 A 258 c C)::R) (fun v R'=>v= .tuple #[]∧R'=⟨250,5,(GG g),1,1,[.pointer (GG g0), .pointer (GG g1), .pointer (GG g2),I (lC sym),I o],false⟩::⟨256,2,(GG g0),1,1,[.slice A 258 c,I (aU (lF C sym))],false⟩::(ri 3 A 258 c (lF C sym))::R):=by
 have hcl:=hok.1
 refine fn0 Tryz.func134 Z Z Z ?_
 refine wq<|wm Z<|wa (aD lV Z (Ct.at 0 Z (mK (by assumption)))) ?_
 rintro _ _ ⟨rfl,rfl⟩
 refine wm Z<|wa (aD aOh Z (Ct.pick [1,2,0] 3 (by decide) Z (uA (by rw[hcl]) hs hok))) ?_
 rintro _ _ ⟨rfl,rfl⟩
 refine dK (R1:=(⟨250,5,(GG g),1,1,[.pointer (GG g0), .pointer (GG g1), .pointer (GG g2),I cls,I o],false⟩::⟨256,2,(GG g0),1,1,[.slice A 258 c,I (aU (lF C sym))],false⟩::(ri 3 A 258 c (lF C sym))::R)) (Sub.refl _) (fun _ h=>h.selR (F:=[_,_,_]) (F':=[_,_,_]) [2,0,1] (by decide) Z)<|aA<|aL<|wm Z<|wm Z<|wa (aD aOg Z (Ct.quiet (fun w hw=>wQ))) ?_
 rintro _ _ ⟨rfl,rfl⟩
 refine wy (aF Z)<|wy (aC (off:=3) (m:=3) underlying250 Z sz3 Z Z Z)<|bY (bF 0 Z Z Z sz3 Z Z Z Z (Nat.le_of_ble_eq_true Z)) ?_
 rintro _ _ rfl
 refine aA ?_
 skip
 exact⟨Z,Z⟩
theorem EW {B:Nat} {w0:World} {R:List Row} {g g0 g1 g2 c:Nat} {A:Option Addr} {cls o sym:Int} {C:List Int} (hk:cls*o=1) (hs:0≤sym∧sym<C.length) (hok:lD C):
  Ct Tryz.prog 134 #[.pointer (GG g),I sym] B w0 (⟨250,5,(GG g),1,1,[.pointer (GG g0), .pointer (GG g1), .pointer (GG g2),I cls,I o],false⟩::⟨256,2,(GG g1),1,1,[.slice A 258 c,I (aU C)],false⟩::(ri 3 A 258 c C)::R) (fun v R'=>v= .tuple #[]∧R'=⟨250,5,(GG g),1,1,[.pointer (GG g0), .pointer (GG g1), .pointer (GG g2),I (lC sym),I o],false⟩::⟨256,2,(GG g1),1,1,[.slice A 258 c,I (aU (lF C sym))],false⟩::(ri 3 A 258 c (lF C sym))::R):=by
 have hcl:=hok.1
 refine fn0 Tryz.func134 Z Z Z ?_
 refine wq<|wm Z<|wa (aD lV Z (Ct.at 0 Z (mJ (by assumption)))) ?_
 rintro _ _ ⟨rfl,rfl⟩
 refine wm Z<|wa (aD aOh Z (Ct.pick [1,2,0] 3 (by decide) Z (uA (by rw[hcl]) hs hok))) ?_
 rintro _ _ ⟨rfl,rfl⟩
 refine dK (R1:=(⟨250,5,(GG g),1,1,[.pointer (GG g0), .pointer (GG g1), .pointer (GG g2),I cls,I o],false⟩::⟨256,2,(GG g1),1,1,[.slice A 258 c,I (aU (lF C sym))],false⟩::(ri 3 A 258 c (lF C sym))::R)) (Sub.refl _) (fun _ h=>h.selR (F:=[_,_,_]) (F':=[_,_,_]) [2,0,1] (by decide) Z)<|aA<|aL<|wm Z<|wm Z<|wa (aD aOg Z (Ct.quiet (fun w hw=>wQ))) ?_
 rintro _ _ ⟨rfl,rfl⟩
 refine wy (aF Z)<|wy (aC (off:=3) (m:=3) underlying250 Z sz3 Z Z Z)<|bY (bF 0 Z Z Z sz3 Z Z Z Z (Nat.le_of_ble_eq_true Z)) ?_
 rintro _ _ rfl
 refine aA ?_
 skip
 exact⟨Z,Z⟩
theorem EU {B:Nat} {w0:World} {R:List Row} {g g0 g1 g2 c:Nat} {A:Option Addr} {cls o sym:Int} {C:List Int} (hk:cls*o=2) (hs:0≤sym∧sym<C.length) (hok:lD C):
  Ct Tryz.prog 134 #[.pointer (GG g),I sym] B w0 (⟨250,5,(GG g),1,1,[.pointer (GG g0), .pointer (GG g1), .pointer (GG g2),I cls,I o],false⟩::⟨256,2,(GG g2),1,1,[.slice A 258 c,I (aU C)],false⟩::(ri 3 A 258 c C)::R) (fun v R'=>v= .tuple #[]∧R'=⟨250,5,(GG g),1,1,[.pointer (GG g0), .pointer (GG g1), .pointer (GG g2),I (lC sym),I o],false⟩::⟨256,2,(GG g2),1,1,[.slice A 258 c,I (aU (lF C sym))],false⟩::(ri 3 A 258 c (lF C sym))::R):=by
 have hcl:=hok.1
 refine fn0 Tryz.func134 Z Z Z ?_
 refine wq<|wm Z<|wa (aD lV Z (Ct.at 0 Z (mI (by assumption)))) ?_
 rintro _ _ ⟨rfl,rfl⟩
 refine wm Z<|wa (aD aOh Z (Ct.pick [1,2,0] 3 (by decide) Z (uA (by rw[hcl]) hs hok))) ?_
 rintro _ _ ⟨rfl,rfl⟩
 refine dK (R1:=(⟨250,5,(GG g),1,1,[.pointer (GG g0), .pointer (GG g1), .pointer (GG g2),I cls,I o],false⟩::⟨256,2,(GG g2),1,1,[.slice A 258 c,I (aU (lF C sym))],false⟩::(ri 3 A 258 c (lF C sym))::R)) (Sub.refl _) (fun _ h=>h.selR (F:=[_,_,_]) (F':=[_,_,_]) [2,0,1] (by decide) Z)<|aA<|aL<|wm Z<|wm Z<|wa (aD aOg Z (Ct.quiet (fun w hw=>wQ))) ?_
 rintro _ _ ⟨rfl,rfl⟩
 refine wy (aF Z)<|wy (aC (off:=3) (m:=3) underlying250 Z sz3 Z Z Z)<|bY (bF 0 Z Z Z sz3 Z Z Z Z (Nat.le_of_ble_eq_true Z)) ?_
 rintro _ _ rfl
 refine aA ?_
 skip
 exact⟨Z,Z⟩
theorem aBb {o x:Int} {s:PpS} (h:s.cls*o=0):kD o s x=⟨lF s.c0 x,s.c1,s.c2,lC x,sM s.cd s.c0 x⟩:=by
 unfold kD aEq tK
 rw[if_pos h,if_pos h]
theorem aBa {o x:Int} {s:PpS} (h:s.cls*o=1):kD o s x=⟨s.c0,lF s.c1 x,s.c2,lC x,sM s.cd s.c1 x⟩:=by
 unfold kD aEq tK
 rw[if_neg (by omega),if_pos h,if_neg (by omega),if_pos h]
theorem aAz {o x:Int} {s:PpS} (h:s.cls*o=2):kD o s x=⟨s.c0,s.c1,lF s.c2 x,lC x,sM s.cd s.c2 x⟩:=by
 unfold kD aEq tK
 rw[if_neg (by omega),if_neg (by omega),if_neg (by omega),if_neg (by omega)]
theorem qP {o i:Int} {l:List Int} {s t:PpS} (h:s=encP o (l.take i.toNat)) (h0:0≤i) (hi:i<l.length) (ht:kD o s (rd l i)=t):t=encP o (l.take (i+1).toNat):=by
 rw[dE h0 hi,aHa,←h,ht]
theorem aCy {o i:Int} {l:List Int} {s:PpS} (hl:aAj l) (h:s=encP o (l.take i.toNat)):KM s∧s.cd.k≤2*l.length:=by
 have:=yU (o:=o) (l:=l.take i.toNat) (fun x hx=>hl x (List.mem_of_mem_take hx))
 rw[←h,List.length_take] at this
 exact⟨this.1,by omega⟩
theorem VE {s:PpS} {o:Int} (h:KM s) (ho:o=0∨o=1):s.cls*o=0∨s.cls*o=1∨s.cls*o=2:=by
 have:=h.2.1
 rcases ho with rfl|rfl<;>omega
set_option maxHeartbeats 4000000 in
theorem vE {w:World} {A_b:Option Addr} {n_b c_b:Nat} {b:List Int} {o:Int} (h_b:Rd w A_b n_b c_b 1 (ints .u8 b)) (bh_b:aN b) (ho:o=0∨o=1) (hN:b.length≤100000):
  Ct Tryz.prog 75 #[.slice A_b n_b c_b,I o] w.heap.size w [] (fun v R'=> ∃A c,v= .tuple #[.slice A (dJ b o).length c, .bool true]∧R'=[(ru 5 A ((dJ b o).length) c (dJ b o))]):=by
 obtain rfl:=h_b.lenI
 refine fn2 Tryz.func75 Z Z Z ?_
 have m_b:=h_b.max
 have hsy:=qL bh_b
 have hsl:=KY b
 have htl:=oM (bB aS b) 0
 rw[jW] at htl
 have hs1:(bL b).length=(bC 0 (bB aS b)).length+1:=by unfold bL;rw[List.length_append];rfl
 refine wq<|wg Z<|wg Z<|aA<|aG<|wq<|wm Z<|wa (aD aWd Z (Ct.quiet (fun w hw=>yM ho))) ?_
 rintro _ _ ⟨rfl,rfl⟩
 refine wy (dH Z)<|wm Z<|aB Z Z<|wm Z<|aB Z Z<|wy (aR underlying22 Z)<|aB Z Z<|wy (Yl.f (dR Z Z) (by omega))<|wy (aP Z Z)<|aA<|aQ Z<|aJ<|wq<|wm Z ?_
 refine wa (aD aWc Z (Ct.fresh (fun w hw=>MH))) ?_
 rintro _ _ ⟨_,rfl,g_1,g_2,g_3,g_4,A_5,A_6,A_7,c_8,c_9,c_10,rfl,rfl⟩
 refine wg Z<|aA<|wq<|wa (aD bCl Z (Ct.fresh (fun w hw=>GM))) ?_
 rintro _ _ ⟨_,rfl,g_11,A_12,c_13,rfl,rfl⟩
 refine wg Z<|aA<|aG<|wq<|wm Z<|wa (aD bDz Z (Ct.fresh (fun w hw=>aFn ((h_b.c _) w hw) bh_b (by omega)))) ?_
 rintro _ _ ⟨_,rfl,A_14,c_15,rfl,rfl⟩
 refine wa (aD bCk Z (Ct.fresh (fun w hw=>aEf ((rdr 0 Z) w hw) (oW bh_b) (by rw[jW];omega)))) ?_
 rintro _ _ ⟨_,rfl,A_17,c_18,rfl,rfl⟩
 refine wa (cB .i64 [257] underlying52 zs3 Z Z Z) ?_
 rintro _ _ ⟨g_21,rfl,rfl⟩
 refine wa (bD 1 Z underlying52 zb3 Z Z Z (rdr 0 Z) (by omega)) ?_
 rintro _ _ ⟨A_22,c_23,rfl,rfl⟩
 refine bO (v:= .slice A_22 (((bC 0 (bB aS b)).length)+1) c_23) Z<|wy (aR underlying52 Z)<|wm Z<|aA<|aI ?_
 refine DC (fun(i:Int) (Aw:Option Addr) (cw:Nat) (Sx:PpS)=>[(6, .pointer (GG g_1)),(7, .pointer (GG g_11)),(28, .slice A_22 (((bC 0 (bB aS b)).length)+1) c_23),(29,I ((((bC 0 (bB aS b)).length)+1:Nat):Int)),(30,I i)]) (fun(i:Int) (Aw:Option Addr) (cw:Nat) (Sx:PpS)=>[(ri 3 (GG g_21) 1 1 ([257])),(ri 3 A_22 (((bC 0 (bB aS b)).length)+1) c_23 ((bC 0 (bB aS b))++([257]))),(ru 5 A_14 ((b).length) c_15 (bB aS b)),⟨253,3,(GG g_11),1,1,[.slice Aw Sx.cd.k cw, .int .u64 (Sx.cd.N%4294967296), .int .u64 Sx.cd.R],false⟩,(ru 5 Aw Sx.cd.k cw (beL Sx.cd.k (Sx.cd.N/4294967296))),⟨250,5,(GG g_1),1,1,[.pointer (GG g_2), .pointer (GG g_3), .pointer (GG g_4),I Sx.cls,I o],false⟩,⟨256,2,(GG g_2),1,1,[.slice A_5 258 c_8,I (aU Sx.c0)],false⟩,(ri 3 A_5 258 c_8 Sx.c0),⟨256,2,(GG g_3),1,1,[.slice A_6 258 c_9,I (aU Sx.c1)],false⟩,(ri 3 A_6 258 c_9 Sx.c1),⟨256,2,(GG g_4),1,1,[.slice A_7 258 c_10,I (aU Sx.c2)],false⟩,(ri 3 A_7 258 c_10 Sx.c2)]) (fun(i:Int) (Aw:Option Addr) (cw:Nat) (Sx:PpS)=>(0≤i)∧(i≤(bL b).length)∧(Sx=encP o ((bL b).take i.toNat))) (fun(i:Int) (Aw:Option Addr) (cw:Nat) (Sx:PpS)=>((bL b).length-i).toNat) ?_ ?_
 ·exact⟨0,A_12,c_13,pp0,⟨(by omega),(by omega),(Z)⟩,(G5 Z Z Z Z Z),fun _ h=>h⟩
 intro i Aw cw Sx ⟨hi0,hi1,hS⟩
 have hin:=aCy hsy hS
 refine wq<|wL Z Z<|aA<|aG<|bM Z (fun hc1=> ?_) (fun hc1=> ?_)
 ·have hx:=hsy _ (bI (L:=bL b) (k:=i) hi0 (by omega))
  refine aJ<|aG<|aI<|wq<|wy (aH underlying52 sz3 Z Z (rdr 1 Z) (by omega) (by omega))<|wy (aX underlying3 Z Z (rdr 1 Z) (by omega) (by omega))<|wg Z<|aA<|wq ?_
  rcases VE hin.1 ho with hk|hk|hk
  ·refine wm Z<|wa (aD lV Z (Ct.at 5 Z (mK hk))) ?_
   rintro _ _ ⟨rfl,rfl⟩
   refine wm Z<|wa (aD NA Z (Ct.sub (R1:=[⟨256,2,(GG g_2),1,1,[.slice A_5 258 c_8,I (aU Sx.c0)],false⟩,(ri 3 A_5 258 c_8 Sx.c0),(ri 3 (GG g_21) 1 1 ([257])),(ri 3 A_22 (((bC 0 (bB aS b)).length)+1) c_23 ((bC 0 (bB aS b))++([257]))),(ru 5 A_14 ((b).length) c_15 (bB aS b)),⟨253,3,(GG g_11),1,1,[.slice Aw Sx.cd.k cw, .int .u64 (Sx.cd.N%4294967296), .int .u64 Sx.cd.R],false⟩,(ru 5 Aw Sx.cd.k cw (beL Sx.cd.k (Sx.cd.N/4294967296))),⟨250,5,(GG g_1),1,1,[.pointer (GG g_2), .pointer (GG g_3), .pointer (GG g_4),I Sx.cls,I o],false⟩,⟨256,2,(GG g_3),1,1,[.slice A_6 258 c_9,I (aU Sx.c1)],false⟩,(ri 3 A_6 258 c_9 Sx.c1),⟨256,2,(GG g_4),1,1,[.slice A_7 258 c_10,I (aU Sx.c2)],false⟩,(ri 3 A_7 258 c_10 Sx.c2)]) (fun _ h=>h.sel [6,7,0,1,2,3,4,5,8,9,10,11] (by decide) Z) (jX (by rw[hin.1.1.1.1]) (by rw[hin.1.1.1.1];exact hx) hin.1.1.1))) ?_
   rintro _ _ ⟨rfl,rfl⟩
   refine wm Z<|wX Z Z<|wX Z Z<|wX Z Z<|wg Z<|wg Z<|wg Z<|aA<|wq<|wm Z<|wm Z<|wm Z<|wm Z<|wa (aD lV Z (Ct.at 7 Z (mK hk))) ?_
   rintro _ _ ⟨rfl,rfl⟩
   refine wa (aD IM Z (Ct.sub (R1:=[⟨256,2,(GG g_2),1,1,[.slice A_5 258 c_8,I (aU Sx.c0)],false⟩,(ri 3 A_5 258 c_8 Sx.c0),(ri 3 (GG g_21) 1 1 ([257])),(ri 3 A_22 (((bC 0 (bB aS b)).length)+1) c_23 ((bC 0 (bB aS b))++([257]))),(ru 5 A_14 ((b).length) c_15 (bB aS b)),⟨253,3,(GG g_11),1,1,[.slice Aw Sx.cd.k cw, .int .u64 (Sx.cd.N%4294967296), .int .u64 Sx.cd.R],false⟩,(ru 5 Aw Sx.cd.k cw (beL Sx.cd.k (Sx.cd.N/4294967296))),⟨250,5,(GG g_1),1,1,[.pointer (GG g_2), .pointer (GG g_3), .pointer (GG g_4),I Sx.cls,I o],false⟩,⟨256,2,(GG g_3),1,1,[.slice A_6 258 c_9,I (aU Sx.c1)],false⟩,(ri 3 A_6 258 c_9 Sx.c1),⟨256,2,(GG g_4),1,1,[.slice A_7 258 c_10,I (aU Sx.c2)],false⟩,(ri 3 A_7 258 c_10 Sx.c2)]) (fun _ h=>h) (iH))) ?_
   rintro _ _ ⟨rfl,rfl⟩
   refine wa (aD aOp Z (Ct.sub (R1:=[⟨253,3,(GG g_11),1,1,[.slice Aw Sx.cd.k cw, .int .u64 (Sx.cd.N%4294967296), .int .u64 Sx.cd.R],false⟩,(ru 5 Aw Sx.cd.k cw (beL Sx.cd.k (Sx.cd.N/4294967296))),⟨256,2,(GG g_2),1,1,[.slice A_5 258 c_8,I (aU Sx.c0)],false⟩,(ri 3 A_5 258 c_8 Sx.c0),(ri 3 (GG g_21) 1 1 ([257])),(ri 3 A_22 (((bC 0 (bB aS b)).length)+1) c_23 ((bC 0 (bB aS b))++([257]))),(ru 5 A_14 ((b).length) c_15 (bB aS b)),⟨250,5,(GG g_1),1,1,[.pointer (GG g_2), .pointer (GG g_3), .pointer (GG g_4),I Sx.cls,I o],false⟩,⟨256,2,(GG g_3),1,1,[.slice A_6 258 c_9,I (aU Sx.c1)],false⟩,(ri 3 A_6 258 c_9 Sx.c1),⟨256,2,(GG g_4),1,1,[.slice A_7 258 c_10,I (aU Sx.c2)],false⟩,(ri 3 A_7 258 c_10 Sx.c2)]) (fun _ h=>h.sel [5,6,0,1,2,3,4,7,8,9,10,11] (by decide) Z) (FT Z hin.1.2.2 (lL hin.1.1.1 hx.1 hx.2) (by omega)))) ?_
   rintro _ _ ⟨A_24,c_25,rfl,rfl⟩
   refine aA<|aL<|wm Z<|wm Z<|wa (aD MZ Z (Ct.sub (R1:=[⟨250,5,(GG g_1),1,1,[.pointer (GG g_2), .pointer (GG g_3), .pointer (GG g_4),I Sx.cls,I o],false⟩,⟨256,2,(GG g_2),1,1,[.slice A_5 258 c_8,I (aU Sx.c0)],false⟩,(ri 3 A_5 258 c_8 Sx.c0),⟨253,3,(GG g_11),1,1,[.slice A_24 ((gV Sx.cd (aU (Sx.c0.take (rd ((bC 0 (bB aS b))++([257])) i).toNat)) (rd Sx.c0 (rd ((bC 0 (bB aS b))++([257])) i)) (aU Sx.c0)).k) c_25, .int .u64 ((gV Sx.cd (aU (Sx.c0.take (rd ((bC 0 (bB aS b))++([257])) i).toNat)) (rd Sx.c0 (rd ((bC 0 (bB aS b))++([257])) i)) (aU Sx.c0)).N%4294967296), .int .u64 ((gV Sx.cd (aU (Sx.c0.take (rd ((bC 0 (bB aS b))++([257])) i).toNat)) (rd Sx.c0 (rd ((bC 0 (bB aS b))++([257])) i)) (aU Sx.c0)).R)],false⟩,(ru 5 A_24 ((gV Sx.cd (aU (Sx.c0.take (rd ((bC 0 (bB aS b))++([257])) i).toNat)) (rd Sx.c0 (rd ((bC 0 (bB aS b))++([257])) i)) (aU Sx.c0)).k) c_25 (beL (gV Sx.cd (aU (Sx.c0.take (rd ((bC 0 (bB aS b))++([257])) i).toNat)) (rd Sx.c0 (rd ((bC 0 (bB aS b))++([257])) i)) (aU Sx.c0)).k ((gV Sx.cd (aU (Sx.c0.take (rd ((bC 0 (bB aS b))++([257])) i).toNat)) (rd Sx.c0 (rd ((bC 0 (bB aS b))++([257])) i)) (aU Sx.c0)).N/4294967296))),(ri 3 (GG g_21) 1 1 ([257])),(ri 3 A_22 (((bC 0 (bB aS b)).length)+1) c_23 ((bC 0 (bB aS b))++([257]))),(ru 5 A_14 ((b).length) c_15 (bB aS b)),⟨256,2,(GG g_3),1,1,[.slice A_6 258 c_9,I (aU Sx.c1)],false⟩,(ri 3 A_6 258 c_9 Sx.c1),⟨256,2,(GG g_4),1,1,[.slice A_7 258 c_10,I (aU Sx.c2)],false⟩,(ri 3 A_7 258 c_10 Sx.c2)]) (fun _ h=>h.sel [7,2,3,0,1,4,5,6,8,9,10,11] (by decide) Z) (EX hk (by rw[hin.1.1.1.1];exact hx) hin.1.1.1))) ?_
   rintro _ _ ⟨rfl,rfl⟩
   refine aA<|aL<|wA Z Z<|wm Z<|aA ?_
   exact⟨i+1,A_24,c_25,(⟨lF Sx.c0 (rd (bL b) i),Sx.c1,Sx.c2,lC (rd (bL b) i),sM Sx.cd Sx.c0 (rd (bL b) i)⟩:PpS),⟨(by omega),(by omega),(qP hS hi0 (by omega) (aBb hk))⟩,(by omega),(G5 Z Z Z Z Z),fun _ h=>h.sel [5,6,7,3,4,0,1,2,8,9,10,11] (by decide) Z⟩
  ·refine wm Z<|wa (aD lV Z (Ct.at 5 Z (mJ hk))) ?_
   rintro _ _ ⟨rfl,rfl⟩
   refine wm Z<|wa (aD NA Z (Ct.sub (R1:=[⟨256,2,(GG g_3),1,1,[.slice A_6 258 c_9,I (aU Sx.c1)],false⟩,(ri 3 A_6 258 c_9 Sx.c1),(ri 3 (GG g_21) 1 1 ([257])),(ri 3 A_22 (((bC 0 (bB aS b)).length)+1) c_23 ((bC 0 (bB aS b))++([257]))),(ru 5 A_14 ((b).length) c_15 (bB aS b)),⟨253,3,(GG g_11),1,1,[.slice Aw Sx.cd.k cw, .int .u64 (Sx.cd.N%4294967296), .int .u64 Sx.cd.R],false⟩,(ru 5 Aw Sx.cd.k cw (beL Sx.cd.k (Sx.cd.N/4294967296))),⟨250,5,(GG g_1),1,1,[.pointer (GG g_2), .pointer (GG g_3), .pointer (GG g_4),I Sx.cls,I o],false⟩,⟨256,2,(GG g_2),1,1,[.slice A_5 258 c_8,I (aU Sx.c0)],false⟩,(ri 3 A_5 258 c_8 Sx.c0),⟨256,2,(GG g_4),1,1,[.slice A_7 258 c_10,I (aU Sx.c2)],false⟩,(ri 3 A_7 258 c_10 Sx.c2)]) (fun _ h=>h.sel [8,9,0,1,2,3,4,5,6,7,10,11] (by decide) Z) (jX (by rw[hin.1.1.2.1.1]) (by rw[hin.1.1.2.1.1];exact hx) hin.1.1.2.1))) ?_
   rintro _ _ ⟨rfl,rfl⟩
   refine wm Z<|wX Z Z<|wX Z Z<|wX Z Z<|wg Z<|wg Z<|wg Z<|aA<|wq<|wm Z<|wm Z<|wm Z<|wm Z<|wa (aD lV Z (Ct.at 7 Z (mJ hk))) ?_
   rintro _ _ ⟨rfl,rfl⟩
   refine wa (aD IM Z (Ct.sub (R1:=[⟨256,2,(GG g_3),1,1,[.slice A_6 258 c_9,I (aU Sx.c1)],false⟩,(ri 3 A_6 258 c_9 Sx.c1),(ri 3 (GG g_21) 1 1 ([257])),(ri 3 A_22 (((bC 0 (bB aS b)).length)+1) c_23 ((bC 0 (bB aS b))++([257]))),(ru 5 A_14 ((b).length) c_15 (bB aS b)),⟨253,3,(GG g_11),1,1,[.slice Aw Sx.cd.k cw, .int .u64 (Sx.cd.N%4294967296), .int .u64 Sx.cd.R],false⟩,(ru 5 Aw Sx.cd.k cw (beL Sx.cd.k (Sx.cd.N/4294967296))),⟨250,5,(GG g_1),1,1,[.pointer (GG g_2), .pointer (GG g_3), .pointer (GG g_4),I Sx.cls,I o],false⟩,⟨256,2,(GG g_2),1,1,[.slice A_5 258 c_8,I (aU Sx.c0)],false⟩,(ri 3 A_5 258 c_8 Sx.c0),⟨256,2,(GG g_4),1,1,[.slice A_7 258 c_10,I (aU Sx.c2)],false⟩,(ri 3 A_7 258 c_10 Sx.c2)]) (fun _ h=>h) (iH))) ?_
   rintro _ _ ⟨rfl,rfl⟩
   refine wa (aD aOp Z (Ct.sub (R1:=[⟨253,3,(GG g_11),1,1,[.slice Aw Sx.cd.k cw, .int .u64 (Sx.cd.N%4294967296), .int .u64 Sx.cd.R],false⟩,(ru 5 Aw Sx.cd.k cw (beL Sx.cd.k (Sx.cd.N/4294967296))),⟨256,2,(GG g_3),1,1,[.slice A_6 258 c_9,I (aU Sx.c1)],false⟩,(ri 3 A_6 258 c_9 Sx.c1),(ri 3 (GG g_21) 1 1 ([257])),(ri 3 A_22 (((bC 0 (bB aS b)).length)+1) c_23 ((bC 0 (bB aS b))++([257]))),(ru 5 A_14 ((b).length) c_15 (bB aS b)),⟨250,5,(GG g_1),1,1,[.pointer (GG g_2), .pointer (GG g_3), .pointer (GG g_4),I Sx.cls,I o],false⟩,⟨256,2,(GG g_2),1,1,[.slice A_5 258 c_8,I (aU Sx.c0)],false⟩,(ri 3 A_5 258 c_8 Sx.c0),⟨256,2,(GG g_4),1,1,[.slice A_7 258 c_10,I (aU Sx.c2)],false⟩,(ri 3 A_7 258 c_10 Sx.c2)]) (fun _ h=>h.sel [5,6,0,1,2,3,4,7,8,9,10,11] (by decide) Z) (FT Z hin.1.2.2 (lL hin.1.1.2.1 hx.1 hx.2) (by omega)))) ?_
   rintro _ _ ⟨A_26,c_27,rfl,rfl⟩
   refine aA<|aL<|wm Z<|wm Z<|wa (aD MZ Z (Ct.sub (R1:=[⟨250,5,(GG g_1),1,1,[.pointer (GG g_2), .pointer (GG g_3), .pointer (GG g_4),I Sx.cls,I o],false⟩,⟨256,2,(GG g_3),1,1,[.slice A_6 258 c_9,I (aU Sx.c1)],false⟩,(ri 3 A_6 258 c_9 Sx.c1),⟨253,3,(GG g_11),1,1,[.slice A_26 ((gV Sx.cd (aU (Sx.c1.take (rd ((bC 0 (bB aS b))++([257])) i).toNat)) (rd Sx.c1 (rd ((bC 0 (bB aS b))++([257])) i)) (aU Sx.c1)).k) c_27, .int .u64 ((gV Sx.cd (aU (Sx.c1.take (rd ((bC 0 (bB aS b))++([257])) i).toNat)) (rd Sx.c1 (rd ((bC 0 (bB aS b))++([257])) i)) (aU Sx.c1)).N%4294967296), .int .u64 ((gV Sx.cd (aU (Sx.c1.take (rd ((bC 0 (bB aS b))++([257])) i).toNat)) (rd Sx.c1 (rd ((bC 0 (bB aS b))++([257])) i)) (aU Sx.c1)).R)],false⟩,(ru 5 A_26 ((gV Sx.cd (aU (Sx.c1.take (rd ((bC 0 (bB aS b))++([257])) i).toNat)) (rd Sx.c1 (rd ((bC 0 (bB aS b))++([257])) i)) (aU Sx.c1)).k) c_27 (beL (gV Sx.cd (aU (Sx.c1.take (rd ((bC 0 (bB aS b))++([257])) i).toNat)) (rd Sx.c1 (rd ((bC 0 (bB aS b))++([257])) i)) (aU Sx.c1)).k ((gV Sx.cd (aU (Sx.c1.take (rd ((bC 0 (bB aS b))++([257])) i).toNat)) (rd Sx.c1 (rd ((bC 0 (bB aS b))++([257])) i)) (aU Sx.c1)).N/4294967296))),(ri 3 (GG g_21) 1 1 ([257])),(ri 3 A_22 (((bC 0 (bB aS b)).length)+1) c_23 ((bC 0 (bB aS b))++([257]))),(ru 5 A_14 ((b).length) c_15 (bB aS b)),⟨256,2,(GG g_2),1,1,[.slice A_5 258 c_8,I (aU Sx.c0)],false⟩,(ri 3 A_5 258 c_8 Sx.c0),⟨256,2,(GG g_4),1,1,[.slice A_7 258 c_10,I (aU Sx.c2)],false⟩,(ri 3 A_7 258 c_10 Sx.c2)]) (fun _ h=>h.sel [7,2,3,0,1,4,5,6,8,9,10,11] (by decide) Z) (EW hk (by rw[hin.1.1.2.1.1];exact hx) hin.1.1.2.1))) ?_
   rintro _ _ ⟨rfl,rfl⟩
   refine aA<|aL<|wA Z Z<|wm Z<|aA ?_
   exact⟨i+1,A_26,c_27,(⟨Sx.c0,lF Sx.c1 (rd (bL b) i),Sx.c2,lC (rd (bL b) i),sM Sx.cd Sx.c1 (rd (bL b) i)⟩:PpS),⟨(by omega),(by omega),(qP hS hi0 (by omega) (aBa hk))⟩,(by omega),(G5 Z Z Z Z Z),fun _ h=>h.sel [5,6,7,3,4,0,8,9,1,2,10,11] (by decide) Z⟩
  ·refine wm Z<|wa (aD lV Z (Ct.at 5 Z (mI hk))) ?_
   rintro _ _ ⟨rfl,rfl⟩
   refine wm Z<|wa (aD NA Z (Ct.sub (R1:=[⟨256,2,(GG g_4),1,1,[.slice A_7 258 c_10,I (aU Sx.c2)],false⟩,(ri 3 A_7 258 c_10 Sx.c2),(ri 3 (GG g_21) 1 1 ([257])),(ri 3 A_22 (((bC 0 (bB aS b)).length)+1) c_23 ((bC 0 (bB aS b))++([257]))),(ru 5 A_14 ((b).length) c_15 (bB aS b)),⟨253,3,(GG g_11),1,1,[.slice Aw Sx.cd.k cw, .int .u64 (Sx.cd.N%4294967296), .int .u64 Sx.cd.R],false⟩,(ru 5 Aw Sx.cd.k cw (beL Sx.cd.k (Sx.cd.N/4294967296))),⟨250,5,(GG g_1),1,1,[.pointer (GG g_2), .pointer (GG g_3), .pointer (GG g_4),I Sx.cls,I o],false⟩,⟨256,2,(GG g_2),1,1,[.slice A_5 258 c_8,I (aU Sx.c0)],false⟩,(ri 3 A_5 258 c_8 Sx.c0),⟨256,2,(GG g_3),1,1,[.slice A_6 258 c_9,I (aU Sx.c1)],false⟩,(ri 3 A_6 258 c_9 Sx.c1)]) (fun _ h=>h.sel [10,11,0,1,2,3,4,5,6,7,8,9] (by decide) Z) (jX (by rw[hin.1.1.2.2.1]) (by rw[hin.1.1.2.2.1];exact hx) hin.1.1.2.2))) ?_
   rintro _ _ ⟨rfl,rfl⟩
   refine wm Z<|wX Z Z<|wX Z Z<|wX Z Z<|wg Z<|wg Z<|wg Z<|aA<|wq<|wm Z<|wm Z<|wm Z<|wm Z<|wa (aD lV Z (Ct.at 7 Z (mI hk))) ?_
   rintro _ _ ⟨rfl,rfl⟩
   refine wa (aD IM Z (Ct.sub (R1:=[⟨256,2,(GG g_4),1,1,[.slice A_7 258 c_10,I (aU Sx.c2)],false⟩,(ri 3 A_7 258 c_10 Sx.c2),(ri 3 (GG g_21) 1 1 ([257])),(ri 3 A_22 (((bC 0 (bB aS b)).length)+1) c_23 ((bC 0 (bB aS b))++([257]))),(ru 5 A_14 ((b).length) c_15 (bB aS b)),⟨253,3,(GG g_11),1,1,[.slice Aw Sx.cd.k cw, .int .u64 (Sx.cd.N%4294967296), .int .u64 Sx.cd.R],false⟩,(ru 5 Aw Sx.cd.k cw (beL Sx.cd.k (Sx.cd.N/4294967296))),⟨250,5,(GG g_1),1,1,[.pointer (GG g_2), .pointer (GG g_3), .pointer (GG g_4),I Sx.cls,I o],false⟩,⟨256,2,(GG g_2),1,1,[.slice A_5 258 c_8,I (aU Sx.c0)],false⟩,(ri 3 A_5 258 c_8 Sx.c0),⟨256,2,(GG g_3),1,1,[.slice A_6 258 c_9,I (aU Sx.c1)],false⟩,(ri 3 A_6 258 c_9 Sx.c1)]) (fun _ h=>h) (iH))) ?_
   rintro _ _ ⟨rfl,rfl⟩
   refine wa (aD aOp Z (Ct.sub (R1:=[⟨253,3,(GG g_11),1,1,[.slice Aw Sx.cd.k cw, .int .u64 (Sx.cd.N%4294967296), .int .u64 Sx.cd.R],false⟩,(ru 5 Aw Sx.cd.k cw (beL Sx.cd.k (Sx.cd.N/4294967296))),⟨256,2,(GG g_4),1,1,[.slice A_7 258 c_10,I (aU Sx.c2)],false⟩,(ri 3 A_7 258 c_10 Sx.c2),(ri 3 (GG g_21) 1 1 ([257])),(ri 3 A_22 (((bC 0 (bB aS b)).length)+1) c_23 ((bC 0 (bB aS b))++([257]))),(ru 5 A_14 ((b).length) c_15 (bB aS b)),⟨250,5,(GG g_1),1,1,[.pointer (GG g_2), .pointer (GG g_3), .pointer (GG g_4),I Sx.cls,I o],false⟩,⟨256,2,(GG g_2),1,1,[.slice A_5 258 c_8,I (aU Sx.c0)],false⟩,(ri 3 A_5 258 c_8 Sx.c0),⟨256,2,(GG g_3),1,1,[.slice A_6 258 c_9,I (aU Sx.c1)],false⟩,(ri 3 A_6 258 c_9 Sx.c1)]) (fun _ h=>h.sel [5,6,0,1,2,3,4,7,8,9,10,11] (by decide) Z) (FT Z hin.1.2.2 (lL hin.1.1.2.2 hx.1 hx.2) (by omega)))) ?_
   rintro _ _ ⟨A_28,c_29,rfl,rfl⟩
   refine aA<|aL<|wm Z<|wm Z<|wa (aD MZ Z (Ct.sub (R1:=[⟨250,5,(GG g_1),1,1,[.pointer (GG g_2), .pointer (GG g_3), .pointer (GG g_4),I Sx.cls,I o],false⟩,⟨256,2,(GG g_4),1,1,[.slice A_7 258 c_10,I (aU Sx.c2)],false⟩,(ri 3 A_7 258 c_10 Sx.c2),⟨253,3,(GG g_11),1,1,[.slice A_28 ((gV Sx.cd (aU (Sx.c2.take (rd ((bC 0 (bB aS b))++([257])) i).toNat)) (rd Sx.c2 (rd ((bC 0 (bB aS b))++([257])) i)) (aU Sx.c2)).k) c_29, .int .u64 ((gV Sx.cd (aU (Sx.c2.take (rd ((bC 0 (bB aS b))++([257])) i).toNat)) (rd Sx.c2 (rd ((bC 0 (bB aS b))++([257])) i)) (aU Sx.c2)).N%4294967296), .int .u64 ((gV Sx.cd (aU (Sx.c2.take (rd ((bC 0 (bB aS b))++([257])) i).toNat)) (rd Sx.c2 (rd ((bC 0 (bB aS b))++([257])) i)) (aU Sx.c2)).R)],false⟩,(ru 5 A_28 ((gV Sx.cd (aU (Sx.c2.take (rd ((bC 0 (bB aS b))++([257])) i).toNat)) (rd Sx.c2 (rd ((bC 0 (bB aS b))++([257])) i)) (aU Sx.c2)).k) c_29 (beL (gV Sx.cd (aU (Sx.c2.take (rd ((bC 0 (bB aS b))++([257])) i).toNat)) (rd Sx.c2 (rd ((bC 0 (bB aS b))++([257])) i)) (aU Sx.c2)).k ((gV Sx.cd (aU (Sx.c2.take (rd ((bC 0 (bB aS b))++([257])) i).toNat)) (rd Sx.c2 (rd ((bC 0 (bB aS b))++([257])) i)) (aU Sx.c2)).N/4294967296))),(ri 3 (GG g_21) 1 1 ([257])),(ri 3 A_22 (((bC 0 (bB aS b)).length)+1) c_23 ((bC 0 (bB aS b))++([257]))),(ru 5 A_14 ((b).length) c_15 (bB aS b)),⟨256,2,(GG g_2),1,1,[.slice A_5 258 c_8,I (aU Sx.c0)],false⟩,(ri 3 A_5 258 c_8 Sx.c0),⟨256,2,(GG g_3),1,1,[.slice A_6 258 c_9,I (aU Sx.c1)],false⟩,(ri 3 A_6 258 c_9 Sx.c1)]) (fun _ h=>h.sel [7,2,3,0,1,4,5,6,8,9,10,11] (by decide) Z) (EU hk (by rw[hin.1.1.2.2.1];exact hx) hin.1.1.2.2))) ?_
   rintro _ _ ⟨rfl,rfl⟩
   refine aA<|aL<|wA Z Z<|wm Z<|aA ?_
   exact⟨i+1,A_28,c_29,(⟨Sx.c0,Sx.c1,lF Sx.c2 (rd (bL b) i),lC (rd (bL b) i),sM Sx.cd Sx.c2 (rd (bL b) i)⟩:PpS),⟨(by omega),(by omega),(qP hS hi0 (by omega) (aAz hk))⟩,(by omega),(G5 Z Z Z Z Z),fun _ h=>h.sel [5,6,7,3,4,0,8,9,10,11,1,2] (by decide) Z⟩
 ·refine aZ<|wq<|wm Z<|wa (aD bCj Z (Ct.sub (R1:=[⟨253,3,(GG g_11),1,1,[.slice Aw Sx.cd.k cw, .int .u64 (Sx.cd.N%4294967296), .int .u64 Sx.cd.R],false⟩,(ru 5 Aw Sx.cd.k cw (beL Sx.cd.k (Sx.cd.N/4294967296))),(ri 3 (GG g_21) 1 1 ([257])),(ri 3 A_22 (((bC 0 (bB aS b)).length)+1) c_23 ((bC 0 (bB aS b))++([257]))),(ru 5 A_14 ((b).length) c_15 (bB aS b)),⟨250,5,(GG g_1),1,1,[.pointer (GG g_2), .pointer (GG g_3), .pointer (GG g_4),I Sx.cls,I o],false⟩,⟨256,2,(GG g_2),1,1,[.slice A_5 258 c_8,I (aU Sx.c0)],false⟩,(ri 3 A_5 258 c_8 Sx.c0),⟨256,2,(GG g_3),1,1,[.slice A_6 258 c_9,I (aU Sx.c1)],false⟩,(ri 3 A_6 258 c_9 Sx.c1),⟨256,2,(GG g_4),1,1,[.slice A_7 258 c_10,I (aU Sx.c2)],false⟩,(ri 3 A_7 258 c_10 Sx.c2)]) (fun _ h=>h.sel [3,4,0,1,2,5,6,7,8,9,10,11] (by decide) Z) (aNx Z (by omega)))) ?_
  rintro _ _ ⟨A_30,c_31,rfl,rfl⟩
  refine wg Z<|wg Z<|aA<|bX (R1:=[(ru 5 A_30 (Sx.cd.k+4) c_31 (beL (Sx.cd.k+4) Sx.cd.N))]) (fun _ h=>h.sel [0] (by decide) Z) ?_
  refine⟨_,_,Z,Z,?_⟩
  rw[List.take_of_length_le (by omega)] at hS
  have e:(dJ b o).length=Sx.cd.k+4:=by unfold dJ;rw[kQ,←hS]
  have e2:dJ b o=beL (Sx.cd.k+4) Sx.cd.N:=by unfold dJ;rw[←hS]
  rw[e,e2]
  exact⟨_,_,Z,Z⟩
end Go.Proofs.YtdbebmmhdefgdaaGreat

namespace Go.Pure
open Go Go.Eng
def aDe (x:BitVec 32):BitVec 32:=if x &&& 1#32=1#32 then(x>>>1)^^^3988292384#32 else x>>>1
def IQ:Nat→BitVec 32→BitVec 32
 |0,x=>x
 |k+1,x=>IQ k (aDe x)
def ZB (x:BitVec 32):BitVec 32:=IQ 8 x
theorem NB {k:Int} {x:BitVec 32} (h:k<8):IQ (8-k).toNat x=IQ (8-(k+1)).toNat (aDe x):=by
 have e:(8-k).toNat=(8-(k+1)).toNat+1:=by omega
 rw[e]
 rfl
def ZC (x:BitVec 32) (b:Int):BitVec 32:=(x &&& 255#32)^^^BitVec.ofInt 32 b
def bCz (x:BitVec 32) (b:Int):BitVec 32:=(x>>>8)^^^ZB (ZC x b)
def JC (x:BitVec 32) (l:List Int):BitVec 32:=l.foldl bCz x
def jP (l:List Int):BitVec 32:=JC 4294967295#32 l^^^4294967295#32
def qH:List Int:=(List.range 256).map fun i=>bv (ZB (BitVec.ofNat 32 i))
theorem uK:qH.length=256:=by unfold qH;rw[List.length_map,List.length_range]
theorem aDd {i:Nat} (h:i<256):qH[i]? =some (bv (ZB (BitVec.ofNat 32 i))):=by
 unfold qH
 rw[List.getElem?_map,List.getElem?_range h]
 rfl
theorem MC (i:Nat):BitVec.ofInt 32 (i:Int)=BitVec.ofNat 32 i:=rfl
theorem aPf {x:BitVec 32} {b:Int} (hb:0≤b∧b<256):(ZC x b).toNat=(x.toNat%256)^^^b.toNat:=by
 obtain⟨b,rfl⟩: ∃m:Nat,b=m:=⟨b.toNat,by omega⟩
 unfold ZC
 have e1:(255#32).toNat=2^8-1:=rfl
 have e2:(BitVec.ofInt 32 (b:Int)).toNat=b:=by rw[MC,BitVec.toNat_ofNat];omega
 rw[BitVec.toNat_xor,BitVec.toNat_and,e1,e2,Nat.and_two_pow_sub_one_eq_mod,Int.toNat_natCast]
theorem PL {x:BitVec 32} {b:Int} (hb:0≤b∧b<256):0≤bv (ZC x b)∧bv (ZC x b)<256:=by
 have h:(ZC x b).toNat<2^8:=by
  rw[aPf hb]
  exact Nat.xor_lt_two_pow (by have:=Nat.mod_lt x.toNat (show 0<256 by omega);omega) (by omega)
 unfold bv
 omega
def sN (d s r:Int) (t:List Int):List Value:=[.int .u32 d, .int .i32 s, .int .u32 0, .int .i32 r]++ints .u32 t
def dC (T g:Nat) (d s r:Int) (t:List Int):Row:=⟨T,260,some ⟨g,0,none⟩,1,1,sN d s r t,false⟩
theorem BD (d s r:Int) (t:List Int):(sN d s r t).length=4+t.length:=by
 unfold sN
 rw[List.length_append,bS]
 rfl
theorem aOz {d s r:Int} {t:List Int} {i:Nat} {x:Int} (h:t[i]? =some x):(sN d s r t)[4+i]? =some (.int .u32 x):=by
 unfold sN
 rw[List.getElem?_append_right (by simp)]
 simp[ints,h]
theorem aHm {d s r:Int} {t:List Int} {i:Nat} {x:Int}:(sN d s r t).set (4+i) (.int .u32 x)=sN d s r (t.set i x):=by
 unfold sN ints
 rw[List.set_append_right _ _ (by simp),List.map_set]
 simp
theorem aHl {t:List Int} (ht:t.length=256) {k:Int} (h0:0≤k) (h1:k<256):(qH.take k.toNat++t.drop k.toNat).set k.toNat (bv (ZB (BitVec.ofInt 32 k)))=qH.take (k+1).toNat++t.drop (k+1).toNat:=by
 obtain⟨k,rfl⟩: ∃m:Nat,k=m:=⟨k.toNat,by omega⟩
 have e:((k:Int)+1).toNat=k+1:=by omega
 rw[e,Int.toNat_natCast,MC]
 have hk:k<qH.length:=by rw[uK];omega
 have hl:(qH.take k).length=k:=by rw[List.length_take];omega
 rw[List.set_append_right _ _ (by omega),hl,Nat.sub_self,List.drop_eq_getElem_cons (by omega:k<t.length),List.set_cons_zero,List.take_add_one,aDd (by omega)]
 simp
theorem aTw {x:BitVec 32} (h:bv x<256):qH[(bv x).toNat]? =some (bv (ZB x)):=by
 have e:(bv x).toNat=x.toNat:=by unfold bv;rw[Int.toNat_natCast]
 rw[e,aDd (by unfold bv at h;omega),BitVec.ofNat_toNat,BitVec.setWidth_eq]
def wT (B:Nat) (w0:World) (R:List Row) (vals:List Value) (ls:List (List Int)):Prop:=vals.length=ls.length∧ ∀(j:Nat) (v:Value),vals[j]? =some v→ ∃(A:Option Addr) (c:Nat) (l:List Int),v=Value.slice A l.length c∧ls[j]? =some l∧RdC B w0 R A l.length c 1 (ints .u8 l)∧aN l
theorem wT.at {B:Nat} {w0:World} {R:List Row} {vals:List Value} {ls:List (List Int)} (h:wT B w0 R vals ls) {i:Int} (h0:0≤i) (h1:i<vals.length): ∃(A:Option Addr) (c:Nat) (l:List Int),vals[i.toNat]? =some (Value.slice A l.length c)∧ls[i.toNat]? =some l∧RdC B w0 R A l.length c 1 (ints .u8 l)∧aN l:=by
 have hlt:i.toNat<vals.length:=by omega
 obtain⟨A,c,l,e,h2,h3,h4⟩:=h.2 i.toNat _ (List.getElem?_eq_getElem hlt)
 exact⟨A,c,l,by rw[List.getElem?_eq_getElem hlt,e],h2,h3,h4⟩
theorem wT.one {B:Nat} {w0:World} {R:List Row} {A:Option Addr} {c n:Nat} {l:List Int} (h:RdC B w0 R A n c 1 (ints .u8 l)) (hb:aN l) (hn:n=l.length):wT B w0 R [.slice A n c] [l]:=by
 subst hn
 exact⟨rfl,fun j v hv=>by
  cases j with
  |zero=>exact⟨A,c,l,by simpa using hv.symm,rfl,h,hb⟩
  |succ j=>simp at hv⟩
theorem wT.of {w:World} {R:List Row} {vals:List Value} {ls:List (List Int)} (h:SlW .u8 w vals ls):wT w.heap.size w R vals ls:=
 ⟨h.1,fun j v hv=>by
  have hlt:j<ls.length:=by rw[←h.1];exact(List.getElem?_eq_some_iff.1 hv).1
  obtain⟨A,c,h1,h2,h3,_⟩:=h.2 j hlt
  rw[h1] at hv
  have e:ls.getD j []=ls[j]:=by simp[List.getD_eq_getElem?_getD,List.getElem?_eq_getElem hlt]
  rw[e] at hv h2 h3
  exact⟨A,c,ls[j],(Option.some.inj hv).symm,List.getElem?_eq_getElem hlt,h2.c R,byteL_wf h3⟩⟩
def Big (ls:List (List Int)):Prop:=ls.length≤1000000∧ ∀(j:Nat) (l:List Int),ls[j]? =some l→l.length≤1000000
theorem Big.one {l:List Int} (h:l.length≤1000000):Big [l]:=⟨by simp,fun j q hq=>by
 cases j with
 |zero=>simp at hq;subst hq;exact h
 |succ j=>simp at hq⟩
theorem Big.nil:Big []:=⟨by simp,fun j q hq=>by simp at hq⟩
theorem Big.snoc {ls:List (List Int)} {q:List Int} (h:Big ls) (h1:ls.length<1000000) (h2:q.length≤1000000):Big (ls++[q]):=⟨by simp;omega,fun j r hr=>by
 rw[List.getElem?_append] at hr
 split at hr
 ·exact h.2 j r hr
 ·rename_i hj
  have hz:j-ls.length=0:=by
   rcases Nat.eq_zero_or_pos (j-ls.length) with e|e
   ·exact e
   ·rw[List.getElem?_eq_none (by simp;omega)] at hr;cases hr
  rw[hz] at hr
  simp at hr
  rw[←hr];exact h2⟩
theorem wT.nil {B:Nat} {w0:World} {R:List Row}:wT B w0 R [] []:=⟨rfl,fun j v hv=>by simp at hv⟩
theorem aHh {ls:List (List Int)} {l:List Int} {i:Int} (h0:0≤i) (h:ls[i.toNat]? =some l):(ls.drop i.toNat).flatten=l++(ls.drop (i+1).toNat).flatten:=by
 have hlt:i.toNat<ls.length:=(List.getElem?_eq_some_iff.1 h).1
 have e:(i+1).toNat=i.toNat+1:=by omega
 rw[List.drop_eq_getElem_cons hlt,(List.getElem?_eq_some_iff.1 h).2,e]
 rfl
theorem ZM {x:BitVec 32} {l m:List Int} {i:Int} (h0:0≤i) (h:i<l.length):JC x (l.drop i.toNat++m)=JC (bCz x (rd l i)) (l.drop (i+1).toNat++m):=by
 rw[nQ h0 h]
 rfl
theorem UN {α:Type} {l:List α} {i:Int} (h:(l.length:Int)≤i):l.drop i.toNat=[]:=List.drop_of_length_le (by omega)
end Go.Pure

namespace Go.Proofs.YtdbebmmhdefgdaaGreat
open Go Go.Eng Go.Pure
theorem BS (w:World):(callFunc 306 #[]).run Tryz.prog w= .ok (.value (.tuple #[])) w:=run_call_mark0 Tryz.func306 (by kernel_rfl) (by kernel_rfl) (by kernel_rfl) .disable (by kernel_rfl) w
theorem FO (w:World):(callFunc 308 #[]).run Tryz.prog w= .ok (.value (.tuple #[])) w:=run_call_mark0 Tryz.func308 (by kernel_rfl) (by kernel_rfl) (by kernel_rfl) .enable (by kernel_rfl) w
theorem RY (a:Addr) (w:World):(callFunc 309 #[.pointer (some a)]).run Tryz.prog w= .ok (.value (.tuple #[])) w:=run_call_marked Tryz.func309 (by kernel_rfl) (by kernel_rfl) (by kernel_rfl) .acquire (by kernel_rfl) a w
theorem zY (a:Addr) (w:World):(callFunc 311 #[.pointer (some a)]).run Tryz.prog w= .ok (.value (.tuple #[])) w:=run_call_marked Tryz.func311 (by kernel_rfl) (by kernel_rfl) (by kernel_rfl) .releaseMerge (by kernel_rfl) a w
theorem JP (a:Addr) (x:Value) (u:FrameMode) (w:World) (hc:w.cell? a=some x) (hz:w.frozen? a=false):
  CallsD Tryz.prog 256 #[.pointer (some a), .bool true] u w fun e u' w'=>u'=u∧(e= .returned (.tuple #[])∧w'=w.drew.setCell a (.int .u32 1)):=by
 have hc':w.drew.cell? a=some x:=by go_simp
 have hz':w.drew.frozen? a=false:=by go_simp
 have hst:=run_call_store (P:=Tryz.prog) Tryz.func288 (by kernel_rfl) (by kernel_rfl) (by kernel_rfl) (by kernel_rfl) (k:= .u32) (y:=1) hc' hz'
 go_enter_d Tryz.func256,Tryz.ntmps256
 go_wp2
 go_region_calls
 all_goals (go_end0;exact⟨rfl,rfl⟩)
set_option maxRecDepth 100000 in
theorem EN (a:Addr) (u:FrameMode) (w:World) (hc:w.cell? a=some (.int .i32 1)) (hz:w.frozen? a=false):
  CallsD Tryz.prog 255 #[.pointer (some a)] u w fun e u' w'=>u'=u∧(e= .returned (.tuple #[])∧w'=w.setCell a (.int .i32 0)):=by
 have hd:=BS
 have he:=FO
 have hr:=zY
 have hadd:=run_call_add (P:=Tryz.prog) Tryz.func257 (by kernel_rfl) (by kernel_rfl) (by kernel_rfl) .i32 (by kernel_rfl) (y:= -1) (s:=0) hc hz (by simp[go_sem];rfl)
 have hcv:=run_convert_to_unsafe (P:=Tryz.prog) (src:=340) (dst:=343) Tryz.underlying340 Tryz.underlying343 (by kernel_rfl) hc
 go_enter_d Tryz.func255,Tryz.ntmps255
 go_wp2
 go_end0
 go_wp2
 go_end0
 exact⟨rfl,rfl⟩
set_option maxRecDepth 100000 in
theorem aMp (a:Addr) (w:World) (hc:w.cell? a=some (.int .i32 0)) (hz:w.frozen? a=false):
  Calls Tryz.prog 254 #[.pointer (some a)] w fun e w'=>e= .returned (.tuple #[])∧w'=w.setCell a (.int .i32 1):=by
 have hd:=BS
 have he:=FO
 have ha:=RY
 have hcas:=run_call_cas_hit (P:=Tryz.prog) Tryz.func307 (by kernel_rfl) (by kernel_rfl) (by kernel_rfl) .i32 (by kernel_rfl) (y:=1) hc hz
 have hc':(w.setCell a (.int .i32 1)).cell? a=some (.int .i32 1):=World.cell?_setCell_same w a _ hc
 have hcv:=run_convert_to_unsafe (P:=Tryz.prog) (src:=340) (dst:=343) Tryz.underlying340 Tryz.underlying343 (by kernel_rfl) hc'
 go_enter Tryz.func254,Tryz.ntmps254
 go_wp2
 first|go_end0|(simp only[Exit.inBlock,Exit.then];refine bodyPost_ret (results_none rfl _ _ _) rfl ?_)|refine bodyPost_ret (results_none rfl _ _ _) rfl ?_
 go_wp2
 go_end0
 exact⟨rfl,rfl⟩
section
variable {B:Nat} {w0:World} {R:List Row} {T g:Nat} {r r':Int} {t t':List Int}
theorem yX {w:World} {d s:Int} (h:Hp B w0 w (dC T g d s r t::R)) (j:Nat):w.frozen? ⟨g,j,none⟩=false:=h.openAt 0 j rfl rfl rfl
theorem yY {w:World} {d s:Int} (h:Hp B w0 w (dC T g d s r t::R)):w.cell? ⟨g,0,none⟩=some (.int .u32 d):=h.cellAt 0 (r:=dC T g d s r t) (j:=0) rfl rfl rfl
theorem UX {w:World} {d s:Int} (h:Hp B w0 w (dC T g d s r t::R)):w.cell? ⟨g,1,none⟩=some (.int .i32 s):=h.cellAt 0 (r:=dC T g d s r t) (j:=1) rfl rfl rfl
theorem aOx {w:World} {d s:Int} (h:Hp B w0 w (dC T g d s r t::R)):w.cell? ⟨g,3,none⟩=some (.int .i32 r):=h.cellAt 0 (r:=dC T g d s r t) (j:=3) rfl rfl rfl
theorem UW {w:World} {d s:Int} (h:Hp B w0 w (dC T g d s r t::R)) (x:Int):Hp B w0 (w.setCell ⟨g,0,none⟩ (.int .u32 x)) (dC T g x s r t::R):=h.set1 0 (r:=dC T g d s r t) (j:=0) (v:= .int .u32 x) rfl rfl rfl
theorem CG {w:World} {d s:Int} (h:Hp B w0 w (dC T g d s r t::R)) (x:Int):Hp B w0 (w.setCell ⟨g,1,none⟩ (.int .i32 x)) (dC T g d x r t::R):=h.set1 0 (r:=dC T g d s r t) (j:=1) (v:= .int .i32 x) rfl rfl rfl
theorem UV {w:World} {d s:Int} (h:Hp B w0 w (dC T g d s r t::R)) (x:Int):Hp B w0 (w.setCell ⟨g,3,none⟩ (.int .i32 x)) (dC T g d s x t::R):=h.set1 0 (r:=dC T g d s r t) (j:=3) (v:= .int .i32 x) rfl rfl rfl
theorem aOy {w:World} {R:List Row} (h:Hp B w0 w R):Hp B w0 w.drew R:=h.drawn _ (Nat.le_succ _)
set_option maxRecDepth 100000 in
set_option maxHeartbeats 1600000 in
theorem aMa {w:World} (hh:Hp B w0 w (dC T g 0 0 r t::R)) (hm: ∀w,Hp B w0 w (dC T g 0 1 r t::R)→Calls Tryz.prog 137 #[.pointer (some ⟨g,0,none⟩)] w fun e w'=>e= .returned (.tuple #[])∧Hp B w0 w' (dC T g 0 1 r' t'::R)):
  Calls Tryz.prog 208 #[.pointer (some ⟨g,0,none⟩), .func (.func 137) #[.pointer (some ⟨g,0,none⟩)] #[]] w fun e w'=>e= .returned (.tuple #[])∧Hp B w0 w' (dC T g 1 0 r' t'::R):=by
 have h1:=CG hh 1
 have hl:=run_call_load (P:=Tryz.prog) Tryz.func253 (by kernel_rfl) (by kernel_rfl) (by kernel_rfl) .u32 (by kernel_rfl) (yY h1)
 have hnot: ∀(x:Bool) (w:World),(Op.unary .not (.bool x)).run Tryz.prog w= .ok (.bool (!x)) w:=fun _ _=>rfl
 have k1:=UX hh
 have k2:=yX hh 1
 go_enter_defers Tryz.func208,Tryz.ntmps208
 go_wp2_with (first|(go_at_call 254;refine(aMp ⟨g,1,none⟩ _ (by go_simp) (by go_simp)).mono ?_;rintro e w' ⟨rfl,rfl⟩)|(go_at_call 137;refine(hm _ h1).mono ?_;rintro e w' ⟨rfl,h2⟩)|(go_at_call 207;go_in))
 refine leaves_cons (f:=256) (args:= #[.pointer (some ⟨g,0,none⟩), .bool true]) (by simp) (by simp[go_sem]) ?_
 refine(JP ⟨g,0,none⟩ _ .returning _ (yY h2) (yX h2 0)).mono ?_
 rintro e u' w'' ⟨rfl,rfl,rfl⟩
 have h3:=UW (aOy h2) 1
 refine leaves_cons (f:=255) (args:= #[.pointer (some ⟨g,1,none⟩)]) (by simp[settle]) (by simp[go_sem]) ?_
 refine(EN ⟨g,1,none⟩ _ _ (UX h3) (yX h3 1)).mono ?_
 rintro e u' w'' ⟨rfl,rfl,rfl⟩
 have h4:=CG h3 0
 simp[Leaves,settle,results,Tryz.results208]
 exact h4
set_option maxRecDepth 100000 in
set_option maxHeartbeats 1600000 in
theorem aFk (hm: ∀w,Hp B w0 w (dC T g 0 1 r t::R)→Calls Tryz.prog 137 #[.pointer (some ⟨g,0,none⟩)] w fun e w'=>e= .returned (.tuple #[])∧Hp B w0 w' (dC T g 0 1 r' t'::R)):
  Ct Tryz.prog 136 #[.pointer (some ⟨g,0,none⟩), .func (.func 137) #[.pointer (some ⟨g,0,none⟩)] #[]] B w0 (dC T g 0 0 r t::R) (fun v R'=>v= .tuple #[]∧R'=dC T g 1 0 r' t'::R):=by
 intro w hh
 have hl:=run_call_load (P:=Tryz.prog) Tryz.func253 (by kernel_rfl) (by kernel_rfl) (by kernel_rfl) .u32 (by kernel_rfl) (yY hh)
 have hnot: ∀(x:Bool) (w:World),(Op.unary .not (.bool x)).run Tryz.prog w= .ok (.bool (!x)) w:=fun _ _=>rfl
 go_enter Tryz.func136,Tryz.ntmps136
 go_wp2_with (first|(go_at_call 208;refine(aMa hh hm).mono ?_;rintro e w' ⟨rfl,h2⟩)|(go_at_call 207;go_in))
 go_end0
 exact⟨_,_,rfl,h2,rfl,rfl⟩
theorem aMb {fv:Value}:Ct Tryz.prog 136 #[.pointer (some ⟨g,0,none⟩),fv] B w0 (dC T g 1 0 r t::R) (fun v R'=>v= .tuple #[]∧R'=dC T g 1 0 r t::R):=by
 intro w hh
 have hl:=run_call_load (P:=Tryz.prog) Tryz.func253 (by kernel_rfl) (by kernel_rfl) (by kernel_rfl) .u32 (by kernel_rfl) (yY hh)
 have hnot: ∀(x:Bool) (w:World),(Op.unary .not (.bool x)).run Tryz.prog w= .ok (.bool (!x)) w:=fun _ _=>rfl
 go_enter Tryz.func136,Tryz.ntmps136
 go_wp2
 go_end0
 exact⟨_,_,rfl,hh,rfl,rfl⟩
theorem aRc (hr:0≤r∧r<1000000): ∀ {d s:Int} {w:World},Hp B w0 w (dC T g d s r t::R)→ ∃w',(callFunc 257 #[.pointer (some ⟨g,3,none⟩), .int .i32 1]).run Tryz.prog w= .ok (.value (.int .i32 (r+1))) w'∧Hp B w0 w' (dC T g d s (r+1) t::R):=by
 intro d s w hh
 refine⟨_,run_call_add (P:=Tryz.prog) Tryz.func257 (by kernel_rfl) (by kernel_rfl) (by kernel_rfl) .i32 (by kernel_rfl) (y:=1) (s:=r+1) (aOx hh) (yX hh 3) ?_,UV hh (r+1)⟩
 have:IntKind.i32.wrap (r+1)=r+1:=by rw[IntKind.wrap_i32];omega
 simp[Op.intArith,this]
end
end Go.Proofs.YtdbebmmhdefgdaaGreat

namespace Go.Proofs.YtdbebmmhdefgdaaGreat
open Go Go.Eng Go.Pure
open Tryz
set_option maxRecDepth 100000
theorem aPl (w:World):(Instr.build 203 #[]).run Tryz.prog w= .ok (.agg (sN 0 0 0 (List.replicate 256 0)).toArray) w:=by kernel_rfl
theorem oF {w:World}:
  Ct Tryz.prog 77 #[] w.heap.size w [] (fun v R'=> ∃g,v= .pointer (GG g)∧R'=[dC 203 g 0 0 0 (List.replicate 256 0)]):=by
 refine fn1 Tryz.func77 Z Z Z ?_
 refine wq<|wg Z<|aA<|wq<|wy (aIx aPl)<|wa (dV (sz:=260) Z (by kernel_rfl)) ?_
 rintro _ _ ⟨g_1,rfl,rfl⟩
 refine wg Z<|aA<|bA [0] 99 (by decide) Z ?_
 refine⟨_,Z,?_⟩
 exact⟨_,Z,Z⟩
theorem aHn {B:Nat} {w0:World} {R:List Row} {T g:Nat} {d s r:Int} {t:List Int} (hr:0≤r∧r<1000000):
  Ct Tryz.prog 209 #[.pointer (some ⟨g,3,none⟩), .int .i32 1] B w0 (dC T g d s r t::R) (fun v R'=>v= .int .i32 (r+1)∧R'=dC T g d s (r+1) t::R):=by
 refine fn1 Tryz.func209 Z Z Z ?_
 refine wq<|wg Z<|aA<|wq<|wm Z<|wy (aF Z)<|wy (aC (off:=0) (m:=3) underlying200 Z bDn Z Z Z)<|wm Z<|wa (aDs Z (fun w hw=>aRc hr hw)) ?_
 rintro _ _ ⟨rfl,rfl⟩
 refine wg Z<|aA<|dL ?_
 refine⟨_,Z,?_⟩
 exact⟨Z,Z⟩
theorem UY {B:Nat} {w0:World} {R:List Row} {T g:Nat} {d s r:Int} {t:List Int} (hr:0≤r∧r<1000000) (ht:t.length=256):
  Ct Tryz.prog 137 #[.pointer (GG g)] B w0 (dC T g d s r t::R) (fun v R'=>v= .tuple #[]∧R'=dC T g d s (r+1) qH::R):=by
 refine fn0 Tryz.func137 Z Z Z ?_
 refine wq<|wm Z<|wy (aF Z)<|wy (aC (off:=3) (m:=3) underlying203 Z aZw Z Z Z)<|wa (aD bBu Z (Ct.at 0 Z (aHn (by omega)))) ?_
 rintro _ _ ⟨rfl,rfl⟩
 refine aA<|wq<|wm Z<|aA<|aI ?_
 refine rQ (fun(k:Int)=>[(0, .pointer (GG g)),(9,I k)]) (fun(k:Int)=>(dC T g d s (r+1) (qH.take k.toNat++t.drop k.toNat)::R)) (fun(k:Int)=>(0≤k)∧(k≤256)) (fun(k:Int)=>(256-k).toNat) ?_ ?_
 ·exact⟨0,⟨(by omega),(by omega)⟩,(G2 Z Z),fun _ h=>h⟩
 intro k ⟨hk0,hk1⟩
 refine wq<|wL Z Z<|aA<|aG<|bM Z (fun hc1=> ?_) (fun hc1=> ?_)
 ·refine aJ<|aG<|aI<|wq<|wm Z<|wg Z<|aA<|wq<|wm Z<|wy (aAq underlying3 underlying123 Z)<|wg Z<|aA<|aG ?_
  refine wq<|wm Z<|aA<|aI ?_
  refine dW (fun(j:Int) (x:BitVec 32)=>[(0, .pointer (GG g)),(2,I k),(3, .int .u32 (bv x)),(9,I k),(14,I j)]) (fun(j:Int) (x:BitVec 32)=>(dC T g d s (r+1) (qH.take k.toNat++t.drop k.toNat)::R)) (fun(j:Int) (x:BitVec 32)=>(0≤j)∧(j≤8)∧(ZB (BitVec.ofInt 32 k)=IQ (8-j).toNat x)) (fun(j:Int) (x:BitVec 32)=>(8-j).toNat) ?_ ?_
  ·exact⟨0,BitVec.ofInt 32 k,⟨(by omega),(by omega),(Z)⟩,(G5 Z Z Z Z Z),fun _ h=>h⟩
  intro j x ⟨hj0,hj8,hx⟩
  refine wq<|wL Z Z<|aA<|aG<|bM Z (fun hc2=> ?_) (fun hc2=> ?_)
  ·refine aJ<|aG<|aI<|wq<|wm Z<|wy (aIy (p:=x) (q:=1#32) Z Z)<|wg Z<|aA<|wq<|wm Z<|wy (aIq (k:=1) Z Z Z)<|wg Z<|aA ?_
   refine wq<|wm Z<|wy (aZs (p:=x &&& (1#32)) (q:=1#32) Z Z)<|aA<|bM Z (fun hc3=> ?_) (fun hc3=> ?_)
   ·refine aL<|wm Z<|wy (NS (p:=x>>>1) (q:=3988292384#32) Z Z)<|wg Z<|aA<|aL<|wA Z Z<|wm Z<|aA ?_
    exact⟨j+1,(x>>>1)^^^(3988292384#32),⟨(by omega),(by omega),(by rw[hx,NB (by omega)];unfold aDe;rw[if_pos (by assumption)])⟩,(by omega),(G5 Z Z Z Z Z),fun _ h=>h⟩
   ·refine aJ<|aL<|wA Z Z<|wm Z<|aA ?_
    exact⟨j+1,x>>>1,⟨(by omega),(by omega),(by rw[hx,NB (by omega)];unfold aDe;rw[if_neg (by assumption)])⟩,(by omega),(G5 Z Z Z Z Z),fun _ h=>h⟩
  ·refine aZ<|aL<|wm Z<|wm Z<|wm Z<|wy (aF Z)<|wy (aC (off:=4) (m:=4) underlying203 Z aVd Z Z Z)<|wy (KN 0 Z Z underlying201 aJw Z Z (by show _<(sN _ _ _ _).length;rw[BD,List.length_append,List.length_take,List.length_drop,uK,ht];omega) (by omega) (by omega)) ?_
   refine bY (bF 0 Z Z Z aJw Z Z Z Z (by show _<(sN _ _ _ _).length;rw[BD,List.length_append,List.length_take,List.length_drop,uK,ht];omega)) ?_
   rintro _ _ rfl
   refine iZ (R1:=(dC T g d s (r+1) (qH.take (k+1).toNat++t.drop (k+1).toNat)::R)) (by have hj:j=8:=(by omega);subst hj;have hf:=aHl ht hk0 (show k<256 by omega);rw[hx] at hf;simp only[List.set_cons_zero,dC,aHm];rw[←hf];rfl) ?_
   refine aA<|aL<|wA Z Z<|wm Z<|aA ?_
   exact⟨k+1,⟨(by omega),(by omega)⟩,(by omega),(G2 Z Z),fun _ h=>h⟩
 ·refine aZ ?_
  skip
  obtain rfl:k=256:=by omega
  refine⟨Z,?_⟩
  have e:qH.take (256:Int).toNat++t.drop (256:Int).toNat=qH:=by rw[List.take_of_length_le (by rw[uK];decide),List.drop_of_length_le (by rw[ht];decide),List.append_nil]
  rw[e]
theorem aSf {B:Nat} {w0:World} {R:List Row} {T g:Nat} {d r r':Int} {t:List Int} (hst:(d=0∧r'=r+1∧t.length=256∧0≤r∧r<1000000)∨(d=1∧r'=r∧t=qH)):
  Ct Tryz.prog 136 #[.pointer (GG g), .func (.func 137) #[.pointer (GG g)] #[]] B w0 (dC T g d 0 r t::R) (fun v R'=>v= .tuple #[]∧R'=dC T g 1 0 r' qH::R):=by
 rcases hst with⟨rfl,rfl,ht,hr⟩|⟨rfl,rfl,rfl⟩
 ·exact aFk (fun w hw=>(UY hr ht w hw).mono (by rintro e w' ⟨v,R',rfl,hh,rfl,rfl⟩;exact⟨rfl,hh⟩))
 ·exact aMb
theorem oD {B:Nat} {w0:World} {R:List Row} {T g:Nat} {d r r':Int} {t:List Int} {A:Option Addr} {m c:Nat} {vals:List Value} {ls:List (List Int)} (hst:(d=0∧r'=r+1∧t.length=256∧0≤r∧r<1000000)∨(d=1∧r'=r∧t=qH)) (hA:RdC B w0 R A m c 1 vals) (hm:m=vals.length) (hls:wT B w0 R vals ls) (hbig:Big ls):
  Ct Tryz.prog 78 #[.pointer (GG g), .slice A m c] B w0 (dC T g d 0 r t::R) (fun v R'=>v= .int .u32 (bv (jP ls.flatten))∧R'=dC T g 1 0 r' qH::R):=by
 refine fn1 Tryz.func78 Z Z Z ?_
 have hmax:=hbig.1
 have hle:=hls.1
 refine wq<|wg Z<|aA<|aG<|wq<|wm Z<|wy (jR underlying124 Z Z)<|aA<|aQ Z<|aJ<|wq<|wm Z ?_
 refine wy (aF Z)<|wy (aC (off:=0) (m:=0) underlying203 Z aZx Z Z Z)<|wm Z<|wy (kR Z Z)<|wa (aD bCi Z (Ct.at 0 Z (aSf hst))) ?_
 rintro _ _ ⟨rfl,rfl⟩
 refine aA<|wq<|wg Z<|aA<|aG<|wq<|wm Z<|wy (aR underlying23 Z)<|wm Z<|aA<|aI ?_
 refine dW (fun(k:Int) (x:BitVec 32)=>[(0, .pointer (GG g)),(5, .int .u32 (bv x)),(18, .slice A m c),(19,I ((m:Nat):Int)),(20,I k)]) (fun(k:Int) (x:BitVec 32)=>(dC T g 1 0 r' qH::R)) (fun(k:Int) (x:BitVec 32)=>(0≤k)∧(k≤m)∧(JC 4294967295#32 ls.flatten=JC x (ls.drop k.toNat).flatten)) (fun(k:Int) (x:BitVec 32)=>(m-k).toNat) ?_ ?_
 ·exact⟨0,4294967295#32,⟨(by omega),(by omega),(Z)⟩,(G5 Z Z Z Z Z),fun _ h=>h⟩
 intro k x ⟨hk0,hk1,hx⟩
 refine wq<|wL Z Z<|aA<|aG<|bM Z (fun hc1=> ?_) (fun hc1=> ?_)
 ·refine aJ<|aG<|aI<|wq<|wy (aH underlying23 fP Z Z (RdC.tail hA) (by omega) (by omega)) ?_
  obtain⟨A1,c1,l1,hv1,hl1,hr1,hb1⟩:=hls.at hk0 (by have:=hls.1;omega)
  have hbl:=hbig.2 _ _ hl1
  refine wy (EE underlying22 Z Z Z (RdC.tail hA) hv1)<|wg Z<|aA<|wq<|wm Z<|wy (aR underlying22 Z)<|wm Z<|aA<|aI ?_
  refine dW (fun(j:Int) (y:BitVec 32)=>[(0, .pointer (GG g)),(5, .int .u32 (bv y)),(18, .slice A m c),(19,I ((m:Nat):Int)),(20,I k),(24, .slice A1 l1.length c1),(25,I ((l1.length:Nat):Int)),(26,I j)]) (fun(j:Int) (y:BitVec 32)=>(dC T g 1 0 r' qH::R)) (fun(j:Int) (y:BitVec 32)=>(0≤j)∧(j≤l1.length)∧(JC 4294967295#32 ls.flatten=JC y (l1.drop j.toNat++(ls.drop (k+1).toNat).flatten))) (fun(j:Int) (y:BitVec 32)=>(l1.length-j).toNat) ?_ ?_
  ·exact⟨0,x,⟨(by omega),(by omega),(by rw[hx,aHh hk0 hl1];rfl)⟩,(G8 Z Z Z Z Z Z Z Z),fun _ h=>h⟩
  intro j y ⟨hj0,hj1,hy⟩
  refine wq<|wL Z Z<|aA<|aG<|bM Z (fun hc2=> ?_) (fun hc2=> ?_)
  ·refine aJ<|aG<|aI<|wq<|wy (aH underlying22 sz5 Z Z (RdC.tail hr1) (by omega) (by omega))<|wy (aX underlying5 Z Z (RdC.tail hr1) (by omega) (by omega))<|wg Z<|aA<|aL<|wm Z<|wy (aIq (k:=8) Z Z Z)<|wm Z<|wm Z<|wy (aIy (p:=y) (q:=255#32) Z Z) ?_
   refine wm Z<|wy (aAq underlying5 underlying123 Z)<|wy (NS Z Z)<|wy (aF Z)<|wy (aC (off:=4) (m:=4) underlying203 Z aVd Z Z Z)<|wy (KN 0 Z Z underlying201 aJw Z Z (by show _<(sN _ _ _ _).length;rw[BD,uK];omega) (by exact(PL (x:=y) (hb1.rd j)).1) (by exact(PL (x:=y) (hb1.rd j)).2)) ?_
   refine wy (aWm 0 Z Z underlying123 Z Z (aOz (aTw (PL (x:=y) (hb1.rd j)).2)))<|wy (NS Z Z)<|wg Z<|aA<|aL<|wA Z Z<|wm Z<|aA ?_
   exact⟨j+1,(y>>>8)^^^(ZB (ZC y (rd l1 j))),⟨(by omega),(by omega),(by rw[hy,ZM hj0 (by omega)];rfl)⟩,(by omega),(G8 Z Z Z Z Z Z Z Z),fun _ h=>h⟩
  ·refine aZ<|aL<|wA Z Z<|wm Z<|aA ?_
   exact⟨k+1,y,⟨(by omega),(by omega),(by rw[hy,UN (by omega)];rfl)⟩,(by omega),(G5 Z Z Z Z Z),fun _ h=>h⟩
 ·refine aZ<|wq<|wm Z<|wy (NS (p:=x) (q:=4294967295#32) Z Z)<|wg Z<|aA<|dL ?_
  refine⟨_,Z,?_⟩
  refine⟨?_,Z⟩
  rw[UN (by omega)] at hx
  unfold jP
  rw[hx]
  rfl
end Go.Proofs.YtdbebmmhdefgdaaGreat

namespace Go.Eng
open Go Go.RowKit Go.Pure
section
variable {P:Program} {n:Nd} {B:Nat} {w0:World} {L:Env} {R:List Row} {ty:TypeId}
theorem aQc {f:FuncId} {fn:Func} {x:Operand} {ts:Array TypeId} {m:Nat} {ps:Array TypeId} {t e:TypeId} (hf:P.funcs[f]? =some fn) (hname:(fn.name== "runtime.NumGoroutine")=false) (hb:fn.body.isNone=true) (hn:Extern.findNext fn=none) (he:Extern.find fn=some (Extern.BytealgMakeNoZero.makeNoZero ps #[t]))
  (ht:P.underlying t=some (.slice e)) (hx:ev L x=some (.int .i64 (m:Int))) (hm:m≤1000000):
  Ac P n B w0 (.call {callee:= .value (.func f),args:=[x].toArray,argTypes:=ts}) ty L R (fun v R'=> ∃g C,m≤C∧v= .slice (some ⟨g,0,none⟩) m C∧R'=⟨e,1,some ⟨g,0,none⟩,0,C,ints .u8 [],false⟩::R):=
 PZ (vs:=[.int .i64 (m:Int)]) (by simp[evs,hx]) fun w hw=>by
  obtain⟨cs,hr,hge,hle⟩:=Lib.run_makeNoZero (P:=P) w ps t e ht m (by omega)
  have hp2:=((hw.drawn (w.drawn+1+1) (by omega)).newC cs e m hge (hle (by unfold maxLen;omega))).cut (k:=0) (Nat.zero_le _) (by simp)
  refine⟨_,_,_,?_,hp2,w.heap.size,cs.size,hge,rfl,by simp[ints]⟩
  rw[run_callFunc_extern hf hname hb hn he]
  rw[show [Value.int .i64 (m:Int)].toArray= #[.int .i64 m] from rfl,hr]
  rfl
theorem NN {x y:Operand} {t t2 e:TypeId} {pp:Option Addr} {g p dl dc c m2 c2:Nat} {A2:Option Addr} {k:IntKind} {D src:List Int} (i:Nat) (hi:R[i]? =some ⟨e,1,some ⟨g,0,none⟩,p,c,ints k D,false⟩) (ht:P.underlying t=some (.slice e)) (hst:(P.info? e).map (·.size)=some 1)
  (hx:ev L x=some (.slice pp dl dc)) (hy:ev L y=some (.slice A2 m2 c2)) (hpp:pp=some ⟨g,p,none⟩) (hdl:p+dl≤c) (hrd:RdC B w0 R A2 m2 c2 1 (ints k src)):
  Ac P n B w0 (.call {callee:= .builtin .copy,args:= #[x,y],argTypes:= #[t,t2]}) ty L R (fun v R'=>v= .int .i64 ((min m2 dl:Nat):Int)∧R'=R.set i ⟨e,1,some ⟨g,0,none⟩,p+min m2 dl,c,ints k (D++src.take (min m2 dl)),false⟩):=by
 intro a w o K Q ho hty hs hw hk
 have hown:=Row.lies_w (hw.own _ (List.mem_of_getElem? hi)) rfl
 have hr2:=hrd w hw
 have hm2:m2=src.length:=hr2.lenI
 have hl:p=D.length:=by have:=hown.1;rw[bS] at this;simp only at this;omega
 rcases hown.2 with⟨hv,_⟩|⟨g',cap,cur,hv,hb,hg,hnc,hcm,hcs,htk⟩
 ·simp at hv
 simp only[Value.slice.injEq,Option.some.injEq,Addr.mk.injEq,and_true,true_and] at hv
 obtain⟨rfl,rfl⟩:=hv
 simp only at htk hcs hnc hg hb
 rw[Nat.mul_one] at htk hcs
 subst hpp
 obtain⟨q,hq⟩: ∃q,min m2 dl=q:=⟨_,rfl⟩
 rw[hq] at hk
 have hq':Nat.min m2 dl=q:=hq
 have hcl:(ints k (src.take q)).length=q:=by rw[bS,List.length_take];omega
 rcases Nat.eq_zero_or_pos m2 with hz|hpos
 ·have hq0:q=0:=by omega
  have hrun:=run_copy_none (P:=P) w t t2 o.type e (some ⟨g,p,none⟩) A2 dl dc m2 c2 ht hst (by rw[hz];exact Nat.zero_min _)
  unfold Oper.wp execOp
  simp only[ho,resolve,invoke,builtin,Sem.run_bind,Sem.run_pure,Result.andThen_ok,List.map_toArray,List.map_cons,List.map_nil,hs.ev hx,hs.ev hy,hrun,Oper.upon]
  refine hk (.int .i64 ((0:Nat):Int)) w R hw ⟨by rw[hq0],?_⟩
  rw[hq0]
  simp only[List.take_zero,List.append_nil,Nat.add_zero]
  exact(by
   apply List.ext_getElem?
   intro j
   rw[List.getElem?_set]
   split
   ·rename_i e;subst e;rw[if_pos (List.getElem?_eq_some_iff.1 hi).1,hi]
   ·rfl)
 ·obtain ⟨a2,rfl⟩: ∃a2,A2=some a2:=by
   obtain⟨a2,h,_⟩:=hr2.at_ 0 _ (List.getElem?_eq_getElem (by rw[bS];omega))
   exact⟨a2,h⟩
  have hrun:=run_copy_row P w t t2 o.type e g p dl dc a2 m2 c2 cur e (ints k (src.take q)) ht hst hg (by rw[hcl];exact hq.symm) (fun j v hv=>by
   obtain⟨b,h1,h2⟩:=hr2.at_ j v (by
    rw[ints,List.map_take] at hv
    rw[List.getElem?_take] at hv
    split at hv
    ·exact hv
    ·cases hv)
   obtain rfl:=Option.some.inj h1
   exact h2) (by rw[hcl,hcs];omega) (yO k _)
  rw[hcl] at hrun
  unfold Oper.wp execOp
  simp only[ho,resolve,invoke,builtin,Sem.run_bind,Sem.run_pure,Result.andThen_ok,List.map_toArray,List.map_cons,List.map_nil,hs.ev hx,hs.ev hy,hrun,Oper.upon]
  refine hk (.int .i64 (q:Int)) _ _ ?_ ⟨rfl,rfl⟩
  refine hw.upd hi (row:=some g) ⟨rfl,rfl,rfl,by simp,fun j _ hj=>setRow_other w g j _ (fun e=>hj (by simp[e]))⟩ (Nat.le_refl _) (fun j hj=>by cases hj;exact⟨_,rfl,rfl⟩) ?_ (fun a' ha'=> .inl ⟨a',ha',rfl⟩)
  unfold Row.lies
  simp only
  refine⟨?_, .inr ⟨g,c,_,rfl,hb,setRow_heap w g cur _ e _ hg,by omega,hcm,?_,?_⟩⟩
  ·simp only[bS,List.length_append,List.length_take];omega
  ·simp only[List.size_toArray,List.length_append,List.length_take,List.length_drop,Array.length_toList,bS];omega
  ·simp only[Nat.mul_one]
   rw[pY,←htk]
   have h1:(cur.toList.take p++ints k (src.take q)).length=p+q:=by
    rw[List.length_append,hcl,List.length_take,Array.length_toList];omega
   rw[List.take_append,h1,List.take_of_length_le (by omega),Nat.sub_self,List.take_zero,List.append_nil]
theorem aIp {x y:Operand} {t e:TypeId} {A:Option Addr} {m c sz:Nat} {k1:IntKind} {vh:Int} (ht:P.underlying t=some (.slice e)) (hi:(P.info? e).map (·.size)=some sz) (hx:ev L x=some (.slice A m c)) (hy:ev L y=some (.int k1 vh)) (h0:0≤vh) (hc:vh≤c):
  Yl P n B w0 (.slice t x none (some y) none) ty L R (.slice A vh.toNat c):=by
 intro a w o ho _ hs hp
 obtain⟨i0,hi0,hsz0⟩:=Option.map_eq_some_iff.1 hi
 have hel:P.elem t=e:=by simp[Program.elem,ht]
 have ht':P.underlying t=some (.slice (P.elem t)):=by rw[hel];exact ht
 simp only[execOp,ho,Option.map_some,Option.map_none,hs.ev hx,hs.ev hy,Sem.run_bind,run_sliceAt_slice w t _ _ _ _ ht',run_slice_h w t A m c ht' k1 vh h0 hc,hel]
 have:(if c=0 then A else Option.map (fun x=>x.add 0) A)=A:=by
  split
  ·rfl
  ·exact xZ A
 simp[sizeOf,typeInfo,hi0,hsz0,sliced,this]
theorem aDv {x y z:Operand} {t e:TypeId} {A:Option Addr} {m c h sz:Nat} {k1 k2:IntKind} {vh vm:Int} (ht:P.underlying t=some (.slice e)) (hi:(P.info? e).map (·.size)=some sz) (hx:ev L x=some (.slice A m c)) (hy:ev L y=some (.int k1 vh)) (hz:ev L z=some (.int k2 vm)) (e1:vh=(h:Int)) (e2:vm=(h:Int)) (hc:h≤c):
  Yl P n B w0 (.slice t x none (some y) (some z)) ty L R (.slice A h h):=by
 subst e1;subst e2
 intro a w o ho _ hs hp
 obtain⟨i0,hi0,hsz0⟩:=Option.map_eq_some_iff.1 hi
 have hel:P.elem t=e:=by simp[Program.elem,ht]
 have ht':P.underlying t=some (.slice (P.elem t)):=by rw[hel];exact ht
 simp only[execOp,ho,Option.map_some,Option.map_none,hs.ev hx,hs.ev hy,hs.ev hz,Sem.run_bind,run_sliceAt_slice w t _ _ _ _ ht',run_slice_hm w t A m c ht' k1 k2 (h:Int) (h:Int) (by omega) (by omega) (by omega),hel]
 have:(if h=0 then A else Option.map (fun x=>x.add 0) A)=A:=by
  split
  ·rfl
  ·exact xZ A
 simp[sizeOf,typeInfo,hi0,hsz0,sliced,this]
theorem Row.lies_ro {w:World} {e sz m c c':Nat} {A:Option Addr} {xs:List Value} (h:Row.lies B w ⟨e,sz,A,m,c,xs,false⟩) (hA:A≠none) (hc:m≤c'):Row.lies B w ⟨e,sz,A,m,c',xs,true⟩:=by
 have h1:=Row.lies_w h rfl
 unfold Row.lies
 simp only
 obtain⟨hl,h2⟩:=h1
 simp only at hl h2
 rcases h2 with⟨hv,_⟩|⟨g,cap,cur,hv,hb,hg,hnc,hcm,hcs,ht⟩
 ·simp only[Value.slice.injEq] at hv
  exact absurd hv.1 hA
 ·simp only[Value.slice.injEq] at hv
  obtain⟨rfl,_,rfl⟩:=hv
  exact⟨g,cur,_,rfl,hb,hg,by omega,hc,hl,ht⟩
theorem Hp.toRo {w:World} {e sz m c c':Nat} {A:Option Addr} {xs:List Value} (h:Hp B w0 w (⟨e,sz,A,m,c,xs,false⟩::R)) (hA:A≠none) (hc:m≤c'):Hp B w0 w (⟨e,sz,A,m,c',xs,true⟩::R):=
 ⟨h.below,h.base,fun r hr=>by
  rcases List.mem_cons.1 hr with rfl|hr
  ·exact Row.lies_ro (h.own _ (.head _)) hA hc
  ·exact h.own r (.tail _ hr),by
  obtain⟨h1,h2⟩:=List.pairwise_cons.1 h.apart
  exact List.pairwise_cons.2 ⟨fun r hr=>h1 r hr,h2⟩,h.late⟩
theorem RdC.capI {A:Option Addr} {m c c':Nat} {k:IntKind} {l:List Int} (h:RdC B w0 R A m c 1 (ints k l)) (hc:m≤c'):RdC B w0 R A m c' 1 (ints k l):=fun w hw=>
 let q:=h w hw
 ⟨q.len,q.max,hc,q.at_⟩
structure QB (u D:List Int) (N:Nat) (p:Int):Prop where
 p0:0≤p
 pN:p≤N
 up:(u.length:Int)≤p
 len:(D.length:Int)=p
 at_: ∀j:Nat,j<p→lt D j=om u j
 dvd:p=N∨(u.length:Int)∣p
theorem aXy {D E:List Int} {j:Nat}:lt (D++E) j=if j<D.length then lt D j else lt E (j-D.length):=by
 unfold lt
 rw[List.getD_eq_getElem?_getD]
 split
 ·rw[List.getElem?_append_left (by omega),List.getD_eq_getElem?_getD]
 ·rw[List.getElem?_append_right (by omega),List.getD_eq_getElem?_getD]
theorem lt_take {D:List Int} {j q:Nat} (h:j<q):lt (D.take q) j=lt D j:=by
 unfold lt
 rw[List.getD_eq_getElem?_getD,List.getElem?_take_of_lt h,List.getD_eq_getElem?_getD]
theorem QB.init {u:List Int} {N:Nat} (hu:u.length≤N):QB u ([]++u.take (min u.length N)) N ((min u.length N:Nat):Int):=by
 have e:min u.length N=u.length:=by omega
 rw[e,List.nil_append,List.take_length]
 exact⟨by omega,by omega,by omega,rfl,fun j hj=>(BU (by omega)).symm, .inr (Int.dvd_refl _)⟩
theorem QB.step {u D:List Int} {N:Nat} {p:Int} (h:QB u D N p) (hu:0<u.length) (hp:p<N):
  QB u (D++(D.take (min p N).toNat).take (min (min p N).toNat (N-p.toNat))) N (p+((min (min p N).toNat (N-p.toNat):Nat):Int)):=by
 obtain⟨p0,pN,up,len,at_,dvd⟩:=h
 have e:min p (N:Int)=p:=by omega
 rw[e]
 obtain⟨q,hq⟩: ∃q,min p.toNat (N-p.toNat)=q:=⟨_,rfl⟩
 rw[hq]
 have hd:(u.length:Int)∣p:=dvd.resolve_left (by omega)
 refine⟨by omega,by omega,by omega,by rw[List.length_append,List.length_take,List.length_take];omega,fun j hj=> ?_,?_⟩
 ·rw [aXy]
  split
  ·exact at_ j (by omega)
  ·rename_i hc
   rw[lt_take (by omega),lt_take (by omega),at_ _ (by omega)]
   obtain⟨k,hk⟩:=hd
   have hk0:0≤k:=by
    rcases Int.lt_or_le k 0 with g|g
    ·have:=Int.mul_nonneg (show(0:Int)≤u.length by omega) (show 0≤ -k by omega)
     rw[Int.mul_neg] at this
     omega
    ·exact g
   have e3:D.length=u.length*k.toNat:=by
    have:(D.length:Int)=((u.length*k.toNat:Nat):Int):=by rw[len,hk,Int.natCast_mul,Int.toNat_of_nonneg hk0]
    exact_mod_cast this
   have:=(tX u).mul k.toNat (j-D.length)
   rw[←this,←e3,Nat.sub_add_cancel (by omega)]
 ·rcases Nat.lt_or_ge q p.toNat with g|g
  ·left;omega
  ·right
   have:(q:Int)=p:=by omega
   rw[this]
   exact Int.dvd_add hd hd
theorem QB.done {u D:List Int} {cn:Int} {N:Nat} {p:Int} (h:QB u D N p) (hp: ¬p<N) (hN:N=cn.toNat*u.length):D=rep u cn:=by
 have hl:=h.len
 have hpN:=h.pN
 refine bH (by rw[oP];omega) fun j h0 h1=> ?_
 have h2:=h.at_ j.toNat (by omega)
 have h3:=FJ u cn.toNat j.toNat (by omega)
 rw[GZ,h2,←h3]
 unfold rd rep
 rw[Int.toNat_natCast]
end
end Go.Eng

namespace Go.Proofs
open Go.Shelf
def Tryz.laysRing_ren:Go.Shelf.Ren:=⟨fun|6=>117|15=>192|14=>191|28=>251|29=>252|20=>243|21=>244|22=>245|23=>246|24=>247|25=>248|26=>249|27=>250|46=>281|47=>282|48=>283|49=>284|50=>285|57=>305|n=>n,fun|22=>114|24=>117|25=>171|3=>3|39=>167|0=>0|53=>123|55=>112|4=>4|46=>289|45=>288|50=>97|5=>5|9=>9|66=>316|70=>320|76=>337|77=>338|n=>n,fun|n=>n⟩
theorem Tryz.laysRing:Go.Proofs.SlLaysF0.n6 Tryz.prog Tryz.laysRing_ren:= {
 mixed:=by kernel_rfl
 f6:=⟨Tryz.f117.name,by decide,Tryz.func117.trans (congrArg some (by kernel_rfl))⟩
 f14:=⟨Tryz.f191.name,by decide,Tryz.func191.trans (congrArg some (by kernel_rfl))⟩
 f15:=Tryz.func192.trans (congrArg some (by kernel_rfl))
 f20:=⟨Tryz.f243.name,by decide,Tryz.func243.trans (congrArg some (by kernel_rfl))⟩
 f21:=⟨Tryz.f244.name,by decide,Tryz.func244.trans (congrArg some (by kernel_rfl))⟩
 f22:=⟨Tryz.f245.name,by decide,Tryz.func245.trans (congrArg some (by kernel_rfl))⟩
 f23:=⟨Tryz.f246.name,by decide,Tryz.func246.trans (congrArg some (by kernel_rfl))⟩
 f24:=⟨Tryz.f247.name,by decide,Tryz.func247.trans (congrArg some (by kernel_rfl))⟩
 f25:=⟨Tryz.f248.name,by decide,Tryz.func248.trans (congrArg some (by kernel_rfl))⟩
 f26:=⟨Tryz.f249.name,by decide,Tryz.func249.trans (congrArg some (by kernel_rfl))⟩
 f27:=⟨Tryz.f250.name,by decide,Tryz.func250.trans (congrArg some (by kernel_rfl))⟩
 f28:=Tryz.func251.trans (congrArg some (by kernel_rfl))
 f29:=Tryz.func252.trans (congrArg some (by kernel_rfl))
 f46:=⟨Tryz.f281.name,by decide,Tryz.func281.trans (congrArg some (by kernel_rfl))⟩
 f47:=Tryz.func282.trans (congrArg some (by kernel_rfl))
 f48:=Tryz.func283.trans (congrArg some (by kernel_rfl))
 f49:=⟨Tryz.f284.name,by decide,Tryz.func284.trans (congrArg some (by kernel_rfl))⟩
 f50:=⟨Tryz.f285.name,by decide,Tryz.func285.trans (congrArg some (by kernel_rfl))⟩
 f57:=⟨Tryz.f305.name,by decide,Tryz.func305.trans (congrArg some (by kernel_rfl))⟩
 t0:=Tryz.underlying0
 a0:=Tryz.isAgg0
 z0:=Tryz.sizeOf0
 v0:=Tryz.zeroValue0
 t3:=Tryz.underlying3
 a3:=Tryz.isAgg3
 z3:=Tryz.sizeOf3
 v3:=Tryz.zeroValue3
 t4:=Tryz.underlying4
 a4:=Tryz.isAgg4
 z4:=Tryz.sizeOf4
 v4:=Tryz.zeroValue4
 t5:=Tryz.underlying5
 a5:=Tryz.isAgg5
 z5:=Tryz.sizeOf5
 v5:=Tryz.zeroValue5
 t9:=Tryz.underlying9
 a9:=Tryz.isAgg9
 z9:=Tryz.sizeOf9
 v9:=Tryz.zeroValue9
 t22:=Tryz.underlying114
 a22:=Tryz.isAgg114
 z22:=Tryz.sizeOf114
 v22:=Tryz.zeroValue114
 t25:=Tryz.underlying171
 a25:=Tryz.isAgg171
 z25:=Tryz.sizeOf171
 v25:=Tryz.zeroValue171
 t39:=Tryz.underlying167
 a39:=Tryz.isAgg167
 z39:=Tryz.sizeOf167
 v39:=Tryz.zeroValue167
 t45:=Tryz.underlying288
 a45:=Tryz.isAgg288
 z45:=Tryz.sizeOf288
 v45:=Tryz.zeroValue288
 t46:=Tryz.underlying289
 a46:=Tryz.isAgg289
 z46:=Tryz.sizeOf289
 v46:=Tryz.zeroValue289
 t50:=Tryz.underlying97
 a50:=Tryz.isAgg97
 z50:=Tryz.sizeOf97
 v50:=Tryz.zeroValue97
 t53:=Tryz.underlying123
 a53:=Tryz.isAgg123
 z53:=Tryz.sizeOf123
 v53:=Tryz.zeroValue123
 t55:=Tryz.underlying112
 a55:=Tryz.isAgg112
 z55:=Tryz.sizeOf112
 v55:=Tryz.zeroValue112
 t66:=Tryz.underlying316
 a66:=Tryz.isAgg316
 z66:=Tryz.sizeOf316
 v66:=Tryz.zeroValue316
 t70:=Tryz.underlying320
 a70:=Tryz.isAgg320
 z70:=Tryz.sizeOf320
 v70:=Tryz.zeroValue320
 t76:=Tryz.underlying337
 a76:=Tryz.isAgg337
 z76:=Tryz.sizeOf337
 v76:=Tryz.zeroValue337
 t77:=Tryz.underlying338
 a77:=Tryz.isAgg338
 z77:=Tryz.sizeOf338
 v77:=Tryz.zeroValue338}
def Tryz.laysRow_ren:Go.Shelf.Ren:=⟨fun|6=>303|15=>192|14=>328|28=>251|29=>252|20=>350|21=>351|22=>352|23=>353|24=>354|25=>355|26=>356|27=>357|46=>363|47=>282|48=>283|49=>364|50=>365|57=>375|n=>n,fun|22=>23|24=>22|25=>149|3=>3|39=>167|0=>0|53=>123|55=>112|4=>4|46=>289|45=>288|50=>97|5=>5|9=>9|66=>316|70=>320|76=>337|77=>338|n=>n,fun|n=>n⟩
end Go.Proofs

namespace Go.Proofs.YtdbebmmhdefgdaaGreat
open Go Go.Eng Go.Pure
open Tryz
set_option maxRecDepth 100000
theorem aSn {B:Nat} {w0:World} {R:List Row} (x y:Nat) (hx:x≤1000000) (hy:y≤1000000) (h:x*y≤1000000):Ct Tryz.prog 122 #[.int .u64 ((x:Nat):Int), .int .u64 ((y:Nat):Int)] B w0 R (fun v R'=>v= .tuple #[.int .u64 0, .int .u64 ((x*y:Nat):Int)]∧R'=R):=by
 intro w hw
 have hc:=Tryz.bits_Mul x y (by omega) (by omega) w
 rw[Nat.div_eq_of_lt (by omega),Nat.mod_eq_of_lt (by omega)] at hc
 refine hc.mono ?_
 rintro e w' ⟨rfl,rfl⟩
 exact⟨_,R,Z,hw,Z,Z⟩
theorem KO {p:Int} (h:0≤p∧p≤18446744073709551615):IntKind.u64.wrap p=p:=by rw[IntKind.wrap_u64];omega
set_option maxHeartbeats 800000 in
theorem XN {w:World} {A_u:Option Addr} {n_u c_u:Nat} {u:List Int} {cn:Int} (h_u:Rd w A_u n_u c_u 1 (ints .u8 u)) (hu:0<u.length) (hc:1≤cn) (hP:cn.toNat*u.length≤8000):
  Ct Tryz.prog 72 #[.slice A_u n_u c_u,I cn] w.heap.size w [] (fun v R'=> ∃A c,v= .slice A (rep u cn).length c∧R'=[⟨5,1,A,(rep u cn).length,c,ints .u8 (rep u cn),true⟩]):=by
 obtain rfl:=h_u.lenI
 refine fn1 Tryz.func72 Z Z Z ?_
 have m_u:=h_u.max
 obtain⟨N,hN1⟩: ∃N:Nat,u.length*cn.toNat=N:=⟨_,rfl⟩
 have hN2:cn.toNat*u.length=N:=by rw[Nat.mul_comm];exact hN1
 have hN3:u.length≤N:=by rw[←hN2];exact Nat.le_mul_of_pos_left _ (by omega)
 have hN4:cn.toNat≤N:=by rw[←hN1];exact Nat.le_mul_of_pos_left _ hu
 refine wq<|wg Z<|aA<|aG<|wq<|wm Z<|wy (Yl.f (dI Z Z) (by omega))<|aA<|aQ Z<|aJ<|aG<|wq ?_
 refine wm Z<|wy (Yl.f (fG Z Z) (by omega))<|aA<|aQ Z<|aJ<|wq<|wm Z<|wy (aR underlying22 Z)<|wy (Yl.is (oJ underlying3 underlying167 Z) (by rw[KO (by omega)])) ?_
 refine wm Z<|wy (Yl.is (oJ underlying3 underlying167 Z) (show Value.int .u64 (IntKind.u64.wrap cn)=Value.int .u64 ((cn.toNat:Nat):Int) from by rw[KO (by omega),Int.toNat_of_nonneg (by omega)]))<|wa (aD aWe rfl (aSn u.length cn.toNat (by omega) (by omega) (by omega))) ?_
 rw[hN1]
 rintro _ _ ⟨rfl,rfl⟩
 refine wm Z<|wX Z Z<|wX Z Z<|wg Z<|wg Z<|aA<|aG<|wq<|wm Z<|wy (Yl.f (dR Z Z) (by omega))<|wm Z<|aB Z Z<|wm Z<|aB Z Z ?_
 refine wy (Yl.f (dR Z Z) (by omega))<|wy (aP Z Z)<|aA<|aQ Z<|aJ<|wq<|wm Z<|wy (iY underlying167 underlying3 Z (by omega))<|wg Z<|aA<|aG<|wq<|wm Z ?_
 refine wy (aR underlying22 Z)<|wy (Yl.f (dI Z Z) (by omega))<|aA<|aQ Z<|aJ<|wq<|wm Z<|wg Z<|aA<|aG<|wq<|wm Z<|wy (Yl.f (dR Z Z) (by omega)) ?_
 refine aA<|aQ Z<|aJ<|wq<|wm Z<|wa (aQc (m:=N) (ps:= #[3]) Tryz.func123 (by kernel_rfl) (by kernel_rfl) (by kernel_rfl) (by kernel_rfl) underlying22 Z (by omega)) ?_
 rintro _ _ ⟨g_1,C_2,hC,rfl,rfl⟩
 refine wm Z<|wm Z<|wy (aDv (h:=N) underlying22 sz5 Z Z Z Z Z hC)<|wg Z<|aA<|wq<|wm Z<|wm Z<|wa (NN (dl:=N) 0 Z underlying22 sz5 Z Z (Z) (by omega) (h_u.c _)) ?_
 rintro _ _ ⟨rfl,rfl⟩
 refine wg Z<|aA<|aG<|aI ?_
 refine gF (fun(p:Int) (n1:Nat) (D:List Int)=>[(7,I ((N:Nat):Int)),(8,I ((N:Nat):Int)),(9, .slice (GG g_1) N N),(10,I p)]) (fun(p:Int) (n1:Nat) (D:List Int)=>[(ru 5 (GG g_1) n1 C_2 D)]) (fun(p:Int) (n1:Nat) (D:List Int)=>(n1=D.length)∧(QB u D N p)) (fun(p:Int) (n1:Nat) (D:List Int)=>(N-p).toNat) ?_ ?_
 ·exact⟨((min u.length N:Nat):Int),(0+min u.length N),([])++List.take (min u.length N) u,⟨(by rw[List.nil_append,List.length_take];omega),(QB.init hN3)⟩,(G4 Z Z Z Z),fun _ h=>h⟩
 intro p n1 D ⟨hn1,hI⟩
 have hI1:=hI.p0
 have hI2:=hI.pN
 have hI3:=hI.len
 have hI4:=hI.up
 refine aG<|wq<|wm Z<|wm Z<|wL Z Z<|aA<|bM Z (fun hc1=> ?_) (fun hc1=> ?_)
 ·refine aJ<|aI<|wq<|wm Z<|wm Z<|wy (sQ Z Z)<|wg Z<|aA<|bT mixed<|wD 0 Z (aM Z)<|wD 1 Z (aM Z)<|wD 2 Z (aM Z)<|wD 3 Z (gH underlying22 sz5 Z Z (by omega) (by omega))<|wD 4 Z (aM Z) ?_
  refine wD 5 Z (aM Z)<|wD 6 Z (aIp underlying22 sz5 Z Z (by omega) (by omega))<|fO 7 Z (by kernel_rfl) Z (NN (dl:=(N-(p).toNat)) 0 Z underlying22 sz5 Z Z (by rw[UQ (by omega),show p.toNat=n1 by omega]) (by omega) (RdC.capI (RdC.toI (rdr 0 Z) (by omega)) (by omega))) ?_
  rintro _ _ ⟨rfl,rfl⟩
  refine⟨.inl (by kernel_rfl),?_⟩
  refine wD 8 Z (dG Z Z (by omega))<|wD 9 Z (bV Z)<|bP (by kernel_rfl) ?_
  exact⟨p+((min ((min p ((N:Nat):Int)).toNat) (N-(p).toNat):Nat):Int),(n1+min ((min p ((N:Nat):Int)).toNat) (N-(p).toNat)),D++List.take (min ((min p ((N:Nat):Int)).toNat) (N-(p).toNat)) ((D).take (min p ((N:Nat):Int)).toNat),⟨(by rw[List.length_append,List.length_take,List.length_take];omega),(hI.step hu (by omega))⟩,(by omega),(G4 Z Z Z Z),fun _ h=>h⟩
 ·refine aZ<|wq<|wm Z<|wg Z<|aA ?_
  obtain rfl:=hn1
  obtain rfl:=hI.done (by omega) hN2.symm
  have hrl:(rep u cn).length=N:=by rw[oP];omega
  refine bX (R1:=[⟨5,1,GG g_1,(rep u cn).length,(rep u cn).length,ints .u8 (rep u cn),true⟩]) (fun _ h=>h.toRo (by simp) (Nat.le_refl _)) ?_
  rw[←hrl]
  exact⟨_,Z,_,_,Z,Z⟩
theorem RU {ws:List (List Int)} {i:Int} (h0:0≤i) (h1:i<ws.length):rdl ws i∈ws:=by
 unfold rdl
 rw[List.getD_eq_getElem?_getD,List.getElem?_eq_getElem (by omega)]
 exact List.getElem_mem _
theorem tC {ws:List (List Int)} {i:Int} (h0:0≤i) (h1:i<ws.length):ws.take (i+1).toNat=ws.take i.toNat++[rdl ws i]:=by
 rw[show(i+1).toNat=i.toNat+1 by omega,List.take_add_one,List.getElem?_eq_getElem (by omega)]
 unfold rdl
 rw[List.getD_eq_getElem?_getD,List.getElem?_eq_getElem (by omega)]
 rfl
theorem aLx (x y:List Int) (a b:Int):orL [cmpL x y,jZ a b]=kT (x,a) (y,b):=by
 unfold kT orL orL orL
 simp only
 split
 ·rfl
 ·split
  ·rfl
  ·omega
theorem aEy {ws:List (List Int)} {l:List RC} {i:Int} {A:Option Addr} {c:Nat} (h0:0≤i) (h1:i<ws.length) (hl:l.map RC.rt=eD (ws.take i.toNat)) (ht:0<iG (lw (rdl ws i))):(l++[(⟨A,c,kJ (lw (rdl ws i)),iG (lw (rdl ws i))⟩:RC)]).map RC.rt=eD (ws.take (i+1).toNat):=by
 have hp:0<(rdl ws i).length:=by
  rcases Nat.eq_zero_or_pos (rdl ws i).length with z|z
  ·rw [List.eq_nil_of_length_eq_zero z] at ht
   simp[aXw,iG] at ht
  ·exact z
 rw[List.map_append,hl,tC h0 h1,lG]
 congr 1
 unfold eD
 simp[hp,RC.rt,zV]
theorem aKq {ws:List (List Int)} {l:List RC} {i:Int} (h0:0≤i) (h1:i<ws.length) (hl:l.map RC.rt=eD (ws.take i.toNat)) (ht: ¬0<iG (lw (rdl ws i))):l.map RC.rt=eD (ws.take (i+1).toNat):=by
 have hp:(rdl ws i).length=0:=by
  rcases Nat.eq_zero_or_pos (rdl ws i).length with z|z
  ·exact z
  ·exact absurd (zR (c:=lw (rdl ws i)) (by rw[GX];exact z)) ht
 rw[hl,tC h0 h1,lG]
 unfold eD
 simp[hp]
theorem BQ (ws:List (List Int)):(eD ws).length≤ws.length:=by
 unfold eD
 rw[List.length_map]
 exact List.length_filter_le _ _
theorem aMm {u:List Int} (h:aN u):aN (lw u):=aN.append (h.drop _) (h.take _)
theorem aNb:Go.Sort.SWO (Go.Proofs.ltOf fun x y:RC=>kT x.rt y.rt):=by
 have e: ∀x y:RC,Go.Proofs.ltOf (fun x y:RC=>kT x.rt y.rt) x y=true↔kT x.rt y.rt<0:=fun x y=>by simp[Go.Proofs.ltOf]
 have e': ∀x y:RC,Go.Proofs.ltOf (fun x y:RC=>kT x.rt y.rt) x y=false↔kT y.rt x.rt≤0:=fun x y=>by
  rw[←Bool.not_eq_true,e,nZ x.rt y.rt];omega
 refine⟨fun x=> ?_,fun x y z h1 h2=> ?_,fun x y z h1 h2=> ?_⟩
 ·rw[e',(OW x.rt x.rt).2 rfl];omega
 ·rw [e] at h1 h2 ⊢
  have h3:=DX x.rt y.rt z.rt (by omega) (by omega)
  rcases Int.lt_or_eq_of_le h3 with g|g
  ·exact g
  ·have g2:=(OW _ _).1 g
   rw[g2,nZ y.rt z.rt] at h1
   omega
 ·rw [e'] at h1 h2 ⊢
  exact DX _ _ _ h2 h1
theorem aRo {ws:List (List Int)} {lr:List RC} {M:Nat} (hl:lr.map RC.rt=vQ ws) (hM: ∀w∈ws,w.length≤M) {r:RC} (hr:r∈lr):0<r.root.length∧1≤r.times∧r.times.toNat*r.root.length≤M:=by
 have h1:r.rt∈vQ ws:=by rw[←hl];exact List.mem_map_of_mem hr
 obtain⟨w,hw,hp,e⟩:=aFp h1
 have hp':0<(lw w).length:=by rw[GX];exact hp
 have e1:r.root=kJ (lw w):=congrArg Prod.fst e
 have e2:r.times=iG (lw w):=congrArg Prod.snd e
 have h2:=RQ hp'
 have h3:=xP hp'
 have h4:=zR hp'
 have h5:=congrArg List.length (BM hp')
 rw[oP,GX] at h5
 rw[e1,e2]
 exact⟨by omega,by omega,by rw[h5];exact hM w hw⟩
theorem ZN {lr:List RC} {i:Int} (h0:0≤i) (h1:i<lr.length):(lr.take (i+1).toNat).map (fun r=>rep r.root r.times)=(lr.take i.toNat).map (fun r=>rep r.root r.times)++[rep (rdG lr i).root (rdG lr i).times]:=by
 rw[show(i+1).toNat=i.toNat+1 by omega,List.take_add_one,List.getElem?_eq_getElem (by omega),List.map_append]
 unfold rdG
 rw[List.getD_eq_getElem?_getD,List.getElem?_eq_getElem (by omega)]
 rfl
theorem ZO {ws:List (List Int)} {lr:List RC} {i:Int} (hl:lr.map RC.rt=vQ ws) (hi:(lr.length:Int)≤i):(lr.take i.toNat).map (fun r=>rep r.root r.times)=canon ws:=by
 rw[List.take_of_length_le (by omega)]
 unfold canon
 rw[←hl,List.map_map]
 rfl
theorem XK {w:World} {A_x:Option Addr} {c_x:Nat} {x:List Int} {t_x:Int} {A_y:Option Addr} {c_y:Nat} {y:List Int} {t_y:Int} (h_x:Rd w A_x x.length c_x 1 (ints .u8 x)) (h_y:Rd w A_y y.length c_y 1 (ints .u8 y)) (bh_x:aN x) (bh_y:aN y):
  Ct Tryz.prog 118 #[.agg #[.slice A_x x.length c_x,I t_x], .agg #[.slice A_y y.length c_y,I t_y]] w.heap.size w [] (fun v R'=>v=I (kT (x,t_x) (y,t_y))):=by
 refine fn1 Tryz.func118 Z Z Z ?_
 refine wq<|wa (dV (sz:=2) Z Z) ?_
 rintro _ _ ⟨g_1,rfl,rfl⟩
 refine wa (dV (sz:=2) Z Z) ?_
 rintro _ _ ⟨g_3,rfl,rfl⟩
 refine wg Z<|aA<|aG<|bT mixed<|wD 0 Z (aC (off:=0) (m:=0) underlying117 Z fP Z Z Z)<|wD 1 Z (aK (rdr 1 Z) underlying22 Z Z Z)<|wD 2 Z (aC (off:=0) (m:=0) underlying117 Z fP Z Z Z)<|wD 3 Z (aK (rdr 0 Z) underlying22 Z Z Z)<|wD 5 Z (aC (off:=1) (m:=1) underlying117 Z sz3 Z Z Z)<|wD 6 Z (aK (rdr 1 Z) underlying3 Z Z Z)<|wD 7 Z (aC (off:=1) (m:=1) underlying117 Z sz3 Z Z Z)<|wD 8 Z (aK (rdr 0 Z) underlying3 Z Z Z)<|fO 4 Z (by kernel_rfl) Z (aD bCn Z (Ct.quiet (fun w hw=>PK ((h_x.c _) w hw) ((h_y.c _) w hw) bh_x bh_y))) ?_
 rintro _ _ ⟨rfl,rfl⟩
 refine⟨.inr fun _ h=>h,?_⟩
 refine fO 9 Z (by kernel_rfl) Z (aD UK Z (Ct.quiet (fun w hw=>nD))) ?_
 rintro _ _ ⟨rfl,rfl⟩
 refine⟨.inr fun _ h=>h,?_⟩
 refine fO 10 Z (by kernel_rfl) Z (cB .i64 [cmpL x y,jZ t_x t_y] underlying52 zs3 Z Z Z) ?_
 rintro _ _ ⟨g_6,rfl,rfl⟩
 refine⟨.inr fun _ h=>h.right (R':=[_]),?_⟩
 refine fO 11 Z (by kernel_rfl) Z (aD aWf Z (Ct.quiet (fun w hw=>aLy ((rdr 0 Z) w hw)))) ?_
 rintro _ _ ⟨rfl,rfl⟩
 refine⟨.inr fun _ h=>h,?_⟩
 refine wD 12 Z (bV Z)<|bP (by kernel_rfl)<|bA [] 99 (by decide) Z ?_
 refine⟨_,Z,?_⟩
 exact congrArg (Value.int .i64) (aLx x y t_x t_y)
theorem XB (cb:Array Value):aQf Tryz.prog 117 118 cb 2:=fun α _ enc hk h1 cf hO blk off cap d w hcmp hH hblk hsz=>
 AnyQ.slices_SortFunc Tryz.laysRing 2 (fun w=>by kernel_rfl) (fun w=>by kernel_rfl) enc hk h1 cf hO 118 cb blk off cap d w bCo hcmp hH hblk hsz
theorem RA:NQ Tryz.prog 117:=fun p cap fv w=>AnyF.slices_SortFunc_none Tryz.laysRing p cap fv w
set_option maxHeartbeats 1000000 in
theorem aKr {w:World} {A_ws:Option Addr} {n_ws c_ws:Nat} {vals_ws:List Value} {ws:List (List Int)} (h_ws:Rd w A_ws n_ws c_ws 1 vals_ws) (s_ws:SlW .u8 w vals_ws ws) (hN:(∀w∈ws,w.length≤8000)∧ws.length≤100000):
  Ct Tryz.prog 71 #[.slice A_ws n_ws c_ws] w.heap.size w [] (fun v R'=> ∃(A:Option Addr) (c:Nat) (l:List RC) (Rs:List Row),v= .slice A l.length c∧RgR Rs l∧l.map RC.rt=vQ ws∧R'=⟨117,2,A,l.length,c,rgs l,false⟩::Rs):=by
 obtain rfl:n_ws=ws.length:=by have:=h_ws.len;have:=s_ws.1;omega
 refine fn1 Tryz.func71 Z Z Z ?_
 have m_ws:=h_ws.max
 have hob:=s_ws.okB
 refine wq<|wg Z<|aA<|wq<|dK (R1:=(⟨117,2,none,0,0,rgs ([]),false⟩::[])) (Sub.refl _) (fun _ h=>h.nil 117 2)<|wg Z<|aA<|aG<|wq<|wm Z<|wy (aR underlying23 Z)<|wm Z ?_
 refine aA<|aI ?_
 refine nN (fun(i:Int) (A1:Option Addr) (n1:Nat) (c1:Nat) (l:List RC) (Rs:List Row)=>[(3, .slice A1 n1 c1),(8, .slice A_ws ws.length c_ws),(9,I ((ws.length:Nat):Int)),(10,I i)]) (fun(i:Int) (A1:Option Addr) (n1:Nat) (c1:Nat) (l:List RC) (Rs:List Row)=>(⟨117,2,A1,n1,c1,rgs l,false⟩::Rs)) (fun(i:Int) (A1:Option Addr) (n1:Nat) (c1:Nat) (l:List RC) (Rs:List Row)=>(0≤i)∧(i≤ws.length)∧(n1=l.length)∧(RgR Rs l)∧(l.map RC.rt=eD (ws.take i.toNat))) (fun(i:Int) (A1:Option Addr) (n1:Nat) (c1:Nat) (l:List RC) (Rs:List Row)=>(ws.length-i).toNat) ?_ ?_
 ·exact⟨0,none,0,0,[],[],⟨(by omega),(by omega),(Z),(RgR.nil _),(Z)⟩,(G4 Z Z Z Z),fun _ h=>h⟩
 intro i A1 n1 c1 l Rs ⟨hi0,hi1,hn1,hrg,hl⟩
 have hll:=congrArg List.length hl
 rw[List.length_map] at hll
 have hlf:=BQ (ws.take i.toNat)
 rw[List.length_take] at hlf
 have hwl:0≤i→i<ws.length→(rdl ws i).length≤8000:=fun h h'=>hN.1 _ (RU h h')
 refine wq<|wL Z Z<|aA<|aG<|bM Z (fun hc1=> ?_) (fun hc1=> ?_)
 ·have hwl2:=hwl hi0 (by omega)
  refine aJ<|aG<|aI<|wq<|wy (aH underlying23 fP Z Z (h_ws.c _) (by omega) (by omega)) ?_
  refine s_ws.elim (i:=i) (by omega) (by omega) (fun A_1 c_2 hv_3 hr_4 hb_5 mhr_4=> ?_)
  refine wy (EE underlying22 Z Z Z (h_ws.c _) hv_3)<|wg Z<|aA<|wq<|wm Z<|wa (aD bCq Z (Ct.fresh (fun w hw=>aXr ((hr_4.c _) w hw) (byteL_wf hb_5) (by omega)))) ?_
  rintro _ _ ⟨_,rfl,A_6,c_7,rfl,rfl⟩
  refine wa (aD bCr Z (Ct.fresh (fun w hw=>aKj ((rdr 0 Z) w hw) (by rw[GX];omega)))) ?_
  rintro _ _ ⟨_,rfl,A_9,c_10,rfl,rfl⟩
  refine wm Z<|wX Z Z<|wX Z Z<|wg Z<|wg Z<|aA<|wq<|wm Z<|wy (dR Z Z)<|aA<|bM Z (fun hc2=> ?_) (fun hc2=> ?_)
  ·refine aL<|wm Z<|wm Z<|wm Z<|wy (dS (v:= .agg #[.slice A_9 ((kJ (lw (rdl ws i))).length) c_10,I (iG (lw (rdl ws i)))]) Z (fun w=>by kernel_rfl))<|wa (aZa ⟨A_9,c_10,kJ (lw (rdl ws i)),iG (lw (rdl ws i))⟩ underlying114 aZl rfl) ?_
   rintro _ _ ⟨g_12,rfl,rfl⟩
   refine wa (aIm 3 Z underlying114 aZn Z Z Z Z (rdr 0 Z) (by omega)) ?_
   rintro _ _ ⟨A_13,c_14,rfl,rfl⟩
   refine bO (v:= .slice A_13 (n1+1) c_14) Z<|wg Z<|aA<|aL<|wA Z Z<|wm Z<|aA ?_
   exact⟨i+1,A_13,n1+1,c_14,l++([⟨A_9,c_10,kJ (lw (rdl ws i)),iG (lw (rdl ws i))⟩]),((ru 5 A_9 ((kJ (lw (rdl ws i))).length) c_10 (kJ (lw (rdl ws i))))::Rs),⟨(by omega),(by omega),(by rw[List.length_append,hn1];rfl),(hrg.snoc Z (aN.take (aMm (hob _ (RU hi0 (by omega))).1) _)),(aEy hi0 (by omega) hl (by assumption))⟩,(by omega),(G4 Z Z Z Z),fun _ h=>h.selR (F:=[_,_,_,_]) (F':=[_,_]) [3,1] (by decide) Z⟩
  ·refine aJ<|aL<|wA Z Z<|wm Z<|aA ?_
   exact⟨i+1,A1,n1,c1,l,Rs,⟨(by omega),(by omega),(hn1),(hrg),(aKq hi0 (by omega) hl (by assumption))⟩,(by omega),(G4 Z Z Z Z),fun _ h=>h.selR (F:=[_,_,_]) (F':=[_]) [2] (by decide) Z⟩
 ·obtain rfl:=hn1
  obtain rfl:i=ws.length:=by omega
  rw[Int.toNat_natCast,List.take_length] at hl
  refine aZ<|wq<|wm Z<|wa (aD bCp Z (XD (enc:=encR) (XB _) RA (fun _=>Z) aOa (l:=l) 0 Z (by omega) (fun x y=>kT x.rt y.rt) aNb (fun W hW x hx y hy=>XK ((hrg x hx).2 _ _ _ hW) ((hrg y hy).2 _ _ _ hW) (hrg x hx).1 (hrg y hy).1))) ?_
  rintro _ _ ⟨rfl,l1,hp1,hs1,rfl⟩
  rw[←hp1.length_eq]
  refine aA<|wq<|wm Z<|wg Z<|aA<|bX (R1:=(⟨117,2,A1,l1.length,c1,rgs l1,false⟩::Rs)) (fun _ h=>h) ?_
  refine⟨_,Z,?_⟩
  exact⟨_,_,l1,Rs,Z,hrg.perm hp1,LV ((hp1.map RC.rt).trans (by rw[hl])) (List.pairwise_map.2 (hs1.imp fun {a b} h=>by rw[nZ a.rt b.rt] at h;omega)),rfl⟩
end Go.Proofs.YtdbebmmhdefgdaaGreat

namespace Go.Proofs.YtdbebmmhdefgdaaGreat
open Go Go.Eng Go.Pure
open Tryz
set_option maxRecDepth 100000
set_option maxHeartbeats 1000000 in
theorem aHu {w:World} {A_ws:Option Addr} {n_ws c_ws:Nat} {vals_ws:List Value} {ws:List (List Int)} (h_ws:Rd w A_ws n_ws c_ws 1 vals_ws) (s_ws:SlW .u8 w vals_ws ws) (hN:(∀w∈ws,w.length≤8000)∧ws.length≤100000):
  Ct Tryz.prog 39 #[.slice A_ws n_ws c_ws] w.heap.size w [] (fun v R'=> ∃(A:Option Addr) (c:Nat) (vals:List Value) (Rs:List Row),v= .slice A vals.length c∧SlR .u8 Rs vals (canon ws)∧R'=⟨22,1,A,vals.length,c,vals,false⟩::Rs):=by
 obtain rfl:n_ws=ws.length:=by have:=h_ws.len;have:=s_ws.1;omega
 refine fn1 Tryz.func39 Z Z Z ?_
 have m_ws:=h_ws.max
 refine wq<|wg Z<|aA<|wq<|dK (R1:=(⟨22,1,none,0,0,[],false⟩::[])) (Sub.refl _) (fun _ h=>h.nil 22 1)<|wg Z<|aA<|aG<|wq<|wm Z<|wa (aD bDw Z (Ct.fresh (fun w hw=>aKr ((h_ws.c _) w hw) (s_ws.c hw) (by first|assumption|omega|decide)))) ?_
 rintro _ _ ⟨_,rfl,A_1,c_2,l_3,Rs_4,rfl,hrg_5,hlr_6,rfl⟩
 refine dK (R1:=(⟨117,2,A_1,l_3.length,c_2,rgs l_3,false⟩::⟨22,1,none,0,0,[],false⟩::Rs_4)) (Sub.refl _) (fun _ h=>Hp.toTail0 (X:=[_]) (Y:=[_]) h)<|wy (aR underlying114 Z)<|wm Z<|aA<|aI ?_
 refine aAs (fun(i:Int) (A1:Option Addr) (n1:Nat) (c1:Nat) (vals:List Value) (ls:List (List Int)) (Rs:List Row)=>[(3, .slice A1 n1 c1),(7, .slice A_1 l_3.length c_2),(8,I ((l_3.length:Nat):Int)),(9,I i)]) (fun(i:Int) (A1:Option Addr) (n1:Nat) (c1:Nat) (vals:List Value) (ls:List (List Int)) (Rs:List Row)=>(⟨117,2,A_1,l_3.length,c_2,rgs l_3,false⟩::⟨22,1,A1,n1,c1,vals,false⟩::Rs)) (fun(i:Int) (A1:Option Addr) (n1:Nat) (c1:Nat) (vals:List Value) (ls:List (List Int)) (Rs:List Row)=>(0≤i)∧(i≤l_3.length)∧(n1=vals.length)∧(SlR .u8 Rs vals ls)∧(RgR Rs l_3)∧(ls=(l_3.take i.toNat).map (fun r=>rep r.root r.times))) (fun(i:Int) (A1:Option Addr) (n1:Nat) (c1:Nat) (vals:List Value) (ls:List (List Int)) (Rs:List Row)=>(l_3.length-i).toNat) ?_ ?_
 ·exact⟨0,none,0,0,[],[],Rs_4,⟨(by omega),(by omega),(Z),(SlR.nilR _ _),(hrg_5),(Z)⟩,(G4 Z Z Z Z),fun _ h=>h⟩
 intro i A1 n1 c1 vals ls Rs ⟨hi0,hi1,hn1,hsl,hrg,hls⟩
 have hll:=congrArg List.length hls
 rw[List.length_map,List.length_take] at hll
 have hsn:=hsl.1
 have hro:0≤i→i<l_3.length→0<(rdG l_3 i).root.length∧1≤(rdG l_3 i).times∧(rdG l_3 i).times.toNat*(rdG l_3 i).root.length≤8000:=fun h h'=>aRo hlr_6 hN.1 (aBs h h')
 have hfew:l_3.length≤ws.length:=by have h1:=congrArg List.length hlr_6;rw[List.length_map,(rU ws).length_eq] at h1;have h2:=BQ ws;omega
 refine wq<|wL Z Z<|aA<|aG<|bM Z (fun hc1=> ?_) (fun hc1=> ?_)
 ·have hro2:=hro hi0 (by omega)
  refine aJ<|aG<|aI<|wq<|wy (wW underlying114 aJx Z Z (rdr 0 Z) Z (by omega) (by omega)) ?_
  have hr_8:=(hrg _ (aBs (l:=l_3) (i:=i) (by omega) (by omega))).2
  refine wy (aZr underlying117 Z aJx Z (rdr 0 Z) (by omega) (by omega))<|wa (fA (sz:=2) aZj Z) ?_
  rintro _ _ ⟨g_10,rfl,rfl⟩
  refine bY (dQ (vs:=[.slice ((rdG l_3 i).A) ((rdG l_3 i).root.length) ((rdG l_3 i).c),I ((rdG l_3 i).times)]) 0 Z aJx Z Z Z (by intro v hv;simp at hv;rcases hv with rfl|rfl<;>rfl) Z) ?_
  rintro _ _ rfl
  refine aA<|aL<|wm Z<|wy (aC (off:=0) (m:=0) underlying117 Z fP Z Z Z)<|wy (aK (rdr 0 Z) underlying22 Z Z Z)<|wy (aC (off:=1) (m:=1) underlying117 Z sz3 Z Z Z)<|wy (aK (rdr 0 Z) underlying3 Z Z Z)<|wa (aD bDv Z (Ct.fresh (fun w hw=>XN ((fun _ h=>hr_8 _ _ _ (h.right (R':=[_,_,_]))) w hw) hro2.1 hro2.2.1 hro2.2.2))) ?_
  rintro _ _ ⟨_,rfl,A_11,c_12,rfl,rfl⟩
  refine wa (nG [Value.slice A_11 ((rep ((rdG l_3 i).root) ((rdG l_3 i).times)).length) c_12] underlying23 wV Z Z Z Z) ?_
  rintro _ _ ⟨g_14,rfl,rfl⟩
  refine wa (rE 4 Z Z underlying23 aZm Z Z Z Z Z (rdr 0 Z) (by simp[Value.oneCell']) (by dsimp only;omega)) ?_
  rintro _ _ ⟨A_15,c_16,rfl,rfl⟩
  refine bO (v:= .slice A_15 (n1+1) c_16) Z<|wg Z<|aA<|aL<|wA Z Z<|wm Z<|aA ?_
  exact⟨i+1,A_15,n1+1,c_16,vals++([Value.slice A_11 ((rep ((rdG l_3 i).root) ((rdG l_3 i).times)).length) c_12]),(ls++[rep (rdG l_3 i).root (rdG l_3 i).times]),(⟨5,1,A_11,(rep ((rdG l_3 i).root) ((rdG l_3 i).times)).length,c_12,ints .u8 (rep ((rdG l_3 i).root) ((rdG l_3 i).times)),true⟩::Rs),⟨(by omega),(by omega),(by rw[List.length_append,hn1];rfl),(hsl.snoc Z),(hrg.right [_]),(by rw[ZN hi0 (by omega),←hls])⟩,(by omega),(G4 Z Z Z Z),fun _ h=>h.selR (F:=[_,_,_,_,_]) (F':=[_,_,_]) [3,4,1] (by decide) Z⟩
 ·refine aZ<|wq<|wm Z<|wg Z<|aA ?_
  obtain rfl:ls=canon ws:=by rw[hls];exact ZO hlr_6 (by omega)
  refine bA [1] 2 (by decide) Z ?_
  refine⟨_,Z,?_⟩
  subst hn1
  exact⟨_,_,vals,Rs,Z,hsl,Z⟩
theorem aGt {w:World} {A_u:Option Addr} {n_u c_u:Nat} {u:List Int} {A_t:Option Addr} {n_t c_t:Nat} {t:List Int} (h_u:Rd w A_u n_u c_u 1 (ints .u8 u)) (h_t:Rd w A_t n_t c_t 1 (ints .u8 t)) (bh_u:aN u) (bh_t:aN t):
  Ct Tryz.prog 274 #[.slice A_u n_u c_u, .slice A_t n_t c_t] w.heap.size w [] (fun v R'=>v= .bool (decide (u=t))):=by
 obtain rfl:=h_u.lenI
 obtain rfl:=h_t.lenI
 refine fn1 Tryz.func274 Z Z Z ?_
 have m_u:=h_u.max
 have m_t:=h_t.max
 refine wq<|wg Z<|aA<|wq<|wm Z<|wy (kL underlying22 underlying5 underlying9 Z (h_u.c _))<|wm Z<|wy (kL underlying22 underlying5 underlying9 Z (h_t.c _))<|wy (aAp Z Z bh_u bh_t)<|wg Z<|aA<|dL ?_
 refine⟨_,Z,?_⟩
 rfl
end Go.Proofs.YtdbebmmhdefgdaaGreat

namespace Go.Proofs.YtdbebmmhdefgdaaGreat
open Go Go.Eng Go.Pure
set_option maxRecDepth 100000
def kw (c:List Int):RT:=(kJ c,iG c)
structure CI (ws:List (List Int)) (ls:List (List Int)):Prop where
 perm:(ls.map kw).Perm (eD ws)
 sorted:ls.Pairwise fun a b=>kT (kw a) (kw b)≤0
theorem CI.nil:CI [] []:=⟨.refl _, .nil⟩
theorem CI.skip {ws ls:List (List Int)} {w:List Int} (h:CI ws ls) (hw:w.length=0):CI (ws++[w]) ls:=⟨by
 have e:eD [w]=[]:=by unfold eD;simp[hw]
 rw[lG,e,List.append_nil]
 exact h.perm,h.sorted⟩
theorem CI.put {ws ls:List (List Int)} {w:List Int} {j:Int} (h:CI ws ls) (hw:0<w.length) (h0:0≤j) (h1:j≤ls.length) (hup: ∀q:Int,j≤q→q<ls.length→kT (kw (lw w)) (kw (rdl ls q))<0) (hlo: ¬(0<j∧kT (kw (lw w)) (kw (rdl ls (j-1)))<0)):CI (ws++[w]) (ls.take j.toNat++[lw w]++ls.drop j.toNat):=by
 refine⟨?_,?_⟩
 ·rw [lG]
  have e:eD [w]=[zV w]:=by unfold eD;simp[hw]
  rw[e,List.map_append,List.map_append]
  refine List.Perm.trans ?_ (List.Perm.append_right [zV w] h.perm)
  rw[List.append_assoc]
  refine(List.Perm.append_left _ List.perm_append_comm).trans ?_
  rw[←List.append_assoc,←List.map_append,List.take_append_drop]
  exact .refl _
 ·have hs:=h.sorted
  have hs2:=hs
  rw[←List.take_append_drop j.toNat ls,List.pairwise_append] at hs2
  obtain⟨s1,s2,s3⟩:=hs2
  have hdn: ∀b∈ls.drop j.toNat,kT (kw (lw w)) (kw b)<0:=fun b hb=>by
   obtain⟨k,hk,e⟩:=List.mem_iff_getElem.1 hb
   rw[List.length_drop] at hk
   have:=hup (j+k) (by omega) (by omega)
   have e2:rdl ls (j+k)=b:=by
    rw[←e,List.getElem_drop]
    unfold rdl
    rw[show(j+(k:Int)).toNat=j.toNat+k by omega,List.getD_eq_getElem?_getD,List.getElem?_eq_getElem (by omega)]
    rfl
   rwa[e2] at this
  have hlow: ∀a∈ls.take j.toNat,kT (kw a) (kw (lw w))≤0:=fun a ha=>by
   obtain⟨k,hk,e⟩:=List.mem_iff_getElem.1 ha
   rw[List.length_take] at hk
   have hj:0<j:=by omega
   have hl:kT (kw (rdl ls (j-1))) (kw (lw w))≤0:=by
    rw[nZ (kw (lw w))]
    have:=fun c=>hlo ⟨hj,c⟩
    omega
   have e2:rdl ls (j-1)=ls[(j-1).toNat]'(by omega):=by
    unfold rdl
    rw[List.getD_eq_getElem?_getD,List.getElem?_eq_getElem (by omega)]
    rfl
   rw[List.getElem_take] at e
   rcases Nat.lt_or_ge k (j-1).toNat with g|g
   ·have:=List.pairwise_iff_getElem.1 hs k (j-1).toNat (by omega) (by omega) g
    rw[e,←e2] at this
    exact DX _ _ _ this hl
   ·obtain rfl:k=(j-1).toNat:=by omega
    rw[←e,←e2]
    exact hl
  rw[List.append_assoc,List.pairwise_append]
  refine⟨s1,?_,?_⟩
  ·rw [List.singleton_append,List.pairwise_cons]
   exact⟨fun b hb=>by have:=hdn b hb;omega,s2⟩
  ·intro a ha b hb
   rw[List.singleton_append,List.mem_cons] at hb
   rcases hb with rfl|hb
   ·exact hlow a ha
   ·exact s3 a ha b hb
theorem CI.done {ws ls:List (List Int)} (h:CI ws ls) (hp: ∀c∈ls,0<c.length):ls=canon ws:=by
 have:ls.map kw=vQ ws:=LV h.perm (List.pairwise_map.2 h.sorted)
 unfold canon
 rw[←this,List.map_map]
 conv=>lhs;rw[←List.map_id ls]
 refine List.map_congr_left fun c hc=> ?_
 exact(BM (hp c hc)).symm
abbrev longP (M:Nat) (ws:List (List Int)):Prop:=M<(ws.take 40).flatten.length∨30<ws.length
end Go.Proofs.YtdbebmmhdefgdaaGreat

namespace Go.Pure
open Go Go.Eng
def zK (t:Int) (u:List Int) (p:List Int × List Int):Prop:=
 (t=1∧ ∃b:List Int,b.Perm (iota u.length)∧b.Pairwise (bU u)∧p=(bQ (zat b),ofL u b))∨
 (t=2∧ ∃T:List (Int × Int),T.Perm (jD (bws u) (bws u).length)∧T.Pairwise (qV (bws u))∧p=([],T.map (lastB (bws u))))∨
 (t≠1∧t≠2∧p=([],u))
theorem zK.uniq {t:Int} {u:List Int} {p q:List Int × List Int} (h1:zK t u p) (h2:zK t u q):p=q:=by
 rcases h1 with⟨e1,b,hb,sb,rfl⟩|⟨e1,T,hT,sT,rfl⟩|⟨e1,e2,rfl⟩<;>rcases h2 with⟨f1,c,hc,sc,rfl⟩|⟨f1,U,hU,sU,rfl⟩|⟨f1,f2,rfl⟩
 ·rw[YB hb hc sb sc]
 ·omega
 ·omega
 ·omega
 ·rw[AJ YA (hT.trans hU.symm) sT sU]
 ·omega
 ·omega
 ·omega
 ·rfl
open Classical in
noncomputable def jJ (t:Int) (u:List Int):List Int × List Int:=if h: ∃p,zK t u p then Classical.choose h else([],[])
theorem xE {t:Int} {u:List Int} {p:List Int × List Int} (h:zK t u p):jJ t u=p:=by
 have he: ∃p,zK t u p:=⟨p,h⟩
 unfold jJ
 rw[dif_pos he]
 exact(Classical.choose_spec he).uniq h
theorem QO {t:Int} {u:List Int} (h1:t≠1) (h2:t≠2):jJ t u=([],u):=xE (.inr (.inr ⟨h1,h2,rfl⟩))
theorem QP {u b:List Int} (hp:b.Perm (iota u.length)) (hs:b.Pairwise (bU u)):jJ 1 u=(bQ (zat b),ofL u b):=xE (.inl ⟨rfl,b,hp,hs,rfl⟩)
theorem QQ {u:List Int} {T:List (Int × Int)} (hp:T.Perm (jD (bws u) (bws u).length)) (hs:T.Pairwise (qV (bws u))):jJ 2 u=([],T.map (lastB (bws u))):=xE (.inr (.inl ⟨rfl,T,hp,hs,rfl⟩))
noncomputable def dO (t o:Int) (b:List Int):List Int:=
 bQ b.length++((jJ t b).1++(bQ (dJ (jJ t b).2 o).length++(iE (bv (jP b))++dJ (jJ t b).2 o)))
theorem zK.facts {t:Int} {u:List Int} {p:List Int × List Int} (h:zK t u p) (hu:aN u) (hN:u.length≤100000):(p.1.length≤3∧aN p.1)∧aN p.2∧p.2.length=u.length:=by
 rcases h with⟨_,b,hb,sb,rfl⟩|⟨_,T,hT,sT,rfl⟩|⟨_,_,rfl⟩
 ·have e1:=nJ hb sb
  have e2:=FB (s:=u) (k:=0) (by omega)
  exact⟨⟨fB 2 _ (by omega),eY (by omega)⟩,yB hu hb,(GL hb sb).length_eq⟩
 ·exact⟨⟨by simp,fun _ h=>nomatch h⟩,nA hT (by rw[pK];exact hu),by rw[List.length_map,EB hT]⟩
 ·exact⟨⟨by simp,fun _ h=>nomatch h⟩,hu,rfl⟩
theorem QR {t:Int} {u:List Int} (hu:aN u) (hN:u.length≤100000):((jJ t u).1.length≤3∧aN (jJ t u).1)∧aN (jJ t u).2∧(jJ t u).2.length≤u.length:=by
 by_cases h: ∃p,zK t u p
 ·obtain ⟨p,hp⟩:=h
  rw[xE hp]
  have:=hp.facts hu hN
  exact⟨this.1,this.2.1,by omega⟩
 ·unfold jJ
  rw[dif_neg h]
  exact⟨⟨by simp,fun _ h=>nomatch h⟩,(fun _ h=>nomatch h),by simp⟩
theorem JE {t o:Int} {b:List Int} (hb:aN b) (hN:b.length≤100000):(dO t o b).length≤2*b.length+22∧aN (dO t o b):=by
 obtain⟨⟨h1,h0⟩,h2,h3⟩:=QR (t:=t) hb hN
 have h4:=nX (o:=o) h2
 have h5:=fB 2 (b.length:Int) (by omega)
 have h6:=fB 2 ((dJ (jJ t b).2 o).length:Int) (by omega)
 have h7:(iE (bv (jP b))).length=4:=rfl
 unfold dO
 refine⟨by simp only[List.length_append];omega,?_⟩
 intro x hx
 simp only[List.mem_append] at hx
 rcases hx with hx|hx|hx|hx|hx
 ·exact eY (by omega) x hx
 ·exact h0 x hx
 ·exact eY (by omega) x hx
 ·exact iV _ x hx
 ·exact gJ _ _ x hx
def chK (m n:Nat):Nat:=(m+n-1)/n
noncomputable def kP (t o:Int) (n:Nat) (u:List Int) (k:Nat):List Int:=((List.range k).map fun j=>dO t o ((u.drop (j*n)).take n)).flatten
theorem zF (t o:Int) (n:Nat) (u:List Int):kP t o n u 0=[]:=rfl
theorem zG (t o:Int) (n:Nat) (u:List Int) (k:Nat):kP t o n u (k+1)=kP t o n u k++dO t o ((u.drop (k*n)).take n):=by
 unfold kP
 rw[List.range_succ,List.map_append,List.flatten_append]
 simp
theorem nE {t o:Int} {n:Nat} {u:List Int} (hu:aN u) (hN:u.length≤100000): ∀k:Nat,(kP t o n u k).length≤(2*u.length+22)*k∧aN (kP t o n u k)
 |0=>by rw[zF];exact⟨by simp,fun _ h=>nomatch h⟩
 |k+1=>by
  have h1:=nE (t:=t) (o:=o) (n:=n) hu hN k
  have h2:=JE (t:=t) (o:=o) (b:=(u.drop (k*n)).take n) ((hu.drop _).take _) (by rw[List.length_take,List.length_drop];omega)
  have h3:((u.drop (k*n)).take n).length≤u.length:=by rw[List.length_take,List.length_drop];omega
  rw[zG,List.length_append,Nat.mul_add]
  refine⟨by omega,fun x hx=> ?_⟩
  rcases List.mem_append.1 hx with hx|hx
  ·exact h1.2 x hx
  ·exact h2.2 x hx
theorem aPi {m n:Nat} (hn:1≤n):chK m n≤m:=by
 unfold chK
 rcases Nat.eq_zero_or_pos m with h|h
 ·subst h
  rw[Nat.div_eq_of_lt (by omega)]
  exact Nat.le_refl _
 ·refine Nat.le_of_lt_succ ((Nat.div_lt_iff_lt_mul (by omega)).2 ?_)
  have:(m+1)*1≤(m+1)*n:=Nat.mul_le_mul_left _ hn
  have e:(m+1)*n=m*n+n:=by rw[Nat.add_mul,Nat.one_mul]
  have e2:m*1≤m*n:=Nat.mul_le_mul_left _ hn
  show m+n-1<(m+1)*n
  omega
noncomputable def mP (t so o size:Int) (u:List Int):List Int:=
 (([87,72,82,76]++[1,t,so,o])++bQ size++kP t o size.toNat u (chK u.length size.toNat))++(bQ 0++bQ u.length)
end Go.Pure


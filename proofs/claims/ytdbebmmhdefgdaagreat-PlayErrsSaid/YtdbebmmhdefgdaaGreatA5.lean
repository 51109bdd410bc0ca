/- Own work. -/
import Derived.Tactics
import Derived.Tactics2
import Derived.Defers
import Derived.Laws.Pointers
import Derived.Laws.LoneSync
import Derived.RegionTactic
import Derived.RegionCalls
import Derived.ChangeAlike
import Derived.Lib.MakeNoZero
import Derived.Ground.SlsfProg
import Derived.Shelf.SlSortCmp.NoneTotal
import Derived.Test.YtdbebmmhdefgdaaGreatProg
import Derived.Test.YtdbebmmhdefgdaaGreatA4
set_option linter.unusedVariables false
set_option linter.unusedSimpArgs false
namespace Go.Proofs.YtdbebmmhdefgdaaGreat
open Go Go.Eng Go.Pure
open Tryz
set_option maxRecDepth 100000
variable {w:World} {g_s n_t c_w c_t c_b c_r:Nat} {A_w A_t A_b A_r:Option Addr} {vals_w:List Value} {ws:List (List Int)} {bs rs:List Int} {t1 t2 h:Int}
theorem aNd {A_l:Option Addr} {n_l c_l:Nat} {l:List Int} (h_l:Rd w A_l n_l c_l 1 (ints .i64 l)):
  Ct Tryz.prog 119 #[.slice A_l n_l c_l] w.heap.size w [] (fun v R'=>v=I (orL l)):=by
 obtain rfl:=h_l.lenI
 refine fn1 Tryz.func119 Z Z Z ?_
 have m_l:=h_l.max
 refine wq<|wn Z<|wq<|wn Z<|aG<|wq<|wm Z<|wy (aQ underlying52 Z)<|wm Z<|aA ?_
 refine aI ?_
 refine rT (fun(k:Int)=>[(3,I 0),(6, .slice A_l l.length c_l),(7,I ((l.length:Nat):Int)),(8,I k)]) (fun k=>[]) (fun k=>(0≤k)∧(k≤l.length)∧(orL l=orL (l.drop k.toNat))) (fun k=>(l.length-k).toNat) ?_ ?_
 ·exact⟨0,⟨by omega,by omega,(Z)⟩,(G4 Z Z Z Z),fun _ h=>h⟩
 intro k ⟨hk0,hk1,ho⟩
 refine wq<|wL Z Z<|aA<|aG<|bM Z (fun hc1=> ?_) (fun hc1=> ?_)
 ·refine aK<|aG<|aI<|wq<|wy (aH underlying52 sz3 Z Z (h_l.c _))<|wy (aX underlying3 Z Z (h_l.c _))<|wn Z<|wq<|wm Z<|wm Z<|wy (jA Z Z)<|aA ?_
  refine bM Z (fun hc2=> ?_) (fun hc2=> ?_)
  ·refine wq<|wm Z<|wn Z<|dJ ?_
   refine⟨_,Z,?_⟩
   exact congrArg (Value.int .i64) (by rw[ho,aTs hk0 (by omega) (by omega)])
  ·refine aK<|aM<|wA Z Z<|wm Z<|aA ?_
   exact⟨k+1,⟨by omega,by omega,(by rw[ho,aZf hk0 (by omega) (by omega)])⟩,by omega,(G4 Z Z Z Z),fun _ h=>h⟩
 ·refine aZ<|wq<|wm Z<|wn Z<|dJ ?_
  refine⟨_,Z,?_⟩
  exact congrArg (Value.int .i64) (by rw[ho,List.drop_of_length_le (by omega)];rfl)
theorem uO (h_s:Rd w (GG g_s) 1 1 4 [.slice A_w ws.length c_w, .slice A_t n_t c_t, .slice A_b bs.length c_b, .slice A_r rs.length c_r]) (h_w:Rd w A_w ws.length c_w 1 vals_w) (s_w:SlW .u8 w vals_w ws) (h_b:Rd w A_b bs.length c_b 1 (ints .i64 bs)) (h_r:Rd w A_r rs.length c_r 1 (ints .i64 rs)) (ha_t:0≤t1∧t1<ws.length∧t1<bs.length) (hb_t:0≤t2∧t2≤1000000) (hc_t:0<(rdl ws t1).length) (hd_t:0≤rd bs t1∧rd bs t1+(rdl ws t1).length≤rs.length) (hh:0≤h∧h≤1000000):
  Ct Tryz.prog 279 #[.pointer (GG g_s), .agg #[I t1,I t2],I h] w.heap.size w [] (fun v R'=>v=I (ahd ws bs rs (t1,t2) h)):=by
 refine fn1 Tryz.func279 Z Z Z ?_
 have m_r:=h_r.max
 have m_b:=h_b.max
 have m_w:=h_w.max
 have e1:=Int.emod_nonneg (t2+h) (show((rdl ws t1).length:Int)≠0 by omega)
 have e2:=Int.emod_lt_of_pos (t2+h) (show(0:Int)<((rdl ws t1).length:Int) by omega)
 refine wq<|wa (bX (sz:=2) Z Z) ?_
 rintro _ _ ⟨g_1,rfl,rfl⟩
 refine wn Z<|aG<|bT mixed<|wD 0 Z (aN Z)<|wD 1 Z (aD Z)<|wD 2 Z (aB (off:=3) (m:=3) underlying281 Z gX Z Z Z)<|wD 3 Z (aJ (h_s.c _) underlying52 Z Z Z)<|wD 4 Z (aN Z)<|wD 5 Z (aD Z)<|wD 6 Z (aB (off:=2) (m:=2) underlying281 Z gX Z Z Z)<|wD 7 Z (aJ (h_s.c _) underlying52 Z Z Z)<|wD 8 Z (dB (q:=0) (rdr 0 Z) underlying230 sz3 Z Z (Nat.le_of_ble_eq_true Z) (by decide) (by decide) Z)<|wD 9 Z (aJ (rdr 0 Z) underlying3 Z Z Z)<|wD 10 Z (aH underlying52 sz3 Z Z (h_b.c _)) ?_
 refine wD 11 Z (aX underlying3 Z Z (h_b.c _))<|wD 12 Z (dB (q:=1) (rdr 0 Z) underlying230 sz3 Z Z (Nat.le_of_ble_eq_true Z) (by decide) (by decide) Z)<|wD 13 Z (aJ (rdr 0 Z) underlying3 Z Z Z)<|wD 14 Z (aN Z)<|wD 15 Z (dF Z Z)<|wD 16 Z (aN Z)<|wD 17 Z (aD Z)<|wD 18 Z (aB (off:=0) (m:=0) underlying281 Z wI Z Z Z)<|wD 19 Z (aJ (h_s.c _) underlying23 Z Z Z)<|wD 20 Z (dB (q:=0) (rdr 0 Z) underlying230 sz3 Z Z (Nat.le_of_ble_eq_true Z) (by decide) (by decide) Z)<|wD 21 Z (aJ (rdr 0 Z) underlying3 Z Z Z)<|wD 22 Z (aH underlying23 dO Z Z (h_w.c _)) ?_
 obtain⟨A_3,c_4,hv_5,hr_6,hb_7,mhr_6⟩:=s_w.at (i:=t1) (by omega) (by omega)
 refine wD 23 Z (DC underlying22 Z Z Z (h_w.c _) hv_5)<|wD 24 Z (aQ underlying22 Z)<|wD 25 Z (BU Z Z)<|wD 26 Z (dF Z Z)<|wD 27 Z (aH underlying52 sz3 Z Z (h_r.c _))<|wD 28 Z (aX underlying3 Z Z (h_r.c _))<|wD 29 Z (bQ Z)<|wN<|aT [] 99 (by decide) Z ?_
 refine⟨_,Z,?_⟩
 rfl
theorem PK (h_s:Rd w (GG g_s) 1 1 4 [.slice A_w ws.length c_w, .slice A_t n_t c_t, .slice A_b bs.length c_b, .slice A_r rs.length c_r]) (h_w:Rd w A_w ws.length c_w 1 vals_w) (s_w:SlW .u8 w vals_w ws) (h_b:Rd w A_b bs.length c_b 1 (ints .i64 bs)) (h_r:Rd w A_r rs.length c_r 1 (ints .i64 rs)) (ha_t:0≤t1∧t1<ws.length∧t1<bs.length) (hb_t:0≤t2∧t2≤1000000) (hc_t:0<(rdl ws t1).length) (hd_t:0≤rd bs t1∧rd bs t1+(rdl ws t1).length≤rs.length):
  Ct Tryz.prog 278 #[.pointer (GG g_s), .agg #[I t1,I t2]] w.heap.size w [] (fun v R'=>v=I (ahd ws bs rs (t1,t2) 0)):=by
 refine fn1 Tryz.func278 Z Z Z ?_
 have m_r:=h_r.max
 have m_b:=h_b.max
 have m_w:=h_w.max
 refine wq<|wa (bX (sz:=2) Z Z) ?_
 rintro _ _ ⟨g_1,rfl,rfl⟩
 refine wn Z<|wq<|wm Z<|wy (dG (vs:=[I t1,I t2]) (rdr 0 Z) underlying230 Z mG Z Z (Nat.le_of_ble_eq_true Z) Z)<|wa (aF VG Z (Ct.quiet (fun w hw=>uO ((h_s.c _) w hw) ((h_w.c _) w hw) (s_w.c hw) ((h_b.c _) w hw) ((h_r.c _) w hw) (by first|assumption|omega|decide) (by first|assumption|omega|decide) (by first|assumption|omega|decide) (by first|assumption|omega|decide) (by first|assumption|omega|decide)))) ?_
 rintro _ _ ⟨rfl,rfl⟩
 refine wn Z<|aT [] 99 (by decide) Z ?_
 refine⟨_,Z,?_⟩
 rfl
theorem XQ {u1 u2:Int} {g_p:Nat} {g_h:Nat} (h_s:Rd w (GG g_s) 1 1 4 [.slice A_w ws.length c_w, .slice A_t n_t c_t, .slice A_b bs.length c_b, .slice A_r rs.length c_r]) (h_w:Rd w A_w ws.length c_w 1 vals_w) (s_w:SlW .u8 w vals_w ws) (h_b:Rd w A_b bs.length c_b 1 (ints .i64 bs)) (h_r:Rd w A_r rs.length c_r 1 (ints .i64 rs)) (h_p:Rd w (GG g_p) 1 1 1 [.pointer (GG g_s)]) (h_h:Rd w (GG g_h) 1 1 1 [I h]) (ha_t:0≤t1∧t1<ws.length∧t1<bs.length) (hb_t:0≤t2∧t2≤1000000) (hc_t:0<(rdl ws t1).length) (hd_t:0≤rd bs t1∧rd bs t1+(rdl ws t1).length≤rs.length) (ha_u:0≤u1∧u1<ws.length∧u1<bs.length) (hb_u:0≤u2∧u2≤1000000) (hc_u:0<(rdl ws u1).length) (hd_u:0≤rd bs u1∧rd bs u1+(rdl ws u1).length≤rs.length) (hh:0≤h∧h≤1000000):
  Ct Tryz.prog 277 #[.agg #[I t1,I t2], .agg #[I u1,I u2], .pointer (GG g_p), .pointer (GG g_h)] w.heap.size w [] (fun v R'=>v=I (XV ws bs rs h (t1,t2) (u1,u2))):=by
 refine fn1 Tryz.func277 Z Z Z ?_
 have m_r:=h_r.max
 have m_b:=h_b.max
 have m_w:=h_w.max
 refine wq<|wa (bX (sz:=2) Z Z) ?_
 rintro _ _ ⟨g_1,rfl,rfl⟩
 refine wa (bX (sz:=2) Z Z) ?_
 rintro _ _ ⟨g_3,rfl,rfl⟩
 refine wn Z<|aG<|bT mixed<|wD 0 Z (aJ (h_p.c _) underlying279 Z Z Z)<|wD 1 Z (dG (vs:=[I t1,I t2]) (rdr 1 Z) underlying230 Z mG Z Z (Nat.le_of_ble_eq_true Z) Z)<|wD 3 Z (aJ (h_p.c _) underlying279 Z Z Z)<|wD 4 Z (dG (vs:=[I u1,I u2]) (rdr 0 Z) underlying230 Z mG Z Z (Nat.le_of_ble_eq_true Z) Z)<|wD 7 Z (aJ (h_p.c _) underlying279 Z Z Z)<|wD 8 Z (dG (vs:=[I t1,I t2]) (rdr 1 Z) underlying230 Z mG Z Z (Nat.le_of_ble_eq_true Z) Z)<|wD 9 Z (aJ (h_h.c _) underlying3 Z Z Z)<|wD 11 Z (aJ (h_p.c _) underlying279 Z Z Z)<|wD 12 Z (dG (vs:=[I u1,I u2]) (rdr 0 Z) underlying230 Z mG Z Z (Nat.le_of_ble_eq_true Z) Z)<|wD 13 Z (aJ (h_h.c _) underlying3 Z Z Z)<|wD 16 Z (dB (q:=0) (rdr 1 Z) underlying230 sz3 Z Z (Nat.le_of_ble_eq_true Z) (by decide) (by decide) Z) ?_
 refine wD 17 Z (aJ (rdr 1 Z) underlying3 Z Z Z)<|wD 18 Z (dB (q:=0) (rdr 0 Z) underlying230 sz3 Z Z (Nat.le_of_ble_eq_true Z) (by decide) (by decide) Z)<|wD 19 Z (aJ (rdr 0 Z) underlying3 Z Z Z)<|wD 21 Z (dB (q:=1) (rdr 1 Z) underlying230 sz3 Z Z (Nat.le_of_ble_eq_true Z) (by decide) (by decide) Z)<|wD 22 Z (aJ (rdr 1 Z) underlying3 Z Z Z)<|wD 23 Z (dB (q:=1) (rdr 0 Z) underlying230 sz3 Z Z (Nat.le_of_ble_eq_true Z) (by decide) (by decide) Z)<|wD 24 Z (aJ (rdr 0 Z) underlying3 Z Z Z)<|wC 2 Z (aF aEh Z (Ct.quiet (fun w hw=>PK ((h_s.c _) w hw) ((h_w.c _) w hw) (s_w.c hw) ((h_b.c _) w hw) ((h_r.c _) w hw) (by first|assumption|omega|decide) (by first|assumption|omega|decide) (by first|assumption|omega|decide) (by first|assumption|omega|decide)))) ?_
 rintro _ _ ⟨rfl,rfl⟩
 refine⟨.inr fun _ h=>h,?_⟩
 refine wC 5 Z (aF aEh Z (Ct.quiet (fun w hw=>PK ((h_s.c _) w hw) ((h_w.c _) w hw) (s_w.c hw) ((h_b.c _) w hw) ((h_r.c _) w hw) (by first|assumption|omega|decide) (by first|assumption|omega|decide) (by first|assumption|omega|decide) (by first|assumption|omega|decide)))) ?_
 rintro _ _ ⟨rfl,rfl⟩
 refine⟨.inr fun _ h=>h,?_⟩
 refine wC 6 Z (aF VI Z (Ct.quiet (fun w hw=>nJ))) ?_
 rintro _ _ ⟨rfl,rfl⟩
 refine⟨.inr fun _ h=>h,?_⟩
 refine wC 10 Z (aF VG Z (Ct.quiet (fun w hw=>uO ((h_s.c _) w hw) ((h_w.c _) w hw) (s_w.c hw) ((h_b.c _) w hw) ((h_r.c _) w hw) (by first|assumption|omega|decide) (by first|assumption|omega|decide) (by first|assumption|omega|decide) (by first|assumption|omega|decide) (by first|assumption|omega|decide)))) ?_
 rintro _ _ ⟨rfl,rfl⟩
 refine⟨.inr fun _ h=>h,?_⟩
 refine wC 14 Z (aF VG Z (Ct.quiet (fun w hw=>uO ((h_s.c _) w hw) ((h_w.c _) w hw) (s_w.c hw) ((h_b.c _) w hw) ((h_r.c _) w hw) (by first|assumption|omega|decide) (by first|assumption|omega|decide) (by first|assumption|omega|decide) (by first|assumption|omega|decide) (by first|assumption|omega|decide)))) ?_
 rintro _ _ ⟨rfl,rfl⟩
 refine⟨.inr fun _ h=>h,?_⟩
 refine wC 15 Z (aF VI Z (Ct.quiet (fun w hw=>nJ))) ?_
 rintro _ _ ⟨rfl,rfl⟩
 refine⟨.inr fun _ h=>h,?_⟩
 refine wC 20 Z (aF VI Z (Ct.quiet (fun w hw=>nJ))) ?_
 rintro _ _ ⟨rfl,rfl⟩
 refine⟨.inr fun _ h=>h,?_⟩
 refine wC 25 Z (aF VI Z (Ct.quiet (fun w hw=>nJ))) ?_
 rintro _ _ ⟨rfl,rfl⟩
 refine⟨.inr fun _ h=>h,?_⟩
 refine wC 26 Z (bS .i64 [kE (ahd ws bs rs (t1,t2) 0) (ahd ws bs rs (u1,u2) 0),kE (ahd ws bs rs (t1,t2) h) (ahd ws bs rs (u1,u2) h),kE t1 u1,kE t2 u2] underlying52 zs3 Z Z Z) ?_
 rintro _ _ ⟨g_6,rfl,rfl⟩
 refine⟨.inr fun _ h=>h.right (R':=[_]),?_⟩
 refine wC 27 Z (aF aXw Z (Ct.quiet (fun w hw=>aNd ((rdr 0 Z) w hw)))) ?_
 rintro _ _ ⟨rfl,rfl⟩
 refine⟨.inr fun _ h=>h,?_⟩
 refine wD 28 Z (bQ Z)<|wN<|aT [] 99 (by decide) Z ?_
 refine⟨_,Z,?_⟩
 rfl
theorem XZ (cb:Array Value):aFa Tryz.prog 276 277 cb:=fun α _ enc hk h1 cf hO blk off cap d w hcmp hH hblk hsz=>
 Tryz.slices_SortFunc 2 (fun w=>by kernel_rfl) (fun w=>by kernel_rfl) enc hk h1 cf hO 277 cb blk off cap d w bDc hcmp hH hblk hsz
theorem aAb {B:Nat} {w0:World} {R:List Row} {A_o:Option Addr} {n_o n_b n_r c_o:Nat} {ts:List (Int × Int)} (hno:n_o=ts.length) (hnb:n_b=bs.length) (hnr:n_r=rs.length) (hrw:RdC B w0 R A_w ws.length c_w 1 vals_w) (hsw: ∀w,Hp B w0 w R→SlW .u8 w vals_w ws) (hv: ∀t∈ts,TOk ws bs rs.length t) (hinj: ∀t∈ts,∀u∈ts,gK bs t=gK bs u→t=u) (hnd:ts.Nodup) (hne:ts≠[]) (hN:rs.length≤1000000∧ts.length≤1000000) (hh:0≤h∧h≤1000000):
  Ct Tryz.prog 238 #[.pointer (GG g_s), .slice A_o n_o c_o,I h] B w0 ((rc 281 4 g_s [.slice A_w ws.length c_w, .slice A_t n_t c_t, .slice A_b n_b c_b, .slice A_r n_r c_r])::⟨230,2,A_o,n_o,c_o,prs ts,false⟩::(ri 3 A_b n_b c_b bs)::(ri 3 A_r n_r c_r rs)::R) (fun v R'=> ∃(l1:List (Int × Int)) (rk:List Int) (A':Option Addr) (c':Nat),v=I (gM ws bs rs h l1 (l1.length-1))∧l1.Perm ts∧l1.Pairwise (fun x y=> ¬XV ws bs rs h y x<0)∧rk.length=rs.length∧(∀j:Nat,j<l1.length→rd rk (gK bs (rdp l1 j))=gM ws bs rs h l1 j)∧R'=(rc 281 4 g_s [.slice A_w ws.length c_w, .slice A_t n_t c_t, .slice A_b n_b c_b, .slice A' n_r c'])::⟨230,2,A_o,n_o,c_o,prs l1,false⟩::(ri 3 A_b n_b c_b bs)::(ri 3 A' n_r c' rk)::R):=by
 subst hno;subst hnb;subst hnr
 refine fn1 Tryz.func238 Z Z Z ?_
 have hinj1: ∀t∈ts,0≤gK bs t:=fun t ht=>by have:=hv t ht;unfold TOk at this;unfold gK;omega
 refine wq<|wa (bX (sz:=1) Z Z) ?_
 rintro _ _ ⟨g_1,rfl,rfl⟩
 refine wa (bX (sz:=1) Z Z) ?_
 rintro _ _ ⟨g_3,rfl,rfl⟩
 refine wn Z<|wq<|wm Z<|wy (kQ Z Z)<|wa (aF bDd Z (YB (XZ _) 3 Z hne (by omega) (XV ws bs rs h) (aKs ws bs rs h) (fun W hW x hx y hy=>XQ ((rdr 2 Z) W hW) ((RdC.right hrw [_,_,_,_,_]) W hW) (hsw W (Hp.right (R':=[_,_,_,_,_]) hW)) ((rdr 3 Z) W hW) ((rdr 4 Z) W hW) ((rdr 1 Z) W hW) ((rdr 0 Z) W hW) (hv x hx).1 (by have:=(hv x hx).2.1;omega) (hv x hx).2.2.1 (hv x hx).2.2.2 (hv y hy).1 (by have:=(hv y hy).2.1;omega) (hv y hy).2.2.1 (hv y hy).2.2.2 hh))) ?_
 rintro _ _ ⟨rfl,l1,hp1,hs1,rfl⟩
 have hl1:=hp1.length_eq
 have hv1: ∀t∈l1,TOk ws bs rs.length t:=fun t ht=>hv t (hp1.mem_iff.1 ht)
 have hnd1:=hp1.nodup_iff.2 hnd
 refine aA<|wq<|wy (aJ (rdr 1 Z) underlying279 Z Z Z)<|wy (aD Z)<|wy (aB (off:=3) (m:=3) underlying281 Z gX Z Z Z)<|wy (aJ (rdr 2 Z) underlying52 Z Z Z)<|wy (aQ underlying52 Z)<|wa (dE underlying52 zb3 Z Z) ?_
 rintro _ _ ⟨g_5,rfl,rfl⟩
 refine bN (v:= .slice (GG g_5) rs.length rs.length) Z<|wn Z<|wq<|wn Z<|aG<|wq<|wm Z<|wy (aQ underlying228 Z)<|wm Z<|aA<|aI ?_
 refine fU (fun(i:Int) (n:Int) (rk:List Int)=>[(1, .slice A_o ts.length c_o),(3, .pointer (GG g_1)),(5, .pointer (GG g_3)),(7, .slice (GG g_5) rs.length rs.length),(8,I n),(21, .slice A_o ts.length c_o),(22,I ((ts.length:Nat):Int)),(23,I i)]) (fun i n rk=>((ri 3 (GG g_5) rs.length rs.length rk)::(rc 3 1 g_3 [I h])::(rc 279 1 g_1 [.pointer (GG g_s)])::(rc 281 4 g_s [.slice A_w ws.length c_w, .slice A_t n_t c_t, .slice A_b bs.length c_b, .slice A_r rs.length c_r])::⟨230,2,A_o,ts.length,c_o,prs l1,false⟩::(ri 3 A_b bs.length c_b bs)::(ri 3 A_r rs.length c_r rs)::R)) (fun i n rk=>(0≤i)∧(i≤l1.length)∧(0≤n∧n≤i)∧(n=gM ws bs rs h l1 (i-1).toNat)∧(rk.length=rs.length)∧(∀j:Nat,j<i→rd rk (gK bs (rdp l1 j))=gM ws bs rs h l1 j)) (fun i n rk=>(l1.length-i).toNat) ?_ ?_
 ·exact⟨0,0,List.replicate rs.length (0:Int),⟨by omega,by omega,by omega,(Z),(by rw[List.length_replicate]),(fun j hj=>by omega)⟩,(G8 rfl rfl rfl rfl rfl rfl rfl rfl),fun _ h=>h⟩
 intro i n rk ⟨hi0,hi1,hn0,hn,hkl,hrk⟩
 refine wq<|wL Z Z<|aA<|aG<|bM Z (fun hc1=> ?_) (fun hc1=> ?_)
 ·have hq:=hv1 _ (lM hi0 (show i<l1.length by omega))
  obtain⟨⟨q1,q2,q3⟩,⟨q4,q5,q6⟩,q7,q8,q9⟩:=hq
  have hps: ∀t∈l1,0≤gK bs t:=fun t ht=>hinj1 t (hp1.mem_iff.1 ht)
  have hij: ∀t∈l1,∀u∈l1,gK bs t=gK bs u→t=u:=fun t ht u hu=>hinj t (hp1.mem_iff.1 ht) u (hp1.mem_iff.1 hu)
  refine aK<|aG<|aI<|wq<|wm Z<|wy (jB underlying228 mG Z Z (rdr 4 Z) Z)<|wy (EQ underlying230 Z mG Z (rdr 4 Z))<|wa (iI (sz:=2) aJu Z) ?_
  rintro _ _ ⟨g_7,rfl,rfl⟩
  refine wg Z<|bY (fQ (vs:=[I ((rdp l1 i).1),I ((rdp l1 i).2)]) 0 Z mG Z Z Z (by intro v hv;simp at hv;rcases hv with rfl|rfl<;>rfl) Z) ?_
  rintro _ _ rfl
  refine aA<|aG<|wq<|wm Z<|wy (dV Z Z)<|aA<|bM Z (fun hc2=> ?_) (fun hc2=> ?_)
  ·have hq':=hv1 _ (lM (show 0≤i-1 by omega) (show i-1<l1.length by omega))
   obtain⟨⟨p1,p2,p3⟩,⟨p4,p5,p6⟩,p7,p8,p9⟩:=hq'
   refine wq<|wm Z<|wm Z<|wS Z Z<|wy (jB underlying228 mG Z Z (rdr 5 Z) Z)<|wy (EQ underlying230 Z mG Z (rdr 5 Z))<|wa (iI (sz:=2) aJu Z) ?_
   rintro _ _ ⟨g_9,rfl,rfl⟩
   refine bY (fQ (vs:=[I ((rdp l1 (i-1)).1),I ((rdp l1 (i-1)).2)]) 0 Z mG Z Z Z (by intro v hv;simp at hv;rcases hv with rfl|rfl<;>rfl) Z) ?_
   rintro _ _ rfl
   refine aA ?_
   refine xN [(1, .slice A_o ts.length c_o),(3, .pointer (GG g_1)),(5, .pointer (GG g_3)),(7, .slice (GG g_5) rs.length rs.length),(8,I n),(10, .pointer (GG g_7)),(21, .slice A_o ts.length c_o),(22,I ((ts.length:Nat):Int)),(23,I i),(52, .bool (decide (((ahd ws bs rs (((rdp l1 (i-1)).1),((rdp l1 (i-1)).2)) 0)≠(ahd ws bs rs (((rdp l1 i).1),((rdp l1 i).2)) 0))∨((ahd ws bs rs (((rdp l1 (i-1)).1),((rdp l1 (i-1)).2)) h)≠(ahd ws bs rs (((rdp l1 i).1),((rdp l1 i).2)) h)))))] ((rc 230 2 g_9 [I ((rdp l1 (i-1)).1),I ((rdp l1 (i-1)).2)])::(rc 230 2 g_7 [I ((rdp l1 i).1),I ((rdp l1 i).2)])::(ri 3 (GG g_5) rs.length rs.length rk)::(rc 3 1 g_3 [I h])::(rc 279 1 g_1 [.pointer (GG g_s)])::(rc 281 4 g_s [.slice A_w ws.length c_w, .slice A_t n_t c_t, .slice A_b bs.length c_b, .slice A_r rs.length c_r])::⟨230,2,A_o,ts.length,c_o,prs l1,false⟩::(ri 3 A_b bs.length c_b bs)::(ri 3 A_r rs.length c_r rs)::R) ?_ ?_
   ·refine bT mixed<|wD 0 Z (aJ (rdr 4 Z) underlying279 Z Z Z)<|wD 1 Z (dG (vs:=[I ((rdp l1 (i-1)).1),I ((rdp l1 (i-1)).2)]) (rdr 0 Z) underlying230 Z mG Z Z (Nat.le_of_ble_eq_true Z) Z)<|wD 3 Z (aJ (rdr 4 Z) underlying279 Z Z Z)<|wD 4 Z (dG (vs:=[I ((rdp l1 i).1),I ((rdp l1 i).2)]) (rdr 1 Z) underlying230 Z mG Z Z (Nat.le_of_ble_eq_true Z) Z)<|wC 2 Z (aF aEh Z (Ct.quiet (fun w hw=>PK ((rdr 5 Z) w hw) ((RdC.right hrw [_,_,_,_,_,_,_,_,_]) w hw) (hsw w (Hp.right (R':=[_,_,_,_,_,_,_,_,_]) hw)) ((rdr 7 Z) w hw) ((rdr 8 Z) w hw) (by first|assumption|omega|decide) (by first|assumption|omega|decide) (by first|assumption|omega|decide) (by first|assumption|omega|decide)))) ?_
    rintro _ _ ⟨rfl,rfl⟩
    refine⟨.inr fun _ h=>h,?_⟩
    refine wC 5 Z (aF aEh Z (Ct.quiet (fun w hw=>PK ((rdr 5 Z) w hw) ((RdC.right hrw [_,_,_,_,_,_,_,_,_]) w hw) (hsw w (Hp.right (R':=[_,_,_,_,_,_,_,_,_]) hw)) ((rdr 7 Z) w hw) ((rdr 8 Z) w hw) (by first|assumption|omega|decide) (by first|assumption|omega|decide) (by first|assumption|omega|decide) (by first|assumption|omega|decide)))) ?_
    rintro _ _ ⟨rfl,rfl⟩
    refine⟨.inr fun _ h=>h,?_⟩
    refine wD 6 Z (jA Z Z)<|wD 7 Z (aN Z)<|pX 42 Z (fun hc3=> ?_) (fun hc3=> ?_)
    ·refine wO 8 Z Z Z<|wO 9 Z Z Z<|wO 10 Z Z Z<|wO 11 Z Z Z<|wO 12 Z Z Z<|wO 13 Z Z Z<|wO 14 Z Z Z<|wO 15 Z Z Z<|wO 16 Z Z Z<|wD 17 Z (bA Z Z)<|wN ?_
     exact⟨(sc Z (sc Z (sc Z (sc Z (sc Z (sc Z (sc Z (sc Z (sc Z (Sub.to Z mtA Sub.nil)))))))))),fun _ h=>h⟩
    ·refine wG 8 Z Z Z (aJ (rdr 4 Z) underlying279 Z Z Z)<|wG 9 Z Z Z (dG (vs:=[I ((rdp l1 (i-1)).1),I ((rdp l1 (i-1)).2)]) (rdr 0 Z) underlying230 Z mG Z Z (Nat.le_of_ble_eq_true Z) Z)<|wG 10 Z Z Z (aJ (rdr 3 Z) underlying3 Z Z Z)<|wG 12 Z Z Z (aJ (rdr 4 Z) underlying279 Z Z Z)<|wG 13 Z Z Z (dG (vs:=[I ((rdp l1 i).1),I ((rdp l1 i).2)]) (rdr 1 Z) underlying230 Z mG Z Z (Nat.le_of_ble_eq_true Z) Z)<|wG 14 Z Z Z (aJ (rdr 3 Z) underlying3 Z Z Z)<|aWp 11 Z (by kernel_rfl) Z Z Z (aF VG Z (Ct.quiet (fun w hw=>uO ((rdr 5 Z) w hw) ((RdC.right hrw [_,_,_,_,_,_,_,_,_]) w hw) (hsw w (Hp.right (R':=[_,_,_,_,_,_,_,_,_]) hw)) ((rdr 7 Z) w hw) ((rdr 8 Z) w hw) (by first|assumption|omega|decide) (by first|assumption|omega|decide) (by first|assumption|omega|decide) (by first|assumption|omega|decide) (by first|assumption|omega|decide)))) ?_
     rintro _ _ ⟨rfl,rfl⟩
     refine⟨.inr fun _ h=>h,?_⟩
     refine aWp 15 Z (by kernel_rfl) Z Z Z (aF VG Z (Ct.quiet (fun w hw=>uO ((rdr 5 Z) w hw) ((RdC.right hrw [_,_,_,_,_,_,_,_,_]) w hw) (hsw w (Hp.right (R':=[_,_,_,_,_,_,_,_,_]) hw)) ((rdr 7 Z) w hw) ((rdr 8 Z) w hw) (by first|assumption|omega|decide) (by first|assumption|omega|decide) (by first|assumption|omega|decide) (by first|assumption|omega|decide) (by first|assumption|omega|decide)))) ?_
     rintro _ _ ⟨rfl,rfl⟩
     refine⟨.inr fun _ h=>h,?_⟩
     refine wG 16 Z Z Z (jA Z Z)<|wD 17 Z (aS Z Z)<|wN ?_
     exact⟨(sc Z (sc Z (sc Z (sc Z (sc Z (sc Z (sc Z (sc Z (sc Z (Sub.to Z mbA Sub.nil)))))))))),fun _ h=>h⟩
   refine bM Z (fun hc4=> ?_) (fun hc4=> ?_)
   ·refine aM<|wm Z<|wA Z Z<|wn Z<|bT mixed<|wD 0 Z (aN Z)<|wD 1 Z (aJ (rdr 4 Z) underlying279 Z Z Z)<|wD 2 Z (aD Z)<|wD 3 Z (aB (off:=2) (m:=2) underlying281 Z gX Z Z Z)<|wD 4 Z (aJ (rdr 5 Z) underlying52 Z Z Z)<|wD 5 Z (dB (q:=0) (rdr 1 Z) underlying230 sz3 Z Z (Nat.le_of_ble_eq_true Z) (by decide) (by decide) Z)<|wD 6 Z (aJ (rdr 1 Z) underlying3 Z Z Z)<|wD 7 Z (aH underlying52 sz3 Z Z (rdr 7 Z))<|wD 8 Z (aX underlying3 Z Z (rdr 7 Z)) ?_
    refine wD 9 Z (dB (q:=1) (rdr 1 Z) underlying230 sz3 Z Z (Nat.le_of_ble_eq_true Z) (by decide) (by decide) Z)<|wD 10 Z (aJ (rdr 1 Z) underlying3 Z Z Z)<|wD 11 Z (dF Z Z)<|wD 12 Z (aN Z)<|wD 13 Z (aH underlying52 sz3 Z Z (rdr 2 Z))<|pR 14 Z (by kernel_rfl) (bG 2 Z sz3 Z Z) ?_
    rintro _ _ rfl
    refine⟨.inl (by kernel_rfl),?_⟩
    refine wN<|aM<|wA Z Z<|wm Z<|aA ?_
    exact⟨i+1,n+1,upd rk ((rd bs ((rdp l1 i).1))+((rdp l1 i).2)) (n+1),⟨by omega,by omega,by omega,(by rw[show i+1-1=i by omega,vO (by omega),if_pos (by assumption),←hn]),(by rw[upd,List.length_set];exact hkl),(wQ hnd1 hij hi0 (by omega) hps (by unfold gK;omega) hrk (by have e:(i+1-1)=i:=(by omega);have hc:=(by rw[show i+1-1=i by omega,vO (by omega),if_pos (by assumption),←hn]:_=gM ws bs rs h l1 (i+1-1).toNat);rw[e] at hc;exact hc))⟩,by omega,(G8 Z Z Z Z Z Z Z Z),fun _ h=>h.selR (F:=[_,_,_,_,_,_,_,_,_]) (F':=[_,_,_,_,_,_,_]) [2,3,4,5,6,7,8] (by decide) Z⟩
   ·refine aK<|bT mixed<|wD 0 Z (aN Z)<|wD 1 Z (aJ (rdr 4 Z) underlying279 Z Z Z)<|wD 2 Z (aD Z)<|wD 3 Z (aB (off:=2) (m:=2) underlying281 Z gX Z Z Z)<|wD 4 Z (aJ (rdr 5 Z) underlying52 Z Z Z)<|wD 5 Z (dB (q:=0) (rdr 1 Z) underlying230 sz3 Z Z (Nat.le_of_ble_eq_true Z) (by decide) (by decide) Z)<|wD 6 Z (aJ (rdr 1 Z) underlying3 Z Z Z)<|wD 7 Z (aH underlying52 sz3 Z Z (rdr 7 Z))<|wD 8 Z (aX underlying3 Z Z (rdr 7 Z))<|wD 9 Z (dB (q:=1) (rdr 1 Z) underlying230 sz3 Z Z (Nat.le_of_ble_eq_true Z) (by decide) (by decide) Z)<|wD 10 Z (aJ (rdr 1 Z) underlying3 Z Z Z)<|wD 11 Z (dF Z Z)<|wD 12 Z (aN Z) ?_
    refine wD 13 Z (aH underlying52 sz3 Z Z (rdr 2 Z))<|pR 14 Z (by kernel_rfl) (bG 2 Z sz3 Z Z) ?_
    rintro _ _ rfl
    refine⟨.inl (by kernel_rfl),?_⟩
    refine wN<|aM<|wA Z Z<|wm Z<|aA ?_
    exact⟨i+1,n,upd rk ((rd bs ((rdp l1 i).1))+((rdp l1 i).2)) n,⟨by omega,by omega,by omega,(by rw[show i+1-1=i by omega,vO (by omega),if_neg (by assumption),←hn,Int.add_zero]),(by rw[upd,List.length_set];exact hkl),(wQ hnd1 hij hi0 (by omega) hps (by unfold gK;omega) hrk (by have e:(i+1-1)=i:=(by omega);have hc:=(by rw[show i+1-1=i by omega,vO (by omega),if_neg (by assumption),←hn,Int.add_zero]:_=gM ws bs rs h l1 (i+1-1).toNat);rw[e] at hc;exact hc))⟩,by omega,(G8 Z Z Z Z Z Z Z Z),fun _ h=>h.selR (F:=[_,_,_,_,_,_,_,_,_]) (F':=[_,_,_,_,_,_,_]) [2,3,4,5,6,7,8] (by decide) Z⟩
  ·refine aK<|bT mixed<|wD 0 Z (aN Z)<|wD 1 Z (aJ (rdr 3 Z) underlying279 Z Z Z)<|wD 2 Z (aD Z)<|wD 3 Z (aB (off:=2) (m:=2) underlying281 Z gX Z Z Z)<|wD 4 Z (aJ (rdr 4 Z) underlying52 Z Z Z)<|wD 5 Z (dB (q:=0) (rdr 0 Z) underlying230 sz3 Z Z (Nat.le_of_ble_eq_true Z) (by decide) (by decide) Z)<|wD 6 Z (aJ (rdr 0 Z) underlying3 Z Z Z)<|wD 7 Z (aH underlying52 sz3 Z Z (rdr 6 Z))<|wD 8 Z (aX underlying3 Z Z (rdr 6 Z))<|wD 9 Z (dB (q:=1) (rdr 0 Z) underlying230 sz3 Z Z (Nat.le_of_ble_eq_true Z) (by decide) (by decide) Z)<|wD 10 Z (aJ (rdr 0 Z) underlying3 Z Z Z)<|wD 11 Z (dF Z Z)<|wD 12 Z (aN Z) ?_
   refine wD 13 Z (aH underlying52 sz3 Z Z (rdr 1 Z))<|pR 14 Z (by kernel_rfl) (bG 1 Z sz3 Z Z) ?_
   rintro _ _ rfl
   refine⟨.inl (by kernel_rfl),?_⟩
   refine wN<|aM<|wA Z Z<|wm Z<|aA ?_
   exact⟨i+1,n,upd rk ((rd bs ((rdp l1 i).1))+((rdp l1 i).2)) n,⟨by omega,by omega,by omega,(by have h0:i=0:=(by omega);subst h0;exact hn),(by rw[upd,List.length_set];exact hkl),(wQ hnd1 hij hi0 (by omega) hps (by unfold gK;omega) hrk (by have e:(i+1-1)=i:=(by omega);have hc:=(by have h0:i=0:=(by omega);subst h0;exact hn:_=gM ws bs rs h l1 (i+1-1).toNat);rw[e] at hc;exact hc))⟩,by omega,(G8 Z Z Z Z Z Z Z Z),fun _ h=>h.selR (F:=[_,_,_,_,_,_,_,_]) (F':=[_,_,_,_,_,_,_]) [1,2,3,4,5,6,7] (by decide) Z⟩
 ·refine aZ<|wq<|wy (aJ (rdr 2 Z) underlying279 Z Z Z)<|wm Z<|wy (aD Z)<|wy (aB (off:=3) (m:=3) underlying281 Z gX Z Z Z)<|bY (aY 3 Z Z Z gX Z Z Z Z (Nat.le_of_ble_eq_true Z)) ?_
  rintro _ _ rfl
  refine aA<|wq<|wm Z<|wn Z<|aT [3,4,5,0] 7 (by decide) Z ?_
  refine⟨_,Z,?_⟩
  obtain rfl:i=l1.length:=by omega
  refine⟨l1,rk,_,_,?_,hp1,hs1,hkl,fun j hj=>hrk j (by omega),Z⟩
  rw[hn,show((l1.length:Int)-1).toNat=l1.length-1 by omega]
variable {w:World}
theorem aIz {A_l:Option Addr} {n_l c_l:Nat} {l:List (Int × Int)} (h_l:Rd w A_l n_l c_l 2 (prs l)) (hN:l.length≤1000000):
  Ct Tryz.prog 237 #[.slice A_l n_l c_l] w.heap.size w [] (fun v R'=> ∃A c,v= .slice A l.length c∧R'=[⟨230,2,A,l.length,c,prs l,false⟩]):=by
 obtain rfl:n_l=l.length:=by have:=h_l.len;rw[kS] at this;omega
 refine fn1 Tryz.func237 Z Z Z ?_
 refine wq<|wn Z<|aG<|wq<|wm Z<|wy (aBw underlying228 Z Z)<|aA<|EW Z (fun hc1=> ?_) (fun hc1=> ?_)
 ·refine wq<|wn Z<|bR (R1:=[⟨230,2,none,0,0,prs [],false⟩]) (fun _ h=>h.nilP 230) ?_
  refine⟨_,Z,?_⟩
  have hA:A_l=none:=by simpa using hc1
  subst hA
  obtain rfl:=aMp h_l
  exact⟨none,0,Z,Z⟩
 ·refine aK<|wq<|wa (aWe underlying228 aWi) ?_
  rintro _ _ ⟨g_2,rfl,rfl⟩
  refine wm Z<|wa (BS 0 Z underlying228 aWj Z Z Z Z (h_l.c _) (by omega)) ?_
  rintro _ _ ⟨A_3,c_4,rfl,rfl⟩
  refine bN (v:= .slice A_3 (0+l.length) c_4) Z<|wn Z<|bR (R1:=[⟨230,2,A_3,(0+l.length),c_4,prs (([])++l),false⟩]) (fun _ h=>h) ?_
  refine⟨_,Z,?_⟩
  simp only[Nat.zero_add,List.nil_append]
  exact⟨_,_,Z,Z⟩
theorem aKn {A_ws:Option Addr} {n_ws c_ws:Nat} {vals_ws:List Value} {ws:List (List Int)} (h_ws:Rd w A_ws n_ws c_ws 1 vals_ws) (s_ws:SlW .u8 w vals_ws ws) (hN:ws.flatten.length≤400000∧ws.length≤1000000):
  Ct Tryz.prog 179 #[.slice A_ws n_ws c_ws] w.heap.size w [] (fun v R'=> ∃(l:List (Int × Int)) (A:Option Addr) (c:Nat),v= .slice A l.length c∧l.Perm (iJ ws ws.length)∧l.Pairwise (pU ws)∧R'=[⟨230,2,A,l.length,c,prs l,false⟩]):=by
 obtain rfl:n_ws=ws.length:=by have:=h_ws.len;have:=s_ws.1;omega
 refine fn1 Tryz.func179 Z Z Z ?_
 have m_ws:=h_ws.max
 have hfl:=hN.1
 refine wq<|wn Z<|wq<|wm Z<|wy (dY (v:= .agg #[.slice A_ws ws.length c_ws, .slice none 0 0, .slice none 0 0, .slice none 0 0]) Z (fun w=>by kernel_rfl))<|wa (bX (sz:=4) rfl rfl) ?_
 rintro _ _ ⟨g_1,rfl,rfl⟩
 refine dH (R1:=[⟨230,2,none,0,0,prs ([]),false⟩,(ri 3 none 0 0 ([])),(ri 3 none 0 0 ([])),(rc 281 4 g_1 [.slice A_ws ws.length c_ws, .slice none 0 0, .slice none 0 0, .slice none 0 0])]) (Sub.refl _) (fun _ h=>((h.nil 3 1).nil 3 1).nilP 230)<|wn Z<|wq<|wn Z<|aG<|wq<|wm Z<|wy (aQ underlying23 Z)<|wm Z<|aA<|aI ?_
 refine aKg (fun(k:Int) (lg:Int) (A1:Option Addr) (n1:Nat) (c1:Nat) (T:List (Int × Int)) (A2:Option Addr) (n2:Nat) (c2:Nat) (Bs:List Int) (A3:Option Addr) (n3:Nat) (c3:Nat) (Rs:List Int)=>[(3, .pointer (GG g_1)),(4,I lg),(16, .slice A_ws ws.length c_ws),(17,I ((ws.length:Nat):Int)),(18,I k)]) (fun k lg A1 n1 c1 T A2 n2 c2 Bs A3 n3 c3 Rs=>[⟨230,2,A1,n1,c1,prs T,false⟩,(ri 3 A2 n2 c2 Bs),(ri 3 A3 n3 c3 Rs),(rc 281 4 g_1 [.slice A_ws ws.length c_ws, .slice A1 n1 c1, .slice A2 n2 c2, .slice A3 n3 c3])]) (fun k lg A1 n1 c1 T A2 n2 c2 Bs A3 n3 c3 Rs=>(0≤k)∧(k≤ws.length)∧(0≤lg∧lg≤400000)∧(∀w:Int,0≤w→w<k→((rdl ws w).length:Int)≤lg)∧(lg=0∧mQ ws k.toNat=0∨0<lg∧0<mQ ws k.toNat)∧(T=iJ ws k.toNat)∧(n1=mQ ws k.toNat)∧(Bs=qF ws k.toNat)∧(n2=k.toNat)∧(Rs=(ws.take k.toNat).flatten)∧(n3=mQ ws k.toNat)) (fun k lg A1 n1 c1 T A2 n2 c2 Bs A3 n3 c3 Rs=>(ws.length-k).toNat) ?_ ?_
 ·exact⟨0,0,none,0,0,[],none,0,0,[],none,0,0,[],⟨by omega,by omega,by omega,(fun w h0 h1=>by omega),(.inl ⟨rfl,rfl⟩),(rfl),(rfl),(rfl),(rfl),(rfl),(rfl)⟩,(G5 rfl rfl rfl rfl rfl),fun _ h=>h⟩
 intro k lg A1 n1 c1 T A2 n2 c2 Bs A3 n3 c3 Rs ⟨hk0,hk1,hg0,hlg,hge,hT,hnT,hBs,hnB,hRs,hnR⟩
 refine wq<|wL Z Z<|aA<|aG<|bM Z (fun hc1=> ?_) (fun hc1=> ?_)
 ·have hofs:=kY hk0 (show k<ws.length by omega)
  have hole:=aDk ws (k+1).toNat
  refine aK<|aG<|aI<|wq<|wm Z<|wy (aH underlying23 dO Z Z (h_ws.c _)) ?_
  obtain⟨A_2,c_3,hv_4,hr_5,hb_6,mhr_5⟩:=s_ws.at (i:=k) (by omega) (by omega)
  refine wy (DC underlying22 Z Z Z (h_ws.c _) hv_4)<|wg Z<|wn Z<|aG<|bT mixed<|wD 0 Z (aN Z)<|wD 1 Z (aN Z)<|wD 2 Z (aD Z)<|wD 3 Z (aB (off:=2) (m:=2) underlying281 Z gX Z Z Z)<|wD 4 Z (aJ (rdr 3 Z) underlying52 Z Z Z)<|wD 5 Z (aN Z)<|wD 6 Z (aD Z)<|wD 7 Z (aB (off:=1) (m:=1) underlying281 Z RY Z Z Z)<|wD 8 Z (aJ (rdr 3 Z) underlying228 Z Z Z) ?_
  refine wD 9 Z (aQ underlying228 Z)<|wC 10 Z (bS .i64 [((n1:Nat):Int)] underlying52 zs3 Z Z Z) ?_
  rintro _ _ ⟨g_8,rfl,rfl⟩
  refine⟨.inr fun _ h=>h.right (R':=[_]),?_⟩
  refine wC 11 Z (bE 2 Z underlying52 zb3 Z Z Z (rdr 0 Z)) ?_
  rintro _ _ ⟨A_9,c_10,rfl,rfl⟩
  refine⟨.inl (by kernel_rfl),?_⟩
  refine CE (v:= .slice A_9 (n2+1) c_10) Z<|wD 12 Z (aD Z)<|wD 13 Z (aB (off:=2) (m:=2) underlying281 Z gX Z Z Z)<|pR 14 Z (by kernel_rfl) (aY 4 Z Z Z gX Z Z Z Z (Nat.le_of_ble_eq_true Z)) ?_
  rintro _ _ rfl
  refine⟨.inl (by kernel_rfl),?_⟩
  refine wN<|wq<|wm Z<|wm Z<|wy (aQ underlying22 Z)<|wy (aKa Z Z)<|wn Z<|wq<|wm Z<|wy (aQ underlying22 Z)<|wm Z<|aA ?_
  refine aI ?_
  refine OO (fun(j:Int) (B1:Option Addr) (m1:Nat) (d1:Nat) (U:List (Int × Int)) (B3:Option Addr) (m3:Nat) (d3:Nat) (V:List Int)=>[(3, .pointer (GG g_1)),(4,I (max lg (((rdl ws k).length:Nat):Int))),(5,I k),(16, .slice A_ws ws.length c_ws),(17,I ((ws.length:Nat):Int)),(18,I k),(41, .slice A_2 ((rdl ws k).length) c_3),(42,I (((rdl ws k).length:Nat):Int)),(43,I j)]) (fun j B1 m1 d1 U B3 m3 d3 V=>[(ri 3 (GG g_8) 1 1 ([((n1:Nat):Int)])),⟨230,2,B1,m1,d1,prs U,false⟩,(ri 3 A_9 (n2+1) c_10 (Bs++([((n1:Nat):Int)]))),(ri 3 B3 m3 d3 V),(rc 281 4 g_1 [.slice A_ws ws.length c_ws, .slice B1 m1 d1, .slice A_9 (n2+1) c_10, .slice B3 m3 d3])]) (fun j B1 m1 d1 U B3 m3 d3 V=>(0≤j)∧(j≤(rdl ws k).length)∧(U=iJ ws k.toNat++turnsOf k j.toNat)∧(m1=mQ ws k.toNat+j.toNat)∧(V=(ws.take k.toNat).flatten++(rdl ws k).take j.toNat)∧(m3=mQ ws k.toNat+j.toNat)) (fun j B1 m1 d1 U B3 m3 d3 V=>((rdl ws k).length-j).toNat) ?_ ?_
  ·exact⟨0,A1,n1,c1,T,A3,n3,c3,Rs,⟨by omega,by omega,(by rw[hT];exact(List.append_nil _).symm),(hnT),(by rw[hRs];exact(List.append_nil _).symm),(hnR)⟩,(G9 Z Z Z Z Z Z Z Z Z),fun _ h=>h⟩
  intro j B1 m1 d1 U B3 m3 d3 V ⟨hj0,hj1,hU,hm1,hV,hm3⟩
  refine wq<|wL Z Z<|aA<|aG<|bM Z (fun hc2=> ?_) (fun hc2=> ?_)
  ·refine aK<|aG<|aI<|wq<|wm Z<|wy (aH underlying22 sz5 Z Z (hr_5.c _))<|wy (aX underlying5 Z Z (hr_5.c _))<|wg Z<|wn Z<|wq<|wm Z<|wm Z ?_
   refine wy (aD Z)<|wy (aB (off:=1) (m:=1) underlying281 Z RY Z Z Z)<|wy (aJ (rdr 4 Z) underlying228 Z Z Z)<|wm Z<|wm Z<|wy (dY (v:= .agg #[I k,I j]) Z (fun w=>by kernel_rfl))<|wa (aRr underlying228 aWi rfl) ?_
   rintro _ _ ⟨g_12,rfl,rfl⟩
   refine wa (BS 2 Z underlying228 aWj Z Z Z Z (rdr 0 Z) (by omega)) ?_
   rintro _ _ ⟨A_13,c_14,rfl,rfl⟩
   refine bN (v:= .slice A_13 (m1+1) c_14) Z<|wy (aD Z)<|wy (aB (off:=1) (m:=1) underlying281 Z RY Z Z Z)<|bY (aY 5 Z Z Z RY Z Z Z Z (Nat.le_of_ble_eq_true Z)) ?_
   rintro _ _ rfl
   refine aA<|aM<|wm Z<|wm Z<|wy (aD Z)<|wy (aB (off:=3) (m:=3) underlying281 Z gX Z Z Z)<|wy (aJ (rdr 5 Z) underlying52 Z Z Z)<|wm Z<|wy (iV underlying5 underlying3 Z (by have hby:=(byteL_wf (by assumption: ∀x∈rdl ws k,(Lit.int .u8 x).wf=true)).rd j;omega)) ?_
   refine wa (bS .i64 [rd (rdl ws k) j] underlying52 zs3 Z Z Z) ?_
   rintro _ _ ⟨g_16,rfl,rfl⟩
   refine wa (bE 5 Z underlying52 zb3 Z Z Z (rdr 0 Z)) ?_
   rintro _ _ ⟨A_17,c_18,rfl,rfl⟩
   refine bN (v:= .slice A_17 (m3+1) c_18) Z<|wy (aD Z)<|wy (aB (off:=3) (m:=3) underlying281 Z gX Z Z Z)<|bY (aY 6 Z Z Z gX Z Z Z Z (Nat.le_of_ble_eq_true Z)) ?_
   rintro _ _ rfl
   refine aA<|aM<|wA Z Z<|wm Z<|aA ?_
   exact⟨j+1,A_13,(m1+1),c_14,U++([(k,j)]),A_17,(m3+1),c_18,V++([rd (rdl ws k) j]),⟨by omega,by omega,(by rw[hU,OS k hj0,List.append_assoc]),by omega,(by rw[hV,List.append_assoc,dD hj0 (by omega)]),by omega⟩,by omega,(G9 Z Z Z Z Z Z Z Z Z),fun _ h=>h.sel [2,3,4,5,6] (by decide) Z⟩
  ·refine aZ<|aM<|wA Z Z<|wm Z<|aA ?_
   exact⟨k+1,max lg (((rdl ws k).length:Nat):Int),B1,m1,d1,U,A_9,(n2+1),c_10,Bs++([((n1:Nat):Int)]),B3,m3,d3,V,⟨by omega,by omega,by omega,(fun w h0 h1=>by
      by_cases hw:w=k
      ·rw[hw];omega
      ·have:=hlg w h0 (by omega);omega),(by have hofs:=kY hk0 (show k<ws.length by omega);omega),(by have hj:j.toNat=(rdl ws k).length:=(by omega);rw[hU,hj,XT hk0]),(by rw[hm1,kY hk0 (by omega)];omega),(by rw[hBs,aBh hk0,hnT]),by omega,(by have hj:j.toNat=(rdl ws k).length:=(by omega);rw[hV,hj,List.take_length,iM hk0 (by omega)]),(by rw[hm3,kY hk0 (by omega)];omega)⟩,by omega,(G5 rfl rfl rfl rfl rfl),fun _ h=>h.sel [1,2,3,4] (by decide) rfl⟩
 ·have hke:k=ws.length:=by omega
  have hkn:k.toNat=ws.length:=by omega
  rw[hkn] at hT hBs hRs hnT hnB hnR hge
  rw[List.take_length] at hRs
  have hoT:=zZ ws ws.length (Nat.le_refl _)
  have hoB:=NY ws ws.length
  have hoR:mQ ws ws.length=ws.flatten.length:=by unfold mQ;rw[List.take_length]
  obtain rfl:n1=T.length:=by rw[hT];omega
  obtain rfl:n2=Bs.length:=by rw[hBs];omega
  obtain rfl:n3=Rs.length:=by rw[hRs];omega
  have hTl:T.length≤1000000:=by rw[hT];omega
  refine aZ<|wq<|wm Z<|wy (aD Z)<|wy (aB (off:=1) (m:=1) underlying281 Z RY Z Z Z)<|wy (aJ (rdr 3 Z) underlying228 Z Z Z)<|wa (aF bDp Z (Ct.fresh (fun w hw=>aIz ((rdr 0 Z) w hw) hTl))) ?_
  rintro _ _ ⟨_,rfl,A_19,c_20,rfl,rfl⟩
  refine wn Z<|wq<|wn Z<|aG<|wq<|wn Z<|aI ?_
  refine nU (fun(h:Int) (was:Int) (l:List (Int × Int)) (A4:Option Addr) (c4:Nat) (rs:List Int)=>[(3, .pointer (GG g_1)),(4,I lg),(9, .slice A_19 T.length c_20),(10,I was),(11,I h)]) (fun h was l A4 c4 rs=>[⟨230,2,A_19,T.length,c_20,prs l,false⟩,⟨230,2,A1,T.length,c1,prs T,false⟩,(ri 3 A2 Bs.length c2 Bs),(ri 3 A4 Rs.length c4 rs),(rc 281 4 g_1 [.slice A_ws ws.length c_ws, .slice A1 T.length c1, .slice A2 Bs.length c2, .slice A4 Rs.length c4])]) (fun h was l A4 c4 rs=>(0≤h)∧(l.Perm T)∧(rs.length=Rs.length)∧(RK ws Bs (lY h) rs)∧(0<h→Sorted ws (lY h) l∧Go.Pure.Steps Bs rs l was)) (fun h was l A4 c4 rs=>(2*lg-h).toNat) ?_ ?_
  ·exact⟨0,-1,T,A3,c3,Rs,⟨by omega,(.refl _),(Z),(by rw[hRs,hBs];exact aLp ws),(fun h=>absurd h (by omega))⟩,(G5 Z Z Z Z Z),fun _ h=>h⟩
  intro h was l A4 c4 rs ⟨hh0,hlp,hrl,hRK,hst⟩
  have htv: ∀t∈l,TV ws t:=fun t ht=>yU.1 (by rw[←hT];exact hlp.mem_iff.1 ht)
  have hvv: ∀t∈l,TOk ws Bs rs.length t:=fun t ht=>by rw[hrl,hRs,hBs];exact aWa (by omega) (htv t ht)
  have hij: ∀t∈l,∀u∈l,gK Bs t=gK Bs u→t=u:=fun t ht u hu e=>aMr (htv t ht) (htv u hu) (by rw[←hBs];exact e)
  have hnd:l.Nodup:=hlp.nodup_iff.2 (by rw[hT];exact tH ws _)
  have hrs:Rs.length=ws.flatten.length:=by rw[hRs]
  have hll:=hlp.length_eq
  have hTo:T.length=mQ ws ws.length:=by rw[hT];exact hoT
  refine aG<|wq<|wm Z<|wm Z<|wy (iA Z Z)<|wL Z Z<|aA<|bM Z (fun hc3=> ?_) (fun hc3=> ?_)
  ·have hne:l≠[]:=fun e=>by rw[e] at hll;simp only[List.length_nil] at hll;omega
   refine aK<|aG<|aI<|wq<|wm Z<|wm Z<|wm Z<|dH (R1:=[(rc 281 4 g_1 [.slice A_ws ws.length c_ws, .slice A1 T.length c1, .slice A2 Bs.length c2, .slice A4 Rs.length c4]),⟨230,2,A_19,T.length,c_20,prs l,false⟩,(ri 3 A2 Bs.length c2 Bs),(ri 3 A4 Rs.length c4 rs),⟨230,2,A1,T.length,c1,prs T,false⟩]) (Sub.refl _) (fun _ h=>h.sel [4,0,2,3,1] (by decide) Z)<|wa (aF bDo Z (aAb (bs:=Bs) (rs:=rs) (ts:=l) hll.symm Z hrl.symm (h_ws.c _) (fun w hw=>s_ws.c hw) hvv hij hnd hne ⟨by omega,by omega⟩ ⟨hh0,by omega⟩)) ?_
   rintro _ _ ⟨l_23,rk_24,A_21,c_22,rfl,hp_l_23,hs_l_23,hl_rk_24,hr_rk_24,rfl⟩
   have hs2:Sorted ws (fJ h) l_23:=⟨fun t ht=>htv t (hp_l_23.mem_iff.1 ht),hp_l_23.nodup_iff.2 hnd,hs_l_23.imp_of_mem fun {x y} hx hy hn ho=>hn ((aKt hh0 hRK (htv y (hp_l_23.mem_iff.1 hy)) (htv x (hp_l_23.mem_iff.1 hx))).2 ho)⟩
   have hall2: ∀t,TV ws t→t∈l_23:=fun t ht=>hp_l_23.mem_iff.2 (hlp.mem_iff.2 (by rw[hT];exact yU.2 ht))
   have hRK2:=aSz hh0 hRK hs2 hall2 hr_rk_24
   have hst2:=XX hh0 hRK hs2 hr_rk_24
   have hcl:=hp_l_23.length_eq
   refine wn Z<|aG<|wq<|wm Z<|wm Z<|wy (bC Z Z)<|wm Z<|dS 3 [(3, .pointer (GG g_1)),(4,I lg),(9, .slice A_19 T.length c_20),(11,I h),(12,I (gM ws Bs rs h l_23 (l_23.length-1))),(95, .bool (decide (((gM ws Bs rs h l_23 (l_23.length-1))=was)∧(0<h))))] [(rc 281 4 g_1 [.slice A_ws ws.length c_ws, .slice A1 T.length c1, .slice A2 Bs.length c2, .slice A_21 Rs.length c_22]),⟨230,2,A_19,T.length,c_20,prs l_23,false⟩,(ri 3 A2 Bs.length c2 Bs),(ri 3 A_21 Rs.length c_22 rk_24),⟨230,2,A1,T.length,c1,prs T,false⟩] ?_ ?_
   ·refine dC 92 Z (fun hc4=> ?_) (fun hc4=> ?_)
    ·refine aC Z Z<|wm Z<|aC Z Z<|wy (dV Z Z)<|wy (bA Z Z)<|aA ?_
     exact⟨(sc Z (sc Z (sc Z (sc Z (sc Z (Sub.to Z mbA Sub.nil)))))),fun _ h=>h⟩
    ·refine aP Z Z Z Z<|aP Z Z Z Z<|wy (aS Z Z)<|aA ?_
     exact⟨(sc Z (sc Z (sc Z (sc Z (sc Z (Sub.to Z mfA Sub.nil)))))),fun _ h=>h⟩
   refine aA<|bM Z (fun hc5=> ?_) (fun hc5=> ?_)
   ·refine aZ<|wq<|wm Z<|wn Z<|aT [1] 99 (by decide) Z ?_
    refine⟨_,Z,?_⟩
    have hle:T.length=l_23.length:=by omega
    rw[hle]
    refine⟨l_23,_,_,Z,?_,?_,Z⟩
    ·rw[←hT];exact hp_l_23.trans hlp
    ·exact stay hc5.2 hRK hs2 hall2 hp_l_23 (hst hc5.2).2 hc5.1
   ·refine aK<|aM<|wm Z<|wn Z<|aM<|wm Z<|wy (iA Z Z)<|wy (aKa Z Z)<|wn Z ?_
    exact⟨max 1 (2*h),gM ws Bs rs h l_23 (l_23.length-1),l_23,A_21,c_22,rk_24,⟨by omega,(hp_l_23.trans hlp),by omega,(by have e:lY (max 1 (2*h))=fJ h:=(by unfold lY fJ;split<;>omega);rw[e];exact hRK2),(fun _=>by have e:lY (max 1 (2*h))=fJ h:=(by unfold lY fJ;split<;>omega);rw[e];exact⟨hs2,hst2⟩)⟩,by omega,(G5 rfl rfl rfl rfl rfl),fun _ h=>h.sel [1,4,2,3,0] (by decide) rfl⟩
  ·refine aZ<|wq<|wm Z<|wn Z<|aT [0] 99 (by decide) Z ?_
   refine⟨_,Z,?_⟩
   have hle:T.length=l.length:=by omega
   rw[hle]
   refine⟨l,_,_,Z,?_,?_,Z⟩
   ·rw[←hT];exact hlp
   ·by_cases h0:0<h
    ·refine (hst h0).1.toO fun t u ht hu e=>VB ht hu ?_ e
     have a:=hlg t.1 ht.1 (by rw[hke];exact ht.2.1)
     have b:=hlg u.1 hu.1 (by rw[hke];exact hu.2.1)
     unfold lY
     omega
    ·have hl0:l=[]:=List.eq_nil_of_length_eq_zero (by omega)
     rw[hl0]
     exact .nil
theorem ZY {w:World} {A_u:Option Addr} {n_u c_u:Nat} {u:List Int} (h_u:Rd w A_u n_u c_u 1 (ints .u8 u)) (hN:u.length≤1000000):
  Ct Tryz.prog 178 #[.slice A_u n_u c_u] w.heap.size w [] (fun v R'=> ∃A c,v= .slice A (fB u).length c∧R'=[(ri 3 A ((fB u).length) c (fB u))]):=by
 obtain rfl:=h_u.lenI
 refine fn1 Tryz.func178 Z Z Z ?_
 have m_u:=h_u.max
 refine wq<|wn Z<|wq<|dH (R1:=[(ri 3 none 0 0 ([]))]) (Sub.refl _) (fun _ h=>h.nil 3 1)<|wn Z<|aG<|wq<|wn Z<|aI ?_
 refine jP (fun(a:Int) (A1:Option Addr) (n1:Nat) (c1:Nat) (acc:List Int)=>[(0, .slice A_u u.length c_u),(3, .slice A1 n1 c1),(4,I a)]) (fun a A1 n1 c1 acc=>[(ri 3 A1 n1 c1 acc)]) (fun a A1 n1 c1 acc=>(0≤a)∧(a≤u.length)∧(n1=acc.length)∧(acc.length≤a)∧(fB u=acc++fB (u.drop a.toNat))) (fun a A1 n1 c1 acc=>(u.length-a).toNat) ?_ ?_
 ·exact⟨0,none,0,0,[],⟨by omega,by omega,(Z),by simp,(Z)⟩,(G3 Z Z Z),fun _ h=>h⟩
 intro a A1 n1 c1 acc ⟨ha0,ha1,hn1,hlu,hfac⟩
 refine aG<|wq<|wm Z<|wm Z<|wy (aQ underlying22 Z)<|wL Z Z<|aA<|bM Z (fun hc1=> ?_) (fun hc1=> ?_)
 ·refine aK<|aI<|wq<|wm Z<|wm Z<|wA Z Z<|wg Z<|wn Z<|aG<|aI ?_
  refine dR (fun(i:Int) (j:Int)=>[(0, .slice A_u u.length c_u),(3, .slice A1 n1 c1),(4,I a),(5,I i),(6,I j)]) (fun i j=>[(ri 3 A1 n1 c1 acc)]) (fun i j=>(a≤i)∧(i<j)∧(j≤u.length)∧(rO u a (j-i))∧(rH u a (j-i) (j-a))) (fun i j=>(u.length-j).toNat) ?_ ?_
  ·exact⟨a,a+1,⟨by omega,by omega,by omega,(CY.1),(CY.2)⟩,(G5 Z Z Z Z Z),fun _ h=>h⟩
  intro i j ⟨hai,hij,hj,hL,hP⟩
  refine aG ?_
  refine xN [(0, .slice A_u u.length c_u),(3, .slice A1 n1 c1),(4,I a),(5,I i),(6,I j),(28, .bool (decide ((j<((u.length:Nat):Int))∧((rd u i)≤(rd u j)))))] [(ri 3 A1 n1 c1 acc)] ?_ ?_
  ·refine bT mixed<|wD 0 Z (aN Z)<|wD 1 Z (aN Z)<|wD 2 Z (aQ underlying22 Z)<|wD 3 Z (eP Z Z)<|wD 4 Z (aN Z)<|pX 18 Z (fun hc2=> ?_) (fun hc2=> ?_)
   ·refine wG 5 Z Z Z (aN Z)<|wG 6 Z Z Z (aN Z)<|wG 7 Z Z Z (aH underlying22 sz5 Z Z (h_u.c _))<|wG 8 Z Z Z (aX underlying5 Z Z (h_u.c _))<|wG 9 Z Z Z (aN Z)<|wG 10 Z Z Z (aN Z)<|wG 11 Z Z Z (aH underlying22 sz5 Z Z (h_u.c _))<|wG 12 Z Z Z (aX underlying5 Z Z (h_u.c _))<|wG 13 Z Z Z (vZ Z Z)<|wD 14 Z (bA Z Z)<|wN ?_
    exact⟨(sc Z (sc Z (sc Z (sc Z (sc Z (Sub.to Z mbA Sub.nil)))))),fun _ h=>h⟩
   ·refine wO 5 Z Z Z<|wO 6 Z Z Z<|wO 7 Z Z Z<|wO 8 Z Z Z<|wO 9 Z Z Z<|wO 10 Z Z Z<|wO 11 Z Z Z<|wO 12 Z Z Z<|wO 13 Z Z Z<|wD 14 Z (aS Z Z)<|wN ?_
    exact⟨(sc Z (sc Z (sc Z (sc Z (sc Z (Sub.to Z mfA Sub.nil)))))),fun _ h=>h⟩
  refine bM Z (fun hc3=> ?_) (fun hc3=> ?_)
  ·refine aK<|aI<|aG<|aG<|bT mixed<|wD 0 Z (aN Z)<|wD 1 Z (aN Z)<|wD 2 Z (aH underlying22 sz5 Z Z (h_u.c _))<|wD 3 Z (aX underlying5 Z Z (h_u.c _))<|wD 4 Z (aN Z)<|wD 5 Z (aN Z)<|wD 6 Z (aH underlying22 sz5 Z Z (h_u.c _))<|wD 7 Z (aX underlying5 Z Z (h_u.c _))<|wD 8 Z (eP Z Z)<|wN ?_
   refine bM Z (fun hc4=> ?_) (fun hc4=> ?_)
   ·refine aM<|wm Z<|wn Z<|aM<|wm Z<|wA Z Z<|wn Z ?_
    exact⟨a,j+1,⟨by omega,by omega,by omega,((VK ha0 hai hij hL hP hc4).1),((VK ha0 hai hij hL hP hc4).2)⟩,by omega,(G5 Z Z Z Z Z),fun _ h=>h⟩
   ·refine aM<|wm Z<|wA Z Z<|wn Z<|aM<|wm Z<|wA Z Z<|wn Z ?_
    exact⟨i+1,j+1,⟨by omega,by omega,by omega,((VL ha0 hai hij hL hP hc3.2 hc4).1),((VL ha0 hai hij hL hP hc3.2 hc4).2)⟩,by omega,(G5 Z Z Z Z Z),fun _ h=>h⟩
  ·refine aZ<|aI ?_
   refine jP (fun(b:Int) (A2:Option Addr) (n2:Nat) (c2:Nat) (ac2:List Int)=>[(0, .slice A_u u.length c_u),(3, .slice A2 n2 c2),(4,I b),(5,I i),(6,I j)]) (fun b A2 n2 c2 ac2=>[(ri 3 A2 n2 c2 ac2)]) (fun b A2 n2 c2 ac2=>(a≤b)∧(b≤j)∧(n2=ac2.length)∧(ac2.length≤b)∧(fB u=ac2++fB (u.drop b.toNat))∧(b≤i→rO u b (j-i)∧rH u b (j-i) (j-b))) (fun b A2 n2 c2 ac2=>(j-b).toNat) ?_ ?_
   ·exact⟨a,A1,n1,c1,acc,⟨by omega,by omega,(hn1),(hlu),(hfac),(fun _=>⟨hL,hP⟩)⟩,(G5 Z Z Z Z Z),fun _ h=>h⟩
   intro b A2 n2 c2 ac2 ⟨hb0,hb1,hn2,hlu2,hfac2,hLP⟩
   refine aG<|wq<|wm Z<|wm Z<|wy (vZ Z Z)<|aA<|bM Z (fun hc5=> ?_) (fun hc5=> ?_)
   ·refine aK<|aI<|wq<|wm Z<|wm Z<|wm Z<|wS Z Z<|wa (bS .i64 [j-i] underlying52 zs3 Z Z Z) ?_
    rintro _ _ ⟨g_2,rfl,rfl⟩
    refine wa (bE 1 Z underlying52 zb3 Z Z Z (rdr 0 Z)) ?_
    rintro _ _ ⟨A_3,c_4,rfl,rfl⟩
    refine bN (v:= .slice A_3 (n2+1) c_4) Z<|wn Z<|aM<|wm Z<|wm Z<|wm Z<|wS Z Z<|wA Z Z<|wn Z ?_
    exact⟨b+(j-i),A_3,n2+1,c_4,ac2++([j-i]),⟨by omega,by omega,(by rw[List.length_append,hn2];rfl),(by rw[List.length_append,List.length_singleton];omega),(by rw[hfac2,aIl (by omega) hc5 hij hj (hLP hc5).1 (hLP hc5).2 hc3,List.append_assoc];rfl),(fun h=>aAa (by omega) hij (hLP hc5).1 (hLP hc5).2 h)⟩,by omega,(G5 Z Z Z Z Z),fun _ h=>h.sel [1] (by decide) Z⟩
   ·refine aZ ?_
    exact⟨b,A2,n2,c2,ac2,⟨by omega,by omega,(hn2),(hlu2),(hfac2)⟩,by omega,(G3 Z Z Z),fun _ h=>h⟩
 ·refine aZ<|wq<|wm Z<|wn Z<|aT [0] 99 (by decide) Z ?_
  refine⟨_,Z,?_⟩
  have e:(u.drop a.toNat).length=0:=by rw[List.length_drop];omega
  rw[UX e,List.append_nil] at hfac
  rw[hfac]
  obtain rfl:=hn1
  exact⟨_,_,Z,Z⟩
end Go.Proofs.YtdbebmmhdefgdaaGreat
namespace Go.Pure
open Go Go.Eng
section
variable {u m V:List Int} {i:Int}
end
theorem aTh {l:List (Int × Int)} {f:Int × Int→Int} {i:Int} (h0:0≤i) (h:i<l.length):rd (l.map f) i=f (rdp l i):=by
 unfold rd rdp
 rw[List.getD_eq_getElem?_getD,List.getD_eq_getElem?_getD,List.getElem?_map,List.getElem?_eq_getElem (by omega)]
 rfl
end Go.Pure
namespace Go.Proofs.YtdbebmmhdefgdaaGreat
open Go Go.Eng Go.Pure
open Tryz
set_option maxRecDepth 100000
theorem XJ {s:List Int} {k:Int} (h:k=(fB s).length):gH s (fB s) k=bws s:=by rw[h];rfl
set_option maxHeartbeats 1000000 in
theorem JP {w:World} {A_u:Option Addr} {n_u c_u:Nat} {u:List Int} (h_u:Rd w A_u n_u c_u 1 (ints .u8 u)) (bh_u:aO u) (hN:u.length≤100000):
  Ct Tryz.prog 104 #[.slice A_u n_u c_u] w.heap.size w [] (fun v R'=> ∃(lt:List (Int × Int)) (A:Option Addr) (c:Nat),v= .tuple #[.slice A lt.length c,I 0]∧lt.Perm (iJ (bws u) (bws u).length)∧lt.Pairwise (pU (bws u))∧R'=[(ru 5 A lt.length c (lt.map (lastB (bws u))))]):=by
 obtain rfl:=h_u.lenI
 refine fn2 Tryz.func104 Z Z Z ?_
 have m_u:=h_u.max
 have hfl:=UY u
 refine wq<|wg Z<|wn Z<|aG<|wq<|wm Z<|wy (aQ underlying22 Z)<|wy (Yl.f (dV Z Z))<|aA<|aL Z<|aK<|aG ?_
 refine aM<|dH (R1:=[⟨22,1,none,0,0,[],false⟩]) (Sub.refl _) (fun _ h=>h.nil 22 1)<|wn Z<|wq<|wn Z<|aG<|wq<|wm Z<|wa (aF bEg Z (Ct.fresh (fun w hw=>ZY ((h_u.c _) w hw) (by omega)))) ?_
 rintro _ _ ⟨_,rfl,A_1,c_2,rfl,rfl⟩
 refine wy (aQ underlying52 Z)<|wm Z<|aA<|aI ?_
 refine nU (fun(k:Int) (A1:Option Addr) (n1:Nat) (c1:Nat) (vals:List Value) (a:Int)=>[(0, .slice A_u u.length c_u),(4, .slice A1 n1 c1),(5,I a),(16, .slice A_1 ((fB (u)).length) c_2),(17,I (((fB (u)).length:Nat):Int)),(18,I k)]) (fun k A1 n1 c1 vals a=>[(ri 3 A_1 ((fB (u)).length) c_2 (fB (u))),⟨22,1,A1,n1,c1,vals,false⟩]) (fun k A1 n1 c1 vals a=>(0≤k)∧(k≤(fB u).length)∧(n1=k.toNat)∧(SlW .u8 w vals (gH u (fB u) k))∧(a=ps (fB u) k)) (fun k A1 n1 c1 vals a=>((fB u).length-k).toNat) ?_ ?_
 ·exact⟨0,none,0,0,[],0,⟨by omega,by omega,(Z),(iZ _ _),(Z)⟩,(G6 Z Z Z Z Z Z),fun _ h=>h⟩
 intro k A1 n1 c1 vals a ⟨hk0,hk1,hn1,hsl,ha⟩
 refine wq<|wL Z Z<|aA<|aG<|bM Z (fun hc1=> ?_) (fun hc1=> ?_)
 ·have hps:=lS (L:=fB u) hk0 (by omega)
  have hpl:=bCb u (k+1)
  have hnn:=MP (uJ u) k
  have hrp:=uJ u _ (bH (L:=fB u) hk0 (by omega))
  have hsl2:SlW .u8 w (vals++[.slice (iY A_u a.toNat c_u 1) ((a+rd (fB u) k).toNat-a.toNat) (c_u-a.toNat)]) (gH u (fB u) (k+1)):=by
   rw[BZ hk0,←ha,show(rd (fB u) k).toNat=(a+rd (fB u) k).toNat-a.toNat by omega]
   exact hsl.snoc (h_u.cutI (by omega) (by omega)) (fun x hx=>fH (bh_u x (List.mem_of_mem_drop (List.mem_of_mem_take hx)))) (by rw[List.length_take,List.length_drop];omega)
  refine aK<|aG<|aI<|wq<|wy (aH underlying52 sz3 Z Z (rdr 0 Z))<|wy (aX underlying3 Z Z (rdr 0 Z))<|wn Z<|wq<|wm Z<|wm Z<|wm Z<|wm Z ?_
  refine wm Z<|wA Z Z<|wy (aBv underlying22 sz5 Z Z Z (h_u.c _) (by omega) (by omega) (by omega))<|wa (nN [Value.slice (iY A_u (a).toNat c_u 1) ((a+(rd (fB (u)) k)).toNat-(a).toNat) (c_u-(a).toNat)] underlying23 xG Z Z Z Z) ?_
  rintro _ _ ⟨g_5,rfl,rfl⟩
  refine wa (rG 2 Z Z underlying23 bBk Z Z Z Z Z (rdr 0 Z) (by simp[Value.oneCell']) (by dsimp only;omega)) ?_
  rintro _ _ ⟨A_6,c_7,rfl,rfl⟩
  refine bN (v:= .slice A_6 (n1+1) c_7) Z<|wn Z<|aM<|wm Z<|wm Z<|wA Z Z<|wn Z<|aM<|wA Z Z<|wm Z<|aA ?_
  exact⟨k+1,A_6,n1+1,c_7,vals++([Value.slice (iY A_u (a).toNat c_u 1) ((a+(rd (fB (u)) k)).toNat-(a).toNat) (c_u-(a).toNat)]),a+(rd (fB (u)) k),⟨by omega,by omega,by omega,(hsl2),(by rw[hps,ha])⟩,by omega,(G6 Z Z Z Z Z Z),fun _ h=>h.sel [1,2] (by decide) Z⟩
 ·refine aZ<|wq<|wa (bS .u8 [] underlying22 zs5 Z Z Z) ?_
  rintro _ _ ⟨g_9,rfl,rfl⟩
  refine wn Z<|aG<|wq<|wm Z<|wa (aF bEf Z (Ct.fresh (fun w hw=>aKn ((rdr 2 Z) w hw) (hsl.c hw) (by rw[XJ (show k=(fB u).length by omega),nK,aVs];have:=UY u;omega)))) ?_
  rintro _ _ ⟨_,rfl,lt,A_11,c_12,rfl,hpt,hst,rfl⟩
  refine wy (aQ underlying228 Z)<|wm Z<|aA<|aI ?_
  refine jP (fun(q:Int) (B1:Option Addr) (m1:Nat) (d1:Nat) (acc:List Int)=>[(4, .slice A1 n1 c1),(8, .slice B1 m1 d1),(37, .slice A_11 lt.length c_12),(38,I ((lt.length:Nat):Int)),(39,I q)]) (fun q B1 m1 d1 acc=>[⟨230,2,A_11,lt.length,c_12,prs lt,false⟩,(ru 5 B1 m1 d1 acc),(ri 3 A_1 ((fB (u)).length) c_2 (fB (u))),⟨22,1,A1,n1,c1,vals,false⟩]) (fun q B1 m1 d1 acc=>(0≤q)∧(q≤lt.length)∧(m1=acc.length)∧(acc.length=q.toNat)∧(acc=(lt.take q.toNat).map (lastB (gH u (fB u) k)))) (fun q B1 m1 d1 acc=>(lt.length-q).toNat) ?_ ?_
  ·exact⟨0,GG g_9,0,0,[],⟨by omega,by omega,(Z),(Z),(Z)⟩,(G5 Z Z Z Z Z),fun _ h=>h⟩
  intro q B1 m1 d1 acc ⟨hq0,hq1,hm1,haq,hacc⟩
  have hll:lt.length=u.length:=by rw[XJ (show k=(fB u).length by omega)] at hpt;exact zO hpt
  refine wq<|wL Z Z<|aA<|aG<|bM Z (fun hc2=> ?_) (fun hc2=> ?_)
  ·have ht:=yU.1 (hpt.subset (lM (l:=lt) hq0 (by omega)))
   have htm:=ht.2.2
   have he0:=Int.emod_nonneg ((rdp lt q).2+(rdl (gH u (fB u) k) (rdp lt q).1).length-1) (show((rdl (gH u (fB u) k) (rdp lt q).1).length:Int)≠0 by omega)
   have he1:=Int.emod_lt_of_pos ((rdp lt q).2+(rdl (gH u (fB u) k) (rdp lt q).1).length-1) (show(0:Int)<(rdl (gH u (fB u) k) (rdp lt q).1).length by omega)
   refine aK<|aG<|aI<|wq<|wy (jB underlying228 mG Z Z (rdr 0 Z) Z)<|wy (EQ underlying230 Z mG Z (rdr 0 Z))<|wa (iI (sz:=2) aJu Z) ?_
   rintro _ _ ⟨g_15,rfl,rfl⟩
   refine bY (fQ (vs:=[I ((rdp lt q).1),I ((rdp lt q).2)]) 0 Z mG Z Z Z (by intro v hv;simp at hv;rcases hv with rfl|rfl<;>rfl) Z) ?_
   rintro _ _ rfl
   refine aA<|wq<|wm Z<|wy (dB (q:=0) (rdr 0 Z) underlying230 sz3 Z Z (Nat.le_of_ble_eq_true Z) (by decide) (by decide) Z)<|wy (aJ (rdr 0 Z) underlying3 Z Z Z)<|wy (aH underlying23 dO Z Z (rdr 4 Z) (by first|exact ht.1|(have:=ht.2.1;rw[rQ] at this;omega)) (by first|exact ht.1|(have:=ht.2.1;rw[rQ] at this;omega))) ?_
   refine hsl.elim (i:=(rdp lt q).1) (by first|exact ht.1|exact ht.2.1) (by first|exact ht.1|exact ht.2.1) (fun A_16 c_17 hv_18 hr_19 hb_20 mhr_19=> ?_)
   refine wy (DC underlying22 Z Z Z (rdr 4 Z) hv_18)<|wn Z<|aM<|wm Z<|wm Z<|wy (dB (q:=1) (rdr 0 Z) underlying230 sz3 Z Z (Nat.le_of_ble_eq_true Z) (by decide) (by decide) Z)<|wy (aJ (rdr 0 Z) underlying3 Z Z Z)<|wm Z<|wy (aQ underlying22 Z)<|wA Z Z<|wS Z Z<|wm Z<|wy (aQ underlying22 Z)<|wy (BU Z Z) ?_
   refine wy (aH underlying22 sz5 Z Z (hr_19.c _))<|wy (aX underlying5 Z Z (hr_19.c _))<|wa (bS .u8 [rd (rdl (gH u (fB u) k) ((rdp lt q).1)) (((((rdp lt q).2)+(((rdl (gH u (fB u) k) ((rdp lt q).1)).length:Nat):Int))-1)%(((rdl (gH u (fB u) k) ((rdp lt q).1)).length:Nat):Int))] underlying22 zs5 Z Z Z) ?_
   rintro _ _ ⟨g_22,rfl,rfl⟩
   refine wa (bE 3 Z underlying22 zb5 Z Z Z (rdr 0 Z)) ?_
   rintro _ _ ⟨A_23,c_24,rfl,rfl⟩
   refine bN (v:= .slice A_23 (m1+1) c_24) Z<|wn Z<|aM<|wA Z Z<|wm Z<|aA ?_
   exact⟨q+1,A_23,m1+1,c_24,acc++([rd (rdl (gH u (fB u) k) ((rdp lt q).1)) (((((rdp lt q).2)+(((rdl (gH u (fB u) k) ((rdp lt q).1)).length:Nat):Int))-1)%(((rdl (gH u (fB u) k) ((rdp lt q).1)).length:Nat):Int))]),⟨by omega,by omega,(by rw[List.length_append,hm1];rfl),(by rw[List.length_append,haq,List.length_singleton];omega),(by rw[aKv hq0 (by omega),List.map_append,hacc];rfl)⟩,by omega,(G5 Z Z Z Z Z),fun _ h=>h.sel [2,3,4,5] (by decide) Z⟩
  ·refine aZ<|wq<|wm Z<|wg Z<|wn Z<|aT [1] 99 (by decide) Z ?_
   refine⟨_,_,Z,Z,?_⟩
   have e:k=(fB u).length:=by omega
   rw[XJ e] at hpt hst hacc
   rw[List.take_of_length_le (by omega)] at hacc
   subst hacc
   obtain rfl:m1=lt.length:=by rw[hm1,List.length_map]
   exact⟨lt,_,_,Z,hpt,hst,Z⟩
end Go.Proofs.YtdbebmmhdefgdaaGreat
namespace Go.Pure
open Go Go.Eng
section
variable {p:List Int}
theorem sV {j:Int} (j0:0≤j): ∀(f:Nat) (E:List Bool) (k:Int),(hp:p.Perm (iota p.length))→E.length=p.length→0≤k→k<p.length→rdb E j=true→rdb (fK p f E k).2 j=true
 |0,E,k,_,_,_,_,h=>h
 | f+1,E,k,hp,hl,k0,hk,h=>by
  rw[fK]
  split
  ·exact h
  ·have hn:=aW.1 (hp.subset (bH (L:=p) k0 hk))
   refine sV j0 f _ _ hp (by rw[kG];exact hl) hn.1 hn.2 ?_
   rw[vE k0 (by omega) j0]
   split
   ·rfl
   ·exact h
theorem QW (hp:p.Perm (iota p.length)) {f:Nat} {E:List Bool} {k:Int} (hl:E.length=p.length) (k0:0≤k) (hk:k<p.length) (hf:cntF E≤f):rdb (fK p f E k).2 k=true:=by
 by_cases h:rdb E k=true
 ·rw[rR h];exact h
 ·rw [EU k0 (by omega) hf h]
  have hn:=aW.1 (hp.subset (bH (L:=p) k0 hk))
  exact sV k0 _ _ _ hp (by rw[kG];exact hl) hn.1 hn.2 (by rw[vE k0 (by omega) k0,if_pos rfl])
theorem BN (hp:p.Perm (iota p.length)): ∀i:Nat,i≤p.length→ ∀j:Nat,j<i→rdb (iD p i).1 j=true
 |0,_,j,hj=>by omega
 | i+1,hi,j,hj=>by
  have hf:=kU hp i (by omega)
  have hc:cntF (iD p i).1≤p.length:=by have:=hf.2.2;omega
  rw[iD]
  rcases Nat.lt_or_ge j i with g|g
  ·exact sV (by omega) _ _ _ hp hf.1 (by omega) (by omega) (BN hp i (by omega) j g)
  ·obtain rfl:j=i:=by omega
   exact QW hp hf.1 (by omega) (by omega) hc
theorem aIw {E:List Bool} (h: ∀j:Nat,j<E.length→rdb E j=true):cntF E=0:=by
 unfold cntF
 rw[List.countP_eq_zero]
 intro b hb
 obtain⟨j,hj,rfl⟩:=List.mem_iff_getElem.1 hb
 have:=h j hj
 have e:rdb E (j:Int)=E[j]:=by unfold rdb;rw[Int.toNat_natCast,List.getD_eq_getElem?_getD,List.getElem?_eq_getElem hj];rfl
 rw[e] at this
 rw[this];simp
theorem VS (hp:p.Perm (iota p.length)):(dW p).flatten.length=p.length:=by
 have hf:=kU hp p.length (Nat.le_refl _)
 have:=aIw (E:=(iD p p.length).1) fun j hj=>BN hp p.length (Nat.le_refl _) j (by rw[hf.1] at hj;exact hj)
 unfold dW
 omega
theorem aJo (l:List Int) (cs:List (List Int)):(backL l cs).length=cs.flatten.length:=by
 unfold backL
 rw[List.length_flatten,List.map_map,List.length_flatten,List.map_reverse,List.sum_reverse]
 congr 2
 funext c
 exact mI l c
theorem aGx {l:List Int} {cs:List (List Int)} {x:Int} (h:x∈backL l cs): ∃y,y∈cs.flatten∧x=rd l y:=by
 unfold backL at h
 obtain⟨w,hw,hx⟩:=List.mem_flatten.1 h
 obtain⟨c,hc,rfl⟩:=List.mem_map.1 hw
 unfold jV at hx
 obtain⟨y,hy,rfl⟩:=List.mem_map.1 hx
 exact⟨y,List.mem_flatten.2 ⟨c,List.mem_reverse.1 hc,List.mem_reverse.1 hy⟩,rfl⟩
theorem aJp {l:List Int} (hl:aO l) (cs:List (List Int)):aO (backL l cs):=fun x hx=>by
 obtain⟨y,_,rfl⟩:=aGx hx
 exact hl.rd _
theorem aVk {cs:List (List Int)} {k:Int} (k0:0≤k) (hk:k<cs.length):rdl cs k∈cs:=by
 unfold rdl
 rw[List.getD_eq_getElem?_getD,List.getElem?_eq_getElem (by omega)]
 exact List.getElem_mem _
theorem aBi {l acc acc2:List Int} {cs:List (List Int)} {m kr:Nat} (hm:m=cs.length) (hkr:kr<m) (hacc:acc=(((cs.reverse).take kr).map (jV l)).flatten) (h2:acc2=acc++(((rdl cs ((m-1-kr:Nat):Int)).reverse).take (rdl cs ((m-1-kr:Nat):Int)).length).map (rd l)):acc2=(((cs.reverse).take (kr+1)).map (jV l)).flatten:=by
 rw[aBj (by omega),h2,hacc,List.take_of_length_le (l:=(rdl cs ((m-1-kr:Nat):Int)).reverse) (by rw[List.length_reverse];exact Nat.le_refl _),show((m-1-kr:Nat):Int)=(cs.length:Int)-1-kr by omega]
 rfl
theorem XH {l acc acc2 c:List Int} {kq:Nat} (hk:kq<c.length) (h:acc2=acc++((c.reverse).take kq).map (rd l)):acc2++[rd l (rd c ((c.length-1-kq:Nat):Int))]=acc++((c.reverse).take (kq+1)).map (rd l):=by
 rw[XI hk,←List.append_assoc,←h,show((c.length-1-kq:Nat):Int)=(c.length:Int)-1-kq by omega]
theorem aIq {p:List Int}:(dW p).length≤p.length:=JC p p.length
end
end Go.Pure
namespace Go.Proofs.YtdbebmmhdefgdaaGreat
open Go Go.Eng Go.Pure
open Tryz
set_option maxRecDepth 100000
variable {B n_s c_s:Nat} {w0:World} {R:List Row} {A_s:Option Addr}
theorem WW:
  Ct Tryz.prog 185 #[.slice A_s n_s c_s] B w0 R (fun v R'=> ∃g,v= .func (.func 240) #[] #[.pointer (GG g)]∧R'=(rc 232 1 g [.slice A_s n_s c_s])::R):=by
 refine fn1 Tryz.func185 Z Z Z ?_
 refine wq<|wa (bX (sz:=1) Z Z) ?_
 rintro _ _ ⟨g,rfl,rfl⟩
 refine wn Z<|wq<|wy (kQ Z Z)<|wn Z<|dJ ?_
 exact⟨_,Z,g,Z,Z⟩
theorem WX:
  Ct Tryz.prog 186 #[.slice A_s n_s c_s] B w0 R (fun v R'=> ∃g,v= .func (.func 241) #[] #[.pointer (GG g)]∧R'=(rc 52 1 g [.slice A_s n_s c_s])::R):=by
 refine fn1 Tryz.func186 Z Z Z ?_
 refine wq<|wa (bX (sz:=1) Z Z) ?_
 rintro _ _ ⟨g,rfl,rfl⟩
 refine wn Z<|wq<|wy (kQ Z Z)<|wn Z<|dJ ?_
 exact⟨_,Z,g,Z,Z⟩
set_option maxHeartbeats 2000000 in
theorem JQ {w:World} {A_u:Option Addr} {n_u c_u:Nat} {u:List Int} (h_u:Rd w A_u n_u c_u 1 (ints .u8 u)) (bh_u:aO u) (hN:u.length≤100000):
  Ct Tryz.prog 110 #[.slice A_u n_u c_u] w.heap.size w [] (fun v R'=> ∃A c,v= .tuple #[.slice A (backL u (dW (fsL u))).length c,I 0]∧R'=[(ru 5 A ((backL u (dW (fsL u))).length) c (backL u (dW (fsL u))))]):=by
 obtain rfl:=h_u.lenI
 refine fnV Tryz.func110 Z Z ?_
 have m_u:=h_u.max
 have hfp:=aOv bh_u
 have hfl:=vN u
 have hcl:=aQj hfp
 have hcf:=aIq (p:=fsL u)
 refine fP ?_
 refine aM<|wa (bX (sz:=1) Z Z) ?_
 rintro _ _ ⟨g_1,rfl,rfl⟩
 refine wg Z<|wn Z ?_
 refine fP ?_
 refine wq<|wy (aJ (rdr 0 Z) underlying22 Z Z Z)<|wy (aQ underlying22 Z)<|wy (Yl.f (dV Z Z))<|aA<|aL Z<|aK ?_
 refine fP ?_
 refine aM<|wy (aJ (rdr 0 Z) underlying22 Z Z Z)<|wa (aF bEb Z (Ct.fresh (fun w hw=>aUp ((h_u.c _) w hw) bh_u (by omega)))) ?_
 rintro _ _ ⟨_,rfl,A_3,c_4,rfl,rfl⟩
 refine wa (aF bEc Z (Ct.fresh (fun w hw=>aIp ((rdr 0 Z) w hw) hfp (by omega)))) ?_
 rintro _ _ ⟨_,rfl,A_6,c_7,vals_8,Rs_9,rfl,hsl_10,rfl⟩
 have hn_hsl_10:=hsl_10.1
 refine dH (R1:=(⟨52,1,A_6,vals_8.length,c_7,vals_8,false⟩::(ri 3 A_3 ((fsL u).length) c_4 (fsL u))::(rc 22 1 g_1 [.slice A_u u.length c_u])::Rs_9)) (Sub.refl _) (fun _ h=>Hp.toTail0 (X:=[_]) (Y:=[_,_]) h)<|wm Z<|wX Z Z<|wX Z Z<|wg Z<|wn Z ?_
 refine fP ?_
 refine aM<|wa (bS .u8 [] underlying22 zs5 Z Z Z) ?_
 rintro _ _ ⟨g_13,rfl,rfl⟩
 refine wa (iI (sz:=1) bBf Z) ?_
 rintro _ _ ⟨g_14,rfl,rfl⟩
 refine bY (aY 0 Z Z Z dO Z Z Z Z (Nat.le_of_ble_eq_true Z)) ?_
 rintro _ _ rfl
 refine aA ?_
 refine aCb ?_
 refine fP ?_
 refine aM<|wm Z<|wa (aF bEa Z (WW)) ?_
 rintro _ _ ⟨g_15,rfl,rfl⟩
 refine aA ?_
 refine DY ?_
 refine aFg Z bDn (aRh (A:=A_6) (c:=c_7) (xs:=vals_8) (by have:=hsl_10.1;omega)) Z (fun _=>Z) Gd.refl (fun(kr:Nat) (A1:Option Addr) (n1:Nat) (c1:Nat) (acc:List Int)=>((rc 232 1 g_15 [.slice A_6 vals_8.length c_7])::(rc 22 1 g_14 [.slice A1 n1 c1])::(ru 5 A1 n1 c1 acc)::⟨52,1,A_6,vals_8.length,c_7,vals_8,false⟩::(ri 3 A_3 ((fsL u).length) c_4 (fsL u))::(rc 22 1 g_1 [.slice A_u u.length c_u])::Rs_9)) (fun kr A1 n1 c1 acc=>(n1=acc.length)∧(acc=(((dW (fsL u)).reverse.take kr).map (jV u)).flatten)) ?_ ?_ ?_ ?_
 ·exact⟨GG g_13,0,0,[],⟨(Z),(Z)⟩,fun _ h=>h⟩
 ·intro kr A1 n1 c1 acc w ⟨hn1,hacc⟩ hw
  exact⟨(rdr 0 Z) w hw,(rdr 3 Z) w hw⟩
 ·intro lr kr A1 n1 c1 acc WW1 hkr ⟨hn1,hacc⟩ hbW1
  have hal:acc.length≤u.length:=by rw[hacc];exact Nat.le_trans UR (by omega)
  obtain⟨A_17,c_18,hv_19,hr_20⟩:=hsl_10.at (i:=((vals_8.length-1-kr:Nat):Int)) (by omega) (by have:=hsl_10.1;omega)
  have he_21:vals_8[vals_8.length-1-kr]?.getD undef= .slice A_17 (rdl (dW (fsL u)) ((vals_8.length-1-kr:Nat):Int)).length c_18:=by
   rw[Int.toNat_natCast] at hv_19
   rw[hv_19];rfl
  refine bFi (d:=24) (v:= .slice A_17 (rdl (dW (fsL u)) ((vals_8.length-1-kr:Nat):Int)).length c_18) (congrArg some he_21) ?_
  have hcm:rdl (dW (fsL u)) ((vals_8.length-1-kr:Nat):Int)∈dW (fsL u):=aVk (by omega) (by have:=hsl_10.1;omega)
  have hcl2:(rdl (dW (fsL u)) ((vals_8.length-1-kr:Nat):Int)).length≤u.length:=by have:=List.Sublist.length_le (List.sublist_flatten_of_mem hcm);omega
  refine aM<|wn Z ?_
  intro WW13 hbW13 hlW13
  refine aI<|wq<|wm Z<|wa (aF aXq Z (WX)) ?_
  rintro _ _ ⟨g_22,rfl,rfl⟩
  refine aA<|aI ?_
  refine aKf Z aXk (JR (A:=A_17) (c:=c_18) (zs:=rdl (dW (fsL u)) ((vals_8.length-1-kr:Nat):Int)) (by omega)) Z (fun _=>Z) ⟨_,hlW13.choose_spec⟩ (fun(kq:Nat) (A2:Option Addr) (n2:Nat) (c2:Nat) (acc2:List Int)=>((rc 52 1 g_22 [.slice A_17 ((rdl (dW (fsL u)) ((vals_8.length-1-kr:Nat):Int)).length) c_18])::(rc 232 1 g_15 [.slice A_6 vals_8.length c_7])::(rc 22 1 g_14 [.slice A2 n2 c2])::(ru 5 A2 n2 c2 acc2)::⟨52,1,A_6,vals_8.length,c_7,vals_8,false⟩::(ri 3 A_3 ((fsL u).length) c_4 (fsL u))::(rc 22 1 g_1 [.slice A_u u.length c_u])::Rs_9)) (fun kq A2 n2 c2 acc2=>(n2=acc2.length)∧(acc2=acc++((rdl (dW (fsL u)) ((vals_8.length-1-kr:Nat):Int)).reverse.take kq).map (rd u))) ?_ ?_ ?_ ?_
  ·exact⟨A1,n1,c1,acc,⟨(hn1),(by rw[List.take_zero];simp)⟩,fun _ h=>h⟩
  ·intro kq A2 n2 c2 acc2 w ⟨hn2,hacc2⟩ hw
   exact⟨(rdr 0 Z) w hw,(fun _ h=>hr_20 _ _ _ (h.right (R':=[_,_,_,_,_,_,_]))) w hw⟩
  ·intro lr kq A2 n2 c2 acc2 WW2 hkq ⟨hn2,hacc2⟩ hbW2
   have hel:=aEj hfp _ hcm _ (bH (L:=rdl (dW (fsL u)) ((vals_8.length-1-kr:Nat):Int)) (k:=(((rdl (dW (fsL u)) ((vals_8.length-1-kr:Nat):Int)).length-1-kq:Nat):Int)) (by omega) (by omega))
   have hal2:acc2.length≤acc.length+(rdl (dW (fsL u)) ((vals_8.length-1-kr:Nat):Int)).length:=by rw[hacc2,List.length_append,List.length_map,List.length_take,List.length_reverse];omega
   refine aM<|wn Z ?_
   intro WW23 hbW23 hlW23
   refine aI<|bT mixed<|wD 0 Z (aJ (rdr 2 Z) underlying22 Z Z Z)<|wD 1 Z (aJ (rdr 6 Z) underlying22 Z Z Z)<|wD 2 Z (aN Z)<|wD 3 Z (aH underlying22 sz5 Z Z (h_u.cb (hbW13.trans hbW23) _))<|wD 4 Z (aX underlying5 Z Z (h_u.cb (hbW13.trans hbW23) _))<|wC 5 Z (bS .u8 [rd u (rd (rdl (dW (fsL u)) ((vals_8.length-1-kr:Nat):Int)) (((rdl (dW (fsL u)) ((vals_8.length-1-kr:Nat):Int)).length-1-kq:Nat):Int))] underlying22 zs5 Z Z Z) ?_
   rintro _ _ ⟨g_25,rfl,rfl⟩
   refine⟨.inr fun _ h=>h.right (R':=[_]),?_⟩
   refine wC 6 Z (bE 4 Z underlying22 zb5 Z Z Z (rdr 0 Z)) ?_
   rintro _ _ ⟨A_26,c_27,rfl,rfl⟩
   refine⟨.inl (by kernel_rfl),?_⟩
   refine CE (v:= .slice A_26 (n2+1) c_27) Z<|pR 7 Z (by kernel_rfl) (aY 3 Z Z Z dO Z Z Z Z (Nat.le_of_ble_eq_true Z)) ?_
   rintro _ _ rfl
   refine⟨.inl (by kernel_rfl),?_⟩
   refine wN ?_
   exact⟨A_26,n2+1,c_27,acc2++([rd u (rd (rdl (dW (fsL u)) ((vals_8.length-1-kr:Nat):Int)) (((rdl (dW (fsL u)) ((vals_8.length-1-kr:Nat):Int)).length-1-kq:Nat):Int))]),⟨(by rw[List.length_append,hn2];rfl),(XH hkq hacc2)⟩,fun _=>fun _ h=>h.selR (F:=[_,_,_,_,_,_,_,_]) (F':=[_,_,_,_,_,_,_]) [1,2,3,4,5,6,7] (by decide) Z⟩
  intro A2 n2 c2 acc2 ⟨hn2,hacc2⟩
  exact⟨A2,n2,c2,acc2,⟨(hn2),(aBi hsl_10.1 hkr hacc hacc2)⟩,fun _=>fun _ h=>h.selR (F:=[_,_,_,_,_,_,_]) (F':=[_,_,_,_,_,_]) [1,2,3,4,5,6] (by decide) Z⟩
 intro WW15 DW1 A1 n1 c1 acc ⟨hn1,hacc⟩ hbW15 hGW15
 have hvl:=hsl_10.1
 refine aCd ?_
 refine aSb ?_
 refine v_w ?_
 refine wq<|wy (aJ (rdr 1 Z) underlying22 Z Z Z)<|wg Z<|wn Z<|bR (R1:=[(ru 5 A1 n1 c1 acc)]) (fun _ h=>(h.selR (F:=[_,_,_,_,_,_]) (F':=[_]) [2] (by decide) Z).left (X:=[_])) ?_
 refine aOz Z hGW15 ⟨_,_,Z,Z,?_⟩
 rw[List.take_of_length_le (by rw[List.length_reverse];omega)] at hacc
 obtain rfl:acc=backL u (dW (fsL u)):=hacc
 obtain rfl:=hn1
 exact⟨_,_,Z,Z⟩
variable {w:World} {A_u:Option Addr} {n_u c_u:Nat} {u S:List Int} {m k r:Int}
set_option maxHeartbeats 800000 in
theorem aRc {A_a:Option Addr} {n_a c_a:Nat} {a:List Int} (h_u:Rd w A_u n_u c_u 1 (ints .u8 u)) (h_a:Rd w A_a n_a c_a 1 (ints .i64 a)) (hp:a.Perm (iota u.length)) (hN:u.length≤1000000):
  Ct Tryz.prog 124 #[.slice A_u n_u c_u, .slice A_a n_a c_a] w.heap.size w [] (fun v R'=> ∃A c,v= .tuple #[.slice A (ofL u a).length c,I (zat a), .bool true]∧R'=[(ru 5 A ((ofL u a).length) c (ofL u a))]):=by
 obtain rfl:=h_u.lenI
 obtain rfl:=h_a.lenI
 refine fn3 Tryz.func124 Z Z Z ?_
 have m_u:=h_u.max
 have m_a:=h_a.max
 have hal0:a.length=u.length:=by rw[hp.length_eq,bF]
 have hnd:a.Nodup:=hp.symm.nodup (eX _)
 have hpa:a.Perm (iota a.length):=by rw[hal0];exact hp
 refine wq<|wg Z<|wg Z<|wn Z<|aG<|wq<|wm Z<|wy (aQ underlying52 Z)<|wm Z<|wy (aQ underlying22 Z)<|wy (Yl.f (jA Z Z))<|wm Z ?_
 refine aC Z Z<|wm Z<|aC Z Z<|wa (aF aXo Z (Ct.quiet (fun w hw=>aLu ((h_a.c _) w hw) hpa (by omega)))) ?_
 rintro _ _ ⟨rfl,rfl⟩
 refine aC Z Z<|wy (dI Z)<|wy (aS Z Z)<|aA<|aL Z<|aK<|wq<|wa (bS .u8 [] underlying22 zs5 Z Z Z) ?_
 rintro _ _ ⟨g_2,rfl,rfl⟩
 refine wn Z<|aG<|wq<|wm Z<|wy (aQ underlying22 Z)<|wy (dV Z Z)<|aA<|bM Z (fun hc1=> ?_) (fun hc1=> ?_)
 ·refine aM<|wm Z<|wm Z<|wm Z<|wy (aQ underlying22 Z)<|wS Z Z<|wy (aH underlying22 sz5 Z Z (h_u.c _))<|wy (aX underlying5 Z Z (h_u.c _))<|wa (bS .u8 [rd u (((u.length:Nat):Int)-1)] underlying22 zs5 Z Z Z) ?_
  rintro _ _ ⟨g_5,rfl,rfl⟩
  refine wa (bE 1 Z underlying22 zb5 Z Z Z (rdr 0 Z)) ?_
  rintro _ _ ⟨A_6,c_7,rfl,rfl⟩
  refine bN (v:= .slice A_6 (0+1) c_7) Z<|wn Z<|aG<|wq<|wm Z<|wy (aQ underlying52 Z)<|wm Z<|aA<|aI ?_
  refine nU (fun(i:Int) (A1:Option Addr) (n1:Nat) (c1:Nat) (acc:List Int) (m:Int)=>[(0, .slice A_u u.length c_u),(4, .slice A1 n1 c1),(5,I m),(32, .slice A_a a.length c_a),(33,I ((a.length:Nat):Int)),(34,I i)]) (fun i A1 n1 c1 acc m=>[(ru 5 (GG g_5) 1 1 ([rd u (((u.length:Nat):Int)-1)])),(ru 5 A1 n1 c1 acc)]) (fun i A1 n1 c1 acc m=>(0≤i)∧(i≤a.length)∧(n1=acc.length)∧(acc=(if 0<u.length then [rd u (u.length-1)] else [])++ofT u (a.take i.toNat))∧(m=zat (a.take i.toNat))) (fun i A1 n1 c1 acc m=>(a.length-i).toNat) ?_ ?_
  ·exact⟨0,A_6,0+1,c_7,([])++([rd u (((u.length:Nat):Int)-1)]),0,⟨by omega,by omega,(by first|rfl|simp),(by first|(rw[if_pos (by omega)];rfl)|(rw[if_neg (by omega)];rfl)),(Z)⟩,(G6 Z Z Z Z Z Z),fun _ h=>h⟩
  intro i A1 n1 c1 acc m ⟨hi0,hi1,hn1,hacc,hm⟩
  have hal:acc.length≤i.toNat+1:=by
   have h1:=aDm u (a.take i.toNat)
   rw[List.length_take] at h1
   rw[hacc,List.length_append]
   split<;>simp only[List.length_cons,List.length_nil]<;>omega
  have hai:i<a.length→0≤rd a i∧rd a i<u.length:=fun h=>aW.1 (hp.subset (bH hi0 h))
  refine wq<|wL Z Z<|aA<|aG<|bM Z (fun hc2=> ?_) (fun hc2=> ?_)
  ·have hai2:=hai (by omega)
   refine aK<|aG<|aI<|wq<|wm Z<|wy (aH underlying52 sz3 Z Z (h_a.c _))<|wy (aX underlying3 Z Z (h_a.c _))<|wg Z<|wn Z<|aG<|wq<|wm Z ?_
   refine wy (bC Z Z)<|aA<|bM Z (fun hc3=> ?_) (fun hc3=> ?_)
   ·refine wq<|wm Z<|wA Z Z<|wn Z<|aZ<|aM<|wA Z Z<|wm Z<|aA ?_
    exact⟨i+1,A1,n1,c1,acc,i+1,⟨by omega,by omega,(hn1),(aDl hi0 (by omega) hacc (by assumption)),(aBu hnd hi0 (by omega) (by assumption))⟩,by omega,(G6 Z Z Z Z Z Z),fun _ h=>h⟩
   ·refine aK<|aM<|wm Z<|wm Z<|wm Z<|wS Z Z<|wy (aH underlying22 sz5 Z Z (h_u.c _))<|wy (aX underlying5 Z Z (h_u.c _))<|wa (bS .u8 [rd u ((rd a i)-1)] underlying22 zs5 Z Z Z) ?_
    rintro _ _ ⟨g_9,rfl,rfl⟩
    refine wa (bE 2 Z underlying22 zb5 Z Z Z (rdr 0 Z)) ?_
    rintro _ _ ⟨A_10,c_11,rfl,rfl⟩
    refine bN (v:= .slice A_10 (n1+1) c_11) Z<|wn Z<|aM<|wA Z Z<|wm Z<|aA ?_
    exact⟨i+1,A_10,n1+1,c_11,acc++([rd u ((rd a i)-1)]),m,⟨by omega,by omega,(by rw[List.length_append,hn1];rfl),(aNh hi0 (by omega) hacc (by assumption)),(aJv hnd hi0 (by omega) hm (by assumption))⟩,by omega,(G6 Z Z Z Z Z Z),fun _ h=>h.sel [1,2] (by decide) Z⟩
  ·refine aZ<|wq<|wm Z<|wm Z<|wg Z<|wg Z<|wn Z<|aT [1] 99 (by decide) Z ?_
   refine⟨_,_,_,Z,Z,Z,?_⟩
   have hte:a.take i.toNat=a:=List.take_of_length_le (by omega)
   rw[hte] at hacc hm
   obtain rfl:acc=ofL u a:=hacc
   obtain rfl:=hn1
   subst hm
   exact⟨_,_,Z,Z⟩
 ·refine aK<|aG<|wq<|wm Z<|wy (aQ underlying52 Z)<|wm Z<|aA<|aI ?_
  refine nU (fun(i:Int) (A1:Option Addr) (n1:Nat) (c1:Nat) (acc:List Int) (m:Int)=>[(0, .slice A_u u.length c_u),(4, .slice A1 n1 c1),(5,I m),(32, .slice A_a a.length c_a),(33,I ((a.length:Nat):Int)),(34,I i)]) (fun i A1 n1 c1 acc m=>[(ru 5 A1 n1 c1 acc)]) (fun i A1 n1 c1 acc m=>(0≤i)∧(i≤a.length)∧(n1=acc.length)∧(acc=(if 0<u.length then [rd u (u.length-1)] else [])++ofT u (a.take i.toNat))∧(m=zat (a.take i.toNat))) (fun i A1 n1 c1 acc m=>(a.length-i).toNat) ?_ ?_
  ·exact⟨0,GG g_2,0,0,[],0,⟨by omega,by omega,(by first|rfl|simp),(by first|(rw[if_pos (by omega)];rfl)|(rw[if_neg (by omega)];rfl)),(Z)⟩,(G6 Z Z Z Z Z Z),fun _ h=>h⟩
  intro i A1 n1 c1 acc m ⟨hi0,hi1,hn1,hacc,hm⟩
  have hal:acc.length≤i.toNat+1:=by
   have h1:=aDm u (a.take i.toNat)
   rw[List.length_take] at h1
   rw[hacc,List.length_append]
   split<;>simp only[List.length_cons,List.length_nil]<;>omega
  have hai:i<a.length→0≤rd a i∧rd a i<u.length:=fun h=>aW.1 (hp.subset (bH hi0 h))
  refine wq<|wL Z Z<|aA<|aG<|bM Z (fun hc4=> ?_) (fun hc4=> ?_)
  ·have hai2:=hai (by omega)
   refine aK<|aG<|aI<|wq<|wm Z<|wy (aH underlying52 sz3 Z Z (h_a.c _))<|wy (aX underlying3 Z Z (h_a.c _))<|wg Z<|wn Z<|aG<|wq<|wm Z ?_
   refine wy (bC Z Z)<|aA<|bM Z (fun hc5=> ?_) (fun hc5=> ?_)
   ·refine wq<|wm Z<|wA Z Z<|wn Z<|aZ<|aM<|wA Z Z<|wm Z<|aA ?_
    exact⟨i+1,A1,n1,c1,acc,i+1,⟨by omega,by omega,(hn1),(aDl hi0 (by omega) hacc (by assumption)),(aBu hnd hi0 (by omega) (by assumption))⟩,by omega,(G6 Z Z Z Z Z Z),fun _ h=>h⟩
   ·refine aK<|aM<|wm Z<|wm Z<|wm Z<|wS Z Z<|wy (aH underlying22 sz5 Z Z (h_u.c _))<|wy (aX underlying5 Z Z (h_u.c _))<|wa (bS .u8 [rd u ((rd a i)-1)] underlying22 zs5 Z Z Z) ?_
    rintro _ _ ⟨g_13,rfl,rfl⟩
    refine wa (bE 1 Z underlying22 zb5 Z Z Z (rdr 0 Z)) ?_
    rintro _ _ ⟨A_14,c_15,rfl,rfl⟩
    refine bN (v:= .slice A_14 (n1+1) c_15) Z<|wn Z<|aM<|wA Z Z<|wm Z<|aA ?_
    exact⟨i+1,A_14,n1+1,c_15,acc++([rd u ((rd a i)-1)]),m,⟨by omega,by omega,(by rw[List.length_append,hn1];rfl),(aNh hi0 (by omega) hacc (by assumption)),(aJv hnd hi0 (by omega) hm (by assumption))⟩,by omega,(G6 Z Z Z Z Z Z),fun _ h=>h.sel [1] (by decide) Z⟩
  ·refine aZ<|wq<|wm Z<|wm Z<|wg Z<|wg Z<|wn Z<|aT [0] 99 (by decide) Z ?_
   refine⟨_,_,_,Z,Z,Z,?_⟩
   have hte:a.take i.toNat=a:=List.take_of_length_le (by omega)
   rw[hte] at hacc hm
   obtain rfl:acc=ofL u a:=hacc
   obtain rfl:=hn1
   subst hm
   exact⟨_,_,Z,Z⟩
theorem aQz (h_u:Rd w A_u n_u c_u 1 (ints .u8 u)) (bh_u:aO u) (hN:u.length≤100000):
  Ct Tryz.prog 103 #[.slice A_u n_u c_u] w.heap.size w [] (fun v R'=> ∃(b:List Int) (A:Option Addr) (c:Nat),v= .tuple #[.slice A (ofL u b).length c,I (zat b),I 0]∧b.Perm (iota u.length)∧b.Pairwise (bU u)∧R'=[(ru 5 A ((ofL u b).length) c (ofL u b))]):=by
 obtain rfl:=h_u.lenI
 refine fn3 Tryz.func103 Z Z Z ?_
 have m_u:=h_u.max
 refine wq<|wg Z<|wg Z<|wn Z<|wq<|wm Z<|wa (aF aXr Z (Ct.fresh (fun w hw=>ME ((h_u.c _) w hw) bh_u hN))) ?_
 rintro _ _ ⟨_,rfl,a1,A_1,c_2,rfl,hp_a1,hs_a1,rfl⟩
 refine wm Z<|wX Z Z<|wX Z Z<|wg Z<|wn Z<|aG<|wq<|wm Z<|wy (Yl.f (jA Z Z))<|aA<|aL Z<|aK<|aG ?_
 refine aM<|wm Z<|wm Z<|wa (aF aXu Z (Ct.fresh (fun w hw=>aRc ((h_u.c _) w hw) ((rdr 0 Z) w hw) hp_a1 (by omega)))) ?_
 rintro _ _ ⟨_,rfl,A_4,c_5,rfl,rfl⟩
 refine wm Z<|wX Z Z<|wX Z Z<|wX Z Z<|wg Z<|wn Z<|wq<|wm Z<|wm Z<|wg Z<|wg Z<|wn Z ?_
 refine aT [0] 99 (by decide) Z ?_
 refine⟨_,_,_,Z,Z,Z,?_⟩
 exact⟨a1,_,_,Z,hp_a1,hs_a1,Z⟩
set_option maxHeartbeats 800000 in
theorem aHx (h_u:Rd w A_u n_u c_u 1 (ints .u8 u)) (bh_u:aO u) (hN:u.length≤1000000):
  Ct Tryz.prog 182 #[.slice A_u n_u c_u] w.heap.size w [] (fun v R'=> ∃A c,v= .slice A (fsL u).length c∧R'=[(ri 3 A ((fsL u).length) c (fsL u))]):=by
 obtain rfl:=h_u.lenI
 refine fn1 Tryz.func182 Z Z Z ?_
 have m_u:=h_u.max
 refine wq<|wn Z<|wq<|wm Z<|wy (aQ underlying22 Z)<|wa (dE underlying52 zb3 Z Z) ?_
 rintro _ _ ⟨g_1,rfl,rfl⟩
 refine bN (v:= .slice (GG g_1) u.length u.length) Z<|wn Z<|wq<|wm Z<|wy (aQ underlying22 Z)<|wa (dE underlying52 zb3 Z Z) ?_
 rintro _ _ ⟨g_2,rfl,rfl⟩
 refine bN (v:= .slice (GG g_2) u.length u.length) Z<|wn Z<|aG<|wq<|wm Z<|wy (aQ underlying22 Z)<|wm Z<|aA<|aI ?_
 refine fU (fun(i:Int) (V:List Int) (K:List Int)=>[(3, .slice (GG g_1) u.length u.length),(4, .slice (GG g_2) u.length u.length),(15, .slice A_u u.length c_u),(16,I ((u.length:Nat):Int)),(17,I i)]) (fun i V K=>[(ri 3 (GG g_2) u.length u.length K),(ri 3 (GG g_1) u.length u.length V)]) (fun i V K=>(0≤i)∧(i≤u.length)∧(V.length=u.length)∧(K.length=u.length)∧(∀j:Int,0≤j→j<i→rd V j=j)∧(∀j:Int,0≤j→j<i→rd K j=rd u j)) (fun i V K=>(u.length-i).toNat) ?_ ?_
 ·exact⟨0,List.replicate u.length (0:Int),List.replicate u.length (0:Int),⟨by omega,by omega,(by rw[List.length_replicate]),(by rw[List.length_replicate]),(fun j h1 h2=>by omega),(fun j h1 h2=>by omega)⟩,(G5 rfl rfl rfl rfl rfl),fun _ h=>h⟩
 intro i V K ⟨hi0,hi1,hVl,hKl,hV,hK⟩
 refine wq<|wL Z Z<|aA<|aG<|bM Z (fun hc1=> ?_) (fun hc1=> ?_)
 ·have hbi:=bh_u.rd i
  refine aK<|aG<|aI<|wq<|wm Z<|wy (aH underlying22 sz5 Z Z (h_u.c _))<|wy (aX underlying5 Z Z (h_u.c _))<|wg Z<|wn Z<|aM<|wm Z<|wm Z<|wm Z ?_
  refine wm Z<|wm Z<|wm Z<|wy (iV underlying5 underlying3 Z)<|wy (aH underlying52 sz3 Z Z (rdr 1 Z))<|bY (bG 1 Z sz3 Z Z) ?_
  rintro _ _ rfl
  refine wy (aH underlying52 sz3 Z Z (rdr 0 Z))<|bY (bG 0 Z sz3 Z Z) ?_
  rintro _ _ rfl
  refine aA<|aM<|wA Z Z<|wm Z<|aA ?_
  exact⟨i+1,upd V i i,upd K i (rd u i),⟨by omega,by omega,(by rw[aV];exact hVl),(by rw[aV];exact hKl),(eH (f:=fun j=>j) hi0 (by omega) hV Z),(eH (f:=fun j=>rd u j) hi0 (by omega) hK Z)⟩,by omega,(G5 Z Z Z Z Z),fun _ h=>h⟩
 ·obtain rfl:V=iota u.length:=bI (by rw[bF];omega) fun j h0 h1=>by rw[vF h0 (by omega)];exact hV j h0 (by omega)
  obtain rfl:u=K:=(bI (by omega) fun j h0 h1=>hK j h0 (by omega):K=u).symm
  refine aZ<|wq<|wm Z<|wm Z<|wa (aF IX Z (Ct.fresh (fun w hw=>rY ((rdr 1 Z) w hw) ((rdr 0 Z) w hw) (by omega) bh_u (fun i hi=>aW.1 hi) (by rw[bF];omega)))) ?_
  rintro _ _ ⟨_,rfl,A_3,c_4,rfl,rfl⟩
  refine wm Z<|wX Z Z<|wX Z Z<|wn Z<|wq<|wm Z<|wa (aF aPt Z (Ct.fresh (fun w hw=>OY ((rdr 0 Z) w hw) (aDe bh_u) (by rw[AY bh_u];omega)))) ?_
  rintro _ _ ⟨_,rfl,A_5,c_6,inv,rfl,hl_inv,hq_inv,rfl⟩
  refine wm Z<|wX Z Z<|wX Z Z<|wg Z<|wn Z<|wq<|wm Z<|wn Z<|aT [0] 99 (by decide) Z ?_
  refine⟨_,Z,?_⟩
  obtain rfl:inv=fsL u:=aWx bh_u hl_inv hq_inv
  have el:(bW (iota u.length) u (256:Int).toNat).length=(fsL u).length:=by rw[AY bh_u,vN]
  rw[el]
  exact⟨_,_,Z,Z⟩
theorem aEt (k0:0≤k) (hk:k<u.length) (hl:S.length=u.length) (h: ∀j:Int,k<j→j<u.length→rd S j=rd (lI u m) j) {x:Int} (hx:x=rd u (ixr m (iT u m (u.length-1-k).toNat))): ∀j:Int,k-1<j→j<u.length→rd (upd S k x) j=rd (lI u m) j:=by
 intro j h1 h2
 rw[fI k0 (by omega) (by omega)]
 split
 ·rename_i e;rw[e,TD k0 hk,hx]
 ·exact h j (by omega) h2
theorem aEu {i:Int} (k0:0≤k) (hk:k<u.length) (hr:r=iT u m (u.length-1-k).toNat) (hi:i=ixr m r):lfC u i+1=iT u m (u.length-1-(k-1)).toNat:=by
 rw[show((u.length:Int)-1-(k-1)).toNat=(u.length-1-k).toNat+1 by omega,iT,hi,hr]
theorem aVx (hl:S.length=u.length) (h: ∀j:Int,-1<j→j<u.length→rd S j=rd (lI u m) j):S=lI u m:=bI (by rw[hl,rF]) fun j h0 h1=>h j (by omega) (by omega)
theorem aDh (k0:0≤k) (hk:k<u.length) (h: ∀t:Nat,(t:Int)<u.length-1-k→iT u m t≠m) (hr:r=iT u m (u.length-1-k).toNat) (hne:r≠m): ∀t:Nat,(t:Int)<u.length-1-(k-1)→iT u m t≠m:=by
 intro t ht
 rcases Int.lt_or_le t (u.length-1-k) with g|g
 ·exact h t g
 ·rw[show t=(u.length-1-k).toNat by omega,←hr];exact hne
set_option maxHeartbeats 1000000 in
theorem WT (h_u:Rd w A_u n_u c_u 1 (ints .u8 u)) (bh_u:aO u) (hok:aJt u m) (hN:u.length≤100000):
  Ct Tryz.prog 109 #[.slice A_u n_u c_u,I m] w.heap.size w [] (fun v R'=> ∃A c,v= .tuple #[.slice A u.length c,I 0]∧R'=[(ru 5 A u.length c (lI u m))]):=by
 obtain rfl:=h_u.lenI
 refine fn2 Tryz.func109 Z Z Z ?_
 have m_u:=h_u.max
 have hfl:=vN u
 have hpre:=hok.1
 have hp1:=hok.1.1
 have hp2:=hok.1.2
 have hon0:=hok.2.1
 refine wq<|wg Z<|wn Z<|wq<|wm Z<|wy (aQ underlying22 Z)<|wn Z<|aG<|wq<|wm Z ?_
 refine wy (Yl.f (dV Z Z))<|wm Z<|aC Z Z<|wm Z<|aC Z Z<|wm Z<|aC Z Z<|wy (vQ Z Z)<|aC Z Z<|wy (Yl.f (eP Z Z))<|wy (aS Z Z)<|wm Z<|aC Z Z<|wm Z<|aC Z Z ?_
 refine wm Z<|aC Z Z<|wy (Yl.f (dV Z Z))<|wy (aS Z Z)<|aA<|aL Z<|aK<|wq<|wm Z<|wa (aF bEd Z (Ct.fresh (fun w hw=>aHx ((h_u.c _) w hw) bh_u (by omega)))) ?_
 rintro _ _ ⟨_,rfl,A_1,c_2,rfl,rfl⟩
 refine wn Z<|wq<|wm Z<|wa (dE underlying22 zb5 Z Z) ?_
 rintro _ _ ⟨g_3,rfl,rfl⟩
 refine bN (v:= .slice (GG g_3) u.length u.length) Z<|wn Z<|wq<|wn Z<|aG<|wq<|wm Z<|wS Z Z<|wn Z<|aI ?_
 refine fU (fun(k:Int) (r:Int) (S:List Int)=>[(0, .slice A_u u.length c_u),(1,I m),(7, .slice A_1 ((fsL u).length) c_2),(8, .slice (GG g_3) u.length u.length),(9,I r),(10,I k)]) (fun k r S=>[(ru 5 (GG g_3) u.length u.length S),(ri 3 A_1 ((fsL u).length) c_2 (fsL u))]) (fun k r S=>(-1≤k)∧(k<u.length)∧(S.length=u.length)∧(r=iT u m (u.length-1-k).toNat)∧(∀t:Nat,(t:Int)<u.length-1-k→iT u m t≠m)∧(∀j:Int,k<j→j<u.length→rd S j=rd (lI u m) j)) (fun k r S=>(k+1).toNat) ?_ ?_
 ·exact⟨((u.length:Nat):Int)-1,0,List.replicate u.length (0:Int),⟨by omega,by omega,(by rw[List.length_replicate]),(by rw[show((u.length:Int)-1-(((u.length:Nat):Int)-1)).toNat=0 by omega];rfl),(fun t h=>by omega),(fun j h1 h2=>by omega)⟩,(G6 rfl rfl rfl rfl rfl rfl),fun _ h=>h⟩
 intro k r S ⟨hk0,hk1,hSl,hr,hon,hS⟩
 refine aG<|wq<|wm Z<|wy (jG Z Z)<|aA<|bM Z (fun hc1=> ?_) (fun hc1=> ?_)
 ·have hk':0≤k:=by omega
  have hbd:=WP (l:=u) bh_u hpre (u.length-1-k).toNat (fun t ht=>hon t (by omega)) (by omega)
  rw[←hr] at hbd
  have hm0:0≤m:=by have:=hpre.1;omega
  have hm1:=hpre.2
  have hne:r≠m:=by rw[hr];exact hon0 _ (by omega)
  refine aK<|aG<|aI<|wq<|wm Z<|wn Z<|aG<|aI<|wq<|wm Z<|wm Z<|wy (Yl.f (bC Z Z) (hne)) ?_
  refine wn Z<|aL Z<|wq<|wm Z<|wm Z<|wy (dV Z Z)<|wn Z<|bM Z (fun hc2=> ?_) (fun hc2=> ?_)
  ·have hiv:r-1=ixr m r:=by unfold ixr;split<;>omega
   have hxx:rd u (r-1)=rd u (ixr m (iT u m (u.length-1-k).toNat)):=by rw[hiv,←hr]
   have hib:=PR (n:=u.length) hbd.1 hbd.2 hne hm0 hm1 (by omega)
   rw[←hiv] at hib
   have hfs:=YP (l:=u) hib.1 hib.2
   have hlf:=UF (l:=u) bh_u hib.1 hib.2
   have hnx:rd (fsL u) (r-1)+1=iT u m (u.length-1-(k-1)).toNat:=by rw[hfs];exact aEu hk' hk1 hr hiv
   refine aM<|wm Z<|wS Z Z<|wn Z<|wq<|wm Z<|wm Z<|wm Z<|wm Z<|wy (aH underlying22 sz5 Z Z (h_u.c _))<|wy (aX underlying5 Z Z (h_u.c _))<|wy (aH underlying22 sz5 Z Z (rdr 0 Z))<|bY (bG 0 Z sz5 Z Z) ?_
   rintro _ _ rfl
   refine aA<|aM<|wm Z<|wm Z<|wy (aH underlying52 sz3 Z Z (rdr 1 Z))<|wy (aX underlying3 Z Z (rdr 1 Z))<|wA Z Z<|wn Z<|aM<|wm Z<|wS Z Z<|wn Z ?_
   exact⟨k-1,(rd (fsL u) (r-1))+1,upd S k (rd u (r-1)),⟨by omega,by omega,(by rw[aV];exact hSl),(hnx),(aDh hk' hk1 hon hr hne),(aEt hk' hk1 hSl hS hxx)⟩,by omega,(G6 Z Z Z Z Z Z),fun _ h=>h⟩
  ·have hiv:r=ixr m r:=by unfold ixr;split<;>omega
   have hxx:rd u (r)=rd u (ixr m (iT u m (u.length-1-k).toNat)):=by rw[hiv,←hr]
   have hib:=PR (n:=u.length) hbd.1 hbd.2 hne hm0 hm1 (by omega)
   rw[←hiv] at hib
   have hfs:=YP (l:=u) hib.1 hib.2
   have hlf:=UF (l:=u) bh_u hib.1 hib.2
   have hnx:rd (fsL u) (r)+1=iT u m (u.length-1-(k-1)).toNat:=by rw[hfs];exact aEu hk' hk1 hr hiv
   refine aK<|wq<|wm Z<|wm Z<|wm Z<|wm Z<|wy (aH underlying22 sz5 Z Z (h_u.c _))<|wy (aX underlying5 Z Z (h_u.c _))<|wy (aH underlying22 sz5 Z Z (rdr 0 Z))<|bY (bG 0 Z sz5 Z Z) ?_
   rintro _ _ rfl
   refine aA<|aM<|wm Z<|wm Z<|wy (aH underlying52 sz3 Z Z (rdr 1 Z))<|wy (aX underlying3 Z Z (rdr 1 Z))<|wA Z Z<|wn Z<|aM<|wm Z<|wS Z Z<|wn Z ?_
   exact⟨k-1,(rd (fsL u) r)+1,upd S k (rd u r),⟨by omega,by omega,(by rw[aV];exact hSl),(hnx),(aDh hk' hk1 hon hr hne),(aEt hk' hk1 hSl hS hxx)⟩,by omega,(G6 Z Z Z Z Z Z),fun _ h=>h⟩
 ·refine aZ<|aG<|wq<|wm Z<|wm Z<|wy (Yl.f (jA Z Z) (by
     have e:((u.length:Int)-1-k).toNat=u.length:=by omega
     rw[hr,e,hok.2.2]
     exact fun h=>h Z)) ?_
  refine aA<|aL Z<|aK<|wq<|wm Z<|wg Z<|wn Z<|aT [0] 99 (by decide) Z ?_
  refine⟨_,_,Z,Z,?_⟩
  obtain rfl:S=lI u m:=aVx hSl fun j h1 h2=>hS j (by omega) h2
  exact⟨_,_,Z,Z⟩
variable {w:World} {A_b:Option Addr} {n_b c_b:Nat} {b:List Int}
theorem SV:
  Ct Tryz.prog 105 #[] w.heap.size w [] (fun v R'=> ∃A c,v= .slice A 256 c∧R'=[(ru 5 A 256 c aR)]):=by
 refine fn1 Tryz.func105 Z Z Z ?_
 refine wq<|wn Z<|wq<|wa (dE underlying22 zb5 Z Z) ?_
 rintro _ _ ⟨g_1,rfl,rfl⟩
 refine bN (v:= .slice (GG g_1) ((256:Int).toNat) ((256:Int).toNat)) Z<|wn Z<|aG<|wq<|wm Z<|wy (aQ underlying22 Z)<|wm Z<|aA<|aI ?_
 refine dR (fun(i:Int) (V:List Int)=>[(1, .slice (GG g_1) ((256:Int).toNat) ((256:Int).toNat)),(5,I (((256:Int).toNat:Nat):Int)),(6,I i)]) (fun i V=>[(ru 5 (GG g_1) ((256:Int).toNat) ((256:Int).toNat) V)]) (fun i V=>(0≤i)∧(i≤256)∧(V.length=256)∧(∀j:Int,0≤j→j<i→rd V j=j)) (fun i V=>(256-i).toNat) ?_ ?_
 ·exact⟨0,List.replicate ((256:Int).toNat) (0:Int),⟨by omega,by omega,(Z),(fun j h1 h2=>by omega)⟩,(G3 rfl rfl rfl),fun _ h=>h⟩
 intro i V ⟨hi0,hi1,hVl,hV⟩
 refine wq<|wL Z Z<|aA<|aG<|bM Z (fun hc1=> ?_) (fun hc1=> ?_)
 ·refine aK<|aG<|aI<|wq<|wm Z<|wn Z<|aM<|wm Z<|wm Z<|wm Z<|wy (oO underlying3 underlying5 Z)<|wy (aH underlying22 sz5 Z Z (rdr 0 Z))<|bY (bG 0 Z sz5 Z Z) ?_
  rintro _ _ rfl
  refine aA<|aM<|wA Z Z<|wm Z<|aA ?_
  exact⟨i+1,upd V i (IntKind.u8.wrap i),⟨by omega,by omega,(by rw[aV];exact hVl),(eH (f:=fun j=>j) hi0 (by omega) hV (rP hi0 (by omega)))⟩,by omega,(G3 Z Z Z),fun _ h=>h⟩
 ·refine aZ<|wq<|wm Z<|wn Z<|aT [0] 99 (by decide) Z ?_
  refine⟨_,Z,?_⟩
  obtain rfl:V=aR:=aDt hVl (fun j h1 h2=>hV j h1 (by omega))
  exact⟨_,_,Z,Z⟩
theorem UA {B:Nat} {w0:World} {R:List Row} {A:Option Addr} {m c:Nat} {l:List Int} {k:Int} (hm:m=l.length) (hk:0≤k∧k<l.length) (h2:1<l.length):
  Ct Tryz.prog 107 #[.slice A m c,I k] B w0 ((ru 5 A m c l)::R) (fun v R'=>v= .tuple #[]∧R'=(ru 5 A m c (mtf l k))::R):=by
 subst hm
 refine fn0 Tryz.func107 Z Z Z ?_
 refine wq<|wm Z<|wm Z<|wy (aH underlying22 sz5 Z Z (rdr 0 Z))<|wy (aX underlying5 Z Z (rdr 0 Z))<|wn Z<|aG<|bT mixed<|wD 0 Z (aN Z)<|wD 1 Z (iP underlying22 sz5 Z Z)<|wD 2 Z (aN Z)<|wD 3 Z (aN Z)<|wD 4 Z (gD underlying22 sz5 Z Z (rdr 0 Z)) ?_
 refine wC 5 Z (QP (lo:=1) 0 Z underlying22 sz5 Z Z Z Z (by omega) (RdC.toI (h:=(k).toNat) (rdr 0 Z) (by first|omega|(dsimp only;omega)))) ?_
 rintro _ _ ⟨rfl,rfl⟩
 refine⟨.inl (by kernel_rfl),?_⟩
 refine wN<|aM<|wm Z<|wm Z<|wy (aH underlying22 sz5 Z Z (rdr 0 Z))<|bY (bG 0 Z sz5 Z Z) ?_
 rintro _ _ rfl
 refine aA ?_
 skip
 rw[aZp hk.1 hk.2]
 exact⟨Z,Z⟩
theorem PV {A_u:Option Addr} {n_u c_u:Nat} {u:List Int} {c:Int} (h_u:Rd w A_u n_u c_u 1 (ints .u8 u)) (bh_u:aO u) (hc:0≤c∧c<256) (hm:c∈u):
  Ct Tryz.prog 106 #[.slice A_u n_u c_u, .int .u8 c] w.heap.size w [] (fun v R'=>v=I (idx u c)):=by
 obtain rfl:=h_u.lenI
 refine fn1 Tryz.func106 Z Z Z ?_
 have m_u:=h_u.max
 refine wq<|wn Z<|wq<|wm Z<|wm Z<|wa (XA Tryz.func180 (by kernel_rfl) (by kernel_rfl) (by kernel_rfl) (by kernel_rfl) Z Z (h_u.c _) bh_u hc hm) ?_
 rintro _ _ ⟨rfl,rfl⟩
 refine wn Z<|dJ ?_
 refine⟨_,Z,?_⟩
 rfl
theorem MV (h_b:Rd w A_b n_b c_b 1 (ints .u8 b)) (bh_b:aO b) (hN:b.length≤1000000):
  Ct Tryz.prog 60 #[.slice A_b n_b c_b] w.heap.size w [] (fun v R'=> ∃A c,v= .slice A (b.length) c∧R'=[(ru 5 A b.length c (bB aR b))]):=by
 obtain rfl:=h_b.lenI
 refine fn1 Tryz.func60 Z Z Z ?_
 have m_b:=h_b.max
 refine wq<|wn Z<|wq<|wa (aF aYb Z (Ct.fresh (fun w hw=>SV))) ?_
 rintro _ _ ⟨_,rfl,A_1,c_2,rfl,rfl⟩
 refine wn Z<|wq<|wm Z<|wy (aQ underlying22 Z)<|wa (dE underlying22 zb5 Z Z) ?_
 rintro _ _ ⟨g_3,rfl,rfl⟩
 refine bN (v:= .slice (GG g_3) b.length b.length) Z<|wn Z<|aG<|wq<|wm Z<|wy (aQ underlying22 Z)<|wm Z<|aA<|aI ?_
 refine fU (fun(i:Int) (V:List Int) (U:List Int)=>[(3, .slice A_1 256 c_2),(4, .slice (GG g_3) b.length b.length),(12, .slice A_b b.length c_b),(13,I ((b.length:Nat):Int)),(14,I i)]) (fun i V U=>[(ru 5 (GG g_3) b.length b.length U),(ru 5 A_1 256 c_2 V)]) (fun i V U=>(0≤i)∧(i≤b.length)∧(V=xZ aR (b.take i.toNat))∧(U.length=b.length)∧(∀j:Int,0≤j→j<i→rd U j=rd (bB aR b) j)) (fun i V U=>(b.length-i).toNat) ?_ ?_
 ·exact⟨0,aR,List.replicate b.length (0:Int),⟨by omega,by omega,(Z),(by rw[List.length_replicate]),(fun j h1 h2=>by omega)⟩,(G5 rfl rfl rfl rfl rfl),fun _ h=>h⟩
 intro i V U ⟨hi0,hi1,hV,hUl,hU⟩
 have hvp:V.Perm aR:=by rw[hV];exact aLl bh_b _
 have hvf:=MG hvp
 have hbi:=bh_b.rd i
 have hix:=hvf.2.2 _ hbi.1 hbi.2
 refine wq<|wL Z Z<|aA<|aG<|bM Z (fun hc1=> ?_) (fun hc1=> ?_)
 ·refine aK<|aG<|aI<|wq<|wm Z<|wy (aH underlying22 sz5 Z Z (h_b.c _))<|wy (aX underlying5 Z Z (h_b.c _))<|wg Z<|wn Z<|wq<|wm Z<|wm Z ?_
  refine wa (aF bEv Z (Ct.quiet (fun w hw=>PV ((rdr 1 Z) w hw) hvf.2.1 hbi hix.1))) ?_
  rintro _ _ ⟨rfl,rfl⟩
  refine wn Z<|wq<|wm Z<|wm Z<|wm Z<|wy (oO underlying3 underlying5 Z)<|wy (aH underlying22 sz5 Z Z (rdr 0 Z))<|bY (bG 0 Z sz5 Z Z) ?_
  rintro _ _ rfl
  refine aA<|aM<|wm Z<|wm Z<|wa (aF aYa Z (Ct.at 1 Z (UA hvf.1.symm (by omega) (by omega)))) ?_
  rintro _ _ ⟨rfl,rfl⟩
  refine aA<|aM<|wA Z Z<|wm Z<|aA ?_
  exact⟨i+1,mtf V (idx V (rd b i)),upd U i (IntKind.u8.wrap (idx V (rd b i))),⟨by omega,by omega,(by rw[aGe hi0 (by omega),←hV]),(by rw[aV];exact hUl),(eH (f:=fun j=>rd (bB aR b) j) hi0 (by omega) hU (by rw[aMj hi0 (by omega),←hV];exact rP hix.2.1 hix.2.2))⟩,by omega,(G5 Z Z Z Z Z),fun _ h=>h⟩
 ·refine aZ<|wq<|wm Z<|wn Z<|aT [0] 99 (by decide) Z ?_
  refine⟨_,Z,?_⟩
  obtain rfl:U=bB aR b:=bI (by rw[hUl,gG]) (fun j h1 h2=>hU j h1 (by omega))
  exact⟨_,_,Z,Z⟩
theorem OA (h_b:Rd w A_b n_b c_b 1 (ints .u8 b)) (bh_b:aO b) (hN:b.length≤1000000):
  Ct Tryz.prog 111 #[.slice A_b n_b c_b] w.heap.size w [] (fun v R'=> ∃A c,v= .slice A (b.length) c∧R'=[(ru 5 A b.length c (jW aR b))]):=by
 obtain rfl:=h_b.lenI
 refine fn1 Tryz.func111 Z Z Z ?_
 have m_b:=h_b.max
 refine wq<|wn Z<|wq<|wa (aF aYb Z (Ct.fresh (fun w hw=>SV))) ?_
 rintro _ _ ⟨_,rfl,A_1,c_2,rfl,rfl⟩
 refine wn Z<|wq<|wm Z<|wy (aQ underlying22 Z)<|wa (dE underlying22 zb5 Z Z) ?_
 rintro _ _ ⟨g_3,rfl,rfl⟩
 refine bN (v:= .slice (GG g_3) b.length b.length) Z<|wn Z<|aG<|wq<|wm Z<|wy (aQ underlying22 Z)<|wm Z<|aA<|aI ?_
 refine fU (fun(i:Int) (V:List Int) (U:List Int)=>[(3, .slice A_1 256 c_2),(4, .slice (GG g_3) b.length b.length),(11, .slice A_b b.length c_b),(12,I ((b.length:Nat):Int)),(13,I i)]) (fun i V U=>[(ru 5 (GG g_3) b.length b.length U),(ru 5 A_1 256 c_2 V)]) (fun i V U=>(0≤i)∧(i≤b.length)∧(V=DF aR (b.take i.toNat))∧(U.length=b.length)∧(∀j:Int,0≤j→j<i→rd U j=rd (jW aR b) j)) (fun i V U=>(b.length-i).toNat) ?_ ?_
 ·exact⟨0,aR,List.replicate b.length (0:Int),⟨by omega,by omega,(Z),(by rw[List.length_replicate]),(fun j h1 h2=>by omega)⟩,(G5 rfl rfl rfl rfl rfl),fun _ h=>h⟩
 intro i V U ⟨hi0,hi1,hV,hUl,hU⟩
 have hvp:V.Perm aR:=by rw[hV];exact aLk bh_b _
 have hvf:=MG hvp
 have hbi:=bh_b.rd i
 have hix:=hvf.2.2 _ hbi.1 hbi.2
 refine wq<|wL Z Z<|aA<|aG<|bM Z (fun hc1=> ?_) (fun hc1=> ?_)
 ·refine aK<|aG<|aI<|wq<|wm Z<|wy (aH underlying22 sz5 Z Z (h_b.c _))<|wy (aX underlying5 Z Z (h_b.c _))<|wg Z<|wn Z<|wq<|wm Z<|wm Z ?_
  refine wm Z<|wm Z<|wy (aH underlying22 sz5 Z Z (rdr 1 Z))<|wy (aX underlying5 Z Z (rdr 1 Z))<|wy (aH underlying22 sz5 Z Z (rdr 0 Z))<|bY (bG 0 Z sz5 Z Z) ?_
  rintro _ _ rfl
  refine aA<|aM<|wm Z<|wm Z<|wy (iV underlying5 underlying3 Z)<|wa (aF aYa Z (Ct.at 1 Z (UA hvf.1.symm (by omega) (by omega)))) ?_
  rintro _ _ ⟨rfl,rfl⟩
  refine aA<|aM<|wA Z Z<|wm Z<|aA ?_
  exact⟨i+1,mtf V (rd b i),upd U i (rd V (rd b i)),⟨by omega,by omega,(by rw[aGd hi0 (by omega),←hV]),(by rw[aV];exact hUl),(eH (f:=fun j=>rd (jW aR b) j) hi0 (by omega) hU (by rw[aMg hi0 (by omega),←hV]))⟩,by omega,(G5 Z Z Z Z Z),fun _ h=>h⟩
 ·refine aZ<|wq<|wm Z<|wn Z<|aT [0] 99 (by decide) Z ?_
  refine⟨_,Z,?_⟩
  obtain rfl:U=jW aR b:=bI (by rw[hUl,uY]) (fun j h1 h2=>hU j h1 (by omega))
  exact⟨_,_,Z,Z⟩
end Go.Proofs.YtdbebmmhdefgdaaGreat
namespace Go.Eng
open Go Go.RowKit Go.Pure
section
variable {P:Program} {n:Nd} {B:Nat} {w0:World} {L:Env} {R:List Row} {ty:TypeId}
theorem aRz {id:Nat} {l:List Oper} {Q:eO} {Rc:List Row} (hm:P.follows .mixedOrders=true) (hR: ∀w,Hp B w0 w R→Hp B w0 w Rc) (h:WDc P n B w0 l.toArray Q.nrm l.toArray.size (Array.replicate l.toArray.size false) L R Rc) (hd:yS n.rd l=true:=by exact rfl):W P n B w0 (.region id l.toArray true) Q L R:=by
 intro a w hs hp
 refine wpIn_region_any hm (WY aBr hd _ _ _ _<|wB _ _ _ _ _ (h a _ _ hs (hp.drawn _ (Nat.le_succ _)) hR (fun _ _ _ h=>h) fun _ _ L' R' hs' hp' hk=>⟨L',R',hs',hp',hk⟩))
theorem RgR.left {Rs:List Row} {l:List RC} (h:RgR Rs l) (T:List Row):RgR (Rs++T) l:=h.weak fun _ _ _ hw=>hw.left
theorem SlR.nilR (k:IntKind) (Rs:List Row):SlR k Rs [] []:=⟨rfl,fun j hj=>by simp at hj⟩
theorem OkB.app {a b:List (List Int)} (ha:OkB a) (hb:OkB b):OkB (a++b):=fun l hl=>(List.mem_append.1 hl).elim (ha l) (hb l)
end
end Go.Eng
namespace Go.Proofs.YtdbebmmhdefgdaaGreat
open Go Go.Eng Go.Pure
open Tryz
set_option maxRecDepth 100000
variable {n i:Int} {acc b:List Int} {w:World}
theorem aFk {m:Int} (h:iE n.toNat=acc++iE m.toNat) (hp:0<m) {d q:Int} (hd:d=(m-1)%2) (hq:q=(m-1)/2):iE n.toNat=(acc++[d])++iE q.toNat:=by
 rw[h,xQ (by omega),List.append_assoc,List.singleton_append]
 have e1:(((m.toNat-1)%2:Nat):Int)=d:=by omega
 have e2:(m.toNat-1)/2=q.toNat:=by omega
 rw[e1,e2]
theorem aFl (h:acc++bD n.toNat (b.drop i.toNat)=bD 0 b) (i0:0≤i) (hi:i<b.length) (n0:0≤n) (hc:rd b i=0):acc++bD (n+1).toNat (b.drop (i+1).toNat)=bD 0 b:=by
 rw[fM i0 hi,bD,if_pos hc] at h
 rw[show(n+1).toNat=n.toNat+1 by omega]
 exact h
theorem aKr (h:acc++bD n.toNat (b.drop i.toNat)=bD 0 b) (i0:0≤i) (hi:i<b.length) (hc: ¬rd b i=0):((acc++iE n.toNat)++[rd b i+1])++bD 0 (b.drop (i+1).toNat)=bD 0 b:=by
 rw[fM i0 hi,bD,if_neg hc] at h
 rw[←h]
 simp
theorem XU (h:acc++bD n.toNat (b.drop i.toNat)=bD 0 b):acc.length≤b.length:=by
 have h1:=congrArg List.length h
 have h2:=oU b 0
 rw[List.length_append] at h1
 omega
theorem aFj (h0:0≤n):((iE n.toNat).length:Int)≤n:=by
 have:=xR _ _ (Nat.le_refl n.toNat)
 omega
theorem LM (h0:0≤n∧n≤1000000):
  Ct Tryz.prog 201 #[I n] w.heap.size w [] (fun v R'=> ∃A c,v= .slice A ((iE n.toNat).length) c∧R'=[(ri 3 A ((iE n.toNat).length) c (iE n.toNat))]):=by
 refine fn1 Tryz.func201 Z Z Z ?_
 refine wq<|wn Z<|wq<|dH (R1:=[(ri 3 none 0 0 ([]))]) (Sub.refl _) (fun _ h=>h.nil 3 1)<|wn Z<|aG<|aI ?_
 refine jP (fun(A1:Option Addr) (n1:Nat) (c1:Nat) (acc:List Int) (m:Int)=>[(0,I m),(3, .slice A1 n1 c1)]) (fun A1 n1 c1 acc m=>[(ri 3 A1 n1 c1 acc)]) (fun A1 n1 c1 acc m=>(n1=acc.length)∧(0≤m)∧(iE n.toNat=acc++iE m.toNat)∧(acc.length+m≤n)) (fun A1 n1 c1 acc m=>m.toNat) ?_ ?_
 ·exact⟨none,0,0,[],n,⟨(Z),by omega,(Z),(by show((0:Nat):Int)+n≤n;omega)⟩,(G2 Z Z),fun _ h=>h⟩
 intro A1 n1 c1 acc m ⟨hn1,hm0,hT,hL⟩
 refine aG<|wq<|wm Z<|wy (dV Z Z)<|aA<|bM Z (fun hc1=> ?_) (fun hc1=> ?_)
 ·refine aK<|aG<|aI<|aM<|wm Z<|wm Z<|wS Z Z<|wy (BU Z Z)<|wa (bS .i64 [(m-1)%2] underlying52 zs3 Z Z Z) ?_
  rintro _ _ ⟨g_2,rfl,rfl⟩
  refine wa (bE 1 Z underlying52 zb3 Z Z Z (rdr 0 Z)) ?_
  rintro _ _ ⟨A_3,c_4,rfl,rfl⟩
  refine bN (v:= .slice A_3 (n1+1) c_4) Z<|wn Z<|aM<|wm Z<|wS Z Z<|wy (OJ Z Z (by omega) (by omega) (by omega))<|wn Z ?_
  exact⟨A_3,n1+1,c_4,acc++([(m-1)%2]),(m-1)/2,⟨(by rw[List.length_append,hn1];try rfl),by omega,(aFk hT (by omega) (by omega) (by omega)),(by rw[List.length_append,List.length_singleton];omega)⟩,by omega,(G2 Z Z),fun _ h=>h.sel [1] (by decide) Z⟩
 ·refine aZ<|wq<|wm Z<|wn Z<|aT [0] 99 (by decide) Z ?_
  refine⟨_,Z,?_⟩
  obtain rfl:m=0:=by omega
  have e:iE n.toNat=acc:=by rw[hT];exact List.append_nil _
  rw[e]
  obtain rfl:=hn1
  exact⟨_,_,Z,Z⟩
theorem aFm {A_b:Option Addr} {n_b c_b:Nat} (h_b:Rd w A_b n_b c_b 1 (ints .u8 b)) (bh_b:aO b) (hN:b.length≤1000000):
  Ct Tryz.prog 129 #[.slice A_b n_b c_b] w.heap.size w [] (fun v R'=> ∃A c,v= .slice A ((bD 0 b).length) c∧R'=[(ri 3 A ((bD 0 b).length) c (bD 0 b))]):=by
 obtain rfl:=h_b.lenI
 refine fn1 Tryz.func129 Z Z Z ?_
 have m_b:=h_b.max
 refine wq<|wn Z<|wq<|dH (R1:=[(ri 3 none 0 0 ([]))]) (Sub.refl _) (fun _ h=>h.nil 3 1)<|wn Z<|wq<|wn Z<|aG<|aG ?_
 refine aM<|wm Z<|wy (aQ underlying22 Z)<|wm Z<|aA<|aI ?_
 refine nU (fun(A1:Option Addr) (n1:Nat) (c1:Nat) (acc:List Int) (i:Int) (m:Int)=>[(3, .slice A1 n1 c1),(4,I m),(7, .slice A_b b.length c_b),(8,I ((b.length:Nat):Int)),(9,I i)]) (fun A1 n1 c1 acc i m=>[(ri 3 A1 n1 c1 acc)]) (fun A1 n1 c1 acc i m=>(n1=acc.length)∧(0≤i)∧(i≤b.length)∧(0≤m)∧(m≤i)∧(acc++bD m.toNat (b.drop i.toNat)=bD 0 b)) (fun A1 n1 c1 acc i m=>(b.length-i).toNat) ?_ ?_
 ·exact⟨none,0,0,[],0,0,⟨(Z),by omega,by omega,by omega,by omega,(Z)⟩,(G5 Z Z Z Z Z),fun _ h=>h⟩
 intro A1 n1 c1 acc i m ⟨hn1,hi0,hi1,hm0,hm1,hT⟩
 have hab:=XU hT
 have hts:=aFj hm0
 refine wq<|wL Z Z<|aA<|aG<|bM Z (fun hc1=> ?_) (fun hc1=> ?_)
 ·have hbi:=bh_b.rd i
  refine aK<|aG<|aI<|wq<|wy (aH underlying22 sz5 Z Z (h_b.c _))<|wy (aX underlying5 Z Z (h_b.c _))<|wn Z<|aG<|wq<|wm Z<|wy (bC Z Z)<|aA ?_
  refine bM Z (fun hc2=> ?_) (fun hc2=> ?_)
  ·refine wq<|wm Z<|wA Z Z<|wn Z<|aZ<|aM<|wA Z Z<|wm Z<|aA ?_
   exact⟨A1,n1,c1,acc,i+1,m+1,⟨(by first|exact hn1|simp[hn1,Nat.add_assoc]),by omega,by omega,by omega,by omega,(aFl hT hi0 (by omega) hm0 (by assumption))⟩,by omega,(G5 Z Z Z Z Z),fun _ h=>h⟩
  ·refine aK<|wq<|wm Z<|wm Z<|wa (aF aXn Z (Ct.fresh (fun w hw=>LM (by omega)))) ?_
   rintro _ _ ⟨_,rfl,A_1,c_2,rfl,rfl⟩
   refine wa (bE 1 Z underlying52 zb3 Z Z Z (rdr 0 Z)) ?_
   rintro _ _ ⟨A_4,c_5,rfl,rfl⟩
   refine bN (v:= .slice A_4 (n1+((iE (m).toNat).length)) c_5) Z<|wm Z<|wy (iV underlying5 underlying3 Z)<|wA Z Z<|wa (bS .i64 [(rd b i)+1] underlying52 zs3 Z Z Z) ?_
   rintro _ _ ⟨g_7,rfl,rfl⟩
   refine wa (bE 2 Z underlying52 zb3 Z Z Z (rdr 0 Z)) ?_
   rintro _ _ ⟨A_8,c_9,rfl,rfl⟩
   refine bN (v:= .slice A_8 ((n1+((iE (m).toNat).length))+1) c_9) Z<|wn Z<|aM<|wn Z<|aM<|wA Z Z<|wm Z<|aA ?_
   exact⟨A_8,(n1+((iE (m).toNat).length))+1,c_9,(acc++(iE (m).toNat))++([(rd b i)+1]),i+1,0,⟨(by first|exact hn1|simp[hn1,Nat.add_assoc]),by omega,by omega,by omega,by omega,(aKr hT hi0 (by omega) (by assumption))⟩,by omega,(G5 Z Z Z Z Z),fun _ h=>h.sel [2] (by decide) Z⟩
 ·refine aZ<|wq<|wm Z<|wm Z<|wa (aF aXn Z (Ct.fresh (fun w hw=>LM (by omega)))) ?_
  rintro _ _ ⟨_,rfl,A_10,c_11,rfl,rfl⟩
  refine wa (bE 1 Z underlying52 zb3 Z Z Z (rdr 0 Z)) ?_
  rintro _ _ ⟨A_13,c_14,rfl,rfl⟩
  refine bN (v:= .slice A_13 (n1+((iE (m).toNat).length)) c_14) Z<|wn Z<|aT [1] 99 (by decide) Z ?_
  refine⟨_,Z,?_⟩
  rw[List.drop_eq_nil_of_le (by omega)] at hT
  have e2:acc++iE m.toNat=bD 0 b:=hT
  have e:n1+(iE m.toNat).length=(bD 0 b).length:=by rw[←e2,List.length_append,hn1]
  rw[e,e2]
  exact⟨_,_,Z,Z⟩
variable {B g n c:Nat} {w0:World} {R:List Row} {A:Option Addr} {C:List Int} {sym:Int}
theorem IA (hn:n=C.length) (hs:0≤sym∧sym<C.length):
  Ct Tryz.prog 202 #[.pointer (GG g),I sym] B w0 ((rc 256 2 g [.slice A n c,I (aU C)])::(ri 3 A n c C)::R) (fun v R'=>v= .bool true∧R'=(rc 256 2 g [.slice A n c,I (aU C)])::(ri 3 A n c C)::R):=by
 subst hn
 refine fn1 Tryz.func202 Z Z Z ?_
 refine wq<|wn Z<|wq<|wm Z<|wy (aBx underlying185 Z Z)<|wm Z<|aC Z Z<|wm Z<|aC Z Z<|wy (Yl.t (jG Z Z) (by omega))<|wy (bA Z Z)<|wm Z ?_
 refine aC Z Z<|wm Z<|aC Z Z<|wm Z<|aC Z Z<|wy (aD Z)<|aC Z Z<|wy (aB (off:=0) (m:=0) underlying256 Z gX Z Z Z)<|aC Z Z<|wy (aJ (rdr 0 Z) underlying52 Z Z Z)<|aC Z Z<|wy (aQ underlying52 Z)<|aC Z Z<|wy (Yl.t (eP Z Z) (by omega))<|wy (bA Z Z) ?_
 refine wn Z<|bR (R1:=((rc 256 2 g [.slice A C.length c,I (aU C)])::(ri 3 A C.length c C)::R)) (fun _ h=>h) ?_
 refine⟨_,Z,?_⟩
 exact⟨Z,Z⟩
theorem iC:
  Ct Tryz.prog 133 #[.pointer (GG g)] B w0 ((rc 256 2 g [.slice A n c,I (aU C)])::(ri 3 A n c C)::R) (fun v R'=>v=I (aU C)∧R'=(rc 256 2 g [.slice A n c,I (aU C)])::(ri 3 A n c C)::R):=by
 refine fn1 Tryz.func133 Z Z Z ?_
 refine wq<|wn Z<|aG<|wq<|wm Z<|wy (cZ underlying185 Z Z)<|aA<|aL Z<|aK<|wq<|wm Z ?_
 refine wy (aD Z)<|wy (aB (off:=1) (m:=1) underlying256 Z sz3 Z Z Z)<|wy (aJ (rdr 0 Z) underlying3 Z Z Z)<|wn Z<|bR (R1:=((rc 256 2 g [.slice A n c,I (aU C)])::(ri 3 A n c C)::R)) (fun _ h=>h) ?_
 refine⟨_,Z,?_⟩
 exact⟨Z,Z⟩
theorem jS (hn:n=C.length) (hs:0≤sym∧sym<C.length) (hok:lJ C):
  Ct Tryz.prog 131 #[.pointer (GG g),I sym] B w0 ((rc 256 2 g [.slice A n c,I (aU C)])::(ri 3 A n c C)::R) (fun v R'=>v= .tuple #[I (aU (C.take sym.toNat)),I (rd C sym), .bool true]∧R'=(rc 256 2 g [.slice A n c,I (aU C)])::(ri 3 A n c C)::R):=by
 subst hn
 refine fn3 Tryz.func131 Z Z Z ?_
 refine wq<|wg Z<|wg Z<|wn Z<|aG<|wq<|wm Z<|wm Z<|wa (aF aXm Z ((IA Z (by omega)))) ?_
 rintro _ _ ⟨rfl,rfl⟩
 refine wy (dI Z)<|aA<|aL Z<|aK<|aG<|wq<|wm Z<|wy (aD Z)<|wy (aB (off:=0) (m:=0) underlying256 Z gX Z Z Z)<|wy (aJ (rdr 0 Z) underlying52 Z Z Z)<|wm Z<|wy (gD underlying52 sz3 Z Z (rdr 1 Z))<|wy (aQ underlying52 Z)<|wm Z ?_
 refine aA<|aI ?_
 refine dR (fun(i:Int) (low:Int)=>[(0, .pointer (GG g)),(1,I sym),(4,I low),(18, .slice A ((sym).toNat) c),(19,I (((sym).toNat:Nat):Int)),(20,I i)]) (fun i low=>((rc 256 2 g [.slice A C.length c,I (aU C)])::(ri 3 A C.length c C)::R)) (fun i low=>(0≤i)∧(i≤sym)∧(low=aU (C.take i.toNat))) (fun i low=>(sym-i).toNat) ?_ ?_
 ·exact⟨0,0,⟨by omega,by omega,(Z)⟩,(G6 Z Z Z Z Z Z),fun _ h=>h⟩
 intro i low ⟨hi0,hi1,hlow⟩
 have hpt:=qP (i:=i) hok.2.1 hi0 (by omega)
 have hlim:=hok.2.2
 have hcl:=hok.1
 have hrt:=PC (l:=C) (k:=sym) (i:=i) hi0
 refine wq<|wL Z Z<|aA<|aG<|bM Z (fun hc1=> ?_) (fun hc1=> ?_)
 ·have hrt:=hrt (by omega)
  refine aK<|aG<|aI<|wq<|wy (aH underlying52 sz3 Z Z (RdC.toI (h:=(sym).toNat) (rdr 1 Z) (by first|omega|(dsimp only;omega)))) ?_
  refine wy (aX underlying3 Z Z (RdC.toI (h:=(sym).toNat) (rdr 1 Z) (by first|omega|(dsimp only;omega)))) ?_
  refine wn Z<|aM<|wm Z<|wm Z<|wA Z Z<|wn Z<|aM<|wA Z Z<|wm Z<|aA ?_
  exact⟨i+1,low+(rd ((C).take (sym).toNat) i),⟨by omega,by omega,(by rw[qO hi0 (by omega),←hlow,PC hi0 (by omega)])⟩,by omega,(G6 Z Z Z Z Z Z),fun _ h=>h⟩
 ·refine aZ<|aG<|bT mixed<|wD 0 Z (aN Z)<|wD 1 Z (aN Z)<|wD 2 Z (aD Z)<|wD 3 Z (aB (off:=0) (m:=0) underlying256 Z gX Z Z Z)<|wD 4 Z (aJ (rdr 0 Z) underlying52 Z Z Z)<|wD 5 Z (aN Z)<|wD 6 Z (aH underlying52 sz3 Z Z (rdr 1 Z))<|wD 7 Z (aX underlying3 Z Z (rdr 1 Z))<|wD 8 Z (bQ Z)<|wD 9 Z (bQ Z)<|wD 10 Z (bQ Z)<|wN ?_
  refine bR (R1:=((rc 256 2 g [.slice A C.length c,I (aU C)])::(ri 3 A C.length c C)::R)) (fun _ h=>h) ?_
  refine⟨_,_,_,Z,Z,Z,?_⟩
  obtain rfl:i=sym:=by omega
  rw[←hlow]
  exact⟨Z,Z⟩
theorem uE {w:World}:
  Ct Tryz.prog 200 #[I 258] w.heap.size w [] (fun v R'=> ∃g A c,v= .pointer (GG g)∧R'=[(rc 256 2 g [.slice A 258 c,I 258]),(ri 3 A 258 c wT)]):=by
 refine fn1 Tryz.func200 Z Z Z ?_
 refine wq<|wn Z<|aG<|wq<|wm Z<|wy (Yl.f (eP Z Z) (by decide))<|wm Z<|aC Z Z<|wm Z<|aC Z Z<|wy (Yl.f (dV Z Z) (by decide))<|wy (aS Z Z) ?_
 refine aA<|aL Z<|aK<|wq<|wm Z<|wm Z<|wa (dE underlying52 zb3 Z Z) ?_
 rintro _ _ ⟨g_1,rfl,rfl⟩
 refine bN (v:= .slice (GG g_1) ((258:Int).toNat) ((258:Int).toNat)) Z<|wy (dY (v:= .agg #[.slice (GG g_1) ((258:Int).toNat) ((258:Int).toNat),I 258]) Z (fun w=>by kernel_rfl))<|wa (bX (sz:=2) rfl rfl) ?_
 rintro _ _ ⟨g_2,rfl,rfl⟩
 refine wn Z<|aG<|wq<|wm Z<|wy (aD Z)<|wy (aB (off:=0) (m:=0) underlying256 Z gX Z Z Z)<|wy (aJ (rdr 0 Z) underlying52 Z Z Z)<|wy (aQ underlying52 Z)<|wm Z<|aA<|aI ?_
 refine dR (fun(i:Int) (V:List Int)=>[(3, .pointer (GG g_2)),(20,I (((258:Int).toNat:Nat):Int)),(21,I i)]) (fun i V=>[(rc 256 2 g_2 [.slice (GG g_1) ((258:Int).toNat) ((258:Int).toNat),I 258]),(ri 3 (GG g_1) ((258:Int).toNat) ((258:Int).toNat) V)]) (fun i V=>(0≤i)∧(i≤258)∧(V.length=258)∧(∀j:Int,0≤j→j<i→rd V j=1)) (fun i V=>(258-i).toNat) ?_ ?_
 ·exact⟨0,List.replicate ((258:Int).toNat) (0:Int),⟨by omega,by omega,(List.length_replicate),(fun j h1 h2=>by omega)⟩,(G3 rfl rfl rfl),fun _ h=>h⟩
 intro i V ⟨hi0,hi1,hVl,hV⟩
 refine wq<|wL Z Z<|aA<|aG<|bM Z (fun hc1=> ?_) (fun hc1=> ?_)
 ·refine aK<|aG<|aI<|wq<|wm Z<|wn Z<|aM<|wm Z<|wy (aD Z)<|wy (aB (off:=0) (m:=0) underlying256 Z gX Z Z Z)<|wy (aJ (rdr 0 Z) underlying52 Z Z Z)<|wm Z<|wy (aH underlying52 sz3 Z Z (rdr 1 Z)) ?_
  refine bY (bG 1 Z sz3 Z Z) ?_
  rintro _ _ rfl
  refine aA<|aM<|wA Z Z<|wm Z<|aA ?_
  exact⟨i+1,upd V i 1,⟨by omega,by omega,(by rw[aV];exact hVl),(eH (f:=fun _=>1) hi0 (by omega) hV Z)⟩,by omega,(G3 Z Z Z),fun _ h=>h⟩
 ·refine aZ<|wq<|wm Z<|wn Z<|bR (R1:=[(rc 256 2 g_2 [.slice (GG g_1) ((258:Int).toNat) ((258:Int).toNat),I 258]),(ri 3 (GG g_1) ((258:Int).toNat) ((258:Int).toNat) V)]) (fun _ h=>h) ?_
  refine⟨_,Z,?_⟩
  obtain rfl:V=wT:=aZq hVl (fun j h1 h2=>hV j h1 (by omega))
  exact⟨_,_,_,Z,Z⟩
set_option maxHeartbeats 1000000 in
theorem uD (hn:n=C.length) (hs:0≤sym∧sym<C.length) (hok:lJ C):
  Ct Tryz.prog 205 #[.pointer (GG g),I sym] B w0 ((rc 256 2 g [.slice A n c,I (aU C)])::(ri 3 A n c C)::R) (fun v R'=>v= .bool true∧R'=(rc 256 2 g [.slice A n c,I (aU (lK C sym))])::(ri 3 A n c (lK C sym))::R):=by
 subst hn
 have hcl:=hok.1
 have hpt:=hok.le.part (i:=sym) hs.1 (by omega)
 have hup:=hok.up (s:=sym) hs.1 (by omega)
 have hlim:=hok.2.2
 have hul:=hup.1.1
 have hsn:=tK hok.2.1
 refine fn1 Tryz.func205 Z Z Z ?_
 refine wq<|wn Z<|aG<|wq<|wm Z<|wm Z<|wa (aF aXm Z ((IA Z (by omega)))) ?_
 rintro _ _ ⟨rfl,rfl⟩
 refine wy (dI Z)<|aA<|aL Z<|aK<|wq<|wm Z<|wy (aD Z)<|wy (aB (off:=0) (m:=0) underlying256 Z gX Z Z Z)<|wy (aJ (rdr 0 Z) underlying52 Z Z Z)<|wm Z<|wy (aH underlying52 sz3 Z Z (rdr 1 Z))<|wy (aX underlying3 Z Z (rdr 1 Z))<|wA Z Z<|wy (aH underlying52 sz3 Z Z (rdr 1 Z)) ?_
 refine bY (bG 1 Z sz3 Z Z) ?_
 rintro _ _ rfl
 refine aA<|wq<|wm Z<|wy (aD Z)<|wy (aB (off:=1) (m:=1) underlying256 Z sz3 Z Z Z)<|wy (aJ (rdr 0 Z) underlying3 Z Z Z)<|wA Z Z<|wy (aD Z)<|wy (aB (off:=1) (m:=1) underlying256 Z sz3 Z Z Z)<|bY (aY 0 Z Z Z sz3 Z Z Z Z (Nat.le_of_ble_eq_true Z)) ?_
 rintro _ _ rfl
 refine aA<|aG<|wq<|wm Z<|wy (aD Z)<|wy (aB (off:=1) (m:=1) underlying256 Z sz3 Z Z Z)<|wy (aJ (rdr 0 Z) underlying3 Z Z Z)<|wy (dV Z Z)<|aA<|bM Z (fun hc1=> ?_) (fun hc1=> ?_)
 ·refine wq<|wm Z<|wy (aD Z)<|wy (aB (off:=1) (m:=1) underlying256 Z sz3 Z Z Z)<|bY (aY 0 Z Z Z sz3 Z Z Z Z (Nat.le_of_ble_eq_true Z)) ?_
  rintro _ _ rfl
  refine aA<|wq<|wm Z<|wy (aD Z)<|wy (aB (off:=0) (m:=0) underlying256 Z gX Z Z Z)<|wy (aJ (rdr 0 Z) underlying52 Z Z Z)<|wy (aQ underlying52 Z)<|wm Z<|aA<|aI ?_
  refine fU (fun(i:Int) (V:List Int) (t:Int)=>[(0, .pointer (GG g)),(38, .slice A C.length c),(39,I ((C.length:Nat):Int)),(40,I i)]) (fun i V t=>((rc 256 2 g [.slice A C.length c,I t])::(ri 3 A C.length c V)::R)) (fun i V t=>(0≤i)∧(i≤258)∧(KC (upd C sym (rd C sym+32)) V i t)) (fun i V t=>(258-i).toNat) ?_ ?_
  ·exact⟨0,upd C sym ((rd C sym)+32),0,⟨by omega,by omega,(ZT hul)⟩,(G4 Z Z Z Z),fun _ h=>h⟩
  intro i V t ⟨hi0,hi1,hI⟩
  have hhp:=hup.1.part (i:=i) hi0
  have hhq:=hup.1.half.le.part (i:=i) hi0
  have hVl:=hI.len
  have hsm:=hI.sum
  refine wq<|wL Z Z<|aA<|aG<|bM Z (fun hc2=> ?_) (fun hc2=> ?_)
  ·have hhp:=hhp (by omega)
   have hhq:=hhq (by omega)
   have hlf:=hI.left i (by omega) (by omega)
   have hrs:=eF (l:=V) (i:=i) (v:=(rd V i+1)/2) hi0 (by omega)
   have hht:0≤t∧t≤65536:=by rw[hsm];exact hhq.1
   refine aK<|aG<|aI<|wq<|wm Z<|wy (aH underlying52 sz3 Z Z (rdr 1 Z))<|wy (aX underlying3 Z Z (rdr 1 Z))<|wg Z<|wn Z<|wq<|wm Z<|wy (aD Z) ?_
   refine wy (aB (off:=0) (m:=0) underlying256 Z gX Z Z Z)<|wy (aJ (rdr 0 Z) underlying52 Z Z Z)<|wm Z<|wm Z<|wA Z Z<|wy (OJ Z Z (by omega) (by omega) (by omega))<|wy (aH underlying52 sz3 Z Z (rdr 1 Z))<|bY (bG 1 Z sz3 Z Z) ?_
   rintro _ _ rfl
   refine aA<|bT mixed<|wD 0 Z (aN Z)<|wD 1 Z (aD Z)<|wD 2 Z (aB (off:=1) (m:=1) underlying256 Z sz3 Z Z Z)<|wD 3 Z (aJ (rdr 0 Z) underlying3 Z Z Z)<|wD 4 Z (aN Z)<|wD 5 Z (aD Z)<|wD 6 Z (aB (off:=0) (m:=0) underlying256 Z gX Z Z Z)<|wD 7 Z (aJ (rdr 0 Z) underlying52 Z Z Z)<|wD 8 Z (aN Z)<|wD 9 Z (aH underlying52 sz3 Z Z (rdr 1 Z))<|wD 10 Z (aX underlying3 Z Z (rdr 1 Z))<|wD 11 Z (dF Z Z)<|wD 12 Z (aD Z) ?_
   refine wD 13 Z (aB (off:=1) (m:=1) underlying256 Z sz3 Z Z Z)<|pR 14 Z (by kernel_rfl) (aY 0 Z Z Z sz3 Z Z Z Z (Nat.le_of_ble_eq_true Z)) ?_
   rintro _ _ rfl
   refine⟨.inl (by kernel_rfl),?_⟩
   refine wN<|aM<|wA Z Z<|wm Z<|aA ?_
   exact⟨i+1,upd V i (((rd V i)+1)/2),(t+rd (upd V i ((rd V i+1)/2)) i),⟨by omega,by omega,(hI.step hul hi0 (by omega))⟩,by omega,(G4 Z Z Z Z),fun _ h=>h⟩
  ·refine aZ<|wq<|wn Z<|bR (R1:=((rc 256 2 g [.slice A C.length c,I t])::(ri 3 A C.length c V)::R)) (fun _ h=>h) ?_
   refine⟨_,Z,?_⟩
   obtain rfl:i=258:=by omega
   obtain⟨e1,e2⟩:=hI.done_all hul
   have e3:lK C sym=V:=by unfold lK;rw[if_pos (by omega),e1]
   rw[e3,e1,←e2]
   exact⟨Z,Z⟩
 ·refine aK<|wq<|wn Z<|bR (R1:=((rc 256 2 g [.slice A C.length c,I ((aU C)+32)])::(ri 3 A C.length c (upd C sym ((rd C sym)+32)))::R)) (fun _ h=>h) ?_
  refine⟨_,Z,?_⟩
  have e3:lK C sym=(upd C sym (rd C sym+32)):=by unfold lK;rw[if_neg (by omega)]
  rw[e3,hup.2]
  exact⟨Z,Z⟩
variable {w w0:World} {low size total:Int} {B g n c:Nat} {R:List Row} {A:Option Addr}
theorem CX (hsp:uS low size total):
  Ct Tryz.prog 203 #[I low,I size,I total] w.heap.size w [] (fun v R'=>v= .bool true):=by
 refine fn1 Tryz.func203 Z Z Z ?_
 obtain⟨s1,s2,s3,s4⟩:=hsp
 refine wq<|wn Z<|wq<|wm Z<|wy (Yl.t (vZ Z Z) (by omega))<|wm Z<|aC Z Z<|wm Z<|aC Z Z<|wy (Yl.t (jG Z Z) (by omega))<|wy (bA Z Z)<|wm Z ?_
 refine aC Z Z<|wm Z<|aC Z Z<|wy (Yl.t (jG Z Z) (by omega))<|wy (bA Z Z)<|wm Z<|aC Z Z<|wm Z<|aC Z Z<|wm Z<|aC Z Z<|wy (Yl.t (vZ Z Z) (by omega))<|wy (bA Z Z)<|wm Z<|aC Z Z ?_
 refine wm Z<|aC Z Z<|wm Z<|aC Z Z<|wm Z<|aC Z Z<|wS Z Z<|aC Z Z<|wy (Yl.t (vZ Z Z) (by omega))<|wy (bA Z Z)<|wn Z<|dJ ?_
 refine⟨_,Z,?_⟩
 rfl
theorem HY:
  Ct Tryz.prog 128 #[] w.heap.size w [] (fun v R'=> ∃g A c,v= .pointer (GG g)∧R'=[(rc 253 3 g [.slice A cd0.k c, .int .u64 (cd0.N%4294967296), .int .u64 cd0.R]),(ru 5 A cd0.k c (beL cd0.k (cd0.N/4294967296)))]):=by
 refine fn1 Tryz.func128 Z Z Z ?_
 refine wq<|wn Z<|wq<|wy (dY (v:= .agg #[.slice none 0 0, .int .u64 0, .int .u64 4294967295]) Z (fun w=>by kernel_rfl))<|wa (bX (sz:=3) rfl rfl) ?_
 rintro _ _ ⟨g_1,rfl,rfl⟩
 refine dH (R1:=[(ru 5 none 0 0 ([])),(rc 253 3 g_1 [.slice none 0 0, .int .u64 0, .int .u64 4294967295])]) (Sub.refl _) (fun _ h=>h.nil 5 1)<|wn Z<|aT [1,0] 99 (by decide) Z ?_
 refine⟨_,Z,?_⟩
 exact⟨_,_,_,Z,Z⟩
theorem QD {b:List Int} {x r:Int} (hn:n=b.length) (hb:aO b) (hL:b.length≤1000000):
  Ct Tryz.prog 204 #[.pointer (GG g)] B w0 ((rc 253 3 g [.slice A n c, .int .u64 x, .int .u64 r])::(ru 5 A n c b)::R) (fun v R'=>v= .tuple #[]∧R'=(rc 253 3 g [.slice A n c, .int .u64 x, .int .u64 r])::(ru 5 A n c (DT b 1))::R):=by
 subst hn
 refine fn0 Tryz.func204 Z Z Z ?_
 refine wq<|wm Z<|wy (aD Z)<|wy (aB (off:=0) (m:=0) underlying253 Z dO Z Z Z)<|wy (aJ (rdr 0 Z) underlying22 Z Z Z)<|wy (aQ underlying22 Z)<|wS Z Z<|wn Z<|aI ?_
 refine dR (fun(i:Int) (V:List Int)=>[(0, .pointer (GG g)),(2,I i)]) (fun i V=>((rc 253 3 g [.slice A b.length c, .int .u64 x, .int .u64 r])::(ru 5 A b.length c V)::R)) (fun i V=>(-1≤i)∧(i<b.length)∧(aBs b 1 V i 1)) (fun i V=>(i+1).toNat) ?_ ?_
 ·exact⟨((b.length:Nat):Int)-1,b,⟨by omega,by omega,(aJr hb Z)⟩,(G2 Z Z),fun _ h=>h⟩
 intro i V ⟨hi0,hi1,hI⟩
 have hVl:=hI.1
 have hVb:=hI.2.1.rd i
 have hrs:=eF (l:=V) (i:=i) (v:=(rd V i+1)%256)
 refine aG<|wq<|wm Z<|wy (jG Z Z)<|aA<|bM Z (fun hc1=> ?_) (fun hc1=> ?_)
 ·have hrs:=hrs (by omega) (by omega)
  refine aK<|aG<|aI<|wq<|wm Z<|wy (aD Z)<|wy (aB (off:=0) (m:=0) underlying253 Z dO Z Z Z)<|wy (aJ (rdr 0 Z) underlying22 Z Z Z)<|wm Z<|wy (aH underlying22 sz5 Z Z (rdr 1 Z))<|wy (aX underlying5 Z Z (rdr 1 Z))<|wy (aYk Z Z)<|wy (aH underlying22 sz5 Z Z (rdr 1 Z))<|bY (bG 1 Z sz5 Z Z) ?_
  rintro _ _ rfl
  refine aA<|wq<|wm Z<|wy (aD Z)<|wy (aB (off:=0) (m:=0) underlying253 Z dO Z Z Z)<|wy (aJ (rdr 0 Z) underlying22 Z Z Z)<|wm Z<|wy (aH underlying22 sz5 Z Z (rdr 1 Z))<|wy (aX underlying5 Z Z (rdr 1 Z))<|wy (jA Z Z)<|aA<|bM Z (fun hc2=> ?_) (fun hc2=> ?_)
  ·refine bR (R1:=((rc 253 3 g [.slice A b.length c, .int .u64 x, .int .u64 r])::(ru 5 A b.length c (upd V i (((rd V i)+1)%256)))::R)) (fun _ h=>h) ?_
   skip
   have e:upd V i ((rd V i+1)%256)=DT b 1:=(hI.step (y:=0) (d:=(rd V i+1)%256) (by omega) (by omega) (by omega) (by omega)).stop (.inl rfl)
   rw[e]
   exact⟨Z,Z⟩
  ·refine aK<|aM<|wm Z<|wS Z Z<|wn Z ?_
   exact⟨i-1,upd V i (((rd V i)+1)%256),⟨by omega,by omega,(hI.step (by omega) (by omega) (by omega) (by omega))⟩,by omega,(G2 Z Z),fun _ h=>h⟩
 ·refine aZ ?_
  skip
  obtain rfl:=hI.stop (.inr (by omega))
  exact⟨Z,Z⟩
set_option maxHeartbeats 1000000 in
theorem GH {s:CdS} (hn:n=s.k) (hc:XF s) (hsp:uS low size total) (hk:s.k≤1000000):
  Ct Tryz.prog 132 #[.pointer (GG g),I low,I size,I total] B w0 ((rc 253 3 g [.slice A n c, .int .u64 (s.N%4294967296), .int .u64 s.R])::(ru 5 A n c (beL s.k (s.N/4294967296)))::R) (fun v R'=> ∃(A1:Option Addr) (c1:Nat),v= .bool true∧R'=(rc 253 3 g [.slice A1 ((gQ s low size total).k) c1, .int .u64 ((gQ s low size total).N%4294967296), .int .u64 ((gQ s low size total).R)])::(ru 5 A1 ((gQ s low size total).k) c1 (beL (gQ s low size total).k ((gQ s low size total).N/4294967296)))::R):=by
 subst hn
 obtain⟨r0,r1,n0,nr⟩:=hc
 have hsp':=hsp
 obtain⟨s1,s2,s3,s4⟩:=hsp'
 obtain⟨f1,f2,f3,f4,f5⟩:=oV hsp ⟨r0,r1⟩
 refine fn1 Tryz.func132 Z Z Z ?_
 refine wq<|wn Z<|aG<|wq<|wm Z<|wy (cZ underlying181 Z Z)<|wm Z<|aC Z Z<|wm Z<|aC Z Z<|wm Z<|aC Z Z ?_
 refine wm Z<|aC Z Z<|wa (aF aXl Z (Ct.quiet (fun w hw=>CX hsp))) ?_
 rintro _ _ ⟨rfl,rfl⟩
 refine aC Z Z<|wy (dI Z)<|wy (aS Z Z)<|aA<|aL Z<|aK<|wq<|wm Z<|wy (aD Z)<|wy (aB (off:=2) (m:=2) underlying253 Z dP Z Z Z)<|wy (aJ (rdr 0 Z) underlying112 Z Z Z)<|wm Z<|wy (iU underlying3 underlying112 Z)<|wy (EN Z Z (by omega) (by omega)) ?_
 refine wn Z<|wq<|wm Z<|wy (aD Z)<|wy (aB (off:=1) (m:=1) underlying253 Z dP Z Z Z)<|wy (aJ (rdr 0 Z) underlying112 Z Z Z)<|wm Z<|wm Z<|wy (iU underlying3 underlying112 Z)<|wy (vY Z Z (by omega))<|wy (aYj Z Z (by omega))<|wy (aD Z)<|wy (aB (off:=1) (m:=1) underlying253 Z dP Z Z Z) ?_
 refine bY (aY 0 Z Z Z dP Z Z Z Z (Nat.le_of_ble_eq_true Z)) ?_
 rintro _ _ rfl
 refine aA<|aG<|wq<|wm Z<|wy (aD Z)<|wy (aB (off:=1) (m:=1) underlying253 Z dP Z Z Z)<|wy (aJ (rdr 0 Z) underlying112 Z Z Z)<|wy (pW (k:=32) (m:=4294967296) Z Z Z (by omega) Z)<|wy (dV Z Z)<|aA<|bM Z (fun hc1=> ?_) (fun hc1=> ?_)
 ·refine wq<|wm Z<|wy (aD Z)<|wy (aB (off:=1) (m:=1) underlying253 Z dP Z Z Z)<|wy (aJ (rdr 0 Z) underlying112 Z Z Z)<|wy (OM (m:=4294967296) 32 Z Z Z Z (by omega) Z)<|wy (aD Z)<|wy (aB (off:=1) (m:=1) underlying253 Z dP Z Z Z)<|bY (aY 0 Z Z Z dP Z Z Z Z (Nat.le_of_ble_eq_true Z)) ?_
  rintro _ _ rfl
  refine aA<|aM<|wm Z<|wa (aF bDx Z ((QD (by rw[kP]) (BR _ _) (by rw[kP];omega)))) ?_
  rintro _ _ ⟨rfl,rfl⟩
  refine aA<|aG<|wq<|wm Z<|wm Z<|wm Z<|wy (iU underlying3 underlying112 Z)<|wy (vY Z Z (by omega))<|wy (aD Z)<|wy (aB (off:=2) (m:=2) underlying253 Z dP Z Z Z)<|bY (aY 0 Z Z Z dP Z Z Z Z (Nat.le_of_ble_eq_true Z)) ?_
  rintro _ _ rfl
  refine aA<|aI ?_
  refine DW (fun(j:Nat) (A1:Option Addr) (n1:Nat) (c1:Nat) (V:List Int) (x:Int) (r:Int) (M:Int)=>[(0, .pointer (GG g))]) (fun j A1 n1 c1 V x r M=>((rc 253 3 g [.slice A1 n1 c1, .int .u64 x, .int .u64 r])::(ru 5 A1 n1 c1 V)::R)) (fun j A1 n1 c1 V x r M=>(M=(s.N+s.R/total*low)*256^j)∧(r=(s.R/total*size)*256^j)∧(j≤shN (s.R/total*size))∧(V=beL (s.k+j) (M/4294967296))∧(x=M%4294967296)∧(n1=s.k+j)) (fun j A1 n1 c1 V x r M=>(4-j)) ?_ ?_
  ·exact⟨0,A,s.k,c,DT (beL s.k (s.N/4294967296)) 1,((s.N%4294967296)+((s.R/total)*low))%4294967296,(s.R/total)*size,(s.N+s.R/total*low),⟨(by rw[Int.pow_zero,Int.mul_one]),(by rw[Int.pow_zero,Int.mul_one]),(Nat.zero_le _),(by first|(rw[QL,Nat.add_zero,show(s.N+s.R/total*low)/4294967296=s.N/4294967296+1 by omega])|(rw[Nat.add_zero,show(s.N+s.R/total*low)/4294967296=s.N/4294967296 by omega])),by omega,(Z)⟩,(G1 Z),fun _ h=>h⟩
  intro j A1 n1 c1 V x r M ⟨hM,hr,hj,hV,hx,hn1⟩
  have hsl:=FJ (s.R/total*size)
  have hrp:1≤r:=by rw[hr];exact GJ (by omega)
  refine aG<|wq<|wm Z<|wy (aD Z)<|wy (aB (off:=2) (m:=2) underlying253 Z dP Z Z Z)<|wy (aJ (rdr 0 Z) underlying112 Z Z Z)<|wL Z Z<|aA<|bM Z (fun hc2=> ?_) (fun hc2=> ?_)
  ·refine aK<|aG<|aI<|aG<|bT mixed<|wD 0 Z (aN Z)<|wD 1 Z (aN Z)<|wD 2 Z (aD Z)<|wD 3 Z (aB (off:=0) (m:=0) underlying253 Z dO Z Z Z)<|wD 4 Z (aJ (rdr 0 Z) underlying22 Z Z Z)<|wD 5 Z (aN Z)<|wD 6 Z (aD Z)<|wD 7 Z (aB (off:=1) (m:=1) underlying253 Z dP Z Z Z)<|wD 8 Z (aJ (rdr 0 Z) underlying112 Z Z Z)<|wD 9 Z (pW (k:=24) (m:=16777216) Z Z Z (by omega) Z) ?_
   refine wD 10 Z (iG underlying112 underlying5 Z)<|wC 11 Z (bS .u8 [(x/16777216)%256] underlying22 zs5 Z Z Z) ?_
   rintro _ _ ⟨g_2,rfl,rfl⟩
   refine⟨.inr fun _ h=>h.right (R':=[_]),?_⟩
   refine wC 12 Z (bE 2 Z underlying22 zb5 Z Z Z (rdr 0 Z)) ?_
   rintro _ _ ⟨A_3,c_4,rfl,rfl⟩
   refine⟨.inl (by kernel_rfl),?_⟩
   refine CE (v:= .slice A_3 (n1+1) c_4) Z<|wD 13 Z (aD Z)<|wD 14 Z (aB (off:=0) (m:=0) underlying253 Z dO Z Z Z)<|pR 15 Z (by kernel_rfl) (aY 1 Z Z Z dO Z Z Z Z (Nat.le_of_ble_eq_true Z)) ?_
   rintro _ _ rfl
   refine⟨.inl (by kernel_rfl),?_⟩
   refine wN<|aM<|wm Z<|wm Z<|wy (aD Z)<|wy (aB (off:=1) (m:=1) underlying253 Z dP Z Z Z)<|wy (aJ (rdr 1 Z) underlying112 Z Z Z)<|wy (vX (k:=8) (m:=256) Z Z Z (by omega) Z)<|wy (OM (m:=4294967296) 32 Z Z Z Z (by omega) Z)<|wy (aD Z)<|wy (aB (off:=1) (m:=1) underlying253 Z dP Z Z Z)<|bY (aY 1 Z Z Z dP Z Z Z Z (Nat.le_of_ble_eq_true Z)) ?_
   rintro _ _ rfl
   refine aA<|aM<|wm Z<|wy (aD Z)<|wy (aB (off:=2) (m:=2) underlying253 Z dP Z Z Z)<|wy (aJ (rdr 1 Z) underlying112 Z Z Z)<|wy (vX (k:=8) (m:=256) Z Z Z (by omega) Z)<|wy (aD Z)<|wy (aB (off:=2) (m:=2) underlying253 Z dP Z Z Z)<|bY (aY 1 Z Z Z dP Z Z Z Z (Nat.le_of_ble_eq_true Z)) ?_
   rintro _ _ rfl
   refine aA ?_
   exact⟨(j+1),A_3,n1+1,c_4,V++([(x/16777216)%256]),(x*256)%4294967296,r*256,(M*256),⟨(by rw[hM,Int.mul_assoc,←Int.pow_succ]),(by rw[hr,Int.mul_assoc,←Int.pow_succ]),(FI (by omega) hj (by rw[←hr];assumption)),(by rw[hV,hx];exact(WS _ _).symm),by omega,(by rw[hn1];rfl)⟩,by omega,(G1 Z),fun _ h=>h.selR (F:=[_,_,_]) (F':=[_,_]) [1,2] (by decide) Z⟩
  ·refine aZ<|wq<|wn Z<|bR (R1:=((rc 253 3 g [.slice A1 n1 c1, .int .u64 x, .int .u64 r])::(ru 5 A1 n1 c1 V)::R)) (fun _ h=>h) ?_
   refine⟨_,Z,?_⟩
   obtain rfl:j=shN (s.R/total*size):=OW (by omega) hj (by rw[←hr];omega)
   refine⟨A1,c1,Z,?_⟩
   rw[hV,hx,hr,hM,hn1]
   rfl
 ·refine aK<|aG<|wq<|wm Z<|wm Z<|wm Z<|wy (iU underlying3 underlying112 Z)<|wy (vY Z Z (by omega))<|wy (aD Z)<|wy (aB (off:=2) (m:=2) underlying253 Z dP Z Z Z)<|bY (aY 0 Z Z Z dP Z Z Z Z (Nat.le_of_ble_eq_true Z)) ?_
  rintro _ _ rfl
  refine aA<|aI ?_
  refine DW (fun(j:Nat) (A1:Option Addr) (n1:Nat) (c1:Nat) (V:List Int) (x:Int) (r:Int) (M:Int)=>[(0, .pointer (GG g))]) (fun j A1 n1 c1 V x r M=>((rc 253 3 g [.slice A1 n1 c1, .int .u64 x, .int .u64 r])::(ru 5 A1 n1 c1 V)::R)) (fun j A1 n1 c1 V x r M=>(M=(s.N+s.R/total*low)*256^j)∧(r=(s.R/total*size)*256^j)∧(j≤shN (s.R/total*size))∧(V=beL (s.k+j) (M/4294967296))∧(x=M%4294967296)∧(n1=s.k+j)) (fun j A1 n1 c1 V x r M=>(4-j)) ?_ ?_
  ·exact⟨0,A,s.k,c,beL s.k (s.N/4294967296),(s.N%4294967296)+((s.R/total)*low),(s.R/total)*size,(s.N+s.R/total*low),⟨(by rw[Int.pow_zero,Int.mul_one]),(by rw[Int.pow_zero,Int.mul_one]),(Nat.zero_le _),(by first|(rw[QL,Nat.add_zero,show(s.N+s.R/total*low)/4294967296=s.N/4294967296+1 by omega])|(rw[Nat.add_zero,show(s.N+s.R/total*low)/4294967296=s.N/4294967296 by omega])),by omega,(Z)⟩,(G1 Z),fun _ h=>h⟩
  intro j A1 n1 c1 V x r M ⟨hM,hr,hj,hV,hx,hn1⟩
  have hsl:=FJ (s.R/total*size)
  have hrp:1≤r:=by rw[hr];exact GJ (by omega)
  refine aG<|wq<|wm Z<|wy (aD Z)<|wy (aB (off:=2) (m:=2) underlying253 Z dP Z Z Z)<|wy (aJ (rdr 0 Z) underlying112 Z Z Z)<|wL Z Z<|aA<|bM Z (fun hc3=> ?_) (fun hc3=> ?_)
  ·refine aK<|aG<|aI<|aG<|bT mixed<|wD 0 Z (aN Z)<|wD 1 Z (aN Z)<|wD 2 Z (aD Z)<|wD 3 Z (aB (off:=0) (m:=0) underlying253 Z dO Z Z Z)<|wD 4 Z (aJ (rdr 0 Z) underlying22 Z Z Z)<|wD 5 Z (aN Z)<|wD 6 Z (aD Z)<|wD 7 Z (aB (off:=1) (m:=1) underlying253 Z dP Z Z Z)<|wD 8 Z (aJ (rdr 0 Z) underlying112 Z Z Z)<|wD 9 Z (pW (k:=24) (m:=16777216) Z Z Z (by omega) Z) ?_
   refine wD 10 Z (iG underlying112 underlying5 Z)<|wC 11 Z (bS .u8 [(x/16777216)%256] underlying22 zs5 Z Z Z) ?_
   rintro _ _ ⟨g_6,rfl,rfl⟩
   refine⟨.inr fun _ h=>h.right (R':=[_]),?_⟩
   refine wC 12 Z (bE 2 Z underlying22 zb5 Z Z Z (rdr 0 Z)) ?_
   rintro _ _ ⟨A_7,c_8,rfl,rfl⟩
   refine⟨.inl (by kernel_rfl),?_⟩
   refine CE (v:= .slice A_7 (n1+1) c_8) Z<|wD 13 Z (aD Z)<|wD 14 Z (aB (off:=0) (m:=0) underlying253 Z dO Z Z Z)<|pR 15 Z (by kernel_rfl) (aY 1 Z Z Z dO Z Z Z Z (Nat.le_of_ble_eq_true Z)) ?_
   rintro _ _ rfl
   refine⟨.inl (by kernel_rfl),?_⟩
   refine wN<|aM<|wm Z<|wm Z<|wy (aD Z)<|wy (aB (off:=1) (m:=1) underlying253 Z dP Z Z Z)<|wy (aJ (rdr 1 Z) underlying112 Z Z Z)<|wy (vX (k:=8) (m:=256) Z Z Z (by omega) Z)<|wy (OM (m:=4294967296) 32 Z Z Z Z (by omega) Z)<|wy (aD Z)<|wy (aB (off:=1) (m:=1) underlying253 Z dP Z Z Z)<|bY (aY 1 Z Z Z dP Z Z Z Z (Nat.le_of_ble_eq_true Z)) ?_
   rintro _ _ rfl
   refine aA<|aM<|wm Z<|wy (aD Z)<|wy (aB (off:=2) (m:=2) underlying253 Z dP Z Z Z)<|wy (aJ (rdr 1 Z) underlying112 Z Z Z)<|wy (vX (k:=8) (m:=256) Z Z Z (by omega) Z)<|wy (aD Z)<|wy (aB (off:=2) (m:=2) underlying253 Z dP Z Z Z)<|bY (aY 1 Z Z Z dP Z Z Z Z (Nat.le_of_ble_eq_true Z)) ?_
   rintro _ _ rfl
   refine aA ?_
   exact⟨(j+1),A_7,n1+1,c_8,V++([(x/16777216)%256]),(x*256)%4294967296,r*256,(M*256),⟨(by rw[hM,Int.mul_assoc,←Int.pow_succ]),(by rw[hr,Int.mul_assoc,←Int.pow_succ]),(FI (by omega) hj (by rw[←hr];assumption)),(by rw[hV,hx];exact(WS _ _).symm),by omega,(by rw[hn1];rfl)⟩,by omega,(G1 Z),fun _ h=>h.selR (F:=[_,_,_]) (F':=[_,_]) [1,2] (by decide) Z⟩
  ·refine aZ<|wq<|wn Z<|bR (R1:=((rc 253 3 g [.slice A1 n1 c1, .int .u64 x, .int .u64 r])::(ru 5 A1 n1 c1 V)::R)) (fun _ h=>h) ?_
   refine⟨_,Z,?_⟩
   obtain rfl:j=shN (s.R/total*size):=OW (by omega) hj (by rw[←hr];omega)
   refine⟨A1,c1,Z,?_⟩
   rw[hV,hx,hr,hM,hn1]
   rfl
theorem aPe {s:CdS} (hn:n=s.k) (hk:s.k≤1000000):
  Ct Tryz.prog 135 #[.pointer (GG g)] B w0 ((rc 253 3 g [.slice A n c, .int .u64 (s.N%4294967296), .int .u64 s.R])::(ru 5 A n c (beL s.k (s.N/4294967296)))::R) (fun v R'=> ∃(A1:Option Addr) (c1:Nat),v= .slice A1 (s.k+4) c1∧R'=(ru 5 A1 (s.k+4) c1 (beL (s.k+4) s.N))::(rc 253 3 g [.slice A n c, .int .u64 (s.N%4294967296), .int .u64 s.R])::(ru 5 A n c (beL s.k (s.N/4294967296)))::R):=by
 subst hn
 have hbl:=kP s.k (s.N/4294967296)
 refine fn1 Tryz.func135 Z Z Z ?_
 refine wq<|wn Z<|aG<|wq<|wm Z<|wy (cZ underlying181 Z Z)<|aA<|aL Z<|aK<|wq<|wm Z ?_
 refine wy (aD Z)<|wy (aB (off:=0) (m:=0) underlying253 Z dO Z Z Z)<|wy (aJ (rdr 0 Z) underlying22 Z Z Z)<|wa (aF VD Z (Ct.fresh (fun w hw=>lG ((rdr 1 Z) w hw) (by rw[kP];exact hk)))) ?_
 rintro _ _ ⟨_,rfl,A_1,c_2,rfl,rfl⟩
 refine wn Z<|aG<|wq<|wm Z<|aA<|aI<|qM 5<|dZ<|wq<|wy (Yl.t (eP Z Z) (by decide))<|aA<|aG ?_
 refine bO Z<|aK<|aG<|aI<|wq<|wm Z<|wn Z<|aM<|wm Z<|wm Z<|wy (aD Z)<|wy (aB (off:=1) (m:=1) underlying253 Z dP Z Z Z)<|wy (aJ (rdr 1 Z) underlying112 Z Z Z) ?_
 refine wm Z<|wy (Yl.is (dF Z Z) Z)<|wy (Yl.is (iA Z Z) Z)<|wy (Yl.is (jF Z Z) Z)<|wy (pW (k:=24) (m:=16777216) Z Z Z (by omega) Z)<|wy (iG underlying112 underlying5 Z)<|wa (bS .u8 [((s.N%4294967296)/16777216)%256] underlying22 zs5 Z Z Z) ?_
 rintro _ _ ⟨g_4,rfl,rfl⟩
 refine wa (bE 1 Z underlying22 zb5 Z Z Z (rdr 0 Z)) ?_
 rintro _ _ ⟨A_5,c_6,rfl,rfl⟩
 refine bN (v:= .slice A_5 (((beL s.k (s.N/4294967296)).length)+1) c_6) Z<|wn Z<|aM<|wy (Yl.is (dF Z Z) Z)<|wm Z<|aA<|dZ<|wq<|wy (Yl.t (eP Z Z) (by decide))<|aA<|aG<|bO Z<|aK ?_
 refine aG<|aI<|wq<|wm Z<|wn Z<|aM<|wm Z<|wm Z<|wy (aD Z)<|wy (aB (off:=1) (m:=1) underlying253 Z dP Z Z Z)<|wy (aJ (rdr 2 Z) underlying112 Z Z Z)<|wm Z<|wy (Yl.is (dF Z Z) Z) ?_
 refine wy (Yl.is (iA Z Z) Z)<|wy (Yl.is (jF Z Z) Z)<|wy (pW (k:=16) (m:=65536) Z Z Z (by omega) Z)<|wy (iG underlying112 underlying5 Z)<|wa (bS .u8 [((s.N%4294967296)/65536)%256] underlying22 zs5 Z Z Z) ?_
 rintro _ _ ⟨g_8,rfl,rfl⟩
 refine wa (bE 2 Z underlying22 zb5 Z Z Z (rdr 0 Z)) ?_
 rintro _ _ ⟨A_9,c_10,rfl,rfl⟩
 refine bN (v:= .slice A_9 ((((beL s.k (s.N/4294967296)).length)+1)+1) c_10) Z<|wn Z<|aM<|wy (Yl.is (dF Z Z) Z)<|wm Z<|aA<|dZ<|wq<|wy (Yl.t (eP Z Z) (by decide))<|aA<|aG<|bO Z<|aK ?_
 refine aG<|aI<|wq<|wm Z<|wn Z<|aM<|wm Z<|wm Z<|wy (aD Z)<|wy (aB (off:=1) (m:=1) underlying253 Z dP Z Z Z)<|wy (aJ (rdr 3 Z) underlying112 Z Z Z)<|wm Z<|wy (Yl.is (dF Z Z) Z) ?_
 refine wy (Yl.is (iA Z Z) Z)<|wy (Yl.is (jF Z Z) Z)<|wy (pW (k:=8) (m:=256) Z Z Z (by omega) Z)<|wy (iG underlying112 underlying5 Z)<|wa (bS .u8 [((s.N%4294967296)/256)%256] underlying22 zs5 Z Z Z) ?_
 rintro _ _ ⟨g_12,rfl,rfl⟩
 refine wa (bE 3 Z underlying22 zb5 Z Z Z (rdr 0 Z)) ?_
 rintro _ _ ⟨A_13,c_14,rfl,rfl⟩
 refine bN (v:= .slice A_13 (((((beL s.k (s.N/4294967296)).length)+1)+1)+1) c_14) Z<|wn Z<|aM<|wy (Yl.is (dF Z Z) Z)<|wm Z<|aA<|dZ<|wq<|wy (Yl.t (eP Z Z) (by decide))<|aA<|aG<|bO Z<|aK ?_
 refine aG<|aI<|wq<|wm Z<|wn Z<|aM<|wm Z<|wm Z<|wy (aD Z)<|wy (aB (off:=1) (m:=1) underlying253 Z dP Z Z Z)<|wy (aJ (rdr 4 Z) underlying112 Z Z Z)<|wm Z<|wy (Yl.is (dF Z Z) Z) ?_
 refine wy (Yl.is (iA Z Z) Z)<|wy (Yl.is (jF Z Z) Z)<|wy (pW (k:=0) (m:=1) Z Z Z (by omega) Z)<|wy (iG underlying112 underlying5 Z)<|wa (bS .u8 [((s.N%4294967296)/1)%256] underlying22 zs5 Z Z Z) ?_
 rintro _ _ ⟨g_16,rfl,rfl⟩
 refine wa (bE 4 Z underlying22 zb5 Z Z Z (rdr 0 Z)) ?_
 rintro _ _ ⟨A_17,c_18,rfl,rfl⟩
 refine bN (v:= .slice A_17 ((((((beL s.k (s.N/4294967296)).length)+1)+1)+1)+1) c_18) Z<|wn Z<|aM<|wy (Yl.is (dF Z Z) Z)<|wm Z<|aA<|dZ<|wq<|wy (Yl.f (eP Z Z) (by decide))<|aA<|aG<|aL Z<|aZ ?_
 refine wq<|wm Z<|wn Z<|aT [4,5,6] 7 (by decide) Z ?_
 refine⟨_,Z,?_⟩
 have e:(beL s.k (s.N/4294967296)).length+1+1+1+1=s.k+4:=by omega
 rw[e,←aVz s.k s.N _ rfl]
 exact⟨_,_,Z,Z⟩
variable {w w0:World} {sym o cls x i:Int} {B g g0 g1 g2 c:Nat} {R:List Row} {A:Option Addr} {C l:List Int}
theorem xB:
  Ct Tryz.prog 206 #[I sym] w.heap.size w [] (fun v R'=>v=I (lF sym)):=by
 refine fn1 Tryz.func206 Z Z Z ?_
 refine wq<|wn Z<|aG<|aI<|wq<|wm Z<|wL Z Z<|wn Z<|bM Z (fun hc1=> ?_) (fun hc1=> ?_)
 ·refine wq<|wn Z<|dJ ?_
  refine⟨_,Z,?_⟩
  exact congrArg (Value.int .i64) (by unfold lF;rw[if_pos (by assumption)])
 ·refine wq<|wm Z<|wL Z Z<|wn Z<|bM Z (fun hc2=> ?_) (fun hc2=> ?_)
  ·refine wq<|wn Z<|dJ ?_
   refine⟨_,Z,?_⟩
   exact congrArg (Value.int .i64) (by unfold lF;rw[if_neg (by assumption),if_pos (by assumption)])
  ·refine aK<|wq<|wn Z<|dJ ?_
   refine⟨_,Z,?_⟩
   exact congrArg (Value.int .i64) (by unfold lF;rw[if_neg (by assumption),if_neg (by assumption)])
theorem yY (ho:o=0∨o=1):
  Ct Tryz.prog 126 #[I o] w.heap.size w [] (fun v R'=>v= .bool true):=by
 refine fn1 Tryz.func126 Z Z Z ?_
 refine wq<|wn Z<|wq<|wm Z<|wy (bC Z Z)<|wm Z<|dS 3 [(8, .bool (decide ((o=0)∨(o=1))))] [] ?_ ?_
 ·refine dC 5 Z (fun hc1=> ?_) (fun hc1=> ?_)
  ·refine aP Z Z Z Z<|aP Z Z Z Z<|wy (bA Z Z)<|aA ?_
   exact⟨(Sub.to Z mtA Sub.nil),fun _ h=>h⟩
  ·refine aC Z Z<|wm Z<|aC Z Z<|wy (bC Z Z)<|wy (aS Z Z)<|aA ?_
   exact⟨(Sub.to Z mbA Sub.nil),fun _ h=>h⟩
 refine kK 8 Z (ho)<|wn Z<|dJ ?_
 refine⟨_,Z,?_⟩
 rfl
theorem MX:
  Ct Tryz.prog 127 #[I o] w.heap.size w [] (fun v R'=> ∃(g g0 g1 g2:Nat) (A0 A1 A2:Option Addr) (c0 c1 c2:Nat),v= .pointer (GG g)∧R'=[(rc 250 5 g [.pointer (GG g0), .pointer (GG g1), .pointer (GG g2),I 0,I o]),(rc 256 2 g0 [.slice A0 258 c0,I 258]),(ri 3 A0 258 c0 wT),(rc 256 2 g1 [.slice A1 258 c1,I 258]),(ri 3 A1 258 c1 wT),(rc 256 2 g2 [.slice A2 258 c2,I 258]),(ri 3 A2 258 c2 wT)]):=by
 refine fn1 Tryz.func127 Z Z Z ?_
 refine wq<|wn Z<|wq<|wm Z<|wy (dY (v:= .agg #[.pointer none, .pointer none, .pointer none,I 0,I o]) Z (fun w=>by kernel_rfl))<|wa (bX (sz:=5) rfl rfl) ?_
 rintro _ _ ⟨g_1,rfl,rfl⟩
 refine wn Z<|aG<|wq<|wm Z<|aA<|aI<|qM 4<|dZ<|wq<|wy (Yl.t (eP Z Z) (by decide))<|aA<|aG ?_
 refine bO Z<|aK<|aG<|aI<|wq<|wm Z<|wn Z<|bT mixed<|wD 0 Z (aN Z)<|wD 1 Z (aN Z)<|wD 3 Z (aD Z)<|wD 4 Z (aB (off:=0) (m:=0) underlying250 Z LQ Z Z Z)<|wC 2 Z (aF aPo Z (Ct.fresh (fun w hw=>uE))) ?_
 rintro _ _ ⟨_,rfl,g_2,A_3,c_4,rfl,rfl⟩
 refine⟨.inr fun _ h=>h.right (R':=[_,_]),?_⟩
 refine wD 5 Z (dB (q:=0) (rdr 2 Z) underlying248 xU Z Z (Nat.le_of_ble_eq_true Z) (by decide) (by decide) Z)<|pR 6 Z (by kernel_rfl) (aY 2 Z Z Z xU Z Z Z Z (Nat.le_of_ble_eq_true Z)) ?_
 rintro _ _ rfl
 refine⟨.inl (by kernel_rfl),?_⟩
 refine wN<|aM<|wy (Yl.is (dF Z Z) Z)<|wm Z<|aA<|dZ<|wq<|wy (Yl.t (eP Z Z) (by decide))<|aA<|aG<|bO Z<|aK<|aG<|aI ?_
 refine wq<|wm Z<|wn Z<|bT mixed<|wD 0 Z (aN Z)<|wD 1 Z (aN Z)<|wD 3 Z (aD Z)<|wD 4 Z (aB (off:=0) (m:=0) underlying250 Z LQ Z Z Z)<|wC 2 Z (aF aPo Z (Ct.fresh (fun w hw=>uE))) ?_
 rintro _ _ ⟨_,rfl,g_6,A_7,c_8,rfl,rfl⟩
 refine⟨.inr fun _ h=>h.right (R':=[_,_]),?_⟩
 refine wD 5 Z (dB (q:=1) (rdr 4 Z) underlying248 xU Z Z (Nat.le_of_ble_eq_true Z) (by decide) (by decide) Z)<|pR 6 Z (by kernel_rfl) (aY 4 Z Z Z xU Z Z Z Z (Nat.le_of_ble_eq_true Z)) ?_
 rintro _ _ rfl
 refine⟨.inl (by kernel_rfl),?_⟩
 refine wN<|aM<|wy (Yl.is (dF Z Z) Z)<|wm Z<|aA<|dZ<|wq<|wy (Yl.t (eP Z Z) (by decide))<|aA<|aG<|bO Z<|aK<|aG<|aI ?_
 refine wq<|wm Z<|wn Z<|bT mixed<|wD 0 Z (aN Z)<|wD 1 Z (aN Z)<|wD 3 Z (aD Z)<|wD 4 Z (aB (off:=0) (m:=0) underlying250 Z LQ Z Z Z)<|wC 2 Z (aF aPo Z (Ct.fresh (fun w hw=>uE))) ?_
 rintro _ _ ⟨_,rfl,g_10,A_11,c_12,rfl,rfl⟩
 refine⟨.inr fun _ h=>h.right (R':=[_,_]),?_⟩
 refine wD 5 Z (dB (q:=2) (rdr 6 Z) underlying248 xU Z Z (Nat.le_of_ble_eq_true Z) (by decide) (by decide) Z)<|pR 6 Z (by kernel_rfl) (aY 6 Z Z Z xU Z Z Z Z (Nat.le_of_ble_eq_true Z)) ?_
 rintro _ _ rfl
 refine⟨.inl (by kernel_rfl),?_⟩
 refine wN<|aM<|wy (Yl.is (dF Z Z) Z)<|wm Z<|aA<|dZ<|wq<|wy (Yl.f (eP Z Z) (by decide))<|aA<|aG<|aL Z<|aZ<|wq ?_
 refine wm Z<|wn Z<|aT [6,4,5,2,3,0,1] 99 (by decide) Z ?_
 refine⟨_,Z,?_⟩
 exact⟨_,_,_,_,_,_,_,_,_,_,Z,Z⟩
theorem mW (hk:cls*o=0):
  Ct Tryz.prog 130 #[.pointer (GG g)] B w0 ((rc 250 5 g [.pointer (GG g0), .pointer (GG g1), .pointer (GG g2),I cls,I o])::R) (fun v R'=>v= .pointer (GG g0)∧R'=(rc 250 5 g [.pointer (GG g0), .pointer (GG g1), .pointer (GG g2),I cls,I o])::R):=by
 refine fn1 Tryz.func130 Z Z Z ?_
 refine wq<|wn Z<|aG<|bT mixed<|wD 0 Z (aN Z)<|wD 1 Z (aN Z)<|wD 2 Z (aD Z)<|wD 3 Z (aB (off:=3) (m:=3) underlying250 Z sz3 Z Z Z)<|wD 4 Z (aJ (rdr 0 Z) underlying3 Z Z Z)<|wD 5 Z (aN Z)<|wD 6 Z (aD Z)<|wD 7 Z (aB (off:=4) (m:=4) underlying250 Z sz3 Z Z Z)<|wD 8 Z (aJ (rdr 0 Z) underlying3 Z Z Z) ?_
 refine wD 9 Z (Yl.is (iA Z Z) (by rw[hk])) ?_
 refine wD 10 Z (aD Z)<|wD 11 Z (aB (off:=0) (m:=0) underlying250 Z LQ Z Z Z)<|wD 12 Z (dB (q:=0) (rdr 0 Z) underlying248 xU Z Z (Nat.le_of_ble_eq_true Z) (by decide) (by decide) Z)<|wD 13 Z (aJ (rdr 0 Z) underlying185 Z Z Z)<|wD 14 Z (bQ Z)<|wN<|bR (R1:=((rc 250 5 g [.pointer (GG g0), .pointer (GG g1), .pointer (GG g2),I cls,I o])::R)) (fun _ h=>h) ?_
 refine⟨_,Z,?_⟩
 exact⟨Z,Z⟩
theorem mV (hk:cls*o=1):
  Ct Tryz.prog 130 #[.pointer (GG g)] B w0 ((rc 250 5 g [.pointer (GG g0), .pointer (GG g1), .pointer (GG g2),I cls,I o])::R) (fun v R'=>v= .pointer (GG g1)∧R'=(rc 250 5 g [.pointer (GG g0), .pointer (GG g1), .pointer (GG g2),I cls,I o])::R):=by
 refine fn1 Tryz.func130 Z Z Z ?_
 refine wq<|wn Z<|aG<|bT mixed<|wD 0 Z (aN Z)<|wD 1 Z (aN Z)<|wD 2 Z (aD Z)<|wD 3 Z (aB (off:=3) (m:=3) underlying250 Z sz3 Z Z Z)<|wD 4 Z (aJ (rdr 0 Z) underlying3 Z Z Z)<|wD 5 Z (aN Z)<|wD 6 Z (aD Z)<|wD 7 Z (aB (off:=4) (m:=4) underlying250 Z sz3 Z Z Z)<|wD 8 Z (aJ (rdr 0 Z) underlying3 Z Z Z) ?_
 refine wD 9 Z (Yl.is (iA Z Z) (by rw[hk])) ?_
 refine wD 10 Z (aD Z)<|wD 11 Z (aB (off:=0) (m:=0) underlying250 Z LQ Z Z Z)<|wD 12 Z (dB (q:=1) (rdr 0 Z) underlying248 xU Z Z (Nat.le_of_ble_eq_true Z) (by decide) (by decide) Z)<|wD 13 Z (aJ (rdr 0 Z) underlying185 Z Z Z)<|wD 14 Z (bQ Z)<|wN<|bR (R1:=((rc 250 5 g [.pointer (GG g0), .pointer (GG g1), .pointer (GG g2),I cls,I o])::R)) (fun _ h=>h) ?_
 refine⟨_,Z,?_⟩
 exact⟨Z,Z⟩
theorem mU (hk:cls*o=2):
  Ct Tryz.prog 130 #[.pointer (GG g)] B w0 ((rc 250 5 g [.pointer (GG g0), .pointer (GG g1), .pointer (GG g2),I cls,I o])::R) (fun v R'=>v= .pointer (GG g2)∧R'=(rc 250 5 g [.pointer (GG g0), .pointer (GG g1), .pointer (GG g2),I cls,I o])::R):=by
 refine fn1 Tryz.func130 Z Z Z ?_
 refine wq<|wn Z<|aG<|bT mixed<|wD 0 Z (aN Z)<|wD 1 Z (aN Z)<|wD 2 Z (aD Z)<|wD 3 Z (aB (off:=3) (m:=3) underlying250 Z sz3 Z Z Z)<|wD 4 Z (aJ (rdr 0 Z) underlying3 Z Z Z)<|wD 5 Z (aN Z)<|wD 6 Z (aD Z)<|wD 7 Z (aB (off:=4) (m:=4) underlying250 Z sz3 Z Z Z)<|wD 8 Z (aJ (rdr 0 Z) underlying3 Z Z Z) ?_
 refine wD 9 Z (Yl.is (iA Z Z) (by rw[hk])) ?_
 refine wD 10 Z (aD Z)<|wD 11 Z (aB (off:=0) (m:=0) underlying250 Z LQ Z Z Z)<|wD 12 Z (dB (q:=2) (rdr 0 Z) underlying248 xU Z Z (Nat.le_of_ble_eq_true Z) (by decide) (by decide) Z)<|wD 13 Z (aJ (rdr 0 Z) underlying185 Z Z Z)<|wD 14 Z (bQ Z)<|wN<|bR (R1:=((rc 250 5 g [.pointer (GG g0), .pointer (GG g1), .pointer (GG g2),I cls,I o])::R)) (fun _ h=>h) ?_
 refine⟨_,Z,?_⟩
 exact⟨Z,Z⟩
theorem FN (hk:cls*o=0) (hs:0≤sym∧sym<C.length) (hok:lJ C):
  Ct Tryz.prog 134 #[.pointer (GG g),I sym] B w0 ((rc 250 5 g [.pointer (GG g0), .pointer (GG g1), .pointer (GG g2),I cls,I o])::(rc 256 2 g0 [.slice A 258 c,I (aU C)])::(ri 3 A 258 c C)::R) (fun v R'=>v= .tuple #[]∧R'=(rc 250 5 g [.pointer (GG g0), .pointer (GG g1), .pointer (GG g2),I (lF sym),I o])::(rc 256 2 g0 [.slice A 258 c,I (aU (lK C sym))])::(ri 3 A 258 c (lK C sym))::R):=by
 have hcl:=hok.1
 refine fn0 Tryz.func134 Z Z Z ?_
 refine wq<|wm Z<|wa (aF mH Z (Ct.at 0 Z (mW (by assumption)))) ?_
 rintro _ _ ⟨rfl,rfl⟩
 refine wm Z<|wa (aF aPn Z (Ct.pick [1,2,0] 3 (by decide) Z (uD (by rw[hcl]) hs hok))) ?_
 rintro _ _ ⟨rfl,rfl⟩
 refine dH (R1:=((rc 250 5 g [.pointer (GG g0), .pointer (GG g1), .pointer (GG g2),I cls,I o])::(rc 256 2 g0 [.slice A 258 c,I (aU (lK C sym))])::(ri 3 A 258 c (lK C sym))::R)) (Sub.refl _) (fun _ h=>h.selR (F:=[_,_,_]) (F':=[_,_,_]) [2,0,1] (by decide) Z)<|aA<|aM<|wm Z<|wm Z<|wa (aF aPm Z (Ct.quiet (fun w hw=>xB))) ?_
 rintro _ _ ⟨rfl,rfl⟩
 refine wy (aD Z)<|wy (aB (off:=3) (m:=3) underlying250 Z sz3 Z Z Z)<|bY (aY 0 Z Z Z sz3 Z Z Z Z (Nat.le_of_ble_eq_true Z)) ?_
 rintro _ _ rfl
 refine aA ?_
 skip
 exact⟨Z,Z⟩
theorem FM (hk:cls*o=1) (hs:0≤sym∧sym<C.length) (hok:lJ C):
  Ct Tryz.prog 134 #[.pointer (GG g),I sym] B w0 ((rc 250 5 g [.pointer (GG g0), .pointer (GG g1), .pointer (GG g2),I cls,I o])::(rc 256 2 g1 [.slice A 258 c,I (aU C)])::(ri 3 A 258 c C)::R) (fun v R'=>v= .tuple #[]∧R'=(rc 250 5 g [.pointer (GG g0), .pointer (GG g1), .pointer (GG g2),I (lF sym),I o])::(rc 256 2 g1 [.slice A 258 c,I (aU (lK C sym))])::(ri 3 A 258 c (lK C sym))::R):=by
 have hcl:=hok.1
 refine fn0 Tryz.func134 Z Z Z ?_
 refine wq<|wm Z<|wa (aF mH Z (Ct.at 0 Z (mV (by assumption)))) ?_
 rintro _ _ ⟨rfl,rfl⟩
 refine wm Z<|wa (aF aPn Z (Ct.pick [1,2,0] 3 (by decide) Z (uD (by rw[hcl]) hs hok))) ?_
 rintro _ _ ⟨rfl,rfl⟩
 refine dH (R1:=((rc 250 5 g [.pointer (GG g0), .pointer (GG g1), .pointer (GG g2),I cls,I o])::(rc 256 2 g1 [.slice A 258 c,I (aU (lK C sym))])::(ri 3 A 258 c (lK C sym))::R)) (Sub.refl _) (fun _ h=>h.selR (F:=[_,_,_]) (F':=[_,_,_]) [2,0,1] (by decide) Z)<|aA<|aM<|wm Z<|wm Z<|wa (aF aPm Z (Ct.quiet (fun w hw=>xB))) ?_
 rintro _ _ ⟨rfl,rfl⟩
 refine wy (aD Z)<|wy (aB (off:=3) (m:=3) underlying250 Z sz3 Z Z Z)<|bY (aY 0 Z Z Z sz3 Z Z Z Z (Nat.le_of_ble_eq_true Z)) ?_
 rintro _ _ rfl
 refine aA ?_
 skip
 exact⟨Z,Z⟩
theorem FK (hk:cls*o=2) (hs:0≤sym∧sym<C.length) (hok:lJ C):
  Ct Tryz.prog 134 #[.pointer (GG g),I sym] B w0 ((rc 250 5 g [.pointer (GG g0), .pointer (GG g1), .pointer (GG g2),I cls,I o])::(rc 256 2 g2 [.slice A 258 c,I (aU C)])::(ri 3 A 258 c C)::R) (fun v R'=>v= .tuple #[]∧R'=(rc 250 5 g [.pointer (GG g0), .pointer (GG g1), .pointer (GG g2),I (lF sym),I o])::(rc 256 2 g2 [.slice A 258 c,I (aU (lK C sym))])::(ri 3 A 258 c (lK C sym))::R):=by
 have hcl:=hok.1
 refine fn0 Tryz.func134 Z Z Z ?_
 refine wq<|wm Z<|wa (aF mH Z (Ct.at 0 Z (mU (by assumption)))) ?_
 rintro _ _ ⟨rfl,rfl⟩
 refine wm Z<|wa (aF aPn Z (Ct.pick [1,2,0] 3 (by decide) Z (uD (by rw[hcl]) hs hok))) ?_
 rintro _ _ ⟨rfl,rfl⟩
 refine dH (R1:=((rc 250 5 g [.pointer (GG g0), .pointer (GG g1), .pointer (GG g2),I cls,I o])::(rc 256 2 g2 [.slice A 258 c,I (aU (lK C sym))])::(ri 3 A 258 c (lK C sym))::R)) (Sub.refl _) (fun _ h=>h.selR (F:=[_,_,_]) (F':=[_,_,_]) [2,0,1] (by decide) Z)<|aA<|aM<|wm Z<|wm Z<|wa (aF aPm Z (Ct.quiet (fun w hw=>xB))) ?_
 rintro _ _ ⟨rfl,rfl⟩
 refine wy (aD Z)<|wy (aB (off:=3) (m:=3) underlying250 Z sz3 Z Z Z)<|bY (aY 0 Z Z Z sz3 Z Z Z Z (Nat.le_of_ble_eq_true Z)) ?_
 rintro _ _ rfl
 refine aA ?_
 skip
 exact⟨Z,Z⟩
theorem aCi {s:PpS} (h:s.cls*o=0):jY o s x=⟨lK s.c0 x,s.c1,s.c2,lF x,sN s.cd s.c0 x⟩:=by
 unfold jY aFy tO
 rw[if_pos h,if_pos h]
theorem aCh {s:PpS} (h:s.cls*o=1):jY o s x=⟨s.c0,lK s.c1 x,s.c2,lF x,sN s.cd s.c1 x⟩:=by
 unfold jY aFy tO
 rw[if_neg (by omega),if_pos h,if_neg (by omega),if_pos h]
theorem aCg {s:PpS} (h:s.cls*o=2):jY o s x=⟨s.c0,s.c1,lK s.c2 x,lF x,sN s.cd s.c2 x⟩:=by
 unfold jY aFy tO
 rw[if_neg (by omega),if_neg (by omega),if_neg (by omega),if_neg (by omega)]
theorem qR {s t:PpS} (h:s=encP o (l.take i.toNat)) (h0:0≤i) (hi:i<l.length) (ht:jY o s (rd l i)=t):t=encP o (l.take (i+1).toNat):=by
 rw[dD h0 hi,aIg,←h,ht]
theorem aEf {s:PpS} (hl:aBq l) (h:s=encP o (l.take i.toNat)):KZ s∧s.cd.k≤2*l.length:=by
 have:=zH (o:=o) (l:=l.take i.toNat) (fun x hx=>hl x (List.mem_of_mem_take hx))
 rw[←h,List.length_take] at this
 exact⟨this.1,by omega⟩
theorem WH {s:PpS} (h:KZ s) (ho:o=0∨o=1):s.cls*o=0∨s.cls*o=1∨s.cls*o=2:=by
 have:=h.2.1
 rcases ho with rfl|rfl<;>omega
set_option maxHeartbeats 4000000 in
theorem vI {A_b:Option Addr} {n_b c_b:Nat} {b:List Int} (h_b:Rd w A_b n_b c_b 1 (ints .u8 b)) (bh_b:aO b) (ho:o=0∨o=1) (hN:b.length≤100000):
  Ct Tryz.prog 75 #[.slice A_b n_b c_b,I o] w.heap.size w [] (fun v R'=> ∃A c,v= .tuple #[.slice A (dK b o).length c, .bool true]∧R'=[(ru 5 A ((dK b o).length) c (dK b o))]):=by
 obtain rfl:=h_b.lenI
 refine fn2 Tryz.func75 Z Z Z ?_
 have m_b:=h_b.max
 have hsy:=qN bh_b
 have hsl:=LU b
 have htl:=oU (bB aR b) 0
 rw[gG] at htl
 have hs1:(bK b).length=(bD 0 (bB aR b)).length+1:=by unfold bK;rw[List.length_append];rfl
 refine wq<|wg Z<|wn Z<|aG<|wq<|wm Z<|wa (aF aXt Z (Ct.quiet (fun w hw=>yY ho))) ?_
 rintro _ _ ⟨rfl,rfl⟩
 refine wy (dI Z)<|wm Z<|aC Z Z<|wm Z<|aC Z Z<|wy (aQ underlying22 Z)<|aC Z Z<|wy (Yl.f (dV Z Z))<|wy (aS Z Z)<|aA<|aL Z<|aK<|wq<|wm Z ?_
 refine wa (aF aXs Z (Ct.fresh (fun w hw=>MX))) ?_
 rintro _ _ ⟨_,rfl,g_1,g_2,g_3,g_4,A_5,A_6,A_7,c_8,c_9,c_10,rfl,rfl⟩
 refine wn Z<|wq<|wa (aF bEo Z (Ct.fresh (fun w hw=>HY))) ?_
 rintro _ _ ⟨_,rfl,g_11,A_12,c_13,rfl,rfl⟩
 refine wn Z<|aG<|wq<|wm Z<|wa (aF bCi Z (Ct.fresh (fun w hw=>MV ((h_b.c _) w hw) bh_b (by omega)))) ?_
 rintro _ _ ⟨_,rfl,A_14,c_15,rfl,rfl⟩
 refine wa (aF bEn Z (Ct.fresh (fun w hw=>aFm ((rdr 0 Z) w hw) (jK bh_b) (by rw[gG];omega)))) ?_
 rintro _ _ ⟨_,rfl,A_17,c_18,rfl,rfl⟩
 refine wa (bS .i64 [257] underlying52 zs3 Z Z Z) ?_
 rintro _ _ ⟨g_21,rfl,rfl⟩
 refine wa (bE 1 Z underlying52 zb3 Z Z Z (rdr 0 Z)) ?_
 rintro _ _ ⟨A_22,c_23,rfl,rfl⟩
 refine bN (v:= .slice A_22 (((bD 0 (bB aR b)).length)+1) c_23) Z<|wy (aQ underlying52 Z)<|wm Z<|aA<|aI ?_
 refine DX (fun(i:Int) (Aw:Option Addr) (cw:Nat) (Sx:PpS)=>[(6, .pointer (GG g_1)),(7, .pointer (GG g_11)),(28, .slice A_22 (((bD 0 (bB aR b)).length)+1) c_23),(29,I ((((bD 0 (bB aR b)).length)+1:Nat):Int)),(30,I i)]) (fun i Aw cw Sx=>[(ri 3 (GG g_21) 1 1 ([257])),(ri 3 A_22 (((bD 0 (bB aR b)).length)+1) c_23 ((bD 0 (bB aR b))++([257]))),(ru 5 A_14 ((b).length) c_15 (bB aR b)),(rc 253 3 g_11 [.slice Aw Sx.cd.k cw, .int .u64 (Sx.cd.N%4294967296), .int .u64 Sx.cd.R]),(ru 5 Aw Sx.cd.k cw (beL Sx.cd.k (Sx.cd.N/4294967296))),(rc 250 5 g_1 [.pointer (GG g_2), .pointer (GG g_3), .pointer (GG g_4),I Sx.cls,I o]),(rc 256 2 g_2 [.slice A_5 258 c_8,I (aU Sx.c0)]),(ri 3 A_5 258 c_8 Sx.c0),(rc 256 2 g_3 [.slice A_6 258 c_9,I (aU Sx.c1)]),(ri 3 A_6 258 c_9 Sx.c1),(rc 256 2 g_4 [.slice A_7 258 c_10,I (aU Sx.c2)]),(ri 3 A_7 258 c_10 Sx.c2)]) (fun i Aw cw Sx=>(0≤i)∧(i≤(bK b).length)∧(Sx=encP o ((bK b).take i.toNat))) (fun i Aw cw Sx=>((bK b).length-i).toNat) ?_ ?_
 ·exact⟨0,A_12,c_13,pp0,⟨by omega,by omega,(Z)⟩,(G5 Z Z Z Z Z),fun _ h=>h⟩
 intro i Aw cw Sx ⟨hi0,hi1,hS⟩
 have hin:=aEf hsy hS
 refine wq<|wL Z Z<|aA<|aG<|bM Z (fun hc1=> ?_) (fun hc1=> ?_)
 ·have hx:=hsy _ (bH (L:=bK b) (k:=i) hi0 (by omega))
  refine aK<|aG<|aI<|wq<|wy (aH underlying52 sz3 Z Z (rdr 1 Z))<|wy (aX underlying3 Z Z (rdr 1 Z))<|wn Z<|wq ?_
  rcases WH hin.1 ho with hk|hk|hk
  ·refine wm Z<|wa (aF mH Z (Ct.at 5 Z (mW hk))) ?_
   rintro _ _ ⟨rfl,rfl⟩
   refine wm Z<|wa (aF NQ Z (Ct.sub (R1:=[(rc 256 2 g_2 [.slice A_5 258 c_8,I (aU Sx.c0)]),(ri 3 A_5 258 c_8 Sx.c0),(ri 3 (GG g_21) 1 1 ([257])),(ri 3 A_22 (((bD 0 (bB aR b)).length)+1) c_23 ((bD 0 (bB aR b))++([257]))),(ru 5 A_14 ((b).length) c_15 (bB aR b)),(rc 253 3 g_11 [.slice Aw Sx.cd.k cw, .int .u64 (Sx.cd.N%4294967296), .int .u64 Sx.cd.R]),(ru 5 Aw Sx.cd.k cw (beL Sx.cd.k (Sx.cd.N/4294967296))),(rc 250 5 g_1 [.pointer (GG g_2), .pointer (GG g_3), .pointer (GG g_4),I Sx.cls,I o]),(rc 256 2 g_3 [.slice A_6 258 c_9,I (aU Sx.c1)]),(ri 3 A_6 258 c_9 Sx.c1),(rc 256 2 g_4 [.slice A_7 258 c_10,I (aU Sx.c2)]),(ri 3 A_7 258 c_10 Sx.c2)]) (fun _ h=>h.sel [6,7,0,1,2,3,4,5,8,9,10,11] (by decide) Z) (jS (by rw[hin.1.1.1.1]) (by rw[hin.1.1.1.1];exact hx) hin.1.1.1))) ?_
   rintro _ _ ⟨rfl,rfl⟩
   refine wm Z<|wX Z Z<|wX Z Z<|wX Z Z<|wg Z<|wg Z<|wn Z<|wq<|wm Z<|wm Z<|wm Z<|wm Z<|wa (aF mH Z (Ct.at 7 Z (mW hk))) ?_
   rintro _ _ ⟨rfl,rfl⟩
   refine wa (aF IY Z (Ct.sub (R1:=[(rc 256 2 g_2 [.slice A_5 258 c_8,I (aU Sx.c0)]),(ri 3 A_5 258 c_8 Sx.c0),(ri 3 (GG g_21) 1 1 ([257])),(ri 3 A_22 (((bD 0 (bB aR b)).length)+1) c_23 ((bD 0 (bB aR b))++([257]))),(ru 5 A_14 ((b).length) c_15 (bB aR b)),(rc 253 3 g_11 [.slice Aw Sx.cd.k cw, .int .u64 (Sx.cd.N%4294967296), .int .u64 Sx.cd.R]),(ru 5 Aw Sx.cd.k cw (beL Sx.cd.k (Sx.cd.N/4294967296))),(rc 250 5 g_1 [.pointer (GG g_2), .pointer (GG g_3), .pointer (GG g_4),I Sx.cls,I o]),(rc 256 2 g_3 [.slice A_6 258 c_9,I (aU Sx.c1)]),(ri 3 A_6 258 c_9 Sx.c1),(rc 256 2 g_4 [.slice A_7 258 c_10,I (aU Sx.c2)]),(ri 3 A_7 258 c_10 Sx.c2)]) (fun _ h=>h) (iC))) ?_
   rintro _ _ ⟨rfl,rfl⟩
   refine wa (aF aPv Z (Ct.sub (R1:=[(rc 253 3 g_11 [.slice Aw Sx.cd.k cw, .int .u64 (Sx.cd.N%4294967296), .int .u64 Sx.cd.R]),(ru 5 Aw Sx.cd.k cw (beL Sx.cd.k (Sx.cd.N/4294967296))),(rc 256 2 g_2 [.slice A_5 258 c_8,I (aU Sx.c0)]),(ri 3 A_5 258 c_8 Sx.c0),(ri 3 (GG g_21) 1 1 ([257])),(ri 3 A_22 (((bD 0 (bB aR b)).length)+1) c_23 ((bD 0 (bB aR b))++([257]))),(ru 5 A_14 ((b).length) c_15 (bB aR b)),(rc 250 5 g_1 [.pointer (GG g_2), .pointer (GG g_3), .pointer (GG g_4),I Sx.cls,I o]),(rc 256 2 g_3 [.slice A_6 258 c_9,I (aU Sx.c1)]),(ri 3 A_6 258 c_9 Sx.c1),(rc 256 2 g_4 [.slice A_7 258 c_10,I (aU Sx.c2)]),(ri 3 A_7 258 c_10 Sx.c2)]) (fun _ h=>h.sel [5,6,0,1,2,3,4,7,8,9,10,11] (by decide) Z) (GH Z hin.1.2.2 (lU hin.1.1.1 hx.1 hx.2) (by omega)))) ?_
   rintro _ _ ⟨A_24,c_25,rfl,rfl⟩
   refine aA<|aM<|wm Z<|wm Z<|wa (aF NP Z (Ct.sub (R1:=[(rc 250 5 g_1 [.pointer (GG g_2), .pointer (GG g_3), .pointer (GG g_4),I Sx.cls,I o]),(rc 256 2 g_2 [.slice A_5 258 c_8,I (aU Sx.c0)]),(ri 3 A_5 258 c_8 Sx.c0),(rc 253 3 g_11 [.slice A_24 ((gQ Sx.cd (aU (Sx.c0.take (rd ((bD 0 (bB aR b))++([257])) i).toNat)) (rd Sx.c0 (rd ((bD 0 (bB aR b))++([257])) i)) (aU Sx.c0)).k) c_25, .int .u64 ((gQ Sx.cd (aU (Sx.c0.take (rd ((bD 0 (bB aR b))++([257])) i).toNat)) (rd Sx.c0 (rd ((bD 0 (bB aR b))++([257])) i)) (aU Sx.c0)).N%4294967296), .int .u64 ((gQ Sx.cd (aU (Sx.c0.take (rd ((bD 0 (bB aR b))++([257])) i).toNat)) (rd Sx.c0 (rd ((bD 0 (bB aR b))++([257])) i)) (aU Sx.c0)).R)]),(ru 5 A_24 ((gQ Sx.cd (aU (Sx.c0.take (rd ((bD 0 (bB aR b))++([257])) i).toNat)) (rd Sx.c0 (rd ((bD 0 (bB aR b))++([257])) i)) (aU Sx.c0)).k) c_25 (beL (gQ Sx.cd (aU (Sx.c0.take (rd ((bD 0 (bB aR b))++([257])) i).toNat)) (rd Sx.c0 (rd ((bD 0 (bB aR b))++([257])) i)) (aU Sx.c0)).k ((gQ Sx.cd (aU (Sx.c0.take (rd ((bD 0 (bB aR b))++([257])) i).toNat)) (rd Sx.c0 (rd ((bD 0 (bB aR b))++([257])) i)) (aU Sx.c0)).N/4294967296))),(ri 3 (GG g_21) 1 1 ([257])),(ri 3 A_22 (((bD 0 (bB aR b)).length)+1) c_23 ((bD 0 (bB aR b))++([257]))),(ru 5 A_14 ((b).length) c_15 (bB aR b)),(rc 256 2 g_3 [.slice A_6 258 c_9,I (aU Sx.c1)]),(ri 3 A_6 258 c_9 Sx.c1),(rc 256 2 g_4 [.slice A_7 258 c_10,I (aU Sx.c2)]),(ri 3 A_7 258 c_10 Sx.c2)]) (fun _ h=>h.sel [7,2,3,0,1,4,5,6,8,9,10,11] (by decide) Z) (FN hk (by rw[hin.1.1.1.1];exact hx) hin.1.1.1))) ?_
   rintro _ _ ⟨rfl,rfl⟩
   refine aA<|aM<|wA Z Z<|wm Z<|aA ?_
   exact⟨i+1,A_24,c_25,(⟨lK Sx.c0 (rd (bK b) i),Sx.c1,Sx.c2,lF (rd (bK b) i),sN Sx.cd Sx.c0 (rd (bK b) i)⟩:PpS),⟨by omega,by omega,(qR hS hi0 (by omega) (aCi hk))⟩,by omega,(G5 Z Z Z Z Z),fun _ h=>h.sel [5,6,7,3,4,0,1,2,8,9,10,11] (by decide) Z⟩
  ·refine wm Z<|wa (aF mH Z (Ct.at 5 Z (mV hk))) ?_
   rintro _ _ ⟨rfl,rfl⟩
   refine wm Z<|wa (aF NQ Z (Ct.sub (R1:=[(rc 256 2 g_3 [.slice A_6 258 c_9,I (aU Sx.c1)]),(ri 3 A_6 258 c_9 Sx.c1),(ri 3 (GG g_21) 1 1 ([257])),(ri 3 A_22 (((bD 0 (bB aR b)).length)+1) c_23 ((bD 0 (bB aR b))++([257]))),(ru 5 A_14 ((b).length) c_15 (bB aR b)),(rc 253 3 g_11 [.slice Aw Sx.cd.k cw, .int .u64 (Sx.cd.N%4294967296), .int .u64 Sx.cd.R]),(ru 5 Aw Sx.cd.k cw (beL Sx.cd.k (Sx.cd.N/4294967296))),(rc 250 5 g_1 [.pointer (GG g_2), .pointer (GG g_3), .pointer (GG g_4),I Sx.cls,I o]),(rc 256 2 g_2 [.slice A_5 258 c_8,I (aU Sx.c0)]),(ri 3 A_5 258 c_8 Sx.c0),(rc 256 2 g_4 [.slice A_7 258 c_10,I (aU Sx.c2)]),(ri 3 A_7 258 c_10 Sx.c2)]) (fun _ h=>h.sel [8,9,0,1,2,3,4,5,6,7,10,11] (by decide) Z) (jS (by rw[hin.1.1.2.1.1]) (by rw[hin.1.1.2.1.1];exact hx) hin.1.1.2.1))) ?_
   rintro _ _ ⟨rfl,rfl⟩
   refine wm Z<|wX Z Z<|wX Z Z<|wX Z Z<|wg Z<|wg Z<|wn Z<|wq<|wm Z<|wm Z<|wm Z<|wm Z<|wa (aF mH Z (Ct.at 7 Z (mV hk))) ?_
   rintro _ _ ⟨rfl,rfl⟩
   refine wa (aF IY Z (Ct.sub (R1:=[(rc 256 2 g_3 [.slice A_6 258 c_9,I (aU Sx.c1)]),(ri 3 A_6 258 c_9 Sx.c1),(ri 3 (GG g_21) 1 1 ([257])),(ri 3 A_22 (((bD 0 (bB aR b)).length)+1) c_23 ((bD 0 (bB aR b))++([257]))),(ru 5 A_14 ((b).length) c_15 (bB aR b)),(rc 253 3 g_11 [.slice Aw Sx.cd.k cw, .int .u64 (Sx.cd.N%4294967296), .int .u64 Sx.cd.R]),(ru 5 Aw Sx.cd.k cw (beL Sx.cd.k (Sx.cd.N/4294967296))),(rc 250 5 g_1 [.pointer (GG g_2), .pointer (GG g_3), .pointer (GG g_4),I Sx.cls,I o]),(rc 256 2 g_2 [.slice A_5 258 c_8,I (aU Sx.c0)]),(ri 3 A_5 258 c_8 Sx.c0),(rc 256 2 g_4 [.slice A_7 258 c_10,I (aU Sx.c2)]),(ri 3 A_7 258 c_10 Sx.c2)]) (fun _ h=>h) (iC))) ?_
   rintro _ _ ⟨rfl,rfl⟩
   refine wa (aF aPv Z (Ct.sub (R1:=[(rc 253 3 g_11 [.slice Aw Sx.cd.k cw, .int .u64 (Sx.cd.N%4294967296), .int .u64 Sx.cd.R]),(ru 5 Aw Sx.cd.k cw (beL Sx.cd.k (Sx.cd.N/4294967296))),(rc 256 2 g_3 [.slice A_6 258 c_9,I (aU Sx.c1)]),(ri 3 A_6 258 c_9 Sx.c1),(ri 3 (GG g_21) 1 1 ([257])),(ri 3 A_22 (((bD 0 (bB aR b)).length)+1) c_23 ((bD 0 (bB aR b))++([257]))),(ru 5 A_14 ((b).length) c_15 (bB aR b)),(rc 250 5 g_1 [.pointer (GG g_2), .pointer (GG g_3), .pointer (GG g_4),I Sx.cls,I o]),(rc 256 2 g_2 [.slice A_5 258 c_8,I (aU Sx.c0)]),(ri 3 A_5 258 c_8 Sx.c0),(rc 256 2 g_4 [.slice A_7 258 c_10,I (aU Sx.c2)]),(ri 3 A_7 258 c_10 Sx.c2)]) (fun _ h=>h.sel [5,6,0,1,2,3,4,7,8,9,10,11] (by decide) Z) (GH Z hin.1.2.2 (lU hin.1.1.2.1 hx.1 hx.2) (by omega)))) ?_
   rintro _ _ ⟨A_26,c_27,rfl,rfl⟩
   refine aA<|aM<|wm Z<|wm Z<|wa (aF NP Z (Ct.sub (R1:=[(rc 250 5 g_1 [.pointer (GG g_2), .pointer (GG g_3), .pointer (GG g_4),I Sx.cls,I o]),(rc 256 2 g_3 [.slice A_6 258 c_9,I (aU Sx.c1)]),(ri 3 A_6 258 c_9 Sx.c1),(rc 253 3 g_11 [.slice A_26 ((gQ Sx.cd (aU (Sx.c1.take (rd ((bD 0 (bB aR b))++([257])) i).toNat)) (rd Sx.c1 (rd ((bD 0 (bB aR b))++([257])) i)) (aU Sx.c1)).k) c_27, .int .u64 ((gQ Sx.cd (aU (Sx.c1.take (rd ((bD 0 (bB aR b))++([257])) i).toNat)) (rd Sx.c1 (rd ((bD 0 (bB aR b))++([257])) i)) (aU Sx.c1)).N%4294967296), .int .u64 ((gQ Sx.cd (aU (Sx.c1.take (rd ((bD 0 (bB aR b))++([257])) i).toNat)) (rd Sx.c1 (rd ((bD 0 (bB aR b))++([257])) i)) (aU Sx.c1)).R)]),(ru 5 A_26 ((gQ Sx.cd (aU (Sx.c1.take (rd ((bD 0 (bB aR b))++([257])) i).toNat)) (rd Sx.c1 (rd ((bD 0 (bB aR b))++([257])) i)) (aU Sx.c1)).k) c_27 (beL (gQ Sx.cd (aU (Sx.c1.take (rd ((bD 0 (bB aR b))++([257])) i).toNat)) (rd Sx.c1 (rd ((bD 0 (bB aR b))++([257])) i)) (aU Sx.c1)).k ((gQ Sx.cd (aU (Sx.c1.take (rd ((bD 0 (bB aR b))++([257])) i).toNat)) (rd Sx.c1 (rd ((bD 0 (bB aR b))++([257])) i)) (aU Sx.c1)).N/4294967296))),(ri 3 (GG g_21) 1 1 ([257])),(ri 3 A_22 (((bD 0 (bB aR b)).length)+1) c_23 ((bD 0 (bB aR b))++([257]))),(ru 5 A_14 ((b).length) c_15 (bB aR b)),(rc 256 2 g_2 [.slice A_5 258 c_8,I (aU Sx.c0)]),(ri 3 A_5 258 c_8 Sx.c0),(rc 256 2 g_4 [.slice A_7 258 c_10,I (aU Sx.c2)]),(ri 3 A_7 258 c_10 Sx.c2)]) (fun _ h=>h.sel [7,2,3,0,1,4,5,6,8,9,10,11] (by decide) Z) (FM hk (by rw[hin.1.1.2.1.1];exact hx) hin.1.1.2.1))) ?_
   rintro _ _ ⟨rfl,rfl⟩
   refine aA<|aM<|wA Z Z<|wm Z<|aA ?_
   exact⟨i+1,A_26,c_27,(⟨Sx.c0,lK Sx.c1 (rd (bK b) i),Sx.c2,lF (rd (bK b) i),sN Sx.cd Sx.c1 (rd (bK b) i)⟩:PpS),⟨by omega,by omega,(qR hS hi0 (by omega) (aCh hk))⟩,by omega,(G5 Z Z Z Z Z),fun _ h=>h.sel [5,6,7,3,4,0,8,9,1,2,10,11] (by decide) Z⟩
  ·refine wm Z<|wa (aF mH Z (Ct.at 5 Z (mU hk))) ?_
   rintro _ _ ⟨rfl,rfl⟩
   refine wm Z<|wa (aF NQ Z (Ct.sub (R1:=[(rc 256 2 g_4 [.slice A_7 258 c_10,I (aU Sx.c2)]),(ri 3 A_7 258 c_10 Sx.c2),(ri 3 (GG g_21) 1 1 ([257])),(ri 3 A_22 (((bD 0 (bB aR b)).length)+1) c_23 ((bD 0 (bB aR b))++([257]))),(ru 5 A_14 ((b).length) c_15 (bB aR b)),(rc 253 3 g_11 [.slice Aw Sx.cd.k cw, .int .u64 (Sx.cd.N%4294967296), .int .u64 Sx.cd.R]),(ru 5 Aw Sx.cd.k cw (beL Sx.cd.k (Sx.cd.N/4294967296))),(rc 250 5 g_1 [.pointer (GG g_2), .pointer (GG g_3), .pointer (GG g_4),I Sx.cls,I o]),(rc 256 2 g_2 [.slice A_5 258 c_8,I (aU Sx.c0)]),(ri 3 A_5 258 c_8 Sx.c0),(rc 256 2 g_3 [.slice A_6 258 c_9,I (aU Sx.c1)]),(ri 3 A_6 258 c_9 Sx.c1)]) (fun _ h=>h.sel [10,11,0,1,2,3,4,5,6,7,8,9] (by decide) Z) (jS (by rw[hin.1.1.2.2.1]) (by rw[hin.1.1.2.2.1];exact hx) hin.1.1.2.2))) ?_
   rintro _ _ ⟨rfl,rfl⟩
   refine wm Z<|wX Z Z<|wX Z Z<|wX Z Z<|wg Z<|wg Z<|wn Z<|wq<|wm Z<|wm Z<|wm Z<|wm Z<|wa (aF mH Z (Ct.at 7 Z (mU hk))) ?_
   rintro _ _ ⟨rfl,rfl⟩
   refine wa (aF IY Z (Ct.sub (R1:=[(rc 256 2 g_4 [.slice A_7 258 c_10,I (aU Sx.c2)]),(ri 3 A_7 258 c_10 Sx.c2),(ri 3 (GG g_21) 1 1 ([257])),(ri 3 A_22 (((bD 0 (bB aR b)).length)+1) c_23 ((bD 0 (bB aR b))++([257]))),(ru 5 A_14 ((b).length) c_15 (bB aR b)),(rc 253 3 g_11 [.slice Aw Sx.cd.k cw, .int .u64 (Sx.cd.N%4294967296), .int .u64 Sx.cd.R]),(ru 5 Aw Sx.cd.k cw (beL Sx.cd.k (Sx.cd.N/4294967296))),(rc 250 5 g_1 [.pointer (GG g_2), .pointer (GG g_3), .pointer (GG g_4),I Sx.cls,I o]),(rc 256 2 g_2 [.slice A_5 258 c_8,I (aU Sx.c0)]),(ri 3 A_5 258 c_8 Sx.c0),(rc 256 2 g_3 [.slice A_6 258 c_9,I (aU Sx.c1)]),(ri 3 A_6 258 c_9 Sx.c1)]) (fun _ h=>h) (iC))) ?_
   rintro _ _ ⟨rfl,rfl⟩
   refine wa (aF aPv Z (Ct.sub (R1:=[(rc 253 3 g_11 [.slice Aw Sx.cd.k cw, .int .u64 (Sx.cd.N%4294967296), .int .u64 Sx.cd.R]),(ru 5 Aw Sx.cd.k cw (beL Sx.cd.k (Sx.cd.N/4294967296))),(rc 256 2 g_4 [.slice A_7 258 c_10,I (aU Sx.c2)]),(ri 3 A_7 258 c_10 Sx.c2),(ri 3 (GG g_21) 1 1 ([257])),(ri 3 A_22 (((bD 0 (bB aR b)).length)+1) c_23 ((bD 0 (bB aR b))++([257]))),(ru 5 A_14 ((b).length) c_15 (bB aR b)),(rc 250 5 g_1 [.pointer (GG g_2), .pointer (GG g_3), .pointer (GG g_4),I Sx.cls,I o]),(rc 256 2 g_2 [.slice A_5 258 c_8,I (aU Sx.c0)]),(ri 3 A_5 258 c_8 Sx.c0),(rc 256 2 g_3 [.slice A_6 258 c_9,I (aU Sx.c1)]),(ri 3 A_6 258 c_9 Sx.c1)]) (fun _ h=>h.sel [5,6,0,1,2,3,4,7,8,9,10,11] (by decide) Z) (GH Z hin.1.2.2 (lU hin.1.1.2.2 hx.1 hx.2) (by omega)))) ?_
   rintro _ _ ⟨A_28,c_29,rfl,rfl⟩
   refine aA<|aM<|wm Z<|wm Z<|wa (aF NP Z (Ct.sub (R1:=[(rc 250 5 g_1 [.pointer (GG g_2), .pointer (GG g_3), .pointer (GG g_4),I Sx.cls,I o]),(rc 256 2 g_4 [.slice A_7 258 c_10,I (aU Sx.c2)]),(ri 3 A_7 258 c_10 Sx.c2),(rc 253 3 g_11 [.slice A_28 ((gQ Sx.cd (aU (Sx.c2.take (rd ((bD 0 (bB aR b))++([257])) i).toNat)) (rd Sx.c2 (rd ((bD 0 (bB aR b))++([257])) i)) (aU Sx.c2)).k) c_29, .int .u64 ((gQ Sx.cd (aU (Sx.c2.take (rd ((bD 0 (bB aR b))++([257])) i).toNat)) (rd Sx.c2 (rd ((bD 0 (bB aR b))++([257])) i)) (aU Sx.c2)).N%4294967296), .int .u64 ((gQ Sx.cd (aU (Sx.c2.take (rd ((bD 0 (bB aR b))++([257])) i).toNat)) (rd Sx.c2 (rd ((bD 0 (bB aR b))++([257])) i)) (aU Sx.c2)).R)]),(ru 5 A_28 ((gQ Sx.cd (aU (Sx.c2.take (rd ((bD 0 (bB aR b))++([257])) i).toNat)) (rd Sx.c2 (rd ((bD 0 (bB aR b))++([257])) i)) (aU Sx.c2)).k) c_29 (beL (gQ Sx.cd (aU (Sx.c2.take (rd ((bD 0 (bB aR b))++([257])) i).toNat)) (rd Sx.c2 (rd ((bD 0 (bB aR b))++([257])) i)) (aU Sx.c2)).k ((gQ Sx.cd (aU (Sx.c2.take (rd ((bD 0 (bB aR b))++([257])) i).toNat)) (rd Sx.c2 (rd ((bD 0 (bB aR b))++([257])) i)) (aU Sx.c2)).N/4294967296))),(ri 3 (GG g_21) 1 1 ([257])),(ri 3 A_22 (((bD 0 (bB aR b)).length)+1) c_23 ((bD 0 (bB aR b))++([257]))),(ru 5 A_14 ((b).length) c_15 (bB aR b)),(rc 256 2 g_2 [.slice A_5 258 c_8,I (aU Sx.c0)]),(ri 3 A_5 258 c_8 Sx.c0),(rc 256 2 g_3 [.slice A_6 258 c_9,I (aU Sx.c1)]),(ri 3 A_6 258 c_9 Sx.c1)]) (fun _ h=>h.sel [7,2,3,0,1,4,5,6,8,9,10,11] (by decide) Z) (FK hk (by rw[hin.1.1.2.2.1];exact hx) hin.1.1.2.2))) ?_
   rintro _ _ ⟨rfl,rfl⟩
   refine aA<|aM<|wA Z Z<|wm Z<|aA ?_
   exact⟨i+1,A_28,c_29,(⟨Sx.c0,Sx.c1,lK Sx.c2 (rd (bK b) i),lF (rd (bK b) i),sN Sx.cd Sx.c2 (rd (bK b) i)⟩:PpS),⟨by omega,by omega,(qR hS hi0 (by omega) (aCg hk))⟩,by omega,(G5 Z Z Z Z Z),fun _ h=>h.sel [5,6,7,3,4,0,8,9,10,11,1,2] (by decide) Z⟩
 ·refine aZ<|wq<|wm Z<|wa (aF bEm Z (Ct.sub (R1:=[(rc 253 3 g_11 [.slice Aw Sx.cd.k cw, .int .u64 (Sx.cd.N%4294967296), .int .u64 Sx.cd.R]),(ru 5 Aw Sx.cd.k cw (beL Sx.cd.k (Sx.cd.N/4294967296))),(ri 3 (GG g_21) 1 1 ([257])),(ri 3 A_22 (((bD 0 (bB aR b)).length)+1) c_23 ((bD 0 (bB aR b))++([257]))),(ru 5 A_14 ((b).length) c_15 (bB aR b)),(rc 250 5 g_1 [.pointer (GG g_2), .pointer (GG g_3), .pointer (GG g_4),I Sx.cls,I o]),(rc 256 2 g_2 [.slice A_5 258 c_8,I (aU Sx.c0)]),(ri 3 A_5 258 c_8 Sx.c0),(rc 256 2 g_3 [.slice A_6 258 c_9,I (aU Sx.c1)]),(ri 3 A_6 258 c_9 Sx.c1),(rc 256 2 g_4 [.slice A_7 258 c_10,I (aU Sx.c2)]),(ri 3 A_7 258 c_10 Sx.c2)]) (fun _ h=>h.sel [3,4,0,1,2,5,6,7,8,9,10,11] (by decide) Z) (aPe Z (by omega)))) ?_
  rintro _ _ ⟨A_30,c_31,rfl,rfl⟩
  refine wg Z<|wn Z<|bR (R1:=[(ru 5 A_30 (Sx.cd.k+4) c_31 (beL (Sx.cd.k+4) Sx.cd.N))]) (fun _ h=>h.sel [0] (by decide) Z) ?_
  refine⟨_,_,Z,Z,?_⟩
  rw[List.take_of_length_le (by omega)] at hS
  have e:(dK b o).length=Sx.cd.k+4:=by unfold dK;rw[kP,←hS]
  have e2:dK b o=beL (Sx.cd.k+4) Sx.cd.N:=by unfold dK;rw[←hS]
  rw[e,e2]
  exact⟨_,_,Z,Z⟩
end Go.Proofs.YtdbebmmhdefgdaaGreat
namespace Go.Pure
open Go Go.Eng
variable {k i b d s r x:Int} {t l:List Int} {B:Nat} {w0:World} {R:List Row} {vals:List Value} {ls:List (List Int)}
def aEl (x:BitVec 32):BitVec 32:=if x &&& 1#32=1#32 then(x>>>1)^^^3988292384#32 else x>>>1
def JD:Nat→BitVec 32→BitVec 32
 |0,x=>x
 |k+1,x=>JD k (aEl x)
def aAk (x:BitVec 32):BitVec 32:=JD 8 x
theorem NR {x:BitVec 32} (h:k<8):JD (8-k).toNat x=JD (8-(k+1)).toNat (aEl x):=by
 have e:(8-k).toNat=(8-(k+1)).toNat+1:=by omega
 rw[e]
 rfl
def aAl (x:BitVec 32) (b:Int):BitVec 32:=(x &&& 255#32)^^^BitVec.ofInt 32 b
def bEy (x:BitVec 32) (b:Int):BitVec 32:=(x>>>8)^^^aAk (aAl x b)
def JM (x:BitVec 32) (l:List Int):BitVec 32:=l.foldl bEy x
def jT (l:List Int):BitVec 32:=JM 4294967295#32 l^^^4294967295#32
def qK:List Int:=(List.range 256).map fun i=>bv (aAk (BitVec.ofNat 32 i))
theorem uN:qK.length=256:=by unfold qK;rw[List.length_map,List.length_range]
theorem aEk {i:Nat} (h:i<256):qK[i]? =some (bv (aAk (BitVec.ofNat 32 i))):=by
 unfold qK
 rw[List.getElem?_map,List.getElem?_range h]
 rfl
theorem MR (i:Nat):BitVec.ofInt 32 (i:Int)=BitVec.ofNat 32 i:=rfl
theorem aQt {x:BitVec 32} (hb:0≤b∧b<256):(aAl x b).toNat=(x.toNat%256)^^^b.toNat:=by
 obtain⟨b,rfl⟩: ∃m:Nat,b=m:=⟨b.toNat,by omega⟩
 unfold aAl
 have e1:(255#32).toNat=2^8-1:=rfl
 have e2:(BitVec.ofInt 32 (b:Int)).toNat=b:=by rw[MR,BitVec.toNat_ofNat];omega
 rw[BitVec.toNat_xor,BitVec.toNat_and,e1,e2,Nat.and_two_pow_sub_one_eq_mod,Int.toNat_natCast]
theorem QB {x:BitVec 32} (hb:0≤b∧b<256):0≤bv (aAl x b)∧bv (aAl x b)<256:=by
 have h:(aAl x b).toNat<2^8:=by
  rw[aQt hb]
  exact Nat.xor_lt_two_pow (by have:=Nat.mod_lt x.toNat (show 0<256 by omega);omega) (by omega)
 unfold bv
 omega
def sO (d s r:Int) (t:List Int):List Value:=[.int .u32 d, .int .i32 s, .int .u32 0, .int .i32 r]++ints .u32 t
def dA (T g:Nat) (d s r:Int) (t:List Int):Row:=⟨T,260,some ⟨g,0,none⟩,1,1,sO d s r t,false⟩
theorem BO (d s r:Int) (t:List Int):(sO d s r t).length=4+t.length:=by
 unfold sO
 rw[List.length_append,bV]
 rfl
theorem aQn {i:Nat} (h:t[i]? =some x):(sO d s r t)[4+i]? =some (.int .u32 x):=by
 unfold sO
 rw[List.getElem?_append_right (by simp)]
 simp[ints,h]
theorem aIt {i:Nat}:(sO d s r t).set (4+i) (.int .u32 x)=sO d s r (t.set i x):=by
 unfold sO ints
 rw[List.set_append_right _ _ (by simp),List.map_set]
 simp
theorem aIs (ht:t.length=256) (h0:0≤k) (h1:k<256):(qK.take k.toNat++t.drop k.toNat).set k.toNat (bv (aAk (BitVec.ofInt 32 k)))=qK.take (k+1).toNat++t.drop (k+1).toNat:=by
 obtain⟨k,rfl⟩: ∃m:Nat,k=m:=⟨k.toNat,by omega⟩
 have e:((k:Int)+1).toNat=k+1:=by omega
 rw[e,Int.toNat_natCast,MR]
 have hk:k<qK.length:=by rw[uN];omega
 have hl:(qK.take k).length=k:=by rw[List.length_take];omega
 rw[List.set_append_right _ _ (by omega),hl,Nat.sub_self,List.drop_eq_getElem_cons (by omega:k<t.length),List.set_cons_zero,List.take_add_one,aEk (by omega)]
 simp
theorem aVl {x:BitVec 32} (h:bv x<256):qK[(bv x).toNat]? =some (bv (aAk x)):=by
 have e:(bv x).toNat=x.toNat:=by unfold bv;rw[Int.toNat_natCast]
 rw[e,aEk (by unfold bv at h;omega),BitVec.ofNat_toNat,BitVec.setWidth_eq]
def xD (B:Nat) (w0:World) (R:List Row) (vals:List Value) (ls:List (List Int)):Prop:=vals.length=ls.length∧ ∀(j:Nat) (v:Value),vals[j]? =some v→ ∃(A:Option Addr) (c:Nat) (l:List Int),v=Value.slice A l.length c∧ls[j]? =some l∧RdC B w0 R A l.length c 1 (ints .u8 l)∧aO l
theorem xD.at (h:xD B w0 R vals ls) (h0:0≤i) (h1:i<vals.length): ∃(A:Option Addr) (c:Nat) (l:List Int),vals[i.toNat]? =some (Value.slice A l.length c)∧ls[i.toNat]? =some l∧RdC B w0 R A l.length c 1 (ints .u8 l)∧aO l:=by
 have hlt:i.toNat<vals.length:=by omega
 obtain⟨A,c,l,e,h2,h3,h4⟩:=h.2 i.toNat _ (List.getElem?_eq_getElem hlt)
 exact⟨A,c,l,by rw[List.getElem?_eq_getElem hlt,e],h2,h3,h4⟩
theorem xD.one {A:Option Addr} {c n:Nat} (h:RdC B w0 R A n c 1 (ints .u8 l)) (hb:aO l) (hn:n=l.length):xD B w0 R [.slice A n c] [l]:=by
 subst hn
 exact⟨rfl,fun j v hv=>by
  cases j with
  |zero=>exact⟨A,c,l,by simpa using hv.symm,rfl,h,hb⟩
  |succ j=>simp at hv⟩
theorem xD.of {w:World} (h:SlW .u8 w vals ls):xD w.heap.size w R vals ls:=
 ⟨h.1,fun j v hv=>by
  have hlt:j<ls.length:=by rw[←h.1];exact(List.getElem?_eq_some_iff.1 hv).1
  obtain⟨A,c,h1,h2,h3,_⟩:=h.2 j hlt
  rw[h1] at hv
  have e:ls.getD j []=ls[j]:=by simp[List.getD_eq_getElem?_getD,List.getElem?_eq_getElem hlt]
  rw[e] at hv h2 h3
  exact⟨A,c,ls[j],(Option.some.inj hv).symm,List.getElem?_eq_getElem hlt,h2.c R,byteL_wf h3⟩⟩
def Big (ls:List (List Int)):Prop:=ls.length≤1000000∧ ∀(j:Nat) (l:List Int),ls[j]? =some l→l.length≤1000000
theorem Big.one (h:l.length≤1000000):Big [l]:=⟨by simp,fun j q hq=>by
 cases j with
 |zero=>simp at hq;subst hq;exact h
 |succ j=>simp at hq⟩
theorem Big.nil:Big []:=⟨by simp,fun j q hq=>by simp at hq⟩
theorem Big.snoc {q:List Int} (h:Big ls) (h1:ls.length<1000000) (h2:q.length≤1000000):Big (ls++[q]):=⟨by simp;omega,fun j r hr=>by
 rw[List.getElem?_append] at hr
 split at hr
 ·exact h.2 j r hr
 ·rename_i hj
  have hz:j-ls.length=0:=by
   rcases Nat.eq_zero_or_pos (j-ls.length) with e|e
   ·exact e
   ·rw[List.getElem?_eq_none (by simp;omega)] at hr;cases hr
  rw[hz] at hr
  simp at hr
  rw[←hr];exact h2⟩
theorem xD.nil:xD B w0 R [] []:=⟨rfl,fun j v hv=>by simp at hv⟩
theorem aIo (h0:0≤i) (h:ls[i.toNat]? =some l):(ls.drop i.toNat).flatten=l++(ls.drop (i+1).toNat).flatten:=by
 have hlt:i.toNat<ls.length:=(List.getElem?_eq_some_iff.1 h).1
 have e:(i+1).toNat=i.toNat+1:=by omega
 rw[List.drop_eq_getElem_cons hlt,(List.getElem?_eq_some_iff.1 h).2,e]
 rfl
theorem aAw {x:BitVec 32} {m:List Int} (h0:0≤i) (h:i<l.length):JM x (l.drop i.toNat++m)=JM (bEy x (rd l i)) (l.drop (i+1).toNat++m):=by
 rw[nV h0 h]
 rfl
theorem VM {α:Type} {l:List α} (h:(l.length:Int)≤i):l.drop i.toNat=[]:=List.drop_of_length_le (by omega)
end Go.Pure
namespace Go.Proofs.YtdbebmmhdefgdaaGreat
open Go Go.Eng Go.Pure
theorem CP (w:World):(callFunc 306 #[]).run Tryz.prog w= .ok (.value (.tuple #[])) w:=run_call_mark0 Tryz.func306 (by kernel_rfl) (by kernel_rfl) (by kernel_rfl) .disable (by kernel_rfl) w
theorem GA (w:World):(callFunc 308 #[]).run Tryz.prog w= .ok (.value (.tuple #[])) w:=run_call_mark0 Tryz.func308 (by kernel_rfl) (by kernel_rfl) (by kernel_rfl) .enable (by kernel_rfl) w
theorem TE (a:Addr) (w:World):(callFunc 309 #[.pointer (some a)]).run Tryz.prog w= .ok (.value (.tuple #[])) w:=run_call_marked Tryz.func309 (by kernel_rfl) (by kernel_rfl) (by kernel_rfl) .acquire (by kernel_rfl) a w
theorem AX (a:Addr) (w:World):(callFunc 311 #[.pointer (some a)]).run Tryz.prog w= .ok (.value (.tuple #[])) w:=run_call_marked Tryz.func311 (by kernel_rfl) (by kernel_rfl) (by kernel_rfl) .releaseMerge (by kernel_rfl) a w
theorem KE (a:Addr) (x:Value) (u:FrameMode) (w:World) (hc:w.cell? a=some x) (hz:w.frozen? a=false):
  CallsD Tryz.prog 256 #[.pointer (some a), .bool true] u w fun e u' w'=>u'=u∧(e= .returned (.tuple #[])∧w'=w.drew.setCell a (.int .u32 1)):=by
 have hc':w.drew.cell? a=some x:=by go_simp
 have hz':w.drew.frozen? a=false:=by go_simp
 have hst:=run_call_store (P:=Tryz.prog) Tryz.func288 (by kernel_rfl) (by kernel_rfl) (by kernel_rfl) (by kernel_rfl) (k:= .u32) (y:=1) hc' hz'
 go_enter_d Tryz.func256,Tryz.ntmps256
 go_wp2
 go_region_calls
 all_goals (go_end0;exact⟨rfl,rfl⟩)
set_option maxRecDepth 100000 in
theorem EZ (a:Addr) (u:FrameMode) (w:World) (hc:w.cell? a=some (.int .i32 1)) (hz:w.frozen? a=false):
  CallsD Tryz.prog 255 #[.pointer (some a)] u w fun e u' w'=>u'=u∧(e= .returned (.tuple #[])∧w'=w.setCell a (.int .i32 0)):=by
 have hd:=CP
 have he:=GA
 have hr:=AX
 have hadd:=run_call_add (P:=Tryz.prog) Tryz.func257 (by kernel_rfl) (by kernel_rfl) (by kernel_rfl) .i32 (by kernel_rfl) (y:= -1) (s:=0) hc hz (by simp[go_sem];rfl)
 have hcv:=run_convert_to_unsafe (P:=Tryz.prog) (src:=340) (dst:=343) Tryz.underlying340 Tryz.underlying343 (by kernel_rfl) hc
 go_enter_d Tryz.func255,Tryz.ntmps255
 go_wp2
 go_end0
 go_wp2
 go_end0
 exact⟨rfl,rfl⟩
set_option maxRecDepth 100000 in
theorem aNu (a:Addr) (w:World) (hc:w.cell? a=some (.int .i32 0)) (hz:w.frozen? a=false):
  Calls Tryz.prog 254 #[.pointer (some a)] w fun e w'=>e= .returned (.tuple #[])∧w'=w.setCell a (.int .i32 1):=by
 have hd:=CP
 have he:=GA
 have ha:=TE
 have hcas:=run_call_cas_hit (P:=Tryz.prog) Tryz.func307 (by kernel_rfl) (by kernel_rfl) (by kernel_rfl) .i32 (by kernel_rfl) (y:=1) hc hz
 have hc':(w.setCell a (.int .i32 1)).cell? a=some (.int .i32 1):=World.cell?_setCell_same w a _ hc
 have hcv:=run_convert_to_unsafe (P:=Tryz.prog) (src:=340) (dst:=343) Tryz.underlying340 Tryz.underlying343 (by kernel_rfl) hc'
 go_enter Tryz.func254,Tryz.ntmps254
 go_wp2
 first|go_end0|(simp only[Exit.inBlock,Exit.then];refine bodyPost_ret (results_none rfl _ _ _) rfl ?_)|refine bodyPost_ret (results_none rfl _ _ _) rfl ?_
 go_wp2
 go_end0
 exact⟨rfl,rfl⟩
section
variable {B:Nat} {w0:World} {R:List Row} {T g:Nat} {r r':Int} {t t':List Int}
theorem zI {w:World} {d s:Int} (h:Hp B w0 w (dA T g d s r t::R)) (j:Nat):w.frozen? ⟨g,j,none⟩=false:=h.openAt 0 j rfl rfl rfl
theorem zJ {w:World} {d s:Int} (h:Hp B w0 w (dA T g d s r t::R)):w.cell? ⟨g,0,none⟩=some (.int .u32 d):=h.cellAt 0 (r:=dA T g d s r t) (j:=0) rfl rfl rfl
theorem VZ {w:World} {d s:Int} (h:Hp B w0 w (dA T g d s r t::R)):w.cell? ⟨g,1,none⟩=some (.int .i32 s):=h.cellAt 0 (r:=dA T g d s r t) (j:=1) rfl rfl rfl
theorem aQl {w:World} {d s:Int} (h:Hp B w0 w (dA T g d s r t::R)):w.cell? ⟨g,3,none⟩=some (.int .i32 r):=h.cellAt 0 (r:=dA T g d s r t) (j:=3) rfl rfl rfl
theorem VY {w:World} {d s:Int} (h:Hp B w0 w (dA T g d s r t::R)) (x:Int):Hp B w0 (w.setCell ⟨g,0,none⟩ (.int .u32 x)) (dA T g x s r t::R):=h.set1 0 (r:=dA T g d s r t) (j:=0) (v:= .int .u32 x) rfl rfl rfl
theorem CZ {w:World} {d s:Int} (h:Hp B w0 w (dA T g d s r t::R)) (x:Int):Hp B w0 (w.setCell ⟨g,1,none⟩ (.int .i32 x)) (dA T g d x r t::R):=h.set1 0 (r:=dA T g d s r t) (j:=1) (v:= .int .i32 x) rfl rfl rfl
theorem VX {w:World} {d s:Int} (h:Hp B w0 w (dA T g d s r t::R)) (x:Int):Hp B w0 (w.setCell ⟨g,3,none⟩ (.int .i32 x)) (dA T g d s x t::R):=h.set1 0 (r:=dA T g d s r t) (j:=3) (v:= .int .i32 x) rfl rfl rfl
theorem aQm {w:World} {R:List Row} (h:Hp B w0 w R):Hp B w0 w.drew R:=h.drawn _ (Nat.le_succ _)
set_option maxRecDepth 100000 in
set_option maxHeartbeats 1600000 in
theorem aNf {w:World} (hh:Hp B w0 w (dA T g 0 0 r t::R)) (hm: ∀w,Hp B w0 w (dA T g 0 1 r t::R)→Calls Tryz.prog 137 #[.pointer (some ⟨g,0,none⟩)] w fun e w'=>e= .returned (.tuple #[])∧Hp B w0 w' (dA T g 0 1 r' t'::R)):
  Calls Tryz.prog 208 #[.pointer (some ⟨g,0,none⟩), .func (.func 137) #[.pointer (some ⟨g,0,none⟩)] #[]] w fun e w'=>e= .returned (.tuple #[])∧Hp B w0 w' (dA T g 1 0 r' t'::R):=by
 have h1:=CZ hh 1
 have hl:=run_call_load (P:=Tryz.prog) Tryz.func253 (by kernel_rfl) (by kernel_rfl) (by kernel_rfl) .u32 (by kernel_rfl) (zJ h1)
 have hnot: ∀(x:Bool) (w:World),(Op.unary .not (.bool x)).run Tryz.prog w= .ok (.bool (!x)) w:=fun _ _=>rfl
 have k1:=VZ hh
 have k2:=zI hh 1
 go_enter_defers Tryz.func208,Tryz.ntmps208
 go_wp2_with (first|(go_at_call 254;refine(aNu ⟨g,1,none⟩ _ (by go_simp) (by go_simp)).mono ?_;rintro e w' ⟨rfl,rfl⟩)|(go_at_call 137;refine(hm _ h1).mono ?_;rintro e w' ⟨rfl,h2⟩)|(go_at_call 207;go_in))
 refine leaves_cons (f:=256) (args:= #[.pointer (some ⟨g,0,none⟩), .bool true]) (by simp) (by simp[go_sem]) ?_
 refine(KE ⟨g,0,none⟩ _ .returning _ (zJ h2) (zI h2 0)).mono ?_
 rintro e u' w'' ⟨rfl,rfl,rfl⟩
 have h3:=VY (aQm h2) 1
 refine leaves_cons (f:=255) (args:= #[.pointer (some ⟨g,1,none⟩)]) (by simp[settle]) (by simp[go_sem]) ?_
 refine(EZ ⟨g,1,none⟩ _ _ (VZ h3) (zI h3 1)).mono ?_
 rintro e u' w'' ⟨rfl,rfl,rfl⟩
 have h4:=CZ h3 0
 simp[Leaves,settle,results,Tryz.results208]
 exact h4
set_option maxRecDepth 100000 in
set_option maxHeartbeats 1600000 in
theorem aGs (hm: ∀w,Hp B w0 w (dA T g 0 1 r t::R)→Calls Tryz.prog 137 #[.pointer (some ⟨g,0,none⟩)] w fun e w'=>e= .returned (.tuple #[])∧Hp B w0 w' (dA T g 0 1 r' t'::R)):
  Ct Tryz.prog 136 #[.pointer (some ⟨g,0,none⟩), .func (.func 137) #[.pointer (some ⟨g,0,none⟩)] #[]] B w0 (dA T g 0 0 r t::R) (fun v R'=>v= .tuple #[]∧R'=dA T g 1 0 r' t'::R):=by
 intro w hh
 have hl:=run_call_load (P:=Tryz.prog) Tryz.func253 (by kernel_rfl) (by kernel_rfl) (by kernel_rfl) .u32 (by kernel_rfl) (zJ hh)
 have hnot: ∀(x:Bool) (w:World),(Op.unary .not (.bool x)).run Tryz.prog w= .ok (.bool (!x)) w:=fun _ _=>rfl
 go_enter Tryz.func136,Tryz.ntmps136
 go_wp2_with (first|(go_at_call 208;refine(aNf hh hm).mono ?_;rintro e w' ⟨rfl,h2⟩)|(go_at_call 207;go_in))
 go_end0
 exact⟨_,_,rfl,h2,rfl,rfl⟩
theorem aNg {fv:Value}:Ct Tryz.prog 136 #[.pointer (some ⟨g,0,none⟩),fv] B w0 (dA T g 1 0 r t::R) (fun v R'=>v= .tuple #[]∧R'=dA T g 1 0 r t::R):=by
 intro w hh
 have hl:=run_call_load (P:=Tryz.prog) Tryz.func253 (by kernel_rfl) (by kernel_rfl) (by kernel_rfl) .u32 (by kernel_rfl) (zJ hh)
 have hnot: ∀(x:Bool) (w:World),(Op.unary .not (.bool x)).run Tryz.prog w= .ok (.bool (!x)) w:=fun _ _=>rfl
 go_enter Tryz.func136,Tryz.ntmps136
 go_wp2
 go_end0
 exact⟨_,_,rfl,hh,rfl,rfl⟩
theorem aSq (hr:0≤r∧r<1000000): ∀ {d s:Int} {w:World},Hp B w0 w (dA T g d s r t::R)→ ∃w',(callFunc 257 #[.pointer (some ⟨g,3,none⟩), .int .i32 1]).run Tryz.prog w= .ok (.value (.int .i32 (r+1))) w'∧Hp B w0 w' (dA T g d s (r+1) t::R):=by
 intro d s w hh
 refine⟨_,run_call_add (P:=Tryz.prog) Tryz.func257 (by kernel_rfl) (by kernel_rfl) (by kernel_rfl) .i32 (by kernel_rfl) (y:=1) (s:=r+1) (aQl hh) (zI hh 3) ?_,VX hh (r+1)⟩
 have:IntKind.i32.wrap (r+1)=r+1:=by rw[IntKind.wrap_i32];omega
 simp[Op.intArith,this]
end
open Tryz
set_option maxRecDepth 100000
variable {B T g:Nat} {w0:World} {R:List Row} {d s r r':Int} {t:List Int}
theorem aQy (w:World):(Instr.build 203 #[]).run Tryz.prog w= .ok (.agg (sO 0 0 0 (List.replicate 256 0)).toArray) w:=by kernel_rfl
theorem oL {w:World}:
  Ct Tryz.prog 77 #[] w.heap.size w [] (fun v R'=> ∃g,v= .pointer (GG g)∧R'=[dA 203 g 0 0 0 (List.replicate 256 0)]):=by
 refine fn1 Tryz.func77 Z Z Z ?_
 refine wq<|wn Z<|wq<|wy (aKc aQy)<|wa (bX (sz:=260) Z (by kernel_rfl)) ?_
 rintro _ _ ⟨g_1,rfl,rfl⟩
 refine wn Z<|aT [0] 99 (by decide) Z ?_
 refine⟨_,Z,?_⟩
 exact⟨_,Z,Z⟩
theorem aIu (hr:0≤r∧r<1000000):
  Ct Tryz.prog 209 #[.pointer (some ⟨g,3,none⟩), .int .i32 1] B w0 (dA T g d s r t::R) (fun v R'=>v= .int .i32 (r+1)∧R'=dA T g d s (r+1) t::R):=by
 refine fn1 Tryz.func209 Z Z Z ?_
 refine wq<|wn Z<|wq<|wm Z<|wy (aD Z)<|wy (aB (off:=0) (m:=3) underlying200 Z bFk Z Z Z)<|wm Z<|wa (aEz Z (fun w hw=>aSq hr hw)) ?_
 rintro _ _ ⟨rfl,rfl⟩
 refine wn Z<|dJ ?_
 refine⟨_,Z,?_⟩
 exact⟨Z,Z⟩
theorem WA (hr:0≤r∧r<1000000) (ht:t.length=256):
  Ct Tryz.prog 137 #[.pointer (GG g)] B w0 (dA T g d s r t::R) (fun v R'=>v= .tuple #[]∧R'=dA T g d s (r+1) qK::R):=by
 refine fn0 Tryz.func137 Z Z Z ?_
 refine wq<|wm Z<|wy (aD Z)<|wy (aB (off:=3) (m:=3) underlying203 Z bBy Z Z Z)<|wa (aF bDw Z (Ct.at 0 Z (aIu (by omega)))) ?_
 rintro _ _ ⟨rfl,rfl⟩
 refine aA<|wq<|wm Z<|aA<|aI ?_
 refine rT (fun(k:Int)=>[(0, .pointer (GG g)),(9,I k)]) (fun k=>(dA T g d s (r+1) (qK.take k.toNat++t.drop k.toNat)::R)) (fun k=>(0≤k)∧(k≤256)) (fun k=>(256-k).toNat) ?_ ?_
 ·exact⟨0,⟨by omega,by omega⟩,(G2 Z Z),fun _ h=>h⟩
 intro k ⟨hk0,hk1⟩
 refine wq<|wL Z Z<|aA<|aG<|bM Z (fun hc1=> ?_) (fun hc1=> ?_)
 ·refine aK<|aG<|aI<|wq<|wm Z<|wn Z<|wq<|wm Z<|wy (aBy underlying3 underlying123 Z)<|wn Z<|aG ?_
  refine wq<|wm Z<|aA<|aI ?_
  refine dR (fun(j:Int) (x:BitVec 32)=>[(0, .pointer (GG g)),(2,I k),(3, .int .u32 (bv x)),(9,I k),(14,I j)]) (fun j x=>(dA T g d s (r+1) (qK.take k.toNat++t.drop k.toNat)::R)) (fun j x=>(0≤j)∧(j≤8)∧(aAk (BitVec.ofInt 32 k)=JD (8-j).toNat x)) (fun j x=>(8-j).toNat) ?_ ?_
  ·exact⟨0,BitVec.ofInt 32 k,⟨by omega,by omega,(Z)⟩,(G5 Z Z Z Z Z),fun _ h=>h⟩
  intro j x ⟨hj0,hj8,hx⟩
  refine wq<|wL Z Z<|aA<|aG<|bM Z (fun hc2=> ?_) (fun hc2=> ?_)
  ·refine aK<|aG<|aI<|wq<|wm Z<|wy (aKd (p:=x) (q:=1#32) Z Z)<|wn Z<|wq<|wm Z<|wy (aJx (k:=1) Z Z Z)<|wn Z ?_
   refine wq<|wm Z<|wy (bBr (p:=x &&& (1#32)) (q:=1#32) Z Z)<|aA<|bM Z (fun hc3=> ?_) (fun hc3=> ?_)
   ·refine aM<|wm Z<|wy (OH (p:=x>>>1) (q:=3988292384#32) Z Z)<|wn Z<|aM<|wA Z Z<|wm Z<|aA ?_
    exact⟨j+1,(x>>>1)^^^(3988292384#32),⟨by omega,by omega,(by rw[hx,NR (by omega)];unfold aEl;rw[if_pos (by assumption)])⟩,by omega,(G5 Z Z Z Z Z),fun _ h=>h⟩
   ·refine aK<|aM<|wA Z Z<|wm Z<|aA ?_
    exact⟨j+1,x>>>1,⟨by omega,by omega,(by rw[hx,NR (by omega)];unfold aEl;rw[if_neg (by assumption)])⟩,by omega,(G5 Z Z Z Z Z),fun _ h=>h⟩
  ·refine aZ<|aM<|wm Z<|wm Z<|wm Z<|wy (aD Z)<|wy (aB (off:=4) (m:=4) underlying203 Z aWt Z Z Z)<|wy (LB 0 Z Z underlying201 aLb Z Z (by show _<(sO _ _ _ _).length;rw[BO,List.length_append,List.length_take,List.length_drop,uN,ht];omega) (by omega) (by omega)) ?_
   refine bY (aY 0 Z Z Z aLb Z Z Z Z (by show _<(sO _ _ _ _).length;rw[BO,List.length_append,List.length_take,List.length_drop,uN,ht];omega)) ?_
   rintro _ _ rfl
   refine iW (R1:=(dA T g d s (r+1) (qK.take (k+1).toNat++t.drop (k+1).toNat)::R)) (by have hj:j=8:=(by omega);subst hj;have hf:=aIs ht hk0 (show k<256 by omega);rw[hx] at hf;simp only[List.set_cons_zero,dA,aIt];rw[←hf];rfl) ?_
   refine aA<|aM<|wA Z Z<|wm Z<|aA ?_
   exact⟨k+1,⟨by omega,by omega⟩,by omega,(G2 Z Z),fun _ h=>h⟩
 ·refine aZ ?_
  skip
  obtain rfl:k=256:=by omega
  refine⟨Z,?_⟩
  have e:qK.take (256:Int).toNat++t.drop (256:Int).toNat=qK:=by rw[List.take_of_length_le (by rw[uN];decide),List.drop_of_length_le (by rw[ht];decide),List.append_nil]
  rw[e]
theorem aTt {g:Nat} (hst:(d=0∧r'=r+1∧t.length=256∧0≤r∧r<1000000)∨(d=1∧r'=r∧t=qK)):
  Ct Tryz.prog 136 #[.pointer (GG g), .func (.func 137) #[.pointer (GG g)] #[]] B w0 (dA T g d 0 r t::R) (fun v R'=>v= .tuple #[]∧R'=dA T g 1 0 r' qK::R):=by
 rcases hst with⟨rfl,rfl,ht,hr⟩|⟨rfl,rfl,rfl⟩
 ·exact aGs (fun w hw=>(WA hr ht w hw).mono (by rintro e w' ⟨v,R',rfl,hh,rfl,rfl⟩;exact⟨rfl,hh⟩))
 ·exact aNg
theorem oJ {A:Option Addr} {m c:Nat} {vals:List Value} {ls:List (List Int)} (hst:(d=0∧r'=r+1∧t.length=256∧0≤r∧r<1000000)∨(d=1∧r'=r∧t=qK)) (hA:RdC B w0 R A m c 1 vals) (hm:m=vals.length) (hls:xD B w0 R vals ls) (hbig:Big ls):
  Ct Tryz.prog 78 #[.pointer (GG g), .slice A m c] B w0 (dA T g d 0 r t::R) (fun v R'=>v= .int .u32 (bv (jT ls.flatten))∧R'=dA T g 1 0 r' qK::R):=by
 refine fn1 Tryz.func78 Z Z Z ?_
 have hmax:=hbig.1
 have hle:=hls.1
 refine wq<|wn Z<|aG<|wq<|wm Z<|wy (cZ underlying124 Z Z)<|aA<|aL Z<|aK<|wq<|wm Z ?_
 refine wy (aD Z)<|wy (aB (off:=0) (m:=0) underlying203 Z bBz Z Z Z)<|wm Z<|wy (kQ Z Z)<|wa (aF bEl Z (Ct.at 0 Z (aTt hst))) ?_
 rintro _ _ ⟨rfl,rfl⟩
 refine aA<|wq<|wn Z<|aG<|wq<|wm Z<|wy (aQ underlying23 Z)<|wm Z<|aA<|aI ?_
 refine dR (fun(k:Int) (x:BitVec 32)=>[(0, .pointer (GG g)),(5, .int .u32 (bv x)),(18, .slice A m c),(19,I ((m:Nat):Int)),(20,I k)]) (fun k x=>(dA T g 1 0 r' qK::R)) (fun k x=>(0≤k)∧(k≤m)∧(JM 4294967295#32 ls.flatten=JM x (ls.drop k.toNat).flatten)) (fun k x=>(m-k).toNat) ?_ ?_
 ·exact⟨0,4294967295#32,⟨by omega,by omega,(Z)⟩,(G5 Z Z Z Z Z),fun _ h=>h⟩
 intro k x ⟨hk0,hk1,hx⟩
 refine wq<|wL Z Z<|aA<|aG<|bM Z (fun hc1=> ?_) (fun hc1=> ?_)
 ·refine aK<|aG<|aI<|wq<|wy (aH underlying23 dO Z Z (RdC.tail hA)) ?_
  obtain⟨A1,c1,l1,hv1,hl1,hr1,hb1⟩:=hls.at hk0 (by have:=hls.1;omega)
  have hbl:=hbig.2 _ _ hl1
  refine wy (DC underlying22 Z Z Z (RdC.tail hA) hv1)<|wn Z<|wq<|wm Z<|wy (aQ underlying22 Z)<|wm Z<|aA<|aI ?_
  refine dR (fun(j:Int) (y:BitVec 32)=>[(0, .pointer (GG g)),(5, .int .u32 (bv y)),(18, .slice A m c),(19,I ((m:Nat):Int)),(20,I k),(24, .slice A1 l1.length c1),(25,I ((l1.length:Nat):Int)),(26,I j)]) (fun j y=>(dA T g 1 0 r' qK::R)) (fun j y=>(0≤j)∧(j≤l1.length)∧(JM 4294967295#32 ls.flatten=JM y (l1.drop j.toNat++(ls.drop (k+1).toNat).flatten))) (fun j y=>(l1.length-j).toNat) ?_ ?_
  ·exact⟨0,x,⟨by omega,by omega,(by rw[hx,aIo hk0 hl1];rfl)⟩,(G8 Z Z Z Z Z Z Z Z),fun _ h=>h⟩
  intro j y ⟨hj0,hj1,hy⟩
  refine wq<|wL Z Z<|aA<|aG<|bM Z (fun hc2=> ?_) (fun hc2=> ?_)
  ·refine aK<|aG<|aI<|wq<|wy (aH underlying22 sz5 Z Z (RdC.tail hr1))<|wy (aX underlying5 Z Z (RdC.tail hr1))<|wn Z<|aM<|wm Z<|wy (aJx (k:=8) Z Z Z)<|wm Z<|wm Z<|wy (aKd (p:=y) (q:=255#32) Z Z) ?_
   refine wm Z<|wy (aBy underlying5 underlying123 Z)<|wy (OH Z Z)<|wy (aD Z)<|wy (aB (off:=4) (m:=4) underlying203 Z aWt Z Z Z)<|wy (LB 0 Z Z underlying201 aLb Z Z (by show _<(sO _ _ _ _).length;rw[BO,uN];omega) (by exact(QB (x:=y) (hb1.rd j)).1) (by exact(QB (x:=y) (hb1.rd j)).2)) ?_
   refine wy (aYh 0 Z Z underlying123 Z Z (aQn (aVl (QB (x:=y) (hb1.rd j)).2)))<|wy (OH Z Z)<|wn Z<|aM<|wA Z Z<|wm Z<|aA ?_
   exact⟨j+1,(y>>>8)^^^(aAk (aAl y (rd l1 j))),⟨by omega,by omega,(by rw[hy,aAw hj0 (by omega)];rfl)⟩,by omega,(G8 Z Z Z Z Z Z Z Z),fun _ h=>h⟩
  ·refine aZ<|aM<|wA Z Z<|wm Z<|aA ?_
   exact⟨k+1,y,⟨by omega,by omega,(by rw[hy,VM (by omega)];rfl)⟩,by omega,(G5 Z Z Z Z Z),fun _ h=>h⟩
 ·refine aZ<|wq<|wm Z<|wy (OH (p:=x) (q:=4294967295#32) Z Z)<|wn Z<|dJ ?_
  refine⟨_,Z,?_⟩
  refine⟨?_,Z⟩
  rw[VM (by omega)] at hx
  unfold jT
  rw[hx]
  rfl
end Go.Proofs.YtdbebmmhdefgdaaGreat
namespace Go.Eng
open Go Go.RowKit Go.Pure
section
variable {P:Program} {n:Nd} {B:Nat} {w0:World} {L:Env} {R:List Row} {ty:TypeId}
theorem aRq {f:FuncId} {fn:Func} {x:Operand} {ts:Array TypeId} {m:Nat} {ps:Array TypeId} {t e:TypeId} (hf:P.funcs[f]? =some fn) (hname:(fn.name== "runtime.NumGoroutine")=false) (hb:fn.body.isNone=true) (hn:Extern.findNext fn=none) (he:Extern.find fn=some (Extern.BytealgMakeNoZero.makeNoZero ps #[t]))
  (ht:P.underlying t=some (.slice e)) (hx:ev L x=some (.int .i64 (m:Int))) (hm:m≤1000000):
  Ac P n B w0 (.call {callee:= .value (.func f),args:=[x].toArray,argTypes:=ts}) ty L R (fun v R'=> ∃g C,m≤C∧v= .slice (some ⟨g,0,none⟩) m C∧R'=⟨e,1,some ⟨g,0,none⟩,0,C,ints .u8 [],false⟩::R):=
 QO (vs:=[.int .i64 (m:Int)]) (by simp[evs,hx]) fun w hw=>by
  obtain⟨cs,hr,hge,hle⟩:=Lib.run_makeNoZero (P:=P) w ps t e ht m (by omega)
  have hp2:=((hw.drawn (w.drawn+1+1) (by omega)).newC cs e m hge (hle (by unfold maxLen;omega))).cut (k:=0) (Nat.zero_le _) (by simp)
  refine⟨_,_,_,?_,hp2,w.heap.size,cs.size,hge,rfl,by simp[ints]⟩
  rw[run_callFunc_extern hf hname hb hn he]
  rw[show [Value.int .i64 (m:Int)].toArray= #[.int .i64 m] from rfl,hr]
  rfl
theorem OD {x y:Operand} {t t2 e:TypeId} {pp:Option Addr} {g p dl dc c m2 c2:Nat} {A2:Option Addr} {k:IntKind} {D src:List Int} (i:Nat) (hi:R[i]? =some ⟨e,1,some ⟨g,0,none⟩,p,c,ints k D,false⟩) (ht:P.underlying t=some (.slice e)) (hst:(P.info? e).map (·.size)=some 1)
  (hx:ev L x=some (.slice pp dl dc)) (hy:ev L y=some (.slice A2 m2 c2)) (hpp:pp=some ⟨g,p,none⟩) (hdl:p+dl≤c) (hrd:RdC B w0 R A2 m2 c2 1 (ints k src)):
  Ac P n B w0 (.call {callee:= .builtin .copy,args:= #[x,y],argTypes:= #[t,t2]}) ty L R (fun v R'=>v= .int .i64 ((min m2 dl:Nat):Int)∧R'=R.set i ⟨e,1,some ⟨g,0,none⟩,p+min m2 dl,c,ints k (D++src.take (min m2 dl)),false⟩):=by
 intro a w o K Q ho hty hs hw hk
 have hown:=Row.lies_w (hw.own _ (List.mem_of_getElem? hi)) rfl
 have hr2:=hrd w hw
 have hm2:m2=src.length:=hr2.lenI
 have hl:p=D.length:=by have:=hown.1;rw[bV] at this;simp only at this;omega
 rcases hown.2 with⟨hv,_⟩|⟨g',cap,cur,hv,hb,hg,hnc,hcm,hcs,htk⟩
 ·simp at hv
 simp only[Value.slice.injEq,Option.some.injEq,Addr.mk.injEq,and_true,true_and] at hv
 obtain⟨rfl,rfl⟩:=hv
 simp only at htk hcs hnc hg hb
 rw[Nat.mul_one] at htk hcs
 subst hpp
 obtain⟨q,hq⟩: ∃q,min m2 dl=q:=⟨_,rfl⟩
 rw[hq] at hk
 have hq':Nat.min m2 dl=q:=hq
 have hcl:(ints k (src.take q)).length=q:=by rw[bV,List.length_take];omega
 rcases Nat.eq_zero_or_pos m2 with hz|hpos
 ·have hq0:q=0:=by omega
  have hrun:=run_copy_none (P:=P) w t t2 o.type e (some ⟨g,p,none⟩) A2 dl dc m2 c2 ht hst (by rw[hz];exact Nat.zero_min _)
  unfold Oper.wp execOp
  simp only[ho,resolve,invoke,builtin,Sem.run_bind,Sem.run_pure,Result.andThen_ok,List.map_toArray,List.map_cons,List.map_nil,hs.ev hx,hs.ev hy,hrun,Oper.upon]
  refine hk (.int .i64 ((0:Nat):Int)) w R hw ⟨by rw[hq0],?_⟩
  rw[hq0]
  simp only[List.take_zero,List.append_nil,Nat.add_zero]
  exact(by
   apply List.ext_getElem?
   intro j
   rw[List.getElem?_set]
   split
   ·rename_i e;subst e;rw[if_pos (List.getElem?_eq_some_iff.1 hi).1,hi]
   ·rfl)
 ·obtain ⟨a2,rfl⟩: ∃a2,A2=some a2:=by
   obtain⟨a2,h,_⟩:=hr2.at_ 0 _ (List.getElem?_eq_getElem (by rw[bV];omega))
   exact⟨a2,h⟩
  have hrun:=run_copy_row P w t t2 o.type e g p dl dc a2 m2 c2 cur e (ints k (src.take q)) ht hst hg (by rw[hcl];exact hq.symm) (fun j v hv=>by
   obtain⟨b,h1,h2⟩:=hr2.at_ j v (by
    rw[ints,List.map_take] at hv
    rw[List.getElem?_take] at hv
    split at hv
    ·exact hv
    ·cases hv)
   obtain rfl:=Option.some.inj h1
   exact h2) (by rw[hcl,hcs];omega) (zA k _)
  rw[hcl] at hrun
  unfold Oper.wp execOp
  simp only[ho,resolve,invoke,builtin,Sem.run_bind,Sem.run_pure,Result.andThen_ok,List.map_toArray,List.map_cons,List.map_nil,hs.ev hx,hs.ev hy,hrun,Oper.upon]
  refine hk (.int .i64 (q:Int)) _ _ ?_ ⟨rfl,rfl⟩
  refine hw.upd hi (row:=some g) ⟨rfl,rfl,rfl,by simp,fun j _ hj=>setRow_other w g j _ (fun e=>hj (by simp[e]))⟩ (Nat.le_refl _) (fun j hj=>by cases hj;exact⟨_,rfl,rfl⟩) ?_ (fun a' ha'=> .inl ⟨a',ha',rfl⟩)
  unfold Row.lies
  simp only
  refine⟨?_, .inr ⟨g,c,_,rfl,hb,setRow_heap w g cur _ e _ hg,by omega,hcm,?_,?_⟩⟩
  ·simp only[bV,List.length_append,List.length_take];omega
  ·simp only[List.size_toArray,List.length_append,List.length_take,List.length_drop,Array.length_toList,bV];omega
  ·simp only[Nat.mul_one]
   rw[qC,←htk]
   have h1:(cur.toList.take p++ints k (src.take q)).length=p+q:=by
    rw[List.length_append,hcl,List.length_take,Array.length_toList];omega
   rw[List.take_append,h1,List.take_of_length_le (by omega),Nat.sub_self,List.take_zero,List.append_nil]
theorem aJw {x y:Operand} {t e:TypeId} {A:Option Addr} {m c sz:Nat} {k1:IntKind} {vh:Int} (ht:P.underlying t=some (.slice e)) (hi:(P.info? e).map (·.size)=some sz) (hx:ev L x=some (.slice A m c)) (hy:ev L y=some (.int k1 vh)) (h0:0≤vh) (hc:vh≤c):
  Yl P n B w0 (.slice t x none (some y) none) ty L R (.slice A vh.toNat c):=by
 intro a w o ho _ hs hp
 obtain⟨i0,hi0,hsz0⟩:=Option.map_eq_some_iff.1 hi
 have hel:P.elem t=e:=by simp[Program.elem,ht]
 have ht':P.underlying t=some (.slice (P.elem t)):=by rw[hel];exact ht
 simp only[execOp,ho,Option.map_some,Option.map_none,hs.ev hx,hs.ev hy,Sem.run_bind,run_sliceAt_slice w t _ _ _ _ ht',run_slice_h w t A m c ht' k1 vh h0 hc,hel]
 have:(if c=0 then A else Option.map (fun x=>x.add 0) A)=A:=by
  split
  ·rfl
  ·exact yJ A
 simp[sizeOf,typeInfo,hi0,hsz0,sliced,this]
theorem aFc {x y z:Operand} {t e:TypeId} {A:Option Addr} {m c h sz:Nat} {k1 k2:IntKind} {vh vm:Int} (ht:P.underlying t=some (.slice e)) (hi:(P.info? e).map (·.size)=some sz) (hx:ev L x=some (.slice A m c)) (hy:ev L y=some (.int k1 vh)) (hz:ev L z=some (.int k2 vm)) (e1:vh=(h:Int)) (e2:vm=(h:Int)) (hc:h≤c):
  Yl P n B w0 (.slice t x none (some y) (some z)) ty L R (.slice A h h):=by
 subst e1;subst e2
 intro a w o ho _ hs hp
 obtain⟨i0,hi0,hsz0⟩:=Option.map_eq_some_iff.1 hi
 have hel:P.elem t=e:=by simp[Program.elem,ht]
 have ht':P.underlying t=some (.slice (P.elem t)):=by rw[hel];exact ht
 simp only[execOp,ho,Option.map_some,Option.map_none,hs.ev hx,hs.ev hy,hs.ev hz,Sem.run_bind,run_sliceAt_slice w t _ _ _ _ ht',run_slice_hm w t A m c ht' k1 k2 (h:Int) (h:Int) (by omega) (by omega) (by omega),hel]
 have:(if h=0 then A else Option.map (fun x=>x.add 0) A)=A:=by
  split
  ·rfl
  ·exact yJ A
 simp[sizeOf,typeInfo,hi0,hsz0,sliced,this]
theorem Row.lies_ro {w:World} {e sz m c c':Nat} {A:Option Addr} {xs:List Value} (h:Row.lies B w ⟨e,sz,A,m,c,xs,false⟩) (hA:A≠none) (hc:m≤c'):Row.lies B w ⟨e,sz,A,m,c',xs,true⟩:=by
 have h1:=Row.lies_w h rfl
 unfold Row.lies
 simp only
 obtain⟨hl,h2⟩:=h1
 simp only at hl h2
 rcases h2 with⟨hv,_⟩|⟨g,cap,cur,hv,hb,hg,hnc,hcm,hcs,ht⟩
 ·simp only[Value.slice.injEq] at hv
  exact absurd hv.1 hA
 ·simp only[Value.slice.injEq] at hv
  obtain⟨rfl,_,rfl⟩:=hv
  exact⟨g,cur,_,rfl,hb,hg,by omega,hc,hl,ht⟩
theorem Hp.toRo {w:World} {e sz m c c':Nat} {A:Option Addr} {xs:List Value} (h:Hp B w0 w (⟨e,sz,A,m,c,xs,false⟩::R)) (hA:A≠none) (hc:m≤c'):Hp B w0 w (⟨e,sz,A,m,c',xs,true⟩::R):=
 ⟨h.below,h.base,fun r hr=>by
  rcases List.mem_cons.1 hr with rfl|hr
  ·exact Row.lies_ro (h.own _ (.head _)) hA hc
  ·exact h.own r (.tail _ hr),by
  obtain⟨h1,h2⟩:=List.pairwise_cons.1 h.apart
  exact List.pairwise_cons.2 ⟨fun r hr=>h1 r hr,h2⟩,h.late⟩
theorem RdC.capI {A:Option Addr} {m c c':Nat} {k:IntKind} {l:List Int} (h:RdC B w0 R A m c 1 (ints k l)) (hc:m≤c'):RdC B w0 R A m c' 1 (ints k l):=fun w hw=>
 let q:=h w hw
 ⟨q.len,q.max,hc,q.at_⟩
structure QQ (u D:List Int) (N:Nat) (p:Int):Prop where
 p0:0≤p
 pN:p≤N
 up:(u.length:Int)≤p
 len:(D.length:Int)=p
 at_: ∀j:Nat,j<p→lt D j=om u j
 dvd:p=N∨(u.length:Int)∣p
theorem aZt {D E:List Int} {j:Nat}:lt (D++E) j=if j<D.length then lt D j else lt E (j-D.length):=by
 unfold lt
 rw[List.getD_eq_getElem?_getD]
 split
 ·rw[List.getElem?_append_left (by omega),List.getD_eq_getElem?_getD]
 ·rw[List.getElem?_append_right (by omega),List.getD_eq_getElem?_getD]
theorem lt_take {D:List Int} {j q:Nat} (h:j<q):lt (D.take q) j=lt D j:=by
 unfold lt
 rw[List.getD_eq_getElem?_getD,List.getElem?_take_of_lt h,List.getD_eq_getElem?_getD]
theorem QQ.init {u:List Int} {N:Nat} (hu:u.length≤N):QQ u ([]++u.take (min u.length N)) N ((min u.length N:Nat):Int):=by
 have e:min u.length N=u.length:=by omega
 rw[e,List.nil_append,List.take_length]
 exact⟨by omega,by omega,by omega,rfl,fun j hj=>(CQ (by omega)).symm, .inr (Int.dvd_refl _)⟩
theorem QQ.step {u D:List Int} {N:Nat} {p:Int} (h:QQ u D N p) (hu:0<u.length) (hp:p<N):
  QQ u (D++(D.take (min p N).toNat).take (min (min p N).toNat (N-p.toNat))) N (p+((min (min p N).toNat (N-p.toNat):Nat):Int)):=by
 obtain⟨p0,pN,up,len,at_,dvd⟩:=h
 have e:min p (N:Int)=p:=by omega
 rw[e]
 obtain⟨q,hq⟩: ∃q,min p.toNat (N-p.toNat)=q:=⟨_,rfl⟩
 rw[hq]
 have hd:(u.length:Int)∣p:=dvd.resolve_left (by omega)
 refine⟨by omega,by omega,by omega,by rw[List.length_append,List.length_take,List.length_take];omega,fun j hj=> ?_,?_⟩
 ·rw [aZt]
  split
  ·exact at_ j (by omega)
  ·rename_i hc
   rw[lt_take (by omega),lt_take (by omega),at_ _ (by omega)]
   obtain⟨k,hk⟩:=hd
   have hk0:0≤k:=by
    rcases Int.lt_or_le k 0 with g|g
    ·have:=Int.mul_nonneg (show(0:Int)≤u.length by omega) (show 0≤ -k by omega)
     rw[Int.mul_neg] at this
     omega
    ·exact g
   have e3:D.length=u.length*k.toNat:=by
    have:(D.length:Int)=((u.length*k.toNat:Nat):Int):=by rw[len,hk,Int.natCast_mul,Int.toNat_of_nonneg hk0]
    exact_mod_cast this
   have:=(uA u).mul k.toNat (j-D.length)
   rw[←this,←e3,Nat.sub_add_cancel (by omega)]
 ·rcases Nat.lt_or_ge q p.toNat with g|g
  ·left;omega
  ·right
   have:(q:Int)=p:=by omega
   rw[this]
   exact Int.dvd_add hd hd
theorem QQ.done {u D:List Int} {cn:Int} {N:Nat} {p:Int} (h:QQ u D N p) (hp: ¬p<N) (hN:N=cn.toNat*u.length):D=rep u cn:=by
 have hl:=h.len
 have hpN:=h.pN
 refine bI (by rw[oZ];omega) fun j h0 h1=> ?_
 have h2:=h.at_ j.toNat (by omega)
 have h3:=FW u cn.toNat j.toNat (by omega)
 rw[IJ,h2,←h3]
 unfold rd rep
 rw[Int.toNat_natCast]
end
end Go.Eng
namespace Go.Proofs
open Go.Shelf
def Tryz.laysRing_ren:Go.Shelf.Ren:=⟨fun|6=>117|15=>192|14=>191|28=>251|29=>252|20=>243|21=>244|22=>245|23=>246|24=>247|25=>248|26=>249|27=>250|46=>281|47=>282|48=>283|49=>284|50=>285|57=>305|n=>n,fun|22=>114|24=>117|25=>171|3=>3|39=>167|0=>0|53=>123|55=>112|4=>4|46=>289|45=>288|50=>97|5=>5|9=>9|66=>316|70=>320|76=>337|77=>338|n=>n,fun|n=>n⟩
theorem Tryz.laysRing:Go.Proofs.SlLaysF0.n6 Tryz.prog Tryz.laysRing_ren:= {
 mixed:=by kernel_rfl
 f6:=⟨Tryz.f117.name,by decide,Tryz.func117.trans (congrArg some (by kernel_rfl))⟩
 f14:=⟨Tryz.f191.name,by decide,Tryz.func191.trans (congrArg some (by kernel_rfl))⟩
 f15:=Tryz.func192.trans (congrArg some (by kernel_rfl))
 f20:=⟨Tryz.f243.name,by decide,Tryz.func243.trans (congrArg some (by kernel_rfl))⟩
 f21:=⟨Tryz.f244.name,by decide,Tryz.func244.trans (congrArg some (by kernel_rfl))⟩
 f22:=⟨Tryz.f245.name,by decide,Tryz.func245.trans (congrArg some (by kernel_rfl))⟩
 f23:=⟨Tryz.f246.name,by decide,Tryz.func246.trans (congrArg some (by kernel_rfl))⟩
 f24:=⟨Tryz.f247.name,by decide,Tryz.func247.trans (congrArg some (by kernel_rfl))⟩
 f25:=⟨Tryz.f248.name,by decide,Tryz.func248.trans (congrArg some (by kernel_rfl))⟩
 f26:=⟨Tryz.f249.name,by decide,Tryz.func249.trans (congrArg some (by kernel_rfl))⟩
 f27:=⟨Tryz.f250.name,by decide,Tryz.func250.trans (congrArg some (by kernel_rfl))⟩
 f28:=Tryz.func251.trans (congrArg some (by kernel_rfl))
 f29:=Tryz.func252.trans (congrArg some (by kernel_rfl))
 f46:=⟨Tryz.f281.name,by decide,Tryz.func281.trans (congrArg some (by kernel_rfl))⟩
 f47:=Tryz.func282.trans (congrArg some (by kernel_rfl))
 f48:=Tryz.func283.trans (congrArg some (by kernel_rfl))
 f49:=⟨Tryz.f284.name,by decide,Tryz.func284.trans (congrArg some (by kernel_rfl))⟩
 f50:=⟨Tryz.f285.name,by decide,Tryz.func285.trans (congrArg some (by kernel_rfl))⟩
 f57:=⟨Tryz.f305.name,by decide,Tryz.func305.trans (congrArg some (by kernel_rfl))⟩
 t0:=Tryz.underlying0
 a0:=Tryz.isAgg0
 z0:=Tryz.sizeOf0
 v0:=Tryz.zeroValue0
 t3:=Tryz.underlying3
 a3:=Tryz.isAgg3
 z3:=Tryz.sizeOf3
 v3:=Tryz.zeroValue3
 t4:=Tryz.underlying4
 a4:=Tryz.isAgg4
 z4:=Tryz.sizeOf4
 v4:=Tryz.zeroValue4
 t5:=Tryz.underlying5
 a5:=Tryz.isAgg5
 z5:=Tryz.sizeOf5
 v5:=Tryz.zeroValue5
 t9:=Tryz.underlying9
 a9:=Tryz.isAgg9
 z9:=Tryz.sizeOf9
 v9:=Tryz.zeroValue9
 t22:=Tryz.underlying114
 a22:=Tryz.isAgg114
 z22:=Tryz.sizeOf114
 v22:=Tryz.zeroValue114
 t25:=Tryz.underlying171
 a25:=Tryz.isAgg171
 z25:=Tryz.sizeOf171
 v25:=Tryz.zeroValue171
 t39:=Tryz.underlying167
 a39:=Tryz.isAgg167
 z39:=Tryz.sizeOf167
 v39:=Tryz.zeroValue167
 t45:=Tryz.underlying288
 a45:=Tryz.isAgg288
 z45:=Tryz.sizeOf288
 v45:=Tryz.zeroValue288
 t46:=Tryz.underlying289
 a46:=Tryz.isAgg289
 z46:=Tryz.sizeOf289
 v46:=Tryz.zeroValue289
 t50:=Tryz.underlying97
 a50:=Tryz.isAgg97
 z50:=Tryz.sizeOf97
 v50:=Tryz.zeroValue97
 t53:=Tryz.underlying123
 a53:=Tryz.isAgg123
 z53:=Tryz.sizeOf123
 v53:=Tryz.zeroValue123
 t55:=Tryz.underlying112
 a55:=Tryz.isAgg112
 z55:=Tryz.sizeOf112
 v55:=Tryz.zeroValue112
 t66:=Tryz.underlying316
 a66:=Tryz.isAgg316
 z66:=Tryz.sizeOf316
 v66:=Tryz.zeroValue316
 t70:=Tryz.underlying320
 a70:=Tryz.isAgg320
 z70:=Tryz.sizeOf320
 v70:=Tryz.zeroValue320
 t76:=Tryz.underlying337
 a76:=Tryz.isAgg337
 z76:=Tryz.sizeOf337
 v76:=Tryz.zeroValue337
 t77:=Tryz.underlying338
 a77:=Tryz.isAgg338
 z77:=Tryz.sizeOf338
 v77:=Tryz.zeroValue338}
end Go.Proofs
namespace Go.Proofs.YtdbebmmhdefgdaaGreat
open Go Go.Eng Go.Pure
open Tryz
set_option maxRecDepth 100000
variable {w:World} {u:List Int} {ws:List (List Int)} {i:Int} {l lr:List RC}
theorem aUb {B:Nat} {w0:World} {R:List Row} (x y:Nat) (hx:x≤1000000) (hy:y≤1000000) (h:x*y≤1000000):Ct Tryz.prog 122 #[.int .u64 ((x:Nat):Int), .int .u64 ((y:Nat):Int)] B w0 R (fun v R'=>v= .tuple #[.int .u64 0, .int .u64 ((x*y:Nat):Int)]∧R'=R):=by
 intro w hw
 have hc:=Tryz.bits_Mul x y (by omega) (by omega) w
 rw[Nat.div_eq_of_lt (by omega),Nat.mod_eq_of_lt (by omega)] at hc
 refine hc.mono ?_
 rintro e w' ⟨rfl,rfl⟩
 exact⟨_,R,Z,hw,Z,Z⟩
theorem LC {p:Int} (h:0≤p∧p≤18446744073709551615):IntKind.u64.wrap p=p:=by rw[IntKind.wrap_u64];omega
set_option maxHeartbeats 800000 in
theorem YN {A_u:Option Addr} {n_u c_u:Nat} {cn:Int} (h_u:Rd w A_u n_u c_u 1 (ints .u8 u)) (hu:0<u.length) (hc:1≤cn) (hP:cn.toNat*u.length≤8000):
  Ct Tryz.prog 72 #[.slice A_u n_u c_u,I cn] w.heap.size w [] (fun v R'=> ∃A c,v= .slice A (rep u cn).length c∧R'=[⟨5,1,A,(rep u cn).length,c,ints .u8 (rep u cn),true⟩]):=by
 obtain rfl:=h_u.lenI
 refine fn1 Tryz.func72 Z Z Z ?_
 have m_u:=h_u.max
 obtain⟨N,hN1⟩: ∃N:Nat,u.length*cn.toNat=N:=⟨_,rfl⟩
 have hN2:cn.toNat*u.length=N:=by rw[Nat.mul_comm];exact hN1
 have hN3:u.length≤N:=by rw[←hN2];exact Nat.le_mul_of_pos_left _ (by omega)
 have hN4:cn.toNat≤N:=by rw[←hN1];exact Nat.le_mul_of_pos_left _ hu
 refine wq<|wn Z<|aG<|wq<|wm Z<|wy (Yl.f (bC Z Z))<|aA<|aL Z<|aK<|aG<|wq ?_
 refine wm Z<|wy (Yl.f (eP Z Z))<|aA<|aL Z<|aK<|wq<|wm Z<|wy (aQ underlying22 Z)<|wy (Yl.is (oO underlying3 underlying167 Z) (by rw[LC (by omega)])) ?_
 refine wm Z<|wy (Yl.is (oO underlying3 underlying167 Z) (show Value.int .u64 (IntKind.u64.wrap cn)=Value.int .u64 ((cn.toNat:Nat):Int) from by rw[LC (by omega),Int.toNat_of_nonneg (by omega)]))<|wa (aF aXv rfl (aUb u.length cn.toNat (by omega) (by omega) (by omega))) ?_
 rw[hN1]
 rintro _ _ ⟨rfl,rfl⟩
 refine wm Z<|wX Z Z<|wX Z Z<|wg Z<|wn Z<|aG<|wq<|wm Z<|wy (Yl.f (dV Z Z))<|wm Z<|aC Z Z<|wm Z<|aC Z Z ?_
 refine wy (Yl.f (dV Z Z))<|wy (aS Z Z)<|aA<|aL Z<|aK<|wq<|wm Z<|wy (iV underlying167 underlying3 Z)<|wn Z<|aG<|wq<|wm Z ?_
 refine wy (aQ underlying22 Z)<|wy (Yl.f (bC Z Z))<|aA<|aL Z<|aK<|wq<|wm Z<|wn Z<|aG<|wq<|wm Z<|wy (Yl.f (dV Z Z)) ?_
 refine aA<|aL Z<|aK<|wq<|wm Z<|wa (aRq (m:=N) (ps:= #[3]) Tryz.func123 (by kernel_rfl) (by kernel_rfl) (by kernel_rfl) (by kernel_rfl) underlying22 Z (by omega)) ?_
 rintro _ _ ⟨g_1,C_2,hC,rfl,rfl⟩
 refine wm Z<|wm Z<|wy (aFc (h:=N) underlying22 sz5 Z Z Z Z Z hC)<|wn Z<|wq<|wm Z<|wm Z<|wa (OD (dl:=N) 0 Z underlying22 sz5 Z Z (Z) (by omega) (h_u.c _)) ?_
 rintro _ _ ⟨rfl,rfl⟩
 refine wn Z<|aG<|aI ?_
 refine fU (fun(p:Int) (n1:Nat) (D:List Int)=>[(7,I ((N:Nat):Int)),(8,I ((N:Nat):Int)),(9, .slice (GG g_1) N N),(10,I p)]) (fun p n1 D=>[(ru 5 (GG g_1) n1 C_2 D)]) (fun p n1 D=>(n1=D.length)∧(QQ u D N p)) (fun p n1 D=>(N-p).toNat) ?_ ?_
 ·exact⟨((min u.length N:Nat):Int),(0+min u.length N),([])++List.take (min u.length N) u,⟨(by rw[List.nil_append,List.length_take];omega),(QQ.init hN3)⟩,(G4 Z Z Z Z),fun _ h=>h⟩
 intro p n1 D ⟨hn1,hI⟩
 have hI1:=hI.p0
 have hI2:=hI.pN
 have hI3:=hI.len
 have hI4:=hI.up
 refine aG<|wq<|wm Z<|wm Z<|wL Z Z<|aA<|bM Z (fun hc1=> ?_) (fun hc1=> ?_)
 ·refine aK<|aI<|wq<|wm Z<|wm Z<|wy (vQ Z Z)<|wn Z<|bT mixed<|wD 0 Z (aN Z)<|wD 1 Z (aN Z)<|wD 2 Z (aN Z)<|wD 3 Z (iP underlying22 sz5 Z Z)<|wD 4 Z (aN Z) ?_
  refine wD 5 Z (aN Z)<|wD 6 Z (aJw underlying22 sz5 Z Z (by omega) (by omega))<|wC 7 Z (OD (dl:=(N-(p).toNat)) 0 Z underlying22 sz5 Z Z (by rw[VT (by omega),show p.toNat=n1 by omega]) (by omega) (RdC.capI (RdC.toI (rdr 0 Z) (by omega)) (by omega))) ?_
  rintro _ _ ⟨rfl,rfl⟩
  refine⟨.inl (by kernel_rfl),?_⟩
  refine wD 8 Z (dF Z Z)<|wD 9 Z (bQ Z)<|wN ?_
  exact⟨p+((min ((min p ((N:Nat):Int)).toNat) (N-(p).toNat):Nat):Int),(n1+min ((min p ((N:Nat):Int)).toNat) (N-(p).toNat)),D++List.take (min ((min p ((N:Nat):Int)).toNat) (N-(p).toNat)) ((D).take (min p ((N:Nat):Int)).toNat),⟨(by rw[List.length_append,List.length_take,List.length_take];omega),(hI.step hu (by omega))⟩,by omega,(G4 Z Z Z Z),fun _ h=>h⟩
 ·refine aZ<|wq<|wm Z<|wn Z ?_
  obtain rfl:=hn1
  obtain rfl:=hI.done (by omega) hN2.symm
  have hrl:(rep u cn).length=N:=by rw[oZ];omega
  refine bR (R1:=[⟨5,1,GG g_1,(rep u cn).length,(rep u cn).length,ints .u8 (rep u cn),true⟩]) (fun _ h=>h.toRo (by simp) (Nat.le_refl _)) ?_
  rw[←hrl]
  exact⟨_,Z,_,_,Z,Z⟩
theorem TB (h0:0≤i) (h1:i<ws.length):rdl ws i∈ws:=by
 unfold rdl
 rw[List.getD_eq_getElem?_getD,List.getElem?_eq_getElem (by omega)]
 exact List.getElem_mem _
theorem tJ (h0:0≤i) (h1:i<ws.length):ws.take (i+1).toNat=ws.take i.toNat++[rdl ws i]:=by
 rw[show(i+1).toNat=i.toNat+1 by omega,List.take_add_one,List.getElem?_eq_getElem (by omega)]
 unfold rdl
 rw[List.getD_eq_getElem?_getD,List.getElem?_eq_getElem (by omega)]
 rfl
theorem aNc (x y:List Int) (a b:Int):orL [cmpL x y,kE a b]=kT (x,a) (y,b):=by
 unfold kT orL orL orL
 simp only
 split
 ·rfl
 ·split
  ·rfl
  ·omega
theorem aGf {A:Option Addr} {c:Nat} (h0:0≤i) (h1:i<ws.length) (hl:l.map RC.rt=eB (ws.take i.toNat)) (ht:0<iB (lw (rdl ws i))):(l++[(⟨A,c,kI (lw (rdl ws i)),iB (lw (rdl ws i))⟩:RC)]).map RC.rt=eB (ws.take (i+1).toNat):=by
 have hp:0<(rdl ws i).length:=by
  rcases Nat.eq_zero_or_pos (rdl ws i).length with z|z
  ·rw [List.eq_nil_of_length_eq_zero z] at ht
   simp[aZr,iB] at ht
  ·exact z
 rw[List.map_append,hl,tJ h0 h1,lL]
 congr 1
 unfold eB
 simp[hp,RC.rt,AU]
theorem aLv (h0:0≤i) (h1:i<ws.length) (hl:l.map RC.rt=eB (ws.take i.toNat)) (ht: ¬0<iB (lw (rdl ws i))):l.map RC.rt=eB (ws.take (i+1).toNat):=by
 have hp:(rdl ws i).length=0:=by
  rcases Nat.eq_zero_or_pos (rdl ws i).length with z|z
  ·exact z
  ·exact absurd (AA (c:=lw (rdl ws i)) (by rw[IG];exact z)) ht
 rw[hl,tJ h0 h1,lL]
 unfold eB
 simp[hp]
theorem CK (ws:List (List Int)):(eB ws).length≤ws.length:=by
 unfold eB
 rw[List.length_map]
 exact List.length_filter_le _ _
theorem aNr (h:aO u):aO (lw u):=aO.append (h.drop _) (h.take _)
theorem aOh:Go.Sort.SWO (Go.Proofs.ltOf fun x y:RC=>kT x.rt y.rt):=by
 have e: ∀x y:RC,Go.Proofs.ltOf (fun x y:RC=>kT x.rt y.rt) x y=true↔kT x.rt y.rt<0:=fun x y=>by simp[Go.Proofs.ltOf]
 have e': ∀x y:RC,Go.Proofs.ltOf (fun x y:RC=>kT x.rt y.rt) x y=false↔kT y.rt x.rt≤0:=fun x y=>by
  rw[←Bool.not_eq_true,e,oH x.rt y.rt];omega
 refine⟨fun x=> ?_,fun x y z h1 h2=> ?_,fun x y z h1 h2=> ?_⟩
 ·rw[e',(PP x.rt x.rt).2 rfl];omega
 ·rw [e] at h1 h2 ⊢
  have h3:=EK x.rt y.rt z.rt (by omega) (by omega)
  rcases Int.lt_or_eq_of_le h3 with g|g
  ·exact g
  ·have g2:=(PP _ _).1 g
   rw[g2,oH y.rt z.rt] at h1
   omega
 ·rw [e'] at h1 h2 ⊢
  exact EK _ _ _ h2 h1
theorem aTc {ws:List (List Int)} {M:Nat} (hl:lr.map RC.rt=vT ws) (hM: ∀w∈ws,w.length≤M) {r:RC} (hr:r∈lr):0<r.root.length∧1≤r.times∧r.times.toNat*r.root.length≤M:=by
 have h1:r.rt∈vT ws:=by rw[←hl];exact List.mem_map_of_mem hr
 obtain⟨w,hw,hp,e⟩:=aGw h1
 have hp':0<(lw w).length:=by rw[IG];exact hp
 have e1:r.root=kI (lw w):=congrArg Prod.fst e
 have e2:r.times=iB (lw w):=congrArg Prod.snd e
 have h2:=SY hp'
 have h3:=yA hp'
 have h4:=AA hp'
 have h5:=congrArg List.length (CF hp')
 rw[oZ,IG] at h5
 rw[e1,e2]
 exact⟨by omega,by omega,by rw[h5];exact hM w hw⟩
theorem aAx (h0:0≤i) (h1:i<lr.length):(lr.take (i+1).toNat).map (fun r=>rep r.root r.times)=(lr.take i.toNat).map (fun r=>rep r.root r.times)++[rep (rdG lr i).root (rdG lr i).times]:=by
 rw[show(i+1).toNat=i.toNat+1 by omega,List.take_add_one,List.getElem?_eq_getElem (by omega),List.map_append]
 unfold rdG
 rw[List.getD_eq_getElem?_getD,List.getElem?_eq_getElem (by omega)]
 rfl
theorem aAy (hl:lr.map RC.rt=vT ws) (hi:(lr.length:Int)≤i):(lr.take i.toNat).map (fun r=>rep r.root r.times)=canon ws:=by
 rw[List.take_of_length_le (by omega)]
 unfold canon
 rw[←hl,List.map_map]
 rfl
theorem YJ {A_x:Option Addr} {c_x:Nat} {x:List Int} {t_x:Int} {A_y:Option Addr} {c_y:Nat} {y:List Int} {t_y:Int} (h_x:Rd w A_x x.length c_x 1 (ints .u8 x)) (h_y:Rd w A_y y.length c_y 1 (ints .u8 y)) (bh_x:aO x) (bh_y:aO y):
  Ct Tryz.prog 118 #[.agg #[.slice A_x x.length c_x,I t_x], .agg #[.slice A_y y.length c_y,I t_y]] w.heap.size w [] (fun v R'=>v=I (kT (x,t_x) (y,t_y))):=by
 refine fn1 Tryz.func118 Z Z Z ?_
 refine wq<|wa (bX (sz:=2) Z Z) ?_
 rintro _ _ ⟨g_1,rfl,rfl⟩
 refine wa (bX (sz:=2) Z Z) ?_
 rintro _ _ ⟨g_3,rfl,rfl⟩
 refine wn Z<|aG<|bT mixed<|wD 0 Z (aB (off:=0) (m:=0) underlying117 Z dO Z Z Z)<|wD 1 Z (aJ (rdr 1 Z) underlying22 Z Z Z)<|wD 2 Z (aB (off:=0) (m:=0) underlying117 Z dO Z Z Z)<|wD 3 Z (aJ (rdr 0 Z) underlying22 Z Z Z)<|wD 5 Z (aB (off:=1) (m:=1) underlying117 Z sz3 Z Z Z)<|wD 6 Z (aJ (rdr 1 Z) underlying3 Z Z Z)<|wD 7 Z (aB (off:=1) (m:=1) underlying117 Z sz3 Z Z Z)<|wD 8 Z (aJ (rdr 0 Z) underlying3 Z Z Z)<|wC 4 Z (aF bEp Z (Ct.quiet (fun w hw=>QA ((h_x.c _) w hw) ((h_y.c _) w hw) bh_x bh_y))) ?_
 rintro _ _ ⟨rfl,rfl⟩
 refine⟨.inr fun _ h=>h,?_⟩
 refine wC 9 Z (aF VI Z (Ct.quiet (fun w hw=>nJ))) ?_
 rintro _ _ ⟨rfl,rfl⟩
 refine⟨.inr fun _ h=>h,?_⟩
 refine wC 10 Z (bS .i64 [cmpL x y,kE t_x t_y] underlying52 zs3 Z Z Z) ?_
 rintro _ _ ⟨g_6,rfl,rfl⟩
 refine⟨.inr fun _ h=>h.right (R':=[_]),?_⟩
 refine wC 11 Z (aF aXw Z (Ct.quiet (fun w hw=>aNd ((rdr 0 Z) w hw)))) ?_
 rintro _ _ ⟨rfl,rfl⟩
 refine⟨.inr fun _ h=>h,?_⟩
 refine wD 12 Z (bQ Z)<|wN<|aT [] 99 (by decide) Z ?_
 refine⟨_,Z,?_⟩
 exact congrArg (Value.int .i64) (aNc x y t_x t_y)
theorem YA (cb:Array Value):aRu Tryz.prog 117 118 cb 2:=fun α _ enc hk h1 cf hO blk off cap d w hcmp hH hblk hsz=>
 AnyQ.slices_SortFunc Tryz.laysRing 2 (fun w=>by kernel_rfl) (fun w=>by kernel_rfl) enc hk h1 cf hO 118 cb blk off cap d w bEq hcmp hH hblk hsz
theorem SF:OE Tryz.prog 117:=fun p cap fv w=>AnyF.slices_SortFunc_none Tryz.laysRing p cap fv w
set_option maxHeartbeats 1000000 in
theorem aLw {w:World} {A_ws:Option Addr} {n_ws c_ws:Nat} {vals_ws:List Value} {ws:List (List Int)} (h_ws:Rd w A_ws n_ws c_ws 1 vals_ws) (s_ws:SlW .u8 w vals_ws ws) (hN:(∀w∈ws,w.length≤8000)∧ws.length≤100000):
  Ct Tryz.prog 71 #[.slice A_ws n_ws c_ws] w.heap.size w [] (fun v R'=> ∃(A:Option Addr) (c:Nat) (l:List RC) (Rs:List Row),v= .slice A l.length c∧RgR Rs l∧l.map RC.rt=vT ws∧R'=⟨117,2,A,l.length,c,rgs l,false⟩::Rs):=by
 obtain rfl:n_ws=ws.length:=by have:=h_ws.len;have:=s_ws.1;omega
 refine fn1 Tryz.func71 Z Z Z ?_
 have m_ws:=h_ws.max
 have hob:=s_ws.okB
 refine wq<|wn Z<|wq<|dH (R1:=(⟨117,2,none,0,0,rgs ([]),false⟩::[])) (Sub.refl _) (fun _ h=>h.nil 117 2)<|wn Z<|aG<|wq<|wm Z<|wy (aQ underlying23 Z)<|wm Z ?_
 refine aA<|aI ?_
 refine nU (fun(i:Int) (A1:Option Addr) (n1:Nat) (c1:Nat) (l:List RC) (Rs:List Row)=>[(3, .slice A1 n1 c1),(8, .slice A_ws ws.length c_ws),(9,I ((ws.length:Nat):Int)),(10,I i)]) (fun i A1 n1 c1 l Rs=>(⟨117,2,A1,n1,c1,rgs l,false⟩::Rs)) (fun i A1 n1 c1 l Rs=>(0≤i)∧(i≤ws.length)∧(n1=l.length)∧(RgR Rs l)∧(l.map RC.rt=eB (ws.take i.toNat))) (fun i A1 n1 c1 l Rs=>(ws.length-i).toNat) ?_ ?_
 ·exact⟨0,none,0,0,[],[],⟨by omega,by omega,(Z),(RgR.nil _),(Z)⟩,(G4 Z Z Z Z),fun _ h=>h⟩
 intro i A1 n1 c1 l Rs ⟨hi0,hi1,hn1,hrg,hl⟩
 have hll:=congrArg List.length hl
 rw[List.length_map] at hll
 have hlf:=CK (ws.take i.toNat)
 rw[List.length_take] at hlf
 have hwl:0≤i→i<ws.length→(rdl ws i).length≤8000:=fun h h'=>hN.1 _ (TB h h')
 refine wq<|wL Z Z<|aA<|aG<|bM Z (fun hc1=> ?_) (fun hc1=> ?_)
 ·have hwl2:=hwl hi0 (by omega)
  refine aK<|aG<|aI<|wq<|wy (aH underlying23 dO Z Z (h_ws.c _)) ?_
  refine s_ws.elim (i:=i) (by omega) (by omega) (fun A_1 c_2 hv_3 hr_4 hb_5 mhr_4=> ?_)
  refine wy (DC underlying22 Z Z Z (h_ws.c _) hv_3)<|wn Z<|wq<|wm Z<|wa (aF bEs Z (Ct.fresh (fun w hw=>aZm ((hr_4.c _) w hw) (byteL_wf hb_5) (by omega)))) ?_
  rintro _ _ ⟨_,rfl,A_6,c_7,rfl,rfl⟩
  refine wa (aF bEt Z (Ct.fresh (fun w hw=>aLo ((rdr 0 Z) w hw) (by rw[IG];omega)))) ?_
  rintro _ _ ⟨_,rfl,A_9,c_10,rfl,rfl⟩
  refine wm Z<|wX Z Z<|wX Z Z<|wg Z<|wn Z<|wq<|wm Z<|wy (dV Z Z)<|aA<|bM Z (fun hc2=> ?_) (fun hc2=> ?_)
  ·refine aM<|wm Z<|wm Z<|wm Z<|wy (dY (v:= .agg #[.slice A_9 ((kI (lw (rdl ws i))).length) c_10,I (iB (lw (rdl ws i)))]) Z (fun w=>by kernel_rfl))<|wa (bAx ⟨A_9,c_10,kI (lw (rdl ws i)),iB (lw (rdl ws i))⟩ underlying114 bBi rfl) ?_
   rintro _ _ ⟨g_12,rfl,rfl⟩
   refine wa (aJs 3 Z underlying114 bBl Z Z Z Z (rdr 0 Z) (by omega)) ?_
   rintro _ _ ⟨A_13,c_14,rfl,rfl⟩
   refine bN (v:= .slice A_13 (n1+1) c_14) Z<|wn Z<|aM<|wA Z Z<|wm Z<|aA ?_
   exact⟨i+1,A_13,n1+1,c_14,l++([⟨A_9,c_10,kI (lw (rdl ws i)),iB (lw (rdl ws i))⟩]),((ru 5 A_9 ((kI (lw (rdl ws i))).length) c_10 (kI (lw (rdl ws i))))::Rs),⟨by omega,by omega,(by rw[List.length_append,hn1];rfl),(hrg.snoc Z (aO.take (aNr (hob _ (TB hi0 (by omega))).1) _)),(aGf hi0 (by omega) hl (by assumption))⟩,by omega,(G4 Z Z Z Z),fun _ h=>h.selR (F:=[_,_,_,_]) (F':=[_,_]) [3,1] (by decide) Z⟩
  ·refine aK<|aM<|wA Z Z<|wm Z<|aA ?_
   exact⟨i+1,A1,n1,c1,l,Rs,⟨by omega,by omega,(hn1),(hrg),(aLv hi0 (by omega) hl (by assumption))⟩,by omega,(G4 Z Z Z Z),fun _ h=>h.selR (F:=[_,_,_]) (F':=[_]) [2] (by decide) Z⟩
 ·obtain rfl:=hn1
  obtain rfl:i=ws.length:=by omega
  rw[Int.toNat_natCast,List.take_length] at hl
  refine aZ<|wq<|wm Z<|wa (aF bEr Z (YC (enc:=encR) (YA _) SF (fun _=>Z) aPg (l:=l) 0 Z (by omega) (fun x y=>kT x.rt y.rt) aOh (fun W hW x hx y hy=>YJ ((hrg x hx).2 _ _ _ hW) ((hrg y hy).2 _ _ _ hW) (hrg x hx).1 (hrg y hy).1))) ?_
  rintro _ _ ⟨rfl,l1,hp1,hs1,rfl⟩
  rw[←hp1.length_eq]
  refine aA<|wq<|wm Z<|wn Z<|bR (R1:=(⟨117,2,A1,l1.length,c1,rgs l1,false⟩::Rs)) (fun _ h=>h) ?_
  refine⟨_,Z,?_⟩
  exact⟨_,_,l1,Rs,Z,hrg.perm hp1,MM ((hp1.map RC.rt).trans (by rw[hl])) (List.pairwise_map.2 (hs1.imp fun {a b} h=>by rw[oH a.rt b.rt] at h;omega)),rfl⟩
variable {w:World}
set_option maxHeartbeats 1000000 in
theorem aJc {w:World} {A_ws:Option Addr} {n_ws c_ws:Nat} {vals_ws:List Value} {ws:List (List Int)} (h_ws:Rd w A_ws n_ws c_ws 1 vals_ws) (s_ws:SlW .u8 w vals_ws ws) (hN:(∀w∈ws,w.length≤8000)∧ws.length≤100000):
  Ct Tryz.prog 39 #[.slice A_ws n_ws c_ws] w.heap.size w [] (fun v R'=> ∃(A:Option Addr) (c:Nat) (vals:List Value) (Rs:List Row),v= .slice A vals.length c∧SlR .u8 Rs vals (canon ws)∧R'=⟨22,1,A,vals.length,c,vals,false⟩::Rs):=by
 obtain rfl:n_ws=ws.length:=by have:=h_ws.len;have:=s_ws.1;omega
 refine fn1 Tryz.func39 Z Z Z ?_
 have m_ws:=h_ws.max
 refine wq<|wn Z<|wq<|dH (R1:=(⟨22,1,none,0,0,[],false⟩::[])) (Sub.refl _) (fun _ h=>h.nil 22 1)<|wn Z<|aG<|wq<|wm Z<|wa (aF bFv Z (Ct.fresh (fun w hw=>aLw ((h_ws.c _) w hw) (s_ws.c hw) (by first|assumption|omega|decide)))) ?_
 rintro _ _ ⟨_,rfl,A_1,c_2,l_3,Rs_4,rfl,hrg_5,hlr_6,rfl⟩
 refine dH (R1:=(⟨117,2,A_1,l_3.length,c_2,rgs l_3,false⟩::⟨22,1,none,0,0,[],false⟩::Rs_4)) (Sub.refl _) (fun _ h=>Hp.toTail0 (X:=[_]) (Y:=[_]) h)<|wy (aQ underlying114 Z)<|wm Z<|aA<|aI ?_
 refine aCa (fun(i:Int) (A1:Option Addr) (n1:Nat) (c1:Nat) (vals:List Value) (ls:List (List Int)) (Rs:List Row)=>[(3, .slice A1 n1 c1),(7, .slice A_1 l_3.length c_2),(8,I ((l_3.length:Nat):Int)),(9,I i)]) (fun i A1 n1 c1 vals ls Rs=>(⟨117,2,A_1,l_3.length,c_2,rgs l_3,false⟩::⟨22,1,A1,n1,c1,vals,false⟩::Rs)) (fun i A1 n1 c1 vals ls Rs=>(0≤i)∧(i≤l_3.length)∧(n1=vals.length)∧(SlR .u8 Rs vals ls)∧(RgR Rs l_3)∧(ls=(l_3.take i.toNat).map (fun r=>rep r.root r.times))) (fun i A1 n1 c1 vals ls Rs=>(l_3.length-i).toNat) ?_ ?_
 ·exact⟨0,none,0,0,[],[],Rs_4,⟨by omega,by omega,(Z),(SlR.nilR _ _),(hrg_5),(Z)⟩,(G4 Z Z Z Z),fun _ h=>h⟩
 intro i A1 n1 c1 vals ls Rs ⟨hi0,hi1,hn1,hsl,hrg,hls⟩
 have hll:=congrArg List.length hls
 rw[List.length_map,List.length_take] at hll
 have hsn:=hsl.1
 have hro:0≤i→i<l_3.length→0<(rdG l_3 i).root.length∧1≤(rdG l_3 i).times∧(rdG l_3 i).times.toNat*(rdG l_3 i).root.length≤8000:=fun h h'=>aTc hlr_6 hN.1 (aCz h h')
 have hfew:l_3.length≤ws.length:=by have h1:=congrArg List.length hlr_6;rw[List.length_map,(rU ws).length_eq] at h1;have h2:=CK ws;omega
 refine wq<|wL Z Z<|aA<|aG<|bM Z (fun hc1=> ?_) (fun hc1=> ?_)
 ·have hro2:=hro hi0 (by omega)
  refine aK<|aG<|aI<|wq<|wy (jB underlying114 aLc Z Z (rdr 0 Z) Z) ?_
  have hr_8:=(hrg _ (aCz (l:=l_3) (i:=i) (by omega) (by omega))).2
  refine wy (bBq underlying117 Z aLc Z (rdr 0 Z) (by omega) (by omega))<|wa (iI (sz:=2) bBg Z) ?_
  rintro _ _ ⟨g_10,rfl,rfl⟩
  refine bY (fQ (vs:=[.slice ((rdG l_3 i).A) ((rdG l_3 i).root.length) ((rdG l_3 i).c),I ((rdG l_3 i).times)]) 0 Z aLc Z Z Z (by intro v hv;simp at hv;rcases hv with rfl|rfl<;>rfl) Z) ?_
  rintro _ _ rfl
  refine aA<|aM<|wm Z<|wy (aB (off:=0) (m:=0) underlying117 Z dO Z Z Z)<|wy (aJ (rdr 0 Z) underlying22 Z Z Z)<|wy (aB (off:=1) (m:=1) underlying117 Z sz3 Z Z Z)<|wy (aJ (rdr 0 Z) underlying3 Z Z Z)<|wa (aF bFu Z (Ct.fresh (fun w hw=>YN ((fun _ h=>hr_8 _ _ _ (h.right (R':=[_,_,_]))) w hw) hro2.1 hro2.2.1 hro2.2.2))) ?_
  rintro _ _ ⟨_,rfl,A_11,c_12,rfl,rfl⟩
  refine wa (nN [Value.slice A_11 ((rep ((rdG l_3 i).root) ((rdG l_3 i).times)).length) c_12] underlying23 xG Z Z Z Z) ?_
  rintro _ _ ⟨g_14,rfl,rfl⟩
  refine wa (rG 4 Z Z underlying23 bBk Z Z Z Z Z (rdr 0 Z) (by simp[Value.oneCell']) (by dsimp only;omega)) ?_
  rintro _ _ ⟨A_15,c_16,rfl,rfl⟩
  refine bN (v:= .slice A_15 (n1+1) c_16) Z<|wn Z<|aM<|wA Z Z<|wm Z<|aA ?_
  exact⟨i+1,A_15,n1+1,c_16,vals++([Value.slice A_11 ((rep ((rdG l_3 i).root) ((rdG l_3 i).times)).length) c_12]),(ls++[rep (rdG l_3 i).root (rdG l_3 i).times]),(⟨5,1,A_11,(rep ((rdG l_3 i).root) ((rdG l_3 i).times)).length,c_12,ints .u8 (rep ((rdG l_3 i).root) ((rdG l_3 i).times)),true⟩::Rs),⟨by omega,by omega,(by rw[List.length_append,hn1];rfl),(hsl.snoc Z),(hrg.right [_]),(by rw[aAx hi0 (by omega),←hls])⟩,by omega,(G4 Z Z Z Z),fun _ h=>h.selR (F:=[_,_,_,_,_]) (F':=[_,_,_]) [3,4,1] (by decide) Z⟩
 ·refine aZ<|wq<|wm Z<|wn Z ?_
  obtain rfl:ls=canon ws:=by rw[hls];exact aAy hlr_6 (by omega)
  refine aT [1] 2 (by decide) Z ?_
  refine⟨_,Z,?_⟩
  subst hn1
  exact⟨_,_,vals,Rs,Z,hsl,Z⟩
theorem aIb {A_u:Option Addr} {n_u c_u:Nat} {u:List Int} {A_t:Option Addr} {n_t c_t:Nat} {t:List Int} (h_u:Rd w A_u n_u c_u 1 (ints .u8 u)) (h_t:Rd w A_t n_t c_t 1 (ints .u8 t)) (bh_u:aO u) (bh_t:aO t):
  Ct Tryz.prog 274 #[.slice A_u n_u c_u, .slice A_t n_t c_t] w.heap.size w [] (fun v R'=>v= .bool (decide (u=t))):=by
 obtain rfl:=h_u.lenI
 obtain rfl:=h_t.lenI
 refine fn1 Tryz.func274 Z Z Z ?_
 have m_u:=h_u.max
 have m_t:=h_t.max
 refine wq<|wn Z<|wq<|wm Z<|wy (xH underlying22 underlying5 underlying9 Z (h_u.c _))<|wm Z<|wy (xH underlying22 underlying5 underlying9 Z (h_t.c _))<|wy (bBt Z Z bh_u bh_t)<|wn Z<|dJ ?_
 refine⟨_,Z,?_⟩
 rfl
variable {ws ls:List (List Int)} {w:List Int}
def kw (c:List Int):RT:=(kI c,iB c)
structure CI (ws:List (List Int)) (ls:List (List Int)):Prop where
 perm:(ls.map kw).Perm (eB ws)
 sorted:ls.Pairwise fun a b=>kT (kw a) (kw b)≤0
theorem CI.nil:CI [] []:=⟨.refl _, .nil⟩
theorem CI.skip (h:CI ws ls) (hw:w.length=0):CI (ws++[w]) ls:=⟨by
 have e:eB [w]=[]:=by unfold eB;simp[hw]
 rw[lL,e,List.append_nil]
 exact h.perm,h.sorted⟩
theorem CI.put {j:Int} (h:CI ws ls) (hw:0<w.length) (h0:0≤j) (h1:j≤ls.length) (hup: ∀q:Int,j≤q→q<ls.length→kT (kw (lw w)) (kw (rdl ls q))<0) (hlo: ¬(0<j∧kT (kw (lw w)) (kw (rdl ls (j-1)))<0)):CI (ws++[w]) (ls.take j.toNat++[lw w]++ls.drop j.toNat):=by
 refine⟨?_,?_⟩
 ·rw [lL]
  have e:eB [w]=[AU w]:=by unfold eB;simp[hw]
  rw[e,List.map_append,List.map_append]
  refine List.Perm.trans ?_ (List.Perm.append_right [AU w] h.perm)
  rw[List.append_assoc]
  refine(List.Perm.append_left _ List.perm_append_comm).trans ?_
  rw[←List.append_assoc,←List.map_append,List.take_append_drop]
  exact .refl _
 ·have hs:=h.sorted
  have hs2:=hs
  rw[←List.take_append_drop j.toNat ls,List.pairwise_append] at hs2
  obtain⟨s1,s2,s3⟩:=hs2
  have hdn: ∀b∈ls.drop j.toNat,kT (kw (lw w)) (kw b)<0:=fun b hb=>by
   obtain⟨k,hk,e⟩:=List.mem_iff_getElem.1 hb
   rw[List.length_drop] at hk
   have:=hup (j+k) (by omega) (by omega)
   have e2:rdl ls (j+k)=b:=by
    rw[←e,List.getElem_drop]
    unfold rdl
    rw[show(j+(k:Int)).toNat=j.toNat+k by omega,List.getD_eq_getElem?_getD,List.getElem?_eq_getElem (by omega)]
    rfl
   rwa[e2] at this
  have hlow: ∀a∈ls.take j.toNat,kT (kw a) (kw (lw w))≤0:=fun a ha=>by
   obtain⟨k,hk,e⟩:=List.mem_iff_getElem.1 ha
   rw[List.length_take] at hk
   have hj:0<j:=by omega
   have hl:kT (kw (rdl ls (j-1))) (kw (lw w))≤0:=by
    rw[oH (kw (lw w))]
    have:=fun c=>hlo ⟨hj,c⟩
    omega
   have e2:rdl ls (j-1)=ls[(j-1).toNat]'(by omega):=by
    unfold rdl
    rw[List.getD_eq_getElem?_getD,List.getElem?_eq_getElem (by omega)]
    rfl
   rw[List.getElem_take] at e
   rcases Nat.lt_or_ge k (j-1).toNat with g|g
   ·have:=List.pairwise_iff_getElem.1 hs k (j-1).toNat (by omega) (by omega) g
    rw[e,←e2] at this
    exact EK _ _ _ this hl
   ·obtain rfl:k=(j-1).toNat:=by omega
    rw[←e,←e2]
    exact hl
  rw[List.append_assoc,List.pairwise_append]
  refine⟨s1,?_,?_⟩
  ·rw [List.singleton_append,List.pairwise_cons]
   exact⟨fun b hb=>by have:=hdn b hb;omega,s2⟩
  ·intro a ha b hb
   rw[List.singleton_append,List.mem_cons] at hb
   rcases hb with rfl|hb
   ·exact hlow a ha
   ·exact s3 a ha b hb
theorem CI.done {ls:List (List Int)} (h:CI ws ls) (hp: ∀c∈ls,0<c.length):ls=canon ws:=by
 have:ls.map kw=vT ws:=MM h.perm (List.pairwise_map.2 h.sorted)
 unfold canon
 rw[←this,List.map_map]
 conv=>lhs;rw[←List.map_id ls]
 refine List.map_congr_left fun c hc=> ?_
 exact(CF (hp c hc)).symm
end Go.Proofs.YtdbebmmhdefgdaaGreat
namespace Go.Pure
open Go Go.Eng
variable {t:Int} {u b:List Int}
def zV (t:Int) (u:List Int) (p:List Int × List Int):Prop:=
 (t=1∧ ∃b:List Int,b.Perm (iota u.length)∧b.Pairwise (bU u)∧p=(bP (zat b),ofL u b))∨
 (t=2∧ ∃T:List (Int × Int),T.Perm (iJ (bws u) (bws u).length)∧T.Pairwise (pU (bws u))∧p=([],T.map (lastB (bws u))))∨
 (t≠1∧t≠2∧p=([],u))
theorem zV.uniq {p q:List Int × List Int} (h1:zV t u p) (h2:zV t u q):p=q:=by
 rcases h1 with⟨e1,b,hb,sb,rfl⟩|⟨e1,T,hT,sT,rfl⟩|⟨e1,e2,rfl⟩<;>rcases h2 with⟨f1,c,hc,sc,rfl⟩|⟨f1,U,hU,sU,rfl⟩|⟨f1,f2,rfl⟩
 ·rw[YZ hb hc sb sc]
 ·omega
 ·omega
 ·omega
 ·rw[BC YY (hT.trans hU.symm) sT sU]
 ·omega
 ·omega
 ·omega
 ·rfl
open Classical in
noncomputable def kW (t:Int) (u:List Int):List Int × List Int:=if h: ∃p,zV t u p then Classical.choose h else([],[])
theorem xP {p:List Int × List Int} (h:zV t u p):kW t u=p:=by
 have he: ∃p,zV t u p:=⟨p,h⟩
 unfold kW
 rw[dif_pos he]
 exact(Classical.choose_spec he).uniq h
theorem RJ (h1:t≠1) (h2:t≠2):kW t u=([],u):=xP (.inr (.inr ⟨h1,h2,rfl⟩))
theorem RL (hp:b.Perm (iota u.length)) (hs:b.Pairwise (bU u)):kW 1 u=(bP (zat b),ofL u b):=xP (.inl ⟨rfl,b,hp,hs,rfl⟩)
theorem RN {T:List (Int × Int)} (hp:T.Perm (iJ (bws u) (bws u).length)) (hs:T.Pairwise (pU (bws u))):kW 2 u=([],T.map (lastB (bws u))):=xP (.inr (.inl ⟨rfl,T,hp,hs,rfl⟩))
noncomputable def dN (t o:Int) (b:List Int):List Int:=
 bP b.length++((kW t b).1++(bP (dK (kW t b).2 o).length++(iF (bv (jT b))++dK (kW t b).2 o)))
theorem zV.facts {p:List Int × List Int} (h:zV t u p) (hu:aO u) (hN:u.length≤100000):(p.1.length≤3∧aO p.1)∧aO p.2∧p.2.length=u.length:=by
 rcases h with⟨_,b,hb,sb,rfl⟩|⟨_,T,hT,sT,rfl⟩|⟨_,_,rfl⟩
 ·have e1:=nT hb sb
  have e2:=FR (s:=u) (k:=0) (by omega)
  exact⟨⟨eG 2 _ (by omega),eZ (by omega)⟩,vJ hu hb,(yL hb sb).length_eq⟩
 ·exact⟨⟨by simp,fun _ h=>nomatch h⟩,lC hT (by rw[nK];exact hu),by rw[List.length_map,zO hT]⟩
 ·exact⟨⟨by simp,fun _ h=>nomatch h⟩,hu,rfl⟩
theorem RP (hu:aO u) (hN:u.length≤100000):((kW t u).1.length≤3∧aO (kW t u).1)∧aO (kW t u).2∧(kW t u).2.length≤u.length:=by
 by_cases h: ∃p,zV t u p
 ·obtain ⟨p,hp⟩:=h
  rw[xP hp]
  have:=hp.facts hu hN
  exact⟨this.1,this.2.1,by omega⟩
 ·unfold kW
  rw[dif_neg h]
  exact⟨⟨by simp,fun _ h=>nomatch h⟩,(fun _ h=>nomatch h),by simp⟩
theorem JO {o:Int} (hb:aO b) (hN:b.length≤100000):(dN t o b).length≤2*b.length+22∧aO (dN t o b):=by
 obtain⟨⟨h1,h0⟩,h2,h3⟩:=RP (t:=t) hb hN
 have h4:=oF (o:=o) h2
 have h5:=eG 2 (b.length:Int) (by omega)
 have h6:=eG 2 ((dK (kW t b).2 o).length:Int) (by omega)
 have h7:(iF (bv (jT b))).length=4:=rfl
 unfold dN
 refine⟨by simp only[List.length_append];omega,?_⟩
 intro x hx
 simp only[List.mem_append] at hx
 rcases hx with hx|hx|hx|hx|hx
 ·exact eZ (by omega) x hx
 ·exact h0 x hx
 ·exact eZ (by omega) x hx
 ·exact iR _ x hx
 ·exact gB _ _ x hx
def chK (m n:Nat):Nat:=(m+n-1)/n
noncomputable def kN (t o:Int) (n:Nat) (u:List Int) (k:Nat):List Int:=((List.range k).map fun j=>dN t o ((u.drop (j*n)).take n)).flatten
theorem zQ (t o:Int) (n:Nat) (u:List Int):kN t o n u 0=[]:=rfl
theorem zR (t o:Int) (n:Nat) (u:List Int) (k:Nat):kN t o n u (k+1)=kN t o n u k++dN t o ((u.drop (k*n)).take n):=by
 unfold kN
 rw[List.range_succ,List.map_append,List.flatten_append]
 simp
theorem lH {t o:Int} {n:Nat} {u:List Int} (hu:aO u) (hN:u.length≤100000): ∀k:Nat,(kN t o n u k).length≤(2*u.length+22)*k∧aO (kN t o n u k)
 |0=>by rw[zQ];exact⟨by simp,fun _ h=>nomatch h⟩
 |k+1=>by
  have h1:=lH (t:=t) (o:=o) (n:=n) hu hN k
  have h2:=JO (t:=t) (o:=o) (b:=(u.drop (k*n)).take n) ((hu.drop _).take _) (by rw[List.length_take,List.length_drop];omega)
  have h3:((u.drop (k*n)).take n).length≤u.length:=by rw[List.length_take,List.length_drop];omega
  rw[zR,List.length_append,Nat.mul_add]
  refine⟨by omega,fun x hx=> ?_⟩
  rcases List.mem_append.1 hx with hx|hx
  ·exact h1.2 x hx
  ·exact h2.2 x hx
theorem aAv {m n:Nat} (hn:1≤n):chK m n≤m:=by
 unfold chK
 rcases Nat.eq_zero_or_pos m with h|h
 ·subst h
  rw[Nat.div_eq_of_lt (by omega)]
  exact Nat.le_refl _
 ·refine Nat.le_of_lt_succ ((Nat.div_lt_iff_lt_mul (by omega)).2 ?_)
  have:(m+1)*1≤(m+1)*n:=Nat.mul_le_mul_left _ hn
  have e:(m+1)*n=m*n+n:=by rw[Nat.add_mul,Nat.one_mul]
  have e2:m*1≤m*n:=Nat.mul_le_mul_left _ hn
  show m+n-1<(m+1)*n
  omega
noncomputable def nR (t so o size:Int) (u:List Int):List Int:=
 (([87,72,82,76]++[1,t,so,o])++bP size++kN t o size.toNat u (chK u.length size.toNat))++(bP 0++bP u.length)
end Go.Pure
namespace Go.Proofs.YtdbebmmhdefgdaaGreat
open Go Go.Eng Go.Pure
open Tryz
set_option maxRecDepth 100000
variable {B n_u c_u:Nat} {w0:World} {R:List Row} {so od sz:Int} {A_u:Option Addr} {u:List Int}
theorem zP {tu:Int} (ht:0≤tu∧tu≤3) (hp:(0≤so∧so≤2)∧(od=0∨od=1)∧(1≤sz∧sz≤16777216)):
  Ct Tryz.prog 23 #[.agg #[I tu,I so,I od,I sz]] B w0 (R) (fun v R'=>v= .bool true∧R'=R):=by
 refine fn1 Tryz.func23 Z Z Z ?_
 refine wq<|wa (bX (sz:=4) Z Z) ?_
 rintro _ _ ⟨g_1,rfl,rfl⟩
 refine wn Z<|wq<|wy (aB (off:=0) (m:=0) underlying27 Z sz3 Z Z Z)<|wy (aJ (rdr 0 Z) underlying3 Z Z Z)<|wy (Yl.t (jG Z Z) (by omega))<|wm Z<|aC Z Z<|wy (aB (off:=0) (m:=0) underlying27 Z sz3 Z Z Z)<|aC Z Z<|wy (aJ (rdr 0 Z) underlying3 Z Z Z)<|aC Z Z<|wy (Yl.t (vZ Z Z) (by omega))<|wy (bA Z Z) ?_
 refine wm Z<|aC Z Z<|wy (aB (off:=1) (m:=1) underlying27 Z sz3 Z Z Z)<|aC Z Z<|wy (aJ (rdr 0 Z) underlying3 Z Z Z)<|aC Z Z<|wy (Yl.t (jG Z Z) (by omega))<|wy (bA Z Z)<|wm Z<|aC Z Z<|wy (aB (off:=1) (m:=1) underlying27 Z sz3 Z Z Z)<|aC Z Z<|wy (aJ (rdr 0 Z) underlying3 Z Z Z)<|aC Z Z<|wy (Yl.t (eP Z Z) (by omega)) ?_
 refine wy (bA Z Z)<|wm Z<|aC Z Z<|wy (aB (off:=2) (m:=2) underlying27 Z sz3 Z Z Z)<|aC Z Z<|wy (aJ (rdr 0 Z) underlying3 Z Z Z)<|aC Z Z<|wy (bC Z Z)<|aC Z Z<|wm Z<|dS 4 [(1, .pointer (GG g_1)),(21, .bool true),(29, .bool (decide ((od=0)∨(od=1))))] ((rc 27 4 g_1 [I tu,I so,I od,I sz])::R) ?_ ?_
 ·refine dC 25 Z (fun hc1=> ?_) (fun hc1=> ?_)
  ·refine aP Z Z Z Z<|aP Z Z Z Z<|aP Z Z Z Z<|aC Z Z<|wy (bA Z Z)<|aA ?_
   exact⟨(sc Z (sc Z (Sub.to Z mtA Sub.nil))),fun _ h=>h⟩
  ·refine aC Z Z<|wy (aB (off:=2) (m:=2) underlying27 Z sz3 Z Z Z)<|aC Z Z<|wy (aJ (rdr 0 Z) underlying3 Z Z Z)<|aC Z Z<|wy (bC Z Z)<|aC Z Z<|wy (aS Z Z)<|aA ?_
   exact⟨(sc Z (sc Z (Sub.to Z mbA Sub.nil))),fun _ h=>h⟩
 refine kK 29 Z (hp.2.1)<|wy (bA Z Z)<|wm Z<|aC Z Z<|wy (aB (off:=3) (m:=3) underlying27 Z sz3 Z Z Z)<|aC Z Z<|wy (aJ (rdr 0 Z) underlying3 Z Z Z)<|aC Z Z<|wy (Yl.t (jG Z Z) (by omega))<|wy (bA Z Z)<|wm Z<|aC Z Z<|wy (aB (off:=3) (m:=3) underlying27 Z sz3 Z Z Z)<|aC Z Z<|wy (aJ (rdr 0 Z) underlying3 Z Z Z) ?_
 refine aC Z Z<|wy (Yl.t (vZ Z Z) (by omega))<|wy (bA Z Z)<|wn Z<|aT [] 1 (by decide) Z ?_
 refine⟨_,Z,?_⟩
 exact⟨Z,Z⟩
theorem XP (h_u:RdC B w0 R A_u n_u c_u 1 (ints .u8 u)) (hn_u:n_u=u.length) (bh_u:aO u) (hN:u.length≤100000) (hp:(0≤so∧so≤2)∧(od=0∨od=1)∧(1≤sz∧sz≤16777216)):
  Ct Tryz.prog 74 #[.slice A_u n_u c_u, .slice none 0 0, .agg #[I 0,I so,I od,I sz]] B w0 (R) (fun v R'=>v= .tuple #[.slice none 0 0, .slice A_u n_u c_u]∧R'=R):=by
 subst hn_u
 refine fn2 Tryz.func74 Z Z Z ?_
 refine wq<|wa (bX (sz:=4) Z Z) ?_
 rintro _ _ ⟨g_1,rfl,rfl⟩
 refine wg Z<|wn Z<|aG<|wq<|wy (aB (off:=0) (m:=0) underlying27 Z sz3 Z Z Z)<|wy (aJ (rdr 0 Z) underlying3 Z Z Z)<|aA<|aI<|wq<|wy (Yl.f (bC Z Z) (by decide))<|wn Z ?_
 refine aL Z<|wq<|wy (Yl.f (bC Z Z) (by decide))<|wn Z<|aL Z<|wq<|wy (Yl.f (bC Z Z) (by decide))<|wn Z<|aL Z<|aK<|aG ?_
 refine aM<|wm Z<|wg Z<|wn Z<|aT [] 1 (by decide) Z ?_
 refine⟨_,_,Z,Z,?_⟩
 exact⟨Z,Z⟩
theorem XO (h_u:RdC B w0 R A_u n_u c_u 1 (ints .u8 u)) (hn_u:n_u=u.length) (bh_u:aO u) (hN:u.length≤100000) (hp:(0≤so∧so≤2)∧(od=0∨od=1)∧(1≤sz∧sz≤16777216)):
  Ct Tryz.prog 74 #[.slice A_u n_u c_u, .slice none 0 0, .agg #[I 1,I so,I od,I sz]] B w0 (R) (fun v R'=> ∃(b1:List Int) (A1:Option Addr) (c1:Nat) (A2:Option Addr) (c2:Nat),v= .tuple #[.slice A1 (bP (zat b1)).length c1, .slice A2 (ofL u b1).length c2]∧b1.Perm (iota u.length)∧b1.Pairwise (bU u)∧R'=(ru 5 A1 ((bP (zat b1)).length) c1 (bP (zat b1)))::(ru 5 A2 ((ofL u b1).length) c2 (ofL u b1))::R):=by
 subst hn_u
 refine fn2 Tryz.func74 Z Z Z ?_
 refine wq<|wa (bX (sz:=4) Z Z) ?_
 rintro _ _ ⟨g_1,rfl,rfl⟩
 refine wg Z<|wn Z<|aG<|wq<|wy (aB (off:=0) (m:=0) underlying27 Z sz3 Z Z Z)<|wy (aJ (rdr 0 Z) underlying3 Z Z Z)<|aA<|aI<|wq<|wy (Yl.t (bC Z Z) (by decide))<|wn Z ?_
 refine bO Z<|aG<|bT mixed<|wD 1 Z (aB (off:=1) (m:=1) underlying27 Z sz3 Z Z Z)<|wD 2 Z (aJ (rdr 0 Z) underlying3 Z Z Z)<|wD 3 Z (aN Z)<|wC 0 Z (aF bGa Z (Ct.fresh (fun w hw=>VW))) ?_
 rintro _ _ ⟨_,rfl,g_3,rfl,rfl⟩
 refine⟨.inr fun _ h=>h.right (R':=[_]),?_⟩
 refine wC 4 Z (aF bFs Z ((DR (RdC.right h_u [_]) (by first|rfl|(simp;done)|omega) bh_u hN (by decide)))) ?_
 rintro _ _ ⟨b1,A_4,c_5,e1,d0,d1,d2,rfl,hso,rfl⟩
 obtain⟨_,hso3⟩:=hso.resolve_left (fun h=>absurd h.1 (by omega))
 refine⟨.inl (by kernel_rfl),?_⟩
 refine wD 5 Z (aN Z)<|wD 6 Z (jO Z Z)<|wD 7 Z (jO Z Z)<|wD 8 Z (bQ Z)<|wD 9 Z (bQ Z)<|wN<|wq<|wm Z<|wm Z<|wa (aF aXu Z (Ct.fresh (fun w hw=>aRc ((RdC.right h_u [_,_,_]) w hw) ((rdr 0 Z) w hw) hso3.2.1 (by omega)))) ?_
 rintro _ _ ⟨_,rfl,A_7,c_8,rfl,rfl⟩
 refine wm Z<|wX Z Z<|wX Z Z<|wX Z Z<|wg Z<|wg Z<|wn Z<|wq<|wm Z<|wa (aF KU Z (Ct.fresh (fun w hw=>kJ (by have e1:=nT hso3.2.1 hso3.2.2.1;have e2:=FR (s:=u) (k:=0) (by omega);omega)))) ?_
 rintro _ _ ⟨_,rfl,A_10,c_11,rfl,rfl⟩
 refine wm Z<|wg Z<|wn Z<|aT [0,1] 5 (by decide) Z ?_
 refine⟨_,_,Z,Z,?_⟩
 exact⟨b1,_,_,_,_,Z,hso3.2.1,hso3.2.2.1,Z⟩
theorem XN (h_u:RdC B w0 R A_u n_u c_u 1 (ints .u8 u)) (hn_u:n_u=u.length) (bh_u:aO u) (hN:u.length≤100000) (hp:(0≤so∧so≤2)∧(od=0∨od=1)∧(1≤sz∧sz≤16777216)):
  Ct Tryz.prog 74 #[.slice A_u n_u c_u, .slice none 0 0, .agg #[I 2,I so,I od,I sz]] B w0 (R) (fun v R'=> ∃(l1:List (Int × Int)) (A1:Option Addr) (c1:Nat),v= .tuple #[.slice none 0 0, .slice A1 l1.length c1]∧l1.Perm (iJ (bws u) (bws u).length)∧l1.Pairwise (pU (bws u))∧R'=(ru 5 A1 l1.length c1 (l1.map (lastB (bws u))))::R):=by
 subst hn_u
 refine fn2 Tryz.func74 Z Z Z ?_
 refine wq<|wa (bX (sz:=4) Z Z) ?_
 rintro _ _ ⟨g_1,rfl,rfl⟩
 refine wg Z<|wn Z<|aG<|wq<|wy (aB (off:=0) (m:=0) underlying27 Z sz3 Z Z Z)<|wy (aJ (rdr 0 Z) underlying3 Z Z Z)<|aA<|aI<|wq<|wy (Yl.f (bC Z Z) (by decide))<|wn Z ?_
 refine aL Z<|wq<|wy (Yl.t (bC Z Z) (by decide))<|wn Z<|bO Z<|wq<|wm Z<|wa (aF aYc Z (Ct.fresh (fun w hw=>JP ((RdC.right h_u [_]) w hw) bh_u hN))) ?_
 rintro _ _ ⟨_,rfl,l1,A_3,c_4,rfl,hpt_l1,hst_l1,rfl⟩
 refine wm Z<|wX Z Z<|wX Z Z<|wg Z<|wn Z<|wq<|wm Z<|wg Z<|wn Z<|aT [0] 2 (by decide) Z ?_
 refine⟨_,_,Z,Z,?_⟩
 exact⟨l1,_,_,Z,hpt_l1,hst_l1,Z⟩
theorem aJl (h_u:RdC B w0 R A_u n_u c_u 1 (ints .u8 u)) (hn_u:n_u=u.length) (bh_u:aO u) (hN:u.length≤100000) (hp:(0≤so∧so≤2)∧(od=0∨od=1)∧(1≤sz∧sz≤16777216)):
  Ct Tryz.prog 41 #[.slice A_u n_u c_u, .slice none 0 0, .agg #[I 0,I so,I od,I sz]] B w0 (R) (fun v R'=> ∃(A1:Option Addr) (c1:Nat),v= .slice A1 (dN 0 od u).length c1∧R'=(ru 5 A1 ((dN 0 od u).length) c1 (dN 0 od u))::R):=by
 subst hn_u
 refine fn1 Tryz.func41 Z Z Z ?_
 refine wq<|wa (bX (sz:=4) Z Z) ?_
 rintro _ _ ⟨g_1,rfl,rfl⟩
 refine wn Z<|wq<|wm Z<|wm Z<|wy (dG (vs:=[I 0,I so,I od,I sz]) (rdr 0 Z) underlying27 Z gI Z Z (Nat.le_of_ble_eq_true Z) Z)<|wa (aF bAc Z (XP (RdC.right h_u [_]) (by first|rfl|(simp;done)|omega) bh_u hN hp)) ?_
 rintro _ _ ⟨rfl,rfl⟩
 have hle:(u).length=u.length:=rfl
 have hpk:=oF (b:=u) (o:=od) bh_u
 have hl1:=eG 2 (u.length:Int) (by omega)
 have hl3:=eG 2 ((dK u od).length:Int) (by omega)
 refine wm Z<|wX Z Z<|wX Z Z<|wg Z<|wn Z<|wq<|wm Z<|wy (aB (off:=2) (m:=2) underlying27 Z sz3 Z Z Z)<|wy (aJ (rdr 0 Z) underlying3 Z Z Z)<|wa (aF aVf Z (Ct.fresh (fun w hw=>vI ((RdC.right h_u [_]) w hw) bh_u hp.2.1 (by omega)))) ?_
 rintro _ _ ⟨_,rfl,A_3,c_4,rfl,rfl⟩
 refine wm Z<|wX Z Z<|wX Z Z<|wg Z<|wn Z<|wq<|wm Z<|wy (aQ underlying22 Z)<|wa (aF KU Z (Ct.fresh (fun w hw=>kJ (by omega)))) ?_
 rintro _ _ ⟨_,rfl,A_6,c_7,rfl,rfl⟩
 refine wm Z<|wm Z<|wy (aQ underlying22 Z)<|wa (aF KU Z (Ct.fresh (fun w hw=>kJ (by omega)))) ?_
 rintro _ _ ⟨_,rfl,A_9,c_10,rfl,rfl⟩
 refine wa (aF aIk Z (Ct.fresh (fun w hw=>oL))) ?_
 rintro _ _ ⟨_,rfl,g_12,rfl,rfl⟩
 refine wm Z<|wa (nN [Value.slice A_u u.length c_u] underlying23 xG Z Z Z Z) ?_
 rintro _ _ ⟨g_14,rfl,rfl⟩
 refine wa (aF aIj Z (Ct.at 1 Z (oJ (ls:=[u]) (.inl ⟨Z,Z,List.length_replicate ..,by omega⟩) (rdr 0 rfl) rfl (xD.one (l:=u) (RdC.right h_u [_,_,_,_,_]) bh_u (by first|rfl|simp|(simp[upd];done))) (Big.one (by first|omega|decide|simp))))) ?_
 rintro _ _ ⟨rfl,rfl⟩
 refine wa (aF bAb Z (Ct.fresh (fun w hw=>IR ⟨by unfold bv;omega,by unfold bv;have:=(jT ([u]).flatten).isLt;omega⟩))) ?_
 rintro _ _ ⟨_,rfl,A_15,c_16,rfl,rfl⟩
 refine wm Z<|wa (nN [Value.slice A_6 ((bP ((u.length:Nat):Int)).length) c_7,Value.slice none 0 0,Value.slice A_9 ((bP (((dK u od).length:Nat):Int)).length) c_10,Value.slice A_15 4 c_16,Value.slice A_3 ((dK u od).length) c_4] underlying23 xG Z Z Z Z) ?_
 rintro _ _ ⟨g_19,rfl,rfl⟩
 refine wa (aF KT Z (Ct.fresh (fun w hw=>jN ((rdr 0 Z) w hw) ((((((iZ _ _).snoc ((rdr 5 Z) w hw) (fun x hx=>fH ((eZ (by omega)) x hx)) (by omega)).snoc ((aMi _) w hw) (fun x hx=>by cases hx) (by decide)).snoc ((rdr 4 rfl) w hw) (fun x hx=>fH ((eZ (by omega)) x hx)) (by omega)).snoc ((rdr 1 rfl) w hw) (fun x hx=>fH ((iR _) x hx)) (by show(4:Nat)≤_;decide)).snoc ((rdr 6 rfl) w hw) (fun x hx=>fH ((gB _ _) x hx)) (by omega)) ⟨by simp only[List.length_flatten,List.nil_append,List.cons_append,List.singleton_append,List.map_cons,List.map_nil,List.sum_cons,List.sum_nil,List.length_nil];have h4:(iF (bv (jT ([u]).flatten))).length=4:=rfl;omega,by simp⟩))) ?_
 rintro _ _ ⟨_,rfl,A_20,c_21,rfl,rfl⟩
 refine wn Z<|aT [0] 9 (by decide) Z ?_
 refine⟨_,Z,?_⟩
 have e:([bP ((u.length:Nat):Int),[],bP (((dK (u) od).length:Nat):Int),iF (bv (jT ([u]).flatten)),dK (u) od]).flatten=dN 0 od u:=by
  unfold dN
  rw[RJ (t:=0) (u:=u) (by decide) (by decide)]
  simp
 rw[←e]
 exact⟨_,_,Z,Z⟩
theorem aJk (h_u:RdC B w0 R A_u n_u c_u 1 (ints .u8 u)) (hn_u:n_u=u.length) (bh_u:aO u) (hN:u.length≤100000) (hp:(0≤so∧so≤2)∧(od=0∨od=1)∧(1≤sz∧sz≤16777216)):
  Ct Tryz.prog 41 #[.slice A_u n_u c_u, .slice none 0 0, .agg #[I 1,I so,I od,I sz]] B w0 (R) (fun v R'=> ∃(A1:Option Addr) (c1:Nat),v= .slice A1 (dN 1 od u).length c1∧R'=(ru 5 A1 ((dN 1 od u).length) c1 (dN 1 od u))::R):=by
 subst hn_u
 refine fn1 Tryz.func41 Z Z Z ?_
 refine wq<|wa (bX (sz:=4) Z Z) ?_
 rintro _ _ ⟨g_1,rfl,rfl⟩
 refine wn Z<|wq<|wm Z<|wm Z<|wy (dG (vs:=[I 1,I so,I od,I sz]) (rdr 0 Z) underlying27 Z gI Z Z (Nat.le_of_ble_eq_true Z) Z)<|wa (aF bAc Z (XO (RdC.right h_u [_]) (by first|rfl|(simp;done)|omega) bh_u hN hp)) ?_
 rintro _ _ ⟨b1,A_3,c_4,A_6,c_7,rfl,hp_b1,hs_b1,rfl⟩
 have hle:(ofL u b1).length=u.length:=(by rw[(yL hp_b1 hs_b1).length_eq])
 have hpk:=oF (b:=ofL u b1) (o:=od) (vJ bh_u hp_b1)
 have hl1:=eG 2 (u.length:Int) (by omega)
 have hl3:=eG 2 ((dK (ofL u b1) od).length:Int) (by omega)
 have hz:0≤zat b1∧zat b1≤100000:=by have e1:=nT hp_b1 hs_b1;have e2:=FR (s:=u) (k:=0) (by omega);omega
 have hl2:=eG 2 (zat b1) (by omega)
 refine wm Z<|wX Z Z<|wX Z Z<|wg Z<|wn Z<|wq<|wm Z<|wy (aB (off:=2) (m:=2) underlying27 Z sz3 Z Z Z)<|wy (aJ (rdr 2 Z) underlying3 Z Z Z)<|wa (aF aVf Z (Ct.fresh (fun w hw=>vI ((rdr 1 Z) w hw) (vJ bh_u hp_b1) hp.2.1 (by omega)))) ?_
 rintro _ _ ⟨_,rfl,A_9,c_10,rfl,rfl⟩
 refine wm Z<|wX Z Z<|wX Z Z<|wg Z<|wn Z<|wq<|wm Z<|wy (aQ underlying22 Z)<|wa (aF KU Z (Ct.fresh (fun w hw=>kJ (by omega)))) ?_
 rintro _ _ ⟨_,rfl,A_12,c_13,rfl,rfl⟩
 refine wm Z<|wm Z<|wy (aQ underlying22 Z)<|wa (aF KU Z (Ct.fresh (fun w hw=>kJ (by omega)))) ?_
 rintro _ _ ⟨_,rfl,A_15,c_16,rfl,rfl⟩
 refine wa (aF aIk Z (Ct.fresh (fun w hw=>oL))) ?_
 rintro _ _ ⟨_,rfl,g_18,rfl,rfl⟩
 refine wm Z<|wa (nN [Value.slice A_u u.length c_u] underlying23 xG Z Z Z Z) ?_
 rintro _ _ ⟨g_20,rfl,rfl⟩
 refine wa (aF aIj Z (Ct.at 1 Z (oJ (ls:=[u]) (.inl ⟨Z,Z,List.length_replicate ..,by omega⟩) (rdr 0 rfl) rfl (xD.one (l:=u) (RdC.right h_u [_,_,_,_,_,_,_]) bh_u (by first|rfl|simp|(simp[upd];done))) (Big.one (by first|omega|decide|simp))))) ?_
 rintro _ _ ⟨rfl,rfl⟩
 refine wa (aF bAb Z (Ct.fresh (fun w hw=>IR ⟨by unfold bv;omega,by unfold bv;have:=(jT ([u]).flatten).isLt;omega⟩))) ?_
 rintro _ _ ⟨_,rfl,A_21,c_22,rfl,rfl⟩
 refine wm Z<|wa (nN [Value.slice A_12 ((bP ((u.length:Nat):Int)).length) c_13,Value.slice A_3 ((bP (zat b1)).length) c_4,Value.slice A_15 ((bP (((dK (ofL u b1) od).length:Nat):Int)).length) c_16,Value.slice A_21 4 c_22,Value.slice A_9 ((dK (ofL u b1) od).length) c_10] underlying23 xG Z Z Z Z) ?_
 rintro _ _ ⟨g_25,rfl,rfl⟩
 refine wa (aF KT Z (Ct.fresh (fun w hw=>jN ((rdr 0 Z) w hw) ((((((iZ _ _).snoc ((rdr 5 Z) w hw) (fun x hx=>fH ((eZ (by omega)) x hx)) (by omega)).snoc ((rdr 7 Z) w hw) (fun x hx=>fH ((eZ hz.1) x hx)) (by omega)).snoc ((rdr 4 Z) w hw) (fun x hx=>fH ((eZ (by omega)) x hx)) (by omega)).snoc ((rdr 1 Z) w hw) (fun x hx=>fH ((iR _) x hx)) (by show(4:Nat)≤_;decide)).snoc ((rdr 6 Z) w hw) (fun x hx=>fH ((gB _ _) x hx)) (by omega)) ⟨by simp only[List.length_flatten,List.nil_append,List.cons_append,List.singleton_append,List.map_cons,List.map_nil,List.sum_cons,List.sum_nil,List.length_nil];have h4:(iF (bv (jT ([u]).flatten))).length=4:=rfl;omega,by simp⟩))) ?_
 rintro _ _ ⟨_,rfl,A_26,c_27,rfl,rfl⟩
 refine wn Z<|aT [0] 11 (by decide) Z ?_
 refine⟨_,Z,?_⟩
 have e:([bP ((u.length:Nat):Int),bP (zat b1),bP (((dK (ofL u b1) od).length:Nat):Int),iF (bv (jT ([u]).flatten)),dK (ofL u b1) od]).flatten=dN 1 od u:=by
  unfold dN
  rw[RL hp_b1 hs_b1]
  simp
 rw[←e]
 exact⟨_,_,Z,Z⟩
theorem aJj (h_u:RdC B w0 R A_u n_u c_u 1 (ints .u8 u)) (hn_u:n_u=u.length) (bh_u:aO u) (hN:u.length≤100000) (hp:(0≤so∧so≤2)∧(od=0∨od=1)∧(1≤sz∧sz≤16777216)):
  Ct Tryz.prog 41 #[.slice A_u n_u c_u, .slice none 0 0, .agg #[I 2,I so,I od,I sz]] B w0 (R) (fun v R'=> ∃(A1:Option Addr) (c1:Nat),v= .slice A1 (dN 2 od u).length c1∧R'=(ru 5 A1 ((dN 2 od u).length) c1 (dN 2 od u))::R):=by
 subst hn_u
 refine fn1 Tryz.func41 Z Z Z ?_
 refine wq<|wa (bX (sz:=4) Z Z) ?_
 rintro _ _ ⟨g_1,rfl,rfl⟩
 refine wn Z<|wq<|wm Z<|wm Z<|wy (dG (vs:=[I 2,I so,I od,I sz]) (rdr 0 Z) underlying27 Z gI Z Z (Nat.le_of_ble_eq_true Z) Z)<|wa (aF bAc Z (XN (RdC.right h_u [_]) (by first|rfl|(simp;done)|omega) bh_u hN hp)) ?_
 rintro _ _ ⟨l1,A_3,c_4,rfl,hpt_l1,hst_l1,rfl⟩
 have hle:(l1.map (lastB (bws u))).length=u.length:=(by rw[List.length_map,zO hpt_l1])
 have hpk:=oF (b:=l1.map (lastB (bws u))) (o:=od) (lC hpt_l1 (by rw[nK];exact bh_u))
 have hl1:=eG 2 (u.length:Int) (by omega)
 have hl3:=eG 2 ((dK (l1.map (lastB (bws u))) od).length:Int) (by omega)
 refine wm Z<|wX Z Z<|wX Z Z<|wg Z<|wn Z<|wq<|wm Z<|wy (aB (off:=2) (m:=2) underlying27 Z sz3 Z Z Z)<|wy (aJ (rdr 1 Z) underlying3 Z Z Z)<|wa (aF aVf Z (Ct.fresh (fun w hw=>vI ((rdr 0 Z) w hw) (lC hpt_l1 (by rw[nK];exact bh_u)) hp.2.1 (by omega)))) ?_
 rintro _ _ ⟨_,rfl,A_6,c_7,rfl,rfl⟩
 refine wm Z<|wX Z Z<|wX Z Z<|wg Z<|wn Z<|wq<|wm Z<|wy (aQ underlying22 Z)<|wa (aF KU Z (Ct.fresh (fun w hw=>kJ (by omega)))) ?_
 rintro _ _ ⟨_,rfl,A_9,c_10,rfl,rfl⟩
 refine wm Z<|wm Z<|wy (aQ underlying22 Z)<|wa (aF KU Z (Ct.fresh (fun w hw=>kJ (by omega)))) ?_
 rintro _ _ ⟨_,rfl,A_12,c_13,rfl,rfl⟩
 refine wa (aF aIk Z (Ct.fresh (fun w hw=>oL))) ?_
 rintro _ _ ⟨_,rfl,g_15,rfl,rfl⟩
 refine wm Z<|wa (nN [Value.slice A_u u.length c_u] underlying23 xG Z Z Z Z) ?_
 rintro _ _ ⟨g_17,rfl,rfl⟩
 refine wa (aF aIj Z (Ct.at 1 Z (oJ (ls:=[u]) (.inl ⟨Z,Z,List.length_replicate ..,by omega⟩) (rdr 0 rfl) rfl (xD.one (l:=u) (RdC.right h_u [_,_,_,_,_,_]) bh_u (by first|rfl|simp|(simp[upd];done))) (Big.one (by first|omega|decide|simp))))) ?_
 rintro _ _ ⟨rfl,rfl⟩
 refine wa (aF bAb Z (Ct.fresh (fun w hw=>IR ⟨by unfold bv;omega,by unfold bv;have:=(jT ([u]).flatten).isLt;omega⟩))) ?_
 rintro _ _ ⟨_,rfl,A_18,c_19,rfl,rfl⟩
 refine wm Z<|wa (nN [Value.slice A_9 ((bP ((u.length:Nat):Int)).length) c_10,Value.slice none 0 0,Value.slice A_12 ((bP (((dK (l1.map (lastB (bws u))) od).length:Nat):Int)).length) c_13,Value.slice A_18 4 c_19,Value.slice A_6 ((dK (l1.map (lastB (bws u))) od).length) c_7] underlying23 xG Z Z Z Z) ?_
 rintro _ _ ⟨g_22,rfl,rfl⟩
 refine wa (aF KT Z (Ct.fresh (fun w hw=>jN ((rdr 0 Z) w hw) ((((((iZ _ _).snoc ((rdr 5 Z) w hw) (fun x hx=>fH ((eZ (by omega)) x hx)) (by omega)).snoc ((aMi _) w hw) (fun x hx=>by cases hx) (by decide)).snoc ((rdr 4 rfl) w hw) (fun x hx=>fH ((eZ (by omega)) x hx)) (by omega)).snoc ((rdr 1 rfl) w hw) (fun x hx=>fH ((iR _) x hx)) (by show(4:Nat)≤_;decide)).snoc ((rdr 6 rfl) w hw) (fun x hx=>fH ((gB _ _) x hx)) (by omega)) ⟨by simp only[List.length_flatten,List.nil_append,List.cons_append,List.singleton_append,List.map_cons,List.map_nil,List.sum_cons,List.sum_nil,List.length_nil];have h4:(iF (bv (jT ([u]).flatten))).length=4:=rfl;omega,by simp⟩))) ?_
 rintro _ _ ⟨_,rfl,A_23,c_24,rfl,rfl⟩
 refine wn Z<|aT [0] 10 (by decide) Z ?_
 refine⟨_,Z,?_⟩
 have e:([bP ((u.length:Nat):Int),[],bP (((dK (l1.map (lastB (bws u))) od).length:Nat):Int),iF (bv (jT ([u]).flatten)),dK (l1.map (lastB (bws u))) od]).flatten=dN 2 od u:=by
  unfold dN
  rw[RN hpt_l1 hst_l1]
  simp
 rw[←e]
 exact⟨_,_,Z,Z⟩
variable {B g n_u c_u:Nat} {w0:World} {R:List Row} {A_u:Option Addr} {u:List Int}
theorem aNy {k:Int} (h_u:RdC B w0 R A_u n_u c_u 1 (ints .u8 u)) (hn_u:n_u=u.length):
  Ct Tryz.prog 92 #[.pointer (GG g)] B w0 ((rc 146 1 g [.slice A_u n_u c_u])::R) (fun v R'=>v=I ((u.length:Nat):Int)∧R'=(rc 146 1 g [.slice A_u n_u c_u])::R):=by
 subst hn_u
 refine fn1 Tryz.func92 Z Z Z ?_
 refine wq<|wn Z<|aG<|wq<|wm Z<|wy (cZ underlying84 Z Z)<|aA<|aL Z<|aK<|wq<|wm Z ?_
 refine wy (aD Z)<|wy (aB (off:=0) (m:=0) underlying146 Z dO Z Z Z)<|wy (aJ (rdr 0 Z) underlying22 Z Z Z)<|wy (aQ underlying22 Z)<|wn Z<|bR (R1:=((rc 146 1 g [.slice A_u u.length c_u])::R)) (fun _ h=>h) ?_
 refine⟨_,Z,?_⟩
 exact⟨Z,Z⟩
theorem yN {gc:Nat} {At:Option Addr} {nt ct:Nat} {p0 p1 p2 p3 ms tt ls V:Int} {m:Nat} (h_u:RdC B w0 R A_u n_u c_u 1 (ints .u8 u)) (hn_u:n_u=u.length) (hN:u.length≤1000000) (bh_u:aO u) (hG:sQ u V m) (hm:V≤9223372036854775807):
  Ct Tryz.prog 90 #[.pointer (GG g)] B w0 ((rc 87 10 g [.pointer (GG gc),I p0,I p1,I p2,I p3,I ms,I tt,I ls, .slice At nt ct, .slice none 0 0])::(rc 146 1 gc [.slice A_u n_u c_u])::R) (fun v R'=>v= .tuple #[I V, .bool true]∧R'=(rc 87 10 g [.pointer (GG gc),I p0,I p1,I p2,I p3,I ms,I tt,I ls, .slice At nt ct, .slice none 0 0])::(rc 146 1 gc [.slice (iY A_u m c_u 1) (n_u-m) (c_u-m)])::R):=by
 subst hn_u
 refine fn2 Tryz.func90 Z Z Z ?_
 refine wq<|wg Z<|wn Z<|wq<|wm Z<|wy (aD Z)<|wy (aB (off:=0) (m:=0) underlying87 Z aFn Z Z Z)<|wy (aJ (rdr 0 Z) underlying84 Z Z Z)<|wa (aF bEi Z (Ct.pick [1,0] 2 (by decide) Z (OP (RdC.right h_u [_]) Z hN bh_u hG hm (by decide)))) ?_
 rintro _ _ ⟨rfl,rfl⟩
 refine wX Z Z<|wX Z Z<|wg Z<|wn Z<|aT [1,0] 2 (by decide) Z ?_
 refine⟨_,_,Z,Z,?_⟩
 exact⟨Z,Z⟩
set_option maxHeartbeats 1000000 in
theorem ZR {B:Nat} {w0:World} {R:List Row} {g gc:Nat} {A_u At:Option Addr} {n_u c_u nt ct:Nat} {u:List Int} {p0 p1 p2 p3 ms tt ls sz:Int} {b0 b1 b2:Int} {m:Nat} (h_u:RdC B w0 R A_u n_u c_u 1 (ints .u8 u)) (hn_u:n_u=u.length) (hN:u.length≤1000000) (bh_u:aO u) (h5:u.take (5:Int).toNat=[87,72,82,76,1]) (h3:(u.drop (5:Int).toNat).take (3:Int).toNat=[b0,b1,b2]) (hl8:8≤u.length) (hG:sQ ((u.drop (5:Int).toNat).drop (3:Int).toNat) sz m) (hpa:0≤b0∧b0≤3) (hpb:(0≤b1∧b1≤2)∧(b2=0∨b2=1)∧(1≤sz∧sz≤16777216)):
  Ct Tryz.prog 89 #[.pointer (GG g)] B w0 ((rc 87 10 g [.pointer (GG gc),I p0,I p1,I p2,I p3,I ms,I tt,I ls, .slice At nt ct, .slice none 0 0])::(rc 146 1 gc [.slice A_u n_u c_u])::R) (fun v R'=>v= .bool true∧R'=(rc 87 10 g [.pointer (GG gc),I b0,I b1,I b2,I sz,I ms,I tt,I ls, .slice At nt ct, .slice none 0 0])::(rc 146 1 gc [.slice (iY (iY (iY A_u (5:Int).toNat c_u 1) (3:Int).toNat (c_u-(5:Int).toNat) 1) m (c_u-(5:Int).toNat-(3:Int).toNat) 1) (n_u-(5:Int).toNat-(3:Int).toNat-m) (c_u-(5:Int).toNat-(3:Int).toNat-m)])::R):=by
 subst hn_u
 have hr0:rd ((u.drop (5:Int).toNat).take (3:Int).toNat) 0=b0:=by rw[h3];rfl
 have hr1:rd ((u.drop (5:Int).toNat).take (3:Int).toNat) 1=b1:=by rw[h3];rfl
 have hr2:rd ((u.drop (5:Int).toNat).take (3:Int).toNat) 2=b2:=by rw[h3];rfl
 refine fn1 Tryz.func89 Z Z Z ?_
 refine wq<|wn Z<|wq<|wm Z<|wy (aD Z)<|wy (aB (off:=0) (m:=0) underlying87 Z aFn Z Z Z)<|wy (aJ (rdr 0 Z) underlying84 Z Z Z)<|wa (aF aEi Z (Ct.pick [1,0] 2 (by decide) Z (wH (RdC.right h_u [_]) Z hN (by omega)))) ?_
 rintro _ _ ⟨A_1,c_2,rfl,rfl⟩
 refine wm Z<|wX Z Z<|wX Z Z<|wg Z<|wn Z<|aG<|wq<|wm Z<|wy (dI Z)<|wm Z<|aC Z Z<|wm Z<|aC Z Z ?_
 refine wy (xH underlying22 underlying5 underlying9 Z (rdr 0 Z))<|aC Z Z<|wy (Yl.f (aWm (q:=[87,72,82,76,1]) Z Z (bh_u.take _) (by unfold aO;decide)) (by rw[h5];decide)) ?_
 refine wy (aS Z Z)<|aA<|aL Z<|aK<|wq<|wm Z<|wy (aD Z)<|wy (aB (off:=0) (m:=0) underlying87 Z aFn Z Z Z)<|wy (aJ (rdr 2 Z) underlying84 Z Z Z)<|wa (aF aEi Z (Ct.pick [1,0,2] 3 (by decide) Z (wH (RdC.fromI (RdC.right h_u [_,_]) (by omega)) (by rw[List.length_drop]) (by rw[List.length_drop];omega) (by rw[List.length_drop];omega)))) ?_
 rintro _ _ ⟨A_3,c_4,rfl,rfl⟩
 refine wm Z<|wX Z Z<|wX Z Z<|wg Z<|wn Z<|wq<|wm Z<|wa (aF aIi Z (Ct.pick [3,1,0,2] 4 (by decide) Z (yN (RdC.fromI (RdC.fromI (RdC.right h_u [_,_]) (by omega)) (by omega)) (by rw[List.length_drop,List.length_drop]) (by rw[List.length_drop,List.length_drop];omega) ((bh_u.drop _).drop _) hG (by omega)))) ?_
 rintro _ _ ⟨rfl,rfl⟩
 refine wm Z<|wX Z Z<|wX Z Z<|wg Z<|wn Z<|aG<|wq<|wm Z<|wy (dI Z)<|wm Z<|aC Z Z<|wm Z<|aC Z Z ?_
 refine wy (dI Z)<|wy (aS Z Z)<|aA<|aL Z<|aK<|aG<|bT mixed<|wD 0 Z (aN Z)<|wD 1 Z (aN Z)<|wD 2 Z (aH underlying22 sz5 Z Z (rdr 2 Z))<|wD 3 Z (aX underlying5 Z Z (rdr 2 Z))<|wD 4 Z (iV underlying5 underlying3 Z)<|wD 5 Z (aN Z)<|wD 6 Z (aH underlying22 sz5 Z Z (rdr 2 Z))<|wD 7 Z (aX underlying5 Z Z (rdr 2 Z)) ?_
 refine wD 8 Z (iV underlying5 underlying3 Z)<|wD 9 Z (aN Z)<|wD 10 Z (aH underlying22 sz5 Z Z (rdr 2 Z))<|wD 11 Z (aX underlying5 Z Z (rdr 2 Z))<|wD 12 Z (iV underlying5 underlying3 Z)<|wD 13 Z (aN Z)<|wD 14 Z (dY (v:= .agg #[I (rd (((u).drop (5:Int).toNat).take (3:Int).toNat) 0),I (rd (((u).drop (5:Int).toNat).take (3:Int).toNat) 1),I (rd (((u).drop (5:Int).toNat).take (3:Int).toNat) 2),I sz]) Z (fun w=>by kernel_rfl))<|wD 15 rfl (aD rfl)<|wD 16 rfl (aB (off:=1) (m:=1) underlying87 rfl gI rfl rfl rfl)<|pR 17 rfl (by kernel_rfl) (JX (j:=1) (r:=(rc 87 10 g [.pointer (GG gc),I p0,I p1,I p2,I p3,I ms,I tt,I ls, .slice At nt ct, .slice none 0 0])) (vs:=[I (rd (((u).drop (5:Int).toNat).take (3:Int).toNat) 0),I (rd (((u).drop (5:Int).toNat).take (3:Int).toNat) 1),I (rd (((u).drop (5:Int).toNat).take (3:Int).toNat) 2),I sz]) 0 rfl rfl rfl gI rfl (by simp[pat,Addr.add]) rfl rfl (by intro v hv;simp at hv;rcases hv with rfl|rfl|rfl|rfl<;>rfl) (Nat.le_of_ble_eq_true rfl)) ?_
 rintro _ _ rfl
 refine⟨.inl (by kernel_rfl),?_⟩
 refine wN<|wq<|wm Z<|wy (aD Z)<|wy (aB (off:=1) (m:=1) underlying87 Z gI Z Z Z)<|wy (dG (vs:=[I (rd (((u).drop (5:Int).toNat).take (3:Int).toNat) 0),I (rd (((u).drop (5:Int).toNat).take (3:Int).toNat) 1),I (rd (((u).drop (5:Int).toNat).take (3:Int).toNat) 2),I sz]) (rdr 0 Z) underlying27 Z gI Z Z (Nat.le_of_ble_eq_true Z) Z)<|wa (aF aPl Z (zP (by rw[hr0];exact hpa) (by rw[hr1,hr2];exact hpb))) ?_
 rintro _ _ ⟨rfl,rfl⟩
 refine wn Z<|aT [0,1] 4 (by decide) Z ?_
 refine⟨_,Z,?_⟩
 rw[hr0,hr1,hr2]
 exact⟨Z,Z⟩
end Go.Proofs.YtdbebmmhdefgdaaGreat

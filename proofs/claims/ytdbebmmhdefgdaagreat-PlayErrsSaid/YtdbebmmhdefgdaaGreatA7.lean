/- Own work. -/
import Derived.Lib.SmallJoins
import Derived.Test.YtdbebmmhdefgdaaGreatA6
set_option linter.unusedVariables false
set_option linter.unusedSimpArgs false
namespace Go.Proofs.YtdbebmmhdefgdaaGreat
open Go Go.Eng Go.Pure
open Tryz
variable {B g nt ct np cp nd cd:Nat} {w0:World} {R:List Row} {At Ap Ad:Option Addr} {s s0:List Int} {l:List (Int × Int)} {N q0 q1 q2 q3 at_ K:Int}
set_option maxRecDepth 100000 in
theorem VP {d:List Int} (hnt:nt=s.length) (hnp:np=l.length) (h_d:RdC B w0 R Ad nd cd 1 (ints .u8 d)) (hnd:nd=d.length) (hN:d.length≤100000):
  Ct Tryz.prog 30 #[.pointer (some ⟨g,0,none⟩), .agg #[.int .i64 1, .slice Ad nd cd, .int .i64 N, .int .i64 q0, .int .i64 q1, .int .i64 q2, .int .i64 q3]] B w0 (⟨102,2,(some ⟨g,0,none⟩),1,1,[.slice At nt ct, .slice Ap np cp],false⟩::⟨5,1,At,nt,ct,ints .u8 s,false⟩::⟨106,2,Ap,np,cp,prs l,false⟩::R) (fun v R'=> ∃(A8:Option Addr) (c8:Nat),v= .int .i64 0∧R'=⟨102,2,(some ⟨g,0,none⟩),1,1,[.slice A8 d.length c8, .slice none 0 0],false⟩::⟨5,1,A8,d.length,c8,ints .u8 d,false⟩::⟨106,2,none,0,0,prs ([]),false⟩::R):=by
 subst hnt
 subst hnp
 subst hnd
 refine fn1 Tryz.func30 rfl rfl rfl ?_
 refine wq<|wa (bX (sz:=7) rfl rfl) ?_
 rintro _ _ ⟨g_1,rfl,rfl⟩
 refine wg rfl<|aA<|aG<|wq<|wm rfl<|wy (cZ underlying49 rfl rfl)<|aA<|aL rfl<|aK<|aG<|wq<|wy (aB (off:=0) (m:=0) underlying56 rfl sz3 rfl rfl rfl)<|wy (aJ (rdR 0 (r:=⟨56,7,(some ⟨g_1,0,none⟩),1,1,[.int .i64 1, .slice Ad d.length cd, .int .i64 N, .int .i64 q0, .int .i64 q1, .int .i64 q2, .int .i64 q3],false⟩) rfl) underlying3 rfl rfl rfl) ?_
 refine aA<|aI<|wq<|wy (Yl.t (bC rfl rfl) (by decide))<|wg rfl<|aA<|bO rfl<|aG<|wq<|wy (aB (off:=1) (m:=1) underlying56 rfl dO rfl rfl rfl)<|wy (aJ (rdR 0 (r:=⟨56,7,(some ⟨g_1,0,none⟩),1,1,[.int .i64 1, .slice Ad d.length cd, .int .i64 N, .int .i64 q0, .int .i64 q1, .int .i64 q2, .int .i64 q3],false⟩) rfl) underlying22 rfl rfl rfl)<|wy (aQ underlying22 rfl)<|wy (Yl.f (dV rfl rfl)) ?_
 refine aA<|aL rfl<|aK<|wq<|wm rfl<|wm rfl<|wy (aB (off:=1) (m:=1) underlying56 rfl dO rfl rfl rfl)<|wy (aJ (rdR 0 (r:=⟨56,7,(some ⟨g_1,0,none⟩),1,1,[.int .i64 1, .slice Ad d.length cd, .int .i64 N, .int .i64 q0, .int .i64 q1, .int .i64 q2, .int .i64 q3],false⟩) rfl) underlying22 rfl rfl rfl)<|wa (aF VD rfl (Ct.fresh (fun w hw=>lG ((RdC.right h_d [_,_,_,_]) w hw) (by omega)))) ?_
 rintro _ _ ⟨_,rfl,A_2,c_3,rfl,rfl⟩
 refine wy (aD rfl)<|wy (aB (off:=0) (m:=0) underlying102 rfl dO rfl rfl rfl)<|bY (aY 2 rfl rfl rfl dO rfl rfl rfl rfl (Nat.le_of_ble_eq_true rfl)) ?_
 rintro _ _ rfl
 refine wy (aD rfl)<|wy (aB (off:=1) (m:=1) underlying102 rfl fT rfl rfl rfl)<|bY (aY 2 rfl rfl rfl fT rfl rfl rfl rfl (Nat.le_of_ble_eq_true rfl)) ?_
 rintro _ _ rfl
 refine aA<|wq<|wg rfl<|aA<|bR (R1:=⟨102,2,(some ⟨g,0,none⟩),1,1,[.slice A_2 d.length c_3, .slice none 0 0],false⟩::⟨5,1,A_2,d.length,c_3,ints .u8 d,false⟩::⟨106,2,none,0,0,prs ([]),false⟩::R) (fun _ h=>Hp.pickT (R:=⟨106,2,none,0,0,prs ([]),false⟩::⟨102,2,(some ⟨g,0,none⟩),1,1,[.slice A_2 d.length c_3, .slice none 0 0],false⟩::⟨5,1,A_2,d.length,c_3,ints .u8 d,false⟩::R) (Hp.nilP (h.pickT [2,0] 5 (by decide) rfl) 106) [1,2,0] 3 (by decide) rfl) ?_
 refine⟨_,rfl,?_⟩
 exact⟨_,_,rfl,rfl⟩
set_option maxRecDepth 100000 in
theorem IZ (hnt:nt=s.length) (hnp:np=l.length) (bh_s:aO s) (hN:s.length≤100000) (hl:l.length≤1000):
  Ct Tryz.prog 30 #[.pointer (some ⟨g,0,none⟩), .agg #[.int .i64 4, .slice Ad nd cd, .int .i64 N, .int .i64 q0, .int .i64 q1, .int .i64 q2, .int .i64 q3]] B w0 (⟨102,2,(some ⟨g,0,none⟩),1,1,[.slice At nt ct, .slice Ap np cp],false⟩::⟨5,1,At,nt,ct,ints .u8 s,false⟩::⟨106,2,Ap,np,cp,prs l,false⟩::R) (fun v R'=> ∃(A8:Option Addr) (c8:Nat) (A7:Option Addr) (c7:Nat),v= .int .i64 0∧R'=⟨102,2,(some ⟨g,0,none⟩),1,1,[.slice A8 ((bB aR s).length) c8, .slice A7 ((l++[(2,0)]).length) c7],false⟩::⟨5,1,A8,(bB aR s).length,c8,ints .u8 (bB aR s),false⟩::⟨106,2,A7,(l++[(2,0)]).length,c7,prs (l++[(2,0)]),false⟩::R):=by
 subst hnt
 subst hnp
 refine fn1 Tryz.func30 rfl rfl rfl ?_
 refine wq<|wa (bX (sz:=7) rfl rfl) ?_
 rintro _ _ ⟨g_1,rfl,rfl⟩
 refine wg rfl<|aA<|aG<|wq<|wm rfl<|wy (cZ underlying49 rfl rfl)<|aA<|aL rfl<|aK<|aG<|wq<|wy (aB (off:=0) (m:=0) underlying56 rfl sz3 rfl rfl rfl)<|wy (aJ (rdR 0 (r:=⟨56,7,(some ⟨g_1,0,none⟩),1,1,[.int .i64 4, .slice Ad nd cd, .int .i64 N, .int .i64 q0, .int .i64 q1, .int .i64 q2, .int .i64 q3],false⟩) rfl) underlying3 rfl rfl rfl) ?_
 refine aA<|aI<|wq<|wy (Yl.f (bC rfl rfl) (by decide))<|wg rfl<|aA<|aL rfl<|wq<|wy (Yl.f (bC rfl rfl) (by decide))<|wg rfl<|aA<|aL rfl<|aG ?_
 refine aM<|wy (Yl.t (bC rfl rfl) (by decide))<|wg rfl<|aA<|bO rfl<|wq<|wm rfl<|wm rfl<|wy (aD rfl)<|wy (aB (off:=0) (m:=0) underlying102 rfl dO rfl rfl rfl)<|wy (aJ (rdR 1 (r:=⟨102,2,(some ⟨g,0,none⟩),1,1,[.slice At s.length ct, .slice Ap l.length cp],false⟩) rfl) underlying22 rfl rfl rfl)<|wa (aF bCi rfl (Ct.fresh (fun w hw=>MV ((rdr 2 rfl) w hw) bh_s (by omega)))) ?_
 rintro _ _ ⟨_,rfl,A_2,c_3,rfl,rfl⟩
 refine wy (dY (v:= .agg #[.int .i64 2, .int .i64 0]) rfl (fun w=>by kernel_rfl))<|wa (aF aVg rfl (Ct.pick [2,4,0,1,3] 5 (by decide) rfl (vL rfl (by omega)))) ?_
 rintro _ _ ⟨A_5,c_6,rfl,rfl⟩
 refine wg rfl<|aA<|aT [0,2,1] 5 (by decide) rfl ?_
 refine⟨_,rfl,?_⟩
 have e:=gG s aR
 rw[←e]
 exact⟨_,_,_,_,rfl,rfl⟩
set_option maxRecDepth 100000 in
theorem aAd (hnt:nt=s.length) (hnp:np=l.length) (bh_s:aO s) (hN:s.length≤100000) (hl:l.length≤1000):
  Ct Tryz.prog 30 #[.pointer (some ⟨g,0,none⟩), .agg #[.int .i64 2, .slice Ad nd cd, .int .i64 1, .int .i64 q0, .int .i64 q1, .int .i64 q2, .int .i64 q3]] B w0 (⟨102,2,(some ⟨g,0,none⟩),1,1,[.slice At nt ct, .slice Ap np cp],false⟩::⟨5,1,At,nt,ct,ints .u8 s,false⟩::⟨106,2,Ap,np,cp,prs l,false⟩::R) (fun v R'=> ∃b:List Int,(b.Perm (iota s.length)∧b.Pairwise (bU s))∧ ∃(A8:Option Addr) (c8:Nat) (A7:Option Addr) (c7:Nat),v= .int .i64 0∧R'=⟨102,2,(some ⟨g,0,none⟩),1,1,[.slice A8 ((ofL s b).length) c8, .slice A7 ((l++[(0,zat b)]).length) c7],false⟩::⟨5,1,A8,(ofL s b).length,c8,ints .u8 (ofL s b),false⟩::⟨106,2,A7,(l++[(0,zat b)]).length,c7,prs (l++[(0,zat b)]),false⟩::R):=by
 subst hnt
 subst hnp
 refine fn1 Tryz.func30 rfl rfl rfl ?_
 refine wq<|wa (bX (sz:=7) rfl rfl) ?_
 rintro _ _ ⟨g_1,rfl,rfl⟩
 refine wg rfl<|aA<|aG<|wq<|wm rfl<|wy (cZ underlying49 rfl rfl)<|aA<|aL rfl<|aK<|aG<|wq<|wy (aB (off:=0) (m:=0) underlying56 rfl sz3 rfl rfl rfl)<|wy (aJ (rdR 0 (r:=⟨56,7,(some ⟨g_1,0,none⟩),1,1,[.int .i64 2, .slice Ad nd cd, .int .i64 1, .int .i64 q0, .int .i64 q1, .int .i64 q2, .int .i64 q3],false⟩) rfl) underlying3 rfl rfl rfl) ?_
 refine aA<|aI<|wq<|wy (Yl.f (bC rfl rfl) (by decide))<|wg rfl<|aA<|aL rfl<|wq<|wy (Yl.t (bC rfl rfl) (by decide))<|wg rfl<|aA<|bO rfl<|aG ?_
 refine aM<|wm rfl<|wy (aB (off:=2) (m:=2) underlying56 rfl sz3 rfl rfl rfl)<|wy (aJ (rdR 0 (r:=⟨56,7,(some ⟨g_1,0,none⟩),1,1,[.int .i64 2, .slice Ad nd cd, .int .i64 1, .int .i64 q0, .int .i64 q1, .int .i64 q2, .int .i64 q3],false⟩) rfl) underlying3 rfl rfl rfl)<|wa (aF bAf rfl (Ct.pick [1,2,3,0] 4 (by decide) rfl (RU rfl rfl bh_s hN hl))) ?_
 rintro _ _ ⟨b1,hb1,A_2,c_3,A_4,c_5,rfl,rfl⟩
 refine wg rfl<|aA<|aT [0,1,2] 4 (by decide) rfl ?_
 refine⟨_,rfl,?_⟩
 exact⟨b1,hb1,_,_,_,_,rfl,rfl⟩
set_option maxRecDepth 100000 in
theorem aAc (hnt:nt=s.length) (hnp:np=l.length) (bh_s:aO s) (hN:s.length≤100000) (hl:l.length≤1000):
  Ct Tryz.prog 30 #[.pointer (some ⟨g,0,none⟩), .agg #[.int .i64 2, .slice Ad nd cd, .int .i64 2, .int .i64 q0, .int .i64 q1, .int .i64 q2, .int .i64 q3]] B w0 (⟨102,2,(some ⟨g,0,none⟩),1,1,[.slice At nt ct, .slice Ap np cp],false⟩::⟨5,1,At,nt,ct,ints .u8 s,false⟩::⟨106,2,Ap,np,cp,prs l,false⟩::R) (fun v R'=> ∃T:List (Int × Int),(T.Perm (iJ (bws s) (bws s).length)∧T.Pairwise (pU (bws s)))∧ ∃(A8:Option Addr) (c8:Nat) (A7:Option Addr) (c7:Nat),v= .int .i64 0∧R'=⟨102,2,(some ⟨g,0,none⟩),1,1,[.slice A8 T.length c8, .slice A7 ((l++[(1,0)]).length) c7],false⟩::⟨5,1,A8,T.length,c8,ints .u8 (T.map (lastB (bws s))),false⟩::⟨106,2,A7,(l++[(1,0)]).length,c7,prs (l++[(1,0)]),false⟩::R):=by
 subst hnt
 subst hnp
 refine fn1 Tryz.func30 rfl rfl rfl ?_
 refine wq<|wa (bX (sz:=7) rfl rfl) ?_
 rintro _ _ ⟨g_1,rfl,rfl⟩
 refine wg rfl<|aA<|aG<|wq<|wm rfl<|wy (cZ underlying49 rfl rfl)<|aA<|aL rfl<|aK<|aG<|wq<|wy (aB (off:=0) (m:=0) underlying56 rfl sz3 rfl rfl rfl)<|wy (aJ (rdR 0 (r:=⟨56,7,(some ⟨g_1,0,none⟩),1,1,[.int .i64 2, .slice Ad nd cd, .int .i64 2, .int .i64 q0, .int .i64 q1, .int .i64 q2, .int .i64 q3],false⟩) rfl) underlying3 rfl rfl rfl) ?_
 refine aA<|aI<|wq<|wy (Yl.f (bC rfl rfl) (by decide))<|wg rfl<|aA<|aL rfl<|wq<|wy (Yl.t (bC rfl rfl) (by decide))<|wg rfl<|aA<|bO rfl<|aG ?_
 refine aM<|wm rfl<|wy (aB (off:=2) (m:=2) underlying56 rfl sz3 rfl rfl rfl)<|wy (aJ (rdR 0 (r:=⟨56,7,(some ⟨g_1,0,none⟩),1,1,[.int .i64 2, .slice Ad nd cd, .int .i64 2, .int .i64 q0, .int .i64 q1, .int .i64 q2, .int .i64 q3],false⟩) rfl) underlying3 rfl rfl rfl)<|wa (aF bAf rfl (Ct.pick [1,2,3,0] 4 (by decide) rfl (RS rfl rfl bh_s hN hl))) ?_
 rintro _ _ ⟨T1,hT1,A_2,c_3,A_4,c_5,rfl,rfl⟩
 refine wg rfl<|aA<|aT [0,1,2] 4 (by decide) rfl ?_
 refine⟨_,rfl,?_⟩
 exact⟨T1,hT1,_,_,_,_,rfl,rfl⟩
set_option maxRecDepth 100000 in
theorem aQg (hnt:nt=s.length) (hnp:np=(l++[(0,at_)]).length) (hl:l.length≤1000) (bh_s:aO s) (hN:s.length≤100000) (hok:aJt s at_) (hb:lI s at_=s0):
  Ct Tryz.prog 30 #[.pointer (some ⟨g,0,none⟩), .agg #[.int .i64 3, .slice Ad nd cd, .int .i64 N, .int .i64 q0, .int .i64 q1, .int .i64 q2, .int .i64 q3]] B w0 (⟨102,2,(some ⟨g,0,none⟩),1,1,[.slice At nt ct, .slice Ap ((l++[(0,at_)]).length) cp],false⟩::⟨5,1,At,nt,ct,ints .u8 s,false⟩::⟨106,2,Ap,np,cp,prs (l++[(0,at_)]),false⟩::R) (fun v R'=> ∃(A8:Option Addr) (c8:Nat),v= .int .i64 0∧R'=⟨102,2,(some ⟨g,0,none⟩),1,1,[.slice A8 s0.length c8, .slice Ap l.length cp],false⟩::⟨5,1,A8,s0.length,c8,ints .u8 s0,false⟩::⟨106,2,Ap,l.length,cp,prs l,false⟩::R):=by
 subst hnt
 subst hnp
 refine fn1 Tryz.func30 rfl rfl rfl ?_
 refine wq<|wa (bX (sz:=7) rfl rfl) ?_
 rintro _ _ ⟨g_1,rfl,rfl⟩
 refine wg rfl<|aA<|aG<|wq<|wm rfl<|wy (cZ underlying49 rfl rfl)<|aA<|aL rfl<|aK<|aG<|wq<|wy (aB (off:=0) (m:=0) underlying56 rfl sz3 rfl rfl rfl)<|wy (aJ (rdR 0 (r:=⟨56,7,(some ⟨g_1,0,none⟩),1,1,[.int .i64 3, .slice Ad nd cd, .int .i64 N, .int .i64 q0, .int .i64 q1, .int .i64 q2, .int .i64 q3],false⟩) rfl) underlying3 rfl rfl rfl) ?_
 refine aA<|aI<|wq<|wy (Yl.f (bC rfl rfl) (by decide))<|wg rfl<|aA<|aL rfl<|wq<|wy (Yl.f (bC rfl rfl) (by decide))<|wg rfl<|aA<|aL rfl<|aG ?_
 refine aM<|wy (Yl.f (bC rfl rfl) (by decide))<|wg rfl<|aA<|aL rfl<|wq<|wy (Yl.f (bC rfl rfl) (by decide))<|wg rfl<|aA<|aL rfl<|wq<|wy (Yl.t (bC rfl rfl) (by decide))<|wg rfl ?_
 refine aA<|bO rfl<|wq<|wm rfl<|wa (bS .i64 [0,1] underlying52 zs3 rfl rfl rfl) ?_
 rintro _ _ ⟨g_3,rfl,rfl⟩
 refine wa (aF KS rfl (Ct.pick [2,3,4,0,1] 5 (by decide) rfl (RH rfl (rdR 0 (r:=⟨3,1,(some ⟨g_3,0,none⟩),2,2,ints .i64 ([0,1]),false⟩) rfl) rfl rfl (by simp) ⟨hl,by decide⟩ bh_s hN hok hb))) ?_
 rintro _ _ ⟨A_4,c_5,rfl,rfl⟩
 refine wg rfl<|aA<|aT [0,1,2] 5 (by decide) rfl ?_
 refine⟨_,rfl,?_⟩
 exact⟨_,_,rfl,rfl⟩
set_option maxRecDepth 100000 in
theorem aQf (hnt:nt=s.length) (hnp:np=(l++[(1,at_)]).length) (hl:l.length≤1000) (bh_s:aO s) (hN:s.length≤100000) (hb:backL s (dW (fsL s))=s0):
  Ct Tryz.prog 30 #[.pointer (some ⟨g,0,none⟩), .agg #[.int .i64 3, .slice Ad nd cd, .int .i64 N, .int .i64 q0, .int .i64 q1, .int .i64 q2, .int .i64 q3]] B w0 (⟨102,2,(some ⟨g,0,none⟩),1,1,[.slice At nt ct, .slice Ap ((l++[(1,at_)]).length) cp],false⟩::⟨5,1,At,nt,ct,ints .u8 s,false⟩::⟨106,2,Ap,np,cp,prs (l++[(1,at_)]),false⟩::R) (fun v R'=> ∃(A8:Option Addr) (c8:Nat),v= .int .i64 0∧R'=⟨102,2,(some ⟨g,0,none⟩),1,1,[.slice A8 s0.length c8, .slice Ap l.length cp],false⟩::⟨5,1,A8,s0.length,c8,ints .u8 s0,false⟩::⟨106,2,Ap,l.length,cp,prs l,false⟩::R):=by
 subst hnt
 subst hnp
 refine fn1 Tryz.func30 rfl rfl rfl ?_
 refine wq<|wa (bX (sz:=7) rfl rfl) ?_
 rintro _ _ ⟨g_1,rfl,rfl⟩
 refine wg rfl<|aA<|aG<|wq<|wm rfl<|wy (cZ underlying49 rfl rfl)<|aA<|aL rfl<|aK<|aG<|wq<|wy (aB (off:=0) (m:=0) underlying56 rfl sz3 rfl rfl rfl)<|wy (aJ (rdR 0 (r:=⟨56,7,(some ⟨g_1,0,none⟩),1,1,[.int .i64 3, .slice Ad nd cd, .int .i64 N, .int .i64 q0, .int .i64 q1, .int .i64 q2, .int .i64 q3],false⟩) rfl) underlying3 rfl rfl rfl) ?_
 refine aA<|aI<|wq<|wy (Yl.f (bC rfl rfl) (by decide))<|wg rfl<|aA<|aL rfl<|wq<|wy (Yl.f (bC rfl rfl) (by decide))<|wg rfl<|aA<|aL rfl<|aG ?_
 refine aM<|wy (Yl.f (bC rfl rfl) (by decide))<|wg rfl<|aA<|aL rfl<|wq<|wy (Yl.f (bC rfl rfl) (by decide))<|wg rfl<|aA<|aL rfl<|wq<|wy (Yl.t (bC rfl rfl) (by decide))<|wg rfl ?_
 refine aA<|bO rfl<|wq<|wm rfl<|wa (bS .i64 [0,1] underlying52 zs3 rfl rfl rfl) ?_
 rintro _ _ ⟨g_3,rfl,rfl⟩
 refine wa (aF KS rfl (Ct.pick [2,3,4,0,1] 5 (by decide) rfl (RG rfl (rdR 0 (r:=⟨3,1,(some ⟨g_3,0,none⟩),2,2,ints .i64 ([0,1]),false⟩) rfl) rfl rfl (by simp) ⟨hl,by decide⟩ bh_s hN hb))) ?_
 rintro _ _ ⟨A_4,c_5,rfl,rfl⟩
 refine wg rfl<|aA<|aT [0,1,2] 5 (by decide) rfl ?_
 refine⟨_,rfl,?_⟩
 exact⟨_,_,rfl,rfl⟩
set_option maxRecDepth 100000 in
theorem aQe (hnt:nt=s.length) (hnp:np=(l++[(2,at_)]).length) (hl:l.length≤1000) (bh_s:aO s) (hN:s.length≤100000) (hb:jW aR s=s0):
  Ct Tryz.prog 30 #[.pointer (some ⟨g,0,none⟩), .agg #[.int .i64 5, .slice Ad nd cd, .int .i64 N, .int .i64 q0, .int .i64 q1, .int .i64 q2, .int .i64 q3]] B w0 (⟨102,2,(some ⟨g,0,none⟩),1,1,[.slice At nt ct, .slice Ap ((l++[(2,at_)]).length) cp],false⟩::⟨5,1,At,nt,ct,ints .u8 s,false⟩::⟨106,2,Ap,np,cp,prs (l++[(2,at_)]),false⟩::R) (fun v R'=> ∃(A8:Option Addr) (c8:Nat),v= .int .i64 0∧R'=⟨102,2,(some ⟨g,0,none⟩),1,1,[.slice A8 s0.length c8, .slice Ap l.length cp],false⟩::⟨5,1,A8,s0.length,c8,ints .u8 s0,false⟩::⟨106,2,Ap,l.length,cp,prs l,false⟩::R):=by
 subst hnt
 subst hnp
 refine fn1 Tryz.func30 rfl rfl rfl ?_
 refine wq<|wa (bX (sz:=7) rfl rfl) ?_
 rintro _ _ ⟨g_1,rfl,rfl⟩
 refine wg rfl<|aA<|aG<|wq<|wm rfl<|wy (cZ underlying49 rfl rfl)<|aA<|aL rfl<|aK<|aG<|wq<|wy (aB (off:=0) (m:=0) underlying56 rfl sz3 rfl rfl rfl)<|wy (aJ (rdR 0 (r:=⟨56,7,(some ⟨g_1,0,none⟩),1,1,[.int .i64 5, .slice Ad nd cd, .int .i64 N, .int .i64 q0, .int .i64 q1, .int .i64 q2, .int .i64 q3],false⟩) rfl) underlying3 rfl rfl rfl) ?_
 refine aA<|aI<|wq<|wy (Yl.f (bC rfl rfl) (by decide))<|wg rfl<|aA<|aL rfl<|wq<|wy (Yl.f (bC rfl rfl) (by decide))<|wg rfl<|aA<|aL rfl<|aG ?_
 refine aM<|wy (Yl.f (bC rfl rfl) (by decide))<|wg rfl<|aA<|aL rfl<|wq<|wy (Yl.f (bC rfl rfl) (by decide))<|wg rfl<|aA<|aL rfl<|wq<|wy (Yl.f (bC rfl rfl) (by decide))<|wg rfl ?_
 refine aA<|aL rfl<|wq<|wy (Yl.t (bC rfl rfl) (by decide))<|wg rfl<|aA<|bO rfl<|wq<|wm rfl<|wa (bS .i64 [2] underlying52 zs3 rfl rfl rfl) ?_
 rintro _ _ ⟨g_3,rfl,rfl⟩
 refine wa (aF KS rfl (Ct.pick [2,3,4,0,1] 5 (by decide) rfl (RF rfl (rdR 0 (r:=⟨3,1,(some ⟨g_3,0,none⟩),1,1,ints .i64 ([2]),false⟩) rfl) rfl rfl (by simp) ⟨hl,by decide⟩ bh_s hN hb))) ?_
 rintro _ _ ⟨A_4,c_5,rfl,rfl⟩
 refine wg rfl<|aA<|aT [0,1,2] 5 (by decide) rfl ?_
 refine⟨_,rfl,?_⟩
 exact⟨_,_,rfl,rfl⟩
set_option maxRecDepth 100000 in
theorem aQc {k so od sz:Int} (hnt:nt=s.length) (hnp:np=(l++[(3,at_)]).length) (hl:l.length≤1000) (bh_s:aO s) (hN:s.length≤100000) (hu:s=nR k so od sz s0) (bh_w:aO s0) (hS:s0.length≤400) (hk:k=0∨k=1∨k=2) (hp:(0≤so∧so≤2)∧(od=0∨od=1)∧(1≤sz∧sz≤16777216)):
  Ct Tryz.prog 30 #[.pointer (some ⟨g,0,none⟩), .agg #[.int .i64 7, .slice Ad nd cd, .int .i64 N, .int .i64 q0, .int .i64 q1, .int .i64 q2, .int .i64 q3]] B w0 (⟨102,2,(some ⟨g,0,none⟩),1,1,[.slice At nt ct, .slice Ap ((l++[(3,at_)]).length) cp],false⟩::⟨5,1,At,nt,ct,ints .u8 s,false⟩::⟨106,2,Ap,np,cp,prs (l++[(3,at_)]),false⟩::R) (fun v R'=> ∃(A8:Option Addr) (c8:Nat),v= .int .i64 0∧R'=⟨102,2,(some ⟨g,0,none⟩),1,1,[.slice A8 s0.length c8, .slice Ap l.length cp],false⟩::⟨5,1,A8,s0.length,c8,ints .u8 s0,false⟩::⟨106,2,Ap,l.length,cp,prs l,false⟩::R):=by
 subst hnt
 subst hnp
 refine fn1 Tryz.func30 rfl rfl rfl ?_
 refine wq<|wa (bX (sz:=7) rfl rfl) ?_
 rintro _ _ ⟨g_1,rfl,rfl⟩
 refine wg rfl<|aA<|aG<|wq<|wm rfl<|wy (cZ underlying49 rfl rfl)<|aA<|aL rfl<|aK<|aG<|wq<|wy (aB (off:=0) (m:=0) underlying56 rfl sz3 rfl rfl rfl)<|wy (aJ (rdR 0 (r:=⟨56,7,(some ⟨g_1,0,none⟩),1,1,[.int .i64 7, .slice Ad nd cd, .int .i64 N, .int .i64 q0, .int .i64 q1, .int .i64 q2, .int .i64 q3],false⟩) rfl) underlying3 rfl rfl rfl) ?_
 refine aA<|aI<|wq<|wy (Yl.f (bC rfl rfl) (by decide))<|wg rfl<|aA<|aL rfl<|wq<|wy (Yl.f (bC rfl rfl) (by decide))<|wg rfl<|aA<|aL rfl<|aG ?_
 refine aM<|wy (Yl.f (bC rfl rfl) (by decide))<|wg rfl<|aA<|aL rfl<|wq<|wy (Yl.f (bC rfl rfl) (by decide))<|wg rfl<|aA<|aL rfl<|wq<|wy (Yl.f (bC rfl rfl) (by decide))<|wg rfl ?_
 refine aA<|aL rfl<|wq<|wy (Yl.f (bC rfl rfl) (by decide))<|wg rfl<|aA<|aL rfl<|wq<|wy (Yl.t (bC rfl rfl) (by decide))<|wg rfl<|aA<|bO rfl<|aG ?_
 refine aM<|wm rfl<|wa (bS .i64 [3] underlying52 zs3 rfl rfl rfl) ?_
 rintro _ _ ⟨g_3,rfl,rfl⟩
 refine wa (aF KS rfl (Ct.pick [2,3,4,0,1] 5 (by decide) rfl (RD rfl (rdR 0 (r:=⟨3,1,(some ⟨g_3,0,none⟩),1,1,ints .i64 ([3]),false⟩) rfl) rfl rfl (by simp) ⟨hl,by decide⟩ bh_s hN hu bh_w hS hk hp))) ?_
 rintro _ _ ⟨A_4,c_5,rfl,rfl⟩
 refine wg rfl<|aA<|aT [0,1,2] 5 (by decide) rfl ?_
 refine⟨_,rfl,?_⟩
 exact⟨_,_,rfl,rfl⟩
set_option maxRecDepth 100000 in
theorem VQ (hnt:nt=s.length) (hnp:np=(l++[(K,at_)]).length) (hl:l.length≤1000) (hin:K∉([0,1]:List Int)):
  Ct Tryz.prog 30 #[.pointer (some ⟨g,0,none⟩), .agg #[.int .i64 3, .slice Ad nd cd, .int .i64 N, .int .i64 q0, .int .i64 q1, .int .i64 q2, .int .i64 q3]] B w0 (⟨102,2,(some ⟨g,0,none⟩),1,1,[.slice At nt ct, .slice Ap ((l++[(K,at_)]).length) cp],false⟩::⟨5,1,At,nt,ct,ints .u8 s,false⟩::⟨106,2,Ap,np,cp,prs (l++[(K,at_)]),false⟩::R) (fun v R'=>v= .int .i64 6∧R'=⟨102,2,(some ⟨g,0,none⟩),1,1,[.slice At nt ct, .slice Ap np cp],false⟩::⟨5,1,At,nt,ct,ints .u8 s,false⟩::⟨106,2,Ap,np,cp,prs (l++[(K,at_)]),false⟩::R):=by
 subst hnt
 subst hnp
 refine fn1 Tryz.func30 rfl rfl rfl ?_
 refine wq<|wa (bX (sz:=7) rfl rfl) ?_
 rintro _ _ ⟨g_1,rfl,rfl⟩
 refine wg rfl<|aA<|aG<|wq<|wm rfl<|wy (cZ underlying49 rfl rfl)<|aA<|aL rfl<|aK<|aG<|wq<|wy (aB (off:=0) (m:=0) underlying56 rfl sz3 rfl rfl rfl)<|wy (aJ (rdR 0 (r:=⟨56,7,(some ⟨g_1,0,none⟩),1,1,[.int .i64 3, .slice Ad nd cd, .int .i64 N, .int .i64 q0, .int .i64 q1, .int .i64 q2, .int .i64 q3],false⟩) rfl) underlying3 rfl rfl rfl) ?_
 refine aA<|aI<|wq<|wy (Yl.f (bC rfl rfl) (by decide))<|wg rfl<|aA<|aL rfl<|wq<|wy (Yl.f (bC rfl rfl) (by decide))<|wg rfl<|aA<|aL rfl<|aG ?_
 refine aM<|wy (Yl.f (bC rfl rfl) (by decide))<|wg rfl<|aA<|aL rfl<|wq<|wy (Yl.f (bC rfl rfl) (by decide))<|wg rfl<|aA<|aL rfl<|wq<|wy (Yl.t (bC rfl rfl) (by decide))<|wg rfl ?_
 refine aA<|bO rfl<|wq<|wm rfl<|wa (bS .i64 [0,1] underlying52 zs3 rfl rfl rfl) ?_
 rintro _ _ ⟨g_3,rfl,rfl⟩
 refine wa (aF KS rfl (Ct.pick [2,3,4,0,1] 5 (by decide) rfl (sZ rfl (rdR 0 (r:=⟨3,1,(some ⟨g_3,0,none⟩),2,2,ints .i64 ([0,1]),false⟩) rfl) rfl rfl hin ⟨hl,by decide⟩))) ?_
 rintro _ _ ⟨rfl,rfl⟩
 refine wg rfl<|aA<|aT [0,1,2] 5 (by decide) rfl ?_
 refine⟨_,rfl,?_⟩
 exact⟨rfl,rfl⟩
set_option maxRecDepth 100000 in
theorem JB (hnt:nt=s.length) (hnp:np=(l++[(K,at_)]).length) (hl:l.length≤1000) (hin:K∉([2]:List Int)):
  Ct Tryz.prog 30 #[.pointer (some ⟨g,0,none⟩), .agg #[.int .i64 5, .slice Ad nd cd, .int .i64 N, .int .i64 q0, .int .i64 q1, .int .i64 q2, .int .i64 q3]] B w0 (⟨102,2,(some ⟨g,0,none⟩),1,1,[.slice At nt ct, .slice Ap ((l++[(K,at_)]).length) cp],false⟩::⟨5,1,At,nt,ct,ints .u8 s,false⟩::⟨106,2,Ap,np,cp,prs (l++[(K,at_)]),false⟩::R) (fun v R'=>v= .int .i64 6∧R'=⟨102,2,(some ⟨g,0,none⟩),1,1,[.slice At nt ct, .slice Ap np cp],false⟩::⟨5,1,At,nt,ct,ints .u8 s,false⟩::⟨106,2,Ap,np,cp,prs (l++[(K,at_)]),false⟩::R):=by
 subst hnt
 subst hnp
 refine fn1 Tryz.func30 rfl rfl rfl ?_
 refine wq<|wa (bX (sz:=7) rfl rfl) ?_
 rintro _ _ ⟨g_1,rfl,rfl⟩
 refine wg rfl<|aA<|aG<|wq<|wm rfl<|wy (cZ underlying49 rfl rfl)<|aA<|aL rfl<|aK<|aG<|wq<|wy (aB (off:=0) (m:=0) underlying56 rfl sz3 rfl rfl rfl)<|wy (aJ (rdR 0 (r:=⟨56,7,(some ⟨g_1,0,none⟩),1,1,[.int .i64 5, .slice Ad nd cd, .int .i64 N, .int .i64 q0, .int .i64 q1, .int .i64 q2, .int .i64 q3],false⟩) rfl) underlying3 rfl rfl rfl) ?_
 refine aA<|aI<|wq<|wy (Yl.f (bC rfl rfl) (by decide))<|wg rfl<|aA<|aL rfl<|wq<|wy (Yl.f (bC rfl rfl) (by decide))<|wg rfl<|aA<|aL rfl<|aG ?_
 refine aM<|wy (Yl.f (bC rfl rfl) (by decide))<|wg rfl<|aA<|aL rfl<|wq<|wy (Yl.f (bC rfl rfl) (by decide))<|wg rfl<|aA<|aL rfl<|wq<|wy (Yl.f (bC rfl rfl) (by decide))<|wg rfl ?_
 refine aA<|aL rfl<|wq<|wy (Yl.t (bC rfl rfl) (by decide))<|wg rfl<|aA<|bO rfl<|wq<|wm rfl<|wa (bS .i64 [2] underlying52 zs3 rfl rfl rfl) ?_
 rintro _ _ ⟨g_3,rfl,rfl⟩
 refine wa (aF KS rfl (Ct.pick [2,3,4,0,1] 5 (by decide) rfl (sZ rfl (rdR 0 (r:=⟨3,1,(some ⟨g_3,0,none⟩),1,1,ints .i64 ([2]),false⟩) rfl) rfl rfl hin ⟨hl,by decide⟩))) ?_
 rintro _ _ ⟨rfl,rfl⟩
 refine wg rfl<|aA<|aT [0,1,2] 5 (by decide) rfl ?_
 refine⟨_,rfl,?_⟩
 exact⟨rfl,rfl⟩
set_option maxRecDepth 100000 in
theorem JA (hnt:nt=s.length) (hnp:np=(l++[(K,at_)]).length) (hl:l.length≤1000) (hin:K∉([3]:List Int)):
  Ct Tryz.prog 30 #[.pointer (some ⟨g,0,none⟩), .agg #[.int .i64 7, .slice Ad nd cd, .int .i64 N, .int .i64 q0, .int .i64 q1, .int .i64 q2, .int .i64 q3]] B w0 (⟨102,2,(some ⟨g,0,none⟩),1,1,[.slice At nt ct, .slice Ap ((l++[(K,at_)]).length) cp],false⟩::⟨5,1,At,nt,ct,ints .u8 s,false⟩::⟨106,2,Ap,np,cp,prs (l++[(K,at_)]),false⟩::R) (fun v R'=>v= .int .i64 6∧R'=⟨102,2,(some ⟨g,0,none⟩),1,1,[.slice At nt ct, .slice Ap np cp],false⟩::⟨5,1,At,nt,ct,ints .u8 s,false⟩::⟨106,2,Ap,np,cp,prs (l++[(K,at_)]),false⟩::R):=by
 subst hnt
 subst hnp
 refine fn1 Tryz.func30 rfl rfl rfl ?_
 refine wq<|wa (bX (sz:=7) rfl rfl) ?_
 rintro _ _ ⟨g_1,rfl,rfl⟩
 refine wg rfl<|aA<|aG<|wq<|wm rfl<|wy (cZ underlying49 rfl rfl)<|aA<|aL rfl<|aK<|aG<|wq<|wy (aB (off:=0) (m:=0) underlying56 rfl sz3 rfl rfl rfl)<|wy (aJ (rdR 0 (r:=⟨56,7,(some ⟨g_1,0,none⟩),1,1,[.int .i64 7, .slice Ad nd cd, .int .i64 N, .int .i64 q0, .int .i64 q1, .int .i64 q2, .int .i64 q3],false⟩) rfl) underlying3 rfl rfl rfl) ?_
 refine aA<|aI<|wq<|wy (Yl.f (bC rfl rfl) (by decide))<|wg rfl<|aA<|aL rfl<|wq<|wy (Yl.f (bC rfl rfl) (by decide))<|wg rfl<|aA<|aL rfl<|aG ?_
 refine aM<|wy (Yl.f (bC rfl rfl) (by decide))<|wg rfl<|aA<|aL rfl<|wq<|wy (Yl.f (bC rfl rfl) (by decide))<|wg rfl<|aA<|aL rfl<|wq<|wy (Yl.f (bC rfl rfl) (by decide))<|wg rfl ?_
 refine aA<|aL rfl<|wq<|wy (Yl.f (bC rfl rfl) (by decide))<|wg rfl<|aA<|aL rfl<|wq<|wy (Yl.t (bC rfl rfl) (by decide))<|wg rfl<|aA<|bO rfl<|aG ?_
 refine aM<|wm rfl<|wa (bS .i64 [3] underlying52 zs3 rfl rfl rfl) ?_
 rintro _ _ ⟨g_3,rfl,rfl⟩
 refine wa (aF KS rfl (Ct.pick [2,3,4,0,1] 5 (by decide) rfl (sZ rfl (rdR 0 (r:=⟨3,1,(some ⟨g_3,0,none⟩),1,1,ints .i64 ([3]),false⟩) rfl) rfl rfl hin ⟨hl,by decide⟩))) ?_
 rintro _ _ ⟨rfl,rfl⟩
 refine wg rfl<|aA<|aT [0,1,2] 5 (by decide) rfl ?_
 refine⟨_,rfl,?_⟩
 exact⟨rfl,rfl⟩
set_option maxRecDepth 100000 in
theorem VR:
  Ct Tryz.prog 30 #[.pointer (some ⟨g,0,none⟩), .agg #[.int .i64 3, .slice Ad nd cd, .int .i64 N, .int .i64 q0, .int .i64 q1, .int .i64 q2, .int .i64 q3]] B w0 (⟨102,2,(some ⟨g,0,none⟩),1,1,[.slice At nt ct, .slice Ap 0 cp],false⟩::⟨5,1,At,nt,ct,ints .u8 s,false⟩::⟨106,2,Ap,0,cp,prs ([]),false⟩::R) (fun v R'=>v= .int .i64 6∧R'=⟨102,2,(some ⟨g,0,none⟩),1,1,[.slice At nt ct, .slice Ap 0 cp],false⟩::⟨5,1,At,nt,ct,ints .u8 s,false⟩::⟨106,2,Ap,0,cp,prs ([]),false⟩::R):=by
 refine fn1 Tryz.func30 rfl rfl rfl ?_
 refine wq<|wa (bX (sz:=7) rfl rfl) ?_
 rintro _ _ ⟨g_1,rfl,rfl⟩
 refine wg rfl<|aA<|aG<|wq<|wm rfl<|wy (cZ underlying49 rfl rfl)<|aA<|aL rfl<|aK<|aG<|wq<|wy (aB (off:=0) (m:=0) underlying56 rfl sz3 rfl rfl rfl)<|wy (aJ (rdR 0 (r:=⟨56,7,(some ⟨g_1,0,none⟩),1,1,[.int .i64 3, .slice Ad nd cd, .int .i64 N, .int .i64 q0, .int .i64 q1, .int .i64 q2, .int .i64 q3],false⟩) rfl) underlying3 rfl rfl rfl) ?_
 refine aA<|aI<|wq<|wy (Yl.f (bC rfl rfl) (by decide))<|wg rfl<|aA<|aL rfl<|wq<|wy (Yl.f (bC rfl rfl) (by decide))<|wg rfl<|aA<|aL rfl<|aG ?_
 refine aM<|wy (Yl.f (bC rfl rfl) (by decide))<|wg rfl<|aA<|aL rfl<|wq<|wy (Yl.f (bC rfl rfl) (by decide))<|wg rfl<|aA<|aL rfl<|wq<|wy (Yl.t (bC rfl rfl) (by decide))<|wg rfl ?_
 refine aA<|bO rfl<|wq<|wm rfl<|wa (bS .i64 [0,1] underlying52 zs3 rfl rfl rfl) ?_
 rintro _ _ ⟨g_3,rfl,rfl⟩
 refine wa (aF KS rfl (Ct.pick [2,3,4,0,1] 5 (by decide) rfl (tC (rdR 0 (r:=⟨3,1,(some ⟨g_3,0,none⟩),2,2,ints .i64 ([0,1]),false⟩) rfl) rfl))) ?_
 rintro _ _ ⟨rfl,rfl⟩
 refine wg rfl<|aA<|aT [0,1,2] 5 (by decide) rfl ?_
 refine⟨_,rfl,?_⟩
 exact⟨rfl,rfl⟩
set_option maxRecDepth 100000 in
theorem aQd:
  Ct Tryz.prog 30 #[.pointer (some ⟨g,0,none⟩), .agg #[.int .i64 5, .slice Ad nd cd, .int .i64 N, .int .i64 q0, .int .i64 q1, .int .i64 q2, .int .i64 q3]] B w0 (⟨102,2,(some ⟨g,0,none⟩),1,1,[.slice At nt ct, .slice Ap 0 cp],false⟩::⟨5,1,At,nt,ct,ints .u8 s,false⟩::⟨106,2,Ap,0,cp,prs ([]),false⟩::R) (fun v R'=>v= .int .i64 6∧R'=⟨102,2,(some ⟨g,0,none⟩),1,1,[.slice At nt ct, .slice Ap 0 cp],false⟩::⟨5,1,At,nt,ct,ints .u8 s,false⟩::⟨106,2,Ap,0,cp,prs ([]),false⟩::R):=by
 refine fn1 Tryz.func30 rfl rfl rfl ?_
 refine wq<|wa (bX (sz:=7) rfl rfl) ?_
 rintro _ _ ⟨g_1,rfl,rfl⟩
 refine wg rfl<|aA<|aG<|wq<|wm rfl<|wy (cZ underlying49 rfl rfl)<|aA<|aL rfl<|aK<|aG<|wq<|wy (aB (off:=0) (m:=0) underlying56 rfl sz3 rfl rfl rfl)<|wy (aJ (rdR 0 (r:=⟨56,7,(some ⟨g_1,0,none⟩),1,1,[.int .i64 5, .slice Ad nd cd, .int .i64 N, .int .i64 q0, .int .i64 q1, .int .i64 q2, .int .i64 q3],false⟩) rfl) underlying3 rfl rfl rfl) ?_
 refine aA<|aI<|wq<|wy (Yl.f (bC rfl rfl) (by decide))<|wg rfl<|aA<|aL rfl<|wq<|wy (Yl.f (bC rfl rfl) (by decide))<|wg rfl<|aA<|aL rfl<|aG ?_
 refine aM<|wy (Yl.f (bC rfl rfl) (by decide))<|wg rfl<|aA<|aL rfl<|wq<|wy (Yl.f (bC rfl rfl) (by decide))<|wg rfl<|aA<|aL rfl<|wq<|wy (Yl.f (bC rfl rfl) (by decide))<|wg rfl ?_
 refine aA<|aL rfl<|wq<|wy (Yl.t (bC rfl rfl) (by decide))<|wg rfl<|aA<|bO rfl<|wq<|wm rfl<|wa (bS .i64 [2] underlying52 zs3 rfl rfl rfl) ?_
 rintro _ _ ⟨g_3,rfl,rfl⟩
 refine wa (aF KS rfl (Ct.pick [2,3,4,0,1] 5 (by decide) rfl (tC (rdR 0 (r:=⟨3,1,(some ⟨g_3,0,none⟩),1,1,ints .i64 ([2]),false⟩) rfl) rfl))) ?_
 rintro _ _ ⟨rfl,rfl⟩
 refine wg rfl<|aA<|aT [0,1,2] 5 (by decide) rfl ?_
 refine⟨_,rfl,?_⟩
 exact⟨rfl,rfl⟩
set_option maxRecDepth 100000 in
theorem aQb:
  Ct Tryz.prog 30 #[.pointer (some ⟨g,0,none⟩), .agg #[.int .i64 7, .slice Ad nd cd, .int .i64 N, .int .i64 q0, .int .i64 q1, .int .i64 q2, .int .i64 q3]] B w0 (⟨102,2,(some ⟨g,0,none⟩),1,1,[.slice At nt ct, .slice Ap 0 cp],false⟩::⟨5,1,At,nt,ct,ints .u8 s,false⟩::⟨106,2,Ap,0,cp,prs ([]),false⟩::R) (fun v R'=>v= .int .i64 6∧R'=⟨102,2,(some ⟨g,0,none⟩),1,1,[.slice At nt ct, .slice Ap 0 cp],false⟩::⟨5,1,At,nt,ct,ints .u8 s,false⟩::⟨106,2,Ap,0,cp,prs ([]),false⟩::R):=by
 refine fn1 Tryz.func30 rfl rfl rfl ?_
 refine wq<|wa (bX (sz:=7) rfl rfl) ?_
 rintro _ _ ⟨g_1,rfl,rfl⟩
 refine wg rfl<|aA<|aG<|wq<|wm rfl<|wy (cZ underlying49 rfl rfl)<|aA<|aL rfl<|aK<|aG<|wq<|wy (aB (off:=0) (m:=0) underlying56 rfl sz3 rfl rfl rfl)<|wy (aJ (rdR 0 (r:=⟨56,7,(some ⟨g_1,0,none⟩),1,1,[.int .i64 7, .slice Ad nd cd, .int .i64 N, .int .i64 q0, .int .i64 q1, .int .i64 q2, .int .i64 q3],false⟩) rfl) underlying3 rfl rfl rfl) ?_
 refine aA<|aI<|wq<|wy (Yl.f (bC rfl rfl) (by decide))<|wg rfl<|aA<|aL rfl<|wq<|wy (Yl.f (bC rfl rfl) (by decide))<|wg rfl<|aA<|aL rfl<|aG ?_
 refine aM<|wy (Yl.f (bC rfl rfl) (by decide))<|wg rfl<|aA<|aL rfl<|wq<|wy (Yl.f (bC rfl rfl) (by decide))<|wg rfl<|aA<|aL rfl<|wq<|wy (Yl.f (bC rfl rfl) (by decide))<|wg rfl ?_
 refine aA<|aL rfl<|wq<|wy (Yl.f (bC rfl rfl) (by decide))<|wg rfl<|aA<|aL rfl<|wq<|wy (Yl.t (bC rfl rfl) (by decide))<|wg rfl<|aA<|bO rfl<|aG ?_
 refine aM<|wm rfl<|wa (bS .i64 [3] underlying52 zs3 rfl rfl rfl) ?_
 rintro _ _ ⟨g_3,rfl,rfl⟩
 refine wa (aF KS rfl (Ct.pick [2,3,4,0,1] 5 (by decide) rfl (tC (rdR 0 (r:=⟨3,1,(some ⟨g_3,0,none⟩),1,1,ints .i64 ([3]),false⟩) rfl) rfl))) ?_
 rintro _ _ ⟨rfl,rfl⟩
 refine wg rfl<|aA<|aT [0,1,2] 5 (by decide) rfl ?_
 refine⟨_,rfl,?_⟩
 exact⟨rfl,rfl⟩
set_option maxRecDepth 100000 in
theorem ZL {w:World}:
  Ct Tryz.prog 35 #[] w.heap.size w [] (fun v R'=>v= .bool true):=by
 refine fn1 Tryz.func35 rfl rfl rfl ?_
 refine wq<|wg rfl<|aA<|wq<|wa (aF bDb rfl (Ct.fresh (fun w hw=>TZ))) ?_
 rintro _ _ ⟨_,rfl,g_1,rfl,rfl⟩
 refine wg rfl<|aA<|wq<|wm rfl<|wy (aBx underlying49 rfl rfl)<|wm rfl<|aC rfl rfl<|wm rfl<|aC rfl rfl<|wy (dY (v:= .agg #[.int .i64 3, .slice none 0 0, .int .i64 0, .int .i64 0, .int .i64 0, .int .i64 0, .int .i64 0]) rfl (fun w=>by kernel_rfl))<|aC rfl rfl<|wa (aF aVh rfl ((VR (s:=[])))) ?_
 rintro _ _ ⟨rfl,rfl⟩
 refine aC rfl rfl<|wy (Yl.t (bC rfl rfl) (by decide))<|wy (bA rfl rfl)<|wm rfl<|aC rfl rfl<|wm rfl<|aC rfl rfl<|wa (aF bAg rfl ((wZ rfl rfl))) ?_
 rintro _ _ ⟨rfl,rfl⟩
 refine aC rfl rfl<|wy (Yl.t (bC rfl rfl) (by decide))<|wy (bA rfl rfl)<|wm rfl<|aC rfl rfl<|wm rfl<|aC rfl rfl<|wa (aF bAh rfl ((AB rfl rfl (by decide)))) ?_
 rintro _ _ ⟨A_2,c_3,rfl,rfl⟩
 refine aC rfl rfl<|wy (aQ underlying22 rfl)<|aC rfl rfl<|wy (Yl.t (bC rfl rfl) (by decide))<|wy (bA rfl rfl)<|wg rfl<|aA<|aT [] 99 (by decide) rfl ?_
 refine⟨_,rfl,?_⟩
 rfl
end Go.Proofs.YtdbebmmhdefgdaaGreat
namespace Go.Pure
open Go Go.Eng
variable {base s:List Int}
theorem IV {t so o sz:Int} {u:List Int} (hu:aO u) (hS:u.length≤120) (hz:1≤sz∧sz≤16777216):(nR t so o sz u).length≤40000:=by
 have e1:=lH (t:=t) (o:=o) (n:=sz.toNat) hu (by omega) (chK u.length sz.toNat)
 have e2:chK u.length sz.toNat≤u.length:=aAv (by omega)
 have e3:(2*u.length+22)*chK u.length sz.toNat≤262*120:=Nat.mul_le_mul (by omega) (by omega)
 have e4:=eG 4 sz (by omega)
 have e5:=eG 4 (u.length:Int) (by omega)
 have e6:(bP 0).length=1:=rfl
 unfold nR
 simp only[List.length_append,List.length_cons,List.length_nil]
 omega
def aYd (K at_:Int) (s s0:List Int):Prop:=
 (K=0∧aJt s at_∧lI s at_=s0)∨(K=1∧backL s (dW (lfL s))=s0)∨(K=2∧jW aR s=s0)∨
 (K=3∧ ∃k so od sz:Int,s=nR k so od sz s0∧(k=0∨k=1∨k=2)∧((0≤so∧so≤2)∧(od=0∨od=1)∧(1≤sz∧sz≤16777216)))
inductive Und (base:List Int):List (Int × Int)→List Int→Prop where
 |nil:Und base [] base
 |add {l:List (Int × Int)} {s s0:List Int} {K at_:Int} (h:Und base l s0) (hb:aO s0) (hn:s0.length≤120) (hu:aYd K at_ s s0):Und base (l++[(K,at_)]) s
theorem Und.inv {L:List (Int × Int)} (h:Und base L s):(L=[]∧s=base)∨ ∃l K at_ s0,L=l++[(K,at_)]∧Und base l s0∧aO s0∧s0.length≤120∧aYd K at_ s s0:=by
 cases h with
 |nil=>exact .inl ⟨rfl,rfl⟩
 |add h hb hn hu=>exact .inr ⟨_,_,_,_,rfl,h,hb,hn,hu⟩
theorem Und.none (h:Und base [] s):s=base:=by
 rcases h.inv with⟨_,h⟩|⟨l,K,a,s0,h,_⟩
 ·exact h
 ·simp at h
end Go.Pure
namespace Go.Proofs.YtdbebmmhdefgdaaGreat
open Go Go.Eng Go.Pure
open Tryz
variable {B g nt ct np cp nd cd:Nat} {w0:World} {R:List Row} {At Ap Ad:Option Addr} {s:List Int} {l:List (Int × Int)} {so od sz k N:Int}
set_option maxRecDepth 100000 in
theorem aBb (hnt:nt=s.length) (hnp:np=l.length):
  Ct Tryz.prog 61 #[.pointer (some ⟨g,0,none⟩), .agg #[.int .i64 3, .int .i64 so, .int .i64 od, .int .i64 sz]] B w0 (⟨102,2,(some ⟨g,0,none⟩),1,1,[.slice At nt ct, .slice Ap np cp],false⟩::⟨5,1,At,nt,ct,ints .u8 s,false⟩::⟨106,2,Ap,np,cp,prs l,false⟩::R) (fun v R'=>v= .int .i64 1∧R'=⟨102,2,(some ⟨g,0,none⟩),1,1,[.slice At nt ct, .slice Ap np cp],false⟩::⟨5,1,At,nt,ct,ints .u8 s,false⟩::⟨106,2,Ap,np,cp,prs l,false⟩::R):=by
 subst hnt
 subst hnp
 refine fn1 Tryz.func61 rfl rfl rfl ?_
 refine wq<|wa (bX (sz:=4) rfl rfl) ?_
 rintro _ _ ⟨g_1,rfl,rfl⟩
 refine wg rfl<|aA<|aG<|wq<|wy (aB (off:=0) (m:=0) underlying27 rfl sz3 rfl rfl rfl)<|wy (aJ (rdR 0 (r:=⟨27,4,(some ⟨g_1,0,none⟩),1,1,[.int .i64 3, .int .i64 so, .int .i64 od, .int .i64 sz],false⟩) rfl) underlying3 rfl rfl rfl)<|wy (Yl.t (bC rfl rfl) (by decide))<|aA<|bO rfl<|wq<|wg rfl<|aA<|aT [1,2,3] 4 (by decide) rfl ?_
 refine⟨_,rfl,?_⟩
 exact⟨rfl,rfl⟩
set_option maxRecDepth 100000 in
theorem aBc (hnt:nt=s.length) (hnp:np=l.length) (h3:k≠3) (hno: ¬((0≤k∧k≤3)∧(0≤so∧so≤2)∧(od=0∨od=1)∧(1≤sz∧sz≤16777216))):
  Ct Tryz.prog 61 #[.pointer (some ⟨g,0,none⟩), .agg #[.int .i64 k, .int .i64 so, .int .i64 od, .int .i64 sz]] B w0 (⟨102,2,(some ⟨g,0,none⟩),1,1,[.slice At nt ct, .slice Ap np cp],false⟩::⟨5,1,At,nt,ct,ints .u8 s,false⟩::⟨106,2,Ap,np,cp,prs l,false⟩::R) (fun v R'=>v= .int .i64 1∧R'=⟨102,2,(some ⟨g,0,none⟩),1,1,[.slice At nt ct, .slice Ap np cp],false⟩::⟨5,1,At,nt,ct,ints .u8 s,false⟩::⟨106,2,Ap,np,cp,prs l,false⟩::R):=by
 subst hnt
 subst hnp
 refine fn1 Tryz.func61 rfl rfl rfl ?_
 refine wq<|wa (bX (sz:=4) rfl rfl) ?_
 rintro _ _ ⟨g_1,rfl,rfl⟩
 refine wg rfl<|aA<|aG<|wq<|wy (aB (off:=0) (m:=0) underlying27 rfl sz3 rfl rfl rfl)<|wy (aJ (rdR 0 (r:=⟨27,4,(some ⟨g_1,0,none⟩),1,1,[.int .i64 k, .int .i64 so, .int .i64 od, .int .i64 sz],false⟩) rfl) underlying3 rfl rfl rfl)<|wy (Yl.f (bC rfl rfl) (h3))<|aA<|aL rfl<|aK<|aG<|bT mixed<|gF 0 rfl (by kernel_rfl) rfl (aN rfl)<|gF 1 rfl (by kernel_rfl) rfl (aD rfl) ?_
 refine gF 2 rfl (by kernel_rfl) rfl (aB (off:=0) (m:=0) underlying102 rfl dO rfl rfl rfl)<|gF 3 rfl (by kernel_rfl) rfl (aJ (rdR 1 (r:=⟨102,2,(some ⟨g,0,none⟩),1,1,[.slice At s.length ct, .slice Ap l.length cp],false⟩) rfl) underlying22 rfl rfl rfl)<|gF 4 rfl (by kernel_rfl) rfl (dY (v:= .agg #[.slice At s.length ct, .slice none 0 0]) rfl (fun w=>by kernel_rfl))<|gF 5 rfl (by kernel_rfl) rfl (dG (vs:=[.int .i64 k, .int .i64 so, .int .i64 od, .int .i64 sz]) (rdR 0 (r:=⟨27,4,(some ⟨g_1,0,none⟩),1,1,[.int .i64 k, .int .i64 so, .int .i64 od, .int .i64 sz],false⟩) rfl) underlying27 rfl gI rfl rfl (Nat.le_of_ble_eq_true rfl) rfl)<|QV 6 rfl (by kernel_rfl) rfl (aF bEh rfl (Ct.quiet (fun w hw=>aVe ((rdr 2 rfl) w hw) hno))) ?_
 rintro _ _ ⟨rfl,rfl⟩
 refine⟨.inr fun _ h=>h,?_⟩
 refine gF 7 rfl (by kernel_rfl) rfl (aN rfl)<|gF 8 rfl (by kernel_rfl) rfl (jO rfl rfl)<|gF 9 rfl (by kernel_rfl) rfl (jO rfl rfl)<|gF 10 rfl (by kernel_rfl) rfl (bQ rfl)<|gF 11 rfl (by kernel_rfl) rfl (bQ rfl)<|zX (by kernel_rfl)<|aG<|wq<|wm rfl<|wy (Yl.t (jA rfl rfl) (by decide))<|aA<|bO rfl<|wq ?_
 refine wm rfl<|wg rfl<|aA<|aT [1,2,3] 4 (by decide) rfl ?_
 refine⟨_,rfl,?_⟩
 exact⟨rfl,rfl⟩
set_option maxRecDepth 100000 in
theorem aBa (hnt:nt=s.length) (hnp:np=l.length) (bh_s:aO s) (hN:s.length≤120) (hl:l.length≤1000) (hp:(0≤so∧so≤2)∧(od=0∨od=1)∧(1≤sz∧sz≤16777216)) (hk:k=0∨k=1∨k=2):
  Ct Tryz.prog 61 #[.pointer (some ⟨g,0,none⟩), .agg #[.int .i64 k, .int .i64 so, .int .i64 od, .int .i64 sz]] B w0 (⟨102,2,(some ⟨g,0,none⟩),1,1,[.slice At nt ct, .slice Ap np cp],false⟩::⟨5,1,At,nt,ct,ints .u8 s,false⟩::⟨106,2,Ap,np,cp,prs l,false⟩::R) (fun v R'=> ∃(A8:Option Addr) (c8:Nat) (A7:Option Addr) (c7:Nat),v= .int .i64 0∧R'=⟨102,2,(some ⟨g,0,none⟩),1,1,[.slice A8 ((nR k so od sz s).length) c8, .slice A7 ((l++[(3,0)]).length) c7],false⟩::⟨5,1,A8,(nR k so od sz s).length,c8,ints .u8 (nR k so od sz s),false⟩::⟨106,2,A7,(l++[(3,0)]).length,c7,prs (l++[(3,0)]),false⟩::R):=by
 subst hnt
 subst hnp
 have hen:=IV (t:=k) (so:=so) (o:=od) (sz:=sz) bh_s hN (by omega)
 refine fn1 Tryz.func61 rfl rfl rfl ?_
 refine wq<|wa (bX (sz:=4) rfl rfl) ?_
 rintro _ _ ⟨g_1,rfl,rfl⟩
 refine wg rfl<|aA<|aG<|wq<|wy (aB (off:=0) (m:=0) underlying27 rfl sz3 rfl rfl rfl)<|wy (aJ (rdR 0 (r:=⟨27,4,(some ⟨g_1,0,none⟩),1,1,[.int .i64 k, .int .i64 so, .int .i64 od, .int .i64 sz],false⟩) rfl) underlying3 rfl rfl rfl)<|wy (Yl.f (bC rfl rfl))<|aA<|aL rfl<|aK<|aG<|bT mixed<|gF 0 rfl (by kernel_rfl) rfl (aN rfl)<|gF 1 rfl (by kernel_rfl) rfl (aD rfl) ?_
 refine gF 2 rfl (by kernel_rfl) rfl (aB (off:=0) (m:=0) underlying102 rfl dO rfl rfl rfl)<|gF 3 rfl (by kernel_rfl) rfl (aJ (rdR 1 (r:=⟨102,2,(some ⟨g,0,none⟩),1,1,[.slice At s.length ct, .slice Ap l.length cp],false⟩) rfl) underlying22 rfl rfl rfl)<|gF 4 rfl (by kernel_rfl) rfl (dY (v:= .agg #[.slice At s.length ct, .slice none 0 0]) rfl (fun w=>by kernel_rfl))<|gF 5 rfl (by kernel_rfl) rfl (dG (vs:=[.int .i64 k, .int .i64 so, .int .i64 od, .int .i64 sz]) (rdR 0 (r:=⟨27,4,(some ⟨g_1,0,none⟩),1,1,[.int .i64 k, .int .i64 so, .int .i64 od, .int .i64 sz],false⟩) rfl) underlying27 rfl gI rfl rfl (Nat.le_of_ble_eq_true rfl) rfl)<|QV 6 rfl (by kernel_rfl) rfl (aF bEh rfl (Ct.fresh (fun w hw=>aVd (u:=s) ((rdr 2 rfl) w hw) bh_s (by omega) hp hk))) ?_
 rintro _ _ ⟨_,rfl,A_2,c_3,rfl,rfl⟩
 refine⟨.inr fun _ h=>h.right (R':=[_]),?_⟩
 refine gF 7 rfl (by kernel_rfl) rfl (aN rfl)<|gF 8 rfl (by kernel_rfl) rfl (jO rfl rfl)<|gF 9 rfl (by kernel_rfl) rfl (jO rfl rfl)<|gF 10 rfl (by kernel_rfl) rfl (bQ rfl)<|gF 11 rfl (by kernel_rfl) rfl (bQ rfl)<|zX (by kernel_rfl)<|aG<|wq<|wm rfl<|wy (Yl.f (jA rfl rfl) (by decide))<|aA<|aL rfl<|aK<|aG ?_
 refine wq<|wm rfl<|wy (aQ underlying22 rfl)<|wy (Yl.f (dV rfl rfl))<|aA<|aL rfl<|aK<|wq<|wm rfl<|wm rfl<|wy (dY (v:= .agg #[.int .i64 3, .int .i64 0]) rfl (fun w=>by kernel_rfl))<|wa (aF aVg rfl (Ct.pick [2,4,0,1,3] 5 (by decide) rfl (vL rfl (by omega)))) ?_
 rintro _ _ ⟨A_4,c_5,rfl,rfl⟩
 refine wg rfl<|aA<|aT [0,2,1] 5 (by decide) rfl ?_
 refine⟨_,rfl,?_⟩
 exact⟨_,_,_,_,rfl,rfl⟩
set_option maxRecDepth 100000 in
theorem aAg (hnt:nt=s.length) (hnp:np=l.length):
  Ct Tryz.prog 30 #[.pointer (some ⟨g,0,none⟩), .agg #[.int .i64 6, .slice Ad nd cd, .int .i64 N, .int .i64 3, .int .i64 so, .int .i64 od, .int .i64 sz]] B w0 (⟨102,2,(some ⟨g,0,none⟩),1,1,[.slice At nt ct, .slice Ap np cp],false⟩::⟨5,1,At,nt,ct,ints .u8 s,false⟩::⟨106,2,Ap,np,cp,prs l,false⟩::R) (fun v R'=>v= .int .i64 1∧R'=⟨102,2,(some ⟨g,0,none⟩),1,1,[.slice At nt ct, .slice Ap np cp],false⟩::⟨5,1,At,nt,ct,ints .u8 s,false⟩::⟨106,2,Ap,np,cp,prs l,false⟩::R):=by
 subst hnt
 subst hnp
 refine fn1 Tryz.func30 rfl rfl rfl ?_
 refine wq<|wa (bX (sz:=7) rfl rfl) ?_
 rintro _ _ ⟨g_1,rfl,rfl⟩
 refine wg rfl<|aA<|aG<|wq<|wm rfl<|wy (cZ underlying49 rfl rfl)<|aA<|aL rfl<|aK<|aG<|wq<|wy (aB (off:=0) (m:=0) underlying56 rfl sz3 rfl rfl rfl)<|wy (aJ (rdR 0 (r:=⟨56,7,(some ⟨g_1,0,none⟩),1,1,[.int .i64 6, .slice Ad nd cd, .int .i64 N, .int .i64 3, .int .i64 so, .int .i64 od, .int .i64 sz],false⟩) rfl) underlying3 rfl rfl rfl) ?_
 refine aA<|aI<|wq<|wy (Yl.f (bC rfl rfl) (by decide))<|wg rfl<|aA<|aL rfl<|wq<|wy (Yl.f (bC rfl rfl) (by decide))<|wg rfl<|aA<|aL rfl<|aG ?_
 refine aM<|wy (Yl.f (bC rfl rfl) (by decide))<|wg rfl<|aA<|aL rfl<|wq<|wy (Yl.t (bC rfl rfl) (by decide))<|wg rfl<|aA<|bO rfl<|wq<|wm rfl<|wy (aB (off:=3) (m:=3) underlying56 rfl gI rfl rfl rfl) ?_
 refine wy (dG (vs:=[.int .i64 3, .int .i64 so, .int .i64 od, .int .i64 sz]) (rdR 0 (r:=⟨56,7,(some ⟨g_1,0,none⟩),1,1,[.int .i64 6, .slice Ad nd cd, .int .i64 N, .int .i64 3, .int .i64 so, .int .i64 od, .int .i64 sz],false⟩) rfl) underlying27 rfl gI rfl rfl (Nat.le_of_ble_eq_true rfl) rfl)<|wa (aF bAe rfl (Ct.pick [1,2,3,0] 4 (by decide) rfl (aBb rfl rfl))) ?_
 rintro _ _ ⟨rfl,rfl⟩
 refine wg rfl<|aA<|aT [0,1,2] 4 (by decide) rfl ?_
 refine⟨_,rfl,?_⟩
 exact⟨rfl,rfl⟩
set_option maxRecDepth 100000 in
theorem aAh (hnt:nt=s.length) (hnp:np=l.length) (h3:k≠3) (hno: ¬((0≤k∧k≤3)∧(0≤so∧so≤2)∧(od=0∨od=1)∧(1≤sz∧sz≤16777216))):
  Ct Tryz.prog 30 #[.pointer (some ⟨g,0,none⟩), .agg #[.int .i64 6, .slice Ad nd cd, .int .i64 N, .int .i64 k, .int .i64 so, .int .i64 od, .int .i64 sz]] B w0 (⟨102,2,(some ⟨g,0,none⟩),1,1,[.slice At nt ct, .slice Ap np cp],false⟩::⟨5,1,At,nt,ct,ints .u8 s,false⟩::⟨106,2,Ap,np,cp,prs l,false⟩::R) (fun v R'=>v= .int .i64 1∧R'=⟨102,2,(some ⟨g,0,none⟩),1,1,[.slice At nt ct, .slice Ap np cp],false⟩::⟨5,1,At,nt,ct,ints .u8 s,false⟩::⟨106,2,Ap,np,cp,prs l,false⟩::R):=by
 subst hnt
 subst hnp
 refine fn1 Tryz.func30 rfl rfl rfl ?_
 refine wq<|wa (bX (sz:=7) rfl rfl) ?_
 rintro _ _ ⟨g_1,rfl,rfl⟩
 refine wg rfl<|aA<|aG<|wq<|wm rfl<|wy (cZ underlying49 rfl rfl)<|aA<|aL rfl<|aK<|aG<|wq<|wy (aB (off:=0) (m:=0) underlying56 rfl sz3 rfl rfl rfl)<|wy (aJ (rdR 0 (r:=⟨56,7,(some ⟨g_1,0,none⟩),1,1,[.int .i64 6, .slice Ad nd cd, .int .i64 N, .int .i64 k, .int .i64 so, .int .i64 od, .int .i64 sz],false⟩) rfl) underlying3 rfl rfl rfl) ?_
 refine aA<|aI<|wq<|wy (Yl.f (bC rfl rfl) (by decide))<|wg rfl<|aA<|aL rfl<|wq<|wy (Yl.f (bC rfl rfl) (by decide))<|wg rfl<|aA<|aL rfl<|aG ?_
 refine aM<|wy (Yl.f (bC rfl rfl) (by decide))<|wg rfl<|aA<|aL rfl<|wq<|wy (Yl.t (bC rfl rfl) (by decide))<|wg rfl<|aA<|bO rfl<|wq<|wm rfl<|wy (aB (off:=3) (m:=3) underlying56 rfl gI rfl rfl rfl) ?_
 refine wy (dG (vs:=[.int .i64 k, .int .i64 so, .int .i64 od, .int .i64 sz]) (rdR 0 (r:=⟨56,7,(some ⟨g_1,0,none⟩),1,1,[.int .i64 6, .slice Ad nd cd, .int .i64 N, .int .i64 k, .int .i64 so, .int .i64 od, .int .i64 sz],false⟩) rfl) underlying27 rfl gI rfl rfl (Nat.le_of_ble_eq_true rfl) rfl)<|wa (aF bAe rfl (Ct.pick [1,2,3,0] 4 (by decide) rfl (aBc rfl rfl h3 hno))) ?_
 rintro _ _ ⟨rfl,rfl⟩
 refine wg rfl<|aA<|aT [0,1,2] 4 (by decide) rfl ?_
 refine⟨_,rfl,?_⟩
 exact⟨rfl,rfl⟩
set_option maxRecDepth 100000 in
theorem aAf (hnt:nt=s.length) (hnp:np=l.length) (bh_s:aO s) (hN:s.length≤120) (hl:l.length≤1000) (hp:(0≤so∧so≤2)∧(od=0∨od=1)∧(1≤sz∧sz≤16777216)) (hk:k=0∨k=1∨k=2):
  Ct Tryz.prog 30 #[.pointer (some ⟨g,0,none⟩), .agg #[.int .i64 6, .slice Ad nd cd, .int .i64 N, .int .i64 k, .int .i64 so, .int .i64 od, .int .i64 sz]] B w0 (⟨102,2,(some ⟨g,0,none⟩),1,1,[.slice At nt ct, .slice Ap np cp],false⟩::⟨5,1,At,nt,ct,ints .u8 s,false⟩::⟨106,2,Ap,np,cp,prs l,false⟩::R) (fun v R'=> ∃(A8:Option Addr) (c8:Nat) (A7:Option Addr) (c7:Nat),v= .int .i64 0∧R'=⟨102,2,(some ⟨g,0,none⟩),1,1,[.slice A8 ((nR k so od sz s).length) c8, .slice A7 ((l++[(3,0)]).length) c7],false⟩::⟨5,1,A8,(nR k so od sz s).length,c8,ints .u8 (nR k so od sz s),false⟩::⟨106,2,A7,(l++[(3,0)]).length,c7,prs (l++[(3,0)]),false⟩::R):=by
 subst hnt
 subst hnp
 refine fn1 Tryz.func30 rfl rfl rfl ?_
 refine wq<|wa (bX (sz:=7) rfl rfl) ?_
 rintro _ _ ⟨g_1,rfl,rfl⟩
 refine wg rfl<|aA<|aG<|wq<|wm rfl<|wy (cZ underlying49 rfl rfl)<|aA<|aL rfl<|aK<|aG<|wq<|wy (aB (off:=0) (m:=0) underlying56 rfl sz3 rfl rfl rfl)<|wy (aJ (rdR 0 (r:=⟨56,7,(some ⟨g_1,0,none⟩),1,1,[.int .i64 6, .slice Ad nd cd, .int .i64 N, .int .i64 k, .int .i64 so, .int .i64 od, .int .i64 sz],false⟩) rfl) underlying3 rfl rfl rfl) ?_
 refine aA<|aI<|wq<|wy (Yl.f (bC rfl rfl) (by decide))<|wg rfl<|aA<|aL rfl<|wq<|wy (Yl.f (bC rfl rfl) (by decide))<|wg rfl<|aA<|aL rfl<|aG ?_
 refine aM<|wy (Yl.f (bC rfl rfl) (by decide))<|wg rfl<|aA<|aL rfl<|wq<|wy (Yl.t (bC rfl rfl) (by decide))<|wg rfl<|aA<|bO rfl<|wq<|wm rfl<|wy (aB (off:=3) (m:=3) underlying56 rfl gI rfl rfl rfl) ?_
 refine wy (dG (vs:=[.int .i64 k, .int .i64 so, .int .i64 od, .int .i64 sz]) (rdR 0 (r:=⟨56,7,(some ⟨g_1,0,none⟩),1,1,[.int .i64 6, .slice Ad nd cd, .int .i64 N, .int .i64 k, .int .i64 so, .int .i64 od, .int .i64 sz],false⟩) rfl) underlying27 rfl gI rfl rfl (Nat.le_of_ble_eq_true rfl) rfl)<|wa (aF bAe rfl (Ct.pick [1,2,3,0] 4 (by decide) rfl (aBa rfl rfl bh_s hN hl hp hk))) ?_
 rintro _ _ ⟨A_2,c_3,A_4,c_5,rfl,rfl⟩
 refine wg rfl<|aA<|aT [0,1,2] 4 (by decide) rfl ?_
 refine⟨_,rfl,?_⟩
 exact⟨_,_,_,_,rfl,rfl⟩
set_option maxRecDepth 100000 in
theorem VO (hnt:nt=s.length) (hnp:np=l.length) (hk:N≠1∧N≠2):
  Ct Tryz.prog 30 #[.pointer (some ⟨g,0,none⟩), .agg #[.int .i64 2, .slice Ad nd cd, .int .i64 N, .int .i64 k, .int .i64 so, .int .i64 od, .int .i64 sz]] B w0 (⟨102,2,(some ⟨g,0,none⟩),1,1,[.slice At nt ct, .slice Ap np cp],false⟩::⟨5,1,At,nt,ct,ints .u8 s,false⟩::⟨106,2,Ap,np,cp,prs l,false⟩::R) (fun v R'=>v= .int .i64 1∧R'=⟨102,2,(some ⟨g,0,none⟩),1,1,[.slice At nt ct, .slice Ap np cp],false⟩::⟨5,1,At,nt,ct,ints .u8 s,false⟩::⟨106,2,Ap,np,cp,prs l,false⟩::R):=by
 subst hnt
 subst hnp
 refine fn1 Tryz.func30 rfl rfl rfl ?_
 refine wq<|wa (bX (sz:=7) rfl rfl) ?_
 rintro _ _ ⟨g_1,rfl,rfl⟩
 refine wg rfl<|aA<|aG<|wq<|wm rfl<|wy (cZ underlying49 rfl rfl)<|aA<|aL rfl<|aK<|aG<|wq<|wy (aB (off:=0) (m:=0) underlying56 rfl sz3 rfl rfl rfl)<|wy (aJ (rdR 0 (r:=⟨56,7,(some ⟨g_1,0,none⟩),1,1,[.int .i64 2, .slice Ad nd cd, .int .i64 N, .int .i64 k, .int .i64 so, .int .i64 od, .int .i64 sz],false⟩) rfl) underlying3 rfl rfl rfl) ?_
 refine aA<|aI<|wq<|wy (Yl.f (bC rfl rfl) (by decide))<|wg rfl<|aA<|aL rfl<|wq<|wy (Yl.t (bC rfl rfl) (by decide))<|wg rfl<|aA<|bO rfl<|aG ?_
 refine aM<|wm rfl<|wy (aB (off:=2) (m:=2) underlying56 rfl sz3 rfl rfl rfl)<|wy (aJ (rdR 0 (r:=⟨56,7,(some ⟨g_1,0,none⟩),1,1,[.int .i64 2, .slice Ad nd cd, .int .i64 N, .int .i64 k, .int .i64 so, .int .i64 od, .int .i64 sz],false⟩) rfl) underlying3 rfl rfl rfl)<|wa (aF bAf rfl (Ct.pick [1,2,3,0] 4 (by decide) rfl (RQ rfl rfl hk))) ?_
 rintro _ _ ⟨rfl,rfl⟩
 refine wg rfl<|aA<|aT [0,1,2] 4 (by decide) rfl ?_
 refine⟨_,rfl,?_⟩
 exact⟨rfl,rfl⟩
set_option maxRecDepth 100000 in
theorem aAe {K:Int} (hnt:nt=s.length) (hnp:np=l.length) (hK:K<1∨7<K):
  Ct Tryz.prog 30 #[.pointer (some ⟨g,0,none⟩), .agg #[.int .i64 K, .slice Ad nd cd, .int .i64 N, .int .i64 k, .int .i64 so, .int .i64 od, .int .i64 sz]] B w0 (⟨102,2,(some ⟨g,0,none⟩),1,1,[.slice At nt ct, .slice Ap np cp],false⟩::⟨5,1,At,nt,ct,ints .u8 s,false⟩::⟨106,2,Ap,np,cp,prs l,false⟩::R) (fun v R'=>v= .int .i64 1∧R'=⟨102,2,(some ⟨g,0,none⟩),1,1,[.slice At nt ct, .slice Ap np cp],false⟩::⟨5,1,At,nt,ct,ints .u8 s,false⟩::⟨106,2,Ap,np,cp,prs l,false⟩::R):=by
 subst hnt
 subst hnp
 refine fn1 Tryz.func30 rfl rfl rfl ?_
 refine wq<|wa (bX (sz:=7) rfl rfl) ?_
 rintro _ _ ⟨g_1,rfl,rfl⟩
 refine wg rfl<|aA<|aG<|wq<|wm rfl<|wy (cZ underlying49 rfl rfl)<|aA<|aL rfl<|aK<|aG<|wq<|wy (aB (off:=0) (m:=0) underlying56 rfl sz3 rfl rfl rfl)<|wy (aJ (rdR 0 (r:=⟨56,7,(some ⟨g_1,0,none⟩),1,1,[.int .i64 K, .slice Ad nd cd, .int .i64 N, .int .i64 k, .int .i64 so, .int .i64 od, .int .i64 sz],false⟩) rfl) underlying3 rfl rfl rfl) ?_
 refine aA<|aI<|wq<|wy (Yl.f (bC rfl rfl))<|wg rfl<|aA<|aL rfl<|wq<|wy (Yl.f (bC rfl rfl))<|wg rfl<|aA<|aL rfl<|aG ?_
 refine aM<|wy (Yl.f (bC rfl rfl))<|wg rfl<|aA<|aL rfl<|wq<|wy (Yl.f (bC rfl rfl))<|wg rfl<|aA<|aL rfl<|wq<|wy (Yl.f (bC rfl rfl))<|wg rfl ?_
 refine aA<|aL rfl<|wq<|wy (Yl.f (bC rfl rfl))<|wg rfl<|aA<|aL rfl<|wq<|wy (Yl.f (bC rfl rfl))<|wg rfl<|aA<|aL rfl<|aK ?_
 refine wq<|wg rfl<|aA<|aT [1,2,3] 4 (by decide) rfl ?_
 refine⟨_,rfl,?_⟩
 exact⟨rfl,rfl⟩
variable {B g nt ct np cp nd cd:Nat} {w0:World} {R:List Row} {At Ap Ad:Option Addr} {s base:List Int} {l:List (Int × Int)} {K N k so od sz:Int}
abbrev DK (g:Nat) (At:Option Addr) (nt ct:Nat) (Ap:Option Addr) (np cp:Nat) (s:List Int) (l:List (Int × Int)) (R:List Row):List Row:=⟨102,2,some ⟨g,0,none⟩,1,1,[.slice At nt ct, .slice Ap np cp],false⟩::⟨5,1,At,nt,ct,ints .u8 s,false⟩::⟨106,2,Ap,np,cp,prs l,false⟩::R
set_option maxHeartbeats 1000000 in
theorem aPz (hnt:nt=s.length) (hnp:np=l.length) (hU:Und base l s) (bh_s:aO s) (hN:s.length≤120) (hl:l.length≤100) (hK:K≠1):
  Ct Tryz.prog 30 #[.pointer (some ⟨g,0,none⟩), .agg #[.int .i64 K, .slice Ad nd cd, .int .i64 N, .int .i64 k, .int .i64 so, .int .i64 od, .int .i64 sz]] B w0 (DK g At nt ct Ap np cp s l R) (fun v R'=> ∃(e:Int) (A8:Option Addr) (c8:Nat) (s':List Int) (A7:Option Addr) (c7:Nat) (l':List (Int × Int)),v= .int .i64 e∧R'=DK g A8 s'.length c8 A7 l'.length c7 s' l' R∧Und base l' s'∧aO s'∧s'.length≤40000∧l'.length≤l.length+1∧(e≠0→s'=s∧l'=l)):=by
 subst hnt;subst hnp
 have stay: ∀e:Int,e≠0→ ∀(v:Value) (R':List Row),v= .int .i64 e→R'=DK g At s.length ct Ap l.length cp s l R→ ∃(e:Int) (A8:Option Addr) (c8:Nat) (s':List Int) (A7:Option Addr) (c7:Nat) (l':List (Int × Int)),v= .int .i64 e∧R'=DK g A8 s'.length c8 A7 l'.length c7 s' l' R∧Und base l' s'∧aO s'∧s'.length≤40000∧l'.length≤l.length+1∧(e≠0→s'=s∧l'=l):=fun e he v R' h1 h2=>⟨e,At,ct,s,Ap,cp,l,h1,h2,hU,bh_s,by omega,by omega,fun _=>⟨rfl,rfl⟩⟩
 have hc:(K<1∨7<K)∨K=2∨K=3∨K=4∨K=5∨K=6∨K=7:=by omega
 rcases hc with h|rfl|rfl|rfl|rfl|rfl|rfl
 ·exact(aAe rfl rfl h).mono fun v R' ⟨a,b⟩=>stay 1 (by decide) v R' a b
 ·by_cases n1:N=1
  ·subst n1
   refine(aAd rfl rfl bh_s (by omega) (by omega)).mono ?_
   rintro v R' ⟨b,hb,A8,c8,A7,c7,rfl,rfl⟩
   exact⟨0,A8,c8,ofL s b,A7,c7,_,rfl,rfl,hU.add bh_s hN (.inl ⟨rfl,tF bh_s hb.1 hb.2⟩),vJ bh_s hb.1,by rw[(yL hb.1 hb.2).length_eq];omega,by rw[List.length_append];exact Nat.le_refl _,fun h=>absurd rfl h⟩
  by_cases n2:N=2
  ·subst n2
   refine(aAc rfl rfl bh_s (by omega) (by omega)).mono ?_
   rintro v R' ⟨T,hT,A8,c8,A7,c7,rfl,rfl⟩
   exact⟨0,A8,c8,T.map (lastB (bws s)),A7,c7,_,rfl,by rw[List.length_map],hU.add bh_s hN (.inr (.inl ⟨rfl,NZ bh_s hT.1 hT.2⟩)),lC hT.1 (by rw[nK];exact bh_s),by rw[List.length_map,zO hT.1];omega,by rw[List.length_append];exact Nat.le_refl _,fun h=>absurd rfl h⟩
  exact(VO rfl rfl ⟨n1,n2⟩).mono fun v R' ⟨a,b⟩=>stay 1 (by decide) v R' a b
 ·rcases hU.inv with⟨rfl,_⟩|⟨l0,K',at_,s0,rfl,h1,h2,h3,h4⟩
  ·exact(VR (s:=s)).mono fun v R' ⟨a,b⟩=>stay 6 (by decide) v R' a b
  have hl':l0.length≤1000:=by rw[List.length_append] at hl;omega
  rcases h4 with⟨rfl,ok,hb⟩|⟨rfl,hb⟩|⟨rfl,hb⟩|⟨rfl,k',so',od',sz',hs,hk,hp⟩
  ·refine (aQg (s0:=s0) (l:=l0) rfl rfl hl' bh_s (by omega) ok hb).mono ?_
   rintro v R' ⟨A8,c8,rfl,rfl⟩
   exact⟨0,A8,c8,s0,Ap,cp,l0,rfl,rfl,h1,h2,by omega,by rw[List.length_append];omega,fun h=>absurd rfl h⟩
  ·refine (aQf (s0:=s0) (l:=l0) rfl rfl hl' bh_s (by omega) hb).mono ?_
   rintro v R' ⟨A8,c8,rfl,rfl⟩
   exact⟨0,A8,c8,s0,Ap,cp,l0,rfl,rfl,h1,h2,by omega,by rw[List.length_append];omega,fun h=>absurd rfl h⟩
  ·exact(VQ rfl rfl hl' (by decide)).mono fun v R' ⟨a,b⟩=>stay 6 (by decide) v R' a b
  ·exact(VQ rfl rfl hl' (by decide)).mono fun v R' ⟨a,b⟩=>stay 6 (by decide) v R' a b
 ·refine (IZ rfl rfl bh_s (by omega) (by omega)).mono ?_
  rintro v R' ⟨A8,c8,A7,c7,rfl,rfl⟩
  exact⟨0,A8,c8,bB aR s,A7,c7,_,rfl,rfl,hU.add bh_s hN (.inr (.inr (.inl ⟨rfl,mJ bh_s⟩))),jK bh_s,by rw[gG];omega,by rw[List.length_append];exact Nat.le_refl _,fun h=>absurd rfl h⟩
 ·rcases hU.inv with⟨rfl,_⟩|⟨l0,K',at_,s0,rfl,h1,h2,h3,h4⟩
  ·exact(aQd (s:=s)).mono fun v R' ⟨a,b⟩=>stay 6 (by decide) v R' a b
  have hl':l0.length≤1000:=by rw[List.length_append] at hl;omega
  rcases h4 with⟨rfl,ok,hb⟩|⟨rfl,hb⟩|⟨rfl,hb⟩|⟨rfl,k',so',od',sz',hs,hk,hp⟩
  ·exact(JB rfl rfl hl' (by decide)).mono fun v R' ⟨a,b⟩=>stay 6 (by decide) v R' a b
  ·exact(JB rfl rfl hl' (by decide)).mono fun v R' ⟨a,b⟩=>stay 6 (by decide) v R' a b
  ·refine (aQe (s0:=s0) (l:=l0) rfl rfl hl' bh_s (by omega) hb).mono ?_
   rintro v R' ⟨A8,c8,rfl,rfl⟩
   exact⟨0,A8,c8,s0,Ap,cp,l0,rfl,rfl,h1,h2,by omega,by rw[List.length_append];omega,fun h=>absurd rfl h⟩
  ·exact(JB rfl rfl hl' (by decide)).mono fun v R' ⟨a,b⟩=>stay 6 (by decide) v R' a b
 ·by_cases k3:k=3
  ·subst k3
   exact(aAg rfl rfl).mono fun v R' ⟨a,b⟩=>stay 1 (by decide) v R' a b
  by_cases hno:((0≤k∧k≤3)∧(0≤so∧so≤2)∧(od=0∨od=1)∧(1≤sz∧sz≤16777216))
  ·have hk:k=0∨k=1∨k=2:=by omega
   refine(aAf rfl rfl bh_s hN (by omega) hno.2 hk).mono ?_
   rintro v R' ⟨A8,c8,A7,c7,rfl,rfl⟩
   exact⟨0,A8,c8,nR k so od sz s,A7,c7,_,rfl,rfl,hU.add bh_s hN (.inr (.inr (.inr ⟨rfl,k,so,od,sz,rfl,hk,hno.2⟩))),(IW bh_s (by omega) (by omega) (by omega) (by omega) (by omega)).1,IV bh_s hN (by omega),by rw[List.length_append];exact Nat.le_refl _,fun h=>absurd rfl h⟩
  exact(aAh rfl rfl k3 hno).mono fun v R' ⟨a,b⟩=>stay 1 (by decide) v R' a b
 ·rcases hU.inv with⟨rfl,_⟩|⟨l0,K',at_,s0,rfl,h1,h2,h3,h4⟩
  ·exact(aQb (s:=s)).mono fun v R' ⟨a,b⟩=>stay 6 (by decide) v R' a b
  have hl':l0.length≤1000:=by rw[List.length_append] at hl;omega
  rcases h4 with⟨rfl,ok,hb⟩|⟨rfl,hb⟩|⟨rfl,hb⟩|⟨rfl,k',so',od',sz',hs,hk,hp⟩
  ·exact(JA rfl rfl hl' (by decide)).mono fun v R' ⟨a,b⟩=>stay 6 (by decide) v R' a b
  ·exact(JA rfl rfl hl' (by decide)).mono fun v R' ⟨a,b⟩=>stay 6 (by decide) v R' a b
  ·exact(JA rfl rfl hl' (by decide)).mono fun v R' ⟨a,b⟩=>stay 6 (by decide) v R' a b
  ·refine (aQc (s0:=s0) (l:=l0) rfl rfl hl' bh_s (by omega) hs h2 (by omega) hk hp).mono ?_
   rintro v R' ⟨A8,c8,rfl,rfl⟩
   exact⟨0,A8,c8,s0,Ap,cp,l0,rfl,rfl,h1,h2,by omega,by rw[List.length_append];omega,fun h=>absurd rfl h⟩
theorem aQa {d:List Int} (hnt:nt=s.length) (hnp:np=l.length) (hU:Und base l s) (bh_s:aO s) (hN:s.length≤120) (hl:l.length≤100) (hd:RdC B w0 R Ad nd cd 1 (ints .u8 d)) (hnd:nd=d.length) (bd:aO d) (hD:d.length≤40000):
  Ct Tryz.prog 30 #[.pointer (some ⟨g,0,none⟩), .agg #[.int .i64 K, .slice Ad nd cd, .int .i64 N, .int .i64 k, .int .i64 so, .int .i64 od, .int .i64 sz]] B w0 (DK g At nt ct Ap np cp s l R) (fun v R'=> ∃(e:Int) (A8:Option Addr) (c8:Nat) (s':List Int) (A7:Option Addr) (c7:Nat) (l':List (Int × Int)),v= .int .i64 e∧R'=DK g A8 s'.length c8 A7 l'.length c7 s' l' R∧aO s'∧s'.length≤40000∧l'.length≤l.length+1∧(e≠0→s'=s∧l'=l)):=by
 by_cases hK:K=1
 ·subst hK
  refine(VP hnt hnp hd hnd (by omega)).mono ?_
  rintro v R' ⟨A8,c8,rfl,rfl⟩
  exact⟨0,A8,c8,d,none,0,[],rfl,rfl,bd,hD,by simp,fun h=>absurd rfl h⟩
 ·refine (aPz hnt hnp hU bh_s hN hl hK).mono ?_
  rintro v R' ⟨e,A8,c8,s',A7,c7,l',h1,h2,_,h3,h4,h5,h6⟩
  exact⟨e,A8,c8,s',A7,c7,l',h1,h2,h3,h4,h5,h6⟩
set_option maxRecDepth 100000 in
set_option maxHeartbeats 1000000 in
theorem playErrs_ct {w:World} {A_u:Option Addr} {n_u c_u:Nat} {u:List Int} {A_o:Option Addr} {n_o c_o:Nat} {o:List Int} {oK oN o0 o1 o2 o3:Int} (h_u:Rd w A_u n_u c_u 1 (ints .u8 u)) (h_o:Rd w A_o n_o c_o 1 (ints .u8 o)) (bh_u:aO u) (bh_o:aO o):
  Ct Tryz.prog 12 #[.slice A_u n_u c_u, .agg #[.int .i64 oK, .slice A_o n_o c_o, .int .i64 oN, .int .i64 o0, .int .i64 o1, .int .i64 o2, .int .i64 o3]] w.heap.size w [] (fun v R'=>v= .bool true):=by
 obtain rfl:=h_u.lenI
 obtain rfl:=h_o.lenI
 refine fn1 Tryz.func12 rfl rfl rfl ?_
 have m_u:=h_u.max
 have m_o:=h_o.max
 refine wq<|wa (bX (sz:=7) rfl rfl) ?_
 rintro _ _ ⟨g_1,rfl,rfl⟩
 refine wg rfl<|aA<|aG<|wq<|wm rfl<|wy (aQ underlying22 rfl)<|wy (dV rfl rfl)<|wm rfl<|dS 5 [(0, .slice A_u u.length c_u),(3, .pointer (some ⟨g_1,0,none⟩)),(16, .bool (decide ((40<((u.length:Nat):Int))∨(40<((o.length:Nat):Int)))))] [⟨56,7,(some ⟨g_1,0,none⟩),1,1,[.int .i64 oK, .slice A_o o.length c_o, .int .i64 oN, .int .i64 o0, .int .i64 o1, .int .i64 o2, .int .i64 o3],false⟩] ?_ ?_
 ·refine dC 11 rfl (fun hc1=> ?_) (fun hc1=> ?_)
  ·refine aP rfl rfl rfl rfl<|aP rfl rfl rfl rfl<|aP rfl rfl rfl rfl<|aP rfl rfl rfl rfl<|wy (bA rfl rfl)<|aA ?_
   exact⟨(sc rfl (sc rfl (Sub.to rfl (bCd (by first|omega|exact⟨fun h=>⟨by assumption,h⟩,fun h=>h.2⟩|exact .inl (by assumption)|exact⟨.inr,fun h=>h.resolve_left (by assumption)⟩|exact⟨fun h=>h.resolve_left (by assumption), .inr⟩|simp[*])) Sub.nil))),fun _ h=>h⟩
  ·refine aC rfl rfl<|wy (aB (off:=1) (m:=1) underlying56 rfl dO rfl rfl rfl)<|aC rfl rfl<|wy (aJ (rdR 0 (r:=⟨56,7,(some ⟨g_1,0,none⟩),1,1,[.int .i64 oK, .slice A_o o.length c_o, .int .i64 oN, .int .i64 o0, .int .i64 o1, .int .i64 o2, .int .i64 o3],false⟩) rfl) underlying22 rfl rfl rfl)<|aC rfl rfl<|wy (aQ underlying22 rfl)<|aC rfl rfl<|wy (dV rfl rfl)<|wy (aS rfl rfl)<|aA ?_
   exact⟨(sc rfl (sc rfl (Sub.to rfl (mb (by first|omega|exact⟨fun h=>⟨by assumption,h⟩,fun h=>h.2⟩|exact .inl (by assumption)|exact⟨.inr,fun h=>h.resolve_left (by assumption)⟩|exact⟨fun h=>h.resolve_left (by assumption), .inr⟩|simp[*])) Sub.nil))),fun _ h=>h⟩
 refine aA<|bM rfl (fun hc2=> ?_) (fun hc2=> ?_)
 ·refine wq<|wg rfl<|aA<|aT [] 99 (by decide) rfl ?_
  refine⟨_,rfl,?_⟩
  rfl
 ·refine aK<|wq<|wa (aF bDb rfl (Ct.fresh (fun w hw=>TZ))) ?_
  rintro _ _ ⟨_,rfl,g_2,rfl,rfl⟩
  refine wg rfl<|aA<|aG<|wq<|wm rfl<|wy (cZ underlying49 rfl rfl)<|wm rfl<|aC rfl rfl<|wm rfl<|aC rfl rfl<|wm rfl<|aC rfl rfl<|wy (dY (v:= .agg #[.int .i64 1, .slice A_u u.length c_u, .int .i64 0, .int .i64 0, .int .i64 0, .int .i64 0, .int .i64 0]) rfl (fun w=>by kernel_rfl))<|aC rfl rfl ?_
  refine wa (aF aVh rfl ((VP rfl rfl (h_u.c _) rfl (by omega)))) ?_
  rintro _ _ ⟨A_3,c_4,rfl,rfl⟩
  refine aC rfl rfl<|wy (Yl.f (jA rfl rfl) (by decide))<|wy (aS rfl rfl)<|wm rfl<|aC rfl rfl<|wm rfl<|aC rfl rfl<|wy (dY (v:= .agg #[.int .i64 4, .slice none 0 0, .int .i64 0, .int .i64 0, .int .i64 0, .int .i64 0, .int .i64 0]) rfl (fun w=>by kernel_rfl))<|aC rfl rfl<|wa (aF aVh rfl ((IZ rfl rfl bh_u (by omega) (by decide)))) ?_
  rintro _ _ ⟨A_5,c_6,A_7,c_8,rfl,rfl⟩
  refine aC rfl rfl<|wy (Yl.f (jA rfl rfl) (by decide))<|wy (aS rfl rfl)<|aA<|aL rfl<|aK<|aG<|bT mixed<|gF 0 rfl (by kernel_rfl) rfl (aN rfl)<|gF 3 rfl (by kernel_rfl) rfl (aN rfl)<|QV 1 rfl (by kernel_rfl) rfl (aF bAh rfl ((AB rfl rfl (by rw[gG];omega)))) ?_
  rintro _ _ ⟨A_9,c_10,rfl,rfl⟩
  refine⟨.inr fun _ h=>h.right (R':=[_]),?_⟩
  refine gF 2 rfl (by kernel_rfl) rfl (xH underlying22 underlying5 underlying9 rfl (rdr 0 rfl))<|QV 4 rfl (by kernel_rfl) rfl (aF bAg rfl (Ct.pick [1,2,3,0,4] 99 (by decide) rfl (wZ rfl rfl))) ?_
  rintro _ _ ⟨rfl,rfl⟩
  refine⟨.inr fun _ h=>h.pickT [3,0,1,2,4] 99 (by decide) rfl,?_⟩
  refine gF 5 rfl (by kernel_rfl) rfl (bQ rfl)<|gF 6 rfl (by kernel_rfl) rfl (bQ rfl)<|zX (by kernel_rfl)<|aG<|wq<|wm rfl<|wy (dG (vs:=[.int .i64 oK, .slice A_o o.length c_o, .int .i64 oN, .int .i64 o0, .int .i64 o1, .int .i64 o2, .int .i64 o3]) (rdR 4 (r:=⟨56,7,(some ⟨g_1,0,none⟩),1,1,[.int .i64 oK, .slice A_o o.length c_o, .int .i64 oN, .int .i64 o0, .int .i64 o1, .int .i64 o2, .int .i64 o3],false⟩) rfl) underlying56 rfl bFj rfl rfl (Nat.le_of_ble_eq_true rfl) rfl)<|wa (aF aVh rfl ((aQa (base:=u) rfl rfl (Und.nil.add bh_u (by omega) (.inr (.inr (.inl ⟨rfl,mJ bh_u⟩)))) (jK bh_u) (by rw[gG];omega) (by decide) (h_o.c _) rfl bh_o (by omega)))) ?_
  rintro _ _ ⟨e1,A_11,c_12,s1,A_13,c_14,l1,rfl,rfl,hb1,hn1,hl1,he1⟩
  refine wy (jA rfl rfl)<|wm rfl<|dS 12 [(54, .bool false)] [⟨102,2,(some ⟨g_2,0,none⟩),1,1,[.slice A_11 s1.length c_12, .slice A_13 l1.length c_14],false⟩,⟨5,1,A_11,s1.length,c_12,ints .u8 s1,false⟩,⟨106,2,A_13,l1.length,c_14,prs l1,false⟩,⟨5,1,A_9,(bB aR u).length,c_10,ints .u8 (bB aR u),false⟩,⟨56,7,(some ⟨g_1,0,none⟩),1,1,[.int .i64 oK, .slice A_o o.length c_o, .int .i64 oN, .int .i64 o0, .int .i64 o1, .int .i64 o2, .int .i64 o3],false⟩] ?_ ?_
  ·refine dC 42 rfl (fun hc3=> ?_) (fun hc3=> ?_)
   ·refine aC rfl rfl<|wm rfl<|aC rfl rfl<|wa (aF bAh rfl ((AB rfl rfl (by omega)))) ?_
    rintro _ _ ⟨A_15,c_16,rfl,rfl⟩
    refine aC rfl rfl<|wy (xH underlying22 underlying5 underlying9 rfl (rdr 0 rfl))<|aC rfl rfl<|wm rfl<|aC rfl rfl<|wy (Yl.f (aWm rfl rfl hb1 (jK bh_u)) (fun h=>h (he1 (by assumption)).1))<|aC rfl rfl<|wm rfl<|aC rfl rfl<|wm rfl<|aC rfl rfl<|wa (aF bAg rfl (Ct.pick [1,2,3,0,4,5] 99 (by decide) rfl (wZ rfl rfl))) ?_
    rintro _ _ ⟨rfl,rfl⟩
    refine aC rfl rfl<|wm rfl<|aC rfl rfl<|wy (Yl.f (jA rfl rfl) (fun h=>h (by rw[(he1 (by assumption)).2]))) ?_
    refine aC rfl rfl<|wy (aS rfl rfl)<|wy (bA rfl rfl)<|aA ?_
    exact⟨(sc rfl Sub.nil),fun _ h=>h.sel [0,1,2,4,5] (by decide) rfl⟩
   ·refine aP rfl rfl rfl rfl<|aP rfl rfl rfl rfl<|aP rfl rfl rfl rfl<|aP rfl rfl rfl rfl<|aP rfl rfl rfl rfl<|aP rfl rfl rfl rfl<|dX rfl rfl rfl<|dX rfl rfl rfl<|dX rfl rfl rfl<|dX rfl rfl rfl<|aP rfl rfl rfl rfl<|wy (aS rfl rfl)<|aA ?_
    exact⟨(sc rfl Sub.nil),fun _ h=>h⟩
  refine aA<|aL rfl<|aK<|wq<|wa (aF bGe rfl (Ct.quiet (fun w hw=>ZL))) ?_
  rintro _ _ ⟨rfl,rfl⟩
  refine wg rfl<|aA<|aT [] 99 (by decide) rfl ?_
  refine⟨_,rfl,?_⟩
  rfl
end Go.Proofs.YtdbebmmhdefgdaaGreat
namespace Go.Eng
open Go Go.ChangeShapes Go.WideShapes Go.RowKit
theorem array7 {α:Type} {cs:Array α} (h:cs.size=7): ∃c0 c1 c2 c3 c4 c5 c6,cs= #[c0,c1,c2,c3,c4,c5,c6]:=by
 obtain⟨l⟩:=cs
 match l,h with
 |[c0,c1,c2,c3,c4,c5,c6],_=>exact⟨c0,c1,c2,c3,c4,c5,c6,rfl⟩
section
variable {H:Type} {enc:TypeId × Value→H} {P:Program} {w:World} {base:Nat} {spare:Nat→Bool} {held:Bool}
theorem trod_op {t t0 t1 t3:TypeId} {cs:List Value} {c0 c1 c2 c3 c4 c5 c6:Value} {x:DataW H × List MemPlace} {fuel:Nat} {f0 f1 f2 f3 g0 g1 g2 g3:Field} (hs:P.underlying t=some (.struct #[f0,f1,f2,f3])) (hg:P.underlying t3=some (.struct #[g0,g1,g2,g3]))
  (h0:f0.type=t0∧f1.type=t1∧f2.type=t0∧f3.type=t3∧f0.offset=0∧f1.offset=1∧f2.offset=2∧f3.offset=3) (h1:g0.type=t0∧g1.type=t0∧g2.type=t0∧g3.type=t0∧g0.offset=0∧g1.offset=1∧g2.offset=2∧g3.offset=3)
  (z0:P.cellsOf t0=1) (z1:P.cellsOf t1=1) (z3:P.cellsOf t3=4) (hi:P.underlying t0=some (.int .i64)) (hf:DataW.trod enc P w base spare held fuel t [c0,c1,c2,c3,c4,c5,c6]=some x):
  ∃(K N p0 p1 p2 p3:Int) (n:Nat) (y:DataW H × List MemPlace),c0= .int .i64 K∧c2= .int .i64 N∧c3= .int .i64 p0∧c4= .int .i64 p1∧c5= .int .i64 p2∧c6= .int .i64 p3∧DataW.trod enc P w base spare held n t1 [c1]=some y:=by
 obtain⟨y0,y1,y2,y3,n,_,_,k0,k1,k2,k3⟩:=Go.Joins.trod_struct4 hs hf
 obtain⟨a0,a1,a2,a3,b0,b1,b2,b3⟩:=h0
 rw[a0,b0,z0] at k0
 rw[a1,b1,z1] at k1
 rw[a2,b2,z0] at k2
 rw[a3,b3,z3] at k3
 simp only[List.drop_zero,List.drop_succ_cons,List.take_succ_cons,List.take_zero] at k0 k1 k2 k3
 obtain⟨u0,u1,u2,u3,m,_,_,j0,j1,j2,j3⟩:=Go.Joins.trod_struct4 hg k3
 obtain⟨a0,a1,a2,a3,b0,b1,b2,b3⟩:=h1
 rw[a0,b0,z0] at j0
 rw[a1,b1,z0] at j1
 rw[a2,b2,z0] at j2
 rw[a3,b3,z0] at j3
 simp only[List.drop_zero,List.drop_succ_cons,List.take_succ_cons,List.take_zero] at j0 j1 j2 j3
 obtain⟨K,e0,_⟩:=DataW.trod_int hi k0
 obtain⟨N,e2,_⟩:=DataW.trod_int hi k2
 obtain⟨p0,d0,_⟩:=DataW.trod_int hi j0
 obtain⟨p1,d1,_⟩:=DataW.trod_int hi j1
 obtain⟨p2,d2,_⟩:=DataW.trod_int hi j2
 obtain⟨p3,d3,_⟩:=DataW.trod_int hi j3
 simp only[List.cons.injEq,and_true] at e0 e2 d0 d1 d2 d3
 exact⟨K,N,p0,p1,p2,p3,n,y1,e0,e2,d0,d1,d2,d3,k1⟩
end
end Go.Eng

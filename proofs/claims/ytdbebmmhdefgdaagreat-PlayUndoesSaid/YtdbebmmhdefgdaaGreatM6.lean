/- Own work. -/
import Derived.Lib.SmallJoins
import Derived.Deep.Slices
import Derived.Test.YtdbebmmhdefgdaaGreatM5
set_option linter.unusedVariables false
set_option linter.unusedSimpArgs false
namespace Go.Proofs.YtdbebmmhdefgdaaGreat
open Go Go.Eng Go.Pure
open Tryz
set_option maxRecDepth 100000
variable {B g nt ct np cp nd cd:Nat} {w0:World} {R:List Row} {At Ap Ad:Option Addr} {s s0:List Int} {l:List (Int × Int)} {N q0 q1 q2 q3 at_ K:Int}
theorem aQr {d:List Int} (fb:nt=s.length) (fa:np=l.length) (h_d:RdC B w0 R Ad nd cd 1 (ints .u8 d)) (hnd:nd=d.length) (hN:d.length<=100000):
  Ct Tryz.prog 30 #[PG g, .agg #[I 1,sl Ad nd cd,I N,I q0,I q1,I q2,I q3]] B w0 ((rc 102 2 g [sl At nt ct,sl Ap np cp])::(ru 5 At nt ct s)::⟨106,2,Ap,np,cp,prs l,false⟩::R) (λv R'=> ∃(A8:Option Addr) (c8:Nat),v=I 0/\R'=(rc 102 2 g [sl A8 d.length c8,sl none 0 0])::(ru 5 A8 d.length c8 d)::⟨106,2,none,0,0,prs ([]),false⟩::R):=by
 subst fb;subst fa;subst hnd;refine fn1 qb Z Z Z ?_;refine wq<|wa (bY (sz:=7) Z Z) ?_;rintro _ _ ⟨al,rfl,rfl⟩;refine wn Z<|aG<|wq<|wm Z<|wy (dA mf Z Z)<|aA<|aL Z<|aJ<|aG<|wq<|wy (aB (off:=0) (m:=0) jv Z sz3 Z Z Z)<|wy (aK (rdr 0 Z) ak Z Z Z) ?_;refine aA<|aI<|wq<|wy (Yl.t (bC Z Z) cC)<|wn Z<|bO Z<|aG<|wq<|wy (aB (off:=1) (m:=1) jv Z dO Z Z Z)<|wy (aK (rdr 0 Z) ai Z Z Z)<|wy (aQ ai Z)<|wy (Yl.f (dV Z Z)) ?_;refine aA<|aL Z<|aJ<|wq<|wm Z<|wm Z<|wy (aB (off:=1) (m:=1) jv Z dO Z Z Z)<|wy (aK (rdr 0 Z) ai Z Z Z)<|wa (aF VK Z (Ct.fresh (λw hw=>lG ((RdC.right h_d [_,_,_,_]) w hw) G))) ?_;rintro _ _ ⟨_,rfl,dj,dp,rfl,rfl⟩;refine wy (aD Z)<|wy (aB (off:=0) (m:=0) gy Z dO Z Z Z)<|bX (bA 2 Z Z Z dO Z Z Z Z (au Z)) ?_;rintro _ _ rfl;refine wy (aD Z)<|wy (aB (off:=1) (m:=1) gy Z fT Z Z Z)<|bX (bA 2 Z Z Z fT Z Z Z Z (au Z)) ?_;rintro _ _ rfl;refine aA<|wq<|wn Z<|bR (R1:=(rc 102 2 g [sl dj d.length dp,sl none 0 0])::(ru 5 dj d.length dp d)::⟨106,2,none,0,0,prs ([]),false⟩::R) (λ_ h=>Hp.pickT (R:=⟨106,2,none,0,0,prs ([]),false⟩::(rc 102 2 g [sl dj d.length dp,sl none 0 0])::(ru 5 dj d.length dp d)::R) (Hp.nilP (h.pickT [2,0] 5 cC Z) 106) [1,2,0] 3 cC Z) ?_;refine⟨_,Z,?_⟩;exact⟨_,_,Z,Z⟩
theorem aAp (fb:nt=s.length) (fa:np=l.length) (bm:aO s) (hN:s.length<=100000) (hl:l.length<=1000):
  Ct Tryz.prog 30 #[PG g, .agg #[I 4,sl Ad nd cd,I N,I q0,I q1,I q2,I q3]] B w0 ((rc 102 2 g [sl At nt ct,sl Ap np cp])::(ru 5 At nt ct s)::⟨106,2,Ap,np,cp,prs l,false⟩::R) (λv R'=> ∃(A8:Option Addr) (c8:Nat) (A7:Option Addr) (c7:Nat),v=I 0/\R'=(rc 102 2 g [sl A8 ((bB aS s).length) c8,sl A7 ((l++[(2,0)]).length) c7])::(ru 5 A8 ((bB aS s).length) c8 (bB aS s))::⟨106,2,A7,(l++[(2,0)]).length,c7,prs (l++[(2,0)]),false⟩::R):=by
 subst fb;subst fa;refine fn1 qb Z Z Z ?_;refine wq<|wa (bY (sz:=7) Z Z) ?_;rintro _ _ ⟨al,rfl,rfl⟩;refine wn Z<|aG<|wq<|wm Z<|wy (dA mf Z Z)<|aA<|aL Z<|aJ<|aG<|wq<|wy (aB (off:=0) (m:=0) jv Z sz3 Z Z Z)<|wy (aK (rdr 0 Z) ak Z Z Z) ?_;refine aA<|aI<|wq<|wy (Yl.f (bC Z Z) cC)<|wn Z<|aL Z<|wq<|wy (Yl.f (bC Z Z) cC)<|wn Z<|aL Z<|aG ?_;refine aM<|wy (Yl.t (bC Z Z) cC)<|wn Z<|bO Z<|wq<|wm Z<|wm Z<|wy (aD Z)<|wy (aB (off:=0) (m:=0) gy Z dO Z Z Z)<|wy (aK (rdr 1 Z) ai Z Z Z)<|wa (aF bCz Z (Ct.fresh (λw hw=>MX ((rdr 2 Z) w hw) bm G))) ?_;rintro _ _ ⟨_,rfl,dj,dp,rfl,rfl⟩;refine wy (dU (v:= .agg #[I 2,I 0]) Z (λw=>cA))<|wa (aF aVx rfl (Ct.pick [2,4,0,1,3] 5 cC rfl (vP rfl G))) ?_;rintro _ _ ⟨fh,nf,rfl,rfl⟩;refine wn Z<|aT [0,2,1] 5 cC Z ?_;refine⟨_,Z,?_⟩;have e:=iL s aS;rw[<-e];exact⟨_,_,_,_,Z,Z⟩
theorem aAn (fb:nt=s.length) (fa:np=l.length) (bm:aO s) (hN:s.length<=100000) (hl:l.length<=1000):
  Ct Tryz.prog 30 #[PG g, .agg #[I 2,sl Ad nd cd,I 1,I q0,I q1,I q2,I q3]] B w0 ((rc 102 2 g [sl At nt ct,sl Ap np cp])::(ru 5 At nt ct s)::⟨106,2,Ap,np,cp,prs l,false⟩::R) (λv R'=> ∃b:List Int,(b.Perm (iota s.length)/\b.Pairwise (bU s))/\ ∃(A8:Option Addr) (c8:Nat) (A7:Option Addr) (c7:Nat),v=I 0/\R'=(rc 102 2 g [sl A8 ((ofL s b).length) c8,sl A7 ((l++[(0,zat b)]).length) c7])::(ru 5 A8 ((ofL s b).length) c8 (ofL s b))::⟨106,2,A7,(l++[(0,zat b)]).length,c7,prs (l++[(0,zat b)]),false⟩::R):=by
 subst fb;subst fa;refine fn1 qb Z Z Z ?_;refine wq<|wa (bY (sz:=7) Z Z) ?_;rintro _ _ ⟨al,rfl,rfl⟩;refine wn Z<|aG<|wq<|wm Z<|wy (dA mf Z Z)<|aA<|aL Z<|aJ<|aG<|wq<|wy (aB (off:=0) (m:=0) jv Z sz3 Z Z Z)<|wy (aK (rdr 0 Z) ak Z Z Z) ?_;refine aA<|aI<|wq<|wy (Yl.f (bC Z Z) cC)<|wn Z<|aL Z<|wq<|wy (Yl.t (bC Z Z) cC)<|wn Z<|bO Z<|aG ?_;refine aM<|wm Z<|wy (aB (off:=2) (m:=2) jv Z sz3 Z Z Z)<|wy (aK (rdr 0 Z) ak Z Z Z)<|wa (aF bAv Z (Ct.pick [1,2,3,0] 4 cC Z (RZ Z Z bm hN hl))) ?_;rintro _ _ ⟨b1,sk,dj,dp,kd,km,rfl,rfl⟩;refine wn Z<|aT [0,1,2] 4 cC Z ?_;refine⟨_,Z,?_⟩;exact⟨b1,sk,_,_,_,_,Z,Z⟩
theorem aAm (fb:nt=s.length) (fa:np=l.length) (bm:aO s) (hN:s.length<=100000) (hl:l.length<=1000):
  Ct Tryz.prog 30 #[PG g, .agg #[I 2,sl Ad nd cd,I 2,I q0,I q1,I q2,I q3]] B w0 ((rc 102 2 g [sl At nt ct,sl Ap np cp])::(ru 5 At nt ct s)::⟨106,2,Ap,np,cp,prs l,false⟩::R) (λv R'=> ∃T:List (Int × Int),(T.Perm (iI (bws s) (bws s).length)/\T.Pairwise (pR (bws s)))/\ ∃(A8:Option Addr) (c8:Nat) (A7:Option Addr) (c7:Nat),v=I 0/\R'=(rc 102 2 g [sl A8 T.length c8,sl A7 ((l++[(1,0)]).length) c7])::(ru 5 A8 T.length c8 (T.map (lastB (bws s))))::⟨106,2,A7,(l++[(1,0)]).length,c7,prs (l++[(1,0)]),false⟩::R):=by
 subst fb;subst fa;refine fn1 qb Z Z Z ?_;refine wq<|wa (bY (sz:=7) Z Z) ?_;rintro _ _ ⟨al,rfl,rfl⟩;refine wn Z<|aG<|wq<|wm Z<|wy (dA mf Z Z)<|aA<|aL Z<|aJ<|aG<|wq<|wy (aB (off:=0) (m:=0) jv Z sz3 Z Z Z)<|wy (aK (rdr 0 Z) ak Z Z Z) ?_;refine aA<|aI<|wq<|wy (Yl.f (bC Z Z) cC)<|wn Z<|aL Z<|wq<|wy (Yl.t (bC Z Z) cC)<|wn Z<|bO Z<|aG ?_;refine aM<|wm Z<|wy (aB (off:=2) (m:=2) jv Z sz3 Z Z Z)<|wy (aK (rdr 0 Z) ak Z Z Z)<|wa (aF bAv Z (Ct.pick [1,2,3,0] 4 cC Z (RY Z Z bm hN hl))) ?_;rintro _ _ ⟨T1,hT1,dj,dp,kd,km,rfl,rfl⟩;refine wn Z<|aT [0,1,2] 4 cC Z ?_;refine⟨_,Z,?_⟩;exact⟨T1,hT1,_,_,_,_,Z,Z⟩
theorem WA (fb:nt=s.length) (fa:np=(l++[(0,at_)]).length) (hl:l.length<=1000) (bm:aO s) (hN:s.length<=100000) (cx:aKl s at_) (hb:lI s at_=s0):
  Ct Tryz.prog 30 #[PG g, .agg #[I 3,sl Ad nd cd,I N,I q0,I q1,I q2,I q3]] B w0 ((rc 102 2 g [sl At nt ct,sl Ap ((l++[(0,at_)]).length) cp])::(ru 5 At nt ct s)::⟨106,2,Ap,np,cp,prs (l++[(0,at_)]),false⟩::R) (λv R'=> ∃(A8:Option Addr) (c8:Nat),v=I 0/\R'=(rc 102 2 g [sl A8 s0.length c8,sl Ap l.length cp])::(ru 5 A8 s0.length c8 s0)::⟨106,2,Ap,l.length,cp,prs l,false⟩::R):=by
 subst fb;subst fa;refine fn1 qb Z Z Z ?_;refine wq<|wa (bY (sz:=7) Z Z) ?_;rintro _ _ ⟨al,rfl,rfl⟩;refine wn Z<|aG<|wq<|wm Z<|wy (dA mf Z Z)<|aA<|aL Z<|aJ<|aG<|wq<|wy (aB (off:=0) (m:=0) jv Z sz3 Z Z Z)<|wy (aK (rdr 0 Z) ak Z Z Z) ?_;refine aA<|aI<|wq<|wy (Yl.f (bC Z Z) cC)<|wn Z<|aL Z<|wq<|wy (Yl.f (bC Z Z) cC)<|wn Z<|aL Z<|aG ?_;refine aM<|wy (Yl.f (bC Z Z) cC)<|wn Z<|aL Z<|wq<|wy (Yl.f (bC Z Z) cC)<|wn Z<|aL Z<|wq<|wy (Yl.t (bC Z Z) cC)<|wg Z ?_;refine aA<|bO Z<|wq<|wm Z<|wa (bS .i64 [0,1] aa zs3 Z Z Z) ?_;rintro _ _ ⟨dq,rfl,rfl⟩;refine wa (aF KU Z (Ct.pick [2,3,4,0,1] 5 cC Z (RN Z (rdr 0 Z) Z Z cD ⟨hl,cC⟩ bm hN cx hb))) ?_;rintro _ _ ⟨kd,km,rfl,rfl⟩;refine wn Z<|aT [0,1,2] 5 cC Z ?_;refine⟨_,Z,?_⟩;exact⟨_,_,Z,Z⟩
theorem VZ (fb:nt=s.length) (fa:np=(l++[(1,at_)]).length) (hl:l.length<=1000) (bm:aO s) (hN:s.length<=100000) (hb:backL s (dX (fsL s))=s0):
  Ct Tryz.prog 30 #[PG g, .agg #[I 3,sl Ad nd cd,I N,I q0,I q1,I q2,I q3]] B w0 ((rc 102 2 g [sl At nt ct,sl Ap ((l++[(1,at_)]).length) cp])::(ru 5 At nt ct s)::⟨106,2,Ap,np,cp,prs (l++[(1,at_)]),false⟩::R) (λv R'=> ∃(A8:Option Addr) (c8:Nat),v=I 0/\R'=(rc 102 2 g [sl A8 s0.length c8,sl Ap l.length cp])::(ru 5 A8 s0.length c8 s0)::⟨106,2,Ap,l.length,cp,prs l,false⟩::R):=by
 subst fb;subst fa;refine fn1 qb Z Z Z ?_;refine wq<|wa (bY (sz:=7) Z Z) ?_;rintro _ _ ⟨al,rfl,rfl⟩;refine wn Z<|aG<|wq<|wm Z<|wy (dA mf Z Z)<|aA<|aL Z<|aJ<|aG<|wq<|wy (aB (off:=0) (m:=0) jv Z sz3 Z Z Z)<|wy (aK (rdr 0 Z) ak Z Z Z) ?_;refine aA<|aI<|wq<|wy (Yl.f (bC Z Z) cC)<|wn Z<|aL Z<|wq<|wy (Yl.f (bC Z Z) cC)<|wn Z<|aL Z<|aG ?_;refine aM<|wy (Yl.f (bC Z Z) cC)<|wn Z<|aL Z<|wq<|wy (Yl.f (bC Z Z) cC)<|wn Z<|aL Z<|wq<|wy (Yl.t (bC Z Z) cC)<|wg Z ?_;refine aA<|bO Z<|wq<|wm Z<|wa (bS .i64 [0,1] aa zs3 Z Z Z) ?_;rintro _ _ ⟨dq,rfl,rfl⟩;refine wa (aF KU Z (Ct.pick [2,3,4,0,1] 5 cC Z (RL Z (rdr 0 Z) Z Z cD ⟨hl,cC⟩ bm hN hb))) ?_;rintro _ _ ⟨kd,km,rfl,rfl⟩;refine wn Z<|aT [0,1,2] 5 cC Z ?_;refine⟨_,Z,?_⟩;exact⟨_,_,Z,Z⟩
theorem VX (fb:nt=s.length) (fa:np=(l++[(2,at_)]).length) (hl:l.length<=1000) (bm:aO s) (hN:s.length<=100000) (hb:jV aS s=s0):
  Ct Tryz.prog 30 #[PG g, .agg #[I 5,sl Ad nd cd,I N,I q0,I q1,I q2,I q3]] B w0 ((rc 102 2 g [sl At nt ct,sl Ap ((l++[(2,at_)]).length) cp])::(ru 5 At nt ct s)::⟨106,2,Ap,np,cp,prs (l++[(2,at_)]),false⟩::R) (λv R'=> ∃(A8:Option Addr) (c8:Nat),v=I 0/\R'=(rc 102 2 g [sl A8 s0.length c8,sl Ap l.length cp])::(ru 5 A8 s0.length c8 s0)::⟨106,2,Ap,l.length,cp,prs l,false⟩::R):=by
 subst fb;subst fa;refine fn1 qb Z Z Z ?_;refine wq<|wa (bY (sz:=7) Z Z) ?_;rintro _ _ ⟨al,rfl,rfl⟩;refine wn Z<|aG<|wq<|wm Z<|wy (dA mf Z Z)<|aA<|aL Z<|aJ<|aG<|wq<|wy (aB (off:=0) (m:=0) jv Z sz3 Z Z Z)<|wy (aK (rdr 0 Z) ak Z Z Z) ?_;refine aA<|aI<|wq<|wy (Yl.f (bC Z Z) cC)<|wn Z<|aL Z<|wq<|wy (Yl.f (bC Z Z) cC)<|wn Z<|aL Z<|aG ?_;refine aM<|wy (Yl.f (bC Z Z) cC)<|wn Z<|aL Z<|wq<|wy (Yl.f (bC Z Z) cC)<|wn Z<|aL Z<|wq<|wy (Yl.f (bC Z Z) cC)<|wg Z ?_;refine aA<|aL Z<|wq<|wy (Yl.t (bC Z Z) cC)<|wn Z<|bO Z<|wq<|wm Z<|wa (bS .i64 [2] aa zs3 Z Z Z) ?_;rintro _ _ ⟨dq,rfl,rfl⟩;refine wa (aF KU Z (Ct.pick [2,3,4,0,1] 5 cC Z (RJ Z (rdr 0 Z) Z Z cD ⟨hl,cC⟩ bm hN hb))) ?_;rintro _ _ ⟨kd,km,rfl,rfl⟩;refine wn Z<|aT [0,1,2] 5 cC Z ?_;refine⟨_,Z,?_⟩;exact⟨_,_,Z,Z⟩
theorem VW {k so od sz:Int} (fb:nt=s.length) (fa:np=(l++[(3,at_)]).length) (hl:l.length<=1000) (bm:aO s) (hN:s.length<=100000) (hu:s=nR k so od sz s0) (ux:aO s0) (hS:s0.length<=400) (hk:k=0\/k=1\/k=2) (hp:(0<=so/\so<=2)/\(od=0\/od=1)/\(1<=sz/\sz<=16777216)):
  Ct Tryz.prog 30 #[PG g, .agg #[I 7,sl Ad nd cd,I N,I q0,I q1,I q2,I q3]] B w0 ((rc 102 2 g [sl At nt ct,sl Ap ((l++[(3,at_)]).length) cp])::(ru 5 At nt ct s)::⟨106,2,Ap,np,cp,prs (l++[(3,at_)]),false⟩::R) (λv R'=> ∃(A8:Option Addr) (c8:Nat),v=I 0/\R'=(rc 102 2 g [sl A8 s0.length c8,sl Ap l.length cp])::(ru 5 A8 s0.length c8 s0)::⟨106,2,Ap,l.length,cp,prs l,false⟩::R):=by
 subst fb;subst fa;refine fn1 qb Z Z Z ?_;refine wq<|wa (bY (sz:=7) Z Z) ?_;rintro _ _ ⟨al,rfl,rfl⟩;refine wn Z<|aG<|wq<|wm Z<|wy (dA mf Z Z)<|aA<|aL Z<|aJ<|aG<|wq<|wy (aB (off:=0) (m:=0) jv Z sz3 Z Z Z)<|wy (aK (rdr 0 Z) ak Z Z Z) ?_;refine aA<|aI<|wq<|wy (Yl.f (bC Z Z) cC)<|wn Z<|aL Z<|wq<|wy (Yl.f (bC Z Z) cC)<|wn Z<|aL Z<|aG ?_;refine aM<|wy (Yl.f (bC Z Z) cC)<|wn Z<|aL Z<|wq<|wy (Yl.f (bC Z Z) cC)<|wn Z<|aL Z<|wq<|wy (Yl.f (bC Z Z) cC)<|wg Z ?_;refine aA<|aL Z<|wq<|wy (Yl.f (bC Z Z) cC)<|wn Z<|aL Z<|wq<|wy (Yl.t (bC Z Z) cC)<|wn Z<|bO Z<|aG ?_;refine aM<|wm Z<|wa (bS .i64 [3] aa zs3 Z Z Z) ?_;rintro _ _ ⟨dq,rfl,rfl⟩;refine wa (aF KU Z (Ct.pick [2,3,4,0,1] 5 cC Z (RI Z (rdr 0 Z) Z Z cD ⟨hl,cC⟩ bm hN hu ux hS hk hp))) ?_;rintro _ _ ⟨kd,km,rfl,rfl⟩;refine wn Z<|aT [0,1,2] 5 cC Z ?_;refine⟨_,Z,?_⟩;exact⟨_,_,Z,Z⟩
theorem zL (fb:nt=s.length) (fa:np=(l++[(K,at_)]).length) (hl:l.length<=1000) (cm:K∉([0,1]:List Int)):
  Ct Tryz.prog 30 #[PG g, .agg #[I 3,sl Ad nd cd,I N,I q0,I q1,I q2,I q3]] B w0 ((rc 102 2 g [sl At nt ct,sl Ap ((l++[(K,at_)]).length) cp])::(ru 5 At nt ct s)::⟨106,2,Ap,np,cp,prs (l++[(K,at_)]),false⟩::R) (λv R'=>v=I 6/\R'=(rc 102 2 g [sl At nt ct,sl Ap np cp])::(ru 5 At nt ct s)::⟨106,2,Ap,np,cp,prs (l++[(K,at_)]),false⟩::R):=by
 subst fb;subst fa;refine fn1 qb Z Z Z ?_;refine wq<|wa (bY (sz:=7) Z Z) ?_;rintro _ _ ⟨al,rfl,rfl⟩;refine wn Z<|aG<|wq<|wm Z<|wy (dA mf Z Z)<|aA<|aL Z<|aJ<|aG<|wq<|wy (aB (off:=0) (m:=0) jv Z sz3 Z Z Z)<|wy (aK (rdr 0 Z) ak Z Z Z) ?_;refine aA<|aI<|wq<|wy (Yl.f (bC Z Z) cC)<|wn Z<|aL Z<|wq<|wy (Yl.f (bC Z Z) cC)<|wn Z<|aL Z<|aG ?_;refine aM<|wy (Yl.f (bC Z Z) cC)<|wn Z<|aL Z<|wq<|wy (Yl.f (bC Z Z) cC)<|wn Z<|aL Z<|wq<|wy (Yl.t (bC Z Z) cC)<|wg Z ?_;refine aA<|bO Z<|wq<|wm Z<|wa (bS .i64 [0,1] aa zs3 Z Z Z) ?_;rintro _ _ ⟨dq,rfl,rfl⟩;refine wa (aF KU Z (Ct.pick [2,3,4,0,1] 5 cC Z (tF Z (rdr 0 Z) Z Z cm ⟨hl,cC⟩))) ?_;rintro _ _ ⟨rfl,rfl⟩;refine wn Z<|aT [0,1,2] 5 cC Z ?_;refine⟨_,Z,?_⟩;exact⟨Z,Z⟩
theorem rE (fb:nt=s.length) (fa:np=(l++[(K,at_)]).length) (hl:l.length<=1000) (cm:K∉([2]:List Int)):
  Ct Tryz.prog 30 #[PG g, .agg #[I 5,sl Ad nd cd,I N,I q0,I q1,I q2,I q3]] B w0 ((rc 102 2 g [sl At nt ct,sl Ap ((l++[(K,at_)]).length) cp])::(ru 5 At nt ct s)::⟨106,2,Ap,np,cp,prs (l++[(K,at_)]),false⟩::R) (λv R'=>v=I 6/\R'=(rc 102 2 g [sl At nt ct,sl Ap np cp])::(ru 5 At nt ct s)::⟨106,2,Ap,np,cp,prs (l++[(K,at_)]),false⟩::R):=by
 subst fb;subst fa;refine fn1 qb Z Z Z ?_;refine wq<|wa (bY (sz:=7) Z Z) ?_;rintro _ _ ⟨al,rfl,rfl⟩;refine wn Z<|aG<|wq<|wm Z<|wy (dA mf Z Z)<|aA<|aL Z<|aJ<|aG<|wq<|wy (aB (off:=0) (m:=0) jv Z sz3 Z Z Z)<|wy (aK (rdr 0 Z) ak Z Z Z) ?_;refine aA<|aI<|wq<|wy (Yl.f (bC Z Z) cC)<|wn Z<|aL Z<|wq<|wy (Yl.f (bC Z Z) cC)<|wn Z<|aL Z<|aG ?_;refine aM<|wy (Yl.f (bC Z Z) cC)<|wn Z<|aL Z<|wq<|wy (Yl.f (bC Z Z) cC)<|wn Z<|aL Z<|wq<|wy (Yl.f (bC Z Z) cC)<|wg Z ?_;refine aA<|aL Z<|wq<|wy (Yl.t (bC Z Z) cC)<|wn Z<|bO Z<|wq<|wm Z<|wa (bS .i64 [2] aa zs3 Z Z Z) ?_;rintro _ _ ⟨dq,rfl,rfl⟩;refine wa (aF KU Z (Ct.pick [2,3,4,0,1] 5 cC Z (tF Z (rdr 0 Z) Z Z cm ⟨hl,cC⟩))) ?_;rintro _ _ ⟨rfl,rfl⟩;refine wn Z<|aT [0,1,2] 5 cC Z ?_;refine⟨_,Z,?_⟩;exact⟨Z,Z⟩
theorem rD (fb:nt=s.length) (fa:np=(l++[(K,at_)]).length) (hl:l.length<=1000) (cm:K∉([3]:List Int)):
  Ct Tryz.prog 30 #[PG g, .agg #[I 7,sl Ad nd cd,I N,I q0,I q1,I q2,I q3]] B w0 ((rc 102 2 g [sl At nt ct,sl Ap ((l++[(K,at_)]).length) cp])::(ru 5 At nt ct s)::⟨106,2,Ap,np,cp,prs (l++[(K,at_)]),false⟩::R) (λv R'=>v=I 6/\R'=(rc 102 2 g [sl At nt ct,sl Ap np cp])::(ru 5 At nt ct s)::⟨106,2,Ap,np,cp,prs (l++[(K,at_)]),false⟩::R):=by
 subst fb;subst fa;refine fn1 qb Z Z Z ?_;refine wq<|wa (bY (sz:=7) Z Z) ?_;rintro _ _ ⟨al,rfl,rfl⟩;refine wn Z<|aG<|wq<|wm Z<|wy (dA mf Z Z)<|aA<|aL Z<|aJ<|aG<|wq<|wy (aB (off:=0) (m:=0) jv Z sz3 Z Z Z)<|wy (aK (rdr 0 Z) ak Z Z Z) ?_;refine aA<|aI<|wq<|wy (Yl.f (bC Z Z) cC)<|wn Z<|aL Z<|wq<|wy (Yl.f (bC Z Z) cC)<|wn Z<|aL Z<|aG ?_;refine aM<|wy (Yl.f (bC Z Z) cC)<|wn Z<|aL Z<|wq<|wy (Yl.f (bC Z Z) cC)<|wn Z<|aL Z<|wq<|wy (Yl.f (bC Z Z) cC)<|wg Z ?_;refine aA<|aL Z<|wq<|wy (Yl.f (bC Z Z) cC)<|wn Z<|aL Z<|wq<|wy (Yl.t (bC Z Z) cC)<|wn Z<|bO Z<|aG ?_;refine aM<|wm Z<|wa (bS .i64 [3] aa zs3 Z Z Z) ?_;rintro _ _ ⟨dq,rfl,rfl⟩;refine wa (aF KU Z (Ct.pick [2,3,4,0,1] 5 cC Z (tF Z (rdr 0 Z) Z Z cm ⟨hl,cC⟩))) ?_;rintro _ _ ⟨rfl,rfl⟩;refine wn Z<|aT [0,1,2] 5 cC Z ?_;refine⟨_,Z,?_⟩;exact⟨Z,Z⟩
theorem VY:
  Ct Tryz.prog 30 #[PG g, .agg #[I 3,sl Ad nd cd,I N,I q0,I q1,I q2,I q3]] B w0 ((rc 102 2 g [sl At nt ct,sl Ap 0 cp])::(ru 5 At nt ct s)::⟨106,2,Ap,0,cp,prs ([]),false⟩::R) (λv R'=>v=I 6/\R'=(rc 102 2 g [sl At nt ct,sl Ap 0 cp])::(ru 5 At nt ct s)::⟨106,2,Ap,0,cp,prs ([]),false⟩::R):=by
 refine fn1 qb Z Z Z ?_;refine wq<|wa (bY (sz:=7) Z Z) ?_;rintro _ _ ⟨al,rfl,rfl⟩;refine wn Z<|aG<|wq<|wm Z<|wy (dA mf Z Z)<|aA<|aL Z<|aJ<|aG<|wq<|wy (aB (off:=0) (m:=0) jv Z sz3 Z Z Z)<|wy (aK (rdr 0 Z) ak Z Z Z) ?_;refine aA<|aI<|wq<|wy (Yl.f (bC Z Z) cC)<|wn Z<|aL Z<|wq<|wy (Yl.f (bC Z Z) cC)<|wn Z<|aL Z<|aG ?_;refine aM<|wy (Yl.f (bC Z Z) cC)<|wn Z<|aL Z<|wq<|wy (Yl.f (bC Z Z) cC)<|wn Z<|aL Z<|wq<|wy (Yl.t (bC Z Z) cC)<|wg Z ?_;refine aA<|bO Z<|wq<|wm Z<|wa (bS .i64 [0,1] aa zs3 Z Z Z) ?_;rintro _ _ ⟨dq,rfl,rfl⟩;refine wa (aF KU Z (Ct.pick [2,3,4,0,1] 5 cC Z (tH (rdr 0 Z) Z))) ?_;rintro _ _ ⟨rfl,rfl⟩;refine wn Z<|aT [0,1,2] 5 cC Z ?_;refine⟨_,Z,?_⟩;exact⟨Z,Z⟩
theorem aQu:
  Ct Tryz.prog 30 #[PG g, .agg #[I 5,sl Ad nd cd,I N,I q0,I q1,I q2,I q3]] B w0 ((rc 102 2 g [sl At nt ct,sl Ap 0 cp])::(ru 5 At nt ct s)::⟨106,2,Ap,0,cp,prs ([]),false⟩::R) (λv R'=>v=I 6/\R'=(rc 102 2 g [sl At nt ct,sl Ap 0 cp])::(ru 5 At nt ct s)::⟨106,2,Ap,0,cp,prs ([]),false⟩::R):=by
 refine fn1 qb Z Z Z ?_;refine wq<|wa (bY (sz:=7) Z Z) ?_;rintro _ _ ⟨al,rfl,rfl⟩;refine wn Z<|aG<|wq<|wm Z<|wy (dA mf Z Z)<|aA<|aL Z<|aJ<|aG<|wq<|wy (aB (off:=0) (m:=0) jv Z sz3 Z Z Z)<|wy (aK (rdr 0 Z) ak Z Z Z) ?_;refine aA<|aI<|wq<|wy (Yl.f (bC Z Z) cC)<|wn Z<|aL Z<|wq<|wy (Yl.f (bC Z Z) cC)<|wn Z<|aL Z<|aG ?_;refine aM<|wy (Yl.f (bC Z Z) cC)<|wn Z<|aL Z<|wq<|wy (Yl.f (bC Z Z) cC)<|wn Z<|aL Z<|wq<|wy (Yl.f (bC Z Z) cC)<|wg Z ?_;refine aA<|aL Z<|wq<|wy (Yl.t (bC Z Z) cC)<|wn Z<|bO Z<|wq<|wm Z<|wa (bS .i64 [2] aa zs3 Z Z Z) ?_;rintro _ _ ⟨dq,rfl,rfl⟩;refine wa (aF KU Z (Ct.pick [2,3,4,0,1] 5 cC Z (tH (rdr 0 Z) Z))) ?_;rintro _ _ ⟨rfl,rfl⟩;refine wn Z<|aT [0,1,2] 5 cC Z ?_;refine⟨_,Z,?_⟩;exact⟨Z,Z⟩
theorem aQt:
  Ct Tryz.prog 30 #[PG g, .agg #[I 7,sl Ad nd cd,I N,I q0,I q1,I q2,I q3]] B w0 ((rc 102 2 g [sl At nt ct,sl Ap 0 cp])::(ru 5 At nt ct s)::⟨106,2,Ap,0,cp,prs ([]),false⟩::R) (λv R'=>v=I 6/\R'=(rc 102 2 g [sl At nt ct,sl Ap 0 cp])::(ru 5 At nt ct s)::⟨106,2,Ap,0,cp,prs ([]),false⟩::R):=by
 refine fn1 qb Z Z Z ?_;refine wq<|wa (bY (sz:=7) Z Z) ?_;rintro _ _ ⟨al,rfl,rfl⟩;refine wn Z<|aG<|wq<|wm Z<|wy (dA mf Z Z)<|aA<|aL Z<|aJ<|aG<|wq<|wy (aB (off:=0) (m:=0) jv Z sz3 Z Z Z)<|wy (aK (rdr 0 Z) ak Z Z Z) ?_;refine aA<|aI<|wq<|wy (Yl.f (bC Z Z) cC)<|wn Z<|aL Z<|wq<|wy (Yl.f (bC Z Z) cC)<|wn Z<|aL Z<|aG ?_;refine aM<|wy (Yl.f (bC Z Z) cC)<|wn Z<|aL Z<|wq<|wy (Yl.f (bC Z Z) cC)<|wn Z<|aL Z<|wq<|wy (Yl.f (bC Z Z) cC)<|wg Z ?_;refine aA<|aL Z<|wq<|wy (Yl.f (bC Z Z) cC)<|wn Z<|aL Z<|wq<|wy (Yl.t (bC Z Z) cC)<|wn Z<|bO Z<|aG ?_;refine aM<|wm Z<|wa (bS .i64 [3] aa zs3 Z Z Z) ?_;rintro _ _ ⟨dq,rfl,rfl⟩;refine wa (aF KU Z (Ct.pick [2,3,4,0,1] 5 cC Z (tH (rdr 0 Z) Z))) ?_;rintro _ _ ⟨rfl,rfl⟩;refine wn Z<|aT [0,1,2] 5 cC Z ?_;refine⟨_,Z,?_⟩;exact⟨Z,Z⟩
theorem ZW {w:World}:
  Ct Tryz.prog 35 #[] w.heap.size w [] (λv R'=>v=bt):=by
 refine fn1 Tryz.func35 Z Z Z ?_;refine wq<|wn Z<|wq<|wa (aF bDs Z (Ct.fresh (λw hw=>UF))) ?_;rintro _ _ ⟨_,rfl,al,rfl,rfl⟩;refine wn Z<|wq<|wm Z<|wy (aCi mf Z Z)<|wm Z<|aC Z Z<|wm Z<|aC Z Z<|wy (dU (v:= .agg #[I 3,sl none 0 0,I 0,I 0,I 0,I 0,I 0]) Z (λw=>cA))<|aC rfl rfl<|wa (aF aIz rfl ((VY (s:=[])))) ?_;rintro _ _ ⟨rfl,rfl⟩;refine aC Z Z<|wy (Yl.t (bC Z Z) cC)<|wy (aY Z Z)<|wm Z<|aC Z Z<|wm Z<|aC Z Z<|wa (aF bAw Z ((xD Z Z))) ?_;rintro _ _ ⟨rfl,rfl⟩;refine aC Z Z<|wy (Yl.t (bC Z Z) cC)<|wy (aY Z Z)<|wm Z<|aC Z Z<|wm Z<|aC Z Z<|wa (aF bAx Z ((AR Z Z cC))) ?_;rintro _ _ ⟨dj,dp,rfl,rfl⟩;refine aC Z Z<|wy (aQ ai Z)<|aC Z Z<|wy (Yl.t (bC Z Z) cC)<|wy (aY Z Z)<|wn Z<|aT [] 99 cC Z ?_;refine⟨_,Z,?_⟩;rfl
end Go.Proofs.YtdbebmmhdefgdaaGreat
namespace Go.Pure
open Go Go.Eng
variable {base s:List Int}
theorem JA {t so o sz:Int} {u:List Int} (hu:aO u) (hS:u.length<=120) (hz:1<=sz/\sz<=16777216):(nR t so o sz u).length<=40000:=by
 have e1:=lH (t:=t) (o:=o) (n:=sz.toNat) hu G (chK u.length sz.toNat);have e2:chK u.length sz.toNat<=u.length:=aBg G;have e3:(2*u.length+22)*chK u.length sz.toNat<=262*120:=Ex G G;have e4:=eF 4 sz G;have e5:=eF 4 (u.length:Int) G;have e6:(bQ 0).length=1:=rfl;unfold nR;simp only[ah,dm,jy];omega
def aYs (K at_:Int) (s s0:List Int):Prop:=
 (K=0/\aKl s at_/\lI s at_=s0)\/(K=1/\backL s (dX (lfL s))=s0)\/(K=2/\jV aS s=s0)\/
 (K=3/\ ∃k so od sz:Int,s=nR k so od sz s0/\(k=0\/k=1\/k=2)/\((0<=so/\so<=2)/\(od=0\/od=1)/\(1<=sz/\sz<=16777216)))
inductive Und (base:List Int):List (Int × Int)->List Int->Prop where
 |nil:Und base [] base
 |add {l:List (Int × Int)} {s s0:List Int} {K at_:Int} (h:Und base l s0) (hb:aO s0) (hn:s0.length<=120) (hu:aYs K at_ s s0):Und base (l++[(K,at_)]) s
theorem Und.inv {L:List (Int × Int)} (h:Und base L s):(L=[]/\s=base)\/ ∃l K at_ s0,L=l++[(K,at_)]/\Und base l s0/\aO s0/\s0.length<=120/\aYs K at_ s s0:=by
 cases h with
 |nil=>exact .inl ⟨rfl,rfl⟩
 |add h hb hn hu=>exact .inr ⟨_,_,_,_,rfl,h,hb,hn,hu⟩
theorem Und.none (h:Und base [] s):s=base:=by
 rcases h.inv with⟨_,h⟩|⟨l,K,a,s0,h,_⟩
 ·exact h
 ·simp at h
end Go.Pure
namespace Go.Proofs.YtdbebmmhdefgdaaGreat
open Go Go.Eng Go.Pure
open Tryz
set_option maxRecDepth 100000
variable {B g nt ct np cp nd cd:Nat} {w0:World} {R:List Row} {At Ap Ad:Option Addr} {s:List Int} {l:List (Int × Int)} {so od sz k N:Int}
theorem aBm (fb:nt=s.length) (fa:np=l.length):
  Ct Tryz.prog 61 #[PG g, .agg #[I 3,I so,I od,I sz]] B w0 ((rc 102 2 g [sl At nt ct,sl Ap np cp])::(ru 5 At nt ct s)::⟨106,2,Ap,np,cp,prs l,false⟩::R) (λv R'=>v=I 1/\R'=(rc 102 2 g [sl At nt ct,sl Ap np cp])::(ru 5 At nt ct s)::⟨106,2,Ap,np,cp,prs l,false⟩::R):=by
 subst fb;subst fa;refine fn1 Ja Z Z Z ?_;refine wq<|wa (bY (sz:=4) Z Z) ?_;rintro _ _ ⟨al,rfl,rfl⟩;refine wn Z<|aG<|wq<|wy (aB (off:=0) (m:=0) df Z sz3 Z Z Z)<|wy (aK (rdr 0 Z) ak Z Z Z)<|wy (Yl.t (bC Z Z) cC)<|aA<|bO Z<|wq<|wn Z<|aT [1,2,3] 4 cC Z ?_;refine⟨_,Z,?_⟩;exact⟨Z,Z⟩
theorem aBn (fb:nt=s.length) (fa:np=l.length) (h3:k≠3) (nj: ¬((0<=k/\k<=3)/\(0<=so/\so<=2)/\(od=0\/od=1)/\(1<=sz/\sz<=16777216))):
  Ct Tryz.prog 61 #[PG g, .agg #[I k,I so,I od,I sz]] B w0 ((rc 102 2 g [sl At nt ct,sl Ap np cp])::(ru 5 At nt ct s)::⟨106,2,Ap,np,cp,prs l,false⟩::R) (λv R'=>v=I 1/\R'=(rc 102 2 g [sl At nt ct,sl Ap np cp])::(ru 5 At nt ct s)::⟨106,2,Ap,np,cp,prs l,false⟩::R):=by
 subst fb;subst fa;refine fn1 Ja Z Z Z ?_;refine wq<|wa (bY (sz:=4) Z Z) ?_;rintro _ _ ⟨al,rfl,rfl⟩;refine wn Z<|aG<|wq<|wy (aB (off:=0) (m:=0) df Z sz3 Z Z Z)<|wy (aK (rdr 0 Z) ak Z Z Z)<|wy (Yl.f (bC Z Z) (h3))<|aA<|aL Z<|aJ<|aG<|bT mixed<|wD 0 Z (aN Z)<|wD 1 Z (aD Z) ?_;refine wD 2 Z (aB (off:=0) (m:=0) gy Z dO Z Z Z)<|wD 3 Z (aK (rdr 1 Z) ai Z Z Z)<|wD 4 Z (dU (v:= .agg #[sl At s.length ct,sl none 0 0]) Z (λw=>cA))<|wD 5 rfl (dN (vs:=[I k,I so,I od,I sz]) (rdr 0 rfl) df rfl gG rfl rfl (au rfl) rfl)<|wC 6 rfl (aF bEy rfl (Ct.quiet (λw hw=>aVv ((rdr 2 rfl) w hw) nj))) ?_;rintro _ _ ⟨rfl,rfl⟩;refine⟨.inr λ_ h=>h,?_⟩;refine wD 7 Z (aN Z)<|wD 8 Z (jM Z Z)<|wD 9 Z (jM Z Z)<|wD 10 Z (bP Z)<|wD 11 Z (bP Z)<|wN<|aG<|wq<|wm Z<|wy (Yl.t (iZ Z Z) cC)<|aA<|bO Z<|wq ?_;refine wm Z<|wn Z<|aT [1,2,3] 4 cC Z ?_;refine⟨_,Z,?_⟩;exact⟨Z,Z⟩
theorem aBl (fb:nt=s.length) (fa:np=l.length) (bm:aO s) (hN:s.length<=120) (hl:l.length<=1000) (hp:(0<=so/\so<=2)/\(od=0\/od=1)/\(1<=sz/\sz<=16777216)) (hk:k=0\/k=1\/k=2):
  Ct Tryz.prog 61 #[PG g, .agg #[I k,I so,I od,I sz]] B w0 ((rc 102 2 g [sl At nt ct,sl Ap np cp])::(ru 5 At nt ct s)::⟨106,2,Ap,np,cp,prs l,false⟩::R) (λv R'=> ∃(A8:Option Addr) (c8:Nat) (A7:Option Addr) (c7:Nat),v=I 0/\R'=(rc 102 2 g [sl A8 ((nR k so od sz s).length) c8,sl A7 ((l++[(3,0)]).length) c7])::(ru 5 A8 ((nR k so od sz s).length) c8 (nR k so od sz s))::⟨106,2,A7,(l++[(3,0)]).length,c7,prs (l++[(3,0)]),false⟩::R):=by
 subst fb;subst fa;have ya:=JA (t:=k) (so:=so) (o:=od) (sz:=sz) bm hN G;refine fn1 Ja Z Z Z ?_;refine wq<|wa (bY (sz:=4) Z Z) ?_;rintro _ _ ⟨al,rfl,rfl⟩;refine wn Z<|aG<|wq<|wy (aB (off:=0) (m:=0) df Z sz3 Z Z Z)<|wy (aK (rdr 0 Z) ak Z Z Z)<|wy (Yl.f (bC Z Z))<|aA<|aL Z<|aJ<|aG<|bT mixed<|wD 0 Z (aN Z)<|wD 1 Z (aD Z) ?_;refine wD 2 Z (aB (off:=0) (m:=0) gy Z dO Z Z Z)<|wD 3 Z (aK (rdr 1 Z) ai Z Z Z)<|wD 4 Z (dU (v:= .agg #[sl At s.length ct,sl none 0 0]) Z (λw=>cA))<|wD 5 rfl (dN (vs:=[I k,I so,I od,I sz]) (rdr 0 rfl) df rfl gG rfl rfl (au rfl) rfl)<|wC 6 rfl (aF bEy rfl (Ct.fresh (λw hw=>aVu (u:=s) ((rdr 2 rfl) w hw) bm G hp hk))) ?_;rintro _ _ ⟨_,rfl,dj,dp,rfl,rfl⟩;refine⟨.inr λ_ h=>h.right (R':=[_]),?_⟩;refine wD 7 Z (aN Z)<|wD 8 Z (jM Z Z)<|wD 9 Z (jM Z Z)<|wD 10 Z (bP Z)<|wD 11 Z (bP Z)<|wN<|aG<|wq<|wm Z<|wy (Yl.f (iZ Z Z) cC)<|aA<|aL Z<|aJ<|aG ?_;refine wq<|wm Z<|wy (aQ ai Z)<|wy (Yl.f (dV Z Z))<|aA<|aL Z<|aJ<|wq<|wm Z<|wm Z<|wy (dU (v:= .agg #[I 3,I 0]) Z (λw=>cA))<|wa (aF aVx rfl (Ct.pick [2,4,0,1,3] 5 cC rfl (vP rfl G))) ?_;rintro _ _ ⟨kd,km,rfl,rfl⟩;refine wn Z<|aT [0,2,1] 5 cC Z ?_;refine⟨_,Z,?_⟩;exact⟨_,_,_,_,Z,Z⟩
theorem aAr (fb:nt=s.length) (fa:np=l.length):
  Ct Tryz.prog 30 #[PG g, .agg #[I 6,sl Ad nd cd,I N,I 3,I so,I od,I sz]] B w0 ((rc 102 2 g [sl At nt ct,sl Ap np cp])::(ru 5 At nt ct s)::⟨106,2,Ap,np,cp,prs l,false⟩::R) (λv R'=>v=I 1/\R'=(rc 102 2 g [sl At nt ct,sl Ap np cp])::(ru 5 At nt ct s)::⟨106,2,Ap,np,cp,prs l,false⟩::R):=by
 subst fb;subst fa;refine fn1 qb Z Z Z ?_;refine wq<|wa (bY (sz:=7) Z Z) ?_;rintro _ _ ⟨al,rfl,rfl⟩;refine wn Z<|aG<|wq<|wm Z<|wy (dA mf Z Z)<|aA<|aL Z<|aJ<|aG<|wq<|wy (aB (off:=0) (m:=0) jv Z sz3 Z Z Z)<|wy (aK (rdr 0 Z) ak Z Z Z) ?_;refine aA<|aI<|wq<|wy (Yl.f (bC Z Z) cC)<|wn Z<|aL Z<|wq<|wy (Yl.f (bC Z Z) cC)<|wn Z<|aL Z<|aG ?_;refine aM<|wy (Yl.f (bC Z Z) cC)<|wn Z<|aL Z<|wq<|wy (Yl.t (bC Z Z) cC)<|wn Z<|bO Z<|wq<|wm Z<|wy (aB (off:=3) (m:=3) jv Z gG Z Z Z) ?_;refine wy (dN (vs:=[I 3,I so,I od,I sz]) (rdr 0 Z) df Z gG Z Z (au Z) Z)<|wa (aF bAu Z (Ct.pick [1,2,3,0] 4 cC Z (aBm Z Z))) ?_;rintro _ _ ⟨rfl,rfl⟩;refine wn Z<|aT [0,1,2] 4 cC Z ?_;refine⟨_,Z,?_⟩;exact⟨Z,Z⟩
theorem aAs (fb:nt=s.length) (fa:np=l.length) (h3:k≠3) (nj: ¬((0<=k/\k<=3)/\(0<=so/\so<=2)/\(od=0\/od=1)/\(1<=sz/\sz<=16777216))):
  Ct Tryz.prog 30 #[PG g, .agg #[I 6,sl Ad nd cd,I N,I k,I so,I od,I sz]] B w0 ((rc 102 2 g [sl At nt ct,sl Ap np cp])::(ru 5 At nt ct s)::⟨106,2,Ap,np,cp,prs l,false⟩::R) (λv R'=>v=I 1/\R'=(rc 102 2 g [sl At nt ct,sl Ap np cp])::(ru 5 At nt ct s)::⟨106,2,Ap,np,cp,prs l,false⟩::R):=by
 subst fb;subst fa;refine fn1 qb Z Z Z ?_;refine wq<|wa (bY (sz:=7) Z Z) ?_;rintro _ _ ⟨al,rfl,rfl⟩;refine wn Z<|aG<|wq<|wm Z<|wy (dA mf Z Z)<|aA<|aL Z<|aJ<|aG<|wq<|wy (aB (off:=0) (m:=0) jv Z sz3 Z Z Z)<|wy (aK (rdr 0 Z) ak Z Z Z) ?_;refine aA<|aI<|wq<|wy (Yl.f (bC Z Z) cC)<|wn Z<|aL Z<|wq<|wy (Yl.f (bC Z Z) cC)<|wn Z<|aL Z<|aG ?_;refine aM<|wy (Yl.f (bC Z Z) cC)<|wn Z<|aL Z<|wq<|wy (Yl.t (bC Z Z) cC)<|wn Z<|bO Z<|wq<|wm Z<|wy (aB (off:=3) (m:=3) jv Z gG Z Z Z) ?_;refine wy (dN (vs:=[I k,I so,I od,I sz]) (rdr 0 Z) df Z gG Z Z (au Z) Z)<|wa (aF bAu Z (Ct.pick [1,2,3,0] 4 cC Z (aBn Z Z h3 nj))) ?_;rintro _ _ ⟨rfl,rfl⟩;refine wn Z<|aT [0,1,2] 4 cC Z ?_;refine⟨_,Z,?_⟩;exact⟨Z,Z⟩
theorem aAq (fb:nt=s.length) (fa:np=l.length) (bm:aO s) (hN:s.length<=120) (hl:l.length<=1000) (hp:(0<=so/\so<=2)/\(od=0\/od=1)/\(1<=sz/\sz<=16777216)) (hk:k=0\/k=1\/k=2):
  Ct Tryz.prog 30 #[PG g, .agg #[I 6,sl Ad nd cd,I N,I k,I so,I od,I sz]] B w0 ((rc 102 2 g [sl At nt ct,sl Ap np cp])::(ru 5 At nt ct s)::⟨106,2,Ap,np,cp,prs l,false⟩::R) (λv R'=> ∃(A8:Option Addr) (c8:Nat) (A7:Option Addr) (c7:Nat),v=I 0/\R'=(rc 102 2 g [sl A8 ((nR k so od sz s).length) c8,sl A7 ((l++[(3,0)]).length) c7])::(ru 5 A8 ((nR k so od sz s).length) c8 (nR k so od sz s))::⟨106,2,A7,(l++[(3,0)]).length,c7,prs (l++[(3,0)]),false⟩::R):=by
 subst fb;subst fa;refine fn1 qb Z Z Z ?_;refine wq<|wa (bY (sz:=7) Z Z) ?_;rintro _ _ ⟨al,rfl,rfl⟩;refine wn Z<|aG<|wq<|wm Z<|wy (dA mf Z Z)<|aA<|aL Z<|aJ<|aG<|wq<|wy (aB (off:=0) (m:=0) jv Z sz3 Z Z Z)<|wy (aK (rdr 0 Z) ak Z Z Z) ?_;refine aA<|aI<|wq<|wy (Yl.f (bC Z Z) cC)<|wn Z<|aL Z<|wq<|wy (Yl.f (bC Z Z) cC)<|wn Z<|aL Z<|aG ?_;refine aM<|wy (Yl.f (bC Z Z) cC)<|wn Z<|aL Z<|wq<|wy (Yl.t (bC Z Z) cC)<|wn Z<|bO Z<|wq<|wm Z<|wy (aB (off:=3) (m:=3) jv Z gG Z Z Z) ?_;refine wy (dN (vs:=[I k,I so,I od,I sz]) (rdr 0 Z) df Z gG Z Z (au Z) Z)<|wa (aF bAu Z (Ct.pick [1,2,3,0] 4 cC Z (aBl Z Z bm hN hl hp hk))) ?_;rintro _ _ ⟨dj,dp,kd,km,rfl,rfl⟩;refine wn Z<|aT [0,1,2] 4 cC Z ?_;refine⟨_,Z,?_⟩;exact⟨_,_,_,_,Z,Z⟩
theorem VV (fb:nt=s.length) (fa:np=l.length) (hk:N≠1/\N≠2):
  Ct Tryz.prog 30 #[PG g, .agg #[I 2,sl Ad nd cd,I N,I k,I so,I od,I sz]] B w0 ((rc 102 2 g [sl At nt ct,sl Ap np cp])::(ru 5 At nt ct s)::⟨106,2,Ap,np,cp,prs l,false⟩::R) (λv R'=>v=I 1/\R'=(rc 102 2 g [sl At nt ct,sl Ap np cp])::(ru 5 At nt ct s)::⟨106,2,Ap,np,cp,prs l,false⟩::R):=by
 subst fb;subst fa;refine fn1 qb Z Z Z ?_;refine wq<|wa (bY (sz:=7) Z Z) ?_;rintro _ _ ⟨al,rfl,rfl⟩;refine wn Z<|aG<|wq<|wm Z<|wy (dA mf Z Z)<|aA<|aL Z<|aJ<|aG<|wq<|wy (aB (off:=0) (m:=0) jv Z sz3 Z Z Z)<|wy (aK (rdr 0 Z) ak Z Z Z) ?_;refine aA<|aI<|wq<|wy (Yl.f (bC Z Z) cC)<|wn Z<|aL Z<|wq<|wy (Yl.t (bC Z Z) cC)<|wn Z<|bO Z<|aG ?_;refine aM<|wm Z<|wy (aB (off:=2) (m:=2) jv Z sz3 Z Z Z)<|wy (aK (rdr 0 Z) ak Z Z Z)<|wa (aF bAv Z (Ct.pick [1,2,3,0] 4 cC Z (RX Z Z hk))) ?_;rintro _ _ ⟨rfl,rfl⟩;refine wn Z<|aT [0,1,2] 4 cC Z ?_;refine⟨_,Z,?_⟩;exact⟨Z,Z⟩
theorem aAo {K:Int} (fb:nt=s.length) (fa:np=l.length) (hK:K<1\/7<K):
  Ct Tryz.prog 30 #[PG g, .agg #[I K,sl Ad nd cd,I N,I k,I so,I od,I sz]] B w0 ((rc 102 2 g [sl At nt ct,sl Ap np cp])::(ru 5 At nt ct s)::⟨106,2,Ap,np,cp,prs l,false⟩::R) (λv R'=>v=I 1/\R'=(rc 102 2 g [sl At nt ct,sl Ap np cp])::(ru 5 At nt ct s)::⟨106,2,Ap,np,cp,prs l,false⟩::R):=by
 subst fb;subst fa;refine fn1 qb Z Z Z ?_;refine wq<|wa (bY (sz:=7) Z Z) ?_;rintro _ _ ⟨al,rfl,rfl⟩;refine wn Z<|aG<|wq<|wm Z<|wy (dA mf Z Z)<|aA<|aL Z<|aJ<|aG<|wq<|wy (aB (off:=0) (m:=0) jv Z sz3 Z Z Z)<|wy (aK (rdr 0 Z) ak Z Z Z) ?_;refine aA<|aI<|wq<|wy (Yl.f (bC Z Z))<|wn Z<|aL Z<|wq<|wy (Yl.f (bC Z Z))<|wn Z<|aL Z<|aG ?_;refine aM<|wy (Yl.f (bC Z Z))<|wn Z<|aL Z<|wq<|wy (Yl.f (bC Z Z))<|wn Z<|aL Z<|wq<|wy (Yl.f (bC Z Z))<|wg Z ?_;refine aA<|aL Z<|wq<|wy (Yl.f (bC Z Z))<|wn Z<|aL Z<|wq<|wy (Yl.f (bC Z Z))<|wn Z<|aL Z<|aJ ?_;refine wq<|wn Z<|aT [1,2,3] 4 cC Z ?_;refine⟨_,Z,?_⟩;exact⟨Z,Z⟩
abbrev DK (g:Nat) (At:Option Addr) (nt ct:Nat) (Ap:Option Addr) (np cp:Nat) (s:List Int) (l:List (Int × Int)) (R:List Row):List Row:=(rc 102 2 g [sl At nt ct,sl Ap np cp])::(ru 5 At nt ct s)::⟨106,2,Ap,np,cp,prs l,false⟩::R
set_option maxHeartbeats 1000000 in
theorem aQs {B:Nat} {w0:World} {R:List Row} {g:Nat} {At Ap:Option Addr} {nt ct np cp:Nat} {s:List Int} {l:List (Int × Int)} {base:List Int} {Ad:Option Addr} {nd cd:Nat} {K N k so od sz:Int} (fb:nt=s.length) (fa:np=l.length) (hU:Und base l s) (bm:aO s) (hN:s.length<=120) (hl:l.length<=100) (hK:K≠1):
  Ct Tryz.prog 30 #[PG g, .agg #[I K,sl Ad nd cd,I N,I k,I so,I od,I sz]] B w0 (DK g At nt ct Ap np cp s l R) (λv R'=> ∃(e:Int) (A8:Option Addr) (c8:Nat) (s':List Int) (A7:Option Addr) (c7:Nat) (l':List (Int × Int)),v=I e/\R'=DK g A8 s'.length c8 A7 l'.length c7 s' l' R/\Und base l' s'/\aO s'/\s'.length<=40000/\l'.length<=l.length+1/\(e≠0->s'=s/\l'=l)):=by
 subst fb;subst fa;have stay: ∀e:Int,e≠0-> ∀(v:Value) (R':List Row),v=I e->R'=DK g At s.length ct Ap l.length cp s l R-> ∃(e:Int) (A8:Option Addr) (c8:Nat) (s':List Int) (A7:Option Addr) (c7:Nat) (l':List (Int × Int)),v=I e/\R'=DK g A8 s'.length c8 A7 l'.length c7 s' l' R/\Und base l' s'/\aO s'/\s'.length<=40000/\l'.length<=l.length+1/\(e≠0->s'=s/\l'=l):=λe he v R' h1 h2=>⟨e,At,ct,s,Ap,cp,l,h1,h2,hU,bm,G,G,λ_=>⟨rfl,rfl⟩⟩;have hc:(K<1\/7<K)\/K=2\/K=3\/K=4\/K=5\/K=6\/K=7:=G
 rcases hc with h|rfl|rfl|rfl|rfl|rfl|rfl
 ·exact(aAo rfl rfl h).mono λv R' ⟨a,b⟩=>stay 1 cC v R' a b
 ·by_cases n1:N=1
  ·subst n1;refine(aAn Z Z bm G G).mono ?_;rintro v R' ⟨b,hb,A8,c8,A7,c7,rfl,rfl⟩;exact⟨0,A8,c8,ofL s b,A7,c7,_,Z,Z,hU.add bm hN (.inl ⟨Z,tJ bm hb.1 hb.2⟩),vN bm hb.1,by rw[(yO hb.1 hb.2).length_eq];omega,by rw[ah];exact dh _,λh=>absurd rfl h⟩
  by_cases n2:N=2
  ·subst n2;refine(aAm Z Z bm G G).mono ?_;rintro v R' ⟨T,hT,A8,c8,A7,c7,rfl,rfl⟩;exact⟨0,A8,c8,T.map (lastB (bws s)),A7,c7,_,Z,by rw[bi],hU.add bm hN (.inr (.inl ⟨rfl,OB bm hT.1 hT.2⟩)),lC hT.1 (by rw[nK];exact bm),by rw[bi,zS hT.1];omega,by rw[ah];exact dh _,λh=>absurd rfl h⟩
  exact(VV Z Z ⟨n1,n2⟩).mono λv R' ⟨a,b⟩=>stay 1 cC v R' a b
 ·rcases hU.inv with⟨rfl,_⟩|⟨l0,K',at_,s0,rfl,h1,h2,h3,h4⟩
  ·exact(VY (s:=s)).mono λv R' ⟨a,b⟩=>stay 6 cC v R' a b
  have me:l0.length<=1000:=by rw[ah] at hl;omega
  rcases h4 with⟨rfl,ok,hb⟩|⟨rfl,hb⟩|⟨rfl,hb⟩|⟨rfl,k',so',od',Mc,hs,hk,hp⟩
  ·refine (WA (s0:=s0) (l:=l0) rfl rfl me bm G ok hb).mono ?_;rintro v R' ⟨A8,c8,rfl,rfl⟩;exact⟨0,A8,c8,s0,Ap,cp,l0,Z,Z,h1,h2,G,by rw[ah];omega,λh=>absurd rfl h⟩
  ·refine (VZ (s0:=s0) (l:=l0) rfl rfl me bm G hb).mono ?_;rintro v R' ⟨A8,c8,rfl,rfl⟩;exact⟨0,A8,c8,s0,Ap,cp,l0,Z,Z,h1,h2,G,by rw[ah];omega,λh=>absurd rfl h⟩
  ·exact(zL rfl rfl me cC).mono λv R' ⟨a,b⟩=>stay 6 cC v R' a b
  ·exact(zL rfl rfl me cC).mono λv R' ⟨a,b⟩=>stay 6 cC v R' a b
 ·refine (aAp rfl rfl bm G G).mono ?_;rintro v R' ⟨A8,c8,A7,c7,rfl,rfl⟩;exact⟨0,A8,c8,bB aS s,A7,c7,_,Z,Z,hU.add bm hN (.inr (.inr (.inl ⟨Z,oP bm⟩))),mW bm,by rw[iL];omega,by rw[ah];exact dh _,λh=>absurd rfl h⟩
 ·rcases hU.inv with⟨rfl,_⟩|⟨l0,K',at_,s0,rfl,h1,h2,h3,h4⟩
  ·exact(aQu (s:=s)).mono λv R' ⟨a,b⟩=>stay 6 cC v R' a b
  have me:l0.length<=1000:=by rw[ah] at hl;omega
  rcases h4 with⟨rfl,ok,hb⟩|⟨rfl,hb⟩|⟨rfl,hb⟩|⟨rfl,k',so',od',Mc,hs,hk,hp⟩
  ·exact(rE rfl rfl me cC).mono λv R' ⟨a,b⟩=>stay 6 cC v R' a b
  ·exact(rE rfl rfl me cC).mono λv R' ⟨a,b⟩=>stay 6 cC v R' a b
  ·refine (VX (s0:=s0) (l:=l0) rfl rfl me bm G hb).mono ?_;rintro v R' ⟨A8,c8,rfl,rfl⟩;exact⟨0,A8,c8,s0,Ap,cp,l0,Z,Z,h1,h2,G,by rw[ah];omega,λh=>absurd rfl h⟩
  ·exact(rE rfl rfl me cC).mono λv R' ⟨a,b⟩=>stay 6 cC v R' a b
 ·by_cases k3:k=3
  ·subst k3;exact(aAr Z Z).mono λv R' ⟨a,b⟩=>stay 1 cC v R' a b
  by_cases nj:((0<=k/\k<=3)/\(0<=so/\so<=2)/\(od=0\/od=1)/\(1<=sz/\sz<=16777216))
  ·have hk:k=0\/k=1\/k=2:=G
   refine(aAq Z Z bm hN G nj.2 hk).mono ?_;rintro v R' ⟨A8,c8,A7,c7,rfl,rfl⟩;exact⟨0,A8,c8,nR k so od sz s,A7,c7,_,Z,Z,hU.add bm hN (.inr (.inr (.inr ⟨Z,k,so,od,sz,Z,hk,nj.2⟩))),(JB bm G G G G G).1,JA bm hN G,by rw[ah];exact dh _,λh=>absurd rfl h⟩
  exact(aAs Z Z k3 nj).mono λv R' ⟨a,b⟩=>stay 1 cC v R' a b
 ·rcases hU.inv with⟨rfl,_⟩|⟨l0,K',at_,s0,rfl,h1,h2,h3,h4⟩
  ·exact(aQt (s:=s)).mono λv R' ⟨a,b⟩=>stay 6 cC v R' a b
  have me:l0.length<=1000:=by rw[ah] at hl;omega
  rcases h4 with⟨rfl,ok,hb⟩|⟨rfl,hb⟩|⟨rfl,hb⟩|⟨rfl,k',so',od',Mc,hs,hk,hp⟩
  ·exact(rD rfl rfl me cC).mono λv R' ⟨a,b⟩=>stay 6 cC v R' a b
  ·exact(rD rfl rfl me cC).mono λv R' ⟨a,b⟩=>stay 6 cC v R' a b
  ·exact(rD rfl rfl me cC).mono λv R' ⟨a,b⟩=>stay 6 cC v R' a b
  ·refine (VW (s0:=s0) (l:=l0) rfl rfl me bm G hs h2 G hk hp).mono ?_;rintro v R' ⟨A8,c8,rfl,rfl⟩;exact⟨0,A8,c8,s0,Ap,cp,l0,Z,Z,h1,h2,G,by rw[ah];omega,λh=>absurd rfl h⟩
end Go.Proofs.YtdbebmmhdefgdaaGreat
namespace Go.Eng
open Go Go.RowKit Go.Pure
structure OpR where
 K:Int
 A:Option Addr
 c:Nat
 d:List Int
 N:Int
 p0:Int
 p1:Int
 p2:Int
 p3:Int
instance:Inhabited OpR:=⟨⟨0,none,0,[],0,0,0,0,0⟩⟩
def VJ (o:OpR):List Value:=[.int .i64 o.K, .slice o.A o.d.length o.c, .int .i64 o.N, .int .i64 o.p0, .int .i64 o.p1, .int .i64 o.p2, .int .i64 o.p3]
def uC (l:List OpR):List Value:=l.flatMap VJ
def rdO (l:List OpR) (i:Int):OpR:=l.getD i.toNat default
def XL (w:World) (l:List OpR):Prop:= ∀o∈l,Rd w o.A o.d.length o.c 1 (ints .u8 o.d)/\aO o.d
theorem XL.at {w:World} {l:List OpR} (h:XL w l) {i:Int} (h0:0<=i) (h1:i<l.length):Rd w (rdO l i).A (rdO l i).d.length (rdO l i).c 1 (ints .u8 (rdO l i).d)/\aO (rdO l i).d:=by
 unfold rdO;rw[af,av G];exact h _ (kz _)
theorem XL.c {w w':World} {R:List Row} {l:List OpR} (h:XL w l) (hw:Hp w.heap.size w w' R):XL w' l:=λo ho=>⟨(h o ho).1.c _ w' hw,(h o ho).2⟩
theorem qW (l:List OpR):(uC l).length=l.length*7:=by
 induction l with
 |nil=>rfl
 |cons o l ih=>
  show(VJ o++uC l).length=_;rw[ah,ih,dm];show 7+_=_;omega
theorem PO {l:List OpR} {i:Int} (h0:0<=i) (h1:i<l.length):((uC l).drop (i.toNat*7)).take 7=VJ (rdO l i):=by
 have e:l=l.take i.toNat++rdO l i::l.drop (i.toNat+1):=by
  conv=>lhs;rw[<-gq i.toNat l]
  congr 1;rw[jw G];congr 1;unfold rdO;rw[af,av G];rfl
 have hl:(uC (l.take i.toNat)).length=i.toNat*7:=by rw[qW,ax,xu G]
 have e2:uC l=uC (l.take i.toNat)++(VJ (rdO l i)++uC (l.drop (i.toNat+1))):=by
  conv=>lhs;rw[e]
  unfold uC;rw[List.flatMap_append];rfl
 rw[e2,Dz hl];rfl
theorem TZ {l:List OpR} {i:Int} {q:Nat} {v:Value} (h0:0<=i) (h1:i<l.length) (hq:Nat.blt q 7=true) (hv:(VJ (rdO l i))[q]? =some v):(uC l)[i.toNat*7+q]? =some v:=by
 have Ln:q<7:=au hq;rw[<-PO h0 h1,ng Ln,qc] at hv;exact hv
section
variable {P:Program} {n:Nd} {B:Nat} {w0:World} {L:Env} {R:List Row} {ty:TypeId}
theorem QY {x:Operand} {t tf:TypeId} {fs:Array Field} {k st off m c:Nat} {A:Option Addr} {i:Int} {l:List OpR} (hu:P.underlying t=some (.struct fs)) (hf:(fs[k]?).map (λf=>(f.offset,f.type))=some (off,tf)) (ee:(P.info? tf).map (·.size)=some st) (u6:Nat.blt 0 st=true)
  (hx:ev L x=some (.pointer (pat A (i.toNat*7)))) (hr:RdC B w0 R A m c 7 (uC l)) (h0:0<=i) (h1:i<l.length):Yl P n B w0 (.fieldAddr t x k) ty L R (.pointer (pat A (i.toNat*7+off))):=by
 obtain⟨f,Ov,he⟩:=ib.1 hf;simp only[xh] at he;obtain⟨rfl,rfl⟩:=he;intro a w o ho xo hs hp;obtain⟨a0,rfl,_⟩:=(hr w hp).at_ (i.toNat*7+0) _ (TZ h0 h1 rfl rfl);have:=sW (P:=P) (n:=n) (B:=B) (w0:=w0) (R:=R) (ty:=ty) hu Ov ee u6 (show ev L x=some (.pointer (some (a0.add (i.toNat*7)))) from hx) a w o ho xo hs hp;rw[add_add] at this;exact this
theorem aKt {x:Operand} {t:TypeId} {d:TypeDesc} {A:Option Addr} {m c:Nat} {l:List OpR} {i:Int} {q:Nat} {v:Value} (hu:P.underlying t=some d) (hd:BZ d=false) (hx:ev L x=some (.pointer (pat A (i.toNat*7+q)))) (hr:RdC B w0 R A m c 7 (uC l)) (h0:0<=i) (h1:i<l.length) (hq:Nat.blt q 7=true) (hv:(VJ (rdO l i))[q]? =some v):
  Yl P n B w0 (.load t x) ty L R v:=AB hu hd hx rfl hr (TZ h0 h1 hq hv)
theorem bCi {x:Operand} {t:TypeId} {d:TypeDesc} {A:Option Addr} {m c:Nat} {l:List OpR} {i:Int} (hu:P.underlying t=some d) (hd:BZ d=true) (ee:(P.info? t).map (·.size)=some 7) (hx:ev L x=some (.pointer (pat A (i.toNat*7)))) (hr:RdC B w0 R A m c 7 (uC l)) (h0:0<=i) (h1:i<l.length):
  Yl P n B w0 (.load t x) ty L R (.agg #[.int .i64 (rdO l i).K, .slice (rdO l i).A (rdO l i).d.length (rdO l i).c, .int .i64 (rdO l i).N, .int .i64 (rdO l i).p0, .int .i64 (rdO l i).p1, .int .i64 (rdO l i).p2, .int .i64 (rdO l i).p3]):=by
 have:=aCj (P:=P) (n:=n) (B:=B) (w0:=w0) (R:=R) (ty:=ty) hu hd ee hx rfl hr (by rw[qW];omega) G;rwa[PO h0 h1] at this
end
end Go.Eng
namespace Go.Proofs.YtdbebmmhdefgdaaGreat
open Go Go.Eng Go.Pure
open Tryz
set_option maxRecDepth 100000
variable {w w0:World} {im At Ap Ad:Option Addr} {lj ir B g nt ct np cp nd cd:Nat} {l:List (Int × Int)} {base s:List Int} {R:List Row} {N k so od sz:Int}
theorem aHr {l:List OpR} (gr:Rd w im lj ir 7 (uC l)) (Sg:XL w l):
  Ct Tryz.prog 28 #[sl im lj ir] w.heap.size w [] (λv R'=> ∃b:Bool,v= .bool (decide (b=true))/\(b=false->l.length<=12/\ ∀q:Int,0<=q->q<l.length->(rdO l q).d.length<=40)):=by
 obtain rfl:lj=l.length:=by have:=gr.len;rw[qW] at this;omega
 refine fn1 Tryz.func28 Z Z Z ?_;refine wq<|wn Z<|aG<|wq<|wn Z<|aI ?_;refine pX (λ(i:Int)=>[(0,sl im l.length ir),(3,I i)]) (λi=>[]) (λi=>(0<=i)/\(i<=l.length)/\(i<=20)/\(∀q:Int,0<=q->q<i->(rdO l q).d.length<=40)) (λi=>(20-i).toNat) ?_ ?_
 ·exact⟨0,⟨G,G,G,(λq h1 h2=>G)⟩,SA,λ_ h=>h⟩
 intro i ⟨ar,ia,Ox,hn⟩;refine aG<|wq<|wm Z<|wm Z<|wy (aQ Cv Z)<|wL Z Z<|wm Z<|dQ 3 [(0,sl im l.length ir),(3,I i),(11, .bool (decide ((i<((l.length:Nat):Int))/\(i<20))))] [] ?_ ?_
 ·refine cK 8 Z (λaq=> ?_) (λaq=> ?_)
  ·refine aC Z Z<|wm Z<|aC Z Z<|wL Z Z<|wy (aY Z Z)<|aA ?_;exact⟨SA,λ_ h=>h⟩
  ·refine aP Z Z Z Z<|aP Z Z Z Z<|wy (aR Z Z)<|aA ?_;exact⟨SA,λ_ h=>h⟩
 refine aA<|bJ Z (λcr=> ?_) (λcr=> ?_)
 ·refine aJ<|aG<|aI<|wq<|wm Z<|wm Z<|wy (gV Cv aSv Z Z (gr.c _) Z)<|wy (QY (off:=1) jv Z dO Z Z (gr.c _) G G) ?_;have hr_1:=(Sg.at (i:=i) G G).1;refine wy (aKt ai Z Z (gr.c _) G G Z Z)<|wy (aQ ai Z)<|wy (dV Z Z)<|aA<|bJ Z (λfd=> ?_) (λfd=> ?_)
  ·refine wq<|wn Z<|dF ?_;refine⟨_,Z,?_⟩;exact⟨true,Z,λh=>by cases h⟩
  ·refine aJ<|aM<|wm Z<|wA Z Z<|wn Z ?_
   exact⟨i+1,⟨G,G,G,(λq h1 h2=>by
     rcases ay q i with h|h
     ·exact hn q h1 h
     ·obtain rfl:q=i:=G
      omega)⟩,G,SA,λ_ h=>h⟩
 ·refine aZ<|wq<|wm Z<|wy (aQ Cv Z)<|wy (dV Z Z)<|wn Z<|dF ?_;refine⟨_,Z,?_⟩
  exact⟨decide (12<((l.length:Nat):Int)),cD,λh=>by
   have h': ¬(12<((l.length:Nat):Int)):=by simpa using h
   exact⟨G,λq h0 h1=>hn q h0 G⟩⟩
def KF (l:List (Int × Int)):Int:=(rdp l ((l.length:Int)-1)).1
theorem jO (l:List (Int × Int)) (m:Int × Int):KF (l++[m])=m.1:=by
 unfold KF;rw[ah,ic,show((l.length+1:Nat):Int)-1=(l.length:Int) by omega,kI]
theorem aSs (h:Und base l s) (hl:0<l.length):0<=KF l/\KF l<=3:=by
 rcases h.inv with⟨rfl,_⟩|⟨l0,K,a,s0,rfl,_,_,_,h4⟩
 ·exact absurd hl cD
 rw[jO];rcases h4 with⟨h,_⟩|⟨h,_⟩|⟨h,_⟩|⟨h,_⟩<;>exact⟨by show 0<=K;omega,by show K<=3;omega⟩
theorem EM {lx l1 l2 l3:List (Int × Int)} {e:Int} (hU:Und base lx s) (h0:0<lx.length) (h1:l1=lx/\2<=KF lx) (h2:l2=l1/\KF l1≠2) (h3:e≠0->l3=l2/\KF l2≠3):e=0/\l2.length=lx.length:=by
 obtain⟨rfl,h1⟩:=h1;obtain⟨rfl,h2⟩:=h2;have h4:=aSs hU h0;refine⟨Decidable.byContradiction λh=> ?_,Z⟩;have h5:=(h3 h).2;omega
theorem aJg (fb:nt=s.length) (fa:np=l.length) (hU:Und base l s) (bm:aO s) (hN:s.length<=40000) (hl:l.length<=100) (h0:0<l.length):
  Ct Tryz.prog 30 #[PG g, .agg #[I 3,sl Ad nd cd,I N,I k,I so,I od,I sz]] B w0 (DK g At nt ct Ap np cp s l R) (λv R'=> ∃(e:Int) (A8:Option Addr) (c8:Nat) (s':List Int) (A7:Option Addr) (c7:Nat) (l':List (Int × Int)),v=I e/\R'=DK g A8 s'.length c8 A7 l'.length c7 s' l' R/\Und base l' s'/\aO s'/\s'.length<=40000/\(e=0->l.length=l'.length+1)/\(e≠0->l'=l/\2<=KF l)):=by
 subst fb;subst fa;rcases hU.inv with⟨rfl,_⟩|⟨l0,K',at_,s0,rfl,h1,h2,h3,h4⟩
 ·exact absurd h0 cD
 have me:l0.length<=1000:=by rw[ah] at hl;omega
 rcases h4 with⟨rfl,ok,hb⟩|⟨rfl,hb⟩|⟨rfl,hb⟩|⟨rfl,k',so',od',Mc,hs,hk,hp⟩
 ·refine (WA (s0:=s0) (l:=l0) rfl rfl me bm G ok hb).mono ?_;rintro v R' ⟨A8,c8,rfl,rfl⟩;exact⟨0,A8,c8,s0,Ap,cp,l0,Z,Z,h1,h2,G,λ_=>by rw[ah];rfl,λh=>absurd rfl h⟩
 ·refine (VZ (s0:=s0) (l:=l0) rfl rfl me bm G hb).mono ?_;rintro v R' ⟨A8,c8,rfl,rfl⟩;exact⟨0,A8,c8,s0,Ap,cp,l0,Z,Z,h1,h2,G,λ_=>by rw[ah];rfl,λh=>absurd rfl h⟩
 ·exact(zL rfl rfl me cC).mono λv R' ⟨a,b⟩=>⟨6,At,ct,s,Ap,cp,_,a,b,hU,bm,hN,λh=>absurd h cC,λ_=>⟨rfl,by rw[jO];dsimp only;decide⟩⟩
 ·exact(zL rfl rfl me cC).mono λv R' ⟨a,b⟩=>⟨6,At,ct,s,Ap,cp,_,a,b,hU,bm,hN,λh=>absurd h cC,λ_=>⟨rfl,by rw[jO];dsimp only;decide⟩⟩
theorem aJf (fb:nt=s.length) (fa:np=l.length) (hU:Und base l s) (bm:aO s) (hN:s.length<=40000) (hl:l.length<=100) (h0:0<l.length):
  Ct Tryz.prog 30 #[PG g, .agg #[I 5,sl Ad nd cd,I N,I k,I so,I od,I sz]] B w0 (DK g At nt ct Ap np cp s l R) (λv R'=> ∃(e:Int) (A8:Option Addr) (c8:Nat) (s':List Int) (A7:Option Addr) (c7:Nat) (l':List (Int × Int)),v=I e/\R'=DK g A8 s'.length c8 A7 l'.length c7 s' l' R/\Und base l' s'/\aO s'/\s'.length<=40000/\(e=0->l.length=l'.length+1)/\(e≠0->l'=l/\KF l≠2)):=by
 subst fb;subst fa;rcases hU.inv with⟨rfl,_⟩|⟨l0,K',at_,s0,rfl,h1,h2,h3,h4⟩
 ·exact absurd h0 cD
 have me:l0.length<=1000:=by rw[ah] at hl;omega
 rcases h4 with⟨rfl,ok,hb⟩|⟨rfl,hb⟩|⟨rfl,hb⟩|⟨rfl,k',so',od',Mc,hs,hk,hp⟩
 ·exact(rE rfl rfl me cC).mono λv R' ⟨a,b⟩=>⟨6,At,ct,s,Ap,cp,_,a,b,hU,bm,hN,λh=>absurd h cC,λ_=>⟨rfl,by rw[jO];dsimp only;decide⟩⟩
 ·exact(rE rfl rfl me cC).mono λv R' ⟨a,b⟩=>⟨6,At,ct,s,Ap,cp,_,a,b,hU,bm,hN,λh=>absurd h cC,λ_=>⟨rfl,by rw[jO];dsimp only;decide⟩⟩
 ·refine (VX (s0:=s0) (l:=l0) rfl rfl me bm G hb).mono ?_;rintro v R' ⟨A8,c8,rfl,rfl⟩;exact⟨0,A8,c8,s0,Ap,cp,l0,Z,Z,h1,h2,G,λ_=>by rw[ah];rfl,λh=>absurd rfl h⟩
 ·exact(rE rfl rfl me cC).mono λv R' ⟨a,b⟩=>⟨6,At,ct,s,Ap,cp,_,a,b,hU,bm,hN,λh=>absurd h cC,λ_=>⟨rfl,by rw[jO];dsimp only;decide⟩⟩
theorem aJe (fb:nt=s.length) (fa:np=l.length) (hU:Und base l s) (bm:aO s) (hN:s.length<=40000) (hl:l.length<=100) (h0:0<l.length):
  Ct Tryz.prog 30 #[PG g, .agg #[I 7,sl Ad nd cd,I N,I k,I so,I od,I sz]] B w0 (DK g At nt ct Ap np cp s l R) (λv R'=> ∃(e:Int) (A8:Option Addr) (c8:Nat) (s':List Int) (A7:Option Addr) (c7:Nat) (l':List (Int × Int)),v=I e/\R'=DK g A8 s'.length c8 A7 l'.length c7 s' l' R/\Und base l' s'/\aO s'/\s'.length<=40000/\(e=0->l.length=l'.length+1)/\(e≠0->l'=l/\KF l≠3)):=by
 subst fb;subst fa;rcases hU.inv with⟨rfl,_⟩|⟨l0,K',at_,s0,rfl,h1,h2,h3,h4⟩
 ·exact absurd h0 cD
 have me:l0.length<=1000:=by rw[ah] at hl;omega
 rcases h4 with⟨rfl,ok,hb⟩|⟨rfl,hb⟩|⟨rfl,hb⟩|⟨rfl,k',so',od',Mc,hs,hk,hp⟩
 ·exact(rD rfl rfl me cC).mono λv R' ⟨a,b⟩=>⟨6,At,ct,s,Ap,cp,_,a,b,hU,bm,hN,λh=>absurd h cC,λ_=>⟨rfl,by rw[jO];dsimp only;decide⟩⟩
 ·exact(rD rfl rfl me cC).mono λv R' ⟨a,b⟩=>⟨6,At,ct,s,Ap,cp,_,a,b,hU,bm,hN,λh=>absurd h cC,λ_=>⟨rfl,by rw[jO];dsimp only;decide⟩⟩
 ·exact(rD rfl rfl me cC).mono λv R' ⟨a,b⟩=>⟨6,At,ct,s,Ap,cp,_,a,b,hU,bm,hN,λh=>absurd h cC,λ_=>⟨rfl,by rw[jO];dsimp only;decide⟩⟩
 ·refine (VW (s0:=s0) (l:=l0) rfl rfl me bm G hs h2 G hk hp).mono ?_;rintro v R' ⟨A8,c8,rfl,rfl⟩;exact⟨0,A8,c8,s0,Ap,cp,l0,Z,Z,h1,h2,G,λ_=>by rw[ah];rfl,λh=>absurd rfl h⟩
set_option maxHeartbeats 2000000 in
theorem playUndoes_ct {ao:Option Addr} {ap an:Nat} {u:List Int} {l:List OpR} (am:Rd w ao ap an 1 (ints .u8 u)) (gr:Rd w im lj ir 7 (uC l)) (Sg:XL w l) (ac:aO u):
    Ct Tryz.prog 11 #[sl ao ap an,sl im lj ir] w.heap.size w [] (λv R'=>v=bt):=by
  obtain rfl:=am.lenI;obtain rfl:lj=l.length:=by have:=gr.len;rw[qW] at this;omega
  refine fn1 Tryz.func11 Z Z Z ?_;have pd:=am.max;refine wq<|wn Z<|aG<|wq<|wm Z<|wa (aF bGy Z (Ct.quiet (λw hw=>aHr ((gr.c _) w hw) (Sg.c hw)))) ?_;rintro _ _ ⟨rfl,b1,rfl,sk⟩;refine wm Z<|dQ 4 [(0,sl ao u.length an),(1,sl im l.length ir),(14, .bool (decide ((b1=true)\/(40<((u.length:Nat):Int)))))] [] ?_ ?_
  ·
    refine cK 10 Z (λaq=> ?_) (λaq=> ?_)
    ·
      refine aP Z Z Z Z<|aP Z Z Z Z<|aP Z Z Z Z<|wy (aY Z Z)<|aA ?_;exact⟨SA,λ_ h=>h⟩
    ·
      refine aC Z Z<|wm Z<|aC Z Z<|wy (aQ ai Z)<|aC Z Z<|wy (dV Z Z)<|wy (aR Z Z)<|aA ?_;exact⟨SA,λ_ h=>h⟩
  refine aA<|bJ Z (λcr=> ?_) (λcr=> ?_)
  ·
    refine wq<|wn Z<|dF ?_;refine⟨_,Z,?_⟩
    first
      |rfl
      | (obtain rfl:lx=[]:=vg.1 G
         exact bz Value.bool (lh ⟨Z,hU.none⟩))
  ·
    have hl12:=(sk (by cases b1 with|false=>rfl|true=>exact absurd (Or.inl rfl) cr)).1;refine aJ<|wq<|wa (aF bDs Z (Ct.fresh (λw hw=>UF))) ?_;rintro _ _ ⟨_,rfl,al,rfl,rfl⟩;refine wn Z<|aG<|wq<|wm Z<|wy (dA mf Z Z)<|wm Z<|aC Z Z<|wm Z<|aC Z Z<|wm Z<|aC Z Z<|wy (dU (v:= .agg #[I 1,sl ao u.length an,I 0,I 0,I 0,I 0,I 0]) Z (λw=>cA))<|aC rfl rfl ?_;refine wa (aF aIz Z ((aQr Z Z (am.c _) Z G))) ?_;rintro _ _ ⟨dj,dp,rfl,rfl⟩;refine aC Z Z<|wy (Yl.f (iZ Z Z) cC)<|wy (aR Z Z)<|aA<|aL Z<|aJ<|aG<|wq<|wn Z<|aI ?_;refine EA (λ(i:Int) (At:Option Addr) (ct:Nat) (s:List Int) (Ap:Option Addr) (cp:Nat) (lx:List (Int × Int))=>[(0,sl ao u.length an),(1,sl im l.length ir),(5,PG al),(6,I i)]) (λi At ct s Ap cp lx=>[(rc 102 2 al [sl At s.length ct,sl Ap lx.length cp]),(ru 5 At s.length ct s),⟨106,2,Ap,lx.length,cp,prs lx,false⟩]) (λi At ct s Ap cp lx=>(0<=i)/\(i<=l.length)/\(Und u lx s)/\(aO s)/\(s.length<=40000)/\((lx.length:Int)<=i)) (λi At ct s Ap cp lx=>(l.length-i).toNat) ?_ ?_
    ·
      exact⟨0,dj,dp,u,none,0,[],⟨G,G,(Und.nil),(ac),G,cD⟩,SA,λ_ h=>h⟩
    intro i At ct s Ap cp lx ⟨ar,ia,hU,s9,Up,po⟩;refine aG<|wq<|wm Z<|wm Z<|wy (aQ Cv Z)<|wL Z Z<|aA<|bJ Z (λfd=> ?_) (λfd=> ?_)
    ·
      refine aJ<|aG<|aI<|wq<|wm Z<|wm Z<|wy (gV Cv aSv Z Z (gr.c _) Z)<|wy (QY (off:=0) jv Z sz3 Z Z (gr.c _) G G)<|wy (aKt ak Z Z (gr.c _) G G Z Z)<|wy (iZ Z Z)<|wm Z<|dQ 5 [(0,sl ao u.length an),(1,sl im l.length ir),(5,PG al),(6,I i),(42, .bool (decide ((((rdO l i).K)≠1)/\(((s.length:Nat):Int)<=120))))] [(rc 102 2 al [sl At s.length ct,sl Ap lx.length cp]),(ru 5 At s.length ct s),⟨106,2,Ap,lx.length,cp,prs lx,false⟩] ?_ ?_
      ·
        refine cK 37 Z (λka=> ?_) (λka=> ?_)
        ·
          refine aC Z Z<|wm Z<|aC Z Z<|wa (aF bAx Z ((AR Z Z G))) ?_;rintro _ _ ⟨kd,km,rfl,rfl⟩;refine aC Z Z<|wy (aQ ai Z)<|aC Z Z<|wy (vT Z Z)<|wy (aY Z Z)<|aA ?_;exact⟨SA,λ_ h=>h.sel [1,2,3] cC Z⟩
        ·
          refine aP Z Z Z Z<|aP Z Z Z Z<|aP Z Z Z Z<|aP Z Z Z Z<|wy (aR Z Z)<|aA ?_;exact⟨SA,λ_ h=>h⟩
      refine aA<|bJ Z (λkj=> ?_) (λkj=> ?_)
      ·
        refine aM<|wm Z<|wm Z<|wm Z<|wy (gV Cv aSv Z Z (gr.c _) Z) ?_;have o0:=(Sg.at (i:=i) G G).1;refine wy (bCi jv Z aSv Z (gr.c _) G G)<|wa (aF aIz Z ((aQs (base:=u) Z Z hU s9 G G G))) ?_;rintro _ _ ⟨e1,es,dt,s1,fc,ci,l1,rfl,rfl,Wq,Oi,dd,tz,b5⟩;refine aA<|aM<|wm Z<|wA Z Z<|wn Z ?_;exact⟨i+1,es,dt,s1,fc,ci,l1,⟨G,G,G,G,G,G⟩,G,SA,λ_ h=>h⟩
      ·
        refine aJ<|aM<|wm Z<|wA Z Z<|wn Z ?_;exact⟨i+1,At,ct,s,Ap,cp,lx,⟨G,G,G,G,G,G⟩,G,SA,λ_ h=>h⟩
    ·
      refine aZ<|aG<|wq<|wn Z<|aI ?_;refine EA (λ(j:Int) (At:Option Addr) (ct:Nat) (s:List Int) (Ap:Option Addr) (cp:Nat) (lx:List (Int × Int))=>[(0,sl ao u.length an),(5,PG al),(7,I j)]) (λj At ct s Ap cp lx=>[(rc 102 2 al [sl At s.length ct,sl Ap lx.length cp]),(ru 5 At s.length ct s),⟨106,2,Ap,lx.length,cp,prs lx,false⟩]) (λj At ct s Ap cp lx=>(0<=j)/\(Und u lx s)/\(aO s)/\(s.length<=40000)/\((lx.length:Int)+j<=12)) (λj At ct s Ap cp lx=>(40-j).toNat) ?_ ?_
      ·
        exact⟨0,At,ct,s,Ap,cp,lx,⟨G,G,G,G,G⟩,SA,λ_ h=>h⟩
      intro j At ct s Ap cp lx ⟨yd,hU,s9,Up,po⟩;refine aG<|wq<|wm Z<|wL Z Z<|wm Z<|dQ 4 [(0,sl ao u.length an),(5,PG al),(7,I j),(55, .bool (decide ((j<40)/\(0<((lx.length:Nat):Int)))))] [(rc 102 2 al [sl At s.length ct,sl Ap lx.length cp]),(ru 5 At s.length ct s),⟨106,2,Ap,lx.length,cp,prs lx,false⟩] ?_ ?_
      ·
        refine cK 51 Z (λxi=> ?_) (λxi=> ?_)
        ·
          refine aC Z Z<|wm Z<|aC Z Z<|wa (aF bAw Z ((xD Z Z))) ?_;rintro _ _ ⟨rfl,rfl⟩;refine aC Z Z<|wy (dV Z Z)<|wy (aY Z Z)<|aA ?_;exact⟨SA,λ_ h=>h⟩
        ·
          refine aP Z Z Z Z<|aP Z Z Z Z<|aP Z Z Z Z<|wy (aR Z Z)<|aA ?_;exact⟨SA,λ_ h=>h⟩
      refine aA<|bJ Z (λDd=> ?_) (λDd=> ?_)
      ·
        refine aJ<|aG<|aI<|wq<|wm Z<|wy (dU (v:= .agg #[I 3,sl none 0 0,I 0,I 0,I 0,I 0,I 0]) Z (λw=>cA))<|wa (aF aIz rfl ((aJg (base:=u) rfl rfl hU s9 G G G))) ?_;rintro _ _ ⟨e1,oe,cg,s1,fz,ge,l1,rfl,rfl,Wq,Oi,dd,tz,b5⟩;refine wy (iZ Z Z)<|wm Z<|cK 62 Z (λKq=> ?_) (λKq=> ?_)
        ·
          refine aC Z Z<|wm Z<|aC Z Z<|wy (dU (v:= .agg #[I 5,sl none 0 0,I 0,I 0,I 0,I 0,I 0]) Z (λw=>cA))<|aC rfl rfl<|wa (aF aIz rfl ((aJf (base:=u) rfl rfl Wq Oi G (by rw[(b5 cF).1];omega) (by rw[(b5 cF).1];omega)))) ?_;rintro _ _ ⟨e2,pt,pv,s2,gd,gg,l2,rfl,rfl,hU2,Tn,ox,g7,e9⟩;refine aC Z Z<|wy (iZ Z Z)<|wy (aY Z Z)<|wm Z<|cK 68 Z (λOn=> ?_) (λOn=> ?_)
          ·
            refine aC Z Z<|wm Z<|aC Z Z<|wy (dU (v:= .agg #[I 7,sl none 0 0,I 0,I 0,I 0,I 0,I 0]) Z (λw=>cA))<|aC rfl rfl<|wa (aF aIz rfl ((aJe (base:=u) rfl rfl hU2 Tn G (by rw[(e9 cF).1,(b5 cF).1];omega) (by rw[(e9 cF).1,(b5 cF).1];omega)))) ?_;rintro _ _ ⟨e3,wt,xa,s3,wv,xb,l3,rfl,rfl,hU3,hb13,Pm,hz3,Ri⟩;refine aC Z Z<|wy (Yl.f (iZ Z Z) (λh=>h (EM hU G (b5 cF) (e9 cF) Ri).1))<|wy (aY Z Z)<|aA<|aL Z<|aJ<|aM<|wm Z<|wA Z Z<|wn Z ?_;exact⟨j+1,wt,xa,s3,wv,xb,l3,⟨G,G,G,G,(by first|omega|(have h1:=bz List.length (b5 cF).1;first|omega|(have h2:=bz List.length (e9 cF).1;first|omega|(have h3:=EM hU G (b5 cF) (e9 cF) Ri;omega))))⟩,G,SA,λ_ h=>h⟩
          ·
            refine aP Z Z Z Z<|aP Z Z Z Z<|aP Z Z Z Z<|aP Z Z Z Z<|wy (aR Z Z)<|aA<|aL Z<|aJ<|aM<|wm Z<|wA Z Z<|wn Z ?_;exact⟨j+1,pt,pv,s2,gd,gg,l2,⟨G,G,G,G,(by first|omega|(have h1:=bz List.length (b5 cF).1;first|omega|(have h2:=bz List.length (e9 cF).1;first|omega|(have h3:=EM hU G (b5 cF) (e9 cF) Ri;omega))))⟩,G,SA,λ_ h=>h⟩
        ·
          refine aP Z Z Z Z<|aP Z Z Z Z<|aP Z Z Z Z<|aP Z Z Z Z<|wy (aR Z Z)<|wm Z<|aP Z Z Z Z<|aP Z Z Z Z<|aP Z Z Z Z<|aP Z Z Z Z<|wy (aR Z Z)<|aA<|aL Z<|aJ<|aM ?_;refine wm Z<|wA Z Z<|wn Z ?_;exact⟨j+1,oe,cg,s1,fz,ge,l1,⟨G,G,G,G,(by first|omega|(have h1:=bz List.length (b5 cF).1;first|omega|(have h2:=bz List.length (e9 cF).1;first|omega|(have h3:=EM hU G (b5 cF) (e9 cF) Ri;omega))))⟩,G,SA,λ_ h=>h⟩
      ·
        refine aZ ?_;refine vC [(4, .bool (decide ((((lx.length:Nat):Int)=0)/\(s=u))))] [(rc 102 2 al [sl At s.length ct,sl Ap lx.length cp]),(ru 5 At s.length ct s),⟨106,2,Ap,lx.length,cp,prs lx,false⟩] ?_ ?_
        ·
          refine bT mixed<|wD 0 Z (aN Z)<|wC 1 Z (aF bAw Z ((xD Z Z))) ?_;rintro _ _ ⟨rfl,rfl⟩;refine⟨.inr λ_ h=>h,?_⟩;refine wD 2 Z (bC Z Z)<|wD 3 Z (aN Z)<|mZ 77 Z (λKo=> ?_) (λKo=> ?_)
          ·
            refine wG 4 Z Z Z (aN Z)<|wG 7 Z Z Z (aN Z)<|wG 8 Z Z Z (xL ai cz Gn Z (am.c _))<|aCl 5 Z cA Z Z Z (aF bAx Z ((AR Z Z G))) ?_;rintro _ _ ⟨w5,w9,rfl,rfl⟩;refine⟨.inr λ_ h=>h.right (R':=[_]),?_⟩;refine wG 6 Z Z Z (xL ai cz Gn Z (rdr 0 Z))<|wG 9 Z Z Z (aXd Z Z cF ac)<|wD 10 Z (aY Z Z)<|wD 11 Z (aN Z)<|mZ 85 Z (λKp=> ?_) (λKp=> ?_)
            ·
              refine aCl 12 Z cA Z Z Z (aF bGx Z (Ct.quiet (λw hw=>ZW))) ?_;rintro _ _ ⟨rfl,rfl⟩;refine⟨.inr λ_ h=>h,?_⟩;refine wD 13 Z (aY Z Z)<|wD 14 Z (bP Z)<|wN ?_;exact⟨SA,λ_ h=>h.sel [1,2,3] cC Z⟩
            ·
              refine wO 12 Z Z Z<|wD 13 Z (aR Z Z)<|wD 14 Z (bP Z)<|wN ?_;exact⟨SA,λ_ h=>h.sel [1,2,3] cC Z⟩
          ·
            refine wO 4 Z Z Z<|wO 5 Z Z Z<|wO 6 Z Z Z<|wO 7 Z Z Z<|wO 8 Z Z Z<|wO 9 Z Z Z<|wD 10 Z (aR Z Z)<|wD 11 Z (aN Z)<|wO 12 Z Z Z<|wD 13 Z (aR Z Z)<|wD 14 Z (bP Z)<|wN ?_;exact⟨SA,λ_ h=>h⟩
        refine aT [] 99 cC Z ?_;refine⟨_,Z,?_⟩
        first
          |rfl
          | (obtain rfl:lx=[]:=vg.1 G
             exact bz Value.bool (lh ⟨Z,hU.none⟩))
end Go.Proofs.YtdbebmmhdefgdaaGreat
namespace Go.Eng
open Go Go.ChangeShapes Go.WideShapes Go.RowKit
section
variable {H:Type} {enc:TypeId × Value->H} {P:Program} {w:World} {base:Nat} {spare:Nat->Bool} {held:Bool}
theorem aSr {t t0 t1 t3:TypeId} {cs:List Value} {c0 c1 c2 c3 c4 c5 c6:Value} {x:DataW H × List MemPlace} {fuel:Nat} {f0 f1 f2 f3 g0 g1 g2 g3:Field} (hs:P.underlying t=some (.struct #[f0,f1,f2,f3])) (hg:P.underlying t3=some (.struct #[g0,g1,g2,g3]))
  (h0:f0.type=t0/\f1.type=t1/\f2.type=t0/\f3.type=t3/\f0.offset=0/\f1.offset=1/\f2.offset=2/\f3.offset=3) (h1:g0.type=t0/\g1.type=t0/\g2.type=t0/\g3.type=t0/\g0.offset=0/\g1.offset=1/\g2.offset=2/\g3.offset=3)
  (z0:P.cellsOf t0=1) (z1:P.cellsOf t1=1) (z3:P.cellsOf t3=4) (hi:P.underlying t0=some (.int .i64)) (hf:DataW.trod enc P w base spare held fuel t [c0,c1,c2,c3,c4,c5,c6]=some x):
  ∃(K N p0 p1 p2 p3:Int) (n:Nat) (y:DataW H × List MemPlace),c0= .int .i64 K/\c2= .int .i64 N/\c3= .int .i64 p0/\c4= .int .i64 p1/\c5= .int .i64 p2/\c6= .int .i64 p3/\DataW.trod enc P w base spare held n t1 [c1]=some y:=by
 obtain⟨y0,y1,y2,y3,n,_,_,k0,k1,k2,k3⟩:=Go.Joins.trod_struct4 hs hf;obtain⟨a0,a1,a2,a3,b0,b1,b2,b3⟩:=h0;rw[a0,b0,z0] at k0;rw[a1,b1,z1] at k1;rw[a2,b2,z0] at k2;rw[a3,b3,z3] at k3;simp only[Ev,Bg,Eh,xk] at k0 k1 k2 k3;obtain⟨u0,u1,u2,u3,m,_,_,j0,j1,j2,j3⟩:=Go.Joins.trod_struct4 hg k3;obtain⟨a0,a1,a2,a3,b0,b1,b2,b3⟩:=h1;rw[a0,b0,z0] at j0;rw[a1,b1,z0] at j1;rw[a2,b2,z0] at j2;rw[a3,b3,z0] at j3;simp only[Ev,Bg,Eh,xk] at j0 j1 j2 j3;obtain⟨K,e0,_⟩:=Al hi k0;obtain⟨N,e2,_⟩:=Al hi k2;obtain⟨p0,d0,_⟩:=Al hi j0;obtain⟨p1,d1,_⟩:=Al hi j1;obtain⟨p2,d2,_⟩:=Al hi j2;obtain⟨p3,d3,_⟩:=Al hi j3;simp only[Io,Aa] at e0 e2 d0 d1 d2 d3;exact⟨K,N,p0,p1,p2,p3,n,y1,e0,e2,d0,d1,d2,d3,k1⟩
end
end Go.Eng
namespace Go.Eng
open Go Go.ChangeShapes Go.WideShapes Go.RowKit Go.Pure
theorem aHe {l:List OpR} {j:Nat} {v:Value} (hj:j<l.length*7) (h:(uC l)[j]? =some v):(VJ (rdO l ((j/7:Nat):Int)))[j%7]? =some v:=by
 have h1:j/7<l.length:=G
 rw[<-PO (l:=l) (i:=((j/7:Nat):Int)) G G,ng G,qc];rw[show((j/7:Nat):Int).toNat*7+j%7=j by omega];exact h
theorem bCu {α:Type} {cs:List α} (h:cs.length=7): ∃c0 c1 c2 c3 c4 c5 c6,cs=[c0,c1,c2,c3,c4,c5,c6]:=by
 match cs,h with
 |[c0,c1,c2,c3,c4,c5,c6],_=>exact⟨c0,c1,c2,c3,c4,c5,c6,rfl⟩
section
variable {H:Type} {enc:TypeId × Value->H} {P:Program} {w:World} {base:Nat} {held:Bool}
theorem ops_open {t e t0 t1 t3 tb:TypeId} {cs:List Value} {x:DataW H × List MemPlace} {fuel:Nat} {f0 f1 f2 f3 g0 g1 g2 g3:Field} (ht:P.underlying t=some (.slice e)) (hs:P.underlying e=some (.struct #[f0,f1,f2,f3])) (hg:P.underlying t3=some (.struct #[g0,g1,g2,g3]))
  (h0:f0.type=t0/\f1.type=t1/\f2.type=t0/\f3.type=t3/\f0.offset=0/\f1.offset=1/\f2.offset=2/\f3.offset=3) (h1:g0.type=t0/\g1.type=t0/\g2.type=t0/\g3.type=t0/\g0.offset=0/\g1.offset=1/\g2.offset=2/\g3.offset=3)
  (hc:P.cellsOf e=7) (z0:P.cellsOf t0=1) (z1:P.cellsOf t1=1) (z3:P.cellsOf t3=4) (zb:P.cellsOf tb=1) (hi:P.underlying t0=some (.int .i64)) (hd:P.underlying t1=some (.slice tb)) (hu:P.underlying tb=some (.int .u8)) (hf:DataW.trod enc P w base (λ_=>true) held fuel t cs=some x):
  ∃(a:Option Addr) (cap:Nat) (l:List OpR),cs=[.slice a l.length cap]/\Rd w a l.length cap 7 (uC l)/\XL w l:=by
 rcases Go.Deep.open_slice ht hf with⟨hcs,_⟩|⟨a,len,cap,m,n,D,Pl,hcs,_,hl,hm,hmm,_,pn⟩
 ·exact⟨none,0,[],hcs,⟨rfl,cC,dh _,λj v hv=>by simp[uC] at hv⟩,λo ho=>by cases ho⟩
 simp only[Ii] at hmm;have Uk:=hmm.symm;subst Uk
 have each: ∀i,i<len-> ∃o:OpR,(∀q v,(VJ o)[q]? =some v->w.cell? (a.add (i*7+q))=some v)/\Rd w o.A o.d.length o.c 1 (ints .u8 o.d)/\aO o.d:=by
  intro i Ub;obtain⟨cs',hcell,htr⟩:=pn i G;rw[hc] at hcell;obtain⟨_,hlen,hq⟩:=World.cells?_some hcell;obtain⟨c0,c1,c2,c3,c4,c5,c6,rfl⟩:=bCu hlen;obtain⟨K,N,p0,p1,p2,p3,k,y,rfl,rfl,rfl,rfl,rfl,rfl,hy⟩:=aSr (cs:=[]) hs hg h0 h1 z0 z1 z3 hi htr
  obtain⟨A,c,d,hA,hr,hb⟩: ∃(A:Option Addr) (c:Nat) (d:List Int),c1= .slice A d.length c/\Rd w A d.length c 1 (ints .u8 d)/\ ∀x∈d,(Lit.int .u8 x).wf=true:=by
   rcases open_ints hd hu zb hy with⟨hcs,_⟩|⟨x,l,c,zs,hcs,_,hl,hm,hz,_,hcell,hwz⟩
   ·simp only[Io,Aa] at hcs;exact⟨none,0,[],hcs,rd_none _,λ_ h=>by cases h⟩
   ·simp only[Io,Aa] at hcs;obtain⟨r,hr,r1,r2⟩:=rd_open hl hm (by simpa using hz) hcell hwz;exact⟨some x,c,r,by rw[hcs,hr],r1,r2⟩
  subst hA;refine⟨⟨K,A,c,d,N,p0,p1,p2,p3⟩,λq v hv=> ?_,hr,byteL_wf hb⟩;have hq7:q<7:=(dn.1 hv).1;have:=hq q hq7;rw[add_add] at this;rw[this];exact hv
 obtain⟨f,Mj⟩:=Go.Deep.choose_lt each;have Rm:((List.range len).map f).length=len:=cD
 have ie: ∀i:Nat,i<len->rdO ((List.range len).map f) (i:Int)=f i:=λi h=>by
  unfold rdO;simp[af,zg h]
 refine⟨some a,cap,(List.range len).map f,by rw[Rm];exact hcs,⟨qW _,by rw[Rm];unfold maxLen at hm;omega,by rw[Rm];exact hl,λj v hv=>⟨a,rfl,?_⟩⟩,λo ho=> ?_⟩
 ·have hj:j<((List.range len).map f).length*7:=by
   rw[<-qW];exact(dn.1 hv).1
  have h2:=aHe hj hv;rw[Rm] at hj;rw[ie _ G] at h2;have:=(Mj (j/7) G).1 _ _ h2;rwa[show j/7*7+j%7=j by omega] at this
 ·obtain ⟨i,Is,rfl⟩:=il.1 ho;exact(Mj i (ji.1 Is)).2
end
end Go.Eng

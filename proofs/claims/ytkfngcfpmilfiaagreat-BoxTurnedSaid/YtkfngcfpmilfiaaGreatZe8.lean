/- Own work. -/
import Derived.Test.YtkfngcfpmilfiaaGreatZe7
set_option linter.unusedVariables false
set_option linter.unusedSimpArgs false
set_option maxHeartbeats 8000000
namespace Go.Proofs.YtkfngcfpmilfiaaGreat
open Go Go.Eng Go.Pure
open Tryz
set_option maxRecDepth 100000
section
variable {w:World} {bl Au:AF} {cg bm cu:Nat} {aq:AG} {ws:AD} {so od sz:Int}
theorem AU {vd:AF} {i4 vi:Nat} {m5:AG} {a:AD} (g:Rd w vd i4 vi 1 m5) (d:SlW .u8 w m5 a) (y:a.flatten.length<=100000):
  CF 13 #[sl vd i4 vi] w (λv R'=> ∃A c,v=sl A (a.flatten.length) c/\R'=[(ru 5 A a.flatten.length c (a.flatten))]):=by
 obtain rfl:i4=a.length:=by have:=g.len;have:=d.1;omega
 refine fn1 func13 Z Z Z ?_;have q:=g.max;refine aD Z<|wq<|dX (ru 5 none 0 0 ([]))<|aB Z<|aA<|aD Z<|aF<|eT (λ(i:Int) (A1:AF) (b:Nat) (c1:Nat) (acc:AH)=>[(0,sl vd a.length vi),(3,sl A1 b c1),(4,I i)]) (λi A1 b c1 acc=>[(ru 5 A1 b c1 acc)]) (λi A1 b c1 acc=>(0<=i)/\(i<=a.length)/\(b=acc.length)/\(acc=(a.take i.toNat).flatten)) (λi A1 b c1 acc=>(a.length-i).toNat) ?_ ?_
 ·exact⟨0,none,0,0,[],⟨G,G,(Z),(Z)⟩,KP⟩
 intro i A1 b c1 acc ⟨j,x,k,e⟩;have C:acc.length<=a.flatten.length:=by rw[e];have h:=bi (λl=>l.flatten.length) (ed i.toNat a);simp only[lq,aa] at h;omega
 refine aA<|aD Z<|aR Z ?_ ?_<;>intro ap
 ·have D:=ng (jo (iO (ws:=a) j G));refine aG<|aA<|aF<|aT 3 Z<|wy (aC dm iZ Z Z (g.c _))<|d.elim (i:=i) G G (λu r o p B F=> ?_);exact wy (kS ai Z Z Z (g.c _) o)<|dG (aO 0 Z ai zb5 Z Z Z (p.c _)) λjp m=>bC (v:=sl jp (b+((rdl a i).length)) m) Z<|aB Z<|aT 1 Z<|wA Z Z<|aB Z<|⟨i+1,jp,b+((rdl a i).length),m,acc++(rdl a i),⟨G,G,(by rw[aa,k]),(by rw[gJ j G,e])⟩,G,KP⟩
 refine aP<|aD Z<|aL [0] 99<|⟨_,Z,?_⟩;rw[bg G] at e;subst e;subst k;exact⟨_,_,Z,Z⟩
theorem bBo (a:Rd w bl cg bm 1 aq) (b:SlW .u8 w aq ws) (hp:(0<=so/\so<=2)/\(od=0\/od=1)/\(1<=sz/\sz<=16777216)) (m: ¬gQ ws) (x:ws.flatten.length<=1000/\ws.length<=1000):
  CF 11 #[.agg #[sl Au 0 cu,sl bl ws.length bm], .agg #[I 3,I so,I od,I sz]] w (λv R'=>v=I 0):=by
 obtain rfl:cg=ws.length:=by have:=a.len;have:=b.1;omega
 refine fn1 Kk Z Z Z<|wq<|aX (dC (sz:=2) Z Z) λg=>aX (dC (sz:=4) Z Z) λo=>aB Z<|aA<|wq<|wy (bO (vs:=[I 3,I so,I od,I sz]) (rdr 0 Z) jd Z fC Z Z (ah Z) Z)<|dZ bNa Z (λw d=>JP)<|rO 7 Z (⟨G,hp⟩)<|iC [0] 4 rfl<|aN rfl rfl<|wR rfl rfl<|iC [1] 4 rfl<|aN rfl rfl<|wy (Yl.f (iL rfl rfl) cC)<|iC [0] 5 rfl<|aN rfl rfl<|wy (Yl.f (gD rfl rfl) cC)<|aB rfl<|aM rfl<|aG<|aA<|aD rfl<|aF<|iK (λ(i:Int)=>[(2,PG g),(5,I i)]) (λi=>[(rc 27 4 o [I 3,I so,I od,I sz]),(rc 25 2 g [sl Au 0 cu,sl bl ws.length bm])]) (λi=>(0<=i)/\(i<=ws.length)) (λi=>(ws.length-i).toNat) ?_ ?_
 ·exact⟨0,⟨G,G⟩,KP⟩
 intro i ⟨l,u⟩;refine aA<|lK [1] Z<|aR Z ?_ ?_<;>intro ap
 ·refine aG<|aA<|aF<|cB [1] 3 Z<|wy (aC dm iZ Z Z (a.c _))<|b.elim (i:=i) G G (λy A k p j e=> ?_);exact wy (kS ai Z Z Z (a.c _) k)<|wy (sO ai Z)<|wy (Yl.f (pU Z Z) (λh=>m (NE l G h)))<|aJ<|aM Z<|aG<|aT 1 Z<|wA Z Z<|aB Z<|⟨i+1,⟨G,G⟩,G,KP⟩
 refine aP<|aA<|aA<|bE mixed<|fU [1,1] 0 5 Z<|wC 5 Z (aH aOj Z (Ct.fresh (λw d=>AU ((a.c _) w d) (b.c d) G))) ?_;rintro _ _⟨_,rfl,r,q,rfl,rfl⟩;refine⟨.inr hrZ,?_⟩;refine wD 6 Z (sO ai Z)<|wD 7 Z (dJ Z Z)<|wD 8 Z (Yl.f (iL Z Z))<|fU [2] 9 4 Z<|wG 13 Z Z Z (Yl.f (iL Z Z))<|wD 14 Z (vF Z Z)<|wN<|aM Z<|aG<|aD Z<|aL [] 99<|⟨_,Z,?_⟩;rfl
theorem aGb (o:Rd w bl cg bm 1 aq) (g:SlW .u8 w aq ws) (hp:(0<=so/\so<=2)/\(od=0\/od=1)/\(1<=sz/\sz<=16777216)) (Q: ¬gQ ws) (hN:ws.flatten.length<=1000/\ws.length<=1000):
  CF 14 #[.agg #[I 3,I so,I od,I sz],sl bl cg bm] w (λv R'=> ∃A c,v=sl A (eX od ws).length c/\R'=[(ru 5 A ((eX od ws).length) c (eX od ws))]):=by
 obtain rfl:cg=ws.length:=by have:=o.len;have:=g.1;omega
 refine fn1 func14 Z Z Z ?_;have D: ∀w∈ws,aI w:=λw a=>((g.okB) w a).1;have mt:=gK ws;have N:aI (canon ws).flatten:=λx u=>by obtain⟨l,hl,u⟩:=ny.1 u;exact(CO (g.okB) l hl).1 x u
 refine wq<|aX (dC (sz:=4) Z Z) λp=>aB Z<|aK 1 Z<|wa (aH bWf Z (Ct.fresh (λw a=>YU ((o.c _) w a) (g.c a) ⟨λw a=>by have:=ng (jo a);omega,G⟩))) ?_;rintro _ _⟨_,rfl,q,y,r,B,L1,b,e1,rfl,j,rfl⟩;obtain rfl:=aIs j Q G G;have Ms:=j.tlen;have w9:=xQ j;have ya:=xR j;have Bk:=cK 2 (b.length:Int) G;refine aB Z<|aK 2 Z<|bZ YA Z (λw a=>iX G) λT R=>aB Z<|aA<|aD Z<|aF<|eT (λ(i:Int) (A1:AF) (d:Nat) (c1:Nat) (acc:AH)=>[(1,sl bl ws.length bm),(2,PG p),(5,sl q L1.length r),(6,sl y b.length B),(8,sl A1 d c1),(9,I i)]) (λi A1 d c1 acc=>((ru 5 A1 d c1 acc)::(ru 5 q L1.length r L1)::(ri 3 y b.length B b)::(rc 27 4 p [I 3,I so,I od,I sz])::[])) (λi A1 d c1 acc=>(0<=i)/\(i<=b.length)/\(d=acc.length)/\(acc=aU (b.length:Int)++((b.take i.toNat).map aU).flatten)/\((acc.length:Int)<=3+i*3)) (λi A1 d c1 acc=>(b.length-i).toNat) ?_ ?_
 ·exact⟨0,T,(aU (b.length:Int)).length,R,aU (b.length:Int),⟨G,G,(Z),cD,G⟩,KP⟩
 intro i A1 d c1 acc ⟨J,gn,P,m,ph⟩;refine aA<|aD Z<|aR Z ?_ ?_<;>intro ap
 ·have S:=w9 _ (bM (L:=b) (k:=i) J G);have yp:=cK 2 (rd b i) G;exact aG<|aA<|aF<|aT 3 Z<|wy (aC ak sz3 Z Z (rdr 2 Z))<|wy (aQ av Z Z (rdr 2 Z))<|bZ YA Z (λw a=>iX G) λfg ew=>dG (aO 1 Z ai zb5 Z Z Z (rdr 0 Z)) λK M=>bC (v:=sl K (d+((aU (rd b i)).length)) M) Z<|aB Z<|aT 1 Z<|wA Z Z<|aB Z<|⟨i+1,K,d+((aU (rd b i)).length),M,acc++(aU (rd b i)),⟨G,G,(by rw[aa,P]),(by rw[SG J G,<-dx,<-m]),(by rw[aa];omega)⟩,G,SA,λ_ h=>h.selR (F:=[_,_,_,_,_]) (F':=[_,_,_,_]) [1,2,3,4] cC Z⟩
 rw [bg G] at m;refine aP<|aA<|bE mixed<|wD 0 Z (bO (vs:=[I 3,I so,I od,I sz]) (rdr 3 Z) jd Z fC Z Z (ah Z) Z)<|wD 1 Z (dI Z)<|bF 4 2 Z<|wC 2 Z (aH bWa Z (Ct.fresh (λw a=>aBp ((o.c _) w a) (g.c a) ⟨λw a=>by have:=ng (jo a);omega,G⟩))) ?_;rintro _ _⟨_,rfl,kl,pj,C,O,rfl,H,rfl⟩;refine⟨.inr λ_ h=>h.right,?_⟩;have Ws:=H.1;refine aZf (R1:=(⟨22,1,kl,C.length,pj,C,false⟩::(ru 5 A1 d c1 acc)::(ru 5 q L1.length r L1)::(ri 3 y b.length B b)::(rc 27 4 p [I 3,I so,I od,I sz])::O)) (λ_=>Hp.toTailI0 (X:=[_]) (Y:=[_,_,_,_]))<|wC 3 Z (aH aOj Z (Ct.fresh (λw a=>AU ((rdr 0 Z) w a) (H.slw (CO g.okB) (Hp.right (R':=[_,_,_,_,_]) a)) G))) ?_;rintro _ _⟨_,rfl,sd,sf,rfl,rfl⟩;refine⟨.inr hrZ,?_⟩;refine wC 6 Z (aH bMz Z (Ct.fresh (λw a=>vO ((rdr 0 Z) w a) ((rdr 2 Z) w a) ((rdr 3 Z) w a) N (j.bytes D) hp.2.1 ⟨G,G,G⟩))) ?_;rintro _ _⟨_,rfl,qu,qv,rfl,rfl⟩;refine⟨.inr hrZ,?_⟩;refine wD 7 Z (bY Z)<|wN<|gN (R1:=[(ru 5 qu ((aU ((((canon ws)).flatten).length:Nat)++(acc++(aU ((bT L1 od).length:Nat)++(fT (bv (lG (((canon ws)).flatten)))++bT L1 od)))).length) qv (aU ((((canon ws)).flatten).length:Nat)++(acc++(aU ((bT L1 od).length:Nat)++(fT (bv (lG (((canon ws)).flatten)))++bT L1 od)))))]) (λ_ h=>(h.selR (F:=[_,_,_,_,_,_,_]) (F':=[_]) [0] cC Z).left (X:=[_]))<|⟨_,Z,?_⟩
 have e:eX od ws=aU ((canon ws).flatten.length:Nat)++(acc++(aU ((bT L1 od).length:Nat)++(fT (bv (lG (canon ws).flatten))++bT L1 od))):=by
  unfold eX xD;rw[QO j D,m]
 rw[e];exact⟨_,_,Z,Z⟩
theorem bBv (g:Rd w bl cg bm 1 aq) (d:SlW .u8 w aq ws) (hp:(0<=so/\so<=2)/\(od=0\/od=1)/\(1<=sz/\sz<=16777216)) (h: ¬gQ ws) (j:ws.flatten.length<=1000/\ws.length<=1000) (hex: ∃L TS,ExtR ws L TS 0):
  CF 5 #[.agg #[sl Au 0 cu,sl bl ws.length bm], .agg #[I 3,I so,I od,I sz]] w (λv R'=> ∃A c,v= .tuple #[sl A (tC so od sz ws).length c,I 0]/\R'=[(ru 5 A ((tC so od sz ws).length) c (tC so od sz ws))]):=by
 obtain rfl:cg=ws.length:=by have:=g.len;have:=d.1;omega
 refine fn2 func5 Z Z Z ?_;have q: ∀w∈ws,aI w:=λw b=>((d.okB) w b).1;have B:=cK 4 sz G;have y:=cK 2 (ws.flatten.length:Int) G;have P:=(rG (od:=od) q h hex j).1;refine wq<|aX (dC (sz:=2) Z Z) λQ=>aX (dC (sz:=4) Z Z) λS=>aB Z<|wq<|wy (bO (vs:=[sl Au 0 cu,sl bl ws.length bm]) (rdr 1 Z) pz Z iJ Z Z (ah Z) Z)<|wy (bO (vs:=[I 3,I so,I od,I sz]) (rdr 0 Z) jd Z fC Z Z (ah Z) Z)<|dZ bTo Z (λw b=>bBo ((g.c _) w b) (d.c b) hp h j)<|aB Z<|aA<|aK 1 Z<|wy (Yl.f (gD Z Z) cC)<|aJ<|aM Z<|aG<|wq<|aX (bG .u8 [87,72,82,76,1] ai zs5 Z Z Z) λjx=>dD (aEk 0 Z Z ai ay Z Z)<|iC [1] 2 Z<|wy (eP av ay Z)<|iC [1] 2 Z<|wy (eP av ay Z)<|iC [1] 2 Z<|wy (eP av ay Z)<|aX (bG .u8 [3%256,so%256,od%256] ai zs5 Z Z Z) λsk=>dG (wF ai zb5 Z (rdr 1 Z) Z (rdr 0 Z) (by first|decide|(dsimp only;decide)) (by first|decide|(dsimp only;decide)) (by first|decide|(dsimp only;decide)) (by first|decide|(dsimp only;decide)) (by first|decide|(dsimp only;decide)) Z) λK x=> ?_;refine bC (v:=sl (GG K) 8 x) Z<|aB Z<|cB [3] 3 Z<|bZ YA Z (λw b=>iX G) λjn R=>dG (aO 1 Z ai zb5 Z Z Z (rdr 0 Z) cG) λM J=>bC (v:=sl M (8+((aU sz).length)) J) Z<|aB Z<|aA<|bE mixed<|fU [5,5] 0 5 Z<|wC 5 Z (aH aOj Z (Ct.fresh (λw b=>AU ((g.c _) w b) (d.c b) G))) ?_;rintro _ _⟨_,rfl,Y,gi,rfl,rfl⟩;refine⟨.inr hrZ,?_⟩;refine wD 6 Z (sO ai Z)<|wD 7 Z (Yl.is (dJ Z Z) (bi (Value.int .i64) (Int.zero_add _)))<|wD 8 Z (bY Z)<|wN<|aA<|lK [6] Z<|aR Z ?_ ?_<;>intro ap
 ·refine aT 1 Z<|wy (bO (vs:=[I 3,I so,I od,I sz]) (rdr 5 Z) jd Z fC Z Z (ah Z) Z)<|iC [6] 2 Z<|bZ cBc Z (λw b=>aGb ((g.c _) w b) (d.c b) hp h j) λT X=>dG (aO 3 Z ai zb5 Z Z Z (rdr 0 Z) cG) λC D=>bC (v:=sl C ((8+((aU sz).length))+((eX od ws).length)) D) Z<|aB Z<|aA<|lK [7] Z<|aF<|kI 1<|eD<|aA<|aK 2 Z<|wy (Yl.f (iL Z Z) cC)<|aJ<|aM Z<|aP<|aK 1 Z<|aX (bG .u8 [0] ai zs5 Z Z Z) λO=>dG (aO 4 Z ai zb5 Z Z Z (rdr 0 Z) cG) λF H=>bC (v:=sl F (((8+((aU sz).length))+((eX od ws).length))+1) H) Z<|wm Z<|bZ YA Z (λw b=>iX G) λtc tg=>dG (aO 5 Z ai zb5 Z Z Z (rdr 0 Z) cG) λl m=>bC (v:=sl l ((((8+((aU sz).length))+((eX od ws).length))+1)+((aU (ws.flatten.length:Int)).length)) m) Z<|aB Z<|aL [5] 99<|⟨_,_,Z,Z,?_⟩
  have e:(([87,72,82,76,1]++[3%256,so%256,od%256])++aU sz)++eX od ws++[0]++aU (ws.flatten.length:Int)=tC so od sz ws:=by
   rw[kg (a:=so) G G,kg (a:=od) G G];unfold tC;rw[bq (λe=>by subst e;exact absurd ap cC),gK,show aU 0=[0] from rfl];simp
  have i:=bi List.length e;simp only[aa] at i;simp only[<-e,aa];exact⟨_,_,Z,Z⟩
 refine aG<|aA<|lK [6] Z<|aF<|kI 1<|eD<|aA<|aK 2 Z<|wy (Yl.f (iL Z Z) cC)<|aJ<|aM Z<|aP<|aK 1 Z<|aX (bG .u8 [0] ai zs5 Z Z Z) λk=>dG (aO 3 Z ai zb5 Z Z Z (rdr 0 Z) cG) λo p=>bC (v:=sl o ((8+((aU sz).length))+1) p) Z<|wm Z<|bZ YA Z (λw b=>iX G) λN Fd=>dG (aO 4 Z ai zb5 Z Z Z (rdr 0 Z) cG) λr u=>bC (v:=sl r (((8+((aU sz).length))+1)+((aU (ws.flatten.length:Int)).length)) u) Z<|aB Z<|aL [4] 99<|⟨_,_,Z,Z,?_⟩
 have e:(([87,72,82,76,1]++[3%256,so%256,od%256])++aU sz)++[0]++aU (ws.flatten.length:Int)=tC so od sz ws:=by
  rw[kg (a:=so) G G,kg (a:=od) G G];unfold tC;rw[cz (di G),gK,show aU 0=[0] from rfl];simp
 have i:=bi List.length e;simp only[aa] at i;simp only[<-e,aa];exact⟨_,_,Z,Z⟩
end
section
variable {w:World} {k so od sz:Int} {ao bl:AF} {ar an cg bm:Nat} {u:AH} {aq:AG} {ws:AD}
theorem aBr:
  CF 47 #[.agg #[I k,I so,I od,I sz]] w (λv R'=>v= .bool (decide ((0<=k/\k<=3)/\(0<=so/\so<=2)/\(od=0\/od=1)/\(1<=sz/\sz<=16777216)))):=by
 refine fn1 Tryz.func47 Z Z Z<|wq<|aX (dC (sz:=4) Z Z) λa=>aB Z<|cB [0] 4 Z<|bD 4 [1] 10 (.bool (decide ((0<=k)/\(k<=3)))) Z ?_ ?_
 ·refine bB 6 Z ?_ ?_<;>intro ap
  ·exact sJ [0] Z<|KP
  exact aB Z<|KP
 refine wm Z<|bD 4 [1] 15 (.bool (decide (((0<=k)/\(k<=3))/\(0<=so)))) Z ?_ ?_
 ·refine bB 11 Z ?_ ?_<;>intro d
  ·exact sJ [0] Z<|KP
  exact aB Z<|KP
 refine wm Z<|bD 4 [1] 20 (.bool (decide ((((0<=k)/\(k<=3))/\(0<=so))/\(so<3)))) Z ?_ ?_
 ·refine bB 16 Z ?_ ?_<;>intro e
  ·exact sJ [0] Z<|KP
  exact aB Z<|KP
 refine wm Z<|bD 9 [1] 30 (.bool (decide (((((0<=k)/\(k<=3))/\(0<=so))/\(so<3))/\((od=0)\/(od=1))))) Z ?_ ?_
 ·refine bB 21 Z ?_ ?_<;>intro g
  ·refine iC [0] 4 Z<|bD 4 [1,21] 29 (.bool (decide ((od=0)\/(od=1)))) Z ?_ ?_
   ·refine bB 25 Z ?_ ?_<;>intro h
    ·exact aB Z<|KP
    exact sJ [0] Z<|KP
   exact aB Z<|KP
  exact aB Z<|KP
 refine wm Z<|bD 4 [1] 35 (.bool (decide ((((((0<=k)/\(k<=3))/\(0<=so))/\(so<3))/\((od=0)\/(od=1)))/\(1<=sz)))) Z ?_ ?_
 ·refine bB 31 Z ?_ ?_<;>intro pi
  ·exact sJ [0] Z<|KP
  exact aB Z<|KP
 refine wm Z<|wJ 4 [(40, .bool (decide (((((((0<=k)/\(k<=3))/\(0<=so))/\(so<3))/\((od=0)\/(od=1)))/\(1<=sz))/\(sz<=16777216))))] [(rc 27 4 a [I k,I so,I od,I sz])] ?_ ?_
 ·refine bB 36 Z ?_ ?_<;>intro b
  ·exact sJ [0] Z<|KP
  exact aB Z<|KP
 refine aB Z<|aL [] 99<|⟨_,Z,?_⟩;exact bi Value.bool (sw.2 G)
theorem bBp (am:R4 w ao ar an u) (a:Rd w bl cg bm 1 aq) (b:SlW .u8 w aq ws) (o: ¬(((0<=k/\k<=3)/\(0<=so/\so<=2)/\(od=0\/od=1)/\(1<=sz/\sz<=16777216))/\(k≠3->ws.length=0)/\(k=3->u.length=0)/\ ¬gQ ws)) (M:ws.flatten.length<=400/\ws.length<=400/\u.length<=400):
  CF 11 #[.agg #[sl ao u.length an,sl bl ws.length bm], .agg #[I k,I so,I od,I sz]] w (λv R'=>v=I 1):=by
 obtain rfl:=am.lenI;obtain rfl:cg=ws.length:=by have:=a.len;have:=b.1;omega
 refine fn1 Kk Z Z Z<|wq<|aX (dC (sz:=2) Z Z) λh=>aX (dC (sz:=4) Z Z) λx=>aB Z<|aA<|wq<|wy (bO (vs:=[I k,I so,I od,I sz]) (rdr 0 Z) jd Z fC Z Z (ah Z) Z)<|dZ bNa Z (λw d=>JP)<|wy (pO Z)<|wm Z<|bD 10 [2,3] 19 (.bool (decide ((¬((0<=k/\k<=3)/\(0<=so/\so<=2)/\(od=0\/od=1)/\(1<=sz/\sz<=16777216)))\/((k=3)/\(0<(u.length:Int)))))) Z ?_ ?_
 ·refine bB 9 Z ?_ ?_<;>intro ap
  ·exact aB Z<|KP
  refine iC [0] 4 Z<|bD 5 [2,3,9] 18 (.bool (decide ((k=3)/\(0<(u.length:Int))))) Z ?_ ?_
  ·refine bB 13 Z ?_ ?_<;>intro C
   ·exact sJ [1] Z<|KP
   exact aB Z<|KP
  exact aB Z<|KP
 refine wm Z<|bD 10 [2] 30 (.bool (decide (((¬((0<=k/\k<=3)/\(0<=so/\so<=2)/\(od=0\/od=1)/\(1<=sz/\sz<=16777216)))\/((k=3)/\(0<(u.length:Int))))\/((k≠3)/\(0<(ws.length:Int)))))) Z ?_ ?_
 ·refine bB 20 Z ?_ ?_<;>intro D
  ·exact aB Z<|KP
  refine iC [0] 4 Z<|bD 5 [2,20] 29 (.bool (decide ((k≠3)/\(0<(ws.length:Int))))) Z ?_ ?_
  ·refine bB 24 Z ?_ ?_<;>intro F
   ·exact sJ [1] Z<|KP
   exact aB Z<|KP
  exact aB Z<|KP
 refine aJ<|aR Z ?_ ?_<;>intro J
 ·refine aD Z<|aL [] 99<|⟨_,Z,?_⟩;rfl
 refine aG<|aA<|aD Z<|aF<|iK (λ(i:Int)=>[(2,PG h),(5,I i)]) (λi=>[(rc 27 4 x [I k,I so,I od,I sz]),(rc 25 2 h [sl ao u.length an,sl bl ws.length bm])]) (λi=>(0<=i)/\(i<=ws.length)/\(∀j:Int,0<=j->j<i->j<ws.length->0<(rdl ws j).length)) (λi=>(ws.length-i).toNat) ?_ ?_
 ·exact⟨0,⟨G,G,(λj h1 q=>G)⟩,KP⟩
 intro i ⟨B,L,l⟩;refine aA<|lK [1] Z<|aR Z ?_ ?_<;>intro pi
 ·refine aG<|aA<|aF<|cB [1] 3 Z<|wy (aC dm iZ Z Z (a.c _))<|b.elim (i:=i) G G (λN O p y m e=> ?_);refine wy (kS ai Z Z Z (a.c _) p)<|aB Z<|aR Z ?_ ?_<;>intro A
  ·refine aD Z<|aL [] 99<|⟨_,Z,?_⟩;rfl
  refine aG<|aT 1 Z<|wA Z Z<|aB Z ?_
  exact⟨i+1,⟨G,G,(λj h1 q r=>by
    rcases bz j i with g|g
    ·exact l j h1 g r
    obtain rfl:j=i:=G
    omega)⟩,G,KP⟩
 refine aP<|aA<|aA<|bE mixed<|fU [1,1] 0 5 Z<|wC 5 Z (aH aOj Z (Ct.fresh (λw d=>AU ((a.c _) w d) (b.c d) G))) ?_;rintro _ _⟨_,rfl,K,H,rfl,rfl⟩;refine⟨.inr hrZ,?_⟩;refine wD 6 Z (sO ai Z)<|wD 7 Z (dJ Z Z)<|wD 8 Z (Yl.f (iL Z Z))<|fU [2] 9 4 Z<|wG 13 Z Z Z (Yl.f (iL Z Z))<|wD 14 Z (vF Z Z)<|wN<|aM Z<|aG<|aD Z<|aL [] 99<|⟨_,Z,?_⟩;exact absurd ⟨G,G,G,ND (i:=i) G l⟩ o
theorem bBw (am:R4 w ao ar an u) (b:Rd w bl cg bm 1 aq) (d:SlW .u8 w aq ws) (e: ¬(((0<=k/\k<=3)/\(0<=so/\so<=2)/\(od=0\/od=1)/\(1<=sz/\sz<=16777216))/\(k≠3->ws.length=0)/\(k=3->u.length=0)/\ ¬gQ ws)) (g:ws.flatten.length<=400/\ws.length<=400/\u.length<=400):
  CF 5 #[.agg #[sl ao u.length an,sl bl ws.length bm], .agg #[I k,I so,I od,I sz]] w (λv R'=>v= .tuple #[sl none 0 0,I 1]):=by
 obtain rfl:=am.lenI;obtain rfl:cg=ws.length:=by have:=b.len;have:=d.1;omega
 refine fn2 Tryz.func5 Z Z Z<|wq<|aX (dC (sz:=2) Z Z) λh=>aX (dC (sz:=4) Z Z) λi=>aB Z<|wq<|wy (bO (vs:=[sl ao u.length an,sl bl ws.length bm]) (rdr 1 Z) pz Z iJ Z Z (ah Z) Z)<|wy (bO (vs:=[I k,I so,I od,I sz]) (rdr 0 Z) jd Z fC Z Z (ah Z) Z)<|dZ bTo Z (λw a=>bBp ((am.c _) w a) ((b.c _) w a) (d.c a) e g)<|aB Z<|aA<|aK 1 Z<|wy (Yl.t (gD Z Z) cC)<|aJ<|bA Z<|aD Z<|aL [] 99<|⟨_,_,Z,Z,?_⟩;rfl
end
section
variable {ws:AD}
theorem aVv {w:World} {ao:AF} {ar an:Nat} {u:AH} {bl:AF} {cg bm:Nat} {aq:AG} (am:R4 w ao ar an u) (a:Rd w bl cg bm 1 aq) (e:SlW .u8 w aq ws) (o:u.length<=140737488355327):
  CF 4 #[.agg #[sl ao u.length an,sl bl ws.length bm]] w (λv R'=> ∃b:Bool,v= .bool (decide (b=true))/\(b=false->u.length<=60/\ws.flatten.length<=60/\ws.length<=30)):=by
 obtain rfl:=am.lenI;obtain rfl:cg=ws.length:=by have:=a.len;have:=e.1;omega
 refine fn1 Tryz.func4 Z Z Z<|wq<|aX (dC (sz:=2) Z Z) λd=>aB Z<|lK [0] Z<|aA<|aD Z<|aF<|dF (λ(i:Int) (n:Int)=>[(1,PG d),(3,I n),(4,I i)]) (λi n=>[(rc 25 2 d [sl ao u.length an,sl bl ws.length bm])]) (λi n=>(0<=i)/\(i<=ws.length)/\(i<=40)/\(n=u.length+((ws.take i.toNat).flatten.length:Int))/\(n<=140737488355328*(i+1))) (λi n=>(40-i).toNat) ?_ ?_
 ·exact⟨0,(u.length:Int),⟨G,G,G,cD,G⟩,KP⟩
 intro i n ⟨j,A,p,hn,C⟩;have In:=e.okB;have D:i<ws.length->(rdl ws i).length<=140737488355327:=λh=>(In _ (iO j h)).2;refine aA<|cB [0] 6 Z<|bD 3 [1,3,4] 16 (.bool (decide ((i<(ws.length:Int))/\(i<40)))) Z ?_ ?_
 ·refine bB 13 Z ?_ ?_<;>intro ap
  ·exact aB Z<|KP
  exact aB Z<|KP
 refine aJ<|aR Z ?_ ?_<;>intro q
 ·refine aG<|aA<|aF<|nQ [0] 4 Z<|wy (aC dm iZ Z Z (a.c _))<|e.elim (i:=i) G G (λx y l F k g=> ?_);exact wy (kS ai Z Z Z (a.c _) l)<|wy (sO ai Z)<|wA Z Z<|aB Z<|aT 1 Z<|wA Z Z<|aB Z<|⟨i+1,n+(((rdl ws i).length:Nat):Int),⟨G,G,G,(by rw[gJ j G,aa,hn];omega),G⟩,G,KP⟩
 refine aP<|aK 3 Z<|wJ 5 [(34, .bool (decide ((60<n)\/(30<(ws.length:Int)))))] [(rc 25 2 d [sl ao u.length an,sl bl ws.length bm])] ?_ ?_
 ·refine bB 29 Z ?_ ?_<;>intro r
  ·exact aB Z<|KP
  exact sJ [0] Z<|KP
 refine aB Z<|aL [] 99<|⟨_,Z,?_⟩;refine⟨decide (60<n\/30<(ws.length:Int)),cD,λh=> ?_⟩;have B: ¬(60<n\/30<(ws.length:Int)):=by simpa using h
 have m:ws.take i.toNat=ws:=bg G;rw[m] at hn;exact⟨G,G,G⟩
theorem aOg {so od sz:Int} {ws:AD} (hs:0<=so/\so<=2) (i:od=0\/od=1) (hb: ∀w∈ws,aI w) (b: ¬gQ ws) (e: ∃L TS,ExtR ws L TS 0) (d:ws.flatten.length<=1000/\ws.length<=1000) (g:0<=sz):aI (tC so od sz ws):=by
 have a:=(rG (od:=od) hb b e d).2;unfold tC;intro x h;simp only[ek] at h;rcases h with(((h|h)|h)|h)|h|h
 ·simp only[il,vw,Ib] at h;omega
 ·simp only[il,vw,Ib] at h;omega
 ·exact dM g x h
 ·split at h
  ·cases h
  exact a x h
 ·exact dM cC x h
 exact dM G x h
theorem bFn (a: ¬gQ ws) (h1:ws.length<=1000) (b:ws.flatten.length<=100000): ∃L TS,ExtR ws L TS 0:=WB (λw d=>Bh λe=>a ⟨w,d,e⟩) h1 b
end
section
variable {B:Nat} {w0 w:World} {X Rs Y X0 R0:List Row}
theorem Hp.toTailX (h:Hp B w0 w ((X++Rs)++(Y++(X0++R0)))):Hp B w0 w (X++(Y++((Rs++X0)++R0))):=by
 rw[dx Rs];exact Hp.toTail h
theorem Hp.toTailY (h:Hp B w0 w (X++((Rs++(Y++X0))++R0))):Hp B w0 w (X++(Y++((Rs++X0)++R0))):=by
 rw[dx,dx,<-dx X] at h;exact Hp.toTailX h
theorem Hp.toTailZ (h:Hp B w0 w (X++((Rs++[])++Y))):Hp B w0 w (X++(Y++Rs)):=by
 rw[ik,<-dx] at h;exact Hp.toTail0 h
end
section
variable {B g ar an gc nt ct nx cx:Nat} {w0:World} {R X R0:List Row} {ao At Ax:AF} {u:AH} {p0 p1 p2 p3 ms tt ls k:Int}
theorem bJf {most:Int} (am:R6 B w0 R ao ar an u) (ce:ar=u.length) (k:u.length<=1000000) (e:aI u) (hb:0<=most/\most<=9223372036854775807):
  CT 70 #[PG g,I most] B w0 ((rc 80 1 g [sl ao ar an])::R) (λv R'=>(∃(V:Int) (m:Nat),rJ u V m/\V<=most/\v= .tuple #[I V,bt]/\R'=(rc 80 1 g [sl (lL ao m an 1) (ar-m) (an-m)])::R)\/((∀V m,rJ u V m->most<V)/\v= .tuple #[I 0,bf]/\R'=(rc 80 1 g [sl ao ar an])::R)):=by
 subst ce;refine fn2 func70 Z Z Z<|aD Z<|aA<|aK 1 Z<|wy (kT underlying47 Z Z)<|bH 2 Z<|aN Z Z<|wy (Yl.f (fD Z Z))<|aB Z<|aM Z<|aG<|cB [0] 4 Z<|wa (aH bYo Z (Ct.quiet (λw o=>bMm ((RdC.right am [_]) w o) e k))) ?_;rintro _ _⟨rfl,⟨V,m,a,rfl⟩|⟨a,rfl⟩⟩
 ·have p:=a.1;have l:m<=u.length:=by obtain⟨_,q,t,i⟩:=a;have j:=bi List.length i;rw[aa] at j;omega
  refine aB Z<|aA<|aK 5 Z<|aN Z Z<|wy (dO av ic Z)<|aB Z<|aR Z ?_ ?_<;>intro ap
  ·refine aD Z<|aS<|⟨_,_,Z,Z,?_⟩;exact .inr ⟨λb d h=>by rw[(h.one a).1];omega,rfl,rfl⟩
  refine aG<|cB [0] 6 Z<|wy (dE ai sz5 Z Z)<|bH 2 Z<|bN (aV 0 Z Z Z iZ Z Z Z Z (ah Z))<|aJ<|aK 1 Z<|wy (gV ic av Z)<|aB Z<|aS<|⟨_,_,Z,Z,?_⟩;exact .inl ⟨_,_,a,G,rfl,rfl⟩
 refine aB Z<|aA<|aD Z<|bA Z<|aD Z<|aS<|⟨_,_,Z,Z,?_⟩;exact .inr ⟨λb d h=>absurd ⟨b,d,h⟩ a,Z,Z⟩
theorem oC (am:R6 B w0 R0 ao ar an u) (ce:ar=u.length) (p:u.length<=1000000) (j:aI u):
  CT 37 #[PG g] B w0 ((rc 50 10 g [PG gc,I p0,I p1,I p2,I p3,I ms,I tt,I ls,sl At nt ct,sl Ax nx cx])::(rc 80 1 gc [sl ao ar an])::(X++R0)) (λv R'=>(∃(V:Int) (t:AH),iG u=some (V,t)/\ ∃(d:AF) (i:Nat),RdC B w0 R0 d (t).length i 1 (ints .u8 (t))/\v= .tuple #[I V,bt]/\R'=(rc 50 10 g [PG gc,I p0,I p1,I p2,I p3,I ms,I tt,I ls,sl At nt ct,sl Ax nx cx])::(rc 80 1 gc [sl d ((t).length) i])::(X++R0))\/(iG u=none/\v= .tuple #[I 0,bf]/\R'=(rc 50 10 g [PG gc,I p0,I p1,I p2,I p3,I ms,I tt,I ls,sl At nt ct,sl Ax nx cx])::(rc 80 1 gc [sl ao ar an])::(X++R0))):=by
 subst ce;refine fn2 func37 Z Z Z<|aD Z<|cB [0] 4 Z<|wa (aH cAm Z (Ct.pk [1,0] 2 (h:=bJf (RdC.right am ((rc 50 10 g [PG gc,I p0,I p1,I p2,I p3,I ms,I tt,I ls,sl At nt ct,sl Ax nx cx])::X)) Z p j cC))) ?_;rintro _ _ (⟨V,m,a,q,rfl,rfl⟩|⟨a,rfl,rfl⟩)
 ·refine aB Z<|aL [1,0] 2<|⟨_,_,Z,Z,?_⟩;have b:m<=u.length:=by obtain⟨_,r,t,k⟩:=a;have o:=bi List.length k;rw[aa] at o;omega
  have e:=RdC.fromI (l:=m) am b;have hl:u.length-m=(u.drop m).length:=by rw[az]
  rw[hl] at e;rw[hl];exact .inl ⟨_,_,VO a q,_,_,e,Z,Z⟩
 refine aB Z<|aL [1,0] 2<|⟨_,_,Z,Z,?_⟩;exact .inr ⟨bMl a,Z,Z⟩
theorem Ct.rr {P:Program} {f:FuncId} {args:Array Value} {Post b:Value->List Row->Prop} (h:Ct P f args B w0 R Post) (hp: ∀v R',Post v R'-> ∃a,(∀w,Hp B w0 w R'->Hp B w0 w a)/\b v a):Ct P f args B w0 R b:=
 λw j=>(h w j).mono λ_ _ ⟨v,R',e,g,i⟩=>by
  obtain⟨a,h1,d⟩:=hp v R' i;exact⟨v,a,e,h1 _ g,d⟩
theorem aRi {b:AH} (hb:aI b):0<=UU b/\UU b<4294967296:=by
 have a:=hb.rd 0;have h1:=hb.rd 1;have d:=hb.rd 2;have e:=hb.rd 3;unfold UU;omega
theorem IZ (am:R6 B w0 R0 ao ar an u) (ce:ar=u.length) (a:u.length<=1000000) (hk:u.length<k):
  CT 69 #[PG gc,I k] B w0 ((rc 80 1 gc [sl ao ar an])::(X++R0)) (λv R'=>v= .tuple #[sl none 0 0,bf]/\R'=(rc 80 1 gc [sl ao ar an])::(X++R0)):=
 aTx (R:=X++R0) (RdC.right am X) ce a (.inr hk)
theorem aQc (am:R6 B w0 R0 ao ar an u) (ce:ar=u.length) (g:u.length<=1000000) (hk:0<=k):
  CT 69 #[PG gc,I k] B w0 ((rc 80 1 gc [sl ao ar an])::(X++R0)) (λv R'=> ∃(A1:AF) (j c1:Nat) (ok:Bool),∃(t:AH),t.length<=u.length/\ ∃(a:AF) (b:Nat),RdC B w0 R0 a (t).length b 1 (ints .u8 (t))/\v= .tuple #[sl A1 j c1, .bool ok]/\R'=(rc 80 1 gc [sl a ((t).length) b])::(X++R0)):=by
 subst ce;by_cases h:k<=u.length
 ·refine Ct.rr (IY (u.take k.toNat) (u.drop k.toNat) am rfl g (by rw[ax];omega) (ed _ _).symm) λv R' d=> ?_;obtain⟨A1,c1,a,b,e,rfl,rfl⟩:=d;exact⟨_,λw i=>i.tail,_,_,_,_,_,(by rw[az];omega),_,_,e,Z,Z⟩
 refine (IZ am rfl g G).mono λv R' d=> ?_;obtain⟨rfl,rfl⟩:=d;exact⟨_,_,_,_,_,dn _,_,_,am,Z,Z⟩
theorem aIm (am:R6 B w0 R0 ao ar an u) (ce:ar=u.length) (a:u.length<=1000000) (b:u.length<4):
  CT 132 #[PG gc] B w0 ((rc 80 1 gc [sl ao ar an])::(X++R0)) (λv R'=>v= .tuple #[.int .u32 0,bf]/\R'=(rc 80 1 gc [sl ao ar an])::(X++R0)):=by
 subst ce;refine fn2 func132 Z Z Z<|aD Z<|aK 1 Z<|dD (aH XZ Z ((IZ (X:=([]++X)) (R0:=R0) am Z a G)))<|aB Z<|aA<|aD Z<|bA Z<|aD Z<|aS<|⟨_,_,Z,Z,?_⟩;exact⟨Z,Z⟩
theorem bFg (am:R6 B w0 R0 ao ar an u) (ce:ar=u.length) (i:u.length<=1000000) (g:aI u):
  CT 132 #[PG gc] B w0 ((rc 80 1 gc [sl ao ar an])::(X++R0)) (λv R'=> ∃(x:Int) (ok:Bool),∃(t:AH),t.length<=u.length/\ ∃(a:AF) (b:Nat),RdC B w0 R0 a (t).length b 1 (ints .u8 (t))/\v= .tuple #[.int .u32 x, .bool ok]/\R'=(rc 80 1 gc [sl a ((t).length) b])::(X++R0)):=by
 subst ce;by_cases h:4<=u.length
 ·refine (aIl (x:=UU (u.take 4)) (t:=u.drop 4) am rfl i (aRi (g.take 4)) (by rw[VU (g.take 4) (by rw[ax];omega),ed])).mono λv R' d=> ?_;obtain⟨a,b,e,rfl,rfl⟩:=d;exact⟨_,_,_,(by rw[az];omega),_,_,e,Z,Z⟩
 refine (aIm am rfl i G).mono λv R' d=> ?_;obtain⟨rfl,rfl⟩:=d;exact⟨_,_,_,dn _,_,_,am,Z,Z⟩
theorem aHg {n:Int} (am:R6 B w0 R0 ao ar an u) (ce:ar=u.length) (hN:u.length<=1000000) (e:aI u) (pn:p2=0\/p2=1) (hn:0<=n/\n<=100000):
  CT 73 #[PG g,I n] B w0 ((rc 50 10 g [PG gc,I p0,I p1,I p2,I p3,I ms,I tt,I ls,sl At nt ct,sl Ax nx cx])::(rc 80 1 gc [sl ao ar an])::(X++R0)) (λv R'=>(∃(sm:Int) (l t:AH) (C:AF) (F:Nat),pkU p2 n u=some (sm,l,t)/\ ∃(D:AF) (H:Nat),RdC B w0 R0 D (t).length H 1 (ints .u8 (t))/\v= .tuple #[.int .u32 sm,sl C l.length F,bt]/\R'=(ru 5 C l.length F l)::(rc 50 10 g [PG gc,I p0,I p1,I p2,I p3,I ms,I tt,I ls,sl At nt ct,sl Ax nx cx])::(rc 80 1 gc [sl D ((t).length) H])::(X++R0))\/(pkU p2 n u=none/\(∃a b,v= .tuple #[a,b,bf])/\R'=X++R0)):=by
 subst ce;refine fn3 func73 Z Z Z<|aD Z<|aK 1 Z<|wa (aH PP Z ((oC (X:=([]++X)) (R0:=R0) am Z hN e))) ?_;rintro _ _ (⟨m,t1,d,cv,cr,q,rfl,rfl⟩|⟨d,rfl,rfl⟩)
 ·have Y:=dH d;have pd:=fA d;have co:aI t1:=aI.back (x:=aU m) (by rw[<-Y.1];exact e);refine aB Z<|cB [0] 4 Z ?_;refine(ry (4<=t1.length)).elim ?_ ?_<;>intro h4
  ·have hd4:(t1.drop 4).length=t1.length-4:=az;refine wa (aH bGq Z (Ct.pk [1,0] 2 (h:=aIl (X:=([(rc 50 10 g [PG gc,I p0,I p1,I p2,I p3,I ms,I tt,I ls,sl At nt ct,sl Ax nx cx])]++X)) (R0:=R0) (x:=UU (t1.take 4)) (t:=t1.drop 4) q Z G (aRi (co.take 4)) (by rw[VU (co.take 4) (by rw[ax];omega),ed])))) ?_;rintro _ _⟨mc,me,R,rfl,rfl⟩;refine aB Z<|cB [1] 5 Z ?_;refine(ry (m<=((t1.drop 4).length:Int))).elim ?_ ?_<;>intro hm9
   ·refine wa (aH XZ Z ((IY (X:=([(rc 50 10 g [PG gc,I p0,I p1,I p2,I p3,I ms,I tt,I ls,sl At nt ct,sl Ax nx cx])]++X)) (R0:=R0) ((t1.drop 4).take m.toNat) ((t1.drop 4).drop m.toNat) R Z G (by rw[ax];omega) (ed _ _).symm))) ?_;rintro _ _⟨fk,fc,jj,gh,sq,rfl,rfl⟩;refine aB Z<|aA<|aD Z<|aM Z<|aG<|cB [2] 7 Z<|wa (aH bYn Z (Ct.fresh (λw hw=>aLc ((rdr 0 Z) w hw) ((co.drop 4).take _) (by rw[ax];omega) pn hn))) ?_;rintro _ _⟨_,rfl,⟨l9,sv,px,⟨K,xt⟩,J,rfl,rfl⟩|⟨ue,rfl,rfl⟩⟩
    ·refine aB Z<|aK 7 Z ?_;refine(ry ((l9.length:Int)=n)).elim ?_ ?_<;>intro Q
     ·refine aN Z Z<|wy (Yl.t (pU Z Z) G)<|aB Z<|aL [0,3,2] 4<|⟨_,_,_,Z,Z,Z,?_⟩;exact .inl ⟨_,_,_,_,_,(mO d G K J).trans (cz Q),_,_,sq,Z,Z⟩
     refine aN Z Z<|wy (Yl.f (pU Z Z))<|aB Z<|aL [] 4<|⟨_,_,_,Z,Z,Z,?_⟩;exact .inr ⟨(mO d G K J).trans (bq Q),⟨_,_,Z⟩,Z⟩
    refine aB Z<|aD Z<|aL [] 3<|⟨_,_,_,Z,Z,Z,?_⟩;exact .inr ⟨QJ d G ue,⟨_,_,Z⟩,Z⟩
   refine dD (aH XZ Z ((IZ (X:=([(rc 50 10 g [PG gc,I p0,I p1,I p2,I p3,I ms,I tt,I ls,sl At nt ct,sl Ax nx cx])]++X)) (R0:=R0) R Z G G)))<|aB Z<|aA<|aD Z<|bA Z<|aD Z<|aL [] 2<|⟨_,_,_,Z,Z,Z,?_⟩;exact .inr ⟨nJ d G,⟨_,_,Z⟩,Z⟩
  refine dD (aH bGq Z (Ct.pk [1,0] 2 (h:=aIm (X:=([(rc 50 10 g [PG gc,I p0,I p1,I p2,I p3,I ms,I tt,I ls,sl At nt ct,sl Ax nx cx])]++X)) (R0:=R0) q Z G G)))<|aB Z<|cB [1] 5 Z<|wa (aH XZ Z ((aQc (X:=([(rc 50 10 g [PG gc,I p0,I p1,I p2,I p3,I ms,I tt,I ls,sl At nt ct,sl Ax nx cx])]++X)) (R0:=R0) q Z G G))) ?_;rintro _ _⟨gg,L,vx,r,N,k,i6,qe,i,rfl,rfl⟩;refine aB Z<|aA<|aD Z<|bA Z<|aD Z<|aL [] 2<|⟨_,_,_,Z,Z,Z,?_⟩;exact .inr ⟨nJ d G,⟨_,_,Z⟩,Z⟩
 refine aB Z<|cB [0] 4 Z<|wa (aH bGq Z (Ct.pk [1,0] 2 (h:=bFg (X:=([(rc 50 10 g [PG gc,I p0,I p1,I p2,I p3,I ms,I tt,I ls,sl At nt ct,sl Ax nx cx])]++X)) (R0:=R0) am Z G e))) ?_;rintro _ _⟨S,y,O,o,tc,tg,T,rfl,rfl⟩;refine aB Z<|cB [1] 5 Z<|wa (aH XZ Z ((aQc (X:=([(rc 50 10 g [PG gc,I p0,I p1,I p2,I p3,I ms,I tt,I ls,sl At nt ct,sl Ax nx cx])]++X)) (R0:=R0) T Z G G))) ?_;rintro _ _⟨yb,M,Jx,A,P,p,Cp,Fd,j,rfl,rfl⟩;refine aB Z<|aA<|aD Z<|bA Z<|aD Z<|aL [] 2<|⟨_,_,_,Z,Z,Z,?_⟩;exact .inr ⟨aGw d,⟨_,_,Z⟩,Z⟩
end
section
variable {B g gc ar an nt ct nx cx:Nat} {w0:World} {X R0 R:List Row} {ao At Ax:AF} {u:AH} {p0 p1 p2 p3 ms tt ls n:Int}
theorem aHs (am:R6 B w0 R0 ao ar an u) (ce:ar=u.length) (K:u.length<=1000000) (q:aI u) (hn:0<=n/\n<=100000):
  CT 72 #[PG g,I n] B w0 ((rc 50 10 g [PG gc,I p0,I p1,I p2,I p3,I ms,I tt,I ls,sl At nt ct,sl Ax nx cx])::(rc 80 1 gc [sl ao ar an])::(X++R0)) (λv R'=>(∃(o t:AH) (w:AF) (H:Nat),mkU p0 n u=some (o,t)/\ ∃(y:AF) (J:Nat),RdC B w0 R0 y (t).length J 1 (ints .u8 (t))/\v= .tuple #[sl w o.length H,bt]/\R'=(ri 3 w o.length H o)::(rc 50 10 g [PG gc,I p0,I p1,I p2,I p3,I ms,I tt,I ls,sl At nt ct,sl Ax nx cx])::(rc 80 1 gc [sl y ((t).length) J])::(X++R0))\/(mkU p0 n u=none/\(∃a,v= .tuple #[a,bf])/\R'=X++R0)):=by
 subst ce;refine fn2 func72 Z Z Z<|aD Z<|aA<|lK [0] Z<|aF<|aD Z<|aR Z ?_ ?_<;>intro ap
 ·refine aK 1 Z<|wa (aH PP Z ((oC (X:=([]++X)) (R0:=R0) am Z K q))) ?_;rintro _ _ (⟨a,t1,b,cv,cr,T,rfl,rfl⟩|⟨b,rfl,rfl⟩)
  ·have r:=dH b;have Y:=fA b;have co:aI t1:=aI.back (x:=aU a) (by rw[<-r.1];exact q);refine aB Z<|aK 1 Z<|aX (bG .i64 [a] ak zs3 Z Z Z) λf8=>bH 4 Z ?_;refine(ry (a<=n)).elim ?_ ?_<;>intro Q
   ·refine aN Z Z<|wy (Yl.t (PC Z Z) G)<|aB Z<|aS<|⟨_,_,Z,Z,?_⟩;exact .inl ⟨[a],_,_,_,by rw[ap,aRm b,bq G],_,_,T,rfl,rfl⟩
   refine aN Z Z<|wy (Yl.f (PC Z Z))<|aB Z<|aL [] 3<|⟨_,_,Z,Z,?_⟩;exact .inr ⟨by rw[ap,aRm b,cz G],⟨_,rfl⟩,rfl⟩
  refine aB Z<|aK 1 Z<|aX (bG .i64 [0] ak zs3 Z Z Z) λrv=>aB Z<|aL [] 3<|⟨_,_,Z,Z,?_⟩;exact .inr ⟨by rw[ap,bDo b],⟨_,rfl⟩,rfl⟩
 refine aD Z<|aR Z ?_ ?_<;>intro e
 ·refine aK 1 Z<|wa (aH PP Z ((oC (X:=([]++X)) (R0:=R0) am Z K q))) ?_;rintro _ _ (⟨m,t1,b,zd,vf,wv,rfl,rfl⟩|⟨b,rfl,rfl⟩)
  ·have r:=dH b;have Y:=fA b;have co:aI t1:=aI.back (x:=aU m) (by rw[<-r.1];exact q);refine aB Z<|aA<|aD Z<|aR Z ?_ ?_<;>intro db
   ·refine aD Z<|aL [] 2<|⟨_,_,Z,Z,?_⟩;exact .inr ⟨by rw[e,VA b,cz G],⟨_,rfl⟩,rfl⟩
   refine aG<|wq<|dX (ri 3 none 0 0 ([]))<|aB Z<|aA<|aD Z<|aF<|sS (λ(i:Int) (A1:AF) (d:Nat) (c1:Nat) (acc:AH) (Ac:AF) (cc:Nat) (t:AH)=>[(0,PG g),(1,I n),(10,sl A1 d c1),(46,I m),(47,I i)]) (λi A1 d c1 acc Ac cc t=>((ri 3 A1 d c1 acc)::(rc 50 10 g [PG gc,I p0,I p1,I p2,I p3,I ms,I tt,I ls,sl At nt ct,sl Ax nx cx])::(rc 80 1 gc [sl Ac t.length cc])::(X++R0))) (λi A1 d c1 acc Ac cc t=>(0<=i)/\(i<=m)/\(d=acc.length)/\((acc.length:Int)=i)/\(RdC B w0 R0 Ac t.length cc 1 (ints .u8 t))/\(aI t)/\(t.length<=1000000)/\(wK n m.toNat t1=(wK n (m-i).toNat t).map λp=>(acc++p.1,p.2))) (λi A1 d c1 acc Ac cc t=>(m-i).toNat) ?_ ?_
   ·exact⟨0,none,0,0,[],zd,vf,t1,⟨G,G,(Z),(Z),(wv),(co),G,(by rw[show m-0=m by omega];simp)⟩,KP⟩
   intro i A1 d c1 acc Ac cc t ⟨bb,gn,D,ph,C,A,ub,l⟩;refine aD Z<|aA<|aR Z ?_ ?_<;>intro dj
   ·refine aG<|aA<|aF<|aK 1 Z<|wa (aH PP Z (Ct.pk [1,2,0] 3 (h:=oC (X:=([(ri 3 A1 d c1 acc)]++X)) (R0:=R0) C Z ub A))) ?_;rintro _ _ (⟨a,t2,j,O,N,S,rfl,rfl⟩|⟨j,rfl,rfl⟩)
    ·have P:=dH j;have qn:=fA j;have R:aI t2:=aI.back (x:=aU a) (by rw[<-P.1];exact A);refine aB Z<|aA<|aK 7 Z<|bD 4 [0,1,10,11,46,47] 64 (.bool (decide ((a<1)\/(n<a)))) Z ?_ ?_
     ·refine bB 60 Z ?_ ?_<;>intro ff
      ·exact aB Z<|KP
      exact aB Z<|KP
     refine aJ<|aR Z ?_ ?_<;>intro pi
     ·refine aD Z<|aL [] 3<|⟨_,_,Z,Z,?_⟩;exact .inr ⟨by rw[e,VA b,bq G];exact aCf (k:=(m-(i+1)).toNat) j G (by rw[show(m-(i+1)).toNat+1=(m-i).toNat by omega];exact l),⟨_,rfl⟩,rfl⟩
     exact aG<|aT 2 Z<|aX (bG .i64 [a] ak zs3 Z Z Z) λzp=>dG (aO 3 Z ak zb3 Z Z Z (rdr 0 Z)) λL M=>bC (v:=sl L (d+1) M) Z<|aB Z<|bK<|wA Z Z<|aB Z<|⟨i+1,L,d+1,M,acc++([a]),O,N,t2,⟨G,G,(by rw[aa,D];rfl),(by rw[aa,dw];omega),(S),(R),G,(aFl (k:=(m-(i+1)).toNat) j G (by rw[show(m-(i+1)).toNat+1=(m-i).toNat by omega];exact l))⟩,G,SA,λ_ h=>h.selR (F:=[_,_,_,_]) (F':=[_,_,_]) [3,1,2] cC Z⟩
    refine aB Z<|aA<|aD Z<|bA Z<|aD Z<|aL [] 3<|⟨_,_,Z,Z,?_⟩;exact .inr ⟨by rw[e,VA b,bq G];exact aFm (k:=(m-(i+1)).toNat) j (by rw[show(m-(i+1)).toNat+1=(m-i).toNat by omega];exact l),⟨_,rfl⟩,rfl⟩
   refine aP<|aD Z<|aS<|⟨_,_,Z,Z,?_⟩;subst D;exact .inl ⟨acc,_,_,_,by rw[e,VA b,bq G];exact aQb (by rw[show(m-i).toNat=0 by omega] at l;exact l),_,_,C,rfl,rfl⟩
  refine aB Z<|aA<|aD Z<|bA Z<|aD Z<|aL [] 2<|⟨_,_,Z,Z,?_⟩;exact .inr ⟨by rw[e,bDn b],⟨_,rfl⟩,rfl⟩
 refine aG<|aD Z<|gN (R1:=((ri 3 none 0 0 ([]))::(rc 50 10 g [PG gc,I p0,I p1,I p2,I p3,I ms,I tt,I ls,sl At nt ct,sl Ax nx cx])::(rc 80 1 gc [sl ao u.length an])::(X++R0))) (λ_ h=>h.nil 3 1)<|⟨_,_,Z,Z,?_⟩;exact .inl ⟨[],_,_,_,bOz ap e,_,_,am,Z,Z⟩
theorem bIi {li:AF} {ml:Nat} {l:AH} {q:AF} {h r:Nat} {mk:AH} (g6:RdC B w0 R q h r 1 (ints .i64 mk)) (u:p0=1->h=1/\mk.length=1) (j:aI l) (i:l.length<=100000) (p:p0≠3):
  CT 74 #[PG g,sl li l.length ml,sl q h r] B w0 ((ru 5 li l.length ml l)::(rc 50 10 g [PG gc,I p0,I p1,I p2,I p3,I ms,I tt,I ls,sl At nt ct,sl Ax nx cx])::R) (λv R'=>(∃(b:AH) (k:AF) (o:Nat),bkU p0 l mk=some (b,[])/\v= .tuple #[sl k b.length o,I 0]/\R'=(ru 5 k b.length o b)::(rc 50 10 g [PG gc,I p0,I p1,I p2,I p3,I ms,I tt,I ls,sl At nt ct,sl Ax nx cx])::R)\/(bkU p0 l mk=none/\(∃a,v= .tuple #[a,I 5])/\R'=(rc 50 10 g [PG gc,I p0,I p1,I p2,I p3,I ms,I tt,I ls,sl At nt ct,sl Ax nx cx])::R)):=by
 refine fn2 func74 Z Z Z<|aD Z<|aA<|lK [1] Z<|aF<|aD Z<|aR Z ?_ ?_<;>intro ap
 ·have y:=u ap;refine aK 2 Z<|wy (aC ak sz3 Z Z (RdC.right g6 [_,_]))<|wy (aQ av Z Z (RdC.right g6 [_,_])) ?_;refine(ry (XK l (rd mk 0))).elim ?_ ?_<;>intro e
  ·refine bZ bQk Z (λw d=>bIe ((rdr 0 Z) w d) j e i) λC A=>aB Z<|aL [0,2] 3<|⟨_,_,Z,Z,?_⟩;have x:l.length=(iW l (rd mk 0)).length:=(oZ _ _).symm;rw[x];exact .inl ⟨_,_,_,by rw[ap];exact bHz e,rfl,rfl⟩
  refine dZ bQk Z (λw d=>aPh ((rdr 0 Z) w d) j e i)<|aB Z<|aL [1] 2<|⟨_,_,Z,Z,?_⟩;exact .inr ⟨by rw[ap];exact bHy e,⟨_,rfl⟩,rfl⟩
 refine aD Z<|aR Z ?_ ?_<;>intro m
 ·refine aK 1 Z<|bZ bYm Z (λw d=>aPg ((rdr 0 Z) w d) j i) λD F=>aB Z<|aL [0,2] 3<|⟨_,_,Z,Z,?_⟩;exact .inl ⟨_,_,_,by rw[m];exact WZ,rfl,rfl⟩
 refine wq<|wy (Yl.f (pU Z Z) (p))<|aB Z<|aM Z<|aG<|aD Z<|aS<|⟨_,_,Z,Z,?_⟩;exact .inl ⟨_,_,_,bHx ap m p,Z,Z⟩
theorem aRq (hb:(-1000000<=ms/\ms<=1000000)/\(0<=tt/\tt<=1000000)):
  CT 71 #[PG g,I n] B w0 ((rc 50 10 g [PG gc,I p0,I p1,I p2,I p3,I ms,I tt,I ls,sl At nt ct,sl Ax nx cx])::R) (λv R'=>v= .bool (decide (vD p0 p3 ms tt n))/\R'=(rc 50 10 g [PG gc,I p0,I p1,I p2,I p3,I ms,I tt,I ls,sl At nt ct,sl Ax nx cx])::R):=by
 refine fn1 func71 Z Z Z<|aD Z<|aA<|cB [0] 7 Z<|bD 6 [0,1] 17 (.bool (decide ((p0=3)/\(0<tt)))) Z ?_ ?_
 ·refine bB 11 Z ?_ ?_<;>intro ap
  ·exact sJ [0] Z<|KP
  exact aB Z<|KP
 refine wm Z<|bD 16 [0,1] 34 (.bool (decide (((p0=3)/\(0<tt))\/((p0≠3)/\(p3<n))))) Z ?_ ?_
 ·refine bB 18 Z ?_ ?_<;>intro a
  ·exact aB Z<|KP
  refine iC [0] 7 Z<|bD 8 [0,1,18] 33 (.bool (decide ((p0≠3)/\(p3<n)))) Z ?_ ?_
  ·refine bB 25 Z ?_ ?_<;>intro b
   ·exact sJ [0] Z<|KP
   exact aB Z<|KP
  exact aB Z<|KP
 refine aJ<|aR Z ?_ ?_<;>intro d
 ·exact aD Z<|aS<|⟨_,Z,bi Value.bool (mo (by unfold vD;omega)).symm,Z⟩
 exact aG<|aA<|bE mixed<|fU [0,0] 0 9 Z<|wD 9 Z (oH Z Z)<|bF 10 2 Z<|wN<|aS<|⟨_,Z,bi Value.bool (sw.2 (by unfold vD;omega)),Z⟩
theorem aYe {s:AH} (am:R6 B w0 R0 ao ar an u) (ce:ar=u.length) (Q:u.length<=1000000) (x:aI u) (K:nt=s.length) (j:p0≠3) (T:p2=0\/p2=1) (Pu: -1000000<=ms/\ms<=100000) (Bx:0<=tt/\tt<=1000000/\s.length<=1000000) (hn:1<=n/\n<=9223372036854775807):
  CT 38 #[PG g,I n] B w0 ((rc 50 10 g [PG gc,I p0,I p1,I p2,I p3,I ms,I tt,I ls,sl At nt ct,sl Ax nx cx])::(rc 80 1 gc [sl ao ar an])::(ru 5 At nt ct s)::(X++R0)) (λv R'=>(∃(b t:AH) (q:AF) (A:Nat),qL p0 p2 p3 ms tt n u= .ok ((b,[]),t)/\ ∃(r:AF) (C:Nat),RdC B w0 R0 r (t).length C 1 (ints .u8 (t))/\v=I 0/\R'=(rc 50 10 g [PG gc,I p0,I p1,I p2,I p3,I ms,I (tt+n),I ls,sl q ((s++b).length) A,sl Ax nx cx])::(rc 80 1 gc [sl r ((t).length) C])::(ru 5 q ((s++b).length) A (s++b))::(X++R0))\/(∃e:Int,qL p0 p2 p3 ms tt n u= .error e/\(e=3\/e=4\/e=5)/\v=I e/\R'=X++R0)):=by
 subst ce;subst K;refine fn1 func38 Z Z Z<|aD Z<|aA<|aK 2 Z<|dD (aH bVt Z (Ct.at 0 Z (aRq G)))<|wy (pO Z)<|aJ<|aR Z ?_ ?_<;>intro ap
 ·refine aD Z<|aL [] 3<|⟨_,Z,?_⟩;exact .inr ⟨_,qK ap,G,rfl,rfl⟩
 have d:vD p0 p3 ms tt n:=ol.1 ap;have L:=d;unfold vD at L;refine aG<|cB [0] 5 Z<|wA Z Z<|bH 2 Z<|bN (aV 0 Z Z Z sz3 Z Z Z Z (ah Z))<|aJ<|aK 2 Z<|wa (aH bVs Z ((aHs (X:=([(ru 5 At s.length ct s)]++X)) (R0:=R0) am Z Q x G))) ?_;rintro _ _ (⟨mk,t1,N,M,a,dr,du,Y,rfl,rfl⟩|⟨a,⟨H,rfl⟩,rfl⟩)
 ·obtain ⟨F,r9⟩:=UZ x a;refine aB Z<|aA<|aD Z<|aM Z<|aG<|aK 2 Z<|wa (aH bVr Z (Ct.pk [1,2,0,3] 4 (h:=aHg (X:=([(ri 3 N mk.length M mk),(ru 5 At s.length ct s)]++X)) (R0:=R0) Y Z G F T G))) ?_;rintro _ _ (⟨sm,l,t2,jj,gh,d6,jn,cm,J,rfl,rfl⟩|⟨d6,⟨m,o,rfl⟩,rfl⟩)
  ·obtain ⟨⟨D,ya⟩,xt,yk⟩:=aGx F d6;refine aB Z<|aA<|aD Z<|aM Z<|aG<|aK 3 Z<|wa (aH bVq Z ((bIi (rdr 1 Z) (λh=>⟨aRk a h,aRk a h⟩) D G j))) ?_;rintro _ _ (⟨b,O,P,i,rfl,rfl⟩|⟨i,⟨p,rfl⟩,rfl⟩)
   ·obtain ⟨r7,go⟩:=wE D j i;refine aB Z<|aA<|aK 1 Z<|wy (Yl.f (gD Z Z) cC)<|aJ<|aM Z<|aG<|aA<|wq<|wa (aH aXe Z (Ct.fresh (λw hw=>uB))) ?_;rintro _ _⟨_,rfl,Fk,rfl,rfl⟩;refine wm Z<|aX (jD [Value.slice O b.length P] dm pF Z Z Z Z) λu3=>dD (aH aXd Z (Ct.at 1 Z (uA (ls:=[b]) (.inl ⟨Z,Z,df ..,G⟩) (rdr 0 rfl) rfl (HZ.one (l:=b) (rdr 1 rfl) go (by first|rfl|simp|(simp[upd];done))) (Big.one (by first|omega|decide|simp))))) ?_;refine aB Z<|aR Z ?_ ?_<;>intro y
    ·refine aD Z<|aL [] 7<|⟨_,Z,?_⟩;exact .inr ⟨_,(rR d a d6 i).trans (cz (by simpa using y)),G,rfl,rfl⟩
    refine aG<|aA<|cB [3] 5 Z<|wy (Yl.t (gD Z Z) (j))<|aJ<|bA Z<|nQ [3] 7 Z<|dG (aO 6 Z ai zb5 Z Z Z (rdr 2 Z)) λR S=>bC (v:=sl R (s.length+b.length) S) Z<|bH 3 Z<|bN (aV 3 Z Z Z iZ Z Z Z Z (ah Z))<|aJ<|aD Z<|aL [3,4,6] 7<|⟨_,Z,?_⟩;have k:s.length+b.length=(s++b).length:=by rw[aa]
    rw[k];exact .inl ⟨_,_,_,_,(rR d a d6 i).trans (bq (by simpa using y)),_,_,J,Z,Z⟩
   refine aB Z<|aA<|aK 1 Z<|wy (Yl.t (gD Z Z) cC)<|aJ<|bA Z<|aD Z<|aL [] 4<|⟨_,Z,?_⟩;exact .inr ⟨_,LG d a d6 i,G,rfl,rfl⟩
  refine aB Z<|aA<|aD Z<|bA Z<|aD Z<|aL [] 2<|⟨_,Z,?_⟩;exact .inr ⟨_,jF d a d6,G,rfl,rfl⟩
 refine aB Z<|aA<|aD Z<|bA Z<|aD Z<|aL [] 1<|⟨_,Z,?_⟩;exact .inr ⟨_,QU d a,G,rfl,rfl⟩
end
section
variable {B g gc ar an nx cx:Nat} {w0:World} {X R0:List Row} {ao Ax:AF} {u:AH}
theorem aIg {At:AF} {nt ct:Nat} {p0 p1 p2 p3 ms tt ls:Int} (am:R6 B w0 R0 ao ar an u) (ce:ar=u.length) (C:u.length<=1000000) (a:aI u):
  CT 36 #[PG g] B w0 ((rc 50 10 g [PG gc,I p0,I p1,I p2,I p3,I ms,I tt,I ls,sl At nt ct,sl Ax nx cx])::(rc 80 1 gc [sl ao ar an])::(X++R0)) (λv R'=>(∃(sz:Int) (t:AH),nW u=some ((rd u 5,rd u 6,rd u 7,sz),t)/\ ∃(o:AF) (A:Nat),RdC B w0 R0 o (t).length A 1 (ints .u8 (t))/\v=bt/\R'=(rc 50 10 g [PG gc,I (rd u 5),I (rd u 6),I (rd u 7),I sz,I ms,I tt,I ls,sl At nt ct,sl Ax nx cx])::(rc 80 1 gc [sl o ((t).length) A])::(X++R0))\/(nW u=none/\v=bf/\R'=X++R0)):=by
 subst ce;refine fn1 Tryz.func36 Z Z Z<|aD Z<|cB [0] 4 Z ?_;refine(ry (5<=u.length)).elim ?_ ?_<;>intro h5
 ·refine wa (aH XZ Z (Ct.pk [1,0] 2 (h:=IY (X:=([(rc 50 10 g [PG gc,I p0,I p1,I p2,I p3,I ms,I tt,I ls,sl At nt ct,sl Ax nx cx])]++X)) (R0:=R0) (u.take 5) (u.drop 5) am Z C (by rw[ax];omega) (ed _ _).symm))) ?_;rintro _ _⟨e,i,S,R,m,rfl,rfl⟩;refine aB Z<|aA<|aK 4 Z<|aN Z Z<|wy (gL ai ay qh Z (rdr 0 Z))<|aN Z Z<|wy (NM (q:=[87,72,82,76,1]) Z Z (a.take _) (by unfold aI;decide)) ?_;refine aB Z<|aR Z ?_ ?_<;>intro ap
  ·refine aD Z<|aL [] 3<|⟨_,Z,?_⟩;exact .inr ⟨OL ap,Z,Z⟩
  refine aG<|cB [2] 4 Z ?_;refine(ry (8<=u.length)).elim ?_ ?_<;>intro l
  ·have Q:((u.drop 5).take 3).length=3:=by rw[ax,az];omega
   obtain⟨p,y,D⟩:=bVd l;have K:=a.rd 5;have L:=a.rd 6;have M:=a.rd 7;refine wa (aH XZ Z (Ct.pk [1,0,2] 3 (h:=IY (X:=([(ru 5 e ((u.take 5).length) i (u.take 5)),(rc 50 10 g [PG gc,I p0,I p1,I p2,I p3,I ms,I tt,I ls,sl At nt ct,sl Ax nx cx])]++X)) (R0:=R0) ((u.drop 5).take 3) ((u.drop 5).drop 3) m Z (by rw[az];omega) (by rw[ax,az];omega) (ed _ _).symm))) ?_;rintro _ _⟨N,H,jp,mj,F,rfl,rfl⟩;refine aB Z<|aK 1 Z<|wa (aH PP Z (Ct.pk [3,1,0,2] 4 (h:=oC (X:=([(ru 5 N (((u.drop 5).take 3).length) H ((u.drop 5).take 3)),(ru 5 e ((u.take 5).length) i (u.take 5))]++X)) (R0:=R0) F Z (by rw[az,az];omega) ((a.drop 5).drop 3)))) ?_;rintro _ _ (⟨sz,t1,b,Y,T,O,rfl,rfl⟩|⟨b,rfl,rfl⟩)
   ·have k:=dH b;have P:=fA b;have co:aI t1:=aI.back (x:=aU sz) (by rw[<-k.1];exact((a.drop 5).drop 3));refine aB Z<|aA<|aD Z<|aM Z<|aG<|aA<|bE mixed<|bF 0 2 Z<|wD 2 Z (aC ai sz5 Z Z (rdr 2 Z))<|wD 3 Z (aQ ay Z Z (rdr 2 Z))<|wD 4 Z (gV ay av Z)<|wD 5 Z (dI Z)<|wD 6 Z (aC ai sz5 Z Z (rdr 2 Z))<|wD 7 Z (aQ ay Z Z (rdr 2 Z))<|wD 8 Z (gV ay av Z)<|wD 9 Z (dI Z)<|wD 10 Z (aC ai sz5 Z Z (rdr 2 Z))<|wD 11 Z (aQ ay Z Z (rdr 2 Z))<|wD 12 Z (gV ay av Z)<|wD 13 Z (dI Z)<|wD 14 Z (bV (v:= .agg #[I (rd ((u.drop 5).take 3) 0),I (rd ((u.drop 5).take 3) 1),I (rd ((u.drop 5).take 3) 2),I sz]) Z (λw=>cA))<|bF 15 2 rfl<|qN 17 rfl cA (LV (j:=1) (r:=(rc 50 10 g [PG gc,I p0,I p1,I p2,I p3,I ms,I tt,I ls,sl At nt ct,sl Ax nx cx])) (vs:=[I (rd ((u.drop 5).take 3) 0),I (rd ((u.drop 5).take 3) 1),I (rd ((u.drop 5).take 3) 2),I sz]) 0 rfl rfl rfl fC rfl (by simp[pat,Addr.add]) rfl rfl cI (ah rfl)) ?_;rintro _ _ rfl;refine⟨.inl cA,?_⟩;refine wN<|aK 3 Z<|wy (bO (vs:=[I (rd ((u.drop 5).take 3) 0),I (rd ((u.drop 5).take 3) 1),I (rd ((u.drop 5).take 3) 2),I sz]) (rdr 0 Z) jd Z fC Z Z (ah Z) Z) ?_;refine(ry (((0<=(rd ((u.drop 5).take 3) 0)/\(rd ((u.drop 5).take 3) 0)<=3)/\(0<=(rd ((u.drop 5).take 3) 1)/\(rd ((u.drop 5).take 3) 1)<=2)/\((rd ((u.drop 5).take 3) 2)=0\/(rd ((u.drop 5).take 3) 2)=1)/\(1<=sz/\sz<=16777216)))).elim ?_ ?_<;>intro d
    ·refine dZ aXf Z (λw J=>aBr)<|rO 62 Z (d)<|aB Z<|aL [0,1] 4<|⟨_,Z,?_⟩;rw[p,y,D] at d ⊢;exact .inl ⟨_,_,(BQ a (ol.1 ap) l b).trans (cz d),_,_,O,Z,Z⟩
    refine dZ aXf Z (λw J=>aBr)<|pW 62 Z (d)<|aB Z<|aL [] 4<|⟨_,Z,?_⟩;rw[p,y,D] at d;exact .inr ⟨(BQ a (ol.1 ap) l b).trans (bq d),Z,Z⟩
   refine aB Z<|aA<|aD Z<|bA Z<|aD Z<|aL [] 4<|⟨_,Z,?_⟩;exact .inr ⟨VK b,Z,Z⟩
  refine dD (aH XZ Z (Ct.pk [1,0,2] 3 (h:=IZ (X:=([(ru 5 e ((u.take 5).length) i (u.take 5)),(rc 50 10 g [PG gc,I p0,I p1,I p2,I p3,I ms,I tt,I ls,sl At nt ct,sl Ax nx cx])]++X)) (R0:=R0) m Z (by rw[az];omega) (by rw[az];omega)))) ?_;refine aB Z<|aK 1 Z<|wa (aH PP Z (Ct.pk [2,0,1] 3 (h:=oC (X:=([(ru 5 e ((u.take 5).length) i (u.take 5))]++X)) (R0:=R0) m Z (by rw[az];omega) (a.drop 5)))) ?_;rintro _ _ (⟨sz,t1,b,gg,gi,g9,rfl,rfl⟩|⟨b,rfl,rfl⟩)
  ·have k:=dH b;have P:=fA b;have co:aI t1:=aI.back (x:=aU sz) (by rw[<-k.1];exact(a.drop 5));refine aB Z<|aA<|aD Z<|bA Z<|aD Z<|aL [] 3<|⟨_,Z,?_⟩;exact .inr ⟨oV G,Z,Z⟩
  refine aB Z<|aA<|aD Z<|bA Z<|aD Z<|aL [] 3<|⟨_,Z,?_⟩;exact .inr ⟨oV G,Z,Z⟩
 refine dD (aH XZ Z (Ct.pk [1,0] 2 (h:=IZ (X:=([(rc 50 10 g [PG gc,I p0,I p1,I p2,I p3,I ms,I tt,I ls,sl At nt ct,sl Ax nx cx])]++X)) (R0:=R0) am Z C G)))<|aB Z<|aA<|aD Z<|bA Z<|aD Z<|aL [] 2<|⟨_,Z,?_⟩;exact .inr ⟨oV G,Z,Z⟩
theorem OX (t o:Int) (b:AH):(aU (b.length:Int)).length+1<=(cZ t o b).length:=by
 unfold cZ fT;simp only[aa,dh];omega
theorem bBx {q0 q1 q2 q3 lim:Int} (am:R6 B w0 R0 ao ar an u) (ce:ar=u.length) (hN:u.length<=1000000) (q:aI u) (pm: -1000<=lim/\lim<=1000000) (N:rd u 5≠3):
  CT 17 #[PG g] B w0 ((rc 50 10 g [PG gc,I q0,I q1,I q2,I q3,I (min lim 100000),I 0,I 0,sl none 0 0,sl Ax nx cx])::(rc 80 1 gc [sl ao ar an])::(ru 5 none 0 0 ([]))::(X++R0)) (λv R'=>(∃(sz Q:Int) (T:AH) (C:AF) (L:Nat),pI u lim= .ok ((T,[]),(rd u 5,rd u 6,rd u 7,sz))/\v=I 0/\R'=(rc 50 10 g [PG gc,I (rd u 5),I (rd u 6),I (rd u 7),I sz,I (min lim 100000),I (T.length:Int),I Q,sl C T.length L,sl Ax nx cx])::(ru 5 C T.length L T)::(X++R0))\/(∃e:Int,pI u lim= .error e/\(e=3\/e=4\/e=5)/\v=I e/\R'=X++R0)):=by
 subst ce;refine fn1 Tryz.func17 Z Z Z<|aD Z<|aA<|aK 1 Z<|wa (aH bVz Z ((aIg (X:=([(ru 5 none 0 0 ([]))]++X)) (R0:=R0) am Z hN q))) ?_;rintro _ _ (⟨sz,t0,i,cv,Y,lz,rfl,rfl⟩|⟨i,rfl,rfl⟩)
 ·obtain ⟨J,Pz,hv2,S,hv4⟩:=tX q i
  have vl:aI t0:=by
   have D:=q;rw[J] at D;exact aI.back (aI.back (aI.back D))
  have zc:=bi List.length J;simp only[aa,dh,iw] at zc;refine aB Z<|aM Z<|aG<|aD Z<|aA<|aF<|aZl (λ(Ac:AF) (cc:Nat) (a:AF) (nt:Nat) (ct:Nat) (s:AH) (tt:Int) (ls:Int) (sh:Bool) (r:AH) (F:Nat)=>[(0,PG g),(3, .bool (decide (sh=true)))]) (λAc cc a nt ct s tt ls sh r F=>((rc 50 10 g [PG gc,I (rd u 5),I (rd u 6),I (rd u 7),I sz,I (min lim 100000),I tt,I ls,sl a nt ct,sl Ax nx cx])::(rc 80 1 gc [sl Ac r.length cc])::(ru 5 a nt ct s)::(X++R0))) (λAc cc a nt ct s tt ls sh r F=>(RdC B w0 R0 Ac r.length cc 1 (ints .u8 r))/\(aI r)/\(r.length<=1000000/\r.length<=F)/\(nt=s.length)/\(tt=(s.length:Int))/\(s.length=0\/(s.length:Int)<=100000)/\(Kp (rV (rd u 5) (rd u 7) sz (min lim 100000) (t0.length+1) [] [] 0 false t0=rV (rd u 5) (rd u 7) sz (min lim 100000) (F+1) s [] ls sh r))) (λAc cc a nt ct s tt ls sh r F=>r.length) ?_ ?_
  ·exact⟨cv,Y,none,0,0,[],0,0,false,t0,t0.length,⟨(lz),(vl),G,(Z),(Z),(.inl Z),(show _=_ from Z)⟩,KP⟩
  intro Ac cc a nt ct s tt ls sh r F ⟨P,H,Mm,K,o,Bm,l⟩;refine aF<|aK 1 Z<|wa (aH PP Z ((oC (X:=([(ru 5 a nt ct s)]++X)) (R0:=R0) P Z G H))) ?_;rintro _ _ (⟨n,t1,d,mc,me,O,rfl,rfl⟩|⟨d,rfl,rfl⟩)
  ·have fi:=dH d;have pd:=fA d;have co:aI t1:=aI.back (x:=aU n) (by rw[<-fi.1];exact H);refine aB Z<|aA<|aD Z<|aM Z<|aG<|aA<|aD Z<|aR Z ?_ ?_<;>intro ap
   ·refine aP<|aK 1 Z<|wa (aH PP Z ((oC (X:=([(ru 5 a nt ct s)]++X)) (R0:=R0) O Z G co))) ?_;rintro _ _ (⟨m9,t9,j,jj,gh,sq,rfl,rfl⟩|⟨j,rfl,rfl⟩)
    ·have gl:=dH j;have qn:=fA j;have iu:aI t9:=aI.back (x:=aU m9) (by rw[<-gl.1];exact co);refine aB Z<|aA<|cB [0] 11 Z<|bD 7 [0,3] 73 (.bool (decide ((m9≠tt)\/(0<(t9.length:Int))))) Z ?_ ?_
     ·refine bB 66 Z ?_ ?_<;>intro bp
      ·exact aB Z<|KP
      exact iC [0] 4 Z<|aN Z Z<|dD (aH bTk Z (Ct.pk [1,0,2] 3 (h:=VI (k:=0) (R:=([(rc 50 10 g [PG gc,I (rd u 5),I (rd u 6),I (rd u 7),I sz,I (min lim 100000),I tt,I ls,sl a nt ct,sl Ax nx cx]),(ru 5 a nt ct s)]++X)++R0) (RdC.right sq ([(rc 50 10 g [PG gc,I (rd u 5),I (rd u 6),I (rd u 7),I sz,I (min lim 100000),I tt,I ls,sl a nt ct,sl Ax nx cx]),(ru 5 a nt ct s)]++X)) Z)))<|aB Z<|⟨SA,λ_ h=>h.selR (F:=[_,_,_]) (F':=[_,_,_]) [1,0,2] cC Z⟩
     refine wm Z<|wJ 10 [(84, .bool (decide (((m9≠tt)\/(0<(t9.length:Int)))\/((sh=true)/\((rd u 5)≠3)))))] ((rc 50 10 g [PG gc,I (rd u 5),I (rd u 6),I (rd u 7),I sz,I (min lim 100000),I tt,I ls,sl a nt ct,sl Ax nx cx])::(rc 80 1 gc [sl jj t9.length gh])::(ru 5 a nt ct s)::(X++R0)) ?_ ?_
     ·refine bB 74 Z ?_ ?_<;>intro db
      ·exact aB Z<|KP
      refine bH 2 Z<|bD 7 [74] 83 (.bool (decide ((sh=true)/\((rd u 5)≠3)))) Z ?_ ?_
      ·refine bB 76 Z ?_ ?_<;>intro dj
       ·exact sJ [0] Z<|KP
       exact aB Z<|KP
      exact aB Z<|KP
     refine aJ<|aR Z ?_ ?_<;>intro M
     ·refine aD Z<|aL [] 3<|⟨_,Z,?_⟩;exact .inr ⟨3,fM i (Ap l ((iM (by rw[<-ap];exact d)).trans (bq (by rw[<-o,uV j M];decide)))),G,rfl,rfl⟩
     refine aG<|aD Z<|aL [0,2] 3<|⟨_,Z,?_⟩;rw[o,K];exact .inl ⟨_,_,s,_,_,EQ i (Ap l ((iM (by rw[<-ap];exact d)).trans (cz (by rw[<-o];exact tZ j M)))),Z,Z⟩
    refine aB Z<|aA<|aD Z<|bA Z<|aD Z<|aL [] 3<|⟨_,Z,?_⟩;exact .inr ⟨3,fM i (Ap l ((iM (by rw[<-ap];exact d)).trans (bq (by rw[EO j];decide)))),G,rfl,rfl⟩
   refine aG<|lS [(0,PG g),(3, .bool (decide ((sh=true)\/((0<ls)/\(ls<sz))))),(4,I n)] ((rc 50 10 g [PG gc,I (rd u 5),I (rd u 6),I (rd u 7),I sz,I (min lim 100000),I tt,I ls,sl a nt ct,sl Ax nx cx])::(rc 80 1 gc [sl mc t1.length me])::(ru 5 a nt ct s)::(X++R0)) ?_ ?_
   ·refine bE mixed<|bF 0 2 Z<|gM 22 Z ?_ ?_<;>intro pi
    ·exact bF 2 19 Z<|wN<|KP
    refine fU [0] 2 6 Z<|gM 28 Z ?_ ?_<;>intro b9
    ·exact fU [0,0] 8 13 Z<|wN<|KP
    exact bF 8 13 Z<|wN<|KP
   refine aA<|aK 2 Z<|wa (aH bTl Z ((aYe (X:=([]++X)) (R0:=R0) O Z G co K N S G G G))) ?_;rintro _ _ (⟨b,t2,dy,ef,m,fk,fc,ox,rfl,rfl⟩|⟨e,m,he,rfl,rfl⟩)
   ·rw [o] at m;obtain⟨_,v7,Ps,hk4,hk5,w,y⟩:=NL (b:=b) co N m;have A:=bi List.length w;simp only[aa] at A;have m8:=cK 2 n G;have fh:=OX (rd u 5) (rd u 7) b;rw[v7] at fh;obtain⟨p,rfl⟩: ∃p,F=p+1:=⟨F-1,G⟩;exact aB Z<|aK 1 Z<|wy (Yl.f (gD Z Z) cC)<|aJ<|aM Z<|aG<|aT 4 Z<|bN (aV 0 Z Z Z sz3 Z Z Z Z (ah Z))<|aJ<|⟨fk,fc,dy,(s++b).length,ef,s++b,tt+n,n,(sh||decide (0<ls/\ls<sz)),t2,p,⟨(ox),(y),G,(Z),(by rw[aa];omega),(.inr (by rw[aa];omega)),(Ap l (DR d G m))⟩,G,(sc Z (Sub.to Z (mb cD) Sub.nil)),λ_ h=>h⟩
   rw [o] at m;refine aB Z<|aK 1 Z<|wy (Yl.t (gD Z Z) G)<|aJ<|bA Z<|aD Z<|aL [] 0<|⟨_,Z,?_⟩;exact .inr ⟨e,fM i (Ap l (uM d ap m)),he,Z,Z⟩
  refine aB Z<|aA<|aD Z<|bA Z<|aD Z<|aL [] 3<|⟨_,Z,?_⟩;exact .inr ⟨3,fM i (Ap l (DT d)),G,rfl,rfl⟩
 refine aB Z<|bA Z<|aD Z<|aL [] 1<|⟨_,Z,?_⟩;exact .inr ⟨3,decU_none i,G,rfl,rfl⟩
end
section
variable {l mk:AH} {ls:AD} {B g gc nt ct nx cx:Nat} {w0:World} {At Ax:AF} {p0 p1 p2 p3 ms tt Th:Int} {X R0:List Row}
theorem aTh (hl:aI l) (b:l.length<=8000) (a:mk.length<=1000) (h:(eY ((bR (fsL l)).map (bS l)) [] 0 mk).getD []=ls):OkB ls/\ls.flatten.length<=8000/\ls.length<=1000:=by
 have h1:=bNw hl b (TS:=mk) (o:=(eY ((bR (fsL l)).map (bS l)) [] 0 mk)) rfl;rw[h] at h1;refine⟨h1.1,?_,pq h1.2 a⟩;cases ho:(eY ((bR (fsL l)).map (bS l)) [] 0 mk) with
 |none=>rw[ho] at h;subst h;exact oq _
 |some ws=>
  rw[ho] at h;have e:ws=ls:=h;subst e;have:=xR (aSg hl G a ho).1;omega
theorem LK (h:(eY ((bR (fsL l)).map (bS l)) [] 0 mk).getD []=ls) (a: ¬oE (eY ((bR (fsL l)).map (bS l)) [] 0 mk)≠0):eY ((bR (lfL l)).map (bS l)) [] 0 mk=some ls:=by
 cases ho:(eY ((bR (fsL l)).map (bS l)) [] 0 mk) with
 |none=>rw[ho] at a;exact absurd (by decide:oE none≠0) a
 |some ws=>rw[ho] at h;rw[<-show ws=ls from h];exact ho
theorem aBv (a:oE (eY ((bR (fsL l)).map (bS l)) [] 0 mk)≠0):eY ((bR (lfL l)).map (bS l)) [] 0 mk=none:=by
 cases ho:(eY ((bR (fsL l)).map (bS l)) [] 0 mk) with
 |none=>exact ho
 |some ws=>rw[ho] at a;exact absurd rfl a
theorem aYk {B:Nat} {w0:World} {R:List Row} {li:AF} {ml:Nat} {m:AF} {o:Nat} (i: ∀(B:Nat) (w0 w:World),Hp B w0 w R->Rd w li l.length ml 1 (ints .u8 l)) (g6: ∀(B:Nat) (w0 w:World),Hp B w0 w R->Rd w m mk.length o 1 (ints .i64 mk)) (r:p0=3) (y:aI l) (u:l.length<=8000/\mk.length<=1000) (A:(eY ((bR (fsL l)).map (bS l)) [] 0 mk).getD []=ls) (q:OkB ls) (C:ls.flatten.length<=8000/\ls.length<=1000):
  CT 74 #[PG g,sl li l.length ml,sl m mk.length o] B w0 ((rc 50 10 g [PG gc,I p0,I p1,I p2,I p3,I ms,I tt,I Th,sl At nt ct,sl Ax nx cx])::R) (λv R'=> ∃(A2:AF) (c2:Nat) (b:AF) (d:Nat) (vals:AG) (Rs:List Row),v= .tuple #[sl A2 ls.flatten.length c2,I (oE (eY ((bR (fsL l)).map (bS l)) [] 0 mk))]/\SlR .u8 Rs vals ls/\R'=(ru 5 A2 ls.flatten.length c2 ls.flatten)::(rc 50 10 g [PG gc,I p0,I p1,I p2,I p3,I ms,I tt,I Th,sl At nt ct,sl b vals.length d])::⟨22,1,b,vals.length,d,vals,false⟩::(Rs++R)):=by
 refine fn2 Tryz.func74 Z Z Z<|aD Z<|aA<|lK [0] Z<|aF<|wq<|wy (Yl.f (pU Z Z))<|aB Z<|aM Z<|wq<|wy (Yl.f (pU Z Z))<|aB Z<|aM Z<|aA<|bK<|wy (Yl.t (pU Z Z) (r))<|aB Z<|bA Z<|aK 2 Z<|wa (aH bYl Z (Ct.fresh (λw a=>aOd ((λ_ h=>i _ _ _ (h.right (R':=[_]))) w a) ((λ_ h=>g6 _ _ _ (h.right (R':=[_]))) w a) y u))) ?_;rintro _ _⟨_,rfl,b,d,vals,Rs,rfl,e,rfl⟩;have hs:SlR .u8 Rs vals ls:=by rw[A] at e;exact e
 have x:=hs.1;have p:=hs.left R;have j:=λ(B:Nat) (w0 w:World) (h:Hp B w0 w (Rs++R))=>i B w0 w h.right;have k:=λ(B:Nat) (w0 w:World) (h:Hp B w0 w (Rs++R))=>g6 B w0 w h.right;refine gZ (R1:=(⟨22,1,b,vals.length,d,vals,false⟩::(rc 50 10 g [PG gc,I p0,I p1,I p2,I p3,I ms,I tt,I Th,sl At nt ct,sl Ax nx cx])::(Rs++R))) (Sub.refl _) (λ_ h=>Hp.toTail (X:=[_]) (Y:=[_]) h)<|aB Z<|aK 5 Z<|bN (aV 1 Z Z Z bUy Z Z Z Z (ah Z))<|aJ<|aK 1 Z<|bZ FH Z (λw a=>jJ ((rdr 0 Z) w a) (p.slw q (Hp.right (R':=[_,_]) a)) ⟨G,G⟩) λD F=>aB Z<|aL [0,2,1] 3<|⟨_,_,Z,Z,?_⟩;exact⟨_,_,_,_,vals,Rs,Z,hs,Z⟩
theorem Hp.toX {w:World} {L Rs:List Row} (h:Hp B w0 w (L++((Rs++X)++R0))):Hp B w0 w (X++R0):=by
 rw[dx Rs,<-dx L] at h;exact h.right
theorem aKf {ao:AF} {ar an:Nat} {u:AH} {n:Int} (am:R6 B w0 R0 ao ar an u) (ce:ar=u.length) (hN:u.length<=1000000) (A:aI u) (j:p0=3) (pn:p2=0\/p2=1) (Pu: -1000000<=ms/\ms<=8000) (Bx:0<=tt/\tt<=1000000) (hn:1<=n/\n<=9223372036854775807):
  CT 38 #[PG g,I n] B w0 ((rc 50 10 g [PG gc,I p0,I p1,I p2,I p3,I ms,I tt,I Th,sl At nt ct,sl Ax nx cx])::(rc 80 1 gc [sl ao ar an])::(X++R0)) (λv R'=>(∃(ws:AD) (d:AF) (i:Nat) (vals:AG) (Rs:List Row) (t:AH),qL p0 p2 p3 ms tt n u= .ok ((ws.flatten,ws),t)/\ ∃(y:AF) (D:Nat),RdC B w0 R0 y (t).length D 1 (ints .u8 (t))/\SlR .u8 Rs vals ws/\v=I 0/\R'=(rc 50 10 g [PG gc,I p0,I p1,I p2,I p3,I ms,I (tt+n),I Th,sl At nt ct,sl d vals.length i])::(rc 80 1 gc [sl y ((t).length) D])::⟨22,1,d,vals.length,i,vals,false⟩::((Rs++X)++R0))\/(∃e:Int,qL p0 p2 p3 ms tt n u= .error e/\(e=3\/e=4\/e=5)/\v=I e/\R'=X++R0)):=by
 subst ce;refine fn1 Tryz.func38 Z Z Z<|aD Z<|aA<|aK 2 Z<|dD (aH bVt Z (Ct.at 0 Z (aRq G)))<|wy (pO Z)<|aJ<|aR Z ?_ ?_<;>intro ap
 ·refine aD Z<|aL [] 2<|⟨_,Z,?_⟩;exact .inr ⟨_,qK ap,G,rfl,rfl⟩
 have b:vD p0 p3 ms tt n:=ol.1 ap;have Q:=b;unfold vD at Q;refine aG<|cB [0] 5 Z<|wA Z Z<|bH 2 Z<|bN (aV 0 Z Z Z sz3 Z Z Z Z (ah Z))<|aJ<|aK 2 Z<|wa (aH bVs Z ((aHs (X:=([]++X)) (R0:=R0) am Z hN A G))) ?_;rintro _ _ (⟨mk,t1,H,F,a,dr,du,w7,rfl,rfl⟩|⟨a,⟨N,rfl⟩,rfl⟩)
 ·obtain ⟨M,r9⟩:=UZ A a;refine aB Z<|aA<|aD Z<|aM Z<|aG<|aK 2 Z<|wa (aH bVr Z (Ct.pk [1,2,0] 3 (h:=aHg (X:=([(ri 3 H mk.length F mk)]++X)) (R0:=R0) w7 Z G M pn G))) ?_;rintro _ _ (⟨sm,l,t2,jj,S,d6,jn,R,P,rfl,rfl⟩|⟨d6,⟨p,r,rfl⟩,rfl⟩)
  ·obtain ⟨⟨K,ya⟩,xt,yk⟩:=aGx M d6;refine aB Z<|aA<|aD Z<|aM Z<|aG<|aK 3 Z ?_;have hmm:=aRl a;obtain⟨ls,k⟩: ∃ls,(eY ((bR (fsL l)).map (bS l)) [] 0 mk).getD []=ls:=⟨_,rfl⟩;obtain⟨C,T,hF2⟩:=aTh K G G k;have O:aI ls.flatten:=λx o=>by obtain⟨q,hq,o⟩:=ny.1 o;exact(C q hq).1 x o
   refine wa (aH bVq Z (Ct.pk [1,0,2,3] 4 (h:=aYk (λ_ _=>(rdr 0 Z)) (λ_ _=>(rdr 2 Z)) j K ⟨G,G⟩ k C ⟨G,G⟩))) ?_;rintro _ _⟨A2,c2,d,i,vals,Rs,rfl,hs,rfl⟩;refine gZ (R1:=((ru 5 A2 ls.flatten.length c2 ls.flatten)::(rc 50 10 g [PG gc,I p0,I p1,I p2,I p3,I ms,I (tt+n),I Th,sl At nt ct,sl d vals.length i])::⟨22,1,d,vals.length,i,vals,false⟩::(ru 5 jj l.length S l)::(rc 80 1 gc [sl jn t2.length R])::(ri 3 H mk.length F mk)::((Rs++X)++R0))) (Sub.refl _) (λ_ h=>Hp.toTailX (X:=[_,_,_]) (Y:=[_,_,_]) h)<|aB Z<|aA<|aD Z<|aR Z ?_ ?_<;>intro m
   ·refine aD Z<|gN (R1:=(X++R0)) (λ_ h=>Hp.toX (L:=[_,_,_,_,_,_]) h)<|⟨_,Z,?_⟩;exact .inr ⟨_,LG b a d6 (by rw[j,aBu,aBv m];rfl),G,rfl,rfl⟩
   refine aG<|aA<|wq<|wa (aH aXe Z (Ct.fresh (λw hw=>uB))) ?_;rintro _ _⟨_,rfl,xi,rfl,rfl⟩;refine wm Z<|aX (jD [Value.slice A2 ls.flatten.length c2] dm pF Z Z Z Z) λzr=>dD (aH aXd Z (Ct.at 1 Z (uA (ls:=[ls.flatten]) (.inl ⟨Z,Z,df ..,G⟩) (rdr 0 rfl) rfl (HZ.one (l:=ls.flatten) (rdr 1 rfl) O (by first|rfl|simp|(simp[upd];done))) (Big.one (by first|omega|decide|simp))))) ?_;refine aB Z<|aR Z ?_ ?_<;>intro J
   ·refine aD Z<|gN (R1:=(X++R0)) (λ_ h=>Hp.toX (L:=[_,_,_,_,_,_,_,_]) h)<|⟨_,Z,?_⟩;exact .inr ⟨_,(rR b a d6 (by rw[j,aBu,LK k m];rfl)).trans (cz (by simpa using J)),G,rfl,rfl⟩
   refine aG<|aA<|cB [3] 5 Z<|wy (Yl.f (gD Z Z) (λh=>h j))<|aJ<|aM Z<|aG<|aD Z<|aL [3,6,4] 8<|⟨_,Z,?_⟩;exact .inl ⟨ls,_,_,vals,Rs,_,(rR b a d6 (by rw[j,aBu,LK k m];rfl)).trans (bq (by simpa using J)),_,_,P,hs,Z,Z⟩
  refine aB Z<|aA<|aD Z<|bA Z<|aD Z<|aL [] 1<|⟨_,Z,?_⟩;exact .inr ⟨_,jF b a d6,G,rfl,rfl⟩
 refine aB Z<|aA<|aD Z<|bA Z<|aD Z<|aL [] 0<|⟨_,Z,?_⟩;exact .inr ⟨_,QU b a,G,rfl,rfl⟩
end
section
variable {B g gc ar an nt ct:Nat} {w0 w_:World} {X R0:List Row} {ao At:AF} {u:AH} {n lim:Int}
theorem bHw {Ax:AF} {nx cx:Nat} {p0 p1 p2 p3 ms tt Th:Int} (am:R6 B w0 R0 ao ar an u) (ce:ar=u.length) (j:u.length<=1000000) (d:aI u) (i:p0=3) (l:p2=0\/p2=1) (b: -1000000<=ms/\ms<=8000) (a:0<tt/\tt<=1000000) (hn:1<=n/\n<=9223372036854775807):
  CT 38 #[PG g,I n] B w0 ((rc 50 10 g [PG gc,I p0,I p1,I p2,I p3,I ms,I tt,I Th,sl At nt ct,sl Ax nx cx])::(rc 80 1 gc [sl ao ar an])::(X++R0)) (λv R'=>v=I 3/\R'=X++R0):=
 (aKf am ce j d i l b ⟨G,a.2⟩ hn).mono λv R' k=>by
  have hl: ∀r:AH,qL p0 p2 p3 ms tt n r= .error 3:=λr=>qK (by unfold vD;omega);rcases k with⟨ws,m,o,vals,Rs,t,h,_⟩|⟨e,h,_,rfl,rfl⟩
  ·rw[hl] at h;cases h
  rw[hl] at h;cases h;exact⟨rfl,rfl⟩
theorem OW (o:Int) {ws:AD} (h:canon ws=ws) (hn:(ws.flatten.length:Int)=n):(aU n).length+1<=(eX o ws).length:=by
 unfold eX fT;rw[h,hn];simp only[aa,dh];omega
theorem aVb {q0 q1 q2 q3:Int} (am:R6 B w0 R0 ao ar an u) (ce:ar=u.length) (hN:u.length<=1000000) (A:aI u) (pm: -1000<=lim/\lim<=8000) (D:rd u 5=3):
  CT 17 #[PG g] B w0 ((rc 50 10 g [PG gc,I q0,I q1,I q2,I q3,I (min lim 100000),I 0,I 0,sl At nt ct,sl none 0 0])::(rc 80 1 gc [sl ao ar an])::(X++R0)) (λv R'=>(∃(sz T7 L7:Int) (ws:AD) (a:AF) (d:Nat) (vals:AG) (Rs:List Row),pI u lim= .ok ((ws.flatten,ws),(rd u 5,rd u 6,rd u 7,sz))/\SlR .u8 Rs vals ws/\v=I 0/\R'=(rc 50 10 g [PG gc,I (rd u 5),I (rd u 6),I (rd u 7),I sz,I (min lim 100000),I T7,I L7,sl At nt ct,sl a vals.length d])::⟨22,1,a,vals.length,d,vals,false⟩::((Rs++X)++R0))\/(∃e:Int,pI u lim= .error e/\(e=3\/e=4\/e=5)/\v=I e/\R'=X++R0)):=by
 subst ce;refine fn1 func17 Z Z Z<|aD Z<|aA<|aK 1 Z<|wa (aH bVz Z ((aIg (X:=([]++X)) (R0:=R0) am Z hN A))) ?_;rintro _ _ (⟨sz,t0,l,cv,cr,lz,rfl,rfl⟩|⟨l,rfl,rfl⟩)
 ·obtain ⟨O,Pz,hv2,P,hv4⟩:=tX A l
  have T:aI t0:=by
   have M:=A;rw[O] at M;exact aI.back (aI.back (aI.back M))
  have zc:=bi List.length O;simp only[aa,dh,iw] at zc;refine aB Z<|aM Z<|aG<|aD Z<|aA<|aF<|kI 3<|eD<|aF<|aK 1 Z<|wa (aH PP Z ((oC (X:=([]++X)) (R0:=R0) lz Z G T))) ?_;rintro _ _ (⟨i,t1,m,mc,me,wj,rfl,rfl⟩|⟨m,rfl,rfl⟩)
  ·have fi:=dH m;have pd:=fA m;have co:aI t1:=aI.back (x:=aU i) (by rw[<-fi.1];exact T);refine aB Z<|aA<|aD Z<|aM Z<|aG<|aA<|aD Z<|aR Z ?_ ?_<;>intro ap
   ·refine aP<|aK 1 Z<|wa (aH PP Z ((oC (X:=([]++X)) (R0:=R0) wj Z G co))) ?_;rintro _ _ (⟨m9,t9,j,jj,gh,sq,rfl,rfl⟩|⟨j,rfl,rfl⟩)
    ·have C:=dH j;have qn:=fA j;have iu:aI t9:=aI.back (x:=aU m9) (by rw[<-C.1];exact co);refine aB Z<|aA<|cB [0] 11 Z<|bD 7 [0,3] 73 (.bool (decide ((m9≠0)\/(0<(t9.length:Int))))) Z ?_ ?_
     ·refine bB 66 Z ?_ ?_<;>intro bp
      ·exact aB Z<|KP
      exact iC [0] 4 Z<|aN Z Z<|dD (aH bTk Z (Ct.pk [1,0] 2 (h:=VI (k:=0) (R:=([(rc 50 10 g [PG gc,I (rd u 5),I (rd u 6),I (rd u 7),I sz,I (min lim 100000),I 0,I 0,sl At nt ct,sl none 0 0])]++X)++R0) (RdC.right sq ([(rc 50 10 g [PG gc,I (rd u 5),I (rd u 6),I (rd u 7),I sz,I (min lim 100000),I 0,I 0,sl At nt ct,sl none 0 0])]++X)) Z)))<|aB Z<|⟨SA,λ_ h=>h.selR (F:=[_,_]) (F':=[_,_]) [1,0] cC Z⟩
     refine wm Z<|wJ 10 [(84, .bool (decide ((m9≠0)\/(0<(t9.length:Int)))))] ((rc 50 10 g [PG gc,I (rd u 5),I (rd u 6),I (rd u 7),I sz,I (min lim 100000),I 0,I 0,sl At nt ct,sl none 0 0])::(rc 80 1 gc [sl jj t9.length gh])::(X++R0)) ?_ ?_
     ·refine bB 74 Z ?_ ?_<;>intro db
      ·exact aB Z<|KP
      exact aB Z<|KP
     refine aJ<|aR Z ?_ ?_<;>intro Q
     ·refine aD Z<|aL [] 2<|⟨_,Z,?_⟩;exact .inr ⟨3,fM l ((iM (by rw[<-ap];exact m)).trans (bq (by rw[uV (tot:=((([]:AH).length:Nat):Int)) j (.inl Q)];decide))),G,rfl,rfl⟩
     refine aG<|aD Z<|gN (R1:=(rc 50 10 g [PG gc,I (rd u 5),I (rd u 6),I (rd u 7),I sz,I (min lim 100000),I 0,I 0,sl At nt ct,sl none 0 0])::⟨22,1,none,0,0,[],false⟩::(X++R0)) (λ_ h=>((h.selR (F:=[_,_]) (F':=[_]) [0] cC Z).nil 22 1).selR (F:=[_,_]) (F':=[_,_]) [1,0] cC Z)<|⟨_,Z,?_⟩;exact .inl ⟨_,_,_,[],_,_,[],[],EQ l ((iM (by rw[<-ap];exact m)).trans (cz (tZ (tot:=((([]:AH).length:Nat):Int)) j (λh=>h.elim Q (λh=>by cases h.1))))),SlR.nilR _ _,rfl,rfl⟩
    refine aB Z<|aA<|aD Z<|bA Z<|aD Z<|aL [] 2<|⟨_,Z,?_⟩;exact .inr ⟨3,fM l ((iM (by rw[<-ap];exact m)).trans (bq (by rw[EO j];decide))),G,rfl,rfl⟩
   refine aG<|aA<|bE mixed<|fU [0] 0 6 Z<|wG 6 Z Z Z (Yl.f (iL Z Z) cC)<|bF 7 14 Z<|wN<|aA<|aK 2 Z<|wa (aH bTl Z ((aKf (X:=([]++X)) (R0:=R0) wj Z G co D P G G G))) ?_;rintro _ _ (⟨ws,a,d,vals,Rs,t2,y,fk,fc,ox,hs,rfl,rfl⟩|⟨e,y,he,rfl,rfl⟩)
   ·refine gZ (R1:=((rc 50 10 g [PG gc,I (rd u 5),I (rd u 6),I (rd u 7),I sz,I (min lim 100000),I (0+i),I 0,sl At nt ct,sl a vals.length d])::(rc 80 1 gc [sl fk t2.length fc])::⟨22,1,a,vals.length,d,vals,false⟩::((Rs++X)++R0))) (Sub.refl _) (λ_ h=>Hp.toTailY (X:=[_,_,_]) (Y:=[]) h) ?_;obtain⟨k0,k1,k2,k3,k4,k5,k6,k7,k8,k9⟩:=GY (lim:=min lim 100000) (tot:=0) (n:=i) (b:=ws.flatten) co G G G (by rw[<-D];exact y);have m8:=k9;obtain⟨K,q⟩: ∃K,t0.length=K+1:=⟨t0.length-1,G⟩;have H:=bi List.length k8;simp only[aa] at H;have k8m:=OW (rd u 7) k4 k2;have r:=DR (od:=rd u 7) (lim:=min lim 100000) (sz:=sz) (s:=[]) (f:=t0.length) (ws:=[]) (last:=0) (sh:=false) m G y;rw[q] at r;refine aB Z<|aK 1 Z<|wy (Yl.f (gD Z Z) cC)<|aJ<|aM Z<|aG<|aT 4 Z<|bN (aV 0 Z Z Z sz3 Z Z Z Z (ah Z))<|aJ<|eD<|aF<|aK 1 Z<|wa (aH PP Z ((oC (X:=([⟨22,1,a,vals.length,d,vals,false⟩]++(Rs++X))) (R0:=R0) ox Z G m8))) ?_;rintro _ _ (⟨S,t3,o,dy,ef,N,rfl,rfl⟩|⟨o,rfl,rfl⟩)
    ·have Kr:=dH o;have Uu:=fA o;have J:aI t3:=aI.back (x:=aU S) (by rw[<-Kr.1];exact m8);refine aB Z<|aA<|aD Z<|aM Z<|aG<|aA<|aD Z<|aR Z ?_ ?_<;>intro w
     ·refine aP<|aK 1 Z<|wa (aH PP Z ((oC (X:=([⟨22,1,a,vals.length,d,vals,false⟩]++(Rs++X))) (R0:=R0) N Z G J))) ?_;rintro _ _ (⟨m9,t9,j,kl,pj,p,rfl,rfl⟩|⟨j,rfl,rfl⟩)
      ·have C:=dH j;have qn:=fA j;have iu:aI t9:=aI.back (x:=aU m9) (by rw[<-C.1];exact J);refine aB Z<|aA<|cB [0] 11 Z<|bD 7 [0,3] 73 (.bool (decide ((m9≠(0+i))\/(0<(t9.length:Int))))) Z ?_ ?_
       ·refine bB 66 Z ?_ ?_<;>intro pi
        ·exact aB Z<|KP
        exact iC [0] 4 Z<|aN Z Z<|dD (aH bTk Z (Ct.pk [1,0,2] 3 (h:=VI (k:=0) (R:=([(rc 50 10 g [PG gc,I (rd u 5),I (rd u 6),I (rd u 7),I sz,I (min lim 100000),I (0+i),I i,sl At nt ct,sl a vals.length d]),⟨22,1,a,vals.length,d,vals,false⟩]++(Rs++X))++R0) (RdC.right p ([(rc 50 10 g [PG gc,I (rd u 5),I (rd u 6),I (rd u 7),I sz,I (min lim 100000),I (0+i),I i,sl At nt ct,sl a vals.length d]),⟨22,1,a,vals.length,d,vals,false⟩]++(Rs++X))) Z)))<|aB Z<|⟨SA,λ_ h=>h.selR (F:=[_,_,_]) (F':=[_,_,_]) [1,0,2] cC Z⟩
       refine wm Z<|wJ 10 [(84, .bool (decide ((m9≠(0+i))\/(0<(t9.length:Int)))))] ((rc 50 10 g [PG gc,I (rd u 5),I (rd u 6),I (rd u 7),I sz,I (min lim 100000),I (0+i),I i,sl At nt ct,sl a vals.length d])::(rc 80 1 gc [sl kl t9.length pj])::⟨22,1,a,vals.length,d,vals,false⟩::((Rs++X)++R0)) ?_ ?_
       ·refine bB 74 Z ?_ ?_<;>intro b9
        ·exact aB Z<|KP
        exact aB Z<|KP
       refine aJ<|aR Z ?_ ?_<;>intro u5
       ·refine aD Z<|gN (R1:=(X++R0)) (λ_ h=>Hp.toX (L:=[_,_,_]) h)<|⟨_,Z,?_⟩;exact .inr ⟨3,fM l (by rw[q];exact r.trans ((iM (by rw[<-w];exact o)).trans (bq (by rw[uV j (.inl (by rw[ig];omega))];decide)))),G,rfl,rfl⟩
       refine aG<|aD Z<|aL [0,2] 3<|⟨_,Z,?_⟩;exact .inl ⟨_,_,_,ws,_,_,vals,Rs,EQ l (by rw[q];exact r.trans ((iM (by rw[<-w];exact o)).trans (cz (tZ j (by rw[ig];rintro(h|h)<;>first|omega|(simp at h)))))),hs,Z,Z⟩
      refine aB Z<|aA<|aD Z<|bA Z<|aD Z<|gN (R1:=(X++R0)) (λ_ h=>Hp.toX (L:=[_,_,_]) h)<|⟨_,Z,?_⟩;exact .inr ⟨3,fM l (by rw[q];exact r.trans ((iM (by rw[<-w];exact o)).trans (bq (by rw[EO j];decide)))),G,rfl,rfl⟩
     refine aG<|lS [(0,PG g),(3, .bool (decide ((0<i)/\(i<sz)))),(4,I S)] ((rc 50 10 g [PG gc,I (rd u 5),I (rd u 6),I (rd u 7),I sz,I (min lim 100000),I (0+i),I i,sl At nt ct,sl a vals.length d])::(rc 80 1 gc [sl dy t3.length ef])::⟨22,1,a,vals.length,d,vals,false⟩::((Rs++X)++R0)) ?_ ?_
     ·refine bE mixed<|fU [0] 0 8 Z<|gM 28 Z ?_ ?_<;>intro Qt
      ·exact fU [0,0] 8 13 Z<|wN<|KP
      exact bF 8 13 Z<|wN<|KP
     refine aA<|aK 2 Z<|dD (aH bTl Z ((bHw (X:=([⟨22,1,a,vals.length,d,vals,false⟩]++(Rs++X))) (R0:=R0) N Z G J D P G G G)))<|aB Z<|aK 1 Z<|wy (Yl.t (gD Z Z) cC)<|aJ<|bA Z<|aD Z<|gN (R1:=(X++R0)) (λ_ h=>Hp.toX (L:=[_]) h)<|⟨_,Z,?_⟩;exact .inr ⟨3,fM l (by rw[q];exact r.trans (uM o w (qK (by unfold vD;rw[ig];omega)))),G,rfl,rfl⟩
    refine aB Z<|aA<|aD Z<|bA Z<|aD Z<|gN (R1:=(X++R0)) (λ_ h=>Hp.toX (L:=[_,_,_]) h)<|⟨_,Z,?_⟩;exact .inr ⟨3,fM l (by rw[q];exact r.trans (DT o)),G,rfl,rfl⟩
   refine aB Z<|aK 1 Z<|wy (Yl.t (gD Z Z) G)<|aJ<|bA Z<|aD Z<|aL [] 0<|⟨_,Z,?_⟩;exact .inr ⟨e,fM l (uM m ap y),he,Z,Z⟩
  refine aB Z<|aA<|aD Z<|bA Z<|aD Z<|aL [] 2<|⟨_,Z,?_⟩;exact .inr ⟨3,fM l (DT m),G,rfl,rfl⟩
 refine aB Z<|bA Z<|aD Z<|aL [] 0<|⟨_,Z,?_⟩;exact .inr ⟨3,decU_none l,G,rfl,rfl⟩
theorem bNc (am:R4 w_ ao ar an u) (k:aI u) (i:u.length<=1000000) (pm: -1000<=lim/\lim<=1000000) (o:rd u 5≠3):
  CF 6 #[sl ao ar an,I lim] w_ (λv R'=>(∃(sz:Int) (T:AH) (A:AF) (c:Nat),pI u lim= .ok ((T,[]),(rd u 5,rd u 6,rd u 7,sz))/\v= .tuple #[.agg #[sl A T.length c,sl none 0 0], .agg #[I (rd u 5),I (rd u 6),I (rd u 7),I sz],I 0]/\R'=[(ru 5 A T.length c T)])\/(∃e:Int,pI u lim= .error e/\(e=3\/e=4\/e=5)/\v= .tuple #[.agg #[sl none 0 0,sl none 0 0], .agg #[I 0,I 0,I 0,I 0],I e]/\R'=[])):=by
 obtain rfl:=am.lenI;refine aSd func6 Z Z Z pz Z iJ jd Z fC<|wq<|aX (eH (sz:=2) QY Z) λl=>aX (eH (sz:=4) QX Z) λm=>aB Z<|aK 1 Z<|aCc (aH bYe Z (Ct.fresh (λw q=>KO ((am.c _) w q) i))) λj r x=>wm Z<|wy (pQ Z Z)<|wy (bV (v:= .agg #[PG j,I 0,I 0,I 0,I 0,I (min lim 100000),I 0,I 0,sl none 0 0,sl none 0 0]) Z (λw=>cA))<|aX (dC (sz:=10) rfl rfl) λy=>dX (ru 5 none 0 0 ([]))<|aB rfl<|aA<|aK 1 rfl<|wa (aH bYa Z (Ct.pk [1,2,0,3,4,5] 99 (h:=bBx (X:=[]) (R0:=[(ru 5 r ((u).length) x u),(rc 27 4 m [I 0,I 0,I 0,I 0]),(rc 25 2 l [sl none 0 0,sl none 0 0])]) (rdr 0 Z) Z i k pm o))) ?_;rintro _ _ (⟨sz,d,T,b,a,g,rfl,rfl⟩|⟨e,g,p,rfl,rfl⟩)
 ·refine aB Z<|aK 1 Z<|wy (Yl.f (gD Z Z) cC)<|aJ<|aM Z<|aG<|aA<|yJ (Rc:=[(rc 50 10 y [PG j,I (rd u 5),I (rd u 6),I (rd u 7),I sz,I (min lim 100000),I (T.length:Int),I d,sl b T.length a,sl none 0 0])]) mixed (λ_ h=>h.sel [0] cC Z)<|fB 0 Z cA Z (dI Z)<|fB 1 Z cA Z (jS Z)<|fB 2 Z cA Z (yF 8 8 underlying50 iJ Z)<|fB 3 Z cA Z (bO (vs:=[sl b T.length a,sl none 0 0]) (rdr 0 Z) pz Z iJ Z Z (ah Z) Z)<|fB 4 Z cA Z (dI Z)<|fB 5 Z cA Z (jS Z)<|fB 6 Z cA Z (yF 1 1 underlying50 fC Z)<|fB 7 Z cA Z (bO (vs:=[I (rd u 5),I (rd u 6),I (rd u 7),I sz]) (rdr 0 Z) jd Z fC Z Z (ah Z) Z)<|iV 8 cA<|YF 8 Z (aZ (vs:=[sl b T.length a,sl none 0 0]) 4 Z iJ Z Z Z cH Z) ?_;rintro _ _ rfl;refine⟨λ_ h=>h.sel [0] cC Z,?_⟩;refine iV 9 cA<|YF 9 Z (aZ (vs:=[I (rd u 5),I (rd u 6),I (rd u 7),I sz]) 3 Z fC Z Z Z cI Z) ?_;rintro _ _ rfl;refine⟨λ_ h=>h.sel [0] cC Z,?_⟩;refine fB 10 Z cA Z (bY Z)<|sM cA<|aS<|⟨_,_,_,⟨_,4,_,Z,Z,Z,Z,Z,Z,Z,Z⟩,⟨_,3,_,Z,Z,Z,Z,Z,Z,Z,Z⟩,Z,[(ru 5 b T.length a T)],λ_ h=>h.sel [1] cC Z,?_⟩;exact .inl ⟨_,T,_,_,g,Z,Z⟩
 refine aB Z<|aK 1 Z<|wy (Yl.t (gD Z Z) G)<|aJ<|bA Z<|wq<|wy (bV (v:= .agg #[sl none 0 0,sl none 0 0]) Z (λw=>cA))<|wy (bV (v:= .agg #[I 0,I 0,I 0,I 0]) rfl (λw=>cA))<|wm rfl<|bN (aZ (vs:=[sl none 0 0,sl none 0 0]) 2 rfl iJ rfl rfl rfl cH rfl)<|bN (aZ (vs:=[I 0,I 0,I 0,I 0]) 1 Z fC Z Z Z cI Z)<|aB Z<|aS<|⟨_,_,_,⟨_,2,_,Z,Z,Z,Z,Z,Z,Z,Z⟩,⟨_,1,_,Z,Z,Z,Z,Z,Z,Z,Z⟩,Z,[],λ_ h=>h.sel [] cC Z,?_⟩;exact .inr ⟨e,g,p,Z,Z⟩
theorem bNb (am:R4 w_ ao ar an u) (r:aI u) (m:u.length<=1000000) (pm: -1000<=lim/\lim<=8000) (x:rd u 5=3):
  CF 6 #[sl ao ar an,I lim] w_ (λv R'=>(∃(sz:Int) (ws:AD) (A:AF) (c:Nat) (vals:AG) (Rs:List Row),pI u lim= .ok ((ws.flatten,ws),(rd u 5,rd u 6,rd u 7,sz))/\SlR .u8 Rs vals ws/\v= .tuple #[.agg #[sl none 0 0,sl A vals.length c], .agg #[I (rd u 5),I (rd u 6),I (rd u 7),I sz],I 0]/\R'=⟨22,1,A,vals.length,c,vals,false⟩::Rs)\/(∃e:Int,pI u lim= .error e/\(e=3\/e=4\/e=5)/\v= .tuple #[.agg #[sl none 0 0,sl none 0 0], .agg #[I 0,I 0,I 0,I 0],I e]/\R'=[])):=by
 obtain rfl:=am.lenI;refine aSd func6 Z Z Z pz Z iJ jd Z fC<|wq<|aX (eH (sz:=2) QY Z) λk=>aX (eH (sz:=4) QX Z) λl=>aB Z<|aK 1 Z<|aCc (aH bYe Z (Ct.fresh (λw B=>KO ((am.c _) w B) m))) λj o p=>wm Z<|wy (pQ Z Z)<|wy (bV (v:= .agg #[PG j,I 0,I 0,I 0,I 0,I (min lim 100000),I 0,I 0,sl none 0 0,sl none 0 0]) Z (λw=>cA))<|aX (dC (sz:=10) rfl rfl) λq=>aB rfl<|aA<|aK 1 rfl<|wa (aH bYa rfl ((aVb (X:=[]) (R0:=[(ru 5 o ((u).length) p u),(rc 27 4 l [I 0,I 0,I 0,I 0]),(rc 25 2 k [sl none 0 0,sl none 0 0])]) (rdr 0 rfl) rfl m r pm x))) ?_;rintro _ _ (⟨sz,g,d,ws,a,b,vals,Rs,i,hs,rfl,rfl⟩|⟨e,i,y,rfl,rfl⟩)
 ·refine gZ (R1:=((rc 50 10 q [PG j,I (rd u 5),I (rd u 6),I (rd u 7),I sz,I (min lim 100000),I g,I d,sl none 0 0,sl a vals.length b])::⟨22,1,a,vals.length,b,vals,false⟩::(ru 5 o ((u).length) p u)::(rc 27 4 l [I 0,I 0,I 0,I 0])::(rc 25 2 k [sl none 0 0,sl none 0 0])::Rs)) (Sub.refl _) (λ_ h=>Hp.toTailZ (X:=[_,_]) (Y:=[_,_,_]) h)<|aB Z<|aK 1 Z<|wy (Yl.f (gD Z Z) cC)<|aJ<|aM Z<|aG<|aA<|yJ (Rc:=((rc 50 10 q [PG j,I (rd u 5),I (rd u 6),I (rd u 7),I sz,I (min lim 100000),I g,I d,sl none 0 0,sl a vals.length b])::⟨22,1,a,vals.length,b,vals,false⟩::Rs)) mixed (λ_ h=>h.selR (F:=[_,_,_,_,_]) (F':=[_,_]) [0,1] cC Z)<|fB 0 Z cA Z (dI Z)<|fB 1 Z cA Z (jS Z)<|fB 2 Z cA Z (yF 8 8 underlying50 iJ Z)<|fB 3 Z cA Z (bO (vs:=[sl none 0 0,sl a vals.length b]) (rdr 0 Z) pz Z iJ Z Z (ah Z) Z)<|fB 4 Z cA Z (dI Z)<|fB 5 Z cA Z (jS Z)<|fB 6 Z cA Z (yF 1 1 underlying50 fC Z)<|fB 7 Z cA Z (bO (vs:=[I (rd u 5),I (rd u 6),I (rd u 7),I sz]) (rdr 0 Z) jd Z fC Z Z (ah Z) Z)<|iV 8 cA<|YF 8 Z (aZ (vs:=[sl none 0 0,sl a vals.length b]) 4 Z iJ Z Z Z cH Z) ?_;rintro _ _ rfl;refine⟨λ_ h=>h.selR (F:=[_,_,_,_,_]) (F':=[_,_]) [0,1] cC Z,?_⟩;refine iV 9 cA<|YF 9 Z (aZ (vs:=[I (rd u 5),I (rd u 6),I (rd u 7),I sz]) 3 Z fC Z Z Z cI Z) ?_;rintro _ _ rfl;refine⟨λ_ h=>h.selR (F:=[_,_,_,_,_]) (F':=[_,_]) [0,1] cC Z,?_⟩;refine fB 10 Z cA Z (bY Z)<|sM cA<|aS<|⟨_,_,_,⟨_,4,_,Z,Z,Z,Z,Z,Z,Z,Z⟩,⟨_,3,_,Z,Z,Z,Z,Z,Z,Z,Z⟩,Z,(⟨22,1,a,vals.length,b,vals,false⟩::Rs),λ_ h=>h.selR (F:=[_,_,_,_,_]) (F':=[_]) [1] cC Z,?_⟩;exact .inl ⟨_,ws,_,_,vals,Rs,i,hs,Z,Z⟩
 refine aB Z<|aK 1 Z<|wy (Yl.t (gD Z Z) G)<|aJ<|bA Z<|wq<|wy (bV (v:= .agg #[sl none 0 0,sl none 0 0]) Z (λw=>cA))<|wy (bV (v:= .agg #[I 0,I 0,I 0,I 0]) rfl (λw=>cA))<|wm rfl<|bN (aZ (vs:=[sl none 0 0,sl none 0 0]) 2 rfl iJ rfl rfl rfl cH rfl)<|bN (aZ (vs:=[I 0,I 0,I 0,I 0]) 1 Z fC Z Z Z cI Z)<|aB Z<|aS<|⟨_,_,_,⟨_,2,_,Z,Z,Z,Z,Z,Z,Z,Z⟩,⟨_,1,_,Z,Z,Z,Z,Z,Z,Z,Z⟩,Z,[],λ_ h=>(h.selR (F:=[_,_,_]) (F':=[]) [] cC Z).left (X:=[]),?_⟩;exact .inr ⟨e,i,y,Z,Z⟩
end
section
variable {B gc ar an:Nat} {w0:World} {X R0:List Row} {ao:AF} {u:AH} {k:Int}
theorem bBm {w:World} {lf:AF} {rj lj:Nat} {b:AH} (d:R4 w lf rj lj b) (go:aI b) (K:b.length<=1000000):
  CF 41 #[sl lf rj lj] w (λv R'=>(∃(V:Int) (k:Nat),rJ b V k/\v= .tuple #[.int .u64 V,I (k:Int),bt])\/((¬ ∃V k,rJ b V k)/\v= .tuple #[.int .u64 0,I 0,bf])):=by
 obtain rfl:=d.lenI;refine fn3 func41 Z Z Z<|aD Z<|aD Z<|aA<|aD Z<|aF<|dF (λ(q:Nat) (x:Int)=>[(0,sl lf b.length lj),(5, .int .u64 x),(6,I (q:Int))]) (λq x=>[]) (λq x=>(q<=10/\q<=b.length)/\(q<=9->x=iY (b.take q))/\(∀j:Int,0<=j->j<q->j<b.length-> ¬rd b j<128)) (λq x=>(11-q)) ?_ ?_
 ·exact⟨0,0,⟨G,(λ_=>Z),(λj h1 o=>G)⟩,KP⟩
 intro q x ⟨L,C,hn⟩;refine aA<|aK 5 Z<|bD 3 [0,5,6] 14 (.bool (decide (((q:Int)<(b.length:Int))/\((q:Int)<10)))) Z ?_ ?_
 ·refine bB 11 Z ?_ ?_<;>intro ap
  ·exact aB Z<|KP
  exact aB Z<|KP
 refine aJ<|aR Z ?_ ?_<;>intro D
 ·have A:=go.rd (q:Int);have a:=C G;have u:0<=x:=by rw[a];exact rU _
  have r:x<2^(7*q):=by rw[a];exact IM q G
  have e:=aRz (b:=b) (q:=q) (x:=x) G u r;refine aG<|aA<|aF<|aK 3 Z<|wy (aC ai sz5 Z Z (d.c _))<|wy (aQ ay Z Z (d.c _))<|wy (aZb Z Z A)<|wy (dO ay ic Z)<|wm Z<|wy (Yl.is (jG Z Z) (show Value.int .i64 (7*(q:Int))=Value.int .i64 ((7*q:Nat):Int) by simp))<|wy (dO av Bv rfl)<|wy (bQs (k:=7*q) rfl rfl G (Nat.ble_eq_true_of_le G))<|wy (Yl.is (bOl (p:=(rd b (q:Int))%128%2^(64-7*q)) (m:=2^(7*q)) (7*q) rfl rfl rfl ⟨jk _ (Int.ne_of_gt (Ag cC)),e.2⟩ ⟨u,r⟩) (show _=Value.int .u64 (PN b q x) from rfl))<|aB rfl<|aK 2 rfl ?_;refine wy (aC ai sz5 Z Z (d.c _))<|wy (aQ ay Z Z (d.c _))<|aB Z<|aR Z ?_ ?_<;>intro J
  ·have l:=bFb go (q:=q) G G cF (λj h1 o=>hn j h1 o G);rw[<-a] at l;have g:((q:Int)+1).toNat=q+1:=G
   refine aA<|aA<|bE mixed<|wD 0 Z (dI Z)<|bF 3 2 Z<|wD 5 Z (dJ Z Z)<|wD 6 Z (dV ai sz5 Z Z (d.c _))<|wD 7 Z (gL ai ay qh Z (RdC.toI (h:=((q:Int)+1).toNat) (d.c _) G))<|wC 1 Z (aH bWh Z (Ct.fresh (λw M=>aGf e))) ?_;rintro _ _⟨_,rfl,H,F,rfl,rfl⟩;refine⟨.inr hrZ,?_⟩;refine wD 2 Z (gL ai ay qh Z (rdr 0 Z))<|wD 8 Z (NM Z Z (dM e.1) (go.take _))<|wN<|aR Z ?_ ?_<;>intro y
   ·refine aD Z<|aL [] 99<|⟨_,_,_,Z,Z,Z,?_⟩;exact .inr ⟨l.2 (by rw[<-g];exact y),Z⟩
   refine aG<|aK 2 Z<|wA Z Z<|aB Z<|aL [] 99<|⟨_,_,_,Z,Z,Z,?_⟩;exact .inl ⟨_,q+1,l.1 (by rw[<-g];exact ol.1 y),Z⟩
  refine aG<|aT 1 Z<|wA Z Z<|aB Z ?_
  exact⟨(q+1),PN b q x,⟨G,(λh=>by rw[a,aIh G,xC G]),(λj h1 o B=>by
    rcases bz j q with h|h
    ·exact hn j h1 h B
    obtain rfl:j=(q:Int):=G
    assumption)⟩,G,KP⟩
 refine aP<|aD Z<|aS<|⟨_,_,_,Z,Z,Z,?_⟩;exact .inr ⟨bMj go (i:=(q:Int)) G hn,Z⟩
theorem bAt (am:R6 B w0 R0 ao ar an u) (ce:ar=u.length) (d:u.length<=1000000) (hk:0<=k):
  CT 40 #[PG gc,I k] B w0 ((rc 55 1 gc [sl ao ar an])::(X++R0)) (λv R'=>(k<=u.length/\ ∃(a:AF) (b:Nat),RdC B w0 R0 a (u.drop k.toNat).length b 1 (ints .u8 (u.drop k.toNat))/\v= .tuple #[sl ao k.toNat an,bt]/\R'=(rc 55 1 gc [sl a ((u.drop k.toNat).length) b])::(X++R0))\/(u.length<k/\v= .tuple #[sl none 0 0,bf]/\R'=(rc 55 1 gc [sl ao ar an])::(X++R0))):=by
 subst ce;refine fn2 func40 Z Z Z<|aD Z<|aA<|aK 1 Z<|wy (Yl.f (fD Z Z))<|sJ [0] Z<|aR Z ?_ ?_<;>intro ap
 ·refine aD Z<|aS<|⟨_,_,Z,Z,?_⟩;exact .inr ⟨G,rfl,rfl⟩
 refine aG<|cB [0] 5 Z<|wy (dV ai sz5 Z Z (RdC.right (RdC.right am X) [_]))<|aB Z<|cB [0] 6 Z<|wy (dE ai sz5 Z Z)<|bH 2 Z<|bN (aV 0 Z Z Z iZ Z Z Z Z (ah Z))<|aJ<|aD Z<|aS<|⟨_,_,Z,Z,?_⟩;have e:=RdC.fromI (l:=k.toNat) am G;have hl:u.length-k.toNat=(u.drop k.toNat).length:=by rw[az]
 rw[hl] at e;rw[hl];exact .inl ⟨G,_,_,e,rfl,rfl⟩
theorem kX {most:Int} (am:R6 B w0 R0 ao ar an u) (ce:ar=u.length) (q:u.length<=1000000) (k:aI u) (hb:0<=most/\most<=9223372036854775807):
  CT 19 #[PG gc,I most] B w0 ((rc 55 1 gc [sl ao ar an])::(X++R0)) (λv R'=>(∃(V:Int) (t:AH),iG u=some (V,t)/\V<=most/\ ∃(g:AF) (j:Nat),RdC B w0 R0 g (t).length j 1 (ints .u8 (t))/\v= .tuple #[I V,bt]/\R'=(rc 55 1 gc [sl g ((t).length) j])::(X++R0))\/((∀V t,iG u=some (V,t)->most<V)/\v= .tuple #[I 0,bf]/\R'=(rc 55 1 gc [sl ao ar an])::(X++R0))):=by
 subst ce;refine fn2 func19 Z Z Z<|aD Z<|cB [0] 4 Z<|wa (aH cAy Z (Ct.quiet (λw r=>bBm (RdC.right am (_::X) w r) k q))) ?_;rintro _ _⟨rfl,⟨V,m,b,rfl⟩|⟨b,rfl⟩⟩
 ·have x:=b.1;have d:m<=u.length:=by obtain⟨_,a,t,o⟩:=b;have p:=bi List.length o;rw[aa] at p;omega
  refine aB Z<|aA<|aK 4 Z<|aN Z Z<|wy (Yl.f (fD Z Z))<|bH 4 Z<|aN Z Z<|wy (dO av ic Z)<|aB Z<|aR Z ?_ ?_<;>intro ap
  ·refine aD Z<|aS<|⟨_,_,Z,Z,?_⟩;exact .inr ⟨λi t' h=>by have a:=dH h;rw[<-(rJ.one (a.1▸rJ.of ⟨a.2.1,G⟩ t') b).1] at ap;omega,rfl,rfl⟩
  refine aG<|cB [0] 6 Z<|wy (dE ai sz5 Z Z)<|bH 2 Z<|bN (aV 0 Z Z Z iZ Z Z Z Z (ah Z))<|aJ<|aK 1 Z<|wy (gV ic av Z)<|aB Z<|aS<|⟨_,_,Z,Z,?_⟩;have e:=RdC.fromI (l:=m) am d;have hl:u.length-m=(u.drop m).length:=by rw[az]
  rw[hl] at e;rw[bu,hl];exact .inl ⟨_,_,VO b G,G,_,_,e,rfl,rfl⟩
 refine aB Z<|aA<|aD Z<|bA Z<|aD Z<|aS<|⟨_,_,Z,Z,?_⟩;exact .inr ⟨λi t' h=>by have a:=dH h;exact absurd ⟨i,_,a.1▸rJ.of ⟨a.2.1,G⟩ t'⟩ b,rfl,rfl⟩
theorem uN {m:Nat} (hk:k=(m:Int)) (am:R6 B w0 R0 ao ar an u) (ce:ar=u.length) (d:u.length<=1000000):
  CT 40 #[PG gc,I k] B w0 ((rc 55 1 gc [sl ao ar an])::(X++R0)) (λv R'=>(k<=u.length/\ ∃(a:AF) (b:Nat),RdC B w0 R0 a (u.drop m).length b 1 (ints .u8 (u.drop m))/\v= .tuple #[sl ao m an,bt]/\R'=(rc 55 1 gc [sl a ((u.drop m).length) b])::(X++R0))\/(u.length<k/\v= .tuple #[sl none 0 0,bf]/\R'=(rc 55 1 gc [sl ao ar an])::(X++R0))):=by
 subst hk;have e:=bAt (k:=(m:Int)) (gc:=gc) (X:=X) am ce d (Int.natCast_nonneg m);rw[bu] at e;exact e
end
section
variable {B g vb rp g0 g1 g2 c0 c1 c2:Nat} {w0 w:World} {R:List Row} {rm A0 A1 A2:AF} {x:AH} {total y v0 o:Int}
theorem aGq {us cc r:Int} (j:R6 B w0 R rm vb rp x) (hn:vb=x.length) (k:aI x) (d:x.length<=1000000) (i:1<=total/\total<=65536) (h:16777216<=r/\r<4294967296) (hc:0<=cc/\cc<4294967296):
  CT 78 #[PG g,I total] B w0 ((rc 188 4 g [sl rm vb rp,I us, .int .u64 cc, .int .u64 r])::R) (λv R'=>(cc/(r/total)<total/\v= .tuple #[I (cc/(r/total)),bt]/\R'=(rc 188 4 g [sl rm vb rp,I us, .int .u64 cc, .int .u64 r])::R)\/(¬cc/(r/total)<total/\v= .tuple #[I 0,bf]/\R'=(rc 188 4 g [sl rm vb rp,I us, .int .u64 cc, .int .u64 r])::R)):=by
 subst hn;have e:256<=r/total:=(uo G).2 G;have b:0<=cc/(r/total):=Aa hc.1 G;have a:cc/(r/total)<=cc:=Cm _ hc.1;refine fn2 func78 Z Z Z<|aD Z<|aA<|aK 1 Z<|wy (Yl.f (fD Z Z))<|bH 2 Z<|aN Z Z<|wy (Yl.f (iL Z Z))<|aB Z<|aM Z<|aG<|aA<|bE mixed<|fU [0,0] 0 9 Z<|wD 9 Z (dO av ic Z)<|wD 10 Z (sI Z Z G G)<|wD 11 Z (sI Z Z G G)<|wD 12 Z (bY Z)<|wN<|aA<|aK 2 Z<|wy (dO av ic Z)<|aB Z<|aR Z ?_ ?_<;>intro ap
 ·refine aD Z<|aS<|⟨_,_,Z,Z,?_⟩;exact .inr ⟨G,rfl,rfl⟩
 refine aG<|aK 1 Z<|wy (gV ic av Z)<|aB Z<|aS<|⟨_,_,Z,Z,?_⟩;exact .inl ⟨G,rfl,rfl⟩
theorem aGe {s:CdS} {low size:Int} (h:R6 B w0 R rm vb rp x) (hn:vb=x.length) (l:aI x) (F:x.length<=1000000) (hs:16777216<=s.R/\s.R<4294967296) (b:rH low size total) (d5:s.R/total*low<=cuC x s) (K:cuC x s<s.R/total*(low+size)) (D:s.k+4<=x.length):
  CT 82 #[PG g,I low,I size,I total] B w0 ((rc 188 4 g [sl rm vb rp,I ((s.k+4:Nat):Int), .int .u64 (cuC x s), .int .u64 s.R])::R) (λv R'=>((lW s low size total).k+4<=x.length/\v=bt/\R'=(rc 188 4 g [sl rm vb rp,I (((lW s low size total).k+4:Nat):Int), .int .u64 (cuC x (lW s low size total)), .int .u64 ((lW s low size total).R)])::R)\/(x.length<(lW s low size total).k+4/\v=bf/\ ∃(us cc r:Int),R'=(rc 188 4 g [sl rm vb rp,I us, .int .u64 cc, .int .u64 r])::R)):=by
 subst hn;have o:=b;obtain⟨L,O,P,Q⟩:=o;obtain⟨f1,f2,f3,f4,f5⟩:=mX b hs;have u:=Ec (s.R/total) low size;have d6:(lW s low size total).k=s.k+shN (s.R/total*size):=rfl;refine fn1 func82 Z Z Z<|aD Z<|aA<|aK 3 Z<|dZ bQj Z (λw H=>ZV b)<|aB Z<|aM Z<|aG<|cB [0] 5 Z<|wy (dO av ic Z)<|wy (sI Z Z G G)<|aB Z<|aA<|cB [0] 6 Z<|wy (dO av ic Z)<|wy (mV Z Z G)<|wy (Yl.f (fD Z Z))<|iC [0] 8 Z<|aN Z Z<|wA Z Z<|aN Z Z<|wy (dO av ic Z)<|aN Z Z<|wy (mV Z Z G)<|aN Z Z<|wy (Yl.f (pG Z Z))<|aB Z<|aM Z<|aG<|cB [0] 7 Z<|wy (dO av ic Z)<|wy (mV Z Z G)<|wy (aKv Z Z G)<|bH 2 Z<|bN (aV 0 Z Z Z wP Z Z Z Z (ah Z)) ?_;refine aJ<|aK 3 Z<|wy (dO av ic Z)<|wy (mV Z Z G)<|bH 2 Z<|bN (aV 0 Z Z Z wP Z Z Z Z (ah Z))<|aJ<|aA<|aF<|DD (λ(j:Nat) (cc:Int) (r:Int) (M:Int)=>[(0,PG g)]) (λj cc r M=>((rc 188 4 g [sl rm x.length rp,I ((s.k+j+4:Nat):Int), .int .u64 cc, .int .u64 r])::R)) (λj cc r M=>(M=(s.N+s.R/total*low)*256^j)/\(r=(s.R/total*size)*256^j)/\(j<=shN (s.R/total*size))/\(cc=lZ (x.take (s.k+j+4))-M)/\(0<=cc/\cc<r)/\(s.k+j+4<=x.length)) (λj cc r M=>(4-j)) ?_ ?_
 ·exact⟨0,(cuC x s-s.R/total*low),(s.R/total)*size,(s.N+s.R/total*low),⟨(by rw[rz,wh]),(by rw[rz,wh]),(oq _),(by show cuC x s-s.R/total*low=lZ (x.take (s.k+4))-_;unfold cuC;omega),G,G⟩,KP⟩
 intro j cc r M ⟨d,a,e,hc,hb,hk⟩;have J:=AA (s.R/total*size);have y:1<=r:=by rw[a];exact xJ G
 refine aA<|lK [0] Z<|aR Z ?_ ?_<;>intro ap
 ·have i:j+1<=shN (s.R/total*size):=xH G e (by rw[<-a];assumption);refine aG<|aF<|aA<|aA<|bE mixed<|fU [0,0] 0 10 Z<|wN<|aR Z ?_ ?_<;>intro C
  ·refine aD Z<|aS<|⟨_,Z,?_⟩;exact .inr ⟨G,rfl,_,_,_,rfl⟩
  have io:=CG (x:=x) (m:=s.k+j+4) G hc;have A:=l.rd ((s.k+j+4:Nat):Int);have q:0<=cc*256+rd x ((s.k+j+4:Nat):Int)/\cc*256+rd x ((s.k+j+4:Nat):Int)<r*256:=G
  refine aG<|aA<|bE mixed<|fU [0] 0 5 Z<|wD 5 Z (pM (k:=8) (m:=256) Z Z Z G Z)<|fU [0,0] 6 8 Z<|wD 14 Z (aC ai sz5 Z Z (RdC.right h [_]))<|wD 15 Z (aQ ay Z Z (RdC.right h [_]))<|wD 16 Z (dO ay ic Z)<|wD 17 Z (aEz (p:=cc) (m:=256) 8 Z Z Z G G)<|bF 18 2 Z<|qN 20 Z cA (aV 0 Z Z Z wP Z Z Z Z (ah Z)) ?_;rintro _ _ rfl;refine⟨.inl cA,?_⟩;exact wN<|cB [0] 4 Z<|wA Z Z<|bH 2 Z<|bN (aV 0 Z Z Z sz3 Z Z Z Z (ah Z))<|aJ<|nQ [0] 5 Z<|wy (pM (k:=8) (m:=256) Z Z Z G Z)<|bH 2 Z<|bN (aV 0 Z Z Z wP Z Z Z Z (ah Z))<|aJ<|⟨(j+1),(cc*256+rd x ((s.k+j+4:Nat):Int)),r*256,(M*256),⟨(by rw[d,qc,<-tq]),(by rw[a,qc,<-tq]),(i),((CG G hc).trans Z),(q),G⟩,G,KP⟩
 refine aP<|aD Z<|aS<|⟨_,Z,?_⟩;obtain rfl:j=shN (s.R/total*size):=DL G e (by rw[<-a];omega);rw[hc,a,d];exact .inl ⟨G,rfl,rfl⟩
theorem aUw (a:R4 w rm vb rp x) (b:aI x) (A:4<=x.length):
  CF 75 #[sl rm vb rp] w (λv R'=> ∃g:Nat,v= .tuple #[PG g,bt]/\R'=[(rc 188 4 g [sl rm x.length rp,I 4, .int .u64 (cuC x cd0), .int .u64 4294967295])]):=by
 obtain rfl:=a.lenI;refine fn2 func75 Z Z Z ?_;have r:=b.rd 0;have B:=b.rd 1;have u:=b.rd 2;have q:=b.rd 3;have j:=tQ (x:=x) (m:=3) G;have i:=tQ (x:=x) (m:=2) G;have h:=tQ (x:=x) (m:=1) G;have d:=tQ (x:=x) (m:=0) G
 have o:cuC x cd0=((rd x 0*256+rd x 1)*256+rd x 2)*256+rd x 3:=by
   have e:cuC x cd0=lZ (x.take 4):=by show lZ (x.take (0+4))-0=_;rw[Eh]
   have l:lZ (x.take 0)=0:=rfl;rw[e,j,i,h,d,l];rw[Gw,Int.zero_add];rfl
 refine aD Z<|aA<|aK 2 Z<|wy (Yl.f (fD Z Z))<|aJ<|aM Z<|aG<|aA<|bE mixed<|wD 0 Z (dI Z)<|wD 1 Z (aC ai sz5 Z Z (a.c _))<|wD 2 Z (aQ ay Z Z (a.c _))<|wD 3 Z (dO ay ic Z)<|wD 4 Z (pM (k:=24) (m:=16777216) Z Z Z G Z)<|wD 5 Z (dI Z)<|wD 6 Z (aC ai sz5 Z Z (a.c _))<|wD 7 Z (aQ ay Z Z (a.c _))<|wD 8 Z (dO ay ic Z)<|wD 9 Z (pM (k:=16) (m:=65536) Z Z Z G Z)<|wD 10 Z (Yl.is (aEz (p:=rd x 0) (m:=16777216) 24 Z Z Z G G) (bi (Value.int .u64) (show _=(rd x 0*256+rd x 1)*65536 by omega)))<|wD 11 rfl (dI rfl)<|wD 12 rfl (aC ai sz5 rfl rfl (a.c _))<|wD 13 rfl (aQ ay rfl rfl (a.c _))<|wD 14 rfl (dO ay ic rfl)<|wD 15 rfl (pM (k:=8) (m:=256) rfl rfl rfl G rfl)<|wD 16 rfl (Yl.is (aEz (p:=(rd x 0*256+rd x 1)) (m:=65536) 16 rfl rfl rfl G G) (bi (Value.int .u64) (show _=((rd x 0*256+rd x 1)*256+rd x 2)*256 by omega)))<|wD 17 rfl (dI rfl)<|wD 18 rfl (aC ai sz5 rfl rfl (a.c _))<|wD 19 rfl (aQ ay rfl rfl (a.c _))<|wD 20 rfl (dO ay ic rfl) ?_;refine wD 21 Z (Yl.is (aEz (p:=((rd x 0*256+rd x 1)*256+rd x 2)) (m:=256) 8 Z Z Z G G) (bi (Value.int .u64) (show _=((rd x 0*256+rd x 1)*256+rd x 2)*256+rd x 3 by omega)))<|wD 22 rfl (bY rfl)<|wN<|aK 2 rfl<|wy (bV (v:= .agg #[sl rm x.length rp,I 4, .int .u64 (((rd x 0*256+rd x 1)*256+rd x 2)*256+rd x 3), .int .u64 4294967295]) rfl (λw=>cA))<|aX (dC (sz:=4) rfl rfl) λy=>aB rfl<|aS ?_;refine⟨_,_,Z,Z,?_⟩;rw[<-o];exact⟨_,Z,Z⟩
theorem aMg (a:R4 w rm vb rp x) (b:x.length<4):
  CF 75 #[sl rm vb rp] w (λv R'=>v= .tuple #[.pointer none,bf]):=by
 obtain rfl:=a.lenI;refine fn2 func75 Z Z Z<|aD Z<|aA<|aK 2 Z<|wy (Yl.t (fD Z Z) G)<|aJ<|bA Z<|aD Z<|aS<|⟨_,_,Z,Z,?_⟩;rfl
theorem wT {A:AF} {n c:Nat} {C:AH} (hn:n=C.length) (a:mD C) (d:0<=y/\y<258) (j:bL (C.take y.toNat)<=v0/\v0<bL (C.take y.toNat)+rd C y):
  CT 80 #[PG g,I v0] B w0 ((rc 191 1 g [sl A n c])::(ri 3 A n c C)::R) (λv R'=>v= .tuple #[I y,bt]/\R'=(rc 191 1 g [sl A n c])::(ri 3 A n c C)::R):=by
 subst hn;have mt:=a.1;have h:=a.le.part d.1 d.2;have k:=tJ (i:=y) a.2.1 d.1 G;refine fn2 func80 Z Z Z<|aD Z<|aA<|aK 1 Z<|wy (Yl.f (fD Z Z))<|aJ<|aM Z<|aG<|aA<|aD Z<|aF<|dF (λ(i:Int) (x:Int)=>[(0,PG g),(1,I x),(6,I i)]) (λi x=>((rc 191 1 g [sl A C.length c])::(ri 3 A C.length c C)::R)) (λi x=>(0<=i)/\(i<=y)/\(x=v0-bL (C.take i.toNat))) (λi x=>(y-i).toNat) ?_ ?_
 ·exact⟨0,v0,⟨G,G,(by rw[show bL (C.take (0:Int).toNat)=0 from rfl];omega)⟩,KP⟩
 intro i x ⟨b,e,m⟩;have hp:=a.le.part b G;refine aA<|cB [0] 6 Z<|wy (Yl.t (fD Z Z) G)<|aJ<|bA Z<|aG<|aA<|aF<|aA<|cB [0] 6 Z<|wy (aC ak sz3 Z Z (rdr 1 Z))<|wy (aQ av Z Z (rdr 1 Z))<|aB Z<|aR Z ?_ ?_<;>intro ap
 ·refine aD Z<|aS<|⟨_,_,Z,Z,?_⟩;obtain rfl:i=y:=aQk a.2.1 b e G j.1 G;exact⟨Z,Z⟩
 have l:i≠y:=by rintro rfl;omega
 exact aG<|nQ [0] 6 Z<|wy (aC ak sz3 Z Z (rdr 1 Z))<|wy (aQ av Z Z (rdr 1 Z))<|wS Z Z<|aB Z<|aT 1 Z<|wA Z Z<|aB Z<|⟨i+1,x-(rd C i),⟨G,G,(by rw[kW b G];omega)⟩,G,KP⟩
theorem FP {S:PpS} (b:S.cls*o=0\/S.cls*o=1\/S.cls*o=2) (a:xB S):
  CT 79 #[.pointer (some ⟨(FE g0 g1 g2 (S.cls*o)),0,none⟩)] B w0 ((rc 191 1 g0 [sl A0 258 c0])::(ri 3 A0 258 c0 S.c0)::(rc 191 1 g1 [sl A1 258 c1])::(ri 3 A1 258 c1 S.c1)::(rc 191 1 g2 [sl A2 258 c2])::(ri 3 A2 258 c2 S.c2)::R) (λv R'=>v=I (bL (dK o S))/\R'=(rc 191 1 g0 [sl A0 258 c0])::(ri 3 A0 258 c0 S.c0)::(rc 191 1 g1 [sl A1 258 c1])::(ri 3 A1 258 c1 S.c1)::(rc 191 1 g2 [sl A2 258 c2])::(ri 3 A2 258 c2 S.c2)::R):=by
 rcases b with hk|hk|hk
 ·rw[(vM hk).1,(vM (g0:=0) (g1:=0) (g2:=0) hk).2];exact Ct.via [0,1,2,3,4,5] [0,1,2,3,4,5] 6 (jT (by rw[a.1.1.1]) a.1.1.le)
 ·rw[(vL hk).1,(vL (g0:=0) (g1:=0) (g2:=0) hk).2];exact Ct.via [2,3,0,1,4,5] [2,3,0,1,4,5] 6 (jT (by rw[a.1.2.1.1]) a.1.2.1.le)
 rw[(vK hk).1,(vK (g0:=0) (g1:=0) (g2:=0) hk).2];exact Ct.via [4,5,0,1,2,3] [2,3,4,5,0,1] 6 (jT (by rw[a.1.2.2.1]) a.1.2.2.le)
theorem aCs {S:PpS} (d:S.cls*o=0\/S.cls*o=1\/S.cls*o=2) (a:xB S) (b:0<=y/\y<258):
  CT 81 #[.pointer (some ⟨(FE g0 g1 g2 (S.cls*o)),0,none⟩),I y] B w0 ((rc 191 1 g0 [sl A0 258 c0])::(ri 3 A0 258 c0 S.c0)::(rc 191 1 g1 [sl A1 258 c1])::(ri 3 A1 258 c1 S.c1)::(rc 191 1 g2 [sl A2 258 c2])::(ri 3 A2 258 c2 S.c2)::R) (λv R'=>v= .tuple #[I (bL ((dK o S).take y.toNat)),I (rd (dK o S) y),bt]/\R'=(rc 191 1 g0 [sl A0 258 c0])::(ri 3 A0 258 c0 S.c0)::(rc 191 1 g1 [sl A1 258 c1])::(ri 3 A1 258 c1 S.c1)::(rc 191 1 g2 [sl A2 258 c2])::(ri 3 A2 258 c2 S.c2)::R):=by
 rcases d with hk|hk|hk
 ·rw[(vM hk).1,(vM (g0:=0) (g1:=0) (g2:=0) hk).2];exact Ct.via [0,1,2,3,4,5] [0,1,2,3,4,5] 6 (mE (by rw[a.1.1.1]) (by rw[a.1.1.1];exact b) a.1.1)
 ·rw[(vL hk).1,(vL (g0:=0) (g1:=0) (g2:=0) hk).2];exact Ct.via [2,3,0,1,4,5] [2,3,0,1,4,5] 6 (mE (by rw[a.1.2.1.1]) (by rw[a.1.2.1.1];exact b) a.1.2.1)
 rw[(vK hk).1,(vK (g0:=0) (g1:=0) (g2:=0) hk).2];exact Ct.via [4,5,0,1,2,3] [2,3,4,5,0,1] 6 (mE (by rw[a.1.2.2.1]) (by rw[a.1.2.2.1];exact b) a.1.2.2)
theorem JG {S:PpS} (e:S.cls*o=0\/S.cls*o=1\/S.cls*o=2) (a:xB S) (d:0<=y/\y<258) (b:bL ((dK o S).take y.toNat)<=v0/\v0<bL ((dK o S).take y.toNat)+rd (dK o S) y):
  CT 80 #[.pointer (some ⟨(FE g0 g1 g2 (S.cls*o)),0,none⟩),I v0] B w0 ((rc 191 1 g0 [sl A0 258 c0])::(ri 3 A0 258 c0 S.c0)::(rc 191 1 g1 [sl A1 258 c1])::(ri 3 A1 258 c1 S.c1)::(rc 191 1 g2 [sl A2 258 c2])::(ri 3 A2 258 c2 S.c2)::R) (λv R'=>v= .tuple #[I y,bt]/\R'=(rc 191 1 g0 [sl A0 258 c0])::(ri 3 A0 258 c0 S.c0)::(rc 191 1 g1 [sl A1 258 c1])::(ri 3 A1 258 c1 S.c1)::(rc 191 1 g2 [sl A2 258 c2])::(ri 3 A2 258 c2 S.c2)::R):=by
 rcases e with hk|hk|hk
 ·rw[(vM (g0:=0) (g1:=0) (g2:=0) hk).2] at b;rw[(vM hk).1];exact Ct.via [0,1,2,3,4,5] [0,1,2,3,4,5] 6 (wT (by rw[a.1.1.1]) a.1.1 d b)
 ·rw[(vL (g0:=0) (g1:=0) (g2:=0) hk).2] at b;rw[(vL hk).1];exact Ct.via [2,3,0,1,4,5] [2,3,0,1,4,5] 6 (wT (by rw[a.1.2.1.1]) a.1.2.1 d b)
 rw[(vK (g0:=0) (g1:=0) (g2:=0) hk).2] at b;rw[(vK hk).1];exact Ct.via [4,5,0,1,2,3] [2,3,4,5,0,1] 6 (wT (by rw[a.1.2.2.1]) a.1.2.2 d b)
theorem aGl {S:PpS} (d:S.cls*o=0\/S.cls*o=1\/S.cls*o=2) (a:xB S) (b:0<=y/\y<258):
  CT 83 #[.pointer (some ⟨(FE g0 g1 g2 (S.cls*o)),0,none⟩),I y] B w0 ((rc 191 1 g0 [sl A0 258 c0])::(ri 3 A0 258 c0 S.c0)::(rc 191 1 g1 [sl A1 258 c1])::(ri 3 A1 258 c1 S.c1)::(rc 191 1 g2 [sl A2 258 c2])::(ri 3 A2 258 c2 S.c2)::R) (λv R'=>v=bt/\R'=(rc 191 1 g0 [sl A0 258 c0])::(ri 3 A0 258 c0 ((fJ o S y).c0))::(rc 191 1 g1 [sl A1 258 c1])::(ri 3 A1 258 c1 ((fJ o S y).c1))::(rc 191 1 g2 [sl A2 258 c2])::(ri 3 A2 258 c2 ((fJ o S y).c2))::R):=by
 rcases d with hk|hk|hk
 ·rw[(vM hk).1,bAi hk];exact Ct.via [0,1,2,3,4,5] [0,1,2,3,4,5] 6 (nI (by rw[a.1.1.1]) (by rw[a.1.1.1];exact b) a.1.1)
 ·rw[(vL hk).1,bAh hk];exact Ct.via [2,3,0,1,4,5] [2,3,0,1,4,5] 6 (nI (by rw[a.1.2.1.1]) (by rw[a.1.2.1.1];exact b) a.1.2.1)
 rw[(vK hk).1,bAg hk];exact Ct.via [4,5,0,1,2,3] [2,3,4,5,0,1] 6 (nI (by rw[a.1.2.2.1]) (by rw[a.1.2.2.1];exact b) a.1.2.2)
theorem bMh (g0 g1 g2:Nat) {k:Int} (h:k=0\/k=1\/k=2):[Value.pointer (GG g0),Value.pointer (GG g1),Value.pointer (GG g2)][k.toNat]? =some (.pointer (some ⟨FE g0 g1 g2 k,0,none⟩)):=by
 rcases h with rfl|rfl|rfl<;>rfl
theorem aMb {last:Int} (a:o=0\/o=1):CF 77 #[I o,I last] w (λv R'=>v=I (gU last*o)):=by
 have hb:=aJx last;have b:gU last*o=0\/gU last*o=1\/gU last*o=2:=by rcases a with rfl|rfl<;>omega
 rcases b with hk|hk|hk
 ·rw[hk];exact FO a hk
 ·rw[hk];exact FN a hk
 rw[hk];exact FM a hk
end
section
variable {w:World} {l x:AH} {most o:Int} {rm:AF} {vb rp:Nat}
theorem XU {li:AF} {va ml:Nat} {l:AH} (g:R5 w li va ml l) (Q: ∀z∈l,0<=z/\z<257) (hm:0<=most/\most<=100000) (hN:l.length<=1000000):
  CF 84 #[sl li va ml,I most] w (λv R'=>(∃(q:AH) (A:AF) (c:Nat),(bkL most l [] 1=some q/\dR 0 q=l)/\v= .tuple #[sl A q.length c,bt]/\R'=[(ru 5 A q.length c q)])\/((∀q,bkL most l [] 1=some q->dR 0 q≠l)/\(∃a,v= .tuple #[a,bf])/\R'=[])):=by
 obtain rfl:=g.lenI;refine fn2 Tryz.func84 Z Z Z<|aD Z<|wq<|dX (ru 5 none 0 0 ([]))<|aB Z<|aD Z<|aA<|aD Z<|aF<|nX (λ(i:Int) (A1:AF) (j:Nat) (c1:Nat) (acc:AH) (p:Int)=>[(0,sl li l.length ml),(1,I most),(6,sl A1 j c1),(7,I p),(8,I i)]) (λi A1 j c1 acc p=>[(ru 5 A1 j c1 acc)]) (λi A1 j c1 acc p=>(0<=i)/\(i<=l.length)/\(j=acc.length)/\(1<=p/\p<=200000)/\((acc.length:Int)<=most)/\(Kp (bkL most (l.drop i.toNat) acc p=bkL most l [] 1))) (λi A1 j c1 acc p=>(l.length-i).toNat) ?_ ?_
 ·exact⟨0,none,0,0,[],1,⟨G,G,(Z),G,(by show(0:Int)<=most;omega),(show _=_ from Z)⟩,KP⟩
 intro i A1 j c1 acc p ⟨x,gn,J,hp,ph,y⟩;refine aA<|aD Z<|aR Z ?_ ?_<;>intro ap
 ·have F:=Q _ (bM (L:=l) (k:=i) x G);refine aG<|aA<|aF<|aA<|aK 2 Z<|wy (aC ak sz3 Z Z (g.c _))<|wy (aQ av Z Z (g.c _))<|wy (Yl.f (fD Z Z))<|bH 3 Z<|aN Z Z<|wy (aC ak sz3 Z Z (g.c _))<|aN Z Z<|wy (aQ av Z Z (g.c _))<|aN Z Z<|wy (Yl.f (iL Z Z))<|bH 3 Z<|aN Z Z<|wy (Yl.f (fD Z Z))<|aB Z<|aM Z<|aG<|aD Z<|aA<|aK 2 Z<|wy (aC ak sz3 Z Z (g.c _))<|wy (aQ av Z Z (g.c _))<|aB Z<|aR Z ?_ ?_<;>intro bp
  ·have T:(rd l i+1)*p=p\/(rd l i+1)*p=2*p:=by
    rcases(by omega:rd l i=0\/rd l i=1) with e|e<;>rw[e]<;>omega
   obtain⟨C,u⟩: ∃C:Nat,(rd l i+1)*p=(C:Int):=⟨((rd l i+1)*p).toNat,G⟩;refine aK 3 Z<|wy (aC ak sz3 Z Z (g.c _))<|wy (aQ av Z Z (g.c _))<|wA Z Z<|wy (Yl.is (jG Z Z (by rw[xc,u];omega)) (by rw[xc,u])) ?_;refine aB Z<|aT 1 Z<|wy (jG Z Z)<|wy (Yl.is (pQ Z Z) (by rw[show min (p*2) 1099511627776=p*2 by omega])) ?_;refine aB Z<|aA<|aK 4 Z<|wS Z Z<|aB Z<|aR Z ?_ ?_<;>intro db
   ·refine aD Z<|aL [] 99<|⟨_,_,Z,Z,?_⟩;have o:bkL most l [] 1=none:=by rw[<-show _=_ from y,sH x G F,bq G,cz (by rw[u];omega)]
    exact .inr ⟨(λq h=>by rw[o] at h;simp at h),⟨_,rfl⟩,rfl⟩
   refine aG<|aD Z<|aF<|eT (λ(k:Int) (A2:AF) (b:Nat) (c2:Nat) (d:AH)=>[(0,sl li l.length ml),(1,I most),(6,sl A2 b c2),(7,I (p*2)),(8,I i),(9,I (C:Int)),(10, .int .u8 0),(11,I k)]) (λk A2 b c2 d=>[(ru 5 A2 b c2 d)]) (λk A2 b c2 d=>(0<=k)/\(k<=(C:Int))/\(b=d.length)/\(d=acc++List.replicate k.toNat (0))) (λk A2 b c2 d=>((C:Int)-k).toNat) ?_ ?_
   ·exact⟨0,A1,j,c1,acc,⟨G,G,(J),((ik _).symm)⟩,KP⟩
   intro k A2 b c2 d ⟨S,X,B,m⟩;have K:=bi List.length m;rw[aa,df] at K;refine aA<|aD Z<|aR Z ?_ ?_<;>intro dj
   ·exact aG<|aA<|aF<|aT 2 Z<|aX (bG .u8 [0] ai zs5 Z Z Z) λdg=>dG (aO 1 Z ai zb5 Z Z Z (rdr 0 Z)) λM N=>bC (v:=sl M (b+1) N) Z<|aB Z<|aT 1 Z<|wA Z Z<|aB Z<|⟨k+1,M,b+1,N,d++([0]),⟨G,G,(by rw[aa,B];rfl),(by rw[show(k+1).toNat=k.toNat+1 by omega,zb,<-dx,<-m])⟩,G,SA,λ_ h=>h.sel [1] cC Z⟩
   exact aP<|aT 1 Z<|wA Z Z<|aB Z<|⟨i+1,A2,b,c2,d,p*2,⟨G,G,(B),G,G,(Ap (Eq.symm (show bkL most (l.drop i.toNat) acc p=_ from by rw[sH x G F,bq G,bq (by rw[u];omega),m,show k.toNat=((rd l i+1)*p).toNat by rw[u];omega])) y)⟩,G,KP⟩
  refine aT 2 Z<|wy (aC ak sz3 Z Z (g.c _))<|wy (aQ av Z Z (g.c _))<|wS Z Z<|wy (eP av ay Z)<|aB Z<|aA<|aK 4 Z<|wS Z Z<|aB Z<|aR Z ?_ ?_<;>intro ff
  ·refine aD Z<|aL [] 99<|⟨_,_,Z,Z,?_⟩;have o:bkL most l [] 1=none:=by rw[<-show _=_ from y,sH x G F,cz G,cz G]
   exact .inr ⟨(λq h=>by rw[o] at h;simp at h),⟨_,rfl⟩,rfl⟩
  refine aG<|aD Z<|aF<|eT (λ(k:Int) (A2:AF) (b:Nat) (c2:Nat) (d:AH)=>[(0,sl li l.length ml),(1,I most),(6,sl A2 b c2),(7,I 1),(8,I i),(9,I 1),(10, .int .u8 (((rd l i)-1)%256)),(11,I k)]) (λk A2 b c2 d=>[(ru 5 A2 b c2 d)]) (λk A2 b c2 d=>(0<=k)/\(k<=1)/\(b=d.length)/\(d=acc++List.replicate k.toNat (((rd l i)-1)%256))) (λk A2 b c2 d=>(1-k).toNat) ?_ ?_
  ·exact⟨0,A1,j,c1,acc,⟨G,G,(J),((ik _).symm)⟩,KP⟩
  intro k A2 b c2 d ⟨S,X,B,m⟩;have K:=bi List.length m;rw[aa,df] at K;refine aA<|aD Z<|aR Z ?_ ?_<;>intro pi
  ·exact aG<|aA<|aF<|aT 2 Z<|aX (bG .u8 [((rd l i)-1)%256] ai zs5 Z Z Z) λsk=>dG (aO 1 Z ai zb5 Z Z Z (rdr 0 Z)) λP O=>bC (v:=sl P (b+1) O) Z<|aB Z<|aT 1 Z<|wA Z Z<|aB Z<|⟨k+1,P,b+1,O,d++([((rd l i)-1)%256]),⟨G,G,(by rw[aa,B];rfl),(by rw[show(k+1).toNat=k.toNat+1 by omega,zb,<-dx,<-m])⟩,G,SA,λ_ h=>h.sel [1] cC Z⟩
  exact aP<|aT 1 Z<|wA Z Z<|aB Z<|⟨i+1,A2,b,c2,d,1,⟨G,G,(B),G,G,(Ap (Eq.symm (show bkL most (l.drop i.toNat) acc p=_ from by rw[sH x G F,cz G,bq G,m,show k.toNat=1 by omega,kg G G];rfl)) y)⟩,G,KP⟩
 have H:bkL most l [] 1=some acc:=by rw[<-show _=_ from y,vv G];rfl
 refine aP<|aK 2 Z<|wy (Yl.t (pG Z Z) G)<|bH 2 Z ?_;have R:aI acc:=(LH G (λ_ h=>(by cases h)) (by show(0:Int)<=_;omega) H).1;have Y:=uI acc 0;refine aN Z Z<|bZ bQm Z (λw r=>TB ((rdr 0 Z) w r) R G) λjn cm=>bH 1 Z ?_;refine(ry (dR 0 acc=l)).elim ?_ ?_<;>intro D
 ·refine aN Z Z<|dZ bGn Z (λw r=>VJ ((rdr 0 Z) w r) ((g.c _) w r) cE)<|rO 77 Z (D)<|aB Z<|aL [1] 99<|⟨_,_,Z,Z,?_⟩;subst J;exact .inl ⟨acc,_,_,⟨H,D⟩,Z,Z⟩
 refine aN Z Z<|dZ bGn Z (λw r=>VJ ((rdr 0 Z) w r) ((g.c _) w r) cE)<|pW 77 Z (D)<|aB Z<|aL [] 99<|⟨_,_,Z,Z,?_⟩;exact .inr ⟨λq h=>by rw[H] at h;rw[<-fo h];exact D,⟨_,rfl⟩,rfl⟩
theorem aUa (o:Int) (S:PpS) (y:Int):(fJ o S y).cls=gU y:=by
 unfold fJ XR;split<;>(try split)<;>rfl
theorem bJp (h:aEq x o most l) (hn: ∀q,bkL most l [] 1=some q->dR 0 q≠l):NoB x o most:=λb hb d e=>by
 obtain⟨h1,a⟩:=h.tell hb d e;exact hn _ a h1
theorem aUt {B:Nat} {w0:World} {R:List Row} {g:Nat} {y:Int} {S:PpS} (d:R6 B w0 R rm vb rp x) (hn:vb=x.length) (e:aI x) (b:x.length<=1000000) (hs:16777216<=S.cd.R/\S.cd.R<4294967296) (i:rH (bL ((dK o S).take y.toNat)) (rd (dK o S) y) (bL (dK o S))) (d5:S.cd.R/bL (dK o S)*bL ((dK o S).take y.toNat)<=cuC x S.cd) (h:cuC x S.cd<S.cd.R/bL (dK o S)*(bL ((dK o S).take y.toNat)+rd (dK o S) y)) (a:S.cd.k+4<=x.length):
  CT 82 #[PG g,I (bL ((dK o S).take y.toNat)),I (rd (dK o S) y),I (bL (dK o S))] B w0 ((rc 188 4 g [sl rm vb rp,I ((S.cd.k+4:Nat):Int), .int .u64 (cuC x S.cd), .int .u64 S.cd.R])::R) (λv R'=>((mM S.cd (dK o S) y).k+4<=x.length/\v=bt/\R'=(rc 188 4 g [sl rm vb rp,I ((((fJ o S y).cd).k+4:Nat):Int), .int .u64 (cuC x ((fJ o S y).cd)), .int .u64 (((fJ o S y).cd).R)])::R)\/(x.length<(mM S.cd (dK o S) y).k+4/\v=bf/\ ∃(us cc r:Int),R'=(rc 188 4 g [sl rm vb rp,I us, .int .u64 cc, .int .u64 r])::R)):=by
 rw[uK];exact aGe d hn e b hs i d5 h a
theorem AB (r:R4 w rm vb rp x) (u:aI x) (hN:x.length<=1000000) (L:o=0\/o=1) (hm:0<=most/\most<=100000):
  CF 44 #[sl rm vb rp,I o,I most] w (λv R'=>(∃(b:AH) (A:AF) (c:Nat),(aI b/\(b.length:Int)<=most)/\bT b o=x/\v= .tuple #[sl A b.length c,bt]/\R'=[(ru 5 A b.length c b)])\/(NoB x o most/\v= .tuple #[sl none 0 0,bf]/\R'=[])):=by
 obtain rfl:=r.lenI;refine fn2 Tryz.func44 Z Z Z<|aD Z<|aK 1 Z ?_;refine(ry (4<=x.length)).elim ?_ ?_<;>intro h4
 ·refine wa (aH bVp Z (Ct.fresh (λw a=>aUw ((r.c _) w a) u h4))) ?_;rintro _ _⟨_,rfl,bc,rfl,rfl⟩;refine aB Z<|aA<|aK 4 Z<|aN Z Z<|wy (Yl.f (fD Z Z))<|bH 3 Z<|aN Z Z<|wy (Yl.f (iL Z Z))<|bH 3 Z<|aN Z Z<|wy (Yl.f (fD Z Z))<|aB Z<|aM Z<|aG<|aA<|bK<|wa (aH bVo Z (Ct.fresh (λw a=>JH))) ?_;rintro _ _⟨_,rfl,dg,O,P,f8,jp,jj,zd,vf,cm,fc,rfl,rfl⟩;refine aB Z<|wq<|dX (ri 3 none 0 0 ([]))<|aB Z<|aD Z<|aA<|aF<|nX (λ(A1:AF) (i:Nat) (c1:Nat) (acc:AH) (d:PpS) (last:Int)=>[(0,sl rm x.length rp),(1,I o),(2,I most),(8,PG bc),(10,sl (GG dg) 3 3),(11,sl A1 i c1),(12,I last)]) (λA1 i c1 acc d last=>[(ri 3 A1 i c1 acc),⟨125,1,(GG dg),3,3,[Value.pointer (GG O),Value.pointer (GG P),Value.pointer (GG f8)],false⟩,(rc 191 1 O [sl jp 258 vf]),(ri 3 jp 258 vf d.c0),(rc 191 1 P [sl jj 258 cm]),(ri 3 jj 258 cm d.c1),(rc 191 1 f8 [sl zd 258 fc]),(ri 3 zd 258 fc d.c2),(rc 188 4 bc [sl rm x.length rp,I ((d.cd.k+4:Nat):Int), .int .u64 (cuC x d.cd), .int .u64 d.cd.R])]) (λA1 i c1 acc d last=>(i=acc.length)/\((acc.length:Int)<=2*most+3)/\(xB d)/\(d.cls=gU last)/\((last≠257/\pJ x o most acc d)\/(last=257/\ ∃l0,acc=l0++[257]/\(∀z∈l0,0<=z/\z<257)/\aEq x o most l0))) (λA1 i c1 acc d last=>(2*most+4-acc.length).toNat) ?_ ?_
  ·exact⟨none,0,0,[],pp0,0,⟨(Z),(by show(0:Int)<=_;omega),(aMv),(Z),(.inl ⟨cC,aAu u h4⟩)⟩,KP⟩
  intro A1 i c1 acc d last ⟨bx,pe,M,mt,C⟩;have m:=M;have a:=KW m L;have N:gU last*o=0\/gU last*o=1\/gU last*o=2:=by rw[<-mt];exact a
  refine aA<|aD Z<|aR Z ?_ ?_<;>intro ap
  ·obtain ⟨_,e⟩:=C.resolve_right (λh=>ap h.1);refine aG<|aF<|aK 3 Z<|dZ bMw Z (λw a=>aMb L)<|wy (aC Gb aQd Z Z (rdr 1 Z))<|wy (Yl.is (kS (j:=(gU last*o).toNat) Jg Z Z Z (rdr 1 Z) (bMh _ _ _ N)) (show Value.pointer _=Value.pointer (some ⟨(FE O P f8 (d.cls*o)),0,none⟩) by rw[mt]))<|aB rfl<|aK 2 rfl<|dD (aH aXc rfl (Ct.pk [2,3,4,5,6,7,0,1,8] 99 (h:=FP a m)))<|wa (aH cAl rfl (Ct.pk [8,0,1,2,3,4,5,6,7] 99 (h:=aGq (r.c _) rfl u hN e.tot e.wid e.c2))) ?_;rintro _ _ (⟨H,rfl,rfl⟩|⟨H,rfl,rfl⟩)
   ·obtain ⟨y,g,p,d5,o3⟩:=e.found H;refine aB Z<|aK 2 Z<|dD (aH bVn Z (Ct.pk [1,2,3,4,5,6,0,7,8] 99 (h:=JG (y:=y) a m g p)))<|aB Z<|aA<|aK 10 Z<|aN Z Z<|wy (pQ Z Z)<|aN Z Z<|wy (jG Z Z)<|aN Z Z<|wA Z Z<|aB Z<|aR Z ?_ ?_<;>intro bp
    ·refine aD Z<|aL [] 99<|⟨_,_,Z,Z,?_⟩;exact .inr ⟨e.full G,Z,Z⟩
    refine aG<|aK 2 Z<|dD (aH bMv Z ((aCs (y:=y) a m g)))<|aB Z<|aA<|aK 4 Z<|dD (aH aXc Z ((FP a m)))<|wa (aH cAk Z (Ct.pk [6,0,1,2,3,4,5,7,8] 99 (h:=aUt (r.c _) Z u hN e.wid (lC e.mdl g.1 g.2) d5 o3 e.kx))) ?_;rintro _ _ (⟨m8,rfl,rfl⟩|⟨m8,rfl,T,K,S,rfl⟩)
    ·refine aB Z<|aM Z<|aG<|aK 2 Z<|dD (aH bMu Z (Ct.pk [1,2,3,4,5,6,0,7,8] 99 (h:=aGl (y:=y) a m g)))<|aJ<|aK 2 Z<|aX (bG .i64 [y] ak zs3 Z Z Z) λzr=>dG (aO 8 Z ak zb3 Z Z Z (rdr 0 Z)) λee eh=>bC (v:=sl ee (i+1) eh) Z<|aB Z<|sQ Z ?_
     exact⟨ee,i+1,eh,acc++([y]),(fJ o d y),y,⟨(by rw[aa,bx];rfl),(by rw[aa,dw];omega),((uJ m g.1 g.2).1),(aUa _ _ _),(by
          by_cases B:y=257
          ·exact .inr ⟨B,acc,by rw[B],e.sy,λb h1 h2 h3=>by subst B;exact e.last p h1 h2 h3⟩
          exact .inl ⟨B,e.step u g B p d5 o3 m8⟩)⟩,(by rw[aa,dw];omega),SA,λ_ h=>h.sel [8,9,1,2,3,4,5,6,7] cC rfl⟩
    refine aB Z<|bA Z<|aD Z<|aL [] 99<|⟨_,_,Z,Z,?_⟩;exact .inr ⟨e.short g p G,Z,Z⟩
   have On:=e.none H;obtain⟨y,g,p⟩:=aEw e.mdl;refine aB Z<|aK 2 Z<|dD (aH bVn Z (Ct.pk [1,2,3,4,5,6,0,7,8] 99 (h:=JG (y:=y) a m g p)))<|aB Z<|aA<|aD Z<|bA Z<|aD Z<|aL [] 99<|⟨_,_,Z,Z,?_⟩;exact .inr ⟨On,Z,Z⟩
  obtain ⟨_,l0,X,Iv,hT⟩:=C.resolve_left (λh=>ap h.1);have ub:=bi List.length X;rw[aa,dw] at ub;refine aP<|aK 3 Z<|wS Z Z<|wy (dV ak sz3 Z Z (rdr 0 Z))<|wm Z<|wa (aH cAj Z (Ct.fresh (λw a=>XU (l:=l0) (by have D:=(RdC.toI (h:=((i:Int)-1).toNat) (rdr 0 rfl) cG) w a;rw[show(acc).take ((i:Int)-1).toNat=l0 by rw[X,bx,X];simp] at D;exact D) Iv G G))) ?_;rintro _ _⟨_,rfl,⟨q,i6,qe,⟨F,htq⟩,rfl,rfl⟩|⟨F,⟨Q,rfl⟩,rfl⟩⟩
  ·obtain ⟨Y,bq2⟩:=LH G (λ_ h=>(by cases h)) (by show(0:Int)<=_;omega) F;have Xq:=RS Y;have J:=qO q bQ;refine aB Z<|aA<|aD Z<|aM Z<|aG<|aK 1 Z<|bZ cAi Z (λw a=>aMr ((rdr 0 Z) w a) Y G) λoa ob=>aB Z<|aK 2 Z<|bZ bVu Z (λw a=>TD ((rdr 0 Z) w a) Xq L G) λj6 j7=>aB Z<|aA<|aK 4 Z<|aN Z Z<|wy (gL ai ay qh Z (rdr 0 Z))<|bH 1 Z<|aN Z Z<|wy (gL ai ay qh Z (r.c _))<|aN Z Z<|wy (NM Z Z (lQ _ _) u)<|aB Z<|aR Z ?_ ?_<;>intro db
   ·refine aD Z<|aL [] 99<|⟨_,_,Z,Z,?_⟩;exact .inr ⟨hT.other F db,Z,Z⟩
   refine aG<|aD Z<|aL [1] 99<|⟨_,_,Z,Z,?_⟩;have D:bT (kR bQ q) o=x:=ol.1 db;rw[<-J];exact .inl ⟨_,_,_,⟨Xq,G⟩,D,rfl,rfl⟩
  refine aB Z<|aA<|aD Z<|bA Z<|aD Z<|aL [] 99<|⟨_,_,Z,Z,?_⟩;exact .inr ⟨bJp hT F,Z,Z⟩
 refine dZ bVp Z (λw a=>aMg ((r.c _) w a) G)<|aB Z<|aA<|aD Z<|bA Z<|aD Z<|aS<|⟨_,_,Z,Z,?_⟩;exact .inr ⟨aHp G,Z,Z⟩
end
section
variable {B gc ar an:Nat} {w0:World} {X R0:List Row} {ao:AF} {u:AH}
theorem tL (am:R6 B w0 R0 ao ar an u) (ce:ar=u.length) (e:u.length<=1000000) (a:aI u):
  CT 43 #[PG gc] B w0 ((rc 55 1 gc [sl ao ar an])::(X++R0)) (λv R'=>(4<=u.length/\ ∃(b:AF) (d:Nat),RdC B w0 R0 b (u.drop 4).length d 1 (ints .u8 (u.drop 4))/\v= .tuple #[.int .u32 (UU (u.take 4)),bt]/\R'=(rc 55 1 gc [sl b ((u.drop 4).length) d])::(X++R0))\/(u.length<4/\v= .tuple #[.int .u32 0,bf]/\R'=(rc 55 1 gc [sl ao ar an])::(X++R0))):=by
 subst ce;refine fn2 Tryz.func43 Z Z Z<|aD Z<|aK 1 Z<|wa (aH aOi Z ((uN (m:=4) (X:=([]++X)) (R0:=R0) Z am Z e))) ?_;rintro _ _ (⟨m8,o,l,i,rfl,rfl⟩|⟨m8,rfl,rfl⟩)
 ·have r:=(a.take 4).rd 0;have q:=(a.take 4).rd 1;have w:=(a.take 4).rd 2;have j:=(a.take 4).rd 3;have g:(u.take 4).length=4:=by rw[ax];omega
  refine aB Z<|aA<|aD Z<|aM Z<|aG<|aA<|bE mixed<|wD 0 Z (dI Z)<|wD 1 Z (aC ai sz5 Z Z (RdC.right (RdC.right (RdC.toI (h:=4) am G) X) [_]))<|wD 2 Z (aQ ay Z Z (RdC.right (RdC.right (RdC.toI (h:=4) am G) X) [_]))<|wD 3 Z (rT ay qm Z G)<|wD 4 Z (dI Z)<|wD 5 Z (aC ai sz5 Z Z (RdC.right (RdC.right (RdC.toI (h:=4) am G) X) [_]))<|wD 6 Z (aQ ay Z Z (RdC.right (RdC.right (RdC.toI (h:=4) am G) X) [_]))<|wD 7 Z (rT ay qm Z G)<|wD 8 Z (yH (k:=8) (m:=256) Z Z Z G Z)<|wD 9 Z (FX (p:=(rd (u.take 4) 1)) (m:=256) 8 Z Z Z G G)<|wD 10 Z (dI Z)<|wD 11 Z (aC ai sz5 Z Z (RdC.right (RdC.right (RdC.toI (h:=4) am G) X) [_]))<|wD 12 Z (aQ ay Z Z (RdC.right (RdC.right (RdC.toI (h:=4) am G) X) [_]))<|wD 13 Z (rT ay qm Z G)<|wD 14 Z (yH (k:=16) (m:=65536) Z Z Z G Z)<|wD 15 Z (FX (p:=(rd (u.take 4) 2)) (m:=65536) 16 Z Z Z G G)<|wD 16 Z (dI Z)<|wD 17 Z (aC ai sz5 Z Z (RdC.right (RdC.right (RdC.toI (h:=4) am G) X) [_]))<|wD 18 Z (aQ ay Z Z (RdC.right (RdC.right (RdC.toI (h:=4) am G) X) [_]))<|wD 19 Z (rT ay qm Z G)<|wD 20 Z (yH (k:=24) (m:=16777216) Z Z Z G Z)<|wD 21 Z (FX (p:=(rd (u.take 4) 3)) (m:=16777216) 24 Z Z Z G G)<|bF 22 2 Z<|wN<|aS<|⟨_,_,Z,Z,?_⟩;exact .inl ⟨G,_,_,i,rfl,rfl⟩
 refine aB Z<|aA<|aD Z<|bA Z<|aD Z<|aS<|⟨_,_,Z,Z,?_⟩;exact .inr ⟨G,rfl,rfl⟩
theorem aWm (hb:aI u) (a:u.take 5=[87,72,82,76,1]) (b:8<=u.length) (h: ∀V t,iG ((u.drop 5).drop 3)=some (V,t)->(16777216:Int)<V):nW u=none:=by
 cases hg:iG ((u.drop 5).drop 3) with
 |none=>exact VK hg
 |some p=>
  have e:=h p.1 p.2 hg;exact(BQ (sz:=p.1) (r:=p.2) hb a b hg).trans (bq G)
theorem ZX {g:Nat} {At Ax:AF} {nt ct nx cx:Nat} {p0 p1 p2 p3 al mn bd:Int} {sb:Bool} (am:R6 B w0 R0 ao ar an u) (ce:ar=u.length) (A:u.length<=1000000) (a:aI u):
  CT 18 #[PG g] B w0 ((rc 57 11 g [PG gc,I p0,I p1,I p2,I p3,sl At nt ct,sl Ax nx cx,I al, .bool sb,I mn,I bd])::(rc 55 1 gc [sl ao ar an])::(X++R0)) (λv R'=>(∃(sz:Int) (t:AH),nW u=some ((rd u 5,rd u 6,rd u 7,sz),t)/\ ∃(l:AF) (y:Nat),RdC B w0 R0 l (t).length y 1 (ints .u8 (t))/\v=I 0/\R'=(rc 57 11 g [PG gc,I (rd u 5),I (rd u 6),I (rd u 7),I sz,sl At nt ct,sl Ax nx cx,I al, .bool sb,I mn,I bd])::(rc 55 1 gc [sl l ((t).length) y])::(X++R0))\/(nW u=none/\v=I 3/\R'=X++R0)):=by
 subst ce;refine fn1 Tryz.func18 Z Z Z<|aD Z<|cB [0] 4 Z<|wa (aH aOi Z (Ct.pk [1,0] 2 (h:=uN (m:=5) (X:=([(rc 57 11 g [PG gc,I p0,I p1,I p2,I p3,sl At nt ct,sl Ax nx cx,I al, .bool sb,I mn,I bd])]++X)) (R0:=R0) Z am Z A))) ?_;rintro _ _ (⟨F,Q,P,d,rfl,rfl⟩|⟨F,rfl,rfl⟩)
 ·have H:(u.drop 5).length=u.length-5:=az;refine aB Z<|cB [1] 4 Z<|wa (aH aOi Z ((uN (m:=3) (X:=([(rc 57 11 g [PG gc,I p0,I p1,I p2,I p3,sl At nt ct,sl Ax nx cx,I al, .bool sb,I mn,I bd])]++X)) (R0:=R0) Z d Z (by simp only[az];omega)))) ?_;rintro _ _ (⟨k,mc,me,N,rfl,rfl⟩|⟨k,rfl,rfl⟩)
  ·have O:((u.drop 5).take 3).length=3:=by rw[ax];omega
   have b:8<=u.length:=G
   obtain⟨o,p,C⟩:=bVd b;have J:=a.rd 5;have K:=a.rd 6;have L:=a.rd 7;refine aB Z<|aA<|aK 8 Z<|aN Z Z<|wy (gL ai ay qh Z (RdC.right (RdC.right (RdC.toI (h:=5) am G) X) [_,_]))<|aN Z Z<|wy (NM (q:=[87,72,82,76,1]) Z Z (a.take _) (by unfold aI;decide)) ?_;refine aB Z<|aR Z ?_ ?_<;>intro ap
   ·refine aD Z<|aL [] 2<|⟨_,Z,?_⟩;exact .inr ⟨OL ap,Z,Z⟩
   refine aG<|aA<|bE mixed<|bF 0 2 Z<|wD 2 Z (aC ai sz5 Z Z (RdC.right (RdC.right (RdC.toI (h:=3) d G) X) [_,_]))<|wD 3 Z (aQ ay Z Z (RdC.right (RdC.right (RdC.toI (h:=3) d G) X) [_,_]))<|wD 4 Z (gV ay av Z)<|wD 5 Z (dI Z)<|wD 6 Z (aC ai sz5 Z Z (RdC.right (RdC.right (RdC.toI (h:=3) d G) X) [_,_]))<|wD 7 Z (aQ ay Z Z (RdC.right (RdC.right (RdC.toI (h:=3) d G) X) [_,_]))<|wD 8 Z (gV ay av Z)<|wD 9 Z (dI Z)<|wD 10 Z (aC ai sz5 Z Z (RdC.right (RdC.right (RdC.toI (h:=3) d G) X) [_,_]))<|wD 11 Z (aQ ay Z Z (RdC.right (RdC.right (RdC.toI (h:=3) d G) X) [_,_]))<|wD 12 Z (gV ay av Z)<|wD 13 Z (bV (v:= .agg #[I (rd ((u.drop 5).take 3) 0),I (rd ((u.drop 5).take 3) 1),I (rd ((u.drop 5).take 3) 2),I 0]) Z (λw=>cA))<|bF 14 2 rfl<|qN 16 rfl cA (LV (j:=1) (r:=(rc 57 11 g [PG gc,I p0,I p1,I p2,I p3,sl At nt ct,sl Ax nx cx,I al, .bool sb,I mn,I bd])) (vs:=[I (rd ((u.drop 5).take 3) 0),I (rd ((u.drop 5).take 3) 1),I (rd ((u.drop 5).take 3) 2),I 0]) 1 rfl rfl rfl fC rfl (by simp[pat,Addr.add]) rfl rfl cI (ah rfl)) ?_;rintro _ _ rfl;refine⟨.inl cA,?_⟩;refine wN<|cB [1] 4 Z<|wa (aH NC Z ((kX (X:=([(rc 57 11 g [PG gc,I (rd ((u.drop 5).take 3) 0),I (rd ((u.drop 5).take 3) 1),I (rd ((u.drop 5).take 3) 2),I 0,sl At nt ct,sl Ax nx cx,I al, .bool sb,I mn,I bd])]++X)) (R0:=R0) N Z (by simp only[az];omega) ((a.drop 5).drop 3) G))) ?_;rintro _ _ (⟨sz,t1,e,z6,jj,T,M,rfl,rfl⟩|⟨e,rfl,rfl⟩)
   ·have D:=dH e;have pd:=fA e;have co:aI t1:=aI.back (x:=aU sz) (by rw[<-D.1];exact((a.drop 5).drop 3));refine aB Z<|aK 5 Z<|bN (aV 1 Z Z Z sz3 Z Z Z Z (ah Z))<|aJ<|aA<|aK 6 Z<|aN Z Z<|wy (bO (vs:=[I (rd ((u.drop 5).take 3) 0),I (rd ((u.drop 5).take 3) 1),I (rd ((u.drop 5).take 3) 2),I sz]) (rdr 1 Z) jd Z fC Z Z (ah Z) Z)<|aN Z Z<|dZ bNa Z (λw Y=>JP)<|aN Z Z<|wy (pO Z)<|aB Z<|aR Z ?_ ?_<;>intro i
    ·refine aD Z<|aL [] 2<|⟨_,Z,?_⟩;rw[o,p,C] at i;exact .inr ⟨(BQ a (ol.1 ap) b e).trans (bq i),Z,Z⟩
    refine aG<|aD Z<|aL [1,0] 2<|⟨_,Z,?_⟩;rw[o,p,C] at i ⊢;exact .inl ⟨_,_,(BQ a (ol.1 ap) b e).trans (cz (ol.1 i)),_,_,M,Z,Z⟩
   refine aB Z<|aK 5 Z<|bN (aV 1 Z Z Z sz3 Z Z Z Z (ah Z))<|aJ<|aA<|aD Z<|bA Z<|aD Z<|aL [] 2<|⟨_,Z,?_⟩;exact .inr ⟨aWm a (ol.1 ap) b e,Z,Z⟩
  refine aB Z<|aA<|aD Z<|bA Z<|aD Z<|aL [] 2<|⟨_,Z,?_⟩;exact .inr ⟨oV G,Z,Z⟩
 refine aB Z<|cB [1] 4 Z<|wa (aH aOi Z ((uN (m:=3) (X:=([(rc 57 11 g [PG gc,I p0,I p1,I p2,I p3,sl At nt ct,sl Ax nx cx,I al, .bool sb,I mn,I bd])]++X)) (R0:=R0) Z am Z A))) ?_;rintro _ _ (⟨k,S,R,ox,rfl,rfl⟩|⟨k,rfl,rfl⟩)
 ·refine aB Z<|aA<|aD Z<|bA Z<|aD Z<|aL [] 2<|⟨_,Z,?_⟩;exact .inr ⟨oV G,Z,Z⟩
 refine aB Z<|aA<|aD Z<|bA Z<|aD Z<|aL [] 2<|⟨_,Z,?_⟩;exact .inr ⟨oV G,Z,Z⟩
end
section
variable {B g gc nt ct nx cx:Nat} {w0:World} {At Ax:AF} {s r:AH} {p0 p1 p2 p3 al mn bd n:Int} {sb:Bool}
theorem aAd {R:List Row} {li N:AF} {ml C O:Nat} {l mk:AH} {m sm:Int} (A:nt=s.length) (k:p0=1->rd mk 0=m) (a:aI l) (y:l.length<=100000/\s.length<=1000000) (h:p0≠3) (T:0<=al/\al<=1000000):
  CT 45 #[PG g,sl li l.length ml,I m,sl N C O, .int .u32 sm] B w0 ((ru 5 li l.length ml l)::(rc 57 11 g [PG gc,I p0,I p1,I p2,I p3,sl At nt ct,sl Ax nx cx,I al, .bool sb,I mn,I bd])::(ru 5 At nt ct s)::R) (λv R'=>(∃(b:AH) (p:AF) (r:Nat),bkU p0 l mk=some (b,[])/\bv (lG b)=sm/\v=I 0/\R'=(rc 57 11 g [PG gc,I p0,I p1,I p2,I p3,sl p ((s++b).length) r,sl Ax nx cx,I (al+l.length), .bool sb,I mn,I bd])::(ru 5 p ((s++b).length) r (s++b))::R)\/(∃e:Int,((bkU p0 l mk=none/\e=5)\/ ∃b,bkU p0 l mk=some (b,[])/\bv (lG b)≠sm/\e=4)/\v=I e/\R'=R)):=by
 subst A;refine fn1 Tryz.func45 Z Z Z<|aD Z<|aD Z<|aA<|lK [1] Z<|aF<|aD Z<|aR Z ?_ ?_<;>intro ap
 ·refine aT 2 Z ?_;refine(ry (XK l m)).elim ?_ ?_<;>intro j
  ·refine bZ bVm Z (λw d=>bCg ((rdr 0 Z) w d) a j y.1) λQ P=>aB Z<|aA<|aK 1 Z<|wy (Yl.f (gD Z Z) cC)<|aJ<|aM Z<|aG<|aA<|aK 1 Z<|dZ bGa Z (λw d=>JB ((rdr 0 Z) w d) (by first|exact a|exact pE a _|exact(wE (t:=2) (ms:=mk) a cC WZ).2)) ?_;refine aB Z<|aR Z ?_ ?_<;>intro q
   ·refine aD Z<|aL [] 4<|⟨_,Z,?_⟩;exact .inr ⟨_, .inr ⟨_,(show bkU p0 l mk=some (iW l m,[]) from by rw[ap,bHz (by rw[k ap];exact j),k ap]),q,rfl⟩,rfl,rfl⟩
   refine aG<|aA<|cB [2] 5 Z<|wy (Yl.t (gD Z Z) (h))<|aJ<|bA Z<|nQ [2] 7 Z<|dG (aO 3 Z ai zb5 Z Z Z (rdr 0 Z)) λL M=>bC (v:=sl L (s.length+l.length) M) Z<|bH 3 Z<|bN (aV 2 Z Z Z iZ Z Z Z Z (ah Z))<|aJ<|cB [2] 7 Z<|wA Z Z<|bH 2 Z<|bN (aV 2 Z Z Z sz3 Z Z Z Z (ah Z))<|aJ<|aD Z<|aL [2,3] 4<|⟨_,Z,?_⟩;have hk:=(show bkU p0 l mk=some (iW l m,[]) from by rw[ap,bHz (by rw[k ap];exact j),k ap]);have i:=(wE a h hk).1;rw[<-i];rw[<-aa];exact .inl ⟨_,_,_,hk,ol.1 q,Z,Z⟩
  refine dZ bVm Z (λw d=>aMp ((rdr 0 Z) w d) a j y.1)<|aB Z<|aA<|aK 1 Z<|wy (Yl.t (gD Z Z) cC)<|aJ<|bA Z<|aD Z<|aL [] 3<|⟨_,Z,?_⟩;exact .inr ⟨5, .inl ⟨by rw[ap];exact bHy (by rw[k ap];exact j),rfl⟩,rfl,rfl⟩
 refine aD Z<|aR Z ?_ ?_<;>intro o
 ·have J:(backL l (bR (fsL l))).length=l.length/\aI (backL l (bR (fsL l))):=wE (t:=2) (ms:=mk) a cC WZ;refine aT 1 Z<|bZ cAh Z (λw d=>aYn ((rdr 0 Z) w d) a G) λjp S=>aB Z<|aA<|aK 1 Z<|wy (Yl.f (gD Z Z) cC)<|aJ<|aM Z<|aG<|aA<|aK 1 Z<|dZ bGa Z (λw d=>JB ((rdr 0 Z) w d) (by first|exact a|exact pE a _|exact(wE (t:=2) (ms:=mk) a cC WZ).2)) ?_;refine aB Z<|aR Z ?_ ?_<;>intro u
  ·refine aD Z<|aL [] 4<|⟨_,Z,?_⟩;exact .inr ⟨_, .inr ⟨_,(by rw[o];exact WZ),u,Z⟩,Z,Z⟩
  refine aG<|aA<|cB [2] 5 Z<|wy (Yl.t (gD Z Z) (h))<|aJ<|bA Z<|nQ [2] 7 Z<|dG (aO 3 Z ai zb5 Z Z Z (rdr 0 Z)) λK D=>bC (v:=sl K (s.length+((backL l (bR (fsL l))).length)) D) Z<|bH 3 Z<|bN (aV 2 Z Z Z iZ Z Z Z Z (ah Z))<|aJ<|cB [2] 7 Z<|wA Z Z<|bH 2 Z<|bN (aV 2 Z Z Z sz3 Z Z Z Z (ah Z))<|aJ<|aD Z<|aL [2,3] 4<|⟨_,Z,?_⟩;have hk:=(show bkU p0 l mk=some (_,[]) from by rw[o];exact WZ);have i:=(wE a h hk).1;rw[<-i];rw[<-aa];exact .inl ⟨_,_,_,hk,ol.1 u,Z,Z⟩
 refine wq<|wy (Yl.f (pU Z Z) (h))<|aB Z<|aM Z<|aG<|aA<|aK 1 Z<|wy (Yl.f (gD Z Z) cC)<|aJ<|aM Z<|aG<|aA<|aK 1 Z<|dZ bGa Z (λw d=>JB ((rdr 0 Z) w d) (by first|exact a|exact pE a _|exact(wE (t:=2) (ms:=mk) a cC WZ).2)) ?_;refine aB Z<|aR Z ?_ ?_<;>intro x
 ·refine aD Z<|aL [] 3<|⟨_,Z,?_⟩;exact .inr ⟨_, .inr ⟨_,bHx ap o h,x,Z⟩,Z,Z⟩
 refine aG<|aA<|cB [1] 5 Z<|wy (Yl.t (gD Z Z) (h))<|aJ<|bA Z<|nQ [1] 7 Z<|dG (aO 2 Z ai zb5 Z Z Z (rdr 0 Z)) λH F=>bC (v:=sl H (s.length+l.length) F) Z<|bH 3 Z<|bN (aV 1 Z Z Z iZ Z Z Z Z (ah Z))<|aJ<|cB [1] 7 Z<|wA Z Z<|bH 2 Z<|bN (aV 1 Z Z Z sz3 Z Z Z Z (ah Z))<|aJ<|aD Z<|aL [1,2] 3<|⟨_,Z,?_⟩;have hk:=(bHx (ms:=mk) (l:=l) ap o h);have i:=(wE a h hk).1;rw[<-i];rw[<-aa];exact .inl ⟨_,_,_,hk,ol.1 x,Z,Z⟩
theorem bSu (h: ∀V t,iG r=some (V,t)->n<V):mkU 1 n r=none:=by
 cases hg:iG r with
 |none=>exact bDo hg
 |some p=>exact(aRm (a:=p.1) (t:=p.2) hg).trans (cz (h p.1 p.2 hg))
theorem EE {od:Int} (b:r.length<=1000000) (h: ∀V t,iG r=some (V,t)->(1099511627776:Int)<V):pkU od n r=none:=by
 cases hg:iG r with
 |none=>exact aGw hg
 |some p=>
  have e:=h p.1 p.2 hg;have a:=fA (r:=p.2) (v:=p.1) hg;exact nJ (m:=p.1) (t:=p.2) hg G
theorem bCf {X R0:List Row} {ao:AF} {ar an:Nat} {u:AH} (am:R6 B w0 R0 ao ar an u) (ce:ar=u.length) (hN:u.length<=1000000) (y:aI u) (Om:nt=s.length) (r:p0≠3) (pn:p2=0\/p2=1) (Pu: -1000000<=bd/\bd<=100000) (Bx:0<=al/\al<=1000000/\s.length<=1000000) (hmn:0<=mn/\mn<=1000000) (hn:1<=n/\n<=9223372036854775807):
  CT 20 #[PG g,I n] B w0 ((rc 57 11 g [PG gc,I p0,I p1,I p2,I p3,sl At nt ct,sl Ax nx cx,I al, .bool sb,I mn,I bd])::(rc 55 1 gc [sl ao ar an])::(ru 5 At nt ct s)::(X++R0)) (λv R'=>(∃(b t:AH) (P:AF) (S:Nat),qL p0 p2 p3 bd al n u= .ok ((b,[]),t)/\ ∃(Q:AF) (T:Nat),RdC B w0 R0 Q (t).length T 1 (ints .u8 (t))/\v=I 0/\R'=(rc 57 11 g [PG gc,I p0,I p1,I p2,I p3,sl P ((s++b).length) S,sl Ax nx cx,I (al+n), .bool sb,I (mn+1),I bd])::(rc 55 1 gc [sl Q ((t).length) T])::(ru 5 P ((s++b).length) S (s++b))::(X++R0))\/(∃e:Int,qL p0 p2 p3 bd al n u= .error e/\(e=3\/e=4\/e=5)/\v=I e/\R'=X++R0)):=by
 subst ce;subst Om;refine fn1 Tryz.func20 Z Z Z<|aD Z<|cB [0] 4 Z<|wA Z Z<|bH 2 Z<|bN (aV 0 Z Z Z sz3 Z Z Z Z (ah Z))<|aJ<|aA<|lS [(0,PG g),(1,I n),(65, .bool (decide ((p3<n)\/((bd-al)<n))))] ((rc 57 11 g [PG gc,I p0,I p1,I p2,I p3,sl At s.length ct,sl Ax nx cx,I al, .bool sb,I (mn+1),I bd])::(rc 55 1 gc [sl ao u.length an])::(ru 5 At s.length ct s)::(X++R0)) ?_ ?_
 ·refine bE mixed<|fU [0] 0 5 Z<|wD 5 Z (Yl.t (gD Z Z) (r))<|fU [0] 6 10 Z<|gM 38 Z ?_ ?_<;>intro ap
  ·exact bF 16 27 Z<|wN<|KP
  refine fU [0,0] 16 9 Z<|wG 25 Z Z Z (oH Z Z)<|bF 26 3 Z<|gM 51 Z ?_ ?_<;>intro bp
  ·exact bF 29 14 Z<|wN<|KP
  exact fU [0] 29 5 Z<|wG 34 Z Z Z (Yl.f (pU Z Z) (r))<|bF 35 8 Z<|wN<|KP
 refine aR Z ?_ ?_<;>intro db
 ·refine aD Z<|aL [] 3<|⟨_,Z,?_⟩;exact .inr ⟨_,qK (by unfold vD;omega),G,rfl,rfl⟩
 have j:vD p0 p3 bd al n:=by unfold vD;omega
 refine aG<|aD Z<|aD Z<|aA<|lK [0] Z<|aF<|aD Z<|aR Z ?_ ?_<;>intro D
 ·refine nQ [0] 5 Z<|wa (aH NC Z (Ct.pk [1,0,2] 3 (h:=kX (X:=([(rc 57 11 g [PG gc,I p0,I p1,I p2,I p3,sl At s.length ct,sl Ax nx cx,I al, .bool sb,I (mn+1),I bd]),(ru 5 At s.length ct s)]++X)) (R0:=R0) am Z hN y G))) ?_;rintro _ _ (⟨a,t1,A,z6,cv,cr,Y,rfl,rfl⟩|⟨A,rfl,rfl⟩)
  ·have fi:=dH A;have pd:=fA A;have co:aI t1:=aI.back (x:=aU a) (by rw[<-fi.1];exact y);have i:mkU p0 n u=some ([a],t1):=by rw[D,aRm A,bq G]
   refine aB Z<|aA<|aD Z<|aM Z<|aG<|cB [1] 4 Z<|wa (aH NC Z ((kX (X:=([(rc 57 11 g [PG gc,I p0,I p1,I p2,I p3,sl At s.length ct,sl Ax nx cx,I al, .bool sb,I (mn+1),I bd]),(ru 5 At s.length ct s)]++X)) (R0:=R0) Y Z G co G))) ?_;rintro _ _ (⟨m,t2,d,d9,mc,me,wj,rfl,rfl⟩|⟨d,rfl,rfl⟩)
   ·have H:=dH d;have qn:=fA d;have C:aI t2:=aI.back (x:=aU m) (by rw[<-H.1];exact co);have J:(t2.drop 4).length=t2.length-4:=az;refine aB Z<|cB [1] 4 Z<|wa (aH aXg Z ((tL (X:=([(rc 57 11 g [PG gc,I p0,I p1,I p2,I p3,sl At s.length ct,sl Ax nx cx,I al, .bool sb,I (mn+1),I bd]),(ru 5 At s.length ct s)]++X)) (R0:=R0) wj Z G C))) ?_;rintro _ _ (⟨q,jj,gh,sq,rfl,rfl⟩|⟨q,rfl,rfl⟩)
    ·refine aB Z<|aA<|aD Z<|aM Z<|aG<|cB [1] 5 Z<|wa (aH aOi Z ((uN (m:=(m:Int).toNat) (X:=([(rc 57 11 g [PG gc,I p0,I p1,I p2,I p3,sl At s.length ct,sl Ax nx cx,I al, .bool sb,I (mn+1),I bd]),(ru 5 At s.length ct s)]++X)) (R0:=R0) (ky G).symm sq Z G))) ?_;rintro _ _ (⟨m8,fk,fc,ox,rfl,rfl⟩|⟨m8,rfl,rfl⟩)
     ·refine aB Z<|aA<|aD Z<|aM Z<|aG<|cB [1] 7 Z<|wa (aH bTj Z (Ct.fresh (λw L=>AB ((RdC.right (RdC.right (RdC.toI (h:=(m:Int).toNat) sq G) X) [_,_,_]) w L) ((C.drop 4).take _) (by rw[ax];omega) pn G))) ?_;rintro _ _⟨_,rfl,⟨M,dy,ef,⟨o,xt⟩,p,rfl,rfl⟩|⟨N,rfl,rfl⟩⟩
      ·refine aB Z<|aA<|aK 6 Z ?_;refine(ry ((M.length:Int)=n)).elim ?_ ?_<;>intro k
       ·refine aN Z Z<|wy (Yl.f (gD Z Z))<|aB Z<|aM Z<|aG<|aK 5 Z<|wa (aH bTi Z (Ct.pk [0,2,3,1] 4 (h:=aAd (mk:=[a]) Z (λ_=>Z) o G r G))) ?_;rintro _ _ (⟨b,oy,vx,l,m4,rfl,rfl⟩|⟨e,l,rfl,rfl⟩)
        ·rw [k];refine aB Z<|aL [0,2,1] 3<|⟨_,Z,?_⟩;exact .inl ⟨_,_,_,_,(rR j i ((mO d G o p).trans (cz k)) l).trans (bq (λh=>h m4)),_,_,ox,Z,Z⟩
        refine aB Z<|aL [] 1<|⟨_,Z,?_⟩;rcases l with⟨O,rfl⟩|⟨b,l,F,rfl⟩
        ·exact .inr ⟨_,LG j i ((mO d G o p).trans (cz k)) O,G,rfl,rfl⟩
        exact .inr ⟨_,(rR j i ((mO d G o p).trans (cz k)) l).trans (cz F),G,rfl,rfl⟩
       refine aN Z Z<|wy (Yl.t (gD Z Z) (k))<|aB Z<|bA Z<|aD Z<|aL [] 4<|⟨_,Z,?_⟩;exact .inr ⟨_,jF j i ((mO d G o p).trans (bq k)),G,rfl,rfl⟩
      refine aB Z<|aA<|aD Z<|bA Z<|aD Z<|aL [] 3<|⟨_,Z,?_⟩;exact .inr ⟨_,jF j i (QJ d G N),G,rfl,rfl⟩
     refine aB Z<|aA<|aD Z<|bA Z<|aD Z<|aL [] 3<|⟨_,Z,?_⟩;exact .inr ⟨_,jF j i (nJ d G),G,rfl,rfl⟩
    refine aB Z<|aA<|aD Z<|bA Z<|aD Z<|aL [] 3<|⟨_,Z,?_⟩;exact .inr ⟨_,jF j i (nJ d G),G,rfl,rfl⟩
   refine aB Z<|cB [1] 4 Z<|wa (aH aXg Z ((tL (X:=([(rc 57 11 g [PG gc,I p0,I p1,I p2,I p3,sl At s.length ct,sl Ax nx cx,I al, .bool sb,I (mn+1),I bd]),(ru 5 At s.length ct s)]++X)) (R0:=R0) Y Z G co))) ?_;rintro _ _ (⟨q,ee,eh,s6,rfl,rfl⟩|⟨q,rfl,rfl⟩)
   ·refine aB Z<|aA<|aD Z<|bA Z<|aD Z<|aL [] 3<|⟨_,Z,?_⟩;exact .inr ⟨_,jF j i (EE G d),G,rfl,rfl⟩
   refine aB Z<|aA<|aD Z<|bA Z<|aD Z<|aL [] 3<|⟨_,Z,?_⟩;exact .inr ⟨_,jF j i (EE G d),G,rfl,rfl⟩
  refine aB Z<|aA<|aD Z<|bA Z<|aD Z<|aL [] 3<|⟨_,Z,?_⟩;exact .inr ⟨_,QU j (by rw[D];exact bSu A),G,rfl,rfl⟩
 have i:mkU p0 n u=some ([],u):=bOz D r;refine wq<|wy (Yl.f (pU Z Z) (r))<|aB Z<|aM Z<|aG<|aA<|aD Z<|aM Z<|aG<|cB [0] 4 Z<|wa (aH NC Z (Ct.pk [1,0,2] 3 (h:=kX (X:=([(rc 57 11 g [PG gc,I p0,I p1,I p2,I p3,sl At s.length ct,sl Ax nx cx,I al, .bool sb,I (mn+1),I bd]),(ru 5 At s.length ct s)]++X)) (R0:=R0) am Z G y G))) ?_;rintro _ _ (⟨m,t2,d,d9,ka,kd,Sv,rfl,rfl⟩|⟨d,rfl,rfl⟩)
 ·have H:=dH d;have qn:=fA d;have C:aI t2:=aI.back (x:=aU m) (by rw[<-H.1];exact y);have J:(t2.drop 4).length=t2.length-4:=az;refine aB Z<|cB [1] 4 Z<|wa (aH aXg Z ((tL (X:=([(rc 57 11 g [PG gc,I p0,I p1,I p2,I p3,sl At s.length ct,sl Ax nx cx,I al, .bool sb,I (mn+1),I bd]),(ru 5 At s.length ct s)]++X)) (R0:=R0) Sv Z G C))) ?_;rintro _ _ (⟨q,qu,qv,R,rfl,rfl⟩|⟨q,rfl,rfl⟩)
  ·refine aB Z<|aA<|aD Z<|aM Z<|aG<|cB [1] 5 Z<|wa (aH aOi Z ((uN (m:=(m:Int).toNat) (X:=([(rc 57 11 g [PG gc,I p0,I p1,I p2,I p3,sl At s.length ct,sl Ax nx cx,I al, .bool sb,I (mn+1),I bd]),(ru 5 At s.length ct s)]++X)) (R0:=R0) (ky G).symm R Z G))) ?_;rintro _ _ (⟨m8,tc,tg,Ot,rfl,rfl⟩|⟨m8,rfl,rfl⟩)
   ·refine aB Z<|aA<|aD Z<|aM Z<|aG<|cB [1] 7 Z<|wa (aH bTj Z (Ct.fresh (λw L=>AB ((RdC.right (RdC.right (RdC.toI (h:=(m:Int).toNat) R G) X) [_,_,_]) w L) ((C.drop 4).take _) (by rw[ax];omega) pn G))) ?_;rintro _ _⟨_,rfl,⟨M,Cl,Fc,⟨o,xt⟩,p,rfl,rfl⟩|⟨N,rfl,rfl⟩⟩
    ·refine aB Z<|aA<|aK 6 Z ?_;refine(ry ((M.length:Int)=n)).elim ?_ ?_<;>intro k
     ·refine aN Z Z<|wy (Yl.f (gD Z Z))<|aB Z<|aM Z<|aG<|aK 5 Z<|wa (aH bTi Z (Ct.pk [0,2,3,1] 4 (h:=aAd (mk:=[]) Z (λh=>absurd h D) o G r G))) ?_;rintro _ _ (⟨b,Ly,Jx,l,m4,rfl,rfl⟩|⟨e,l,rfl,rfl⟩)
      ·rw [k];refine aB Z<|aL [0,2,1] 3<|⟨_,Z,?_⟩;exact .inl ⟨_,_,_,_,(rR j i ((mO d G o p).trans (cz k)) l).trans (bq (λh=>h m4)),_,_,Ot,Z,Z⟩
      refine aB Z<|aL [] 1<|⟨_,Z,?_⟩;rcases l with⟨O,rfl⟩|⟨b,l,F,rfl⟩
      ·exact .inr ⟨_,LG j i ((mO d G o p).trans (cz k)) O,G,rfl,rfl⟩
      exact .inr ⟨_,(rR j i ((mO d G o p).trans (cz k)) l).trans (cz F),G,rfl,rfl⟩
     refine aN Z Z<|wy (Yl.t (gD Z Z) (k))<|aB Z<|bA Z<|aD Z<|aL [] 4<|⟨_,Z,?_⟩;exact .inr ⟨_,jF j i ((mO d G o p).trans (bq k)),G,rfl,rfl⟩
    refine aB Z<|aA<|aD Z<|bA Z<|aD Z<|aL [] 3<|⟨_,Z,?_⟩;exact .inr ⟨_,jF j i (QJ d G N),G,rfl,rfl⟩
   refine aB Z<|aA<|aD Z<|bA Z<|aD Z<|aL [] 3<|⟨_,Z,?_⟩;exact .inr ⟨_,jF j i (nJ d G),G,rfl,rfl⟩
  refine aB Z<|aA<|aD Z<|bA Z<|aD Z<|aL [] 3<|⟨_,Z,?_⟩;exact .inr ⟨_,jF j i (nJ d G),G,rfl,rfl⟩
 refine aB Z<|cB [1] 4 Z<|wa (aH aXg Z ((tL (X:=([(rc 57 11 g [PG gc,I p0,I p1,I p2,I p3,sl At s.length ct,sl Ax nx cx,I al, .bool sb,I (mn+1),I bd]),(ru 5 At s.length ct s)]++X)) (R0:=R0) am Z G y))) ?_;rintro _ _ (⟨q,Nh,Nm,K,rfl,rfl⟩|⟨q,rfl,rfl⟩)
 ·refine aB Z<|aA<|aD Z<|bA Z<|aD Z<|aL [] 3<|⟨_,Z,?_⟩;exact .inr ⟨_,jF j i (EE G d),G,rfl,rfl⟩
 refine aB Z<|aA<|aD Z<|bA Z<|aD Z<|aL [] 3<|⟨_,Z,?_⟩;exact .inr ⟨_,jF j i (EE G d),G,rfl,rfl⟩
end
section
variable {t lim:Int} {r:AH} {sh:Bool}
theorem SY {od sz last:Int} {f:Nat} {s:AH} {ws:AD} (hl:lim<=100000) (h: ∀V u,iG r=some (V,u)->(1099511627776:Int)<V):rV t od sz lim (f+1) s ws last sh r= .error 3:=by
 cases hg:iG r with
 |none=>exact DT hg
 |some p=>
  have e:=h p.1 p.2 hg;exact uM (n:=p.1) (r1:=p.2) hg G (qK (by unfold vD;omega))
theorem VZ {tot:Int} (a:tot<=1000000) (h: ∀V u,iG r=some (V,u)->(1099511627776:Int)<V):PO t tot sh r=false:=by
 cases hg:iG r with
 |none=>exact EO hg
 |some p=>
  have e:=h p.1 p.2 hg;exact uV (n:=p.1) (r1:=p.2) hg (.inl (.inl G))
theorem TQ {w_:World} {ao:AF} {ar an:Nat} {u:AH} (am:R4 w_ ao ar an u) (C:aI u) (hN:u.length<=1000000) (pm: -1000<=lim/\lim<=1000000) (y:rd u 5≠3):
  CF 7 #[sl ao ar an,I lim] w_ (λv R'=>(∃(sz:Int) (T:AH) (A:AF) (c:Nat),pI u lim= .ok ((T,[]),(rd u 5,rd u 6,rd u 7,sz))/\v= .tuple #[.agg #[sl A T.length c,sl none 0 0], .agg #[I (rd u 5),I (rd u 6),I (rd u 7),I sz],I 0]/\R'=[(ru 5 A T.length c T)])\/(∃e:Int,pI u lim= .error e/\(e=3\/e=4\/e=5)/\v= .tuple #[.agg #[sl none 0 0,sl none 0 0], .agg #[I 0,I 0,I 0,I 0],I e]/\R'=[])):=by
 obtain rfl:=am.lenI;refine aSd Tryz.func7 Z Z Z pz Z iJ jd Z fC<|wq<|aX (eH (sz:=2) QY Z) λi=>aX (eH (sz:=4) QX Z) λj=>aB Z<|aK 1 Z<|wy (bV (v:= .agg #[sl ao u.length an]) Z (λw=>cA))<|aX (dC (sz:=1) rfl rfl) λl=>wm rfl<|wy (pQ rfl rfl)<|wy (bV (v:= .agg #[PG l,I 0,I 0,I 0,I 0,sl none 0 0,sl none 0 0,I 0,bf,I 0,I (min lim 100000)]) rfl (λw=>cA))<|aX (dC (sz:=11) rfl rfl) λp=>dX (ru 5 none 0 0 ([]))<|aB rfl<|aK 1 rfl<|wa (aH bXu Z (Ct.pk [1,2,0,3,4] 99 (h:=ZX (X:=[(ru 5 none 0 0 ([]))]) (R0:=[(rc 27 4 j [I 0,I 0,I 0,I 0]),(rc 25 2 i [sl none 0 0,sl none 0 0])]) (am.c _) Z hN C))) ?_;rintro _ _ (⟨sz,t0,g,km,nj,S,rfl,rfl⟩|⟨g,rfl,rfl⟩)
 ·obtain ⟨N,Pz,hv2,Y,hv4⟩:=tX C g
  have vl:aI t0:=by
   have L:=C;rw[N] at L;exact aI.back (aI.back (aI.back L))
  have zc:=bi List.length N;simp only[aa,dh,iw] at zc;refine aB Z<|aA<|aK 1 Z<|wy (Yl.f (gD Z Z) cC)<|aJ<|aM Z<|aG<|aD Z<|aA<|aF<|aZj (λ(Ac:AF) (cc:Nat) (a:AF) (nt:Nat) (ct:Nat) (s:AH) (tt:Int) (mn:Int) (ls:Int) (sb:Bool) (sh:Bool) (r:AH) (F:Nat)=>[(4,PG i),(5,PG j),(7,PG p),(9, .bool (decide (sh=true)))]) (λAc cc a nt ct s tt mn ls sb sh r F=>[(rc 57 11 p [PG l,I (rd u 5),I (rd u 6),I (rd u 7),I sz,sl a nt ct,sl none 0 0,I tt, .bool sb,I mn,I (min lim 100000)]),(rc 55 1 l [sl Ac r.length cc]),(ru 5 a nt ct s),(rc 27 4 j [I 0,I 0,I 0,I 0]),(rc 25 2 i [sl none 0 0,sl none 0 0])]) (λAc cc a nt ct s tt mn ls sb sh r F=>(RdC w_.heap.size w_ [(rc 27 4 j [I 0,I 0,I 0,I 0]),(rc 25 2 i [sl none 0 0,sl none 0 0])] Ac r.length cc 1 (ints .u8 r))/\(aI r)/\(r.length<=1000000/\r.length<=F)/\(0<=mn/\mn+r.length<=1000000)/\(nt=s.length)/\(tt=(s.length:Int))/\(s.length=0\/(s.length:Int)<=100000)/\(sb=decide (0<ls/\ls<sz))/\(Kp (rV (rd u 5) (rd u 7) sz (min lim 100000) (t0.length+1) [] [] 0 false t0=rV (rd u 5) (rd u 7) sz (min lim 100000) (F+1) s [] ls sh r))) (λAc cc a nt ct s tt mn ls sb sh r F=>r.length) ?_ ?_
  ·exact⟨km,nj,none,0,0,[],0,0,0,false,false,t0,t0.length,⟨(S),(vl),G,G,(Z),(Z),(.inl Z),((mo G).symm),(show _=_ from Z)⟩,KP⟩
  intro Ac cc a nt ct s tt mn ls sb sh r F ⟨R,M,Mm,hmn,O,q,Bm,K,m⟩;refine aF<|cB [0] 4 Z<|wa (aH NC Z (Ct.pk [1,0,2,3,4] 99 (h:=kX (X:=[(rc 57 11 p [PG l,I (rd u 5),I (rd u 6),I (rd u 7),I sz,sl a nt ct,sl none 0 0,I tt, .bool sb,I mn,I (min lim 100000)]),(ru 5 a nt ct s)]) (R0:=[(rc 27 4 j [I 0,I 0,I 0,I 0]),(rc 25 2 i [sl none 0 0,sl none 0 0])]) R Z G M G))) ?_;rintro _ _ (⟨n,t1,d,z6,zd,vf,Q,rfl,rfl⟩|⟨d,rfl,rfl⟩)
  ·have fi:=dH d;have pd:=fA d;have co:aI t1:=aI.back (x:=aU n) (by rw[<-fi.1];exact M);refine aB Z<|aA<|aD Z<|aM Z<|aG<|aA<|aD Z<|aR Z ?_ ?_<;>intro ap
   ·refine aP<|cB [1] 4 Z<|wa (aH NC Z ((kX (X:=[(rc 57 11 p [PG l,I (rd u 5),I (rd u 6),I (rd u 7),I sz,sl a nt ct,sl none 0 0,I tt, .bool sb,I mn,I (min lim 100000)]),(ru 5 a nt ct s)]) (R0:=[(rc 27 4 j [I 0,I 0,I 0,I 0]),(rc 25 2 i [sl none 0 0,sl none 0 0])]) Q Z G co G))) ?_;rintro _ _ (⟨m9,t9,k,d9,fg,ew,l5,rfl,rfl⟩|⟨k,rfl,rfl⟩)
    ·have gl:=dH k;have qn:=fA k;have iu:aI t9:=aI.back (x:=aU m9) (by rw[<-gl.1];exact co);refine aB Z<|aA<|cB [1] 11 Z<|bD 10 [4,5,7,9] 103 (.bool (decide ((m9≠tt)\/(0<(((t9).length:Nat):Int))))) Z ?_ ?_
     ·refine bB 93 Z ?_ ?_<;>intro bp
      ·exact aB Z<|KP
      exact sJ [1,0] Z<|KP
     refine wm Z<|bD 2 [4,5,7] 106 (.bool (decide (((m9≠tt)\/(0<(((t9).length:Nat):Int)))\/(sh=true)))) Z ?_ ?_
     ·refine bB 104 Z ?_ ?_<;>intro db
      ·exact aB Z<|KP
      exact aB Z<|KP
     refine aJ<|aR Z ?_ ?_<;>intro P
     ·refine wq<|wy (bV (v:= .agg #[sl none 0 0,sl none 0 0]) Z (λw=>cA))<|wy (bV (v:= .agg #[I 0,I 0,I 0,I 0]) rfl (λw=>cA))<|bN (aZ (vs:=[sl none 0 0,sl none 0 0]) 4 rfl iJ rfl rfl rfl cH rfl)<|bN (aZ (vs:=[I 0,I 0,I 0,I 0]) 3 Z fC Z Z Z cI Z)<|aB Z<|aS<|⟨_,_,_,⟨_,4,_,Z,Z,Z,Z,Z,Z,Z,Z⟩,⟨_,3,_,Z,Z,Z,Z,Z,Z,Z,Z⟩,Z,[],λ_ h=>h.sel [] cC Z,?_⟩;exact .inr ⟨3,fM g (Ap m ((iM (by rw[<-ap];exact d)).trans (bq (by rw[<-q,uV k (P.imp_right λh=>⟨h,y⟩)];decide)))),G,rfl,rfl⟩
     refine aG<|aA<|yJ (Rc:=[(rc 57 11 p [PG l,I (rd u 5),I (rd u 6),I (rd u 7),I sz,sl a nt ct,sl none 0 0,I tt, .bool sb,I mn,I (min lim 100000)])]) mixed (λ_ h=>h.sel [1] cC Z)<|fB 0 Z cA Z (dI Z)<|fB 1 Z cA Z (jS Z)<|fB 2 Z cA Z (yF 5 5 Fb iJ Z)<|fB 3 Z cA Z (bO (vs:=[sl a nt ct,sl none 0 0]) (rdr 0 Z) pz Z iJ Z Z (ah Z) Z)<|fB 4 Z cA Z (dI Z)<|fB 5 Z cA Z (jS Z)<|fB 6 Z cA Z (yF 1 1 Fb fC Z)<|fB 7 Z cA Z (bO (vs:=[I (rd u 5),I (rd u 6),I (rd u 7),I sz]) (rdr 0 Z) jd Z fC Z Z (ah Z) Z)<|iV 8 cA<|YF 8 Z (aZ (vs:=[sl a nt ct,sl none 0 0]) 4 Z iJ Z Z Z cH Z) ?_;rintro _ _ rfl;refine⟨λ_ h=>h.sel [1] cC Z,?_⟩;refine iV 9 cA<|YF 9 Z (aZ (vs:=[I (rd u 5),I (rd u 6),I (rd u 7),I sz]) 3 Z fC Z Z Z cI Z) ?_;rintro _ _ rfl;refine⟨λ_ h=>h.sel [1] cC Z,?_⟩;refine fB 10 Z cA Z (bY Z)<|sM cA<|aS<|⟨_,_,_,⟨_,4,_,Z,Z,Z,Z,Z,Z,Z,Z⟩,⟨_,3,_,Z,Z,Z,Z,Z,Z,Z,Z⟩,Z,[(ru 5 a nt ct s)],λ_ h=>h.sel [2] cC Z,?_⟩;rw[O];exact .inl ⟨_,s,_,_,EQ g (Ap m ((iM (by rw[<-ap];exact d)).trans (cz (by rw[<-q];exact tZ k λh=>P (h.imp_right And.left))))),Z,Z⟩
    refine aB Z<|aA<|aD Z<|bA Z<|wq<|wy (bV (v:= .agg #[sl none 0 0,sl none 0 0]) Z (λw=>cA))<|wy (bV (v:= .agg #[I 0,I 0,I 0,I 0]) rfl (λw=>cA))<|bN (aZ (vs:=[sl none 0 0,sl none 0 0]) 4 rfl iJ rfl rfl rfl cH rfl)<|bN (aZ (vs:=[I 0,I 0,I 0,I 0]) 3 Z fC Z Z Z cI Z)<|aB Z<|aS<|⟨_,_,_,⟨_,4,_,Z,Z,Z,Z,Z,Z,Z,Z⟩,⟨_,3,_,Z,Z,Z,Z,Z,Z,Z,Z⟩,Z,[],λ_ h=>h.sel [] cC Z,?_⟩;exact .inr ⟨3,fM g (Ap m ((iM (by rw[<-ap];exact d)).trans (bq (by rw[VZ G k];decide)))),G,rfl,rfl⟩
   refine aG<|aK 2 Z<|bD 5 [4,5,7,10] 48 (.bool (decide ((sh=true)\/(sb=true)))) Z ?_ ?_
   ·refine bB 43 Z ?_ ?_<;>intro ff
    ·exact aB Z<|KP
    exact sJ [1] Z<|⟨(sc Z (sc Z (sc Z (sc Z (Sub.to Z (bi Value.bool (Bool.eq_iff_iff.2 (Iff.trans (by first|omega|exact⟨λh=>⟨cF,h⟩,λh=>h.2⟩|exact .inl cF|exact⟨.inr,λh=>h.resolve_left cF⟩|exact⟨λh=>h.resolve_left cF, .inr⟩|exact λh=>absurd h.1 cF|simp[*]) iy.symm))) Sub.nil))))),λ_ h=>h⟩
   refine aB Z<|cB [1] 6 Z<|wy (Yl.t (gD Z Z) (y))<|iC [1] 11 Z<|bN (aV 1 Z Z Z sz4 Z Z Z Z (ah Z))<|aJ<|aK 2 Z<|wa (aH bTn Z (Ct.pk [1,0,2,3,4] 99 (h:=bCf (X:=[]) (R0:=[(rc 27 4 j [I 0,I 0,I 0,I 0]),(rc 25 2 i [sl none 0 0,sl none 0 0])]) Q Z G co O y Y G G G G))) ?_;rintro _ _ (⟨b,t2,ee,eh,o,gg,gi,g9,rfl,rfl⟩|⟨e,o,he,rfl,rfl⟩)
   ·rw [q] at o;obtain⟨_,v7,Ps,hk4,hk5,D,H⟩:=NL (b:=b) co y o;have J:=bi List.length D;simp only[aa] at J;have m8:=cK 2 n G;have fh:=OX (rd u 5) (rd u 7) b;rw[v7] at fh;obtain⟨B,rfl⟩: ∃B,F=B+1:=⟨F-1,G⟩;exact aB Z<|aK 1 Z<|wy (Yl.f (gD Z Z) cC)<|aJ<|aM Z<|aG<|⟨gg,gi,ee,(s++b).length,eh,s++b,tt+n,mn+1,n,decide (n<sz),(sh||sb),t2,B,⟨(g9),(H),G,G,(Z),(by rw[aa];omega),(.inr (by rw[aa];omega)),(sw.2 G),(Ap m (by rw[K];exact DR d G o))⟩,G,(sc Z (sc Z (sc Z (Sub.to Z (mb cD) Sub.nil)))),λ_ h=>h⟩
   rw [q] at o;refine aB Z<|aK 1 Z<|wy (Yl.t (gD Z Z) G)<|aJ<|bA Z<|wq<|wy (bV (v:= .agg #[sl none 0 0,sl none 0 0]) Z (λw=>cA))<|wy (bV (v:= .agg #[I 0,I 0,I 0,I 0]) rfl (λw=>cA))<|wm rfl<|bN (aZ (vs:=[sl none 0 0,sl none 0 0]) 1 rfl iJ rfl rfl rfl cH rfl)<|bN (aZ (vs:=[I 0,I 0,I 0,I 0]) 0 Z fC Z Z Z cI Z)<|aB Z<|aS<|⟨_,_,_,⟨_,1,_,Z,Z,Z,Z,Z,Z,Z,Z⟩,⟨_,0,_,Z,Z,Z,Z,Z,Z,Z,Z⟩,Z,[],λ_ h=>h.sel [] cC Z,?_⟩;exact .inr ⟨e,fM g (Ap m (uM d ap o)),he,Z,Z⟩
  refine aB Z<|aA<|aD Z<|bA Z<|wq<|wy (bV (v:= .agg #[sl none 0 0,sl none 0 0]) Z (λw=>cA))<|wy (bV (v:= .agg #[I 0,I 0,I 0,I 0]) rfl (λw=>cA))<|bN (aZ (vs:=[sl none 0 0,sl none 0 0]) 4 rfl iJ rfl rfl rfl cH rfl)<|bN (aZ (vs:=[I 0,I 0,I 0,I 0]) 3 Z fC Z Z Z cI Z)<|aB Z<|aS<|⟨_,_,_,⟨_,4,_,Z,Z,Z,Z,Z,Z,Z,Z⟩,⟨_,3,_,Z,Z,Z,Z,Z,Z,Z,Z⟩,Z,[],λ_ h=>h.sel [] cC Z,?_⟩;exact .inr ⟨3,fM g (Ap m (SY G d)),G,rfl,rfl⟩
 refine aB Z<|aA<|aK 1 Z<|wy (Yl.t (gD Z Z) cC)<|aJ<|bA Z<|wq<|wy (bV (v:= .agg #[sl none 0 0,sl none 0 0]) Z (λw=>cA))<|wy (bV (v:= .agg #[I 0,I 0,I 0,I 0]) rfl (λw=>cA))<|wm rfl<|bN (aZ (vs:=[sl none 0 0,sl none 0 0]) 2 rfl iJ rfl rfl rfl cH rfl)<|bN (aZ (vs:=[I 0,I 0,I 0,I 0]) 1 Z fC Z Z Z cI Z)<|aB Z<|aS<|⟨_,_,_,⟨_,2,_,Z,Z,Z,Z,Z,Z,Z,Z⟩,⟨_,1,_,Z,Z,Z,Z,Z,Z,Z,Z⟩,Z,[],λ_ h=>h.sel [] cC Z,?_⟩;exact .inr ⟨3,decU_none g,G,rfl,rfl⟩
end
section
variable {n p0 p1 p2 p3 al mn bd:Int} {r:AH} {B g gc nt ct nx cx:Nat} {w0:World} {At Ax:AF} {sb:Bool}
theorem bJm {k:Nat} {acc:AH} (h: ∀V t,iG r=some (V,t)->n<V) {o:Option (AH × AH)} (e:o=(wK n (k+1) r).map λp=>(acc++p.1,p.2)):o=none:=by
 cases hg:iG r with
 |none=>exact aFm hg e
 |some p=>exact aCf (a:=p.1) (t:=p.2) hg (.inr (h p.1 p.2 hg)) e
theorem bSt (h: ∀V t,iG r=some (V,t)->(1000:Int)<V):mkU 3 n r=none:=by
 cases hg:iG r with
 |none=>exact bDn hg
 |some p=>exact(VA (m:=p.1) (t:=p.2) hg).trans (cz (h p.1 p.2 hg))
theorem aMd {X R0:List Row} {ao:AF} {ar an:Nat} {u:AH} (am:R6 B w0 R0 ao ar an u) (ce:ar=u.length) (S:u.length<=1000000) (C:aI u) (hn:0<=n/\n<=9223372036854775807):
  CT 42 #[PG g,I n] B w0 ((rc 57 11 g [PG gc,I p0,I p1,I p2,I p3,sl At nt ct,sl Ax nx cx,I al, .bool sb,I mn,I bd])::(rc 55 1 gc [sl ao ar an])::(X++R0)) (λv R'=>(∃(o t:AH) (y:AF) (D:Nat),mkU 3 n u=some (o,t)/\ ∃(A:AF) (H:Nat),RdC B w0 R0 A (t).length H 1 (ints .u8 (t))/\v= .tuple #[sl y o.length D,bt]/\R'=(ri 3 y o.length D o)::(rc 57 11 g [PG gc,I p0,I p1,I p2,I p3,sl At nt ct,sl Ax nx cx,I al, .bool sb,I mn,I bd])::(rc 55 1 gc [sl A ((t).length) H])::(X++R0))\/(mkU 3 n u=none/\(∃a,v= .tuple #[a,bf])/\R'=X++R0)):=by
 subst ce;refine fn2 Tryz.func42 Z Z Z<|aD Z<|cB [0] 4 Z<|wa (aH NC Z (Ct.pk [1,0] 2 (h:=kX (X:=([(rc 57 11 g [PG gc,I p0,I p1,I p2,I p3,sl At nt ct,sl Ax nx cx,I al, .bool sb,I mn,I bd])]++X)) (R0:=R0) am Z S C G))) ?_;rintro _ _ (⟨m,t1,e,z6,O,N,Y,rfl,rfl⟩|⟨e,rfl,rfl⟩)
 ·have P:=dH e;have pd:=fA e;have co:aI t1:=aI.back (x:=aU m) (by rw[<-P.1];exact C);refine aB Z<|wq<|dX (ri 3 none 0 0 ([]))<|aB Z<|aA<|aD Z<|aF<|PV (λ(i:Int) (d:Bool) (A1:AF) (b:Nat) (c1:Nat) (acc:AH) (Ac:AF) (cc:Nat) (t:AH)=>[(0,PG g),(1,I n),(6,I m),(7, .bool d),(8,sl A1 b c1),(9,I i)]) (λi d A1 b c1 acc Ac cc t=>((ri 3 A1 b c1 acc)::(rc 55 1 gc [sl Ac t.length cc])::(rc 57 11 g [PG gc,I p0,I p1,I p2,I p3,sl At nt ct,sl Ax nx cx,I al, .bool sb,I mn,I bd])::(X++R0))) (λi d A1 b c1 acc Ac cc t=>(0<=i)/\(i<=m)/\(b=acc.length)/\((acc.length:Int)=i)/\(RdC B w0 R0 Ac t.length cc 1 (ints .u8 t))/\(aI t)/\(t.length<=1000000)/\(d=true->wK n m.toNat t1=(wK n (m-i).toNat t).map λp=>(acc++p.1,p.2))/\(d=false->wK n m.toNat t1=none)) (λi d A1 b c1 acc Ac cc t=>(m-i).toNat) ?_ ?_
  ·exact⟨0,true,none,0,0,[],O,N,t1,⟨G,G,(Z),(Z),(Y),(co),G,(λ_=>by rw[show m-0=m by omega];simp),(λh=>by cases h)⟩,KP⟩
  intro i d A1 b c1 acc Ac cc t ⟨bb,gn,w,ph,r,q,ub,l,R⟩;cases d
  ·refine aA<|aK 4 Z<|wJ 2 [(0,PG g),(1,I n),(6,I m),(7,bf),(8,sl A1 b c1),(9,I i),(25,bf)] ((ri 3 A1 b c1 acc)::(rc 55 1 gc [sl Ac t.length cc])::(rc 57 11 g [PG gc,I p0,I p1,I p2,I p3,sl At nt ct,sl Ax nx cx,I al, .bool sb,I mn,I bd])::(X++R0)) ?_ ?_
   ·refine bB 23 Z ?_ ?_<;>intro ap
    ·exact aB Z<|KP
    exact aB Z<|KP
   refine aJ<|aM Z<|aP<|aD Z<|aL [] 3<|⟨_,_,Z,Z,?_⟩;exact .inr ⟨(VA e).trans ((bq G).trans (R Z)),⟨_,Z⟩,Z⟩
  refine aA<|aK 4 Z<|bD 2 [0,1,6,7,8,9] 25 (.bool (decide (i<m))) Z ?_ ?_
  ·refine bB 23 Z ?_ ?_<;>intro bp
   ·exact aB Z<|KP
   exact aB Z<|KP
  refine aJ<|aR Z ?_ ?_<;>intro db
  ·refine aG<|aA<|aF<|cB [2] 5 Z<|wa (aH NC Z (Ct.pk [1,0,2] 3 (h:=kX (X:=([(ri 3 A1 b c1 acc),(rc 57 11 g [PG gc,I p0,I p1,I p2,I p3,sl At nt ct,sl Ax nx cx,I al, .bool sb,I mn,I bd])]++X)) (R0:=R0) r Z ub q G))) ?_;rintro _ _ (⟨a,t2,j,d9,mc,me,wj,rfl,rfl⟩|⟨j,rfl,rfl⟩)
   ·have Q:=dH j;have qn:=fA j;have T:aI t2:=aI.back (x:=aU a) (by rw[<-Q.1];exact q);exact aB Z<|aD Z<|aT 2 Z<|aX (bG .i64 [a] ak zs3 Z Z Z) λSe=>dG (aO 2 Z ak zb3 Z Z Z (rdr 0 Z)) λM J=>bC (v:=sl M (b+1) J) Z<|aB Z<|aT 1 Z<|wA Z Z<|aB Z<|⟨i+1,(decide (0<a)),M,b+1,J,acc++([a]),mc,me,t2,⟨G,G,(by rw[aa,w];rfl),(by rw[aa,dw];omega),(wj),(T),G,(λh=>aFl (k:=(m-(i+1)).toNat) j (by have:=wu h;omega) (by rw[show(m-(i+1)).toNat+1=(m-i).toNat by omega];exact l rfl)),(λh=>aCf (k:=(m-(i+1)).toNat) j (by have:=of_decide_eq_false h;omega) (by rw[show(m-(i+1)).toNat+1=(m-i).toNat by omega];exact l rfl))⟩,G,SA,λ_ h=>h.selR (F:=[_,_,_,_]) (F':=[_,_,_]) [2,1,3] cC Z⟩
   exact aB Z<|aD Z<|aT 2 Z<|aX (bG .i64 [0] ak zs3 Z Z Z) λuc=>dG (aO 2 Z ak zb3 Z Z Z (rdr 0 Z)) λK L=>bC (v:=sl K (b+1) L) Z<|aB Z<|aT 1 Z<|wA Z Z<|aB Z<|⟨i+1,false,K,b+1,L,acc++([0]),Ac,cc,t,⟨G,G,(by rw[aa,w];rfl),(by rw[aa,dw];omega),(r),(q),G,(λh=>by cases h),(λ_=>bJm (k:=(m-(i+1)).toNat) j (by rw[show(m-(i+1)).toNat+1=(m-i).toNat by omega];exact l rfl))⟩,G,SA,λ_ h=>h.selR (F:=[_,_,_,_]) (F':=[_,_,_]) [2,1,3] cC rfl⟩
  refine aP<|aD Z<|aL [0,2,1] 3<|⟨_,_,Z,Z,?_⟩;subst w;exact .inl ⟨acc,_,_,_,(VA e).trans ((bq G).trans (aQb (by rw[show(m-i).toNat=0 by omega] at l;exact l rfl))),_,_,r,Z,Z⟩
 refine aB Z<|wq<|dX (ri 3 none 0 0 ([]))<|aB Z<|aA<|aD Z<|aF<|kI 1<|eD<|aA<|aK 2 Z<|wy (Yl.f (fD Z Z) cC)<|aB Z<|aM Z<|aP<|aD Z<|aL [] 3<|⟨_,_,Z,Z,?_⟩;exact .inr ⟨bSt e,⟨_,Z⟩,Z⟩
theorem aMq {B:Nat} {w0:World} {R:List Row} {li A:AF} {ml C:Nat} {l mk:AH} {ls:AD} {m sm:Int} (p: ∀(B:Nat) (w0 w:World),Hp B w0 w R->Rd w li l.length ml 1 (ints .u8 l)) (g6: ∀(B:Nat) (w0 w:World),Hp B w0 w R->Rd w A mk.length C 1 (ints .i64 mk)) (r:p0=3) (M:aI l) (J:l.length<=8000/\mk.length<=1000) (N:(eY ((bR (fsL l)).map (bS l)) [] 0 mk).getD []=ls) (o:OkB ls) (O:ls.flatten.length<=8000/\ls.length<=1000) (S:0<=al/\al<=1000000):
  CT 45 #[PG g,sl li l.length ml,I m,sl A mk.length C, .int .u32 sm] B w0 ((rc 57 11 g [PG gc,I p0,I p1,I p2,I p3,sl At nt ct,sl Ax nx cx,I al, .bool sb,I mn,I bd])::R) (λv R'=>(∃(b:AF) (d:Nat) (vals:AG) (Rs:List Row),¬oE (eY ((bR (fsL l)).map (bS l)) [] 0 mk)≠0/\ ¬bv (lG ls.flatten)≠sm/\SlR .u8 Rs vals ls/\v=I 0/\R'=(rc 57 11 g [PG gc,I p0,I p1,I p2,I p3,sl At nt ct,sl b vals.length d,I (al+ls.flatten.length), .bool sb,I mn,I bd])::⟨22,1,b,vals.length,d,vals,false⟩::(Rs++R))\/(∃e:Int,((oE (eY ((bR (fsL l)).map (bS l)) [] 0 mk)≠0/\e=5)\/(¬oE (eY ((bR (fsL l)).map (bS l)) [] 0 mk)≠0/\bv (lG ls.flatten)≠sm/\e=4))/\v=I e/\R'=R)):=by
 refine fn1 Tryz.func45 Z Z Z ?_;have D:aI ls.flatten:=λx i=>by obtain⟨q,K,i⟩:=ny.1 i;exact(o q K).1 x i
 refine aD Z<|aD Z<|aA<|lK [0] Z<|aF<|wq<|wy (Yl.f (pU Z Z))<|aB Z<|aM Z<|wq<|wy (Yl.f (pU Z Z))<|aB Z<|aM Z<|wq<|wy (Yl.t (pU Z Z) (r))<|aB Z<|bA Z<|aK 3 Z<|wa (aH cAg Z (Ct.fresh (λw a=>aYm ((λ_ h=>p _ _ _ (h.right (R':=[_]))) w a) ((λ_ h=>g6 _ _ _ (h.right (R':=[_]))) w a) M J))) ?_;rintro _ _⟨_,rfl,b,d,vals,Rs,rfl,j,rfl⟩;have hs:SlR .u8 Rs vals ls:=by rw[N] at j;exact j
 have L:=hs.1;have H:=hs.left R;have u:=λ(B:Nat) (w0 w:World) (h:Hp B w0 w (Rs++R))=>p B w0 w h.right;have y:=λ(B:Nat) (w0 w:World) (h:Hp B w0 w (Rs++R))=>g6 B w0 w h.right;refine gZ (R1:=(⟨22,1,b,vals.length,d,vals,false⟩::(rc 57 11 g [PG gc,I p0,I p1,I p2,I p3,sl At nt ct,sl Ax nx cx,I al, .bool sb,I mn,I bd])::(Rs++R))) (Sub.refl _) (λ_ h=>Hp.toTail (X:=[_]) (Y:=[_]) h)<|bH 6 Z<|bN (aV 1 Z Z Z bUy Z Z Z Z (ah Z))<|aB Z<|nQ [1] 5 Z<|bZ aOj Z (λw a=>AU ((rdr 0 Z) w a) (H.slw o (Hp.right (R':=[_,_]) a)) G) λP Q=>aB Z<|aA<|aD Z<|aR Z ?_ ?_<;>intro ap
 ·refine aD Z<|gN (R1:=(R)) (λ_ h=>Hp.dropMid (X:=[]) (h.selR (F:=[_,_,_]) (F':=[]) [] cC Z))<|⟨_,Z,?_⟩;exact .inr ⟨_, .inl ⟨ap,Z⟩,Z,Z⟩
 refine aG<|aA<|aK 1 Z<|dZ bGa Z (λw a=>JB ((rdr 0 Z) w a) D)<|aB Z<|aR Z ?_ ?_<;>intro k
 ·refine aD Z<|gN (R1:=(R)) (λ_ h=>Hp.dropMid (X:=[]) (h.selR (F:=[_,_,_]) (F':=[]) [] cC Z))<|⟨_,Z,?_⟩;exact .inr ⟨_, .inr ⟨ap,k,Z⟩,Z,Z⟩
 refine aG<|aA<|cB [2] 5 Z<|wy (Yl.f (gD Z Z) (λh=>h r))<|aJ<|aM Z<|aG<|cB [2] 7 Z<|wA Z Z<|bH 2 Z<|bN (aV 2 Z Z Z sz3 Z Z Z Z (ah Z))<|aJ<|aD Z<|aL [2,1] 3<|⟨_,Z,?_⟩;exact .inl ⟨_,_,vals,Rs,ap,k,hs,Z,Z⟩
end
theorem aAc {B:Nat} {w0:World} {X R0:List Row} {g gc:Nat} {ao At Ax:AF} {ar an nt ct nx cx:Nat} {u:AH} {p0 p1 p2 p3 al mn bd n:Int} {sb:Bool} (am:R6 B w0 R0 ao ar an u) (ce:ar=u.length) (hN:u.length<=1000000) (J:aI u) (a:p0=3) (pn:p2=0\/p2=1) (Pu: -1000000<=bd/\bd<=8000) (Bx:0<=al/\al<=1000000) (hmn:(0<=mn/\mn<=1000000)/\(1<mn+1↔0<al)) (hn:1<=n/\n<=9223372036854775807):
  CT 20 #[PG g,I n] B w0 ((rc 57 11 g [PG gc,I p0,I p1,I p2,I p3,sl At nt ct,sl Ax nx cx,I al, .bool sb,I mn,I bd])::(rc 55 1 gc [sl ao ar an])::(X++R0)) (λv R'=>(∃(ws:AD) (k:AF) (p:Nat) (vals:AG) (Rs:List Row) (t:AH),qL p0 p2 p3 bd al n u= .ok ((ws.flatten,ws),t)/\ ∃(H:AF) (K:Nat),RdC B w0 R0 H (t).length K 1 (ints .u8 (t))/\SlR .u8 Rs vals ws/\v=I 0/\R'=(rc 57 11 g [PG gc,I p0,I p1,I p2,I p3,sl At nt ct,sl k vals.length p,I (al+ws.flatten.length), .bool sb,I (mn+1),I bd])::(rc 55 1 gc [sl H ((t).length) K])::⟨22,1,k,vals.length,p,vals,false⟩::((Rs++X)++R0))\/(∃e:Int,qL p0 p2 p3 bd al n u= .error e/\(e=3\/e=4\/e=5)/\v=I e/\R'=X++R0)):=by
 subst ce;refine fn1 Tryz.func20 Z Z Z<|aD Z<|cB [0] 4 Z<|wA Z Z<|bH 2 Z<|bN (aV 0 Z Z Z sz3 Z Z Z Z (ah Z))<|aJ<|aA<|lS [(0,PG g),(1,I n),(65, .bool (decide (((bd-al)<n)\/(1<(mn+1)))))] ((rc 57 11 g [PG gc,I p0,I p1,I p2,I p3,sl At nt ct,sl Ax nx cx,I al, .bool sb,I (mn+1),I bd])::(rc 55 1 gc [sl ao u.length an])::(X++R0)) ?_ ?_
 ·refine bE mixed<|fU [0] 0 5 Z<|wD 5 Z (Yl.f (gD Z Z) (λh=>h a))<|fU [0,0] 6 19 Z<|wG 25 Z Z Z (oH Z Z)<|bF 26 3 Z<|gM 51 Z ?_ ?_<;>intro ap
  ·exact bF 29 14 Z<|wN<|KP
  exact fU [0] 29 5 Z<|wG 34 Z Z Z (Yl.t (pU Z Z) (a))<|fU [0] 35 8 Z<|wN<|KP
 refine aR Z ?_ ?_<;>intro bp
 ·refine aD Z<|aL [] 2<|⟨_,Z,?_⟩;exact .inr ⟨_,qK (by unfold vD;omega),G,rfl,rfl⟩
 have i:vD p0 p3 bd al n:=by unfold vD;omega
 refine aG<|aD Z<|aD Z<|aA<|lK [0] Z<|aF<|wq<|wy (Yl.f (pU Z Z))<|aB Z<|aM Z<|wq<|wy (Yl.t (pU Z Z) (a))<|aB Z<|bA Z<|aT 2 Z<|wa (aH cAx Z ((aMd (X:=([]++X)) (R0:=R0) am Z hN J G))) ?_;rintro _ _ (⟨mk,t1,o,l,b,dr,du,O,rfl,rfl⟩|⟨b,⟨M,rfl⟩,rfl⟩)
 ·obtain ⟨co,r9⟩:=UZ J b;refine aB Z<|aA<|aD Z<|aM Z<|aG<|cB [1] 4 Z<|wa (aH NC Z (Ct.pk [2,0,1] 3 (h:=kX (X:=([(ri 3 o mk.length l mk),(rc 57 11 g [PG gc,I p0,I p1,I p2,I p3,sl At nt ct,sl Ax nx cx,I al, .bool sb,I (mn+1),I bd])]++X)) (R0:=R0) O Z G co G))) ?_;rintro _ _ (⟨m,t2,d,d9,jj,gh,sq,rfl,rfl⟩|⟨d,rfl,rfl⟩)
  ·have gl:=dH d;have qn:=fA d;have L:aI t2:=aI.back (x:=aU m) (by rw[<-gl.1];exact co);have hd4:(t2.drop 4).length=t2.length-4:=az;refine aB Z<|cB [2] 4 Z<|wa (aH aXg Z ((tL (X:=([(ri 3 o mk.length l mk),(rc 57 11 g [PG gc,I p0,I p1,I p2,I p3,sl At nt ct,sl Ax nx cx,I al, .bool sb,I (mn+1),I bd])]++X)) (R0:=R0) sq Z G L))) ?_;rintro _ _ (⟨D,fk,fc,N,rfl,rfl⟩|⟨D,rfl,rfl⟩)
   ·refine aB Z<|aA<|aD Z<|aM Z<|aG<|cB [2] 5 Z<|wa (aH aOi Z ((uN (m:=(m:Int).toNat) (X:=([(ri 3 o mk.length l mk),(rc 57 11 g [PG gc,I p0,I p1,I p2,I p3,sl At nt ct,sl Ax nx cx,I al, .bool sb,I (mn+1),I bd])]++X)) (R0:=R0) (ky G).symm N Z G))) ?_;rintro _ _ (⟨m8,S,T,Q,rfl,rfl⟩|⟨m8,rfl,rfl⟩)
    ·refine aB Z<|aA<|aD Z<|aM Z<|aG<|cB [2] 7 Z<|wa (aH bTj Z (Ct.fresh (λw q=>AB ((RdC.right (RdC.right (RdC.toI (h:=(m:Int).toNat) N G) X) [_,_,_]) w q) ((L.drop 4).take _) (by rw[ax];omega) pn G))) ?_;rintro _ _⟨_,rfl,⟨r,kl,pj,⟨j,xt⟩,A,rfl,rfl⟩|⟨ue,rfl,rfl⟩⟩
     ·refine aB Z<|aA<|aK 6 Z ?_;refine(ry ((r.length:Int)=n)).elim ?_ ?_<;>intro y
      ·refine aN Z Z<|wy (Yl.f (gD Z Z))<|aB Z<|aM Z<|aG<|aK 5 Z ?_;have hmm:=aRl b;obtain⟨ls,C⟩: ∃ls,(eY ((bR (fsL r)).map (bS r)) [] 0 mk).getD []=ls:=⟨_,rfl⟩;obtain⟨R,hF1,hF2⟩:=aTh j G G C;refine wa (aH bTi Z (Ct.pk [3,0,1,2] 4 (h:=aMq (λ_ _ _ q=>(rdr 0 Z) _ q) (λ_ _ _ q=>(rdr 2 Z) _ q) a j ⟨G,G⟩ C R ⟨G,G⟩ G))) ?_;rintro _ _ (⟨k,p,vals,Rs,ho,m4,hs,rfl,rfl⟩|⟨e,ki,rfl,rfl⟩)
       ·refine gZ (R1:=((rc 57 11 g [PG gc,I p0,I p1,I p2,I p3,sl At nt ct,sl k vals.length p,I (al+ls.flatten.length), .bool sb,I (mn+1),I bd])::⟨22,1,k,vals.length,p,vals,false⟩::(ru 5 kl r.length pj r)::(rc 55 1 gc [sl S (((t2.drop 4).drop (m:Int).toNat).length) T])::(ri 3 o mk.length l mk)::((Rs++X)++R0))) (Sub.refl _) (λ_ h=>Hp.toTailX (X:=[_,_]) (Y:=[_,_,_]) h)<|aB Z<|aL [0,3,1] 5<|⟨_,Z,?_⟩;exact .inl ⟨ls,_,_,vals,Rs,_,(rR i (by rw[a];exact b) ((mO d G j A).trans (cz y)) (by rw[a,aBu,LK C ho];rfl)).trans (bq m4),_,_,Q,hs,Z,Z⟩
       refine aB Z<|aL [] 3<|⟨_,Z,?_⟩;rcases ki with⟨F,rfl⟩|⟨F,P,rfl⟩
       ·exact .inr ⟨_,LG i (by rw[a];exact b) ((mO d G j A).trans (cz y)) (by rw[a,aBu,aBv F];rfl),G,rfl,rfl⟩
       exact .inr ⟨_,(rR i (by rw[a];exact b) ((mO d G j A).trans (cz y)) (by rw[a,aBu,LK C F];rfl)).trans (cz P),G,rfl,rfl⟩
      refine aN Z Z<|wy (Yl.t (gD Z Z) (y))<|aB Z<|bA Z<|aD Z<|aL [] 4<|⟨_,Z,?_⟩;exact .inr ⟨_,jF i (by rw[a];exact b) ((mO d G j A).trans (bq y)),G,rfl,rfl⟩
     refine aB Z<|aA<|aD Z<|bA Z<|aD Z<|aL [] 3<|⟨_,Z,?_⟩;exact .inr ⟨_,jF i (by rw[a];exact b) (QJ d G ue),G,rfl,rfl⟩
    refine aB Z<|aA<|aD Z<|bA Z<|aD Z<|aL [] 3<|⟨_,Z,?_⟩;exact .inr ⟨_,jF i (by rw[a];exact b) (nJ d G),G,rfl,rfl⟩
   refine aB Z<|aA<|aD Z<|bA Z<|aD Z<|aL [] 3<|⟨_,Z,?_⟩;exact .inr ⟨_,jF i (by rw[a];exact b) (nJ d G),G,rfl,rfl⟩
  refine aB Z<|cB [2] 4 Z<|wa (aH aXg Z ((tL (X:=([(ri 3 o mk.length l mk),(rc 57 11 g [PG gc,I p0,I p1,I p2,I p3,sl At nt ct,sl Ax nx cx,I al, .bool sb,I (mn+1),I bd])]++X)) (R0:=R0) O Z G co))) ?_;rintro _ _ (⟨D,i5,py,Su,rfl,rfl⟩|⟨D,rfl,rfl⟩)
  ·refine aB Z<|aA<|aD Z<|bA Z<|aD Z<|aL [] 3<|⟨_,Z,?_⟩;exact .inr ⟨_,jF i (by rw[a];exact b) (EE G d),G,rfl,rfl⟩
  refine aB Z<|aA<|aD Z<|bA Z<|aD Z<|aL [] 3<|⟨_,Z,?_⟩;exact .inr ⟨_,jF i (by rw[a];exact b) (EE G d),G,rfl,rfl⟩
 refine aB Z<|aA<|aD Z<|bA Z<|aD Z<|aL [] 0<|⟨_,Z,?_⟩;exact .inr ⟨_,QU i (by rw[a];exact b),G,rfl,rfl⟩
section
variable {ao:AF} {ar an:Nat} {u:AH}
theorem aVg {B:Nat} {w0:World} {X R0:List Row} {g gc:Nat} {At Ax:AF} {nt ct nx cx:Nat} {p0 p1 p2 p3 al mn bd n:Int} {sb:Bool} (am:R6 B w0 R0 ao ar an u) (ce:ar=u.length) (j:u.length<=1000000) (d:aI u) (i:p0=3) (m:p2=0\/p2=1) (b: -1000000<=bd/\bd<=8000) (a:0<al/\al<=1000000) (k:1<=mn/\mn<=1000000) (hn:1<=n/\n<=9223372036854775807):
  CT 20 #[PG g,I n] B w0 ((rc 57 11 g [PG gc,I p0,I p1,I p2,I p3,sl At nt ct,sl Ax nx cx,I al, .bool sb,I mn,I bd])::(rc 55 1 gc [sl ao ar an])::(X++R0)) (λv R'=>v=I 3/\R'=X++R0):=
 (aAc am ce j d i m b ⟨G,a.2⟩ ⟨G,G⟩ hn).mono λv R' l=>by
  have hl: ∀r:AH,qL p0 p2 p3 bd al n r= .error 3:=λr=>qK (by unfold vD;omega);rcases l with⟨ws,o,p,vals,Rs,t,h,_⟩|⟨e,h,_,rfl,rfl⟩
  ·rw[hl] at h;cases h
  rw[hl] at h;cases h;exact⟨rfl,rfl⟩
theorem TP {w_:World} {lim:Int} (am:R4 w_ ao ar an u) (H:aI u) (hN:u.length<=1000000) (pm: -1000<=lim/\lim<=8000) (y:rd u 5=3):
  CF 7 #[sl ao ar an,I lim] w_ (λv R'=>(∃(sz:Int) (ws:AD) (A:AF) (c:Nat) (vals:AG) (Rs:List Row),pI u lim= .ok ((ws.flatten,ws),(rd u 5,rd u 6,rd u 7,sz))/\SlR .u8 Rs vals ws/\v= .tuple #[.agg #[sl none 0 0,sl A vals.length c], .agg #[I (rd u 5),I (rd u 6),I (rd u 7),I sz],I 0]/\R'=⟨22,1,A,vals.length,c,vals,false⟩::Rs)\/(∃e:Int,pI u lim= .error e/\(e=3\/e=4\/e=5)/\v= .tuple #[.agg #[sl none 0 0,sl none 0 0], .agg #[I 0,I 0,I 0,I 0],I e]/\R'=[])):=by
 obtain rfl:=am.lenI;refine aSd Tryz.func7 Z Z Z pz Z iJ jd Z fC<|wq<|aX (eH (sz:=2) QY Z) λm=>aX (eH (sz:=4) QX Z) λo=>aB Z<|aK 1 Z<|wy (bV (v:= .agg #[sl ao u.length an]) Z (λw=>cA))<|aX (dC (sz:=1) rfl rfl) λk=>wm rfl<|wy (pQ rfl rfl)<|wy (bV (v:= .agg #[PG k,I 0,I 0,I 0,I 0,sl none 0 0,sl none 0 0,I 0,bf,I 0,I (min lim 100000)]) rfl (λw=>cA))<|aX (dC (sz:=11) rfl rfl) λp=>aB rfl<|aK 1 rfl<|wa (aH bXu rfl ((ZX (X:=[]) (R0:=((rc 27 4 o [I 0,I 0,I 0,I 0])::(rc 25 2 m [sl none 0 0,sl none 0 0])::[])) (am.c _) rfl hN H))) ?_;rintro _ _ (⟨sz,t0,d,km,nj,Mo,rfl,rfl⟩|⟨d,rfl,rfl⟩)
 ·obtain ⟨O,Pz,hv2,P,hv4⟩:=tX H d
  have T:aI t0:=by
   have N:=H;rw[O] at N;exact aI.back (aI.back (aI.back N))
  have zc:=bi List.length O;simp only[aa,dh,iw] at zc;refine aB Z<|aA<|aK 1 Z<|wy (Yl.f (gD Z Z) cC)<|aJ<|aM Z<|aG<|aD Z<|aA<|aF<|kI 3<|eD<|aF<|cB [0] 4 Z<|wa (aH NC Z (Ct.pk [1,0,2,3] 4 (h:=kX (X:=[(rc 57 11 p [PG k,I (rd u 5),I (rd u 6),I (rd u 7),I sz,sl none 0 0,sl none 0 0,I 0,bf,I 0,I (min lim 100000)])]) (R0:=((rc 27 4 o [I 0,I 0,I 0,I 0])::(rc 25 2 m [sl none 0 0,sl none 0 0])::[])) Mo Z G T G))) ?_;rintro _ _ (⟨R,t1,j,z6,zd,vf,wv,rfl,rfl⟩|⟨j,rfl,rfl⟩)
  ·have fi:=dH j;have pd:=fA j;have co:aI t1:=aI.back (x:=aU R) (by rw[<-fi.1];exact T);refine aB Z<|aA<|aD Z<|aM Z<|aG<|aA<|aD Z<|aR Z ?_ ?_<;>intro ap
   ·refine aP<|cB [1] 4 Z<|dX ⟨22,1,none,0,0,[],false⟩<|wa (aH NC Z (Ct.pk [1,0,2,3,4] 5 (h:=kX (X:=[⟨22,1,none,0,0,[],false⟩,(rc 57 11 p [PG k,I (rd u 5),I (rd u 6),I (rd u 7),I sz,sl none 0 0,sl none 0 0,I 0,bf,I 0,I (min lim 100000)])]) (R0:=((rc 27 4 o [I 0,I 0,I 0,I 0])::(rc 25 2 m [sl none 0 0,sl none 0 0])::[])) wv Z G co G))) ?_;rintro _ _ (⟨m9,t9,a,d9,fg,ew,l5,rfl,rfl⟩|⟨a,rfl,rfl⟩)
    ·have J:=dH a;have qn:=fA a;have iu:aI t9:=aI.back (x:=aU m9) (by rw[<-J.1];exact co);refine aB Z<|aA<|cB [2] 11 Z<|bD 10 [4,5,7,9] 103 (.bool (decide ((m9≠0)\/(0<(((t9).length:Nat):Int))))) Z ?_ ?_
     ·refine bB 93 Z ?_ ?_<;>intro bp
      ·exact aB Z<|KP
      exact sJ [2,0] Z<|KP
     refine wm Z<|bD 2 [4,5,7] 106 (.bool (decide ((m9≠0)\/(0<(((t9).length:Nat):Int))))) Z ?_ ?_
     ·refine bB 104 Z ?_ ?_<;>intro db
      ·exact aB Z<|KP
      exact aB Z<|KP
     refine aJ<|aR Z ?_ ?_<;>intro Q
     ·refine wq<|wy (bV (v:= .agg #[sl none 0 0,sl none 0 0]) Z (λw=>cA))<|wy (bV (v:= .agg #[I 0,I 0,I 0,I 0]) rfl (λw=>cA))<|bN (aZ (vs:=[sl none 0 0,sl none 0 0]) 4 rfl iJ rfl rfl rfl cH rfl)<|bN (aZ (vs:=[I 0,I 0,I 0,I 0]) 3 Z fC Z Z Z cI Z)<|aB Z<|aS<|⟨_,_,_,⟨_,4,_,Z,Z,Z,Z,Z,Z,Z,Z⟩,⟨_,3,_,Z,Z,Z,Z,Z,Z,Z,Z⟩,Z,[],λ_ h=>(h.selR (F:=[_,_,_,_,_]) (F':=[]) [] cC Z).left (X:=[]),?_⟩;exact .inr ⟨3,fM d ((iM (by rw[<-ap];exact j)).trans (bq (by rw[uV (tot:=((([]:AH).length:Nat):Int)) a (.inl Q)];decide))),G,rfl,rfl⟩
     refine aG<|aA<|yJ (Rc:=(⟨22,1,none,0,0,[],false⟩::(rc 57 11 p [PG k,I (rd u 5),I (rd u 6),I (rd u 7),I sz,sl none 0 0,sl none 0 0,I 0,bf,I 0,I (min lim 100000)])::[])) mixed (λ_ h=>h.selR (F:=[_,_,_,_,_]) (F':=[_,_]) [1,2] cC Z)<|fB 0 Z cA Z (dI Z)<|fB 1 Z cA Z (jS Z)<|fB 2 Z cA Z (yF 5 5 Fb iJ Z)<|fB 3 Z cA Z (bO (vs:=[sl none 0 0,sl none 0 0]) (rdr 1 Z) pz Z iJ Z Z (ah Z) Z)<|fB 4 Z cA Z (dI Z)<|fB 5 Z cA Z (jS Z)<|fB 6 Z cA Z (yF 1 1 Fb fC Z)<|fB 7 Z cA Z (bO (vs:=[I (rd u 5),I (rd u 6),I (rd u 7),I sz]) (rdr 1 Z) jd Z fC Z Z (ah Z) Z)<|iV 8 cA<|YF 8 Z (aZ (vs:=[sl none 0 0,sl none 0 0]) 4 Z iJ Z Z Z cH Z) ?_;rintro _ _ rfl;refine⟨λ_ h=>h.selR (F:=[_,_,_,_,_]) (F':=[_,_]) [1,2] cC Z,?_⟩;refine iV 9 cA<|YF 9 Z (aZ (vs:=[I (rd u 5),I (rd u 6),I (rd u 7),I sz]) 3 Z fC Z Z Z cI Z) ?_;rintro _ _ rfl;refine⟨λ_ h=>h.selR (F:=[_,_,_,_,_]) (F':=[_,_]) [1,2] cC Z,?_⟩;refine fB 10 Z cA Z (bY Z)<|sM cA<|aS<|⟨_,_,_,⟨_,4,_,Z,Z,Z,Z,Z,Z,Z,Z⟩,⟨_,3,_,Z,Z,Z,Z,Z,Z,Z,Z⟩,Z,(⟨22,1,none,0,0,[],false⟩::[]),λ_ h=>h.selR (F:=[_,_,_,_,_]) (F':=[_]) [1] cC Z,?_⟩;exact .inl ⟨_,[],_,_,[],[],EQ d ((iM (by rw[<-ap];exact j)).trans (cz (tZ (tot:=((([]:AH).length:Nat):Int)) a (λh=>h.elim Q (λh=>by cases h.1))))),SlR.nilR _ _,rfl,rfl⟩
    refine aB Z<|aA<|aD Z<|bA Z<|wq<|wy (bV (v:= .agg #[sl none 0 0,sl none 0 0]) Z (λw=>cA))<|wy (bV (v:= .agg #[I 0,I 0,I 0,I 0]) rfl (λw=>cA))<|bN (aZ (vs:=[sl none 0 0,sl none 0 0]) 4 rfl iJ rfl rfl rfl cH rfl)<|bN (aZ (vs:=[I 0,I 0,I 0,I 0]) 3 Z fC Z Z Z cI Z)<|aB Z<|aS<|⟨_,_,_,⟨_,4,_,Z,Z,Z,Z,Z,Z,Z,Z⟩,⟨_,3,_,Z,Z,Z,Z,Z,Z,Z,Z⟩,Z,[],λ_ h=>(h.selR (F:=[_,_,_,_,_]) (F':=[]) [] cC Z).left (X:=[]),?_⟩;exact .inr ⟨3,fM d ((iM (by rw[<-ap];exact j)).trans (bq (by rw[VZ (tot:=((([]:AH).length:Nat):Int)) cC a];decide))),G,rfl,rfl⟩
   refine aG<|lK [1] Z<|cB [1] 6 Z<|wy (Yl.f (gD Z Z) (λh=>h y))<|bH 11 Z<|bN (aV 1 Z Z Z sz4 Z Z Z Z (ah Z))<|aJ<|aK 2 Z<|wa (aH bTn Z (Ct.pk [1,0,2,3] 4 (h:=aAc (X:=[]) (R0:=((rc 27 4 o [I 0,I 0,I 0,I 0])::(rc 25 2 m [sl none 0 0,sl none 0 0])::[])) wv Z G co y P G G G G))) ?_;rintro _ _ (⟨ws,g,i,vals,Rs,t2,D,gg,gi,g9,hs,rfl,rfl⟩|⟨e,D,he,rfl,rfl⟩)
   ·refine gZ (R1:=((rc 57 11 p [PG k,I (rd u 5),I (rd u 6),I (rd u 7),I sz,sl none 0 0,sl g vals.length i,I (0+ws.flatten.length),bf,I (0+1),I (min lim 100000)])::(rc 55 1 k [sl gg t2.length gi])::⟨22,1,g,vals.length,i,vals,false⟩::(rc 27 4 o [I 0,I 0,I 0,I 0])::(rc 25 2 m [sl none 0 0,sl none 0 0])::Rs)) (Sub.refl _) (λ_ h=>Hp.toTailZ (X:=[_,_,_]) (Y:=[_,_]) h) ?_;obtain⟨k0,k1,k2,k3,k4,k5,k6,k7,k8,k9⟩:=GY (lim:=min lim 100000) (tot:=0) (n:=R) (b:=ws.flatten) co G G G (by rw[<-y];exact D);have m8:=k9;obtain⟨M,q⟩: ∃M,t0.length=M+1:=⟨t0.length-1,G⟩;have K:=bi List.length k8;simp only[aa] at K;have k8m:=OW (rd u 7) k4 k2;have r:=DR (od:=rd u 7) (lim:=min lim 100000) (sz:=sz) (s:=[]) (f:=t0.length) (ws:=[]) (last:=0) (sh:=false) j G D;rw[q] at r;refine aB Z<|aK 1 Z<|wy (Yl.f (gD Z Z) cC)<|aJ<|aM Z<|aG<|eD<|aF<|cB [0] 4 Z<|wa (aH NC Z (Ct.pk [1,0,2,3,4] 5 (h:=kX (X:=[(rc 57 11 p [PG k,I (rd u 5),I (rd u 6),I (rd u 7),I sz,sl none 0 0,sl g vals.length i,I (0+ws.flatten.length),bf,I (0+1),I (min lim 100000)]),⟨22,1,g,vals.length,i,vals,false⟩]) (R0:=((rc 27 4 o [I 0,I 0,I 0,I 0])::(rc 25 2 m [sl none 0 0,sl none 0 0])::Rs)) (λw hw=>g9 w (Hp.left (X:=[_,_]) hw)) Z G m8 G))) ?_;rintro _ _ (⟨n2,t3,l,C,ee,eh,S,rfl,rfl⟩|⟨l,rfl,rfl⟩)
    ·have Kr:=dH l;have Uu:=fA l;have L:aI t3:=aI.back (x:=aU n2) (by rw[<-Kr.1];exact m8);refine aB Z<|aA<|aD Z<|aM Z<|aG<|aA<|aD Z<|aR Z ?_ ?_<;>intro B
     ·refine aP<|cB [1] 4 Z<|wa (aH NC Z ((kX (X:=[(rc 57 11 p [PG k,I (rd u 5),I (rd u 6),I (rd u 7),I sz,sl none 0 0,sl g vals.length i,I (0+ws.flatten.length),bf,I (0+1),I (min lim 100000)]),⟨22,1,g,vals.length,i,vals,false⟩]) (R0:=((rc 27 4 o [I 0,I 0,I 0,I 0])::(rc 25 2 m [sl none 0 0,sl none 0 0])::Rs)) S Z G L G))) ?_;rintro _ _ (⟨m9,t9,a,d9,ka,kd,Sv,rfl,rfl⟩|⟨a,rfl,rfl⟩)
      ·have J:=dH a;have qn:=fA a;have iu:aI t9:=aI.back (x:=aU m9) (by rw[<-J.1];exact L);refine aB Z<|aA<|cB [1] 11 Z<|bD 10 [4,5,7,9] 103 (.bool (decide ((m9≠(0+ws.flatten.length))\/(0<(((t9).length:Nat):Int))))) Z ?_ ?_
       ·refine bB 93 Z ?_ ?_<;>intro pi
        ·exact aB Z<|KP
        exact sJ [1,0] Z<|KP
       refine wm Z<|bD 2 [4,5,7] 106 (.bool (decide ((m9≠(0+ws.flatten.length))\/(0<(((t9).length:Nat):Int))))) Z ?_ ?_
       ·refine bB 104 Z ?_ ?_<;>intro b9
        ·exact aB Z<|KP
        exact aB Z<|KP
       refine aJ<|aR Z ?_ ?_<;>intro u5
       ·refine wq<|wy (bV (v:= .agg #[sl none 0 0,sl none 0 0]) Z (λw=>cA))<|wy (bV (v:= .agg #[I 0,I 0,I 0,I 0]) rfl (λw=>cA))<|bN (aZ (vs:=[sl none 0 0,sl none 0 0]) 4 rfl iJ rfl rfl rfl cH rfl)<|bN (aZ (vs:=[I 0,I 0,I 0,I 0]) 3 Z fC Z Z Z cI Z)<|aB Z<|aS<|⟨_,_,_,⟨_,4,_,Z,Z,Z,Z,Z,Z,Z,Z⟩,⟨_,3,_,Z,Z,Z,Z,Z,Z,Z,Z⟩,Z,[],λ_ h=>(h.selR (F:=[_,_,_,_,_]) (F':=[]) [] cC Z).left (X:=[]),?_⟩;exact .inr ⟨3,fM d (by rw[q];exact r.trans ((iM (by rw[<-B];exact l)).trans (bq (by rw[uV a (.inl (by rw[ig];omega))];decide)))),G,rfl,rfl⟩
       refine aG<|aA<|yJ (Rc:=((rc 57 11 p [PG k,I (rd u 5),I (rd u 6),I (rd u 7),I sz,sl none 0 0,sl g vals.length i,I (0+ws.flatten.length),bf,I (0+1),I (min lim 100000)])::⟨22,1,g,vals.length,i,vals,false⟩::Rs)) mixed (λ_ h=>h.selR (F:=[_,_,_,_,_]) (F':=[_,_]) [1,2] cC Z)<|fB 0 Z cA Z (dI Z)<|fB 1 Z cA Z (jS Z)<|fB 2 Z cA Z (yF 5 5 Fb iJ Z)<|fB 3 Z cA Z (bO (vs:=[sl none 0 0,sl g vals.length i]) (rdr 0 Z) pz Z iJ Z Z (ah Z) Z)<|fB 4 Z cA Z (dI Z)<|fB 5 Z cA Z (jS Z)<|fB 6 Z cA Z (yF 1 1 Fb fC Z)<|fB 7 Z cA Z (bO (vs:=[I (rd u 5),I (rd u 6),I (rd u 7),I sz]) (rdr 0 Z) jd Z fC Z Z (ah Z) Z)<|iV 8 cA<|YF 8 Z (aZ (vs:=[sl none 0 0,sl g vals.length i]) 4 Z iJ Z Z Z cH Z) ?_;rintro _ _ rfl;refine⟨λ_ h=>h.selR (F:=[_,_,_,_,_]) (F':=[_,_]) [1,2] cC Z,?_⟩;refine iV 9 cA<|YF 9 Z (aZ (vs:=[I (rd u 5),I (rd u 6),I (rd u 7),I sz]) 3 Z fC Z Z Z cI Z) ?_;rintro _ _ rfl;refine⟨λ_ h=>h.selR (F:=[_,_,_,_,_]) (F':=[_,_]) [1,2] cC Z,?_⟩;refine fB 10 Z cA Z (bY Z)<|sM cA<|aS<|⟨_,_,_,⟨_,4,_,Z,Z,Z,Z,Z,Z,Z,Z⟩,⟨_,3,_,Z,Z,Z,Z,Z,Z,Z,Z⟩,Z,(⟨22,1,g,vals.length,i,vals,false⟩::Rs),λ_ h=>h.selR (F:=[_,_,_,_,_]) (F':=[_]) [2] cC Z,?_⟩;exact .inl ⟨_,ws,_,_,vals,Rs,EQ d (by rw[q];exact r.trans ((iM (by rw[<-B];exact l)).trans (cz (tZ a (by rw[ig];rintro(h|h)<;>first|omega|(simp at h)))))),hs,Z,Z⟩
      refine aB Z<|aA<|aD Z<|bA Z<|wq<|wy (bV (v:= .agg #[sl none 0 0,sl none 0 0]) Z (λw=>cA))<|wy (bV (v:= .agg #[I 0,I 0,I 0,I 0]) rfl (λw=>cA))<|bN (aZ (vs:=[sl none 0 0,sl none 0 0]) 4 rfl iJ rfl rfl rfl cH rfl)<|bN (aZ (vs:=[I 0,I 0,I 0,I 0]) 3 Z fC Z Z Z cI Z)<|aB Z<|aS<|⟨_,_,_,⟨_,4,_,Z,Z,Z,Z,Z,Z,Z,Z⟩,⟨_,3,_,Z,Z,Z,Z,Z,Z,Z,Z⟩,Z,[],λ_ h=>(h.selR (F:=[_,_,_,_,_]) (F':=[]) [] cC Z).left (X:=[]),?_⟩;exact .inr ⟨3,fM d (by rw[q];exact r.trans ((iM (by rw[<-B];exact l)).trans (bq (by rw[VZ (tot:=((([]++ws.flatten:AH).length:Nat):Int)) (by rw[ig];omega) a];decide)))),G,rfl,rfl⟩
     refine aG<|lK [1] Z<|cB [1] 6 Z<|wy (Yl.f (gD Z Z) (λh=>h y))<|bH 11 Z<|bN (aV 1 Z Z Z sz4 Z Z Z Z (ah Z))<|aJ<|aK 2 Z<|dD (aH bTn Z (Ct.pk [1,0,2,3,4] 5 (h:=aVg (X:=[⟨22,1,g,vals.length,i,vals,false⟩]) (R0:=((rc 27 4 o [I 0,I 0,I 0,I 0])::(rc 25 2 m [sl none 0 0,sl none 0 0])::Rs)) S Z G L y P G G G G)))<|aB Z<|aK 1 Z<|wy (Yl.t (gD Z Z) cC)<|aJ<|bA Z<|aA<|bK<|wy (bV (v:= .agg #[sl none 0 0,sl none 0 0]) Z (λw=>cA))<|wy (bV (v:= .agg #[I 0,I 0,I 0,I 0]) rfl (λw=>cA))<|wm rfl<|bN (aZ (vs:=[sl none 0 0,sl none 0 0]) 2 rfl iJ rfl rfl rfl cH rfl)<|bN (aZ (vs:=[I 0,I 0,I 0,I 0]) 1 Z fC Z Z Z cI Z)<|aB Z<|aS<|⟨_,_,_,⟨_,2,_,Z,Z,Z,Z,Z,Z,Z,Z⟩,⟨_,1,_,Z,Z,Z,Z,Z,Z,Z,Z⟩,Z,[],λ_ h=>(h.selR (F:=[_,_,_]) (F':=[]) [] cC Z).left (X:=[]),?_⟩;exact .inr ⟨3,fM d (by rw[q];exact r.trans (uM l B (qK (by unfold vD;rw[ig];omega)))),G,rfl,rfl⟩
    refine aB Z<|aA<|aD Z<|bA Z<|wq<|wy (bV (v:= .agg #[sl none 0 0,sl none 0 0]) Z (λw=>cA))<|wy (bV (v:= .agg #[I 0,I 0,I 0,I 0]) rfl (λw=>cA))<|bN (aZ (vs:=[sl none 0 0,sl none 0 0]) 4 rfl iJ rfl rfl rfl cH rfl)<|bN (aZ (vs:=[I 0,I 0,I 0,I 0]) 3 Z fC Z Z Z cI Z)<|aB Z<|aS<|⟨_,_,_,⟨_,4,_,Z,Z,Z,Z,Z,Z,Z,Z⟩,⟨_,3,_,Z,Z,Z,Z,Z,Z,Z,Z⟩,Z,[],λ_ h=>(h.selR (F:=[_,_,_,_,_]) (F':=[]) [] cC Z).left (X:=[]),?_⟩;exact .inr ⟨3,fM d (by rw[q];exact r.trans (SY G l)),G,rfl,rfl⟩
   refine aB Z<|aK 1 Z<|wy (Yl.t (gD Z Z) G)<|aJ<|bA Z<|wq<|wy (bV (v:= .agg #[sl none 0 0,sl none 0 0]) Z (λw=>cA))<|wy (bV (v:= .agg #[I 0,I 0,I 0,I 0]) rfl (λw=>cA))<|wm rfl<|bN (aZ (vs:=[sl none 0 0,sl none 0 0]) 1 rfl iJ rfl rfl rfl cH rfl)<|bN (aZ (vs:=[I 0,I 0,I 0,I 0]) 0 Z fC Z Z Z cI Z)<|aB Z<|aS<|⟨_,_,_,⟨_,1,_,Z,Z,Z,Z,Z,Z,Z,Z⟩,⟨_,0,_,Z,Z,Z,Z,Z,Z,Z,Z⟩,Z,[],λ_ h=>(h.selR (F:=[_,_]) (F':=[]) [] cC Z).left (X:=[]),?_⟩;exact .inr ⟨e,fM d (uM j ap D),he,Z,Z⟩
  refine aB Z<|aA<|aD Z<|bA Z<|wq<|wy (bV (v:= .agg #[sl none 0 0,sl none 0 0]) Z (λw=>cA))<|wy (bV (v:= .agg #[I 0,I 0,I 0,I 0]) rfl (λw=>cA))<|bN (aZ (vs:=[sl none 0 0,sl none 0 0]) 3 rfl iJ rfl rfl rfl cH rfl)<|bN (aZ (vs:=[I 0,I 0,I 0,I 0]) 2 Z fC Z Z Z cI Z)<|aB Z<|aS<|⟨_,_,_,⟨_,3,_,Z,Z,Z,Z,Z,Z,Z,Z⟩,⟨_,2,_,Z,Z,Z,Z,Z,Z,Z,Z⟩,Z,[],λ_ h=>(h.selR (F:=[_,_,_,_]) (F':=[]) [] cC Z).left (X:=[]),?_⟩;exact .inr ⟨3,fM d (SY G j),G,rfl,rfl⟩
 refine aB Z<|aA<|aK 1 Z<|wy (Yl.t (gD Z Z) cC)<|aJ<|bA Z<|wq<|wy (bV (v:= .agg #[sl none 0 0,sl none 0 0]) Z (λw=>cA))<|wy (bV (v:= .agg #[I 0,I 0,I 0,I 0]) rfl (λw=>cA))<|wm rfl<|bN (aZ (vs:=[sl none 0 0,sl none 0 0]) 1 rfl iJ rfl rfl rfl cH rfl)<|bN (aZ (vs:=[I 0,I 0,I 0,I 0]) 0 Z fC Z Z Z cI Z)<|aB Z<|aS<|⟨_,_,_,⟨_,1,_,Z,Z,Z,Z,Z,Z,Z,Z⟩,⟨_,0,_,Z,Z,Z,Z,Z,Z,Z,Z⟩,Z,[],λ_ h=>(h.selR (F:=[_,_]) (F':=[]) [] cC Z).left (X:=[]),?_⟩;exact .inr ⟨3,decU_none d,G,rfl,rfl⟩
end
theorem QF {B:Nat} {w0:World} {R:List Row} {A:AF} {c:Nat}:RdC B w0 R A 0 c 1 (ints .u8 []):=wV
theorem aWz {so od sz:Int} {ws:AD} {L TS:AH} (hp:(0<=so/\so<=2)/\(od=0\/od=1)/\(1<=sz/\sz<=16777216)) (hb: ∀w∈ws,aI w) (a: ¬gQ ws) (d:ExtR ws L TS 0) (b:ws.flatten.length<=1000/\ws.length<=1000):(tC so od sz ws).length<=10000:=by
 have e:=(rG (od:=od) hb a ⟨L,TS,d⟩ b).1;have g:=cK 4 sz G;have h:=gK ws;have i:=cK 2 ((canon ws).flatten.length:Int) G;have j:(aU 0).length=1:=rfl;unfold tC;simp only[aa,dh,iw];split
 ·simp only[iw];omega
 omega
section
variable {w:World} {ao bl:AF} {ar an cg bm:Nat} {u T:AH} {lim k so od sz o:Int} {ws:AD} {aq:AG}
theorem aVe {e:Int} (am:R4 w ao ar an u) (d:aI u) (i:u.length<=1000000) (pm: -1000<=lim/\lim<=8000) (a:pI u lim= .error e):
  CF 7 #[sl ao ar an,I lim] w (λv R'=>v= .tuple #[.agg #[sl none 0 0,sl none 0 0], .agg #[I 0,I 0,I 0,I 0],I e]/\R'=[]):=by
 by_cases g:rd u 5=3
 ·refine (TP am d i pm g).mono λv R' b=> ?_;rcases b with⟨j,l,A,c,vals,Rs,h,hs,rfl,rfl⟩|⟨e',h,_,rfl,rfl⟩
  ·rw[a] at h;cases h
  rw[a] at h;cases h;exact⟨rfl,rfl⟩
 refine (TQ am d i ⟨pm.1,G⟩ g).mono λv R' b=> ?_;rcases b with⟨j,k,A,c,h,rfl,rfl⟩|⟨e',h,_,rfl,rfl⟩
 ·rw[a] at h;cases h
 rw[a] at h;cases h;exact⟨rfl,rfl⟩
theorem aVd (am:R4 w ao ar an u) (e:aI u) (g:u.length<=1000000) (pm: -1000<=lim/\lim<=8000) (a:pI u lim= .ok ((T,[]),(k,so,od,sz))) (hk:k≠3):
  CF 7 #[sl ao ar an,I lim] w (λv R'=> ∃(A:AF) (c:Nat),v= .tuple #[.agg #[sl A T.length c,sl none 0 0], .agg #[I k,I so,I od,I sz],I 0]/\R'=[(ru 5 A T.length c T)]):=by
 by_cases b:rd u 5=3
 ·refine (TP am e g pm b).mono λv R' d=> ?_;rcases d with⟨i,l,A,c,vals,Rs,h,hs,rfl,rfl⟩|⟨e',h,_,rfl,rfl⟩
  ·rw[a] at h;cases h;exact absurd b hk
  rw[a] at h;cases h
 refine (TQ am e g ⟨pm.1,G⟩ b).mono λv R' d=> ?_;rcases d with⟨i,j,A,c,h,rfl,rfl⟩|⟨e',h,_,rfl,rfl⟩
 ·rw[a] at h;cases h;exact⟨_,_,rfl,rfl⟩
 rw[a] at h;cases h
theorem aVc (am:R4 w ao ar an u) (e:aI u) (g:u.length<=1000000) (pm: -1000<=lim/\lim<=8000) (a:pI u lim= .ok ((T,ws),(k,so,od,sz))) (hk:k=3):
  CF 7 #[sl ao ar an,I lim] w (λv R'=> ∃(A:AF) (c:Nat) (vals:AG) (Rs:List Row),SlR .u8 Rs vals ws/\v= .tuple #[.agg #[sl none 0 0,sl A ws.length c], .agg #[I k,I so,I od,I sz],I 0]/\R'=⟨22,1,A,ws.length,c,vals,false⟩::Rs):=by
 by_cases b:rd u 5=3
 ·refine (TP am e g pm b).mono λv R' d=> ?_;rcases d with⟨i,l,A,c,vals,Rs,h,hs,rfl,rfl⟩|⟨e',h,_,rfl,rfl⟩
  ·rw[a] at h;cases h;exact⟨_,_,vals,Rs,hs,by rw[<-hs.1],by rw[<-hs.1]⟩
  rw[a] at h;cases h
 refine (TQ am e g ⟨pm.1,G⟩ b).mono λv R' d=> ?_;rcases d with⟨i,j,A,c,h,rfl,rfl⟩|⟨e',h,_,rfl,rfl⟩
 ·rw[a] at h;cases h;exact absurd hk b
 rw[a] at h;cases h
theorem aSs (am:R4 w ao ar an u) (g:aI u) (i:u.length<=1000000) (pm: -1000<=lim/\lim<=8000):
  CF 6 #[sl ao ar an,I lim] w (λv R'=>(∃e:Int,pI u lim= .error e/\(e=3\/e=4\/e=5)/\v= .tuple #[.agg #[sl none 0 0,sl none 0 0], .agg #[I 0,I 0,I 0,I 0],I e]/\R'=[])\/
   (∃(T:AH) (k so od sz:Int) (A:AF) (c:Nat),pI u lim= .ok ((T,[]),(k,so,od,sz))/\k≠3/\v= .tuple #[.agg #[sl A T.length c,sl none 0 0], .agg #[I k,I so,I od,I sz],I 0]/\R'=[(ru 5 A T.length c T)])\/
   (∃(T:AH) (ws:AD) (so od sz:Int) (A:AF) (c:Nat) (vals:AG) (Rs:List Row),pI u lim= .ok ((T,ws),(3,so,od,sz))/\SlR .u8 Rs vals ws/\v= .tuple #[.agg #[sl none 0 0,sl A ws.length c], .agg #[I 3,I so,I od,I sz],I 0]/\R'=⟨22,1,A,ws.length,c,vals,false⟩::Rs)):=by
 by_cases a:rd u 5=3
 ·refine (bNb am g i pm a).mono λv R' d=> ?_;rcases d with⟨j,m,A,c,vals,Rs,h,hs,rfl,rfl⟩|⟨e',h,b,rfl,rfl⟩
  ·rw[a] at h ⊢;exact .inr (.inr ⟨_,_,_,_,_,_,_,vals,Rs,h,hs,by rw[<-hs.1],by rw[<-hs.1]⟩)
  exact .inl ⟨e',h,b,rfl,rfl⟩
 refine (bNc am g i ⟨pm.1,G⟩ a).mono λv R' d=> ?_;rcases d with⟨j,l,A,c,h,rfl,rfl⟩|⟨e',h,b,rfl,rfl⟩
 ·exact .inr (.inl ⟨_,_,_,_,_,_,_,h,a,rfl,rfl⟩)
 exact .inl ⟨e',h,b,rfl,rfl⟩
theorem decU_none:pI [87,72,82,76,1,0,0,0,1,0,0] 0= .ok (([],[]),(0,0,0,1)):=by
 have g1:iG [1,0,0]=some (1,[0,0]):=VP (v:=1) cC cC [0,0];have g2:iG [0,0]=some (0,[0]):=VP (v:=0) cC cC [0];have g3:iG [0]=some (0,[]):=VP (v:=0) cC cC []
 have e:nW [87,72,82,76,1,0,0,0,1,0,0]=some ((0,0,0,1),[0,0]):=by
  unfold nW;rw[cz cC,show List.drop 8 [(87:Int),72,82,76,1,0,0,0,1,0,0]=[1,0,0] from rfl,g1];exact cz cC
 have r:rV 0 0 1 (min 0 100000) (([0,0]:AH).length+1) [] [] 0 false [0,0]= .ok ([],[]):=by
  unfold rV;rw[g2];simp[PO,g3]
 unfold pI;rw[e];dsimp only;rw[r]
theorem bNd (am:R4 w ao ar an u) (hu:u=tF 0 0 0 1 []):
  CF 6 #[sl ao ar an,I 0] w (λv R'=> ∃A c,v= .tuple #[.agg #[sl A 0 c,sl none 0 0], .agg #[I 0,I 0,I 0,I 1],I 0]/\R'=[(ru 5 A 0 c ([]))]):=by
 rw[aSl] at hu;subst hu;refine(aSs am (by unfold aI;decide) cC cC).mono λv R' a=> ?_;rcases a with⟨e,h,_⟩|⟨T,k,so,od,sz,A,c,h,hk,rfl,rfl⟩|⟨T,ws,so,od,sz,A,c,vals,Rs,h,_⟩
 ·rw[decU_none] at h;cases h
 ·rw[decU_none] at h;cases h;exact⟨A,c,rfl,rfl⟩
 rw[decU_none] at h;cases h
theorem MU:
  CF 9 #[] w (λv R'=>v=bt):=by
 refine fn1 Tryz.func9 Z Z Z<|aD Z<|wq<|wy (bV (v:= .agg #[sl none 0 0,sl none 0 0]) Z (λw=>cA))<|wy (bV (v:= .agg #[I 0,I 0,I 0,I 1]) rfl (λw=>cA))<|bZ bTp Z (λw a=>aSn (u:=[]) ((TT _) w a) aI.nil cC G G) λg e=>aB Z<|aK 1 Z<|bZ en6 Z (λw a=>bNd ((rdr 0 Z) w a) Z) λb d=>bH 4 Z<|aX (eH (sz:=2) QY Z) λi=>aX (eH (sz:=4) QX Z) λh=>bN (aZ (vs:=[sl b 0 d,sl none 0 0]) 1 Z iJ Z Z Z cH Z)<|bN (aZ (vs:=[I 0,I 0,I 0,I 1]) 0 Z fC Z Z Z cI Z)<|aB Z<|aK 1 Z<|wR Z Z<|bH 2 Z<|aN Z Z<|wy (gL ai ay qh Z (rdr 3 Z))<|aN Z Z<|wy (Yl.t (YK (q:=[87,72,82,76,1,0,0,0,1,0,0]) Z Z (aOh aI.nil cC cC cC cC cC).1 (by unfold aI;decide)) (aSl)) ?_;refine bH 3 Z<|aN Z Z<|wR Z Z<|iC [1,1] 8 Z<|aN Z Z<|wy (dJ Z Z cC)<|aN Z Z<|wR Z Z<|iC [0] 4 Z<|aN Z Z<|wR Z Z<|aB Z<|aL [] 99<|⟨_,Z,?_⟩;rfl
theorem TC {d:AF} {j e:Nat} {z:AH} {m:AF} {a o:Nat} {k:AG} {zs:AD} (am:R4 w ao ar an u) (q:Rd w bl cg bm 1 aq) (r:SlW .u8 w aq ws) (g:R4 w d j e z) (l:Rd w m a o 1 k) (b:SlW .u8 w k zs) (p:aI u) (x:z=u) (i:zs=ws) (y:ws.length<=1000000):
  CF 8 #[.agg #[sl ao u.length an,sl bl ws.length bm], .agg #[sl d z.length e,sl m zs.length o]] w (λv R'=>v=bt):=by
 obtain rfl:=am.lenI;obtain rfl:=g.lenI;obtain rfl:cg=ws.length:=by have:=q.len;have:=r.1;omega
 obtain rfl:a=zs.length:=by have:=l.len;have:=b.1;omega
 refine fn1 Tryz.func8 Z Z Z<|wq<|aX (dC (sz:=2) Z Z) λA=>aX (dC (sz:=2) Z Z) λB=>aB Z<|cB [1] 2 Z<|wy (gL ai ay qh Z (am.c _))<|iC [0] 2 Z<|wy (gL ai ay qh Z (g.c _))<|wy (Yl.t (YK Z Z p (x▸p)) (x.symm))<|iC [1,0] 5 Z<|aN Z Z<|dZ cBa Z (λw h=>bAu ((q.c _) w h) (r.c h) ((l.c _) w h) (b.c h) y)<|rO 17 Z (i.symm)<|aB Z<|aL [] 99<|⟨_,Z,?_⟩;rfl
theorem bFy {t:Int}:1<=(tF t so o sz u).length:=by
 unfold tF;simp only[aa,dh];omega
theorem bFv:1<=(tC so o sz ws).length:=by
 unfold tC;simp only[aa,dh];omega
theorem aMm (am:R4 w ao ar an u) (m:aI u) (g:Rd w bl cg bm 1 aq) (d:SlW .u8 w aq ws) (y:ws.flatten.length<=60/\ws.length<=30/\u.length<=60):
  CF 5 #[.agg #[sl ao ar an,sl bl cg bm], .agg #[I k,I so,I od,I sz]] w (λv R'=>(∃(b:AH) (A:AF) (c:Nat),aI b/\(1<=b.length/\b.length<=500000)/\v= .tuple #[sl A b.length c,I 0]/\R'=[(ru 5 A b.length c b)])\/(v= .tuple #[sl none 0 0,I 1]/\R'=[])):=by
 obtain rfl:=am.lenI;obtain rfl:cg=ws.length:=by have:=g.len;have:=d.1;omega
 by_cases p:(((0<=k/\k<=3)/\(0<=so/\so<=2)/\(od=0\/od=1)/\(1<=sz/\sz<=16777216))/\(k≠3->ws.length=0)/\(k=3->u.length=0)/\ ¬gQ ws)
 ·obtain ⟨h1,q,r,e⟩:=p;by_cases hk:k=3
  ·subst hk;obtain rfl:u=[]:=di (r rfl);have l: ∀w∈ws,aI w:=λw x=>((d.okB) w x).1;obtain⟨L,TS,j⟩:=bFn e G G;have i:ws.flatten.length<=1000/\ws.length<=1000:=⟨G,G⟩;refine(bBv g d h1.2 e i ⟨L,TS,j⟩).mono λv R' a=> ?_;obtain⟨A,c,rfl,rfl⟩:=a;exact .inl ⟨_,A,c,aOg h1.2.1 h1.2.2.1 l e ⟨L,TS,j⟩ i G,⟨bFv,by have:=aWz h1.2 l e j i;omega⟩,rfl,rfl⟩
  obtain rfl:ws=[]:=di (q hk);refine(bBu am m G h1.2 G).mono λv R' a=> ?_;obtain⟨A,c,rfl,rfl⟩:=a;have hb:=OP (t:=k) (so:=so) (o:=od) (sz:=sz) m G G G G G;exact .inl ⟨_,A,c,hb.1,⟨bFy,G⟩,rfl,rfl⟩
 exact Ct.rr (bBw am g d p ⟨G,G,G⟩) λv R' a=>⟨[],λ_ h=>h.sublist (List.nil_sublist _), .inr ⟨a,rfl⟩⟩
end
section
variable {u:AH} {W:AD}
theorem aYv {P:Program} {n:Nd} {B:Nat} {w0:World} {L:Env} {R:List Row} {ty:TypeId} {x y:Operand} {t u:TypeId} {p q:Value} {b:Bool} (h: ∀w,(binOp .neq t p q).run P w= .ok (.bool b) w) (d: ∀w,(eqGuard .neq t x y p q).run P w= .ok () w) (g:ev L x=some p) (i:ev L y=some q):Yl P n B w0 (.binOp .neq t x y u) ty L R (.bool b):=by
 intro a w o e _ hs _;simp[execOp,e,hs.ev g,hs.ev i,h,d]
theorem bCt (k so od sz:Int) (w:World):(binOp .neq 27 (.agg #[I k,I so,I od,I sz]) (.agg #[I k,I so,I od,I sz])).run Tryz.prog w= .ok bf w:=by
 have a:(part 3 #[I k,I so,I od,I sz] 0).run Tryz.prog w= .ok (I k) w:=cA
 have h1:(part 3 #[I k,I so,I od,I sz] 1).run Tryz.prog w= .ok (I so) w:=cA
 have b:(part 3 #[I k,I so,I od,I sz] 2).run Tryz.prog w= .ok (I od) w:=cA
 have e:(part 3 #[I k,I so,I od,I sz] 3).run Tryz.prog w= .ok (I sz) w:=cA
 rw[run_neq_struct,run_equalIn_agg (d:=9999) _ _ _ _ cA cA];simp[Program.fieldsOf,jd,Op.eqFields,jq,a,h1,b,e,λx=>run_equalIn_int (P:=Tryz.prog) w 9998 3 .i64 .i64 x x cA]
theorem MO (x y:Operand) (xs a:Array Value) (w:World):(eqGuard .neq 27 x y (.agg xs) (.agg a)).run Tryz.prog w= .ok () w:=run_eqGuard_agg w _ _ _ _ _ _ cA
theorem bZk {i v:Int} (hu:aI u) (b:0<=v/\v<256):aI (upd u i v):=by
 intro x a;unfold upd at a;rcases List.mem_or_eq_of_mem_set a with h|h
 ·exact hu x h
 rw[h];exact b
theorem bFi {W:AD} (h: ∀w∈W,0<w.length):W.length<=W.flatten.length:=by
 induction W with
 |nil=>exact oq _
 |cons w W ih=>
  have h1:=h w (.head _);have b:=ih λx a=>h x (.tail _ a);simp only[dh,jv,aa];omega
theorem bZq {S:AH} (d:S=W.flatten) (h:W=[]\/(∃L TS,ExtR W L TS 0)/\(S.length:Int)<=min 1000 100000): ¬gQ W/\(W.flatten.length<=1000/\W.length<=1000)/\ ∃L TS,ExtR W L TS 0:=by
 rcases h with rfl|⟨⟨L,TS,b⟩,hl⟩
 ·exact⟨(λ⟨_,h,_⟩=>nomatch h),cC,bFn (λ⟨_,h,_⟩=>nomatch h) cC cC⟩
 have a: ∀w∈W,0<w.length:=by
  rcases b with⟨h,_⟩|⟨_,h,_⟩|⟨_,_,h,_⟩
  ·omega
  ·omega
  exact h
 subst d;have:=bFi a;exact⟨λ⟨w,g,e⟩=>by have:=a w g;omega,⟨G,G⟩,L,TS,b⟩
theorem boxTurned_ct {w:World} {ao:AF} {ar an:Nat} {bl:AF} {cg bm:Nat} {aq:AG} {ws:AD} {k:Int} {so:Int} {od:Int} {sz:Int} {at_:Int} {H:Int} {O:Int} (am:R4 w ao ar an u) (N:Rd w bl cg bm 1 aq) (bo:SlW .u8 w aq ws) (ac:aI u) (Lp:u.length<=140737488355327) (L:0<=H/\H<256):
  CF 3 #[.agg #[sl ao u.length an,sl bl ws.length bm], .agg #[I k,I so,I od,I sz],I at_, .int .u8 H,I O] w (λv R'=>v=bt):=by
 obtain rfl:=am.lenI;obtain rfl:cg=ws.length:=by have:=N.len;have:=bo.1;omega
 refine fn1 func3 Z Z Z ?_;have jz:=am.max;have nw:=N.max;refine wq<|aX (dC (sz:=2) Z Z) λbc=>aX (dC (sz:=4) Z Z) λdg=>aB Z<|aA<|wq<|wy (bO (vs:=[sl ao u.length an,sl bl ws.length bm]) (rdr 1 Z) pz Z iJ Z Z (ah Z) Z)<|wa (aH en4 Z (Ct.quiet (λw a=>aVv (u:=u) (ws:=ws) ((am.c _) w a) ((N.c _) w a) (bo.c a) Lp))) ?_;rintro _ _⟨rfl,S,rfl,kp⟩;refine wm Z<|bD 3 [2,3,4,5,6] 27 (.bool (decide ((S=true)\/(O<0)))) Z ?_ ?_
 ·refine bB 24 Z ?_ ?_<;>intro ap
  ·exact aB Z<|KP
  exact aB Z<|KP
 refine wm Z<|bD 3 [2,3,4,5,6] 31 (.bool (decide (((S=true)\/(O<0))\/(2<O)))) Z ?_ ?_
 ·refine bB 28 Z ?_ ?_<;>intro bp
  ·exact aB Z<|KP
  exact aB Z<|KP
 refine aJ<|aR Z ?_ ?_<;>intro db
 ·refine aD Z<|RL<|⟨_,Z,?_⟩;rfl
 have R:=kp (by cases S with|false=>rfl|true=>exact absurd (.inl (.inl rfl)) db);refine aG<|wq<|wy (bO (vs:=[sl ao u.length an,sl bl ws.length bm]) (rdr 1 Z) pz Z iJ Z Z (ah Z) Z)<|wy (bO (vs:=[I k,I so,I od,I sz]) (rdr 0 Z) jd Z fC Z Z (ah Z) Z)<|wa (aH en5 Z (Ct.fresh (λw a=>aMm ((am.c _) w a) ac ((N.c _) w a) (bo.c a) ⟨R.2.1,R.2.2,R.1⟩))) ?_;rintro _ _⟨_,rfl,⟨d,dr,du,vl,r7,rfl,rfl⟩|⟨rfl,rfl⟩⟩
 ·have kj:=jk ((BitVec.ofInt 64 at_ &&& 65535#64).toNat:Int) (show(d.length:Int)≠0 by omega);have Ss:=ja ((BitVec.ofInt 64 at_ &&& 65535#64).toNat:Int) (show(0:Int)<(d.length:Int) by omega);refine aB Z<|aA<|aK 1 Z<|wy (Yl.f (gD Z Z) cC)<|aJ<|aM Z<|aG<|aK 1 Z<|wy (bQw (m:=65535) Z Z)<|bH 2 Z<|wy (uF Z Z)<|aB Z<|bJe (λ(y:AF) (r:Nat) (cb:Nat) (q:AH) (b:Nat)=>[(11,sl y b cb)]) (λy r cb q b=>((ru 5 y r cb q)::(rc 27 4 dg [I k,I so,I od,I sz])::(rc 25 2 bc [sl ao u.length an,sl bl ws.length bm])::[])) (λy r cb q b=>(r=q.length/\b<=r)/\(aI q)/\(r<=500001)) ?_ ?_
  ·refine aD Z<|aF<|aD Z<|aR Z ?_ ?_<;>intro dj
   ·exact aT 3 Z<|wy (aC ai sz5 Z Z (rdr 0 Z))<|bN (bJ 0 Z sz5 Z Z)<|aJ<|⟨dr,d.length,du,upd d (((BitVec.ofInt 64 at_ &&& 65535#64).toNat:Int)%(d.length:Int)) H,d.length,⟨(⟨(aW _ _ _).symm,dn _⟩),(bZk vl L),G⟩,KP⟩
   refine aD Z<|aR Z ?_ ?_<;>intro ff
   ·exact aT 2 Z<|wy (dV ai sz5 Z Z (rdr 0 Z))<|aB Z<|⟨dr,d.length,du,d,(((BitVec.ofInt 64 at_ &&& 65535#64).toNat:Int)%(d.length:Int)).toNat,⟨(⟨Z,G⟩),(vl),G⟩,KP⟩
   exact aT 2 Z<|aX (bG .u8 [H] ai zs5 Z Z Z) λsk=>dG (aO 1 Z ai zb5 Z Z Z (rdr 0 Z)) λjj gh=>bC (v:=sl jj (d.length+1) gh) Z<|aB Z<|⟨jj,(d.length+1),gh,d++([H]),d.length+1,⟨(⟨cD,dn _⟩),(vl.append (λx hx=>by rw[gz.1 hx];exact L)),G⟩,SA,λ_ h=>h.selR (F:=[_,_,_,_]) (F':=[_,_,_]) [1,2,3] cC rfl⟩
  intro y r cb q b ⟨hnb,Yy,Zv⟩;have o:aI (q.take b):=Yy.take _;have hXl:(q.take b).length=b:=by rw[ax];omega
  refine aK 1 Z<|wa (aH en6 Z (Ct.fresh (λw a=>aSs ((RdC.toI (h:=b) (rdr 0 Z) cG) w a) o G ⟨cC,cC⟩))) ?_;rintro _ _⟨_,rfl,⟨e,B,he,rfl,rfl⟩|⟨T,kk,ss,i,j,p,l,B,Ps,rfl,rfl⟩|⟨T,g,ss,i,j,p,l,v1,A,B,j5,rfl,rfl⟩⟩
  ·refine bH 4 Z<|aX (eH (sz:=2) QY Z) λsg=>aX (eH (sz:=4) QX Z) λuc=>bN (aZ (vs:=[sl none 0 0,sl none 0 0]) 1 Z iJ Z Z Z cH Z)<|bN (aZ (vs:=[I 0,I 0,I 0,I 0]) 0 Z fC Z Z Z cI Z)<|aB Z<|aK 1 Z<|wa (aH en7 Z (Ct.fresh (λw a=>aVe ((RdC.toI (h:=b) (rdr 2 Z) cG) w a) o G ⟨cC,cC⟩ B))) ?_;rintro _ _⟨_,rfl,rfl,rfl⟩;refine bH 4 Z<|aX (eH (sz:=2) QY Z) λzp=>aX (eH (sz:=4) QX Z) λzr=>bN (aZ (vs:=[sl none 0 0,sl none 0 0]) 1 Z iJ Z Z Z cH Z)<|bN (aZ (vs:=[I 0,I 0,I 0,I 0]) 0 Z fC Z Z Z cI Z)<|aB Z<|aA<|wq<|wy (bO (vs:=[sl none 0 0,sl none 0 0]) (rdr 3 Z) pz Z iJ Z Z (ah Z) Z)<|wy (bO (vs:=[sl none 0 0,sl none 0 0]) (rdr 1 Z) pz Z iJ Z Z (ah Z) Z)<|dZ en8 Z (λw a=>TC (u:=[]) (ws:=[]) (z:=[]) (zs:=[]) (QF w a) (wV w a) (gI .u8 _) (QF w a) (wV w a) (gI .u8 _) aI.nil Z Z cC)<|bH 2 Z<|aN Z Z<|wy (bO (vs:=[I 0,I 0,I 0,I 0]) (rdr 2 Z) jd Z fC Z Z (ah Z) Z)<|aN Z Z<|wy (bO (vs:=[I 0,I 0,I 0,I 0]) (rdr 0 Z) jd Z fC Z Z (ah Z) Z)<|aN Z Z<|wy (aYv (bCt _ _ _ _) (MO _ _ _ _) Z Z)<|bH 4 Z<|aN Z Z<|wy (Yl.f (gD Z Z) (λh=>h Z))<|aB Z<|aM Z<|aG<|aA<|aK 1 Z<|wy (Yl.t (gD Z Z) G)<|aJ<|bA Z<|wq<|dZ en9 Z (λw a=>MU)<|aB Z<|RL<|⟨_,Z,?_⟩;rfl
  ·obtain ⟨K,hu2,hu3,M,C⟩:=aXm o Ps B;have Uc:T.length<=1000:=C.elim (λh=>h▸oq _) (λh=>G);refine bH 4 Z<|aX (eH (sz:=2) QY Z) λFk=>aX (eH (sz:=4) QX Z) λTx=>bN (aZ (vs:=[sl p T.length l,sl none 0 0]) 1 Z iJ Z Z Z cH Z)<|bN (aZ (vs:=[I kk,I ss,I i,I j]) 0 Z fC Z Z Z cI Z)<|aB Z<|aK 1 Z<|bZ en7 Z (λw a=>aVd ((RdC.toI (h:=b) (rdr 3 Z) cG) w a) o G ⟨cC,cC⟩ B Ps) λi6 qe=>bH 4 Z<|aX (eH (sz:=2) QY Z) λth=>aX (eH (sz:=4) QX Z) λKa=>bN (aZ (vs:=[sl i6 T.length qe,sl none 0 0]) 1 Z iJ Z Z Z cH Z)<|bN (aZ (vs:=[I kk,I ss,I i,I j]) 0 Z fC Z Z Z cI Z)<|aB Z<|aA<|wq<|wy (bO (vs:=[sl p T.length l,sl none 0 0]) (rdr 4 Z) pz Z iJ Z Z (ah Z) Z)<|wy (bO (vs:=[sl i6 T.length qe,sl none 0 0]) (rdr 1 Z) pz Z iJ Z Z (ah Z) Z)<|dZ en8 Z (λw a=>TC (u:=T) (ws:=[]) (z:=T) (zs:=[]) ((rdr 5 Z) w a) (wV w a) (gI .u8 _) ((rdr 2 Z) w a) (wV w a) (gI .u8 _) M Z Z cC)<|bH 2 Z<|aN Z Z<|wy (bO (vs:=[I kk,I ss,I i,I j]) (rdr 3 Z) jd Z fC Z Z (ah Z) Z)<|aN Z Z<|wy (bO (vs:=[I kk,I ss,I i,I j]) (rdr 0 Z) jd Z fC Z Z (ah Z) Z)<|aN Z Z<|wy (aYv (bCt _ _ _ _) (MO _ _ _ _) Z Z)<|bH 4 Z<|aN Z Z<|wy (Yl.f (gD Z Z) (λh=>h Z))<|aB Z<|aM Z<|aG<|aA<|aK 1 Z<|wy (Yl.f (gD Z Z) (λh=>h Z))<|aJ<|aM Z<|aG<|wq<|wy (bO (vs:=[sl p T.length l,sl none 0 0]) (rdr 4 Z) pz Z iJ Z Z (ah Z) Z)<|wy (bO (vs:=[I kk,I ss,I i,I j]) (rdr 3 Z) jd Z fC Z Z (ah Z) Z)<|bZ bTp Z (λw a=>aSn (u:=T) ((rdr 5 Z) w a) M Uc hu3.2 G) λqu qv=> ?_;refine aB Z<|aK 1 Z<|wR Z Z<|bH 2 Z<|aN Z Z<|wy (gL ai ay qh Z (rdr 0 Z))<|bH 1 Z<|aN Z Z<|wy (gL ai ay qh Z (RdC.toI (h:=b) (rdr 7 Z) cG))<|aN Z Z<|wy (Yl.t (YK Z Z (K▸o) o) (K.symm))<|bH 2 Z<|aN Z Z<|dZ en9 Z (λw a=>MU)<|aB Z<|RL<|⟨_,Z,?_⟩;rfl
  refine gZ (R1:=(⟨22,1,p,g.length,l,v1,false⟩::(ru 5 y r cb q)::(rc 27 4 dg [I k,I so,I od,I sz])::(rc 25 2 bc [sl ao u.length an,sl bl ws.length bm])::A)) (Sub.refl _) (λ_ h=>Hp.toTail0 (X:=[_]) (Y:=[_,_,_]) h) ?_;obtain⟨K,hT,_,Nb,C,hW6⟩:=aOn o B;obtain⟨cj,hW,hex⟩:=bZq hT hW6;have bw:OkB g:=λw a=>⟨Nb w a,by have:=ng (jo a);omega⟩;refine bH 4 Z<|aX (eH (sz:=2) QY Z) λo0=>aX (eH (sz:=4) QX Z) λu4=>bN (aZ (vs:=[sl none 0 0,sl p g.length l]) 1 Z iJ Z Z Z cH Z)<|bN (aZ (vs:=[I 3,I ss,I i,I j]) 0 Z fC Z Z Z cI Z)<|aB Z<|aK 1 Z<|wa (aH en7 Z (Ct.fresh (λw a=>aVc ((RdC.toI (h:=b) (rdr 3 Z) cG) w a) o G ⟨cC,cC⟩ B rfl))) ?_;rintro _ _⟨_,rfl,P,Q,v2,J,Mr,rfl,rfl⟩;have D:=Mr.left A;have Tg:=j5.right J;refine gZ (R1:=(⟨22,1,P,g.length,Q,v2,false⟩::(rc 27 4 u4 [I 3,I ss,I i,I j])::(rc 25 2 o0 [sl none 0 0,sl p g.length l])::⟨22,1,p,g.length,l,v1,false⟩::(ru 5 y r cb q)::(rc 27 4 dg [I k,I so,I od,I sz])::(rc 25 2 bc [sl ao u.length an,sl bl ws.length bm])::(J++A))) (Sub.refl _) (λ_ h=>Hp.toTail (X:=[_]) (Y:=[_,_,_,_,_,_]) h)<|bH 4 Z<|aX (eH (sz:=2) QY Z) λg_31=>aX (eH (sz:=4) QX Z) λg_32=>bN (aZ (vs:=[sl none 0 0,sl P g.length Q]) 1 Z iJ Z Z Z cH Z)<|bN (aZ (vs:=[I 3,I ss,I i,I j]) 0 Z fC Z Z Z cI Z)<|aB Z<|aA<|wq<|wy (bO (vs:=[sl none 0 0,sl p g.length l]) (rdr 4 Z) pz Z iJ Z Z (ah Z) Z)<|wy (bO (vs:=[sl none 0 0,sl P g.length Q]) (rdr 1 Z) pz Z iJ Z Z (ah Z) Z)<|dZ en8 Z (λw a=>TC (u:=[]) (ws:=g) (z:=[]) (zs:=g) (QF w a) ((rdr 5 Z) w a) (Tg.slw bw (Hp.right (R':=[_,_,_,_,_,_,_,_,_]) a)) (QF w a) ((rdr 2 Z) w a) (D.slw bw (Hp.right (R':=[_,_,_,_,_,_,_,_,_]) a)) aI.nil Z Z G)<|bH 2 Z<|aN Z Z<|wy (bO (vs:=[I 3,I ss,I i,I j]) (rdr 3 Z) jd Z fC Z Z (ah Z) Z)<|aN Z Z<|wy (bO (vs:=[I 3,I ss,I i,I j]) (rdr 0 Z) jd Z fC Z Z (ah Z) Z)<|aN Z Z<|wy (aYv (bCt _ _ _ _) (MO _ _ _ _) Z Z)<|bH 4 Z<|aN Z Z<|wy (Yl.f (gD Z Z) (λh=>h Z))<|aB Z<|aM Z<|aG<|aA<|aK 1 Z<|wy (Yl.f (gD Z Z) (λh=>h Z))<|aJ<|aM Z<|aG<|wq<|wy (bO (vs:=[sl none 0 0,sl p g.length l]) (rdr 4 Z) pz Z iJ Z Z (ah Z) Z)<|wy (bO (vs:=[I 3,I ss,I i,I j]) (rdr 3 Z) jd Z fC Z Z (ah Z) Z)<|bZ bTp Z (λw a=>bMt ((rdr 5 Z) w a) (Tg.slw bw (Hp.right (R':=[_,_,_,_,_,_,_,_,_]) a)) C cj hW hex) λNh Nm=>aB Z<|aK 1 Z<|wR Z Z<|bH 2 Z<|aN Z Z<|wy (gL ai ay qh Z (rdr 0 Z))<|bH 1 Z<|aN Z Z<|wy (gL ai ay qh Z (RdC.toI (h:=b) (rdr 7 Z) cG)) ?_;refine aN Z Z<|wy (Yl.t (YK Z Z (K▸o) o) (K.symm))<|bH 2 Z<|aN Z Z<|dZ en9 Z (λw a=>MU)<|aB Z<|RL<|⟨_,Z,?_⟩;rfl
 refine aB Z<|aA<|aK 1 Z<|wy (Yl.t (gD Z Z) cC)<|aJ<|bA Z<|aD Z<|RL<|⟨_,Z,?_⟩;rfl
end
end Go.Proofs.YtkfngcfpmilfiaaGreat

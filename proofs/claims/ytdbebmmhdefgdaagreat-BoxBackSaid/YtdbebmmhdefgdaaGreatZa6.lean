/- Own work. -/
import Derived.Lib.SmallJoins
import Derived.Deep.Matrix
import Derived.Test.YtdbebmmhdefgdaaGreatZa5
set_option linter.unusedVariables false
set_option linter.unusedSimpArgs false
set_option maxHeartbeats 8000000
namespace Go.Proofs.YtdbebmmhdefgdaaGreat
open Go Go.Eng Go.Pure
open Tryz
set_option maxRecDepth 100000
variable {ws:AD} {i e:Int} {w:World} {bl:AF} {cm bm:Nat} {ap:AG} {L TS:AH}
abbrev gD (ws:AD):Prop:= ∃w∈ws,w.length=0
theorem QR (h0:0<=i) (h1:i<ws.length) (h:((rdl ws i).length:Int)=0):gD ws:=⟨_,jB h0 h1,G⟩
theorem QQ (hi:(ws.length:Int)<=i) (h: ∀j:Int,0<=j->j<i->j<ws.length->0<(rdl ws j).length): ¬gD ws:=λ⟨w,hw,e⟩=>by
 obtain⟨k,hk,rfl⟩:=ic.1 hw;have:=h k G G G;unfold rdl at this;rw[bq,af,av hk] at this;simp at this;omega
theorem aZe {an:AF} {ar am:Nat} {u:AH} (al:Rd w an ar am 1 (ints .u8 u)):
  CF 198 #[sl an ar am] w (λv R'=>v= .bool (decide ((u.length:Int)=0))):=by
 obtain rfl:=al.lenI;refine fn1 Tryz.func198 Z Z Z ?_;have mv:=al.max;refine wq<|wn Z<|wq<|wm Z<|wy (aO ah Z)<|wy (gT Z Z)<|wn Z<|bT ?_;refine⟨_,Z,?_⟩;rfl
theorem aLm {w:World} (ba:Rd w bl cm bm 1 ap) (bp:SlW .u8 w ap ws):
  CF 114 #[sl bl cm bm, .func (.func 198) #[] #[]] w (λv R'=> ∃z:Int,v=I z/\(0<=z↔gD ws)):=by
 obtain rfl:cm=ws.length:=by have:=ba.len;have:=bp.1;omega
 refine fn1 Jl Z Z Z ?_;have ob:=ba.max;refine wq<|wn Z<|aD<|wq<|wm Z<|wy (aO ay Z)<|wm Z<|aA<|aI ?_;refine lF (λ(k:Int)=>[(0,sl bl ws.length bm),(1, .func (.func 198) #[] #[]),(7,I (ws.length:Int)),(8,I k)]) (λk=>[]) (λk=>(0<=k)/\(k<=ws.length)/\(∀j:Int,0<=j->j<k->j<ws.length->0<(rdl ws j).length)) (λk=>(ws.length-k).toNat) ?_ ?_
 ·exact⟨0,⟨G,G,(λj h1 h2=>G)⟩,KP⟩
 intro k ⟨ld,yr,cg⟩;refine wq<|wL Z Z<|aA<|aD<|bA Z (λbc=> ?_) (λbc=> ?_)
 ·refine aH<|aD<|aI<|wq<|wm Z<|wn Z<|wq<|wm Z<|wm Z<|wm Z<|wy (aG ay dP Z Z (ba.c _)) ?_;refine bp.elim (i:=k) G G (λcr co rm wi a7 xo=> ?_);refine wy (pI ah Z Z Z (ba.c _) rm)<|wa (zC bIw Z Z (Ct.quiet (λw hw=>aZe ((wi.c _) w hw)))) ?_;rintro _ _⟨rfl,rfl⟩;refine aA<|bA Z (λda=> ?_) (λda=> ?_)
  ·refine wq<|wm Z<|wn Z<|bT ?_;exact⟨_,Z,k,Z,⟨λ_=>QR ld G cF,λ_=>ld⟩⟩
  ·refine aH<|aJ<|wA Z Z<|wm Z<|aA ?_
   exact⟨k+1,⟨G,G,(λj h1 h2 h3=>by
     rcases bu j k with g|g
     ·exact cg j h1 g h3
     ·obtain rfl:j=k:=G
      omega)⟩,G,KP⟩
 ·refine aS<|wq<|wn Z<|bT ?_;exact⟨_,Z,-1,Z,⟨λh=>G,λh=>absurd h (QQ G cg)⟩⟩
theorem TW {w:World} (ba:Rd w bl cm bm 1 ap) (bp:SlW .u8 w ap ws):
  CF 68 #[sl bl cm bm, .func (.func 198) #[] #[]] w (λv R'=>v= .bool (decide (gD ws))):=by
 obtain rfl:cm=ws.length:=by have:=ba.len;have:=bp.1;omega
 refine fn1 Kl Z Z Z ?_;have ob:=ba.max;refine wq<|wn Z<|wq<|wm Z<|wm Z<|wa (aC aUi Z (Ct.quiet (λw hw=>aLm ((ba.c _) w hw) (bp.c hw)))) ?_;rintro _ _⟨rfl,z1,rfl,wk⟩;refine wy (jN Z Z)<|wn Z<|bT ?_;refine⟨_,Z,?_⟩;exact bg Value.bool (wh.2 wk)
theorem aDh {w:World} {ws:AD} (ba:Rd w bl cm bm 1 ap) (bp:SlW .u8 w ap ws) (hN:(∀w∈ws,w.length<=8000)/\ws.length<=100000):
  CF 125 #[sl bl cm bm] w (λv R'=> ∃(A A2:AF) (c c2:Nat) (L TS:AH) (e:Int),v= .tuple #[sl A L.length c,sl A2 TS.length c2,I e]/\ExtR ws L TS e/\R'=[(ru 5 A L.length c L),(ri 3 A2 TS.length c2 TS)]):=by
 obtain rfl:cm=ws.length:=by have:=ba.len;have:=bp.1;omega
 refine fn3 Tryz.func125 Z Z Z ?_;have ob:=ba.max;refine wq<|bR (R1:=((ru 5 none 0 0 ([]))::[])) (Sub.refl _) (λ_ h=>h.nil 5 1)<|wg Z<|bR (R1:=((ri 3 none 0 0 ([]))::(ru 5 none 0 0 ([]))::[])) (Sub.refl _) (λ_ h=>h.nil 3 1)<|wg Z<|wn Z<|wq<|wn Z<|aD<|wq ?_;refine wm Z<|wy (aO ay Z)<|wm Z<|aA<|aI ?_;refine dS (λ(i:Int) (z:Int)=>[(0,sl bl ws.length bm),(5,I z),(11,sl bl ws.length bm),(12,I (ws.length:Int)),(13,I i)]) (λi z=>((ri 3 none 0 0 ([]))::(ru 5 none 0 0 ([]))::[])) (λi z=>(0<=i)/\(i<=ws.length)/\(z=((ws.take i.toNat).flatten.length:Int))/\(0<=z/\z<=i*8000)) (λi z=>(ws.length-i).toNat) ?_ ?_
 ·exact⟨0,0,⟨G,G,(Z),G⟩,KP⟩
 intro i z ⟨bb,ij,hz,w7⟩;have j4:0<=i->i<ws.length->(rdl ws i).length<=8000:=λh h'=>hN.1 _ (jB h h');refine wq<|wL Z Z<|aA<|aD<|bA Z (λbc=> ?_) (λbc=> ?_)
 ·have Ve:=j4 bb G;refine aH<|aD<|aI<|wq<|wy (aG ay dP Z Z (ba.c _)) ?_;refine bp.elim (i:=i) G G (λcr co rm wi a7 xo=> ?_);refine wy (pI ah Z Z Z (ba.c _) rm)<|wn Z<|aJ<|wm Z<|wm Z<|wy (aO ah Z)<|wA Z Z<|wn Z<|aJ<|wA Z Z<|wm Z<|aA ?_;exact⟨i+1,z+(((rdl ws i).length:Nat):Int),⟨G,G,(by rw[gJ bb G,ai,hz];omega),G⟩,G,KP⟩
 ·obtain rfl:i=ws.length:=G
  rw[bq,qa] at hz;refine aS<|aD<|wq<|wm Z<|wy (aO ay Z)<|wy (dN Z Z)<|wm Z<|dD 3 [(0,sl bl ws.length bm),(28, .bool (decide ((1000<(ws.length:Int))\/(100000<z))))] ((ri 3 none 0 0 ([]))::(ru 5 none 0 0 ([]))::[]) ?_ ?_
  ·refine bP 25 Z (λda=> ?_) (λda=> ?_)
   ·refine aM Z Z Z Z<|aM Z Z Z Z<|wy (aQ Z Z)<|aA ?_;exact KP
   ·refine aB Z Z<|wm Z<|aB Z Z<|wy (dN Z Z)<|wy (aP Z Z)<|aA ?_;exact KP
  refine aA<|bA Z (λfk=> ?_) (λfk=> ?_)
  ·refine wq<|wg Z<|wg Z<|wn Z<|bN (R1:=[(ru 5 none 0 0 ([])),(ri 3 none 0 0 ([]))]) (λ_ h=>(h.selR (F:=[_,_]) (F':=[_,_]) [1,0] cC Z).left (X:=[_,_])) ?_;refine⟨_,_,_,Z,Z,Z,?_⟩;exact⟨_,_,_,_,[],[],2,Z, .inl ⟨Z,G,rfl,rfl⟩,rfl⟩
  ·refine aH<|aD<|wq<|wm Z<|wa (aC aMk Z (Ct.quiet (λw hw=>TW ((ba.c _) w hw) (bp.c hw)))) ?_;rintro _ _⟨rfl,rfl⟩;refine aA<|bA Z (λiu=> ?_) (λiu=> ?_)
   ·refine wq<|wg Z<|wg Z<|wn Z<|bN (R1:=[(ru 5 none 0 0 ([])),(ri 3 none 0 0 ([]))]) (λ_ h=>(h.selR (F:=[_,_]) (F':=[_,_]) [1,0] cC Z).left (X:=[_,_])) ?_;refine⟨_,_,_,Z,Z,Z,?_⟩;exact⟨_,_,_,_,[],[],1,Z, .inr (.inl ⟨G,rfl,iu,rfl,rfl⟩),rfl⟩
   ·refine aH<|wq<|wa (bQ .u8 [] ah zs5 Z Z Z) ?_;rintro _ _⟨gh,rfl,rfl⟩;refine wn Z<|aD<|wq<|wm Z<|wa (aC bCo Z (Ct.fresh (λw hw=>VE ((ba.c _) w hw) (bp.c hw) ⟨G,G⟩))) ?_;rintro _ _⟨_,rfl,lt,en,cj,rfl,w4,ff,rfl⟩;refine wy (aO qy Z)<|wm Z<|aA<|aI ?_;refine jK (λ(q:Int) (B1:AF) (m1:Nat) (d1:Nat) (acc:AH)=>[(0,sl bl ws.length bm),(2,sl B1 m1 d1),(33,sl en lt.length cj),(34,I (lt.length:Int)),(35,I q)]) (λq B1 m1 d1 acc=>(⟨230,2,en,lt.length,cj,prs lt,false⟩::(ru 5 B1 m1 d1 acc)::(ri 3 none 0 0 ([]))::(ru 5 none 0 0 ([]))::[])) (λq B1 m1 d1 acc=>(0<=q)/\(q<=lt.length)/\(m1=acc.length)/\(acc.length=q.toNat)/\(acc=(lt.take q.toNat).map (lastB ws))) (λq B1 m1 d1 acc=>(lt.length-q).toNat) ?_ ?_
    ·exact⟨0,GG gh,0,0,[],⟨G,G,(Z),(Z),(Z)⟩,KP⟩
    intro q B1 m1 d1 acc ⟨io,i8,nd,Yh,bh⟩;have ua:=IG w4;refine wq<|wL Z Z<|aA<|aD<|bA Z (λkt=> ?_) (λkt=> ?_)
    ·have ht:=uF.1 (w4.subset (kP (l:=lt) io G));have yi:=ht.2.2;have he0:=yw ((rdp lt q).2+(rdl ws (rdp lt q).1).length-1) (show((rdl ws (rdp lt q).1).length:Int)≠0 by omega);have he1:=vk ((rdp lt q).2+(rdl ws (rdp lt q).1).length-1) (show(0:Int)<(rdl ws (rdp lt q).1).length by omega);refine aH<|aD<|aI<|wq<|wy (tO qy lC Z Z (rdr 0 Z) Z)<|wy (aFa jw Z lC Z (rdr 0 Z))<|wa (eH (sz:=2) aEv Z) ?_;rintro _ _⟨n7,rfl,rfl⟩;refine bY (dO (vs:=[I ((rdp lt q).1),I ((rdp lt q).2)]) 0 Z lC Z Z Z (by intro v hv;simp at hv;rcases hv with rfl|rfl<;>rfl) Z) ?_;rintro _ _ rfl;refine aA<|wq<|wm Z<|wy (dE (q:=0) (rdr 0 Z) jw sz3 Z Z (ak Z) cC cC Z)<|wy (yL 0 au Z Z Z)<|wy (aG ay dP Z Z (ba.c _) (by first|exact ht.1|exact ht.2.1) (by first|exact ht.1|exact ht.2.1)) ?_;refine bp.elim (i:=(rdp lt q).1) (by first|exact ht.1|exact ht.2.1) (by first|exact ht.1|exact ht.2.1) (λge gg Va l3 hb_18 mhr_17=> ?_);refine wy (pI ah Z Z Z (ba.c _) Va)<|wn Z<|aJ<|wm Z<|wm Z<|wy (dE (q:=1) (rdr 0 Z) jw sz3 Z Z (ak Z) cC cC Z)<|wy (yL 0 au Z Z Z)<|wm Z<|wy (aO ah Z)<|wA Z Z<|wS Z Z<|wm Z<|wy (aO ah Z)<|wy (xZ Z Z) ?_;refine wy (aG ah sz5 Z Z (l3.c _))<|wy (aW dh Z Z (l3.c _))<|wa (bQ .u8 [rd (rdl ws ((rdp lt q).1)) (((((rdp lt q).2)+(((rdl ws ((rdp lt q).1)).length:Nat):Int))-1)%(((rdl ws ((rdp lt q).1)).length:Nat):Int))] ah zs5 Z Z Z) ?_;rintro _ _⟨Ln,rfl,rfl⟩;refine wa (aY 3 Z ah zb5 Z Z Z (rdr 0 Z)) ?_;rintro _ _⟨pf,pi,rfl,rfl⟩;refine bK (v:=sl pf (m1+1) pi) Z<|wn Z<|aJ<|wA Z Z<|wm Z<|aA ?_;exact⟨q+1,pf,m1+1,pi,acc++([rd (rdl ws ((rdp lt q).1)) (((((rdp lt q).2)+(((rdl ws ((rdp lt q).1)).length:Nat):Int))-1)%(((rdl ws ((rdp lt q).1)).length:Nat):Int))]),⟨G,G,(by rw[ai,nd];rfl),(by rw[ai,Yh,ii];omega),(by rw[VO io G,jc,bh];rfl)⟩,G,SA,λ_ h=>h.selR (F:=[_,_,_,_,_,_]) (F':=[_,_,_,_]) [2,3,4,5] cC Z⟩
    ·refine aS<|wq<|wm Z<|wa (aC bIv Z (Ct.fresh (λw hw=>aJz ((ba.c _) w hw) (bp.c hw) hN))) ?_;rintro _ _⟨_,rfl,va,vj,w9,Bm,l8,Sd,rfl,Qb,rfl⟩;have Ri:=Qb.1;refine bR (R1:=(⟨22,1,va,l8.length,vj,l8,false⟩::(ri 3 w9 (((iT ws).map Prod.snd).length) Bm ((iT ws).map Prod.snd))::⟨230,2,en,lt.length,cj,prs lt,false⟩::(ru 5 B1 m1 d1 acc)::(ri 3 none 0 0 ([]))::(ru 5 none 0 0 ([]))::Sd)) (Sub.refl _) (λ_ h=>Hp.toTail0 (X:=[_,_]) (Y:=[_,_,_,_]) h)<|wm Z<|wX Z Z<|wX Z Z<|wn Z<|wq<|wm Z<|wm Z<|wg Z<|wg Z<|wn Z<|bN (R1:=[(ru 5 B1 m1 d1 acc),(ri 3 w9 (((iT ws).map Prod.snd).length) Bm ((iT ws).map Prod.snd))]) (λ_ h=>(h.selR (F:=[_,_,_,_,_,_]) (F':=[_,_]) [3,1] cC Z).left (X:=[_,_])) ?_;refine⟨_,_,_,Z,Z,Z,?_⟩;rw[bi G] at bh;obtain rfl:=nd;exact⟨_,_,_,_,acc,_,0,Z, .inr (.inr ⟨G,rfl,λw hw=>Ha λe=>iu ⟨w,hw,e⟩,⟨lt,w4,ff,bh⟩,rfl⟩),rfl⟩
theorem _root_.Go.Pure.ExtR.bytes {ws:AD} (h:ExtR ws L TS e) (hb: ∀w∈ws,aL w):aL L:=by
 rcases h with⟨_,_,rfl,_⟩|⟨_,_,_,rfl,_⟩|⟨_,_,_,⟨T,hp,_,rfl⟩,_⟩
 ·exact aL.nil
 ·exact aL.nil
 ·exact lY hp λx hx=>by
   obtain⟨w,hw,h⟩:=uf.1 hx;exact hb w hw x h
theorem _root_.Go.Pure.ExtR.tlen (h:ExtR ws L TS e):TS.length<=ws.length:=by
 rcases h with⟨_,_,_,rfl⟩|⟨_,_,_,_,rfl⟩|⟨_,_,_,_,rfl⟩
 ·exact qh _
 ·exact qh _
 ·rw[az,(iE ws).length_eq];exact oM ws
theorem _root_.Go.Pure.ExtR.all {ws:AD} (h:ExtR ws L TS e) (he:e=0):TS.length=ws.length/\ ∀w∈ws,0<w.length:=by
 rcases h with⟨rfl,_⟩|⟨_,rfl,_⟩|⟨_,_,cg,_,rfl⟩
 ·omega
 ·omega
 ·refine ⟨?_,cg⟩;rw[az,(iE ws).length_eq];unfold cZ;rw[az,Ca.2 λw hw=>ko (cg w hw)]
end Go.Proofs.YtdbebmmhdefgdaaGreat
namespace Go.Pure
open Go Go.Eng
variable {ws:AD} {L TS:AH}
open Classical in
noncomputable def aTm (ws:AD):AH × AH:=if h: ∃p:AH × AH,ExtR ws p.1 p.2 0 then Classical.choose h else([],[])
theorem TR {ws:AD} (h:ExtR ws L TS 0) (hb: ∀w∈ws,aL w):aTm ws=(L,TS):=by
 have he: ∃p:AH × AH,ExtR ws p.1 p.2 0:=⟨(L,TS),h⟩;unfold aTm;rw[dif_pos he];obtain⟨_,h1,h2⟩:=h.one (Classical.choose_spec he) hb;exact Prod.ext h1 h2
noncomputable def nD (TS:AH):AH:=aU TS.length++(TS.map aU).flatten
theorem aAz {i:Int} (h0:0<=i) (h1:i<TS.length):((TS.take (i+1).toNat).map aU).flatten=((TS.take i.toNat).map aU).flatten++aU (rd TS i):=by
 rw[dF h0 h1,jc,lu];simp
noncomputable def fH (o:Int) (ws:AD):AH:=
 aU (canon ws).flatten.length++(nD (aTm ws).2++(aU (bX (aTm ws).1 o).length++(fM (bv (gP (canon ws).flatten))++bX (aTm ws).1 o)))
noncomputable def oQ (so o size:Int) (ws:AD):AH:=
 (([87,72,82,76]++[1,3,so,o])++aU size++(if ws=[] then [] else fH o ws))++(aU 0++aU (canon ws).flatten.length)
theorem eO (ws:AD):(canon ws).flatten.length=ws.flatten.length:=by
 have h1:((canon ws).map List.length).sum=((cZ ws).map λr=>(IW r).length).sum:=by
  unfold canon;rw[rq];exact((iE ws).map _).sum_nat
 rw[pq,pq,h1];unfold cZ;rw[rq];clear h1
 induction ws with
 |nil=>rfl
 | cons w ws ih=>
  by_cases h:0<w.length
  ·rw [ni (by simpa using h),jq,ug,jq,ug,ih];congr 1;show(IW (nJ w)).length=w.length;rw[OH h,jQ]
  ·rw [kg (by simpa using h),jq,ug,ih];omega
theorem aDg {ws:AD} (hp: ∀w∈ws,0<w.length) (h1:ws.length<=1000) (h2:ws.flatten.length<=100000): ∃L TS,ExtR ws L TS 0:=by
 obtain⟨T,h3,h4⟩:=yC ws;exact⟨T.map (lastB ws),_, .inr (.inr ⟨G,rfl,hp,⟨T,h3,h4,rfl⟩,rfl⟩)⟩
theorem sZ {TS:AH} (h:ExtR ws L TS 0): ∀t∈TS,0<t/\t<=ws.flatten.length:=by
 rcases h with⟨h,_⟩|⟨_,h,_⟩|⟨_,_,_,_,rfl⟩
 ·omega
 ·omega
 intro t ht;obtain⟨r,hr,rfl⟩:=gz.1 ht;have h2:=(iE ws).mem_iff.1 hr;unfold cZ at h2;obtain⟨w,hw,rfl⟩:=gz.1 h2;obtain⟨hw,hp⟩:=mr.1 hw;have hp:0<w.length:=by simpa using hp
 have hl:0<(lw w).length:=by rw[jQ];exact hp
 have h3:=pW hl;have h4:=ql (nz hw);refine⟨h3,?_⟩;show gF (lw w)<=_
 have h5:gF (lw w)<=(lw w).length:=by
  unfold gF;exact Es _ G
 rw[jQ] at h5;omega
theorem BS (h:ExtR ws L TS 0):L.length=ws.flatten.length:=by
 rcases h with⟨h,_⟩|⟨_,h,_⟩|⟨_,_,_,⟨T,hT,_,rfl⟩,_⟩
 ·omega
 ·omega
 ·rw[az,IG hT]
end Go.Pure
namespace Go.Eng
open Go Go.RowKit Go.Pure
section
variable {P:Program} {n:Nd} {B:Nat} {w0:World}
theorem aOj {σ0 σ1 σ2 σ3 σ4 σ5 σ6 σ7 σ8 σ9 σ10 σ11 σ12 σ13 σ14 σ15:Type} {c:Code} {Q:eZ} {L:Env} {R:List Row} (Lx:σ0->σ1->σ2->σ3->σ4->σ5->σ6->σ7->σ8->σ9->σ10->σ11->σ12->σ13->σ14->σ15->Env) (Rx:σ0->σ1->σ2->σ3->σ4->σ5->σ6->σ7->σ8->σ9->σ10->σ11->σ12->σ13->σ14->σ15->List Row) (J:σ0->σ1->σ2->σ3->σ4->σ5->σ6->σ7->σ8->σ9->σ10->σ11->σ12->σ13->σ14->σ15->Prop) (μ:σ0->σ1->σ2->σ3->σ4->σ5->σ6->σ7->σ8->σ9->σ10->σ11->σ12->σ13->σ14->σ15->Nat)
  (h0: ∃x0 x1 x2 x3 x4 x5 x6 x7 x8 x9 wt wv wx xa Lb Lc,J x0 x1 x2 x3 x4 x5 x6 x7 x8 x9 wt wv wx xa Lb Lc/\Sub (Lx x0 x1 x2 x3 x4 x5 x6 x7 x8 x9 wt wv wx xa Lb Lc) L/\ ∀w,Hp B w0 w R->Hp B w0 w (Rx x0 x1 x2 x3 x4 x5 x6 x7 x8 x9 wt wv wx xa Lb Lc))
  (round: ∀x0 x1 x2 x3 x4 x5 x6 x7 x8 x9 wt wv wx xa Lb Lc,J x0 x1 x2 x3 x4 x5 x6 x7 x8 x9 wt wv wx xa Lb Lc->W P n B w0 c {Q with nrm:=λL' R'=> ∃y0 y1 y2 y3 y4 y5 y6 y7 y8 y9 s9 t6 t7 t8 Rv Rw,J y0 y1 y2 y3 y4 y5 y6 y7 y8 y9 s9 t6 t7 t8 Rv Rw/\μ y0 y1 y2 y3 y4 y5 y6 y7 y8 y9 s9 t6 t7 t8 Rv Rw<μ x0 x1 x2 x3 x4 x5 x6 x7 x8 x9 wt wv wx xa Lb Lc/\Sub (Lx y0 y1 y2 y3 y4 y5 y6 y7 y8 y9 s9 t6 t7 t8 Rv Rw) L'/\ ∀w,Hp B w0 w R'->Hp B w0 w (Rx y0 y1 y2 y3 y4 y5 y6 y7 y8 y9 s9 t6 t7 t8 Rv Rw)} (Lx x0 x1 x2 x3 x4 x5 x6 x7 x8 x9 wt wv wx xa Lb Lc) (Rx x0 x1 x2 x3 x4 x5 x6 x7 x8 x9 wt wv wx xa Lb Lc)):W P n B w0 (.loop c) Q L R:=by
 obtain⟨x0,x1,x2,x3,x4,x5,x6,x7,x8,x9,wt,wv,wx,xa,Lb,Lc,h1,h2,h3⟩:=h0;refine oZ (σ:=σ0 × σ1 × σ2 × σ3 × σ4 × σ5 × σ6 × σ7 × σ8 × σ9 × σ10 × σ11 × σ12 × σ13 × σ14 × σ15) (λp=>Lx p.1 p.2.1 p.2.2.1 p.2.2.2.1 p.2.2.2.2.1 p.2.2.2.2.2.1 p.2.2.2.2.2.2.1 p.2.2.2.2.2.2.2.1 p.2.2.2.2.2.2.2.2.1 p.2.2.2.2.2.2.2.2.2.1 p.2.2.2.2.2.2.2.2.2.2.1 p.2.2.2.2.2.2.2.2.2.2.2.1 p.2.2.2.2.2.2.2.2.2.2.2.2.1 p.2.2.2.2.2.2.2.2.2.2.2.2.2.1 p.2.2.2.2.2.2.2.2.2.2.2.2.2.2.1 p.2.2.2.2.2.2.2.2.2.2.2.2.2.2.2) (λp=>Rx p.1 p.2.1 p.2.2.1 p.2.2.2.1 p.2.2.2.2.1 p.2.2.2.2.2.1 p.2.2.2.2.2.2.1 p.2.2.2.2.2.2.2.1 p.2.2.2.2.2.2.2.2.1 p.2.2.2.2.2.2.2.2.2.1 p.2.2.2.2.2.2.2.2.2.2.1 p.2.2.2.2.2.2.2.2.2.2.2.1 p.2.2.2.2.2.2.2.2.2.2.2.2.1 p.2.2.2.2.2.2.2.2.2.2.2.2.2.1 p.2.2.2.2.2.2.2.2.2.2.2.2.2.2.1 p.2.2.2.2.2.2.2.2.2.2.2.2.2.2.2) (λp=>J p.1 p.2.1 p.2.2.1 p.2.2.2.1 p.2.2.2.2.1 p.2.2.2.2.2.1 p.2.2.2.2.2.2.1 p.2.2.2.2.2.2.2.1 p.2.2.2.2.2.2.2.2.1 p.2.2.2.2.2.2.2.2.2.1 p.2.2.2.2.2.2.2.2.2.2.1 p.2.2.2.2.2.2.2.2.2.2.2.1 p.2.2.2.2.2.2.2.2.2.2.2.2.1 p.2.2.2.2.2.2.2.2.2.2.2.2.2.1 p.2.2.2.2.2.2.2.2.2.2.2.2.2.2.1 p.2.2.2.2.2.2.2.2.2.2.2.2.2.2.2) (λp=>μ p.1 p.2.1 p.2.2.1 p.2.2.2.1 p.2.2.2.2.1 p.2.2.2.2.2.1 p.2.2.2.2.2.2.1 p.2.2.2.2.2.2.2.1 p.2.2.2.2.2.2.2.2.1 p.2.2.2.2.2.2.2.2.2.1 p.2.2.2.2.2.2.2.2.2.2.1 p.2.2.2.2.2.2.2.2.2.2.2.1 p.2.2.2.2.2.2.2.2.2.2.2.2.1 p.2.2.2.2.2.2.2.2.2.2.2.2.2.1 p.2.2.2.2.2.2.2.2.2.2.2.2.2.2.1 p.2.2.2.2.2.2.2.2.2.2.2.2.2.2.2) ⟨(x0,x1,x2,x3,x4,x5,x6,x7,x8,x9,wt,wv,wx,xa,Lb,Lc),h1,h2,h3⟩ λp hp=>iC (round p.1 p.2.1 p.2.2.1 p.2.2.2.1 p.2.2.2.2.1 p.2.2.2.2.2.1 p.2.2.2.2.2.2.1 p.2.2.2.2.2.2.2.1 p.2.2.2.2.2.2.2.2.1 p.2.2.2.2.2.2.2.2.2.1 p.2.2.2.2.2.2.2.2.2.2.1 p.2.2.2.2.2.2.2.2.2.2.2.1 p.2.2.2.2.2.2.2.2.2.2.2.2.1 p.2.2.2.2.2.2.2.2.2.2.2.2.2.1 p.2.2.2.2.2.2.2.2.2.2.2.2.2.2.1 p.2.2.2.2.2.2.2.2.2.2.2.2.2.2.2 hp) ?_ (λ_ _ h=>h) (λ_ _ _ h=>h);rintro L' R' ⟨y0,y1,y2,y3,y4,y5,y6,y7,y8,y9,s9,t6,t7,t8,Rv,Rw,g1,g2,g3,g4⟩;exact⟨(y0,y1,y2,y3,y4,y5,y6,y7,y8,y9,s9,t6,t7,t8,Rv,Rw),⟨g1,g2⟩,g3,g4⟩
def encS (r:RC):Value:= .slice r.A r.root.length r.c
theorem SlR.toRg {Rs:List Row} {vals:AG} {ls:AD} (h:SlR .u8 Rs vals ls) (hb: ∀l∈ls,aL l): ∃lr:List RC,vals=lr.map encS/\lr.map RC.root=ls/\RgR Rs lr:=by
 obtain⟨hl,h⟩:=h
 induction ls generalizing vals with
 |nil=>exact⟨[],by simpa using hl,rfl,RgR.nil _⟩
 | cons l ls ih=>
  rcases vals with _|⟨v,vals⟩
  ·simp at hl
  obtain⟨A,c,h1,h2⟩:=h 0 cD
  obtain⟨lr,e1,e2,e3⟩:=ih (vals:=vals) (λq hq=>hb q (.tail _ hq)) (by simpa using hl) (λj hj=>by
   obtain⟨A,c,h1,h2⟩:=h (j+1) cG
   exact⟨A,c,by simpa using h1,by simpa using h2⟩)
  simp only[List.getElem?_cons_zero,lv,List.getD_cons_zero] at h1 h2;refine⟨⟨A,c,l,0⟩::lr,by rw[h1,e1];rfl,by rw[<-e2];rfl,λr hr=> ?_⟩;rcases iw.1 hr with rfl|hr
  ·exact⟨hb _ (.head _),h2⟩
  ·exact e3 r hr
theorem RgR.toSl {Rs:List Row} {lr:List RC} (h:RgR Rs lr):SlR .u8 Rs (lr.map encS) (lr.map RC.root):=by
 refine⟨cD,λj hj=> ?_⟩;rw[az] at hj;refine⟨lr[j].A,lr[j].c,?_,?_⟩
 ·rw [kv,av hj,af,kv,av hj];rfl
 ·rw [af,kv,av hj];exact(h _ (ky hj)).2
theorem encS_one (x:RC):(encS x).oneCell'=true:=rfl
theorem aUu:Go.Sort.SWO (Go.Proofs.ltOf λx y:RC=>cmpL x.root y.root):=by
 have e: ∀x y:RC,Go.Proofs.ltOf (λx y:RC=>cmpL x.root y.root) x y=true↔cmpL x.root y.root<0:=λx y=>by simp[Go.Proofs.ltOf]
 have e': ∀x y:RC,Go.Proofs.ltOf (λx y:RC=>cmpL x.root y.root) x y=false↔cmpL y.root x.root<=0:=λx y=>by
  rw[<-Bool.not_eq_true,e,kS x.root y.root];omega
 refine⟨λx=> ?_,λx y z h1 h2=> ?_,λx y z h1 h2=> ?_⟩
 ·rw[e',(cmpL_eq x.root x.root).2 rfl];omega
 ·rw [e] at h1 h2 ⊢;have h3:=IC x.root y.root z.root G G;rcases Aj h3 with g|g
  ·exact g
  ·have g2:=(cmpL_eq _ _).1 g;rw[g2,kS y.root z.root] at h1;omega
 ·rw [e'] at h1 h2 ⊢;exact IC _ _ _ h2 h1
theorem aUv {a b:AD} (hp:a.Perm b) (ha:a.Pairwise λx y=>cmpL x y<=0) (hb:b.Pairwise λx y=>cmpL x y<=0):a=b:=
 hp.eq_of_pairwise (λx y _ _ h1 h2=>(cmpL_eq x y).1 (by rw[kS x y] at h2;omega)) ha hb
end
end Go.Eng
namespace Go.Eng
open Go Go.RowKit
section
variable {P:Program} {n:Nd} {B:Nat} {w0:World} {ops:Array Oper} {K:Env->List Row->Prop} {L:Env} {R R1:List Row}
theorem RY {aq:Nat} {ab:AI} (h: ∀w,Hp B w0 w R↔Hp B w0 w R1) (k:WD P n B w0 ops K aq ab L R1):WD P n B w0 ops K aq ab L R:=by
 intro a w Q hs hp ju hq;have e:(λw=>Hp B w0 w R)=(λw=>Hp B w0 w R1):=funext λw=>propext (h w);rw[e];exact k a w Q hs ((h w).1 hp) ju hq
theorem Hp.toTailI {w:World} {X Rs Y T:List Row}:Hp B w0 w ((X++Rs)++(Y++T))↔Hp B w0 w (X++(Y++(Rs++T))):=by
 have hp:((X++Rs)++(Y++T)).Perm (X++(Y++(Rs++T))):=by
  rw[ek];refine xk X ?_;rw[<-ek,<-ek];exact Dp T rf
 exact⟨λh=>h.perm hp,λh=>h.perm hp.symm⟩
theorem Hp.toTailI0 {w:World} {X Rs Y:List Row}:Hp B w0 w ((X++Rs)++Y)↔Hp B w0 w (X++(Y++Rs)):=by
 have hp:((X++Rs)++Y).Perm (X++(Y++Rs)):=by
  rw[ek];exact xk X rf
 exact⟨λh=>h.perm hp,λh=>h.perm hp.symm⟩
end
end Go.Eng
namespace Go.Proofs.YtdbebmmhdefgdaaGreat
open Go Go.Eng Go.Pure
open Tryz
set_option maxRecDepth 100000
variable {w:World} {bl Au jx:AF} {cm bm cu pm jz:Nat} {ap:AG} {ws:AD} {so od sz:Int} {TS acc:AH}
theorem aMn {an:AF} {ar am:Nat} {u:AH} (al:Rd w an ar am 1 (ints .u8 u)):
  CF 67 #[sl an ar am] w (λv R'=>v= .bool (decide ((u.length:Int)=0))):=by
 obtain rfl:=al.lenI;refine fn1 Tryz.func67 Z Z Z ?_;have mv:=al.max;refine wq<|wn Z<|wq<|wm Z<|wy (aO ah Z)<|wy (gT Z Z)<|wn Z<|bT ?_;refine⟨_,Z,?_⟩;rfl
theorem aLn {w:World} (ba:Rd w bl cm bm 1 ap) (bp:SlW .u8 w ap ws):
  CF 114 #[sl bl cm bm, .func (.func 67) #[] #[]] w (λv R'=> ∃z:Int,v=I z/\(0<=z↔gD ws)):=by
 obtain rfl:cm=ws.length:=by have:=ba.len;have:=bp.1;omega
 refine fn1 Jl Z Z Z ?_;have ob:=ba.max;refine wq<|wn Z<|aD<|wq<|wm Z<|wy (aO ay Z)<|wm Z<|aA<|aI ?_;refine lF (λ(k:Int)=>[(0,sl bl ws.length bm),(1, .func (.func 67) #[] #[]),(7,I (ws.length:Int)),(8,I k)]) (λk=>[]) (λk=>(0<=k)/\(k<=ws.length)/\(∀j:Int,0<=j->j<k->j<ws.length->0<(rdl ws j).length)) (λk=>(ws.length-k).toNat) ?_ ?_
 ·exact⟨0,⟨G,G,(λj h1 h2=>G)⟩,KP⟩
 intro k ⟨ld,yr,cg⟩;refine wq<|wL Z Z<|aA<|aD<|bA Z (λbc=> ?_) (λbc=> ?_)
 ·refine aH<|aD<|aI<|wq<|wm Z<|wn Z<|wq<|wm Z<|wm Z<|wm Z<|wy (aG ay dP Z Z (ba.c _)) ?_;refine bp.elim (i:=k) G G (λcr co rm wi a7 xo=> ?_);refine wy (pI ah Z Z Z (ba.c _) rm)<|wa (zC bKu Z Z (Ct.quiet (λw hw=>aMn ((wi.c _) w hw)))) ?_;rintro _ _⟨rfl,rfl⟩;refine aA<|bA Z (λda=> ?_) (λda=> ?_)
  ·refine wq<|wm Z<|wn Z<|bT ?_;exact⟨_,Z,k,Z,⟨λ_=>QR ld G cF,λ_=>ld⟩⟩
  ·refine aH<|aJ<|wA Z Z<|wm Z<|aA ?_
   exact⟨k+1,⟨G,G,(λj h1 h2 h3=>by
     rcases bu j k with g|g
     ·exact cg j h1 g h3
     ·obtain rfl:j=k:=G
      omega)⟩,G,KP⟩
 ·refine aS<|wq<|wn Z<|bT ?_;exact⟨_,Z,-1,Z,⟨λh=>G,λh=>absurd h (QQ G cg)⟩⟩
theorem BZ {w:World} (ba:Rd w bl cm bm 1 ap) (bp:SlW .u8 w ap ws):
  CF 68 #[sl bl cm bm, .func (.func 67) #[] #[]] w (λv R'=>v= .bool (decide (gD ws))):=by
 obtain rfl:cm=ws.length:=by have:=ba.len;have:=bp.1;omega
 refine fn1 Kl Z Z Z ?_;have ob:=ba.max;refine wq<|wn Z<|wq<|wm Z<|wm Z<|wa (aC aUi Z (Ct.quiet (λw hw=>aLn ((ba.c _) w hw) (bp.c hw)))) ?_;rintro _ _⟨rfl,z1,rfl,wk⟩;refine wy (jN Z Z)<|wn Z<|bT ?_;refine⟨_,Z,?_⟩;exact bg Value.bool (wh.2 wk)
theorem bDl {k:IntKind} {W w':World} {R:List Row} {vals:AG} {ls:AD} (h:SlW k w vals ls) (hb:RowKit.Below w.heap.size w W) (hw:Hp w.heap.size W w' R):SlW k w' vals ls:=
 ⟨h.1,λj hj=>let ⟨A,c,h1,h2,h3⟩:=h.2 j hj;⟨A,c,h1,(h2.cb hb R) _ hw,h3⟩⟩
theorem aRx (ba:Rd w bl cm bm 1 ap) (bp:SlW .u8 w ap ws) (hp:(0<=so/\so<=2)/\(od=0\/od=1)/\(1<=sz/\sz<=16777216)) (cg: ¬gD ws) (hN:ws.flatten.length<=400/\ws.length<=400):
  CF 36 #[.agg #[sl Au 0 cu,sl bl ws.length bm], .agg #[I 3,I so,I od,I sz]] w (λv R'=>v=I 0):=by
 obtain rfl:cm=ws.length:=by have:=ba.len;have:=bp.1;omega
 refine fn1 Fz Z Z Z ?_;have ob:=ba.max;refine wq<|wa (dC (sz:=2) Z Z) ?_;rintro _ _⟨ao,rfl,rfl⟩;refine wa (dC (sz:=4) Z Z) ?_;rintro _ _⟨ew,rfl,rfl⟩;refine wn Z<|wq<|wn Z<|wq<|wy (yF 0 0 bz sz3 Z)<|wy (yL 0 au Z Z Z)<|wR Z Z<|wn Z<|aD<|aD ?_;refine aJ<|wy (bM (vs:=[I 3,I so,I od,I sz]) (rdr 0 Z) bz Z eF Z Z (ak Z) Z)<|wa (aC aMm Z (wJ G hp)) ?_;rintro _ _⟨rfl,rfl⟩;refine wy (dH Z)<|wm Z<|aB Z Z<|wm Z<|aB Z Z<|wy (dH Z)<|aB Z Z<|wm Z<|aM Z Z Z Z<|aM Z Z Z Z<|aM Z Z Z Z<|aM Z Z Z Z<|aB Z Z<|wy (aP Z Z)<|wy (aP Z Z) ?_;refine wm Z<|aB Z Z<|wm Z<|aB Z Z<|wm Z<|aB Z Z<|wy (yF 0 0 ed dP Z)<|aB Z Z<|wy (yL 1 ah Z Z Z)<|aB Z Z<|wy (aO ah Z)<|aB Z Z<|wy (Yl.f (dN Z Z) cC)<|aB Z Z<|wy (aQ Z Z) ?_;refine wy (aP Z Z)<|wm Z<|aB Z Z<|wy (yF 1 1 ed kL Z)<|aB Z Z<|wy (yL 1 ay Z Z Z)<|aB Z Z<|wm Z<|aB Z Z<|wa (aC aMk Z (Ct.quiet (λw hw=>BZ ((ba.c _) w hw) (bp.c hw)))) ?_;rintro _ _⟨rfl,rfl⟩;refine wZ 36 Z (cg)<|wy (aP Z Z)<|aA<|aN Z<|aH<|aD<|aD<|bL mixed<|wD 0 Z (yF 0 0 ed dP Z)<|wD 1 Z (yL 1 ah Z Z Z)<|wD 2 Z (aO ah Z)<|wD 3 Z (yF 1 1 ed kL Z)<|wD 4 Z (yL 1 ay Z Z Z)<|wC 5 Z (aC xX Z (Ct.fresh (λw hw=>gQ ((ba.c _) w hw) (bp.c hw) ⟨G,G⟩))) ?_;rintro _ _⟨_,rfl,fz,mj,rfl,rfl⟩;refine⟨.inr hrZ,?_⟩;refine wD 6 Z (aO ah Z)<|wD 7 Z (dK Z Z)<|wD 8 Z (Yl.f (dN Z Z))<|wD 9 Z (aK Z)<|wG 10 Z Z Z (yF 1 1 ed kL Z)<|wG 11 Z Z Z (yL 2 ay Z Z Z)<|wG 12 Z Z Z (aO ay Z)<|wG 13 Z Z Z (Yl.f (dN Z Z))<|wD 14 Z (aP Z Z)<|wN<|aN Z<|aH<|wq<|wg Z ?_;refine aA<|aX [] 99 cC Z ?_;refine⟨_,Z,?_⟩;rfl
theorem aTk {L:AH} {e:Int} (hx:ExtR ws L TS e) (cg: ¬gD ws) (h1:ws.length<=1000) (h2:ws.flatten.length<=100000):e=0:=by
 rcases hx with⟨_,h,_⟩|⟨_,_,h,_⟩|⟨_,h,_⟩
 ·omega
 ·exact absurd h cg
 ·exact h
theorem aAr (ba:Rd w bl cm bm 1 ap) (bp:SlW .u8 w ap ws) (cg: ¬gD ws) (hN:ws.flatten.length<=400/\ws.length<=400):
  CF 74 #[sl jx pm jz,sl bl cm bm, .agg #[I 3,I so,I od,I sz]] w (λv R'=> ∃(L TS:AH) (A1:AF) (c1:Nat) (A2:AF) (c2:Nat),v= .tuple #[sl A1 (nD TS).length c1,sl A2 L.length c2]/\(ExtR ws L TS 0/\(nD TS).length<=1203)/\R'=[(ru 5 A1 ((nD TS).length) c1 (nD TS)),(ru 5 A2 L.length c2 L)]):=by
 obtain rfl:cm=ws.length:=by have:=ba.len;have:=bp.1;omega
 refine fn2 Ig Z Z Z ?_;have ob:=ba.max;refine wq<|wa (dC (sz:=4) Z Z) ?_;rintro _ _⟨ao,rfl,rfl⟩;refine wg Z<|wn Z<|aD<|wq<|wy (yF 0 0 bz sz3 Z)<|wy (yL 0 au Z Z Z)<|aA<|aI<|wq<|wQ Z Z<|wn Z ?_;refine aN Z<|wq<|wQ Z Z<|wn Z<|aN Z<|wq<|wR Z Z<|wn Z<|dI Z<|wq ?_;refine wm Z<|wa (aC bJm Z (Ct.fresh (λw hw=>aDh ((ba.c _) w hw) (bp.c hw) ⟨λw hw=>by have:=ql (nz hw);omega,G⟩))) ?_;rintro _ _⟨_,rfl,fg,fz,fi,mj,L1,vf,e1,rfl,s8,rfl⟩;obtain rfl:=aTk s8 cg G G;have Mx:=s8.tlen;have yi:=sZ s8;have ua:=BS s8;have w4:=dA 2 (vf.length:Int) G;refine wm Z<|wX Z Z<|wX Z Z<|wX Z Z<|wg Z<|wg Z<|wn Z<|wq<|wm Z<|wy (aO aa Z)<|wa (aC wE Z (Ct.fresh (λw hw=>gH G))) ?_;rintro _ _⟨_,rfl,en,cj,rfl,rfl⟩;refine wn Z<|aD<|wq<|wm Z<|wy (aO aa Z)<|wm Z<|aA<|aI ?_;refine jK (λ(i:Int) (A1:AF) (n1:Nat) (c1:Nat) (acc:AH)=>[(6,sl A1 n1 c1),(15,sl fg L1.length fi),(61,sl fz vf.length mj),(62,I (vf.length:Int)),(63,I i)]) (λi A1 n1 c1 acc=>[(ru 5 A1 n1 c1 acc),(ru 5 fg L1.length fi L1),(ri 3 fz vf.length mj vf),(rc 27 4 ao [I 3,I so,I od,I sz])]) (λi A1 n1 c1 acc=>(0<=i)/\(i<=vf.length)/\(n1=acc.length)/\(acc=aU (vf.length:Int)++((vf.take i.toNat).map aU).flatten)/\((acc.length:Int)<=3+i*3)) (λi A1 n1 c1 acc=>(vf.length-i).toNat) ?_ ?_
 ·exact⟨0,en,(aU (vf.length:Int)).length,cj,aU (vf.length:Int),⟨G,G,(Z),cD,G⟩,KP⟩
 intro i A1 n1 c1 acc ⟨bb,ij,dp,bh,sp⟩;refine wq<|wL Z Z<|aA<|aD<|bA Z (λbc=> ?_) (λbc=> ?_)
 ·have ht0:=yi _ (bF (L:=vf) (k:=i) bb G);have sm:=dA 2 (rd vf i) G;refine aH<|aD<|aI<|wq<|wy (aG aa sz3 Z Z (rdr 2 Z))<|wy (aW au Z Z (rdr 2 Z))<|wn Z<|aJ<|wm Z<|wm Z<|wa (aC wE Z (Ct.fresh (λw hw=>gH G))) ?_;rintro _ _⟨_,rfl,gd,ce,rfl,rfl⟩;refine wa (aY 1 Z ah zb5 Z Z Z (rdr 0 Z)) ?_;rintro _ _⟨ge,gg,rfl,rfl⟩;refine bK (v:=sl ge (n1+((aU (rd vf i)).length)) gg) Z<|wn Z<|aJ<|wA Z Z<|wm Z<|aA ?_;exact⟨i+1,ge,n1+((aU (rd vf i)).length),gg,acc++(aU (rd vf i)),⟨G,G,(by rw[ai,dp]),(by rw[aAz bb G,<-ek,<-bh]),(by rw[ai];omega)⟩,G,SA,λ_ h=>h.sel [1,2,3,4] cC Z⟩
 ·refine aS<|wq<|wm Z<|wm Z<|wg Z<|wn Z<|aX [0,1] 99 cC Z ?_;refine⟨_,_,Z,Z,?_⟩;rw[bi G] at bh;have e:acc=nD vf:=by rw[bh];rfl
  subst dp;rw[e] at sp ⊢;exact⟨L1,vf,_,_,_,_,Z,⟨s8,G⟩,rfl⟩
theorem EX {TS:AH} (h: ∀t∈TS,0<t):aL (nD TS):=by
 intro x hx;rcases fo.1 hx with hx|hx
 ·exact bZ G x hx
 ·obtain ⟨l,hl,hx⟩:=uf.1 hx;obtain⟨t,ht,rfl⟩:=gz.1 hl;exact bZ (by have:=h t ht;omega) x hx
theorem aNj {b:AH} (gv:Rd w jx pm jz 1 (ints .u8 b)) (ba:Rd w bl cm bm 1 ap) (bp:SlW .u8 w ap ws) (hb:b=(canon ws).flatten) (dd:aL b) (hp:(0<=so/\so<=2)/\(od=0\/od=1)/\(1<=sz/\sz<=16777216)) (cg: ¬gD ws) (hN:ws.flatten.length<=400/\ws.length<=400):
  CF 41 #[sl jx pm jz,sl bl cm bm, .agg #[I 3,I so,I od,I sz]] w (λv R'=> ∃A c,v=sl A (fH od ws).length c/\R'=[(ru 5 A ((fH od ws).length) c (fH od ws))]):=by
 obtain rfl:=gv.lenI;obtain rfl:cm=ws.length:=by have:=ba.len;have:=bp.1;omega
 refine fn1 Ie Z Z Z ?_;have Kz:=gv.max;have ob:=ba.max;have b5:=bg List.length hb;have Yt:=eO ws;have v7:=dA 2 (b.length:Int) G;refine wq<|wa (dC (sz:=4) Z Z) ?_;rintro _ _⟨ao,rfl,rfl⟩;refine wn Z<|wq<|wm Z<|wm Z<|wy (bM (vs:=[I 3,I so,I od,I sz]) (rdr 0 Z) bz Z eF Z Z (ak Z) Z)<|wa (aC aZu Z (Ct.fresh (λw hw=>aAr ((ba.c _) w hw) (bp.c hw) cg hN))) ?_;rintro _ _⟨_,rfl,L1,vf,fg,fi,fz,mj,rfl,⟨s8,Wn⟩,rfl⟩;have Pb:=s8.bytes (λw hw=>((bp.okB) w hw).1);have ua:=BS s8;have Ky:=lV (b:=L1) (o:=od) Pb;have ki:=eO ws;have wb:=dA 2 ((canon ws).flatten.length:Int) G;have yv:=dA 2 ((bX L1 od).length:Int) G;refine wm Z<|wX Z Z<|wX Z Z<|wg Z<|wn Z<|wq<|wm Z<|wy (yF 2 2 bz sz3 Z)<|wy (yL 2 au Z Z Z)<|wa (aC aTu Z (Ct.fresh (λw hw=>sM ((rdr 1 Z) w hw) Pb hp.2.1 G))) ?_;rintro _ _⟨_,rfl,en,cj,rfl,rfl⟩;refine wm Z<|wX Z Z<|wX Z Z<|wg Z<|wn Z<|wq<|wm Z<|wy (aO ah Z)<|wa (aC wE Z (Ct.fresh (λw hw=>gH G))) ?_;rintro _ _⟨_,rfl,qq,dj,rfl,rfl⟩;refine wm Z<|wm Z<|wy (aO ah Z)<|wa (aC wE Z (Ct.fresh (λw hw=>gH G))) ?_;rintro _ _⟨_,rfl,oe,ot,rfl,rfl⟩;refine wa (aC YM Z (Ct.fresh (λw hw=>mD))) ?_;rintro _ _⟨_,rfl,Sj,rfl,rfl⟩;refine wm Z<|wa (iA [Value.slice jx b.length jz] ay mJ Z Z Z Z) ?_;rintro _ _⟨Ln,rfl,rfl⟩;refine wa (aC YL Z (Ct.at 1 Z (lZ (ls:=[b]) (.inl ⟨Z,Z,cz ..,G⟩) (rdr 0 rfl) rfl (wV.one (l:=b) (gv.c _) dd (by first|rfl|simp|(simp[upd];done))) (Big.one (by first|omega|decide|simp))))) ?_;rintro _ _⟨rfl,rfl⟩;refine wa (aC aZt Z (Ct.fresh (λw hw=>BO ⟨by unfold bv;omega,by unfold bv;have:=(gP ([b]).flatten).isLt;omega⟩))) ?_;rintro _ _⟨_,rfl,pf,pi,rfl,rfl⟩;refine wm Z<|wa (iA [Value.slice qq ((aU (b.length:Int)).length) dj,Value.slice fg ((nD vf).length) fi,Value.slice oe ((aU (((bX L1 od).length:Nat):Int)).length) ot,Value.slice pf 4 pi,Value.slice en ((bX L1 od).length) cj] ay mJ Z Z Z Z) ?_;rintro _ _⟨vn,rfl,rfl⟩;refine wa (aC xX Z (Ct.fresh (λw hw=>gQ ((rdr 0 Z) w hw) ((((((eB _ _).snoc ((rdr 5 Z) w hw) (λx hx=>dQ ((bZ G) x hx)) G).snoc ((rdr 7 Z) w hw) (λx hx=>dQ ((EX (λt ht=>(sZ s8 t ht).1)) x hx)) G).snoc ((rdr 4 Z) w hw) (λx hx=>dQ ((bZ G) x hx)) G).snoc ((rdr 1 Z) w hw) (λx hx=>dQ ((gZ _) x hx)) (by show(4:Nat)<=_;decide)).snoc ((rdr 6 Z) w hw) (λx hx=>dQ ((fK _ _) x hx)) G) ⟨by simp only[pq,ig,ja,ny,jq,qo,ug,Gm,jg];have h4:(fM (bv (gP ([b]).flatten))).length=4:=rfl;omega,cD⟩))) ?_;rintro _ _⟨_,rfl,pn,pr,rfl,rfl⟩;refine wn Z<|aX [0] 99 cC Z ?_;refine⟨_,Z,?_⟩
 have e:([aU (b.length:Int),nD vf,aU (((bX L1 od).length:Nat):Int),fM (bv (gP ([b]).flatten)),bX L1 od]).flatten=fH od ws:=by
  subst hb;unfold fH;rw[TR s8 (λw hw=>((bp.okB) w hw).1)];simp
 rw[<-e];exact⟨_,_,Z,Z⟩
theorem aMf (h:acc=(([87,72,82,76]++[1,3%256,so%256,od%256])++aU sz)++(List.replicate (chN (canon ws).flatten.length (100000:Int).toNat) (fH od ws)).flatten) (hs:0<=so/\so<=2) (ho:od=0\/od=1) (cg: ¬gD ws) (hN:ws.flatten.length<=400):
  ([]++[acc]++[aU 0]++[aU (((canon ws).flatten.length:Nat):Int)]:AD).flatten=oQ so od sz ws:=by
 have e:(List.replicate (chN (canon ws).flatten.length (100000:Int).toNat) (fH od ws)).flatten=if ws=[] then [] else fH od ws:=by
  rw[eO];by_cases hw:ws=[]
  ·subst hw;rfl
  ·rw [df hw]
   have h0:0<ws.flatten.length:=by
    cases ws with
    |nil=>exact absurd rfl hw
    |cons w l=>
     have:w.length≠0:=λe=>cg ⟨w, .head _,e⟩;rw[mh,ai];omega
   have:chN ws.flatten.length (100000:Int).toNat=1:=by
    show(ws.flatten.length+100000-1)/100000=1;omega
   rw[this];simp
 rw[h,e,qj (a:=so) G G,qj (a:=od) G G];unfold oQ;simp
theorem rC {ws:AD} (hb: ∀w∈ws,aL w) (cg: ¬gD ws) (hx: ∃L TS,ExtR ws L TS 0) (hN:ws.flatten.length<=400/\ws.length<=400):(fH od ws).length<=3000/\aL (fH od ws):=by
 obtain⟨L,TS,hx⟩:=hx;have Pb:=hx.bytes hb;have ua:=BS hx;have Mx:=hx.tlen;have Ky:=lV (b:=L) (o:=od) Pb;have ki:=eO ws;have wb:=dA 2 ((canon ws).flatten.length:Int) G;have yv:=dA 2 ((bX L od).length:Int) G;have hl4:=dA 2 (TS.length:Int) G;have h4:(fM (bv (gP (canon ws).flatten))).length=4:=rfl
 have hm:(TS.map aU).flatten.length<=3*TS.length:=by
  have yi:=sZ hx;clear hl4 Mx hx
  induction TS with
  |nil=>simp
  |cons t l ih=>
   have h1:=yi t (.head _);have h2:=dA 2 t G;have h3:=ih λt ht=>yi t (.tail _ ht);rw[jq,mh,ai,dm];omega
 unfold fH nD;rw[TR hx hb];refine⟨by simp only[ai];omega,λx yk=> ?_⟩;simp only[fo] at yk;rcases yk with h|(h|h)|h|h|h
 ·exact bZ G x h
 ·exact bZ G x h
 ·exact EX (λt ht=>(sZ hx t ht).1) x (fo.2 (.inr h))
 ·exact bZ G x h
 ·exact gZ _ x h
 ·exact fK _ _ x h
theorem aDk {ws:AD} {k:Nat} (h:acc=(([87,72,82,76]++[1,3%256,so%256,od%256])++aU sz)++(List.replicate k (fH od ws)).flatten) (hs:0<=so/\so<=2) (ho:od=0\/od=1) (hb: ∀w∈ws,aL w) (cg: ¬gD ws) (hx: ∃L TS,ExtR ws L TS 0) (hN:ws.flatten.length<=400/\ws.length<=400) (hz:0<=sz):aL acc:=by
 rw[h];intro x yk;rcases fo.1 yk with yk|yk
 ·rcases fo.1 yk with yk|yk
  ·simp only[ja,ig,iw,uq,Hq] at yk;omega
  ·exact bZ hz x yk
 ·obtain ⟨l,hl,yk⟩:=uf.1 yk;rw[Ce hl] at yk;exact(rC hb cg hx hN).2 x yk
theorem YK {ws:AD} (h:acc=(([87,72,82,76]++[1,3%256,so%256,od%256])++aU sz)++(List.replicate (chN (canon ws).flatten.length (100000:Int).toNat) (fH od ws)).flatten) (hb: ∀w∈ws,aL w) (cg: ¬gD ws) (hx: ∃L TS,ExtR ws L TS 0) (hN:ws.flatten.length<=400/\ws.length<=400) (h1:1<=sz) (h2:sz<=16777216):acc.length<=3100:=by
 have e1:=(rC (od:=od) hb cg hx hN).1;have e4:=dA 4 sz G
 have e2:chN (canon ws).flatten.length (100000:Int).toNat<=1:=by
  rw[eO];show(ws.flatten.length+100000-1)/100000<=1;omega
 have e5:=bg List.length h;rw[ai,ai,ai] at e5;have e6:([87,72,82,76]:AH).length=4:=rfl;have e7:([1,3%256,so%256,od%256]:AH).length=4:=rfl
 have e8:(List.replicate (chN (canon ws).flatten.length (100000:Int).toNat) (fH od ws)).flatten.length<=3000:=by
  rcases Nat.le_one_iff_eq_zero_or_eq_one.1 e2 with e|e
  ·rw[e];simp
  ·rw[e];simpa using e1
 omega
theorem aHk (ba:Rd w bl cm bm 1 ap) (bp:SlW .u8 w ap ws) (hp:(0<=so/\so<=2)/\(od=0\/od=1)/\(1<=sz/\sz<=16777216)) (cg: ¬gD ws) (hN:ws.flatten.length<=400/\ws.length<=400) (hex: ∃L TS,ExtR ws L TS 0):
  CF 16 #[.agg #[sl Au 0 cu,sl bl ws.length bm], .agg #[I 3,I so,I od,I sz]] w (λv R'=> ∃A c,v= .tuple #[sl A (oQ so od sz ws).length c,I 0]/\R'=[(ru 5 A ((oQ so od sz ws).length) c (oQ so od sz ws))]):=by
 obtain rfl:cm=ws.length:=by have:=ba.len;have:=bp.1;omega
 refine fnV Ki Z Z ?_;have ob:=ba.max;have o3: ∀w∈ws,aL w:=λw hw=>((bp.okB) w hw).1;have hpz:=dA 4 sz G;have ki:=eO ws;have Lh:aL (canon ws).flatten:=λx hx=>by obtain⟨l,hl,hx⟩:=uf.1 hx;exact(qZ (bp.okB) l hl).1 x hx
 have hpu:=dA 2 ((canon ws).flatten.length:Int) G;refine dL ?_;refine aJ<|wa (dC (sz:=2) Z Z) ?_;rintro _ _⟨ao,rfl,rfl⟩;refine fA (R1:=((rc 25 2 ao [sl Au 0 cu,sl bl ws.length bm])::[])) Z<|wa (dC (sz:=4) Z Z) ?_;rintro _ _⟨db,rfl,rfl⟩;refine fA (R1:=((rc 27 4 db [I 3,I so,I od,I sz])::(rc 25 2 ao [sl Au 0 cu,sl bl ws.length bm])::[])) Z<|wg Z<|wn Z ?_;refine dL ?_;refine wq<|wy (bM (vs:=[sl Au 0 cu,sl bl ws.length bm]) (rdr 1 Z) ed Z kK Z Z (ak Z) Z)<|wy (bM (vs:=[I 3,I so,I od,I sz]) (rdr 0 Z) bz Z eF Z Z (ak Z) Z)<|wa (aC bFa Z (Ct.quiet (λw hw=>aRx ((ba.c _) w hw) (bp.c hw) hp cg hN))) ?_;rintro _ _⟨rfl,rfl⟩;refine wn Z<|wq<|wm Z<|wy (Yl.f (iI Z Z) cC)<|aA<|aN Z<|aH ?_;refine dL ?_;refine aJ<|wa (bQ .u8 [87,72,82,76] ah zs5 Z Z Z) ?_;rintro _ _⟨ef,rfl,rfl⟩;refine wa (aWb 0 Z Z ah dh Z Z) ?_;rintro _ _⟨rfl,rfl⟩;refine fA (R1:=(⟨5,1,(GG ef),4,4,ints .u8 ([87,72,82,76]),true⟩::(rc 27 4 db [I 3,I so,I od,I sz])::(rc 25 2 ao [sl Au 0 cu,sl bl ws.length bm])::[])) Z<|wy (yF 0 0 bz sz3 Z)<|wy (yL 1 au Z Z Z)<|wy (gU au dh Z)<|wy (yF 1 1 bz sz3 Z)<|wy (yL 1 au Z Z Z)<|wy (gU au dh Z)<|wy (yF 2 2 bz sz3 Z)<|wy (yL 1 au Z Z Z)<|wy (gU au dh Z)<|wa (bQ .u8 [1,3%256,so%256,od%256] ah zs5 Z Z Z) ?_;rintro _ _⟨fd,rfl,rfl⟩;refine wa (FT ah zb5 Z (rdr 1 Z) Z (rdr 0 Z) (by first|decide|(dsimp only;decide)) (by first|decide|(dsimp only;decide)) (by first|decide|(dsimp only;decide)) (by first|decide|(dsimp only;decide)) (by first|decide|(dsimp only;decide)) Z) ?_;rintro _ _⟨gh,ee,rfl,rfl⟩;refine fA (R1:=((ru 5 (GG gh) 8 ee (([87,72,82,76])++([1,3%256,so%256,od%256])))::(ru 5 (GG fd) 4 4 ([1,3%256,so%256,od%256]))::⟨5,1,(GG ef),4,4,ints .u8 ([87,72,82,76]),true⟩::(rc 27 4 db [I 3,I so,I od,I sz])::(rc 25 2 ao [sl Au 0 cu,sl bl ws.length bm])::[])) Z<|bK (v:=sl (GG gh) 8 ee) Z<|wa (eH (sz:=1) aWi Z) ?_;rintro _ _⟨li,rfl,rfl⟩;refine fA (R1:=((rc 22 1 li [sl none 0 0])::(ru 5 (GG gh) 8 ee (([87,72,82,76])++([1,3%256,so%256,od%256])))::(ru 5 (GG fd) 4 4 ([1,3%256,so%256,od%256]))::⟨5,1,(GG ef),4,4,ints .u8 ([87,72,82,76]),true⟩::(rc 27 4 db [I 3,I so,I od,I sz])::(rc 25 2 ao [sl Au 0 cu,sl bl ws.length bm])::[])) Z<|bY (aZ 0 Z Z Z dP Z Z Z Z (ak Z)) ?_;rintro _ _ rfl;refine fA (R1:=((rc 22 1 li [sl (GG gh) 8 ee])::(ru 5 (GG gh) 8 ee (([87,72,82,76])++([1,3%256,so%256,od%256])))::(ru 5 (GG fd) 4 4 ([1,3%256,so%256,od%256]))::⟨5,1,(GG ef),4,4,ints .u8 ([87,72,82,76]),true⟩::(rc 27 4 db [I 3,I so,I od,I sz])::(rc 25 2 ao [sl Au 0 cu,sl bl ws.length bm])::[])) Z<|aA ?_;refine dL ?_;refine bL mixed<|wD 0 Z (yL 0 ah Z Z Z)<|wD 1 Z (yF 3 3 bz sz3 Z)<|wD 2 Z (yL 4 au Z Z Z)<|wC 3 Z (aC wE Z (Ct.fresh (λw hw=>gH G))) ?_;rintro _ _⟨_,rfl,br,bw,rfl,rfl⟩;refine⟨.inr hrZ,?_⟩;refine wC 4 Z (aY 2 Z ah zb5 Z Z Z (rdr 0 Z) cH) ?_;rintro _ _⟨fa,fb,rfl,rfl⟩;refine⟨.inl cA,?_⟩;refine mK (R1:=((ru 5 br ((aU sz).length) bw (aU sz))::(rc 22 1 li [sl (GG gh) 8 ee])::(ru 5 fa (8+((aU sz).length)) fb ((([87,72,82,76])++([1,3%256,so%256,od%256]))++(aU sz)))::(ru 5 (GG fd) 4 4 ([1,3%256,so%256,od%256]))::⟨5,1,(GG ef),4,4,ints .u8 ([87,72,82,76]),true⟩::(rc 27 4 db [I 3,I so,I od,I sz])::(rc 25 2 ao [sl Au 0 cu,sl bl ws.length bm])::[])) Z<|jS (v:=sl fa (8+((aU sz).length)) fb) Z<|qG 5 Z cA (aZ 1 Z Z Z dP Z Z Z Z (ak Z)) ?_;rintro _ _ rfl;refine⟨.inl cA,?_⟩;refine mK (R1:=((ru 5 br ((aU sz).length) bw (aU sz))::(rc 22 1 li [sl fa (8+((aU sz).length)) fb])::(ru 5 fa (8+((aU sz).length)) fb ((([87,72,82,76])++([1,3%256,so%256,od%256]))++(aU sz)))::(ru 5 (GG fd) 4 4 ([1,3%256,so%256,od%256]))::⟨5,1,(GG ef),4,4,ints .u8 ([87,72,82,76]),true⟩::(rc 27 4 db [I 3,I so,I od,I sz])::(rc 25 2 ao [sl Au 0 cu,sl bl ws.length bm])::[])) Z<|wN ?_;refine dL ?_;refine bL mixed<|wD 0 Z (yF 0 0 ed dP Z)<|wD 1 Z (yL 6 ah Z Z Z)<|wD 2 Z (yF 1 1 ed kL Z)<|wD 3 Z (yL 6 ay Z Z Z)<|wC 4 Z (aC bHf Z (Ct.fresh (λw hw=>RB ((ba.c _) w hw) (bp.c hw) (⟨λw hw=>by have:=ql (nz hw);omega,G⟩)))) ?_;rintro _ _⟨_,rfl,oe,ot,md,j6,rfl,If,rfl⟩;refine⟨.inr λ_ h=>h.right,?_⟩;have Rh:=If.1;refine RY (R1:=(⟨22,1,oe,md.length,ot,md,false⟩::(ru 5 br ((aU sz).length) bw (aU sz))::(rc 22 1 li [sl fa (8+((aU sz).length)) fb])::(ru 5 fa (8+((aU sz).length)) fb ((([87,72,82,76])++([1,3%256,so%256,od%256]))++(aU sz)))::(ru 5 (GG fd) 4 4 ([1,3%256,so%256,od%256]))::⟨5,1,(GG ef),4,4,ints .u8 ([87,72,82,76]),true⟩::(rc 27 4 db [I 3,I so,I od,I sz])::(rc 25 2 ao [sl Au 0 cu,sl bl ws.length bm])::j6)) (λ_=>Hp.toTailI0 (X:=[_]) (Y:=[_,_,_,_,_,_,_]))<|wC 5 Z (aC xX Z (Ct.fresh (λw hw=>gQ ((rdr 0 Z) w hw) (If.slw (qZ bp.okB) (Hp.right (R':=[_,_,_,_,_,_,_,_]) hw)) ⟨G,by have:=xR ws;omega⟩))) ?_;rintro _ _⟨_,rfl,kb,kc,rfl,rfl⟩;refine⟨.inr hrZ,?_⟩;refine wC 6 Z (iA [Value.slice Au 0 cu,Value.slice kb ((((canon ws)).flatten).length) kc] ay mJ Z Z Z Z) ?_;rintro _ _⟨zp,rfl,rfl⟩;refine⟨.inr hrZ,?_⟩;refine wC 7 Z (aC xX Z (Ct.fresh (λw hw=>qX (u:=(canon ws).flatten) ((rdr 0 Z) w hw) (((eB _ _).snoc (qN w hw) (λx hx=>dQ ((show aL [] from λ_ h=>nomatch h) x hx)) cC).snoc ((rdr 1 Z) w hw) (λx hx=>dQ (Lh x hx)) G) ⟨by rw[show([]++[[]]++[(canon ws).flatten]:AD).flatten=(canon ws).flatten from by simp];omega,cD⟩ cD))) ?_;rintro _ _⟨_,rfl,js,jt,rfl,rfl⟩;refine⟨.inr hrZ,?_⟩;refine wD 8 Z (bB Z)<|wN ?_;refine dL ?_;refine aJ<|wy (yF 3 3 bz sz3 Z)<|wy (yL 9 au Z Z Z)<|wn Z ?_;refine dL ?_;refine wq<|wy (yF 0 0 bz sz3 Z)<|wy (yL 9 au Z Z Z)<|wR Z Z<|aA<|dI Z<|aJ<|wn Z ?_;refine ES ?_;refine dL ?_;refine aJ<|wm Z<|wm Z<|wa (aC bHe Z (Ct.fresh (λw hw=>MQ ((rdr 0 Z) w hw) G))) ?_;rintro _ _⟨_,rfl,zr,Ou,rfl,rfl⟩;refine aA ?_;refine rJ ?_;refine zM Z bHa (FP (A:=js) (c:=jt) (zs:=(canon ws).flatten) (sz:=100000) G G G) Z (λ_=>Z) Gd.refl (λ(kr:Nat) (A1:AF) (n1:Nat) (c1:Nat) (acc:AH)=>((rc 22 1 zr [sl js (((canon ws).flatten).length) jt])::(rc 3 1 Ou [I 100000])::(ru 5 js (((canon ws).flatten).length) jt ((canon ws).flatten))::⟨22,1,(GG zp),2,2,[Value.slice Au 0 cu,Value.slice kb ((((canon ws)).flatten).length) kc],false⟩::(ru 5 kb ((((canon ws)).flatten).length) kc (((canon ws)).flatten))::⟨22,1,oe,md.length,ot,md,false⟩::(ru 5 br ((aU sz).length) bw (aU sz))::(rc 22 1 li [sl A1 n1 c1])::(ru 5 A1 n1 c1 acc)::(ru 5 (GG fd) 4 4 ([1,3%256,so%256,od%256]))::⟨5,1,(GG ef),4,4,ints .u8 ([87,72,82,76]),true⟩::(rc 27 4 db [I 3,I so,I od,I sz])::(rc 25 2 ao [sl Au 0 cu,sl bl ws.length bm])::j6)) (λkr A1 n1 c1 acc=>(n1=acc.length)/\(acc=(([87,72,82,76]++[1,3%256,so%256,od%256])++aU sz)++(List.replicate kr (fH od ws)).flatten)) ?_ ?_ ?_ ?_
 ·exact⟨fa,8+((aU sz).length),fb,(([87,72,82,76])++([1,3%256,so%256,od%256]))++(aU sz),⟨(by rw[ai];rfl),(by rw[Gj];simp)⟩,λ_ h=>h⟩
 ·intro kr A1 n1 c1 acc w ⟨dp,bh⟩ hw;exact⟨(rdr 0 Z) w hw,(rdr 1 Z) w hw,(rdr 2 Z) w hw⟩
 ·intro lr kr A1 n1 c1 acc Vt Kw ⟨dp,bh⟩ i7;have Nx:kr*(100000:Int).toNat<(canon ws).flatten.length:=(TZ cC).1 cF;have ld:kr=0:=by have:kr*100000<(canon ws).flatten.length:=Nx;omega
  have wd:(((canon ws).flatten.drop (kr*(100000:Int).toNat)).take (100000:Int).toNat)=(canon ws).flatten:=by rw[ld,Dz,List.drop_zero,bi (by show _<=100000;omega)]
  have sp:=bg List.length bh;rw[ld,Gj,ai,ai,ai] at sp;have h8:([87,72,82,76]:AH).length=4:=rfl;have h9:([1,3%256,so%256,od%256]:AH).length=4:=rfl;have h7:([]:AD).flatten.length=0:=rfl;refine aJ<|wn Z ?_;intro On tx;refine aI<|bL mixed<|wD 0 Z (yL 7 ah Z Z Z)<|wD 1 Z (aK Z)<|wD 2 Z (yF 1 1 ed kL Z)<|wD 3 Z (yL 12 ay Z Z Z)<|wD 4 Z (bM (vs:=[I 3,I so,I od,I sz]) (rdr 11 Z) bz Z eF Z Z (ak Z) Z)<|wC 5 Z (aC bHd Z (Ct.fresh (λw hw=>aNj (b:=((canon ws).flatten.drop (kr*(100000:Int).toNat)).take (100000:Int).toNat) ((PP (l:=kr*(100000:Int).toNat) (n:=(100000:Int).toNat) (rdr 2 Z) cH) w hw) ((ba.cb tx _) w hw) (bDl bp tx hw) wd (by rw[wd];exact Lh) hp cg hN))) ?_;rintro _ _⟨_,rfl,rx,sd,rfl,rfl⟩;have ur:=(rC (od:=od) o3 cg hex hN).1;refine⟨.inr hrZ,?_⟩;refine wC 6 Z (aY 9 Z ah zb5 Z Z Z (rdr 0 Z)) ?_;rintro _ _⟨tc,th,rfl,rfl⟩;refine⟨.inl cA,?_⟩;refine mK (R1:=((ru 5 rx ((fH od ws).length) sd (fH od ws))::(rc 22 1 zr [sl js (((canon ws).flatten).length) jt])::(rc 3 1 Ou [I 100000])::(ru 5 js (((canon ws).flatten).length) jt ((canon ws).flatten))::⟨22,1,(GG zp),2,2,[Value.slice Au 0 cu,Value.slice kb ((((canon ws)).flatten).length) kc],false⟩::(ru 5 kb ((((canon ws)).flatten).length) kc (((canon ws)).flatten))::⟨22,1,oe,md.length,ot,md,false⟩::(ru 5 br ((aU sz).length) bw (aU sz))::(rc 22 1 li [sl A1 n1 c1])::(ru 5 tc (n1+((fH od ws).length)) th (acc++(fH od ws)))::(ru 5 (GG fd) 4 4 ([1,3%256,so%256,od%256]))::⟨5,1,(GG ef),4,4,ints .u8 ([87,72,82,76]),true⟩::(rc 27 4 db [I 3,I so,I od,I sz])::(rc 25 2 ao [sl Au 0 cu,sl bl ws.length bm])::j6)) Z<|jS (v:=sl tc (n1+((fH od ws).length)) th) Z<|qG 7 Z cA (aZ 8 Z Z Z dP Z Z Z Z (ak Z)) ?_;rintro _ _ rfl;refine⟨.inl cA,?_⟩;refine mK (R1:=((ru 5 rx ((fH od ws).length) sd (fH od ws))::(rc 22 1 zr [sl js (((canon ws).flatten).length) jt])::(rc 3 1 Ou [I 100000])::(ru 5 js (((canon ws).flatten).length) jt ((canon ws).flatten))::⟨22,1,(GG zp),2,2,[Value.slice Au 0 cu,Value.slice kb ((((canon ws)).flatten).length) kc],false⟩::(ru 5 kb ((((canon ws)).flatten).length) kc (((canon ws)).flatten))::⟨22,1,oe,md.length,ot,md,false⟩::(ru 5 br ((aU sz).length) bw (aU sz))::(rc 22 1 li [sl tc (n1+((fH od ws).length)) th])::(ru 5 tc (n1+((fH od ws).length)) th (acc++(fH od ws)))::(ru 5 (GG fd) 4 4 ([1,3%256,so%256,od%256]))::⟨5,1,(GG ef),4,4,ints .u8 ([87,72,82,76]),true⟩::(rc 27 4 db [I 3,I so,I od,I sz])::(rc 25 2 ao [sl Au 0 cu,sl bl ws.length bm])::j6)) Z<|wN ?_;exact⟨tc,n1+((fH od ws).length),th,acc++(fH od ws),⟨(by rw[ai,dp]),(by rw[Fw,lu,<-ek,<-bh];simp)⟩,λ_=>λ_ h=>h.selR (F:=[_,_,_,_,_,_,_,_,_,_,_,_,_,_]) (F':=[_,_,_,_,_,_,_,_,_,_,_,_,_]) [1,2,3,4,5,6,7,8,9,10,11,12,13] cC Z⟩
 intro Oo Xe A1 n1 c1 acc ⟨dp,bh⟩ Eq tk;refine IV ?_;refine VC ?_;refine v_w ?_;refine aD<|bL mixed<|wD 0 Z (yL 7 ah Z Z Z)<|wD 2 Z (aK Z)<|wD 3 Z (aO ah Z)<|wC 1 Z (aC wE Z (Ct.fresh (λw hw=>gH cC))) ?_;rintro _ _⟨_,rfl,Ol,Oq,rfl,rfl⟩;refine⟨.inr hrZ,?_⟩;refine wC 4 Z (aC wE Z (Ct.fresh (λw hw=>gH G))) ?_;rintro _ _⟨_,rfl,Ld,Lj,rfl,rfl⟩;refine⟨.inr hrZ,?_⟩;refine wC 5 Z (iA [Value.slice A1 n1 c1,Value.slice Ol ((aU 0).length) Oq,Value.slice Ld ((aU ((((canon ws).flatten).length:Nat):Int)).length) Lj] ay mJ Z Z Z Z) ?_;rintro _ _⟨g_39,rfl,rfl⟩;refine⟨.inr hrZ,?_⟩;refine wC 6 Z (aC xX Z (Ct.fresh (λw hw=>qX (u:=(oQ so od sz ws)) ((rdr 0 Z) w hw) ((((eB _ _).snoc ((rdr 11 Z) w hw) (λx hx=>dQ ((aDk bh hp.1 hp.2.1 o3 cg hex hN G) x hx)) (by have:=YK bh o3 cg hex hN G G;omega)).snoc ((rdr 2 Z) w hw) (λx hx=>dQ ((bZ G) x hx)) cC).snoc ((rdr 1 Z) w hw) (λx hx=>dQ ((bZ G) x hx)) G) ⟨by rw[show([]++[acc]++[aU 0]++[aU (((canon ws).flatten.length:Nat):Int)]:AD).flatten=acc++(aU 0++aU (((canon ws).flatten.length:Nat):Int)) from by simp,ai,ai];have:=YK bh o3 cg hex hN G G;have h0:(aU 0).length=1:=rfl;omega,cD⟩ (aMf bh hp.1 hp.2.1 cg hN.1)))) ?_;rintro _ _⟨_,rfl,Xb,Xi,rfl,rfl⟩;refine⟨.inr hrZ,?_⟩;refine wD 7 Z (bB Z)<|wD 8 Z (bB Z)<|wN<|bN (R1:=[(ru 5 Xb (((oQ so od sz ws)).length) Xi (oQ so od sz ws))]) (λ_ h=>(h.selR (F:=[_,_,_,_,_,_,_,_,_,_,_,_,_,_,_,_,_]) (F':=[_]) [0] cC Z).left (X:=[_])) ?_;refine aLx Z tk ⟨_,_,Z,Z,?_⟩;exact⟨_,_,Z,Z⟩
variable {ls all jn:AD} {i n kf:Int} {u last tm:AH} {w:World} {an:AF} {ar am:Nat}
theorem aJg (cb:Array Value):aWe Tryz.prog 303 120 cb:=λα _ enc h1 cf hO du off cap d w rh hH hblk hsz=>
 Any.slices_SortFunc Tryz.laysRow enc h1 cf hO 120 cb du off cap d w bCs rh hH hblk hsz
theorem aBf:xU Tryz.prog 303:=λp cap fv w=>AnyF.slices_SortFunc_none {Tryz.laysRow with} p cap fv w
theorem aBq {l:AH} {cs:AD} {acc:AH} (h0:0<=i) (h1:i<cs.length) (h:ls=(cs.take i.toNat).map (dR l)) (ha:acc=[]++((rdl cs i).reverse.take (rdl cs i).length).map (rd l)):ls++[acc]=(cs.take (i+1).toNat).map (dR l):=by
 rw[bAa (dR l) h0 h1,<-h,ha,ig,bi (by rw[lh];omega)];rfl
theorem aOg (h:aL u) (hN:u.length<=1000000:=by omega):OkB ((bU (fsL u)).map (dR u)):=λl hl=>by
 obtain⟨c,hc,rfl⟩:=gz.1 hl;refine⟨λx hx=>by obtain⟨y,hy,rfl⟩:=gz.1 hx;exact h.rd y,?_⟩;have Mi:=LV h;have h1:=ql (nz hc);have h2:=ME Mi;have h3:=pR u;rw[kJ];omega
theorem YE (al:Rd w an ar am 1 (ints .u8 u)) (ac:aL u) (hN:u.length<=1000000):
  CF 275 #[sl an ar am] w (λv R'=> ∃(A:AF) (c:Nat) (vals:AG) (Rs:List Row),v=sl A vals.length c/\SlR .u8 Rs vals (((bU (fsL u)).map (dR u)))/\R'=⟨22,1,A,vals.length,c,vals,false⟩::Rs):=by
 obtain rfl:=al.lenI;refine fnV Tryz.func275 Z Z ?_;have mv:=al.max;have Mi:=LV ac;have qu:=pR u;have Yt:=ME Mi;have Ys:=EG (p:=fsL u);refine dL ?_;refine aJ<|wa (dC (sz:=1) Z Z) ?_;rintro _ _⟨ao,rfl,rfl⟩;refine fA (R1:=((rc 22 1 ao [sl an u.length am])::[])) Z<|bR (R1:=(⟨22,1,none,0,0,[],false⟩::(rc 22 1 ao [sl an u.length am])::[])) (Sub.refl _) (λ_ h=>h.nil 22 1)<|wn Z ?_;refine dL ?_;refine aJ<|wy (yL 1 ah Z Z Z)<|wa (aC bCm Z (Ct.fresh (λw hw=>aGr ((al.c _) w hw) ac hN))) ?_;rintro _ _⟨_,rfl,fg,fi,rfl,rfl⟩;refine wa (aC bCn Z (Ct.fresh (λw hw=>QS ((rdr 0 Z) w hw) Mi G))) ?_;rintro _ _⟨_,rfl,fh,kh,aw,g7,rfl,mu,rfl⟩;have r8:=mu.1;refine bR (R1:=(⟨52,1,fh,aw.length,kh,aw,false⟩::(ri 3 fg ((fsL u).length) fi (fsL u))::⟨22,1,none,0,0,[],false⟩::(rc 22 1 ao [sl an u.length am])::g7)) (Sub.refl _) (λ_ h=>Hp.toTail0 (X:=[_]) (Y:=[_,_,_]) h)<|wm Z<|wX Z Z<|wX Z Z<|wg Z<|wn Z ?_;refine dL ?_;refine aJ<|bR (R1:=(⟨22,1,none,0,0,[],false⟩::⟨52,1,fh,aw.length,kh,aw,false⟩::(ri 3 fg ((fsL u).length) fi (fsL u))::⟨22,1,none,0,0,[],false⟩::(rc 22 1 ao [sl an u.length am])::g7)) (Sub.refl _) (λ_ h=>h.nil 22 1)<|wn Z ?_;refine ES ?_;refine dL ?_;refine aJ<|wm Z<|wy (aO Fe Z)<|wm Z<|aA ?_;refine rJ ?_;refine aWn (λ(i:Int) (A1:AF) (n1:Nat) (c1:Nat) (vals:AG) (ls:AD) (Rs:List Row)=>[(1,PG ao),(5,sl A1 n1 c1),(17,sl fh aw.length kh),(18,I (aw.length:Int)),(19,I i)]) (λi A1 n1 c1 vals ls Rs=>(⟨22,1,A1,n1,c1,vals,false⟩::⟨52,1,fh,aw.length,kh,aw,false⟩::(ri 3 fg ((fsL u).length) fi (fsL u))::⟨22,1,none,0,0,[],false⟩::(rc 22 1 ao [sl an u.length am])::Rs)) (λi A1 n1 c1 vals ls Rs=>(0<=i)/\(i<=aw.length)/\(n1=vals.length)/\(SlR .u8 Rs vals ls)/\(SlR .i64 Rs aw (bU (fsL u)))/\(ls=((bU (fsL u)).take i.toNat).map (dR u))) (λi A1 n1 c1 vals ls Rs=>(aw.length-i).toNat) ?_ Gd.refl ?_
 ·exact⟨0,none,0,0,[],[],g7,⟨G,G,(Z),(SlR.nilR _ _),(mu),(Z)⟩,KP⟩
 intro i A1 n1 c1 vals ls Rs dsW1 Vt ⟨bb,ij,dp,ka,o6,yy⟩ i7 Sn;have ki:=o6.1;have Od:=ka.1;have ua:=bg List.length yy;rw[az,ax] at ua;have Yv:0<=i->i<(bU (fsL u)).length->rdl (bU (fsL u)) i∈bU (fsL u):=λh h'=>aHu h h';refine dL ?_;refine aJ<|wL Z Z<|aA ?_;refine dL ?_;refine bA Z (λda=> ?_) (λda=> ?_)
 ·refine aH ?_;refine ES ?_;refine rJ ?_;refine dL ?_;refine aJ<|wy (aG Fe iL Z Z (rdr 1 Z)) ?_;obtain⟨gd,ce,Uz,Hn⟩:=o6.at (i:=i) G G;refine wy (pI aa Z Z Z (rdr 1 Z) Uz)<|wn Z ?_;refine dL ?_;refine aJ<|wa (eH (sz:=1) aWi Z) ?_;rintro _ _⟨se,rfl,rfl⟩;refine bR (R1:=((ru 5 none 0 0 ([]))::(rc 22 1 se [sl none 0 0])::⟨22,1,A1,n1,c1,vals,false⟩::⟨52,1,fh,aw.length,kh,aw,false⟩::(ri 3 fg ((fsL u).length) fi (fsL u))::⟨22,1,none,0,0,[],false⟩::(rc 22 1 ao [sl an u.length am])::Rs)) (Sub.refl _) (λ_ h=>h.nil 5 1)<|aA ?_;refine ES ?_;refine dL ?_;refine aJ<|wm Z<|wa (aC aUd Z (FR)) ?_;rintro _ _⟨tj,rfl,rfl⟩;refine aA ?_;refine rJ ?_;have pt:=Yv bb G;have Yu:(rdl (bU (fsL u)) i).length<=u.length:=by have:=ql (nz pt);omega
  refine zM Z aTz (zB (A:=gd) (c:=ce) (zs:=rdl (bU (fsL u)) i) G) Z (λ_=>Z) Sn (λ(kr:Nat) (A2:AF) (n2:Nat) (c2:Nat) (acc:AH)=>((rc 52 1 tj [sl gd ((rdl (bU (fsL u)) i).length) ce])::(ru 5 A2 n2 c2 acc)::(rc 22 1 se [sl A2 n2 c2])::⟨22,1,A1,n1,c1,vals,false⟩::⟨52,1,fh,aw.length,kh,aw,false⟩::(ri 3 fg ((fsL u).length) fi (fsL u))::⟨22,1,none,0,0,[],false⟩::(rc 22 1 ao [sl an u.length am])::Rs)) (λkr A2 n2 c2 acc=>(n2=acc.length)/\(acc=[]++((rdl (bU (fsL u)) i).reverse.take kr).map (rd u))) ?_ ?_ ?_ ?_
  ·exact⟨none,0,0,[],⟨(Z),(by rw[zg];rfl)⟩,λ_ h=>h⟩
  ·intro kr A2 n2 c2 acc w ⟨nw,bh⟩ hw;exact⟨(rdr 0 Z) w hw,(λ_ h=>Hn _ _ _ (h.right (R':=[_,_,_,_,_,_,_,_]))) w hw⟩
  ·intro lr kr A2 n2 c2 acc WW3 Kw ⟨nw,bh⟩ hbW3;have sg:=TU Mi _ pt _ (bF (L:=rdl (bU (fsL u)) i) (k:=(((rdl (bU (fsL u)) i).length-1-kr:Nat):Int)) G G);have Mb:acc.length<=(rdl (bU (fsL u)) i).length:=by rw[bh,ig,az,ax,lh];omega
   refine aJ<|wn Z ?_;intro WW33 Nl;refine aI<|bL mixed<|wD 0 Z (yL 2 ah Z Z Z)<|wD 1 Z (yL 7 ah Z Z Z)<|wD 2 Z (aK Z)<|wD 3 Z (aG ah sz5 Z Z (al.cb (i7.trans Nl) _))<|wD 4 Z (aW dh Z Z (al.cb (i7.trans Nl) _))<|wC 5 Z (bQ .u8 [rd u (rd (rdl (bU (fsL u)) i) (((rdl (bU (fsL u)) i).length-1-kr:Nat):Int))] ah zs5 Z Z Z) ?_;rintro _ _⟨sf,rfl,rfl⟩;refine⟨.inr hrZ,?_⟩;refine wC 6 Z (aY 2 Z ah zb5 Z Z Z (rdr 0 Z)) ?_;rintro _ _⟨kb,kc,rfl,rfl⟩;refine⟨.inl cA,?_⟩;refine mK (R1:=((ru 5 (GG sf) 1 1 ([rd u (rd (rdl (bU (fsL u)) i) (((rdl (bU (fsL u)) i).length-1-kr:Nat):Int))]))::(rc 52 1 tj [sl gd ((rdl (bU (fsL u)) i).length) ce])::(ru 5 kb (n2+1) kc (acc++([rd u (rd (rdl (bU (fsL u)) i) (((rdl (bU (fsL u)) i).length-1-kr:Nat):Int))])))::(rc 22 1 se [sl A2 n2 c2])::⟨22,1,A1,n1,c1,vals,false⟩::⟨52,1,fh,aw.length,kh,aw,false⟩::(ri 3 fg ((fsL u).length) fi (fsL u))::⟨22,1,none,0,0,[],false⟩::(rc 22 1 ao [sl an u.length am])::Rs)) Z<|jS (v:=sl kb (n2+1) kc) Z<|qG 7 Z cA (aZ 3 Z Z Z dP Z Z Z Z (ak Z)) ?_;rintro _ _ rfl;refine⟨.inl cA,?_⟩;refine mK (R1:=((ru 5 (GG sf) 1 1 ([rd u (rd (rdl (bU (fsL u)) i) (((rdl (bU (fsL u)) i).length-1-kr:Nat):Int))]))::(rc 52 1 tj [sl gd ((rdl (bU (fsL u)) i).length) ce])::(ru 5 kb (n2+1) kc (acc++([rd u (rd (rdl (bU (fsL u)) i) (((rdl (bU (fsL u)) i).length-1-kr:Nat):Int))])))::(rc 22 1 se [sl kb (n2+1) kc])::⟨22,1,A1,n1,c1,vals,false⟩::⟨52,1,fh,aw.length,kh,aw,false⟩::(ri 3 fg ((fsL u).length) fi (fsL u))::⟨22,1,none,0,0,[],false⟩::(rc 22 1 ao [sl an u.length am])::Rs)) Z<|wN ?_;exact⟨kb,(n2+1),kc,acc++([rd u (rd (rdl (bU (fsL u)) i) (((rdl (bU (fsL u)) i).length-1-kr:Nat):Int))]),⟨(by rw[ai,nw];rfl),(IK Kw bh)⟩,λ_=>λ_ h=>h.selR (F:=[_,_,_,_,_,_,_,_,_]) (F':=[_,_,_,_,_,_,_,_]) [1,2,3,4,5,6,7,8] cC Z⟩
  intro WW35 DW3 A2 n2 c2 acc ⟨nw,bh⟩ Td Sp;refine IV ?_;refine VC ?_;refine v_w ?_;refine aJ<|wm Z<|wy (yL 2 ah Z Z Z)<|wa (iA [Value.slice A2 n2 c2] ay mJ Z Z Z Z) ?_;rintro _ _⟨zp,rfl,rfl⟩;refine wa (eY 4 Z Z ay xV Z Z Z Z Z (rdr 0 Z) (by simp[Value.oneCell']) (by dsimp only;omega)) ?_;rintro _ _⟨js,jt,rfl,rfl⟩;refine fA (R1:=((rc 22 1 zp [Value.slice A2 n2 c2])::(rc 52 1 tj [sl gd ((rdl (bU (fsL u)) i).length) ce])::(ru 5 A2 n2 c2 acc)::(rc 22 1 se [sl A2 n2 c2])::⟨22,1,js,(n1+1),jt,vals++([Value.slice A2 n2 c2]),false⟩::⟨52,1,fh,aw.length,kh,aw,false⟩::(ri 3 fg ((fsL u).length) fi (fsL u))::⟨22,1,none,0,0,[],false⟩::(rc 22 1 ao [sl an u.length am])::Rs)) Z<|bK (v:=sl js (n1+1) jt) Z<|wn Z ?_;refine IV ?_;refine VC ?_;refine v_w ?_;refine aJ<|wA Z Z<|wm Z<|aA ?_;refine aOo (Lx:=λ(i:Int) (A1:AF) (n1:Nat) (c1:Nat) (vals:AG) (ls:AD) (Rs:List Row)=>[(1,PG ao),(5,sl A1 n1 c1),(17,sl fh aw.length kh),(18,I (aw.length:Int)),(19,I i)]) (Rx:=λ(i:Int) (A1:AF) (n1:Nat) (c1:Nat) (vals:AG) (ls:AD) (Rs:List Row)=>(⟨22,1,A1,n1,c1,vals,false⟩::⟨52,1,fh,aw.length,kh,aw,false⟩::(ri 3 fg ((fsL u).length) fi (fsL u))::⟨22,1,none,0,0,[],false⟩::(rc 22 1 ao [sl an u.length am])::Rs)) (J:=λ(i:Int) (A1:AF) (n1:Nat) (c1:Nat) (vals:AG) (ls:AD) (Rs:List Row)=>(0<=i)/\(i<=aw.length)/\(n1=vals.length)/\(SlR .u8 Rs vals ls)/\(SlR .i64 Rs aw (bU (fsL u)))/\(ls=((bU (fsL u)).take i.toNat).map (dR u))) (μ:=λ(i:Int) (A1:AF) (n1:Nat) (c1:Nat) (vals:AG) (ls:AD) (Rs:List Row)=>(aw.length-i).toNat) (i7.trans Td) Sp ?_;exact⟨i+1,js,n1+1,jt,vals++([Value.slice A2 n2 c2]),(ls++[acc]),((ru 5 A2 n2 c2 acc)::Rs),⟨G,G,(by rw[ai,dp];rfl),(ka.snoc nw),(o6.right [_]),(aBq bb G yy bh)⟩,G,SA,λ_ h=>h.selR (F:=[_,_,_,_,_,_,_,_,_]) (F':=[_,_,_,_,_,_]) [4,5,6,7,8,2] cC Z⟩
 ·obtain rfl:ls=((bU (fsL u)).map (dR u)):=by rw[yy,bi G]
  have ur: ∀l∈((bU (fsL u)).map (dR u)),aL l:=λl hl=>by obtain⟨c,hc,rfl⟩:=gz.1 hl;intro x hx;obtain⟨y,hy,rfl⟩:=gz.1 hx;exact ac.rd y
  obtain⟨lr,rfl,Hb,f7⟩:=ka.toRg ur;rw[az] at dp;obtain rfl:=dp;have Zm:=bg List.length Hb;rw[az,az] at Zm;refine aS ?_;refine bDe ?_;refine bGl ?_;refine bGm ?_;refine VC ?_;refine v_w ?_;refine wq<|wm Z<|wa (aC bHr Z (aBj (enc:=Go.Eng.encS) (aJg _) aBf Go.Eng.encS_one (l:=lr) 0 Z G (λx y=>cmpL x.root y.root) aUu (λW hW x hx y hy=>CB ((f7 x hx).2 _ _ _ (hW.right (R':=[_,_,_,_]))) ((f7 y hy).2 _ _ _ (hW.right (R':=[_,_,_,_]))) (f7 x hx).1 (f7 y hy).1))) ?_;rintro _ _⟨rfl,l1,qn,xl,rfl⟩;rw[<-qn.length_eq];refine fA (R1:=(⟨22,1,A1,l1.length,c1,(l1.map Go.Eng.encS),false⟩::⟨52,1,fh,aw.length,kh,aw,false⟩::(ri 3 fg ((fsL u).length) fi (fsL u))::⟨22,1,none,0,0,[],false⟩::(rc 22 1 ao [sl an u.length am])::Rs)) Z<|aA<|wq<|wm Z<|wn Z<|bN (R1:=(⟨22,1,A1,l1.length,c1,(l1.map Go.Eng.encS),false⟩::Rs)) (λ_ h=>h.selR (F:=[_,_,_,_,_]) (F':=[_]) [0] cC Z) ?_;refine bGv Z Sn ⟨_,Z,?_⟩;have Za:l1.map RC.root=((bU (fsL u)).map (dR u)):=aUv ((qn.map RC.root).trans (by rw[Hb])) (ib.2 (xl.imp λ{a b} h=>by rw[kS a.root b.root] at h;omega)) (UV ac);exact⟨_,_,l1.map Go.Eng.encS,Rs,by rw[az],by rw[<-Za];exact(f7.perm qn).toSl,by rw[az]⟩
theorem aVl (hs:all.Pairwise λa b=>cmpL a b<=0) (n1:1<=n) (hn:n<=all.length) (hq:rdl all (n-1)=rdl all 0):all.take n.toNat=List.replicate n.toNat (rdl all 0):=by
 have hg: ∀i:Int,0<=i->(hi:i<all.length)->rdl all i=all[i.toNat]' G:=λi h0 hi=>by
  unfold rdl;rw[af,av G];rfl
 have mw: ∀i j,(hi:i<all.length)->(hj:j<all.length)->i<=j->cmpL all[i] all[j]<=0:=λi j hi hj h=>by
  rcases gu i j with g|g
  ·exact dz.1 hs i j hi hj g
  ·obtain rfl:i=j:=G
   rw[(cmpL_eq _ _).2 rfl];omega
 refine sw (by rw[ax,cz];omega) λi h1 h2=> ?_;rw[ax] at h1;rw[ym,List.getElem_replicate];have a1:=mw 0 i G G (qh _);have a2:=mw i (n-1).toNat G G G;rw[<-hg (n-1) G G,hq] at a2;have e0:rdl all 0=all[0]' G:=hg 0 G G;rw[<-e0,kS all[i]] at a1;exact(cmpL_eq _ _).1 G
theorem aNg {r:AH} (h:all.take n.toNat=List.replicate n.toNat r):n.toNat*r.length<=all.flatten.length:=by
 have h1:=bg (λx:AD=>x.flatten.length) h;have h2:(List.replicate n.toNat r).flatten.length=n.toNat*r.length:=cD
 simp only[h2] at h1;have h3:=BP (ws:=all) n.toNat;omega
theorem bAp (h0:0<=i) (h1:i<tm.length) (hb:rd tm i<1\/(jn.length:Int)<rd tm i):kH jn last kf (tm.drop i.toNat)=none:=by
 rw[eP h0 h1,kH,di hb]
theorem bAo (h0:0<=i) (h1:i<tm.length) (hc:rdl jn (rd tm i-1)≠rdl jn 0\/last=rdl jn 0/\rd tm i<kf):kH jn last kf (tm.drop i.toNat)=none:=by
 rw[eP h0 h1,kH];by_cases hb:rd tm i<1\/(jn.length:Int)<rd tm i
 ·rw[di hb]
 ·rw[df hb,di hc]
theorem bKb {o:Option (AD)} (h0:0<=i) (h1:i<tm.length) (hb: ¬(rd tm i<1\/(jn.length:Int)<rd tm i)) (hc: ¬(rdl jn (rd tm i-1)≠rdl jn 0\/last=rdl jn 0/\rd tm i<kf)) (h:o=(kH jn last kf (tm.drop i.toNat)).map λp=>ls++p):
  o=(kH (jn.drop (rd tm i).toNat) (rdl jn 0) (rd tm i) (tm.drop (i+1).toNat)).map λp=>(ls++[rep (rdl jn 0) (rd tm i)])++p:=by
 rw[h,eP h0 h1,kH,df hb,df hc,Option.map_map];congr 1;funext p;simp
def oE (o:Option (AD)):Int:=if o.isSome then 0 else 5
theorem aVn {o:Option (AD)} (hi:(tm.length:Int)<=i) (h:o=(kH jn last kf (tm.drop i.toNat)).map λp=>ls++p):(0<jn.length->o=none)/\(¬0<jn.length->o=some ls):=by
 rw[qm G,kH] at h;constructor
 ·intro c;rw[h,di c];rfl
 ·intro c;rw[h,df c];simp
theorem drop_flat {ws:AD} {k M:Nat} (h:ws.flatten.length<=M):(ws.drop k).flatten.length<=M:=by
 have:ws.flatten=(ws.take k).flatten++(ws.drop k).flatten:=by rw[<-lu,ik]
 rw[this,ai] at h;omega
theorem aWl (h:aL u) (hN:u.length<=8000) {a:AH} (ha:a∈(bU (fsL u)).map (dR u)):aL a/\0<a.length/\a.length<=8000:=by
 have h1:=aOg h G a ha;have h2:=((nA a).1 (aIs h a ha)).1;have h3:=ql (nz ha);have h4:((bU (fsL u)).map (dR u)).flatten.length=u.length:=QT h;exact⟨h1.1,h2,G⟩
theorem aDi {m4:AF} {Vo m8:Nat} (al:Rd w an ar am 1 (ints .u8 u)) (Ly:Rd w m4 Vo m8 1 (ints .i64 tm)) (ac:aL u) (hN:u.length<=8000/\tm.length<=1000):
  CF 230 #[sl an ar am,sl m4 Vo m8] w (λv R'=> ∃(A:AF) (c:Nat) (vals:AG) (Rs:List Row),v= .tuple #[sl A vals.length c,I (oE (kH ((bU (fsL u)).map (dR u)) [] 0 tm))]/\SlR .u8 Rs vals ((kH ((bU (fsL u)).map (dR u)) [] 0 tm).getD [])/\R'=⟨22,1,A,vals.length,c,vals,false⟩::Rs):=by
 obtain rfl:=al.lenI;obtain rfl:=Ly.lenI;refine fn2 Tryz.func230 Z Z Z ?_;have mv:=al.max;have m_tm:=Ly.max;refine wq<|bR (R1:=(⟨22,1,none,0,0,[],false⟩::[])) (Sub.refl _) (λ_ h=>h.nil 22 1)<|wg Z<|wn Z<|aD<|wq<|wm Z<|wy (aO ah Z)<|wy (Yl.f (dN Z Z))<|wm Z<|aB Z Z<|wm Z ?_;refine aB Z Z<|wy (aO aa Z)<|aB Z Z<|wy (Yl.f (dN Z Z))<|wy (aP Z Z)<|aA<|aN Z<|aH<|wq<|wm Z<|wa (aC bIa Z (Ct.fresh (λw hw=>YE ((al.c _) w hw) ac G))) ?_;rintro _ _⟨_,rfl,cr,co,rn,vd,rfl,Oc,rfl⟩;have Ty:=Oc.1;refine bR (R1:=(⟨22,1,cr,rn.length,co,rn,false⟩::⟨22,1,none,0,0,[],false⟩::vd)) (Sub.refl _) (λ_ h=>Hp.toTail0 (X:=[_]) (Y:=[_]) h)<|wn Z<|wq<|wa (iA [] ay mJ Z Z Z Z) ?_;rintro _ _⟨gh,rfl,rfl⟩;refine wn Z<|wq<|wn Z<|wq<|wn Z<|aD<|wq<|wm Z<|wy (aO aa Z) ?_;refine wm Z<|aA<|aI ?_;refine aOj (λ(i:Int) (A1:AF) (n1:Nat) (c1:Nat) (vals:AG) (ls:AD) (A6:AF) (n6:Nat) (c6:Nat) (rp:AG) (jn:AD) (AL:AF) (cL:Nat) (last:AH) (kf:Int) (Rs:List Row)=>[(6,sl A6 n6 c6),(7,sl A1 n1 c1),(8,sl AL last.length cL),(9,I kf),(24,sl m4 tm.length m8),(25,I (tm.length:Int)),(26,I i)]) (λi A1 n1 c1 vals ls A6 n6 c6 rp jn AL cL last kf Rs=>(⟨22,1,A1,n1,c1,vals,false⟩::⟨22,1,none,0,0,[],false⟩::Rs)) (λi A1 n1 c1 vals ls A6 n6 c6 rp jn AL cL last kf Rs=>(0<=i)/\(i<=tm.length)/\(n1=vals.length)/\(SlR .u8 Rs vals ls)/\((ls.length:Int)=i)/\(n6=rp.length)/\(∀(B:Nat) (w0 w:World),Hp B w0 w Rs->Rd w A6 n6 c6 1 rp)/\(SlR .u8 Rs rp jn)/\(∀(B:Nat) (w0 w:World),Hp B w0 w Rs->Rd w AL last.length cL 1 (ints .u8 last))/\(∀a∈jn,aL a/\0<a.length/\a.length<=8000)/\(aL last)/\(jn.Pairwise λa b=>cmpL a b<=0)/\(jn.flatten.length<=8000)/\(jn.length<=8000)/\((kH ((bU (fsL u)).map (dR u)) [] 0 tm)=(kH jn last kf (tm.drop i.toNat)).map λp=>ls++p)) (λi A1 n1 c1 vals ls A6 n6 c6 rp jn AL cL last kf Rs=>(tm.length-i).toNat) ?_ ?_
 ·exact⟨0,GG gh,0,0,[],[],cr,rn.length,co,rn,((bU (fsL u)).map (dR u)),none,0,[],0,(⟨22,1,cr,rn.length,co,rn,false⟩::vd),⟨G,G,(Z),(SlR.nilR _ _),(Z),(Z),(λ_ _ _ h=>rdr 0 Z _ h),(Oc.right [_]),(λ_ _ _ _=>aFv .u8),(λa ha=>aWl ac G ha),(aL.nil),(UV ac),(by have:=QT ac;show(((bU (fsL u)).map (dR u))).flatten.length<=8000;exact ry (Nat.le_of_eq this) G),(by rw[az];have:=EG (p:=fsL u);have:=pR u;omega),cD⟩,SA,λ_ h=>h.selR (F:=[_,_,_]) (F':=[_,_,_]) [0,2,1] cC Z⟩
 intro i A1 n1 c1 vals ls A6 n6 c6 rp jn AL cL last kf Rs ⟨bb,ij,dp,ka,Tv,Zq,gs,Mc,pk,dr,hlb,Uv,qu,ha8,No⟩;have Od:=ka.1;have han:=Mc.1;refine wq<|wL Z Z<|aA<|aD<|bA Z (λbc=> ?_) (λbc=> ?_)
 ·refine aH<|aD<|aI<|wq<|wy (aG aa sz3 Z Z (Ly.c _))<|wy (aW au Z Z (Ly.c _))<|wn Z<|aD<|wq<|wm Z<|wL Z Z<|wm Z ?_;refine dD 5 [(6,sl A6 n6 c6),(7,sl A1 n1 c1),(8,sl AL last.length cL),(9,I kf),(11,I (rd tm i)),(24,sl m4 tm.length m8),(25,I (tm.length:Int)),(26,I i),(37, .bool (decide (((rd tm i)<1)\/((n6:Int)<(rd tm i)))))] (⟨22,1,A1,n1,c1,vals,false⟩::⟨22,1,none,0,0,[],false⟩::Rs) ?_ ?_
  ·refine bP 32 Z (λda=> ?_) (λda=> ?_)
   ·refine aM Z Z Z Z<|aM Z Z Z Z<|aM Z Z Z Z<|aM Z Z Z Z<|wy (aQ Z Z)<|aA ?_;exact KP
   ·refine aB Z Z<|wm Z<|aB Z Z<|wm Z<|aB Z Z<|wy (aO ay Z)<|aB Z Z<|wy (dN Z Z)<|wy (aP Z Z)<|aA ?_;exact KP
  refine aA<|bA Z (λfk=> ?_) (λfk=> ?_)
  ·refine wq<|wg Z<|wn Z<|aX [1] 2 cC Z ?_;refine⟨_,_,Z,Z,?_⟩;have hO:(kH ((bU (fsL u)).map (dR u)) [] 0 tm)=none:=by rw[No,bAp bb G G];rfl
   rw[hO];exact⟨none,0,[],_,Z,SlR.nilR _ _,Z⟩
  ·have pj: ¬(rd tm i<1\/(jn.length:Int)<rd tm i):=G
   have Hk:=dr _ (jB (ws:=jn) (i:=0) G G);have Uo:=dr _ (jB (ws:=jn) (i:=rd tm i-1) G G);refine aH<|wq<|wm Z<|wy (aG ay dP Z Z (λ_ h=>gs _ _ _ (h.right (R':=[_,_])))) ?_;obtain⟨en,cj,Uy,xi⟩:=Mc.at (i:=0) G G;refine wy (pI ah Z Z Z (λ_ h=>gs _ _ _ (h.right (R':=[_,_]))) Uy)<|wn Z<|aD<|wq<|wm Z<|wm Z<|wS Z Z<|wy (aG ay dP Z Z (λ_ h=>gs _ _ _ (h.right (R':=[_,_])))) ?_;obtain⟨fa,fb,Jx,Hs⟩:=Mc.at (i:=(rd tm i)-1) G G;refine wy (pI ah Z Z Z (λ_ h=>gs _ _ _ (h.right (R':=[_,_]))) Jx)<|wm Z<|wa (aC aTy Z (Ct.quiet (λw hw=>EC ((λ_ h=>Hs _ _ _ (h.right (R':=[_,_]))) w hw) ((λ_ h=>xi _ _ _ (h.right (R':=[_,_]))) w hw) Uo.1 Hk.1))) ?_;rintro _ _⟨rfl,rfl⟩;refine wy (uU Z)<|wm Z<|dD 9 [(6,sl A6 n6 c6),(7,sl A1 n1 c1),(11,I (rd tm i)),(12,sl en ((rdl jn 0).length) cj),(24,sl m4 tm.length m8),(25,I (tm.length:Int)),(26,I i),(58, .bool (decide ((¬((rdl jn ((rd tm i)-1))=(rdl jn 0)))\/((last=(rdl jn 0))/\((rd tm i)<kf)))))] (⟨22,1,A1,n1,c1,vals,false⟩::⟨22,1,none,0,0,[],false⟩::Rs) ?_ ?_
   ·refine bP 49 Z (λiu=> ?_) (λiu=> ?_)
    ·refine aM Z Z Z Z<|aM Z Z Z Z<|aM Z Z Z Z<|aM Z Z Z Z<|eD Z Z Z<|eD Z Z Z<|eD Z Z Z<|aM Z Z Z Z<|wy (aQ Z Z)<|aA ?_;exact KP
    ·refine aB Z Z<|wm Z<|aB Z Z<|wm Z<|aB Z Z<|wa (aC aTy Z (Ct.quiet (λw hw=>EC ((λ_ h=>pk _ _ _ (h.right (R':=[_,_]))) w hw) ((λ_ h=>xi _ _ _ (h.right (R':=[_,_]))) w hw) hlb Hk.1))) ?_;rintro _ _⟨rfl,rfl⟩;refine aB Z Z<|wm Z<|dD 4 [(6,sl A6 n6 c6),(7,sl A1 n1 c1),(11,I (rd tm i)),(12,sl en ((rdl jn 0).length) cj),(24,sl m4 tm.length m8),(25,I (tm.length:Int)),(26,I i),(49,bf),(57, .bool (decide ((last=(rdl jn 0))/\((rd tm i)<kf))))] (⟨22,1,A1,n1,c1,vals,false⟩::⟨22,1,none,0,0,[],false⟩::Rs) ?_ ?_
     ·refine bP 53 Z (λkt=> ?_) (λkt=> ?_)
      ·refine aB Z Z<|wm Z<|aB Z Z<|wm Z<|aB Z Z<|wL Z Z<|aB Z Z<|wy (aQ Z Z)<|aA ?_;exact KP
      ·refine aM Z Z Z Z<|aM Z Z Z Z<|aM Z Z Z Z<|aB Z Z<|wy (aP Z Z)<|aA ?_;exact KP
     refine wy (aP Z Z)<|aA ?_;exact KP
   refine aA<|bA Z (λxr=> ?_) (λxr=> ?_)
   ·have rr:rdl jn (rd tm i-1)≠rdl jn 0\/last=rdl jn 0/\rd tm i<kf:=xr;refine wq<|wg Z<|wn Z<|aX [1] 2 cC Z ?_;refine⟨_,_,Z,Z,?_⟩;have hO:(kH ((bU (fsL u)).map (dR u)) [] 0 tm)=none:=by rw[No,bAo bb G rr];rfl
    rw[hO];exact⟨none,0,[],_,Z,SlR.nilR _ _,Z⟩
   ·have rr: ¬(rdl jn (rd tm i-1)≠rdl jn 0\/last=rdl jn 0/\rd tm i<kf):=xr;have hq:rdl jn (rd tm i-1)=rdl jn 0:=Decidable.byContradiction λe=>rr (.inl e);have hblk:=aVl Uv G G hq;refine aH<|wq<|wm Z<|wm Z<|wm Z<|wa (aC bHb Z (Ct.fresh (λw hw=>JS ((λ_ h=>xi _ _ _ (h.right (R':=[_,_]))) w hw) Hk.2.1 G (ry (aNg hblk) qu)))) ?_;rintro _ _⟨_,rfl,gn,go,rfl,rfl⟩;refine wa (iA [Value.slice gn ((rep (rdl jn 0) (rd tm i)).length) go] ay mJ Z Z Z Z) ?_;rintro _ _⟨Ln,rfl,rfl⟩;refine wa (eY 2 Z Z ay xV Z Z Z Z Z (rdr 0 Z) (by simp[Value.oneCell']) (by dsimp only;omega)) ?_;rintro _ _⟨pf,pi,rfl,rfl⟩;refine bK (v:=sl pf (n1+1) pi) Z<|wn Z<|bL mixed<|wD 0 Z (aK Z)<|wD 1 Z (aK Z)<|wD 2 Z (aK Z)<|wD 3 Z (aK Z)<|wD 4 Z (fJ ay dP Z Z)<|wD 5 Z (bB Z)<|wD 6 Z (bB Z)<|wD 7 Z (bB Z)<|wN<|aJ<|wA Z Z ?_;refine wm Z<|aA ?_;exact⟨i+1,pf,n1+1,pi,vals++([Value.slice gn ((rep (rdl jn 0) (rd tm i)).length) go]),(ls++[rep (rdl jn 0) (rd tm i)]),jD A6 (rd tm i).toNat c6 1,n6-(rd tm i).toNat,c6-(rd tm i).toNat,(rp.drop (rd tm i).toNat),(jn.drop (rd tm i).toNat),en,cj,(rdl jn 0),rd tm i,(⟨5,1,gn,(rep (rdl jn 0) (rd tm i)).length,go,ints .u8 (rep (rdl jn 0) (rd tm i)),true⟩::Rs),⟨G,G,(by rw[ai,dp];rfl),(ka.snoc Z),(by rw[ai,ii];omega),(by rw[bn,Zq]),(λB w0 w h=>(RdC.fromV (λw h=>gs B w0 w h) G) w h.tail),((Mc.drop _).right [_]),(λB w0 w h=>xi B w0 w h.tail),(λa ha=>dr a (ng ha)),(Hk.1),(Uv.sublist (yj _ _)),(drop_flat qu),(by rw[bn];omega),(bKb bb G pj rr No)⟩,G,SA,λ_ h=>h.selR (F:=[_,_,_,_]) (F':=[_,_,_]) [2,3,1] cC Z⟩
 ·refine aS<|aD<|wq<|wm Z<|wy (aO ay Z)<|wy (dN Z Z)<|aA<|bA Z (λMf=> ?_) (λMf=> ?_)
  ·refine wq<|wg Z<|wn Z<|aX [1] 2 cC Z ?_;refine⟨_,_,Z,Z,?_⟩;have hO:(kH ((bU (fsL u)).map (dR u)) [] 0 tm)=none:=(aVn G No).1 G;rw[hO];exact⟨none,0,[],_,Z,SlR.nilR _ _,Z⟩
  ·refine aH<|wq<|wm Z<|wg Z<|wn Z<|aX [0] 2 cC Z ?_;refine⟨_,_,Z,Z,?_⟩;have hO:(kH ((bU (fsL u)).map (dR u)) [] 0 tm)=some ls:=(aVn G No).2 G;rw[hO];subst dp;exact⟨_,_,vals,Rs,Z,ka,Z⟩
variable {ws:AD} {L TS:AH} {e:Int}
theorem aLz {ws:AD} (hx:ExtR ws L TS e) (he:e=0) (hb: ∀w∈ws,aL w):kH ((bU (fsL L)).map (dR L)) [] 0 TS=some (canon ws):=by
 rcases hx with⟨h,_⟩|⟨_,h,_⟩|⟨_,_,cg,⟨T,hp,ho,rfl⟩,rfl⟩
 ·omega
 ·omega
 ·have hA:(bU (fsL (T.map (lastB ws)))).map (dR (T.map (lastB ws)))=FZ (iT ws):=(IY hb hp ho).1
  have h1: ∀r∈iT ws,1<=r.2/\0<r.1.length:=λr Ui=>by
   obtain⟨w,_,hw,rfl⟩:=sV Ui;have hc:0<(lw w).length:=by rw[jQ];exact hw
   have a1:=pW hc;have a2:=zY hc;have a3:=oL hc;exact⟨by show 1<=gF (lw w);omega,by show 0<(jO (lw w)).length;omega⟩
  rw[hA];exact YF (pK ws) (λr h=>(h1 r h).1) (λr h e=>by have:=(h1 r h).2;rw[<-e] at this;simp at this)
theorem _root_.Go.Pure.ExtR.len (h:ExtR ws L TS e):L.length<=ws.flatten.length:=by
 rcases h with⟨_,_,rfl,_⟩|⟨_,_,_,rfl,_⟩|⟨_,_,_,⟨T,hp,_,rfl⟩,_⟩
 ·exact qh _
 ·exact qh _
 ·rw[az,IG hp];exact dn _
variable {w:World} {k so od sz:Int} {an bl:AF} {ar am cm bm:Nat} {u:AH} {ap:AG} {ws:AD}
theorem aNd:
  CF 23 #[.agg #[I k,I so,I od,I sz]] w (λv R'=>v= .bool (decide ((0<=k/\k<=3)/\(0<=so/\so<=2)/\(od=0\/od=1)/\(1<=sz/\sz<=16777216)))):=by
 refine fn1 Tryz.func23 Z Z Z ?_;refine wq<|wa (dC (sz:=4) Z Z) ?_;rintro _ _⟨ao,rfl,rfl⟩;refine wn Z<|wq<|wy (yF 0 0 bz sz3 Z)<|wy (yL 0 au Z Z Z)<|wy (jN Z Z)<|wm Z<|dD 4 [(1,PG ao),(10, .bool (decide ((0<=k)/\(k<=3))))] [(rc 27 4 ao [I k,I so,I od,I sz])] ?_ ?_
 ·refine bP 6 Z (λbc=> ?_) (λbc=> ?_)
  ·refine aB Z Z<|wy (yF 0 0 bz sz3 Z)<|aB Z Z<|wy (yL 0 au Z Z Z)<|aB Z Z<|wy (uV Z Z)<|wy (aQ Z Z)<|aA ?_;exact KP
  ·refine aM Z Z Z Z<|aM Z Z Z Z<|aM Z Z Z Z<|wy (aP Z Z)<|aA ?_;exact KP
 refine wm Z<|dD 4 [(1,PG ao),(15, .bool (decide (((0<=k)/\(k<=3))/\(0<=so))))] [(rc 27 4 ao [I k,I so,I od,I sz])] ?_ ?_
 ·refine bP 11 Z (λda=> ?_) (λda=> ?_)
  ·refine aB Z Z<|wy (yF 1 1 bz sz3 Z)<|aB Z Z<|wy (yL 0 au Z Z Z)<|aB Z Z<|wy (jN Z Z)<|wy (aQ Z Z)<|aA ?_;exact KP
  ·refine aM Z Z Z Z<|aM Z Z Z Z<|aM Z Z Z Z<|wy (aP Z Z)<|aA ?_;exact KP
 refine wm Z<|dD 4 [(1,PG ao),(20, .bool (decide ((((0<=k)/\(k<=3))/\(0<=so))/\(so<3))))] [(rc 27 4 ao [I k,I so,I od,I sz])] ?_ ?_
 ·refine bP 16 Z (λfk=> ?_) (λfk=> ?_)
  ·refine aB Z Z<|wy (yF 1 1 bz sz3 Z)<|aB Z Z<|wy (yL 0 au Z Z Z)<|aB Z Z<|wL Z Z<|wy (aQ Z Z)<|aA ?_;exact KP
  ·refine aM Z Z Z Z<|aM Z Z Z Z<|aM Z Z Z Z<|wy (aP Z Z)<|aA ?_;exact KP
 refine wm Z<|dD 9 [(1,PG ao),(30, .bool (decide (((((0<=k)/\(k<=3))/\(0<=so))/\(so<3))/\((od=0)\/(od=1)))))] [(rc 27 4 ao [I k,I so,I od,I sz])] ?_ ?_
 ·refine bP 21 Z (λiu=> ?_) (λiu=> ?_)
  ·refine aB Z Z<|wy (yF 2 2 bz sz3 Z)<|aB Z Z<|wy (yL 0 au Z Z Z)<|aB Z Z<|wy (gT Z Z)<|aB Z Z<|wm Z<|dD 4 [(1,PG ao),(21,bt),(29, .bool (decide ((od=0)\/(od=1))))] [(rc 27 4 ao [I k,I so,I od,I sz])] ?_ ?_
   ·refine bP 25 Z (λkt=> ?_) (λkt=> ?_)
    ·refine aM Z Z Z Z<|aM Z Z Z Z<|aM Z Z Z Z<|aB Z Z<|wy (aQ Z Z)<|aA ?_;exact KP
    ·refine aB Z Z<|wy (yF 2 2 bz sz3 Z)<|aB Z Z<|wy (yL 0 au Z Z Z)<|aB Z Z<|wy (gT Z Z)<|aB Z Z<|wy (aP Z Z)<|aA ?_;exact KP
   refine wy (aQ Z Z)<|aA ?_;exact KP
  ·refine aM Z Z Z Z<|aM Z Z Z Z<|aM Z Z Z Z<|aM Z Z Z Z<|eD Z Z Z<|eD Z Z Z<|eD Z Z Z<|aM Z Z Z Z<|wy (aP Z Z)<|aA ?_;exact KP
 refine wm Z<|dD 4 [(1,PG ao),(35, .bool (decide ((((((0<=k)/\(k<=3))/\(0<=so))/\(so<3))/\((od=0)\/(od=1)))/\(1<=sz))))] [(rc 27 4 ao [I k,I so,I od,I sz])] ?_ ?_
 ·refine bP 31 Z (λxr=> ?_) (λxr=> ?_)
  ·refine aB Z Z<|wy (yF 3 3 bz sz3 Z)<|aB Z Z<|wy (yL 0 au Z Z Z)<|aB Z Z<|wy (jN Z Z)<|wy (aQ Z Z)<|aA ?_;exact KP
  ·refine aM Z Z Z Z<|aM Z Z Z Z<|aM Z Z Z Z<|wy (aP Z Z)<|aA ?_;exact KP
 refine wm Z<|dD 4 [(40, .bool (decide (((((((0<=k)/\(k<=3))/\(0<=so))/\(so<3))/\((od=0)\/(od=1)))/\(1<=sz))/\(sz<=16777216))))] [(rc 27 4 ao [I k,I so,I od,I sz])] ?_ ?_
 ·refine bP 36 Z (λMf=> ?_) (λMf=> ?_)
  ·refine aB Z Z<|wy (yF 3 3 bz sz3 Z)<|aB Z Z<|wy (yL 0 au Z Z Z)<|aB Z Z<|wy (uV Z Z)<|wy (aQ Z Z)<|aA ?_;exact KP
  ·refine aM Z Z Z Z<|aM Z Z Z Z<|aM Z Z Z Z<|wy (aP Z Z)<|aA ?_;exact KP
 refine wn Z<|aX [] 99 cC Z ?_;refine⟨_,Z,?_⟩;exact bg Value.bool (wh.2 G)
theorem aYs (al:Rd w an ar am 1 (ints .u8 u)) (ba:Rd w bl cm bm 1 ap) (bp:SlW .u8 w ap ws) (Fc: ¬(((0<=k/\k<=3)/\(0<=so/\so<=2)/\(od=0\/od=1)/\(1<=sz/\sz<=16777216))/\(k≠3->ws.length=0)/\(k=3->u.length=0)/\ ¬gD ws)) (hN:ws.flatten.length<=400/\ws.length<=400/\u.length<=400):
  CF 36 #[.agg #[sl an u.length am,sl bl ws.length bm], .agg #[I k,I so,I od,I sz]] w (λv R'=>v=I 1):=by
 obtain rfl:=al.lenI;obtain rfl:cm=ws.length:=by have:=ba.len;have:=bp.1;omega
 refine fn1 Fz Z Z Z ?_;have mv:=al.max;have ob:=ba.max;refine wq<|wa (dC (sz:=2) Z Z) ?_;rintro _ _⟨ao,rfl,rfl⟩;refine wa (dC (sz:=4) Z Z) ?_;rintro _ _⟨ew,rfl,rfl⟩;refine wn Z<|wq<|wn Z<|wq<|wy (yF 0 0 bz sz3 Z)<|wy (yL 0 au Z Z Z)<|wy (gT Z Z)<|wn Z<|aD<|aD ?_;refine aJ<|wy (bM (vs:=[I k,I so,I od,I sz]) (rdr 0 Z) bz Z eF Z Z (ak Z) Z)<|wa (aC aMm Z (Ct.quiet (λw hw=>aNd))) ?_;rintro _ _⟨rfl,rfl⟩;refine wy (uU Z)<|wm Z<|dD 9 [(2,PG ao),(5, .func (.func 67) #[] #[]),(6, .bool (decide (k=3))),(22, .bool (decide ((¬((0<=k/\k<=3)/\(0<=so/\so<=2)/\(od=0\/od=1)/\(1<=sz/\sz<=16777216)))\/((¬(k=3))/\(0<(ws.length:Int))))))] [(rc 27 4 ew [I k,I so,I od,I sz]),(rc 25 2 ao [sl an u.length am,sl bl ws.length bm])] ?_ ?_
 ·refine bP 13 Z (λbc=> ?_) (λbc=> ?_)
  ·refine aM Z Z Z Z<|aM Z Z Z Z<|aM Z Z Z Z<|eD Z Z Z<|eD Z Z Z<|eD Z Z Z<|eD Z Z Z<|aM Z Z Z Z<|wy (aQ Z Z)<|aA ?_;exact KP
  ·refine aB Z Z<|wm Z<|aB Z Z<|wy (uU Z)<|aB Z Z<|wm Z<|dD 5 [(2,PG ao),(5, .func (.func 67) #[] #[]),(6, .bool (decide (k=3))),(13,bf),(21, .bool (decide ((¬(k=3))/\(0<(ws.length:Int)))))] [(rc 27 4 ew [I k,I so,I od,I sz]),(rc 25 2 ao [sl an u.length am,sl bl ws.length bm])] ?_ ?_
   ·refine bP 16 Z (λda=> ?_) (λda=> ?_)
    ·refine aB Z Z<|wy (yF 1 1 ed kL Z)<|aB Z Z<|wy (yL 1 ay Z Z Z)<|aB Z Z<|wy (aO ay Z)<|aB Z Z<|wy (dN Z Z)<|aB Z Z<|wy (aQ Z Z)<|aA ?_;exact KP
    ·refine aM Z Z Z Z<|aM Z Z Z Z<|aM Z Z Z Z<|aM Z Z Z Z<|aB Z Z<|wy (aP Z Z)<|aA ?_;exact KP
   refine wy (aP Z Z)<|aA ?_;exact KP
 refine wm Z<|dD 8 [(2,PG ao),(5, .func (.func 67) #[] #[]),(31, .bool (decide (((¬((0<=k/\k<=3)/\(0<=so/\so<=2)/\(od=0\/od=1)/\(1<=sz/\sz<=16777216)))\/((¬(k=3))/\(0<(ws.length:Int))))\/((k=3)/\(0<(u.length:Int))))))] [(rc 27 4 ew [I k,I so,I od,I sz]),(rc 25 2 ao [sl an u.length am,sl bl ws.length bm])] ?_ ?_
 ·refine bP 23 Z (λfk=> ?_) (λfk=> ?_)
  ·refine aM Z Z Z Z<|aM Z Z Z Z<|eD Z Z Z<|eD Z Z Z<|eD Z Z Z<|eD Z Z Z<|aM Z Z Z Z<|wy (aQ Z Z)<|aA ?_;exact KP
  ·refine aB Z Z<|wm Z<|aB Z Z<|wm Z<|dD 5 [(2,PG ao),(5, .func (.func 67) #[] #[]),(23,bf),(30, .bool (decide ((k=3)/\(0<(u.length:Int)))))] [(rc 27 4 ew [I k,I so,I od,I sz]),(rc 25 2 ao [sl an u.length am,sl bl ws.length bm])] ?_ ?_
   ·refine bP 25 Z (λiu=> ?_) (λiu=> ?_)
    ·refine aB Z Z<|wy (yF 0 0 ed dP Z)<|aB Z Z<|wy (yL 1 ah Z Z Z)<|aB Z Z<|wy (aO ah Z)<|aB Z Z<|wy (dN Z Z)<|aB Z Z<|wy (aQ Z Z)<|aA ?_;exact KP
    ·refine aM Z Z Z Z<|aM Z Z Z Z<|aM Z Z Z Z<|aM Z Z Z Z<|aB Z Z<|wy (aP Z Z)<|aA ?_;exact KP
   refine wy (aP Z Z)<|aA ?_;exact KP
 refine wm Z<|dD 5 [(2,PG ao),(37,bt)] [(rc 27 4 ew [I k,I so,I od,I sz]),(rc 25 2 ao [sl an u.length am,sl bl ws.length bm])] ?_ ?_
 ·refine bP 32 Z (λkt=> ?_) (λkt=> ?_)
  ·refine aM Z Z Z Z<|aM Z Z Z Z<|aM Z Z Z Z<|aM Z Z Z Z<|wy (aQ Z Z)<|aA ?_;exact KP
  ·refine aB Z Z<|wy (yF 1 1 ed kL Z)<|aB Z Z<|wy (yL 1 ay Z Z Z)<|aB Z Z<|wm Z<|aB Z Z<|wa (aC aMk Z (Ct.quiet (λw hw=>BZ ((ba.c _) w hw) (bp.c hw)))) ?_;rintro _ _⟨rfl,rfl⟩;refine oG 36 Z (Decidable.byContradiction λhe=>Fc ⟨G,G,G,he⟩)<|wy (aP rfl rfl)<|aA ?_;exact KP
 refine aA<|dI Z<|wq<|wn Z<|aX [] 99 cC Z ?_;refine⟨_,Z,?_⟩;rfl
theorem aZs (al:Rd w an ar am 1 (ints .u8 u)) (ba:Rd w bl cm bm 1 ap) (bp:SlW .u8 w ap ws) (Fc: ¬(((0<=k/\k<=3)/\(0<=so/\so<=2)/\(od=0\/od=1)/\(1<=sz/\sz<=16777216))/\(k≠3->ws.length=0)/\(k=3->u.length=0)/\ ¬gD ws)) (hN:ws.flatten.length<=400/\ws.length<=400/\u.length<=400):
  CF 16 #[.agg #[sl an u.length am,sl bl ws.length bm], .agg #[I k,I so,I od,I sz]] w (λv R'=>v= .tuple #[sl none 0 0,I 1]):=by
 obtain rfl:=al.lenI;obtain rfl:cm=ws.length:=by have:=ba.len;have:=bp.1;omega
 refine fnV Ki Z Z ?_;have mv:=al.max;have ob:=ba.max;refine dL ?_;refine aJ<|wa (dC (sz:=2) Z Z) ?_;rintro _ _⟨ao,rfl,rfl⟩;refine wa (dC (sz:=4) Z Z) ?_;rintro _ _⟨ew,rfl,rfl⟩;refine wg Z<|wn Z ?_;refine dL ?_;refine wq<|wy (bM (vs:=[sl an u.length am,sl bl ws.length bm]) (rdr 1 Z) ed Z kK Z Z (ak Z) Z)<|wy (bM (vs:=[I k,I so,I od,I sz]) (rdr 0 Z) bz Z eF Z Z (ak Z) Z)<|wa (aC bFa Z (Ct.quiet (λw hw=>aYs ((al.c _) w hw) ((ba.c _) w hw) (bp.c hw) Fc hN))) ?_;rintro _ _⟨rfl,rfl⟩;refine wn Z<|wq<|wm Z<|wy (Yl.t (iI Z Z) cC)<|aA<|dI Z<|wq<|wm Z<|wg Z<|wn Z<|aX [] 99 cC Z ?_;refine aLx Z Gd.refl ⟨_,_,Z,Z,?_⟩;rfl
variable {ws:AD}
theorem xN {w:World} {an:AF} {ar am:Nat} {u:AH} {bl:AF} {cm bm:Nat} {ap:AG} (al:Rd w an ar am 1 (ints .u8 u)) (ba:Rd w bl cm bm 1 ap) (bp:SlW .u8 w ap ws) (Qg:u.length<=140737488355327):
  CF 22 #[.agg #[sl an u.length am,sl bl ws.length bm]] w (λv R'=> ∃b:Bool,v= .bool (decide (b=true))/\(b=false->u.length<=60/\ws.flatten.length<=60/\ws.length<=30)):=by
 obtain rfl:=al.lenI;obtain rfl:cm=ws.length:=by have:=ba.len;have:=bp.1;omega
 refine fn1 Tryz.func22 Z Z Z ?_;have mv:=al.max;have ob:=ba.max;refine wq<|wa (dC (sz:=2) Z Z) ?_;rintro _ _⟨ao,rfl,rfl⟩;refine wn Z<|wq<|wy (yF 0 0 ed dP Z)<|wy (yL 0 ah Z Z Z)<|wy (aO ah Z)<|wn Z<|aD<|wq<|wn Z<|aI ?_;refine dS (λ(i:Int) (n:Int)=>[(1,PG ao),(3,I n),(4,I i)]) (λi n=>[(rc 25 2 ao [sl an u.length am,sl bl ws.length bm])]) (λi n=>(0<=i)/\(i<=ws.length)/\(i<=40)/\(n=u.length+((ws.take i.toNat).flatten.length:Int))/\(n<=140737488355328*(i+1))) (λi n=>(40-i).toNat) ?_ ?_
 ·exact⟨0,(u.length:Int),⟨G,G,G,cD,G⟩,KP⟩
 intro i n ⟨bb,ij,Qu,hn,nw⟩;have Nz:=bp.okB;have j4:i<ws.length->(rdl ws i).length<=140737488355327:=λh=>(Nz _ (jB bb h)).2;refine aD<|wq<|wm Z<|wy (yF 1 1 ed kL Z)<|wy (yL 0 ay Z Z Z)<|wy (aO ay Z)<|wL Z Z<|wm Z<|dD 3 [(1,PG ao),(3,I n),(4,I i),(16, .bool (decide ((i<(ws.length:Int))/\(i<40))))] [(rc 25 2 ao [sl an u.length am,sl bl ws.length bm])] ?_ ?_
 ·refine bP 13 Z (λbc=> ?_) (λbc=> ?_)
  ·refine aB Z Z<|wm Z<|aB Z Z<|wL Z Z<|wy (aQ Z Z)<|aA ?_;exact KP
  ·refine aM Z Z Z Z<|aM Z Z Z Z<|wy (aP Z Z)<|aA ?_;exact KP
 refine aA<|bA Z (λda=> ?_) (λda=> ?_)
 ·refine aH<|aD<|aI<|aJ<|wm Z<|wy (yF 1 1 ed kL Z)<|wy (yL 0 ay Z Z Z)<|wm Z<|wy (aG ay dP Z Z (ba.c _)) ?_;refine bp.elim (i:=i) G G (λfg fi Qh ub Yk Vi=> ?_);refine wy (pI ah Z Z Z (ba.c _) Qh)<|wy (aO ah Z)<|wA Z Z<|wn Z<|aJ<|wm Z<|wA Z Z<|wn Z ?_;exact⟨i+1,n+(((rdl ws i).length:Nat):Int),⟨G,G,G,(by rw[gJ bb G,ai,hn];omega),G⟩,G,KP⟩
 ·refine aS<|wq<|wm Z<|wy (dN Z Z)<|wm Z<|dD 5 [(34, .bool (decide ((60<n)\/(30<(ws.length:Int)))))] [(rc 25 2 ao [sl an u.length am,sl bl ws.length bm])] ?_ ?_
  ·refine bP 29 Z (λfk=> ?_) (λfk=> ?_)
   ·refine aM Z Z Z Z<|aM Z Z Z Z<|aM Z Z Z Z<|aM Z Z Z Z<|wy (aQ Z Z)<|aA ?_;exact KP
   ·refine aB Z Z<|wy (yF 1 1 ed kL Z)<|aB Z Z<|wy (yL 0 ay Z Z Z)<|aB Z Z<|wy (aO ay Z)<|aB Z Z<|wy (dN Z Z)<|wy (aP Z Z)<|aA ?_;exact KP
  refine wn Z<|aX [] 99 cC Z ?_;refine⟨_,Z,?_⟩;refine⟨decide (60<n\/30<(ws.length:Int)),cD,λh=> ?_⟩;have h': ¬(60<n\/30<(ws.length:Int)):=by simpa using h
  have gs:ws.take i.toNat=ws:=bi G;rw[gs] at hn;exact⟨G,G,G⟩
theorem LY {so od sz:Int} {ws:AD} (hs:0<=so/\so<=2) (ho:od=0\/od=1) (hb: ∀w∈ws,aL w) (cg: ¬gD ws) (hx: ∃L TS,ExtR ws L TS 0) (hN:ws.flatten.length<=400/\ws.length<=400) (hz:0<=sz):aL (oQ so od sz ws):=by
 have ur:=(rC (od:=od) hb cg hx hN).2;unfold oQ;intro x h;simp only[fo] at h;rcases h with(((h|h)|h)|h)|h|h
 ·simp only[iw,uq,Hq] at h;omega
 ·simp only[iw,uq,Hq] at h;omega
 ·exact bZ hz x h
 ·split at h
  ·cases h
  ·exact ur x h
 ·exact bZ cC x h
 ·exact bZ G x h
theorem aTl (cg: ¬gD ws) (h1:ws.length<=1000) (h2:ws.flatten.length<=100000): ∃L TS,ExtR ws L TS 0:=aDg (λw hw=>Ha λe=>cg ⟨w,hw,e⟩) h1 h2
variable {TS t u L:AH} {B g gc ar am nt ct:Nat} {w0 w:World} {X R0 R Rs Y X0:List Row} {an At:AF} {p1 p2 p3 ms tt n Na so od sz q0 q1 q2 q3 lim:Int} {ws:AD}
theorem aJb:nD TS++t=aU (TS.length:Int)++(((TS.drop (0:Int).toNat).map aU).flatten++t):=by
 unfold nD;simp
theorem aJc {i:Int} (h0:0<=i) (h1:i<TS.length):((TS.drop i.toNat).map aU).flatten++t=aU (rd TS i)++(((TS.drop (i+1).toNat).map aU).flatten++t):=by
 rw[eP h0 h1];simp
theorem aKr {ls:Int} {TS:AH} (al:RdC B w0 R0 an ar am 1 (ints .u8 u)) (bx:ar=u.length) (hN:u.length<=1000000) (ac:aL u) (Of: ∀x∈TS,0<x/\x<=n) (hn:n<=1000000/\TS.length<=400) (hu:u=nD TS++t):
  CT 159 #[PG g,I n] B w0 ((rc 87 10 g [PG gc,I 3,I p1,I p2,I p3,I ms,I tt,I ls,sl At nt ct,sl none 0 0])::(rc 146 1 gc [sl an ar am])::(X++R0)) (λv R'=> ∃(A8:AF) (c8:Nat),∃(A9:AF) (c9:Nat),RdC B w0 R0 A9 (t).length c9 1 (ints .u8 (t))/\v= .tuple #[sl A8 TS.length c8,bt]/\R'=(ri 3 A8 TS.length c8 TS)::(rc 87 10 g [PG gc,I 3,I p1,I p2,I p3,I ms,I tt,I ls,sl At nt ct,sl none 0 0])::(rc 146 1 gc [sl A9 ((t).length) c9])::(X++R0)):=by
 subst bx;rw[aJb] at hu;have ux:=bg List.length hu;simp only[ai] at ux;have j9:=ac;rw[hu] at j9;have vu:aL (((TS.drop (0:Int).toNat).map aU).flatten++t):=aL.back j9;refine fn2 Gq Z Z Z ?_;refine wq<|wg Z<|wn Z<|aD<|wq<|wm Z<|wy (aF Z)<|wy (yF 1 1 dw eF Z)<|wy (yF 0 1 bz sz3 Z)<|wy (yL 0 au Z Z Z)<|aA<|aI ?_;refine wq<|wQ Z Z<|wn Z<|aN Z<|wq<|wR Z Z<|wn Z<|dI Z<|wq<|wm Z ?_;refine wa (aC EF Z ((lH (X:=([]++X)) (R0:=R0) ((TS.length:Int)) (((TS.drop (0:Int).toNat).map aU).flatten++t) al Z G cF G hu))) ?_;rintro _ _⟨cr,co,mn,rfl,rfl⟩;refine wm Z<|wX Z Z<|wX Z Z<|wg Z<|wn Z<|aD<|wq<|wm Z<|wy (dH Z)<|wm Z<|aB Z Z<|wm Z<|aB Z Z ?_;refine wy (Yl.f (dN Z Z))<|wy (aP Z Z)<|aA<|aN Z<|aH<|wq<|bR (R1:=((ri 3 none 0 0 ([]))::(rc 87 10 g [PG gc,I 3,I p1,I p2,I p3,I ms,I tt,I ls,sl At nt ct,sl none 0 0])::(rc 146 1 gc [sl cr ((((TS.drop (0:Int).toNat).map aU).flatten++t).length) co])::(X++R0))) (Sub.refl _) (λ_ h=>h.nil 3 1)<|wn Z<|aD<|wq<|wm Z<|wm Z ?_;refine aA<|aI ?_;refine GL (λ(i:Int) (Ac:AF) (cc:Nat) (A1:AF) (n1:Nat) (c1:Nat) (acc:AH)=>[(0,PG g),(1,I n),(10,sl A1 n1 c1),(46,I (TS.length:Int)),(47,I i)]) (λi Ac cc A1 n1 c1 acc=>((ri 3 A1 n1 c1 acc)::(rc 87 10 g [PG gc,I 3,I p1,I p2,I p3,I ms,I tt,I ls,sl At nt ct,sl none 0 0])::(rc 146 1 gc [sl Ac ((((TS.drop (i).toNat).map aU).flatten++t).length) cc])::(X++R0))) (λi Ac cc A1 n1 c1 acc=>(0<=i)/\(i<=TS.length)/\(RdC B w0 R0 Ac (((TS.drop (i).toNat).map aU).flatten++t).length cc 1 (ints .u8 (((TS.drop (i).toNat).map aU).flatten++t)))/\((((TS.drop (i).toNat).map aU).flatten++t).length<=1000000)/\(aL (((TS.drop (i).toNat).map aU).flatten++t))/\(n1=acc.length)/\(acc=TS.take i.toNat)) (λi Ac cc A1 n1 c1 acc=>(TS.length-i).toNat) ?_ ?_
 ·exact⟨0,cr,co,none,0,0,[],⟨G,G,(mn),(by simp only[ai];omega),(vu),(Z),(Z)⟩,KP⟩
 intro i Ac cc A1 n1 c1 acc ⟨bb,ij,Fl,Tv,Ku,dp,bh⟩;have sp:=bg List.length bh;rw[ax] at sp;refine wq<|wL Z Z<|aA<|aD<|bA Z (λbc=> ?_) (λbc=> ?_)
 ·have ht0:=Of _ (bF (L:=TS) (k:=i) bb G);have Nq:=aJc (t:=t) bb G;have pj:=Ku;rw[Nq] at pj;have rr:=aL.back pj;have wb:=bg List.length Nq;simp only[ai] at wb Tv;refine aH<|aD<|aI<|wq<|wm Z<|wa (aC EF Z (Ct.pick [1,2,0] 3 cC Z (lH (X:=([(ri 3 A1 n1 c1 acc)]++X)) (R0:=R0) (rd TS i) (((TS.drop (i+1).toNat).map aU).flatten++t) Fl Z (by simp only[ai];omega) Ku G Nq))) ?_;rintro _ _⟨me,mz,ub,rfl,rfl⟩;refine wm Z<|wX Z Z<|wX Z Z<|wg Z<|wn Z<|aD<|wq<|wm Z<|wy (dH Z)<|wm Z<|aB Z Z<|wm Z<|aB Z Z ?_;refine wy (Yl.f (fO Z Z))<|wy (aP Z Z)<|wm Z<|aB Z Z<|wm Z<|aB Z Z<|wm Z<|aB Z Z<|wy (Yl.f (dN Z Z))<|wy (aP Z Z)<|aA<|aN Z<|aH<|aJ<|wm Z ?_;refine wm Z<|wa (bQ .i64 [rd TS i] aa zs3 Z Z Z) ?_;rintro _ _⟨u3,rfl,rfl⟩;refine wa (aY 3 Z aa zb3 Z Z Z (rdr 0 Z)) ?_;rintro _ _⟨en,cj,rfl,rfl⟩;refine bK (v:=sl en (n1+1) cj) Z<|wn Z<|aJ<|wA Z Z<|wm Z<|aA ?_;exact⟨i+1,me,mz,en,n1+1,cj,acc++([rd TS i]),⟨G,G,(ub),(by simp only[ai];omega),(rr),(by rw[ai,dp];rfl),(by rw[dF bb G,bh])⟩,G,SA,λ_ h=>h.selR (F:=[_,_,_,_]) (F':=[_,_,_]) [3,1,2] cC Z⟩
 ·refine aS<|wq<|wm Z<|wg Z<|wn Z ?_;rw[bi G] at bh;have hD:((TS.drop (i).toNat).map aU).flatten++t=t:=by rw[qm G];rfl
  have Tx:n1=TS.length:=by rw[dp,bh]
  refine bN (R1:=((ri 3 A1 n1 c1 acc)::(rc 87 10 g [PG gc,I 3,I p1,I p2,I p3,I ms,I tt,I ls,sl At nt ct,sl none 0 0])::(rc 146 1 gc [sl Ac ((((TS.drop (i).toNat).map aU).flatten++t).length) cc])::(X++R0))) hiZ ?_;refine⟨_,_,Z,Z,?_⟩;rw[hD] at Fl ⊢;rw[Tx,bh];exact⟨_,_,_,_,Fl,Z,Z⟩
theorem aVs {B:Nat} {w0:World} {ln:AF} {ml:Nat} {l:AH} {vb:AF} {vl:Nat} {ls:AD} (lj: ∀(B:Nat) (w0 w:World),Hp B w0 w R->Rd w ln l.length ml 1 (ints .u8 l)) (yq: ∀(B:Nat) (w0 w:World),Hp B w0 w R->Rd w vb TS.length vl 1 (ints .i64 TS)) (g8:aL l) (hN:l.length<=8000/\TS.length<=1000) (hO:(kH ((bU (fsL l)).map (dR l)) [] 0 TS)=some ls) (dr:OkB ls) (hF:ls.flatten.length<=8000/\ls.length<=1000):
  CT 161 #[PG g,sl ln l.length ml,sl vb TS.length vl] B w0 ((rc 87 10 g [PG gc,I 3,I p1,I p2,I p3,I ms,I tt,I Na,sl At nt ct,sl none 0 0])::R) (λv R'=> ∃(A2:AF) (c2:Nat) (Aw:AF) (cw:Nat) (vals:AG) (Rs:List Row),v= .tuple #[sl A2 ls.flatten.length c2,I 0]/\SlR .u8 Rs vals ls/\R'=(ru 5 A2 ls.flatten.length c2 ls.flatten)::(rc 87 10 g [PG gc,I 3,I p1,I p2,I p3,I ms,I tt,I Na,sl At nt ct,sl Aw vals.length cw])::⟨22,1,Aw,vals.length,cw,vals,false⟩::(Rs++R)):=by
 refine fn2 Gr Z Z Z ?_;refine wq<|wg Z<|wn Z<|aD<|wq<|wm Z<|wy (aF Z)<|wy (yF 1 1 dw eF Z)<|wy (yF 0 1 bz sz3 Z)<|wy (yL 0 au Z Z Z)<|aA<|aI ?_;refine wq<|wQ Z Z<|wn Z<|aN Z<|wq<|wQ Z Z<|wn Z<|aN Z<|wq<|wR Z Z ?_;refine wn Z<|dI Z<|wq<|wm Z<|wm Z<|wa (aC bIm Z (Ct.fresh (λw hw=>aDi ((λ_ h=>lj _ _ _ (h.right (R':=[_]))) w hw) ((λ_ h=>yq _ _ _ (h.right (R':=[_]))) w hw) g8 hN))) ?_;rintro _ _⟨_,rfl,Aw,cw,vals,Rs,rfl,Hv,rfl⟩;have hoE:oE (kH ((bU (fsL l)).map (dR l)) [] 0 TS)=0:=by rw[hO];rfl
 rw[hoE];have hs:SlR .u8 Rs vals ls:=by rw[hO] at Hv;exact Hv
 have hvl:=hs.1;have hw_1:=hs.left R;have hw_2:=λ(B:Nat) (w0 w:World) (h:Hp B w0 w (Rs++R))=>lj B w0 w h.right;have hw_3:=λ(B:Nat) (w0 w:World) (h:Hp B w0 w (Rs++R))=>yq B w0 w h.right;refine bR (R1:=(⟨22,1,Aw,vals.length,cw,vals,false⟩::(rc 87 10 g [PG gc,I 3,I p1,I p2,I p3,I ms,I tt,I Na,sl At nt ct,sl none 0 0])::(Rs++R))) (Sub.refl _) (λ_ h=>Hp.toTail (X:=[_]) (Y:=[_]) h)<|wm Z<|wX Z Z<|wX Z Z<|wg Z<|wn Z<|wq<|wm Z<|wm Z<|wy (aF Z)<|wy (yF 8 8 dw kK Z)<|wy (yF 1 9 ed kL Z)<|bY (aZ 1 Z Z Z kL Z Z Z Z (ak Z)) ?_;rintro _ _ rfl;refine aA<|wq<|wm Z<|wa (aC xX Z (Ct.fresh (λw hw=>gQ ((rdr 0 Z) w hw) (hw_1.slw dr (Hp.right (R':=[_,_]) hw)) ⟨G,G⟩))) ?_;rintro _ _⟨_,rfl,me,mz,rfl,rfl⟩;refine wm Z<|wg Z<|wn Z<|aX [0,2,1] 3 cC Z ?_;refine⟨_,_,Z,Z,?_⟩;exact⟨_,_,_,_,vals,Rs,Z,hs,Z⟩
theorem aCn (Rf: -1000000<=ms/\ms<=1000000):
  CT 158 #[PG g,I n] B w0 ((rc 87 10 g [PG gc,I 3,I p1,I p2,I p3,I ms,I 0,I Na,sl At nt ct,sl none 0 0])::R) (λv R'=>v= .bool (decide (n<=ms-0))/\R'=(rc 87 10 g [PG gc,I 3,I p1,I p2,I p3,I ms,I 0,I Na,sl At nt ct,sl none 0 0])::R):=by
 refine fn1 Gp Z Z Z ?_;refine wq<|wn Z<|aD<|wq<|wm Z<|wy (aF Z)<|wy (yF 1 1 dw eF Z)<|wy (yF 0 1 bz sz3 Z)<|wy (yL 0 au Z Z Z)<|wR Z Z<|wm Z<|aB Z Z ?_;refine wm Z<|aB Z Z<|wy (aF Z)<|aB Z Z<|wy (yF 6 6 dw sz3 Z)<|aB Z Z<|wy (yL 0 au Z Z Z)<|aB Z Z<|wy (Yl.f (dN Z Z) cC)<|wy (aQ Z Z)<|wm Z<|aB Z Z<|wm Z<|aB Z Z<|wy (aF Z) ?_;refine aB Z Z<|wy (yF 1 1 dw eF Z)<|aB Z Z<|wy (yF 0 1 bz sz3 Z)<|aB Z Z<|wy (yL 0 au Z Z Z)<|aB Z Z<|wy (Yl.f (iI Z Z) cC)<|aB Z Z<|wm Z<|aM Z Z Z Z<|aM Z Z Z Z<|aM Z Z Z Z<|aM Z Z Z Z<|aM Z Z Z Z ?_;refine aM Z Z Z Z<|aM Z Z Z Z<|aB Z Z<|wy (aP Z Z)<|wy (aP Z Z)<|aA<|aN Z<|aH<|aD<|bL mixed<|wD 0 Z (aK Z)<|wD 1 Z (aK Z)<|wD 2 Z (aF Z)<|wD 3 Z (yF 5 5 dw sz3 Z)<|wD 4 Z (yL 0 au Z Z Z) ?_;refine wD 5 Z (aK Z)<|wD 6 Z (aF Z)<|wD 7 Z (yF 6 6 dw sz3 Z)<|wD 8 Z (yL 0 au Z Z Z)<|wD 9 Z (nG Z Z)<|wD 10 Z (uV Z Z)<|wD 11 Z (bB Z)<|wN<|bN (R1:=((rc 87 10 g [PG gc,I 3,I p1,I p2,I p3,I ms,I 0,I Na,sl At nt ct,sl none 0 0])::R)) hiZ ?_;exact⟨_,Z,Z,Z⟩
theorem Hp.toTailX (h:Hp B w0 w ((X++Rs)++(Y++(X0++R0)))):Hp B w0 w (X++(Y++((Rs++X0)++R0))):=by
 rw[ek Rs];exact Hp.toTail h
theorem Hp.toTailY (h:Hp B w0 w (X++((Rs++(Y++X0))++R0))):Hp B w0 w (X++(Y++((Rs++X0)++R0))):=by
 rw[ek,ek,<-ek X] at h;exact Hp.toTailX h
theorem aEd {ws:AD} (al:RdC B w0 R0 an ar am 1 (ints .u8 u)) (bx:ar=u.length) (hN:u.length<=1000000) (ac:aL u) (hx:ExtR ws L TS 0) (ur: ∀w∈ws,aL w) (hW:ws.flatten.length<=400/\ws.length<=400) (hu:u=nD TS++(aU ((bX L p2).length:Int)++(fM (bv (gP (canon ws).flatten))++(bX L p2++t)))) (nf:p2=0\/p2=1) (hn:(((canon ws).flatten.length:Nat):Int)<=ms/\ms<=1000000):
  CT 91 #[PG g,I (((canon ws).flatten.length:Nat):Int)] B w0 ((rc 87 10 g [PG gc,I 3,I p1,I p2,I p3,I ms,I 0,I Na,sl At nt ct,sl none 0 0])::(rc 146 1 gc [sl an ar am])::(X++R0)) (λv R'=> ∃(Aw:AF) (cw:Nat) (vals:AG) (Rs:List Row),∃(A9:AF) (c9:Nat),RdC B w0 R0 A9 (t).length c9 1 (ints .u8 (t))/\SlR .u8 Rs vals (canon ws)/\v=I 0/\R'=(rc 87 10 g [PG gc,I 3,I p1,I p2,I p3,I ms,I (0+(((canon ws).flatten.length:Nat):Int)),I Na,sl At nt ct,sl Aw vals.length cw])::(rc 146 1 gc [sl A9 ((t).length) c9])::⟨22,1,Aw,vals.length,cw,vals,false⟩::((Rs++X)++R0)):=by
 subst bx;have ux:=bg List.length hu;simp only[ai] at ux;have j9:=ac;rw[hu] at j9;have Rf: -1000000<=ms/\ms<=1000000:=G
 have Pb:=hx.bytes ur;have ua:=BS hx;have yi:=sZ hx;have Mx:=hx.tlen;have ki:=eO ws;have hrnd:=aLz hx rfl ur;have Mg:OkB (canon ws):=qZ (λw hw=>⟨ur w hw,by have:=ql (nz hw);omega⟩);have Ys:=xR ws;have Lh:aL (canon ws).flatten:=λx hx=>by obtain⟨l,hl,hx⟩:=uf.1 hx;exact(Mg l hl).1 x hx
 have ie:0<=bv (gP (canon ws).flatten)/\bv (gP (canon ws).flatten)<4294967296:=⟨by unfold bv;omega,by unfold bv;have:=(gP (canon ws).flatten).isLt;omega⟩;refine fn1 Ii Z Z Z ?_;refine wq<|wn Z<|aD<|wq<|wm Z<|wm Z<|wa (aC aHr Z (Ct.at 0 Z (aCn Rf))) ?_;rintro _ _⟨rfl,rfl⟩;refine oG 13 Z G<|wy (dH Z)<|aA<|aN Z<|aH<|wq<|wm Z<|wy (aF Z)<|wy (yF 6 6 dw sz3 Z)<|wy (yL 0 au Z Z Z)<|wm Z<|wA Z Z<|wy (aF Z)<|wy (yF 6 6 dw sz3 Z) ?_;refine bY (aZ 0 Z Z Z sz3 Z Z Z Z (ak Z)) ?_;rintro _ _ rfl;refine aA<|wq<|wm Z<|wm Z<|wa (aC aHq Z ((aKr (X:=([]++X)) (R0:=R0) (TS:=TS) (t:=aU ((bX L p2).length:Int)++(fM (bv (gP (canon ws).flatten))++(bX L p2++t))) al Z G ac (λx hx=>⟨(yi x hx).1,by have:=(yi x hx).2;omega⟩) ⟨G,G⟩ hu))) ?_;rintro _ _⟨me,mz,cr,co,mn,rfl,rfl⟩;refine wm Z<|wX Z Z<|wX Z Z<|wg Z<|wn Z<|aD<|wq<|wm Z<|wy (dH Z)<|aA<|aN Z<|aH<|aD ?_;refine aJ<|wm Z<|wm Z<|wa (aC aHp Z (Ct.pick [1,2,0] 3 cC Z (xL (X:=([(ri 3 me TS.length mz TS)]++X)) (R0:=R0) (x:=bv (gP (canon ws).flatten)) (l:=L) (t:=t) mn Z (by simp only[ai];omega) (aL.back j9) ie nf Pb G Z))) ?_;rintro _ _⟨en,cj,fh,kh,Mt,rfl,rfl⟩;refine wm Z<|wX Z Z<|wX Z Z<|wX Z Z<|wg Z<|wg Z<|wn Z<|aD<|wq<|wm Z<|wy (dH Z)<|aA<|aN Z ?_;refine aH<|wq<|wm Z<|wm Z<|wm Z<|wa (aC aHo Z (Ct.pick [1,0,2,3] 4 cC Z (aVs (λ_ _=>(rdr 0 Z)) (λ_ _=>(rdr 2 Z)) Pb ⟨G,G⟩ hrnd Mg ⟨G,G⟩))) ?_;rintro _ _⟨A2,c2,Aw,cw,vals,Rs,rfl,hs,rfl⟩;refine bR (R1:=((ru 5 A2 ((canon ws).flatten.length) c2 ((canon ws).flatten))::(rc 87 10 g [PG gc,I 3,I p1,I p2,I p3,I ms,I (0+(((canon ws).flatten.length:Nat):Int)),I Na,sl At nt ct,sl Aw vals.length cw])::⟨22,1,Aw,vals.length,cw,vals,false⟩::(ru 5 en ((L).length) cj L)::(rc 146 1 gc [sl fh ((t).length) kh])::(ri 3 me TS.length mz TS)::((Rs++X)++R0))) (Sub.refl _) (λ_ h=>Hp.toTailX (X:=[_,_,_]) (Y:=[_,_,_]) h)<|wm Z<|wX Z Z<|wX Z Z<|wg Z<|wn Z<|aD<|wq<|wm Z<|wy (Yl.f (iI Z Z) cC)<|aA<|aN Z<|aH ?_;refine aD<|wq<|wa (aC YM Z (Ct.fresh (λw hw=>mD))) ?_;rintro _ _⟨_,rfl,lf,rfl,rfl⟩;refine wm Z<|wa (iA [Value.slice A2 ((canon ws).flatten.length) c2] ay mJ Z Z Z Z) ?_;rintro _ _⟨n7,rfl,rfl⟩;refine wa (aC YL Z (Ct.at 1 Z (lZ (ls:=[(canon ws).flatten]) (.inl ⟨Z,Z,cz ..,G⟩) (rdr 0 rfl) rfl (wV.one (l:=(canon ws).flatten) (rdr 1 rfl) Lh (by first|rfl|simp|(simp[upd];done))) (Big.one (by first|omega|decide|simp))))) ?_;rintro _ _⟨rfl,rfl⟩;refine wm Z<|wy (Yl.f (aEz (p:=gP ([(canon ws).flatten]).flatten) (q:=gP (canon ws).flatten) Z Z) (λh=>h cD)) ?_;refine aA<|aN Z<|aH<|aD<|wq<|wm Z<|wy (aF Z)<|wy (yF 1 1 dw eF Z)<|wy (yF 0 1 bz sz3 Z)<|wy (yL 3 au Z Z Z)<|wy (Yl.f (iI Z Z) cC)<|aA<|aN Z<|aH ?_;refine wq<|wn Z<|aX [3,6,4] 8 cC Z ?_;exact⟨_,Z,_,_,vals,Rs,_,_,Mt,hs,Z,Z⟩
theorem aMh {ws:AD} (hw:ws≠[]) (hx:ExtR ws L TS 0) (hb: ∀w∈ws,aL w):oQ so od sz ws=[87,72,82,76,1]++([3,so,od]++(aU sz++(aU (((canon ws).flatten.length:Nat):Int)++(nD TS++(aU ((bX L od).length:Int)++(fM (bv (gP (canon ws).flatten))++(bX L od++(aU 0++aU (((canon ws).flatten.length:Nat):Int))))))))):=by
 unfold oQ fH;rw[df hw,TR hx hb];simp only[ek,ja,ig]
theorem aMi:oQ so od sz []=[87,72,82,76,1]++([3,so,od]++(aU sz++(aU 0++aU 0))):=by
 unfold oQ;have h:(canon []).flatten.length=0:=eO [];rw[di rfl,h];simp only[ek,ja,ig];rfl
theorem aNb (hw:ws≠[]) (cg: ¬gD ws):0<ws.flatten.length:=by
 cases ws with
 |nil=>exact absurd rfl hw
 |cons w l=>
  rw[mh,ai];have: ¬w.length=0:=λh=>cg ⟨w, .head _,h⟩;omega
theorem aQj (al:RdC B w0 R0 an ar am 1 (ints .u8 u)) (bx:ar=u.length) (hN:u.length<=1000000) (ac:aL u) (hp:(0<=so/\so<=2)/\(od=0\/od=1)/\(1<=sz/\sz<=16777216)) (Rf: -1000000<=ms/\ms<=1000000) (hu:u=oQ so od sz []):
  CT 51 #[PG g] B w0 ((rc 87 10 g [PG gc,I q0,I q1,I q2,I q3,I ms,I 0,I 0,sl At nt ct,sl none 0 0])::(rc 146 1 gc [sl an ar am])::(X++R0)) (λv R'=> ∃(A9:AF) (c9:Nat),v=I 0/\R'=(rc 87 10 g [PG gc,I 3,I so,I od,I sz,I ms,I 0,I 0,sl At nt ct,sl none 0 0])::(rc 146 1 gc [sl A9 0 c9])::(X++R0)):=by
 subst bx;rw[aMi] at hu;have ux:=bg List.length hu;simp only[ai,dm,jg] at ux;have a6:=ac;rw[hu] at a6;have vu:aL (aU 0++aU 0):=aL.back (aL.back (aL.back a6));refine fn1 Kk Z Z Z ?_;refine wq<|wn Z<|aD<|wq<|wm Z<|wa (aC bEx Z ((LK (X:=([]++X)) (R0:=R0) (b0:=3) (b1:=so) (b2:=od) (sz:=sz) (t:=aU 0++aU 0) al Z G ac hu cC hp))) ?_;rintro _ _⟨cr,co,mn,rfl,rfl⟩;refine wy (dH Z)<|aA<|aN Z<|aH<|wq<|wn Z<|aD<|aI<|oJ 3<|dZ<|aI<|wq ?_;refine wm Z<|wa (aC EF Z ((lH (X:=([]++X)) (R0:=R0) (0) (aU 0) mn Z (by simp only[ai];omega) vu cC Z))) ?_;rintro _ _⟨me,mz,ub,rfl,rfl⟩;refine wm Z<|wX Z Z<|wX Z Z<|wg Z<|wn Z<|aD<|wq<|wm Z<|wy (dH Z)<|aA<|aN Z<|aH<|aD ?_;refine wq<|wm Z<|wR Z Z<|aA<|dI Z<|aS<|wq<|wm Z<|wa (aC EF Z ((lH (X:=([]++X)) (R0:=R0) (0) ([]) ub Z G (aL.back vu) G (ji _).symm))) ?_;rintro _ _⟨ft,ee,uc,rfl,rfl⟩;refine wm Z<|wX Z Z<|wX Z Z<|wg Z<|wn Z<|aD<|wq<|wm Z<|wy (dH Z)<|wm Z<|aB Z Z<|wm Z<|aB Z Z ?_;refine wm Z<|aB Z Z<|wy (aF Z)<|aB Z Z<|wy (yF 6 6 dw sz3 Z)<|aB Z Z<|wy (yL 0 au Z Z Z)<|aB Z Z<|wy (Yl.f (iI Z Z) cC)<|wy (aP Z Z)<|wm Z<|aB Z Z<|wm Z<|aB Z Z<|wy (aF Z) ?_;refine aB Z Z<|wy (yF 0 0 dw VP Z)<|aB Z Z<|wy (yL 0 yf Z Z Z)<|aB Z Z<|wa (aC bEw Z (Ct.pick [1,0] 2 cC Z (LJ (k:=0) (R:=([(rc 87 10 g [PG gc,I 3,I so,I od,I sz,I ms,I 0,I 0,sl At nt ct,sl none 0 0])]++X)++R0) (RdC.right uc ([(rc 87 10 g [PG gc,I 3,I so,I od,I sz,I ms,I 0,I 0,sl At nt ct,sl none 0 0])]++X)) Z))) ?_;rintro _ _⟨rfl,rfl⟩;refine aB Z Z<|wy (Yl.f (dN Z Z) cC)<|wy (aP Z Z)<|wm Z<|aB Z Z<|wm Z<|aB Z Z<|wm Z<|aM Z Z Z Z<|aM Z Z Z Z<|aM Z Z Z Z<|aM Z Z Z Z<|aM Z Z Z Z<|aM Z Z Z Z<|aB Z Z ?_;refine wy (aP Z Z)<|wy (aP Z Z)<|aA<|aN Z<|aH<|wq<|wn Z<|aX [1,0] 2 cC Z ?_;exact⟨_,Z,_,_,Z,Z⟩
theorem aQi {ws:AD} (al:RdC B w0 R0 an ar am 1 (ints .u8 u)) (bx:ar=u.length) (hN:u.length<=1000000) (ac:aL u) (hp:(0<=so/\so<=2)/\(od=0\/od=1)/\(1<=sz/\sz<=16777216)) (Rf: -1000000<=ms/\ms<=1000000) (hu:u=oQ so od sz ws) (hw:ws≠[]) (cg: ¬gD ws) (hx:ExtR ws L TS 0) (ur: ∀w∈ws,aL w) (hW:ws.flatten.length<=400/\ws.length<=400) (hm:(ws.flatten.length:Int)<=ms):
  CT 51 #[PG g] B w0 ((rc 87 10 g [PG gc,I q0,I q1,I q2,I q3,I ms,I 0,I 0,sl At nt ct,sl none 0 0])::(rc 146 1 gc [sl an ar am])::(X++R0)) (λv R'=> ∃(Aw:AF) (cw:Nat) (vals:AG) (Rs:List Row) (L7:Int) (A9:AF) (c9:Nat),SlR .u8 Rs vals (canon ws)/\v=I 0/\R'=(rc 87 10 g [PG gc,I 3,I so,I od,I sz,I ms,I (0+(((canon ws).flatten.length:Nat):Int)),I L7,sl At nt ct,sl Aw vals.length cw])::(rc 146 1 gc [sl A9 0 c9])::⟨22,1,Aw,vals.length,cw,vals,false⟩::((Rs++X)++R0)):=by
 subst bx;rw[aMh hw hx ur] at hu;have ux:=bg List.length hu;simp only[ai,dm,jg] at ux;have a6:=ac;rw[hu] at a6;have vu:aL (aU (((canon ws).flatten.length:Nat):Int)++(nD TS++(aU ((bX L od).length:Int)++(fM (bv (gP (canon ws).flatten))++(bX L od++(aU 0++aU (((canon ws).flatten.length:Nat):Int))))))):=aL.back (aL.back (aL.back a6));have pj:=aL.back vu;have rr:aL (aU 0++aU (((canon ws).flatten.length:Nat):Int)):=aL.back (aL.back (aL.back (aL.back pj)));have ki:=eO ws;have hcp:=aNb hw cg;have Tv:ws.flatten.length=ws.flatten.length:=rfl;refine fn1 Kk Z Z Z ?_;refine wq<|wn Z<|aD<|wq<|wm Z<|wa (aC bEx Z ((LK (X:=([]++X)) (R0:=R0) (b0:=3) (b1:=so) (b2:=od) (sz:=sz) (t:=aU (((canon ws).flatten.length:Nat):Int)++(nD TS++(aU ((bX L od).length:Int)++(fM (bv (gP (canon ws).flatten))++(bX L od++(aU 0++aU (((canon ws).flatten.length:Nat):Int))))))) al Z G ac hu cC hp))) ?_;rintro _ _⟨cr,co,mn,rfl,rfl⟩;refine wy (dH Z)<|aA<|aN Z<|aH<|wq<|wn Z<|aD<|aI<|oJ 3<|dZ<|aI<|wq ?_;refine wm Z<|wa (aC EF Z ((lH (X:=([]++X)) (R0:=R0) ((((canon ws).flatten.length:Nat):Int)) (nD TS++(aU ((bX L od).length:Int)++(fM (bv (gP (canon ws).flatten))++(bX L od++(aU 0++aU (((canon ws).flatten.length:Nat):Int)))))) mn Z (by simp only[ai];omega) vu G Z))) ?_;rintro _ _⟨me,mz,ub,rfl,rfl⟩;refine wm Z<|wX Z Z<|wX Z Z<|wg Z<|wn Z<|aD<|wq<|wm Z<|wy (dH Z)<|aA<|aN Z<|aH<|aD ?_;refine wq<|wm Z<|wy (Yl.f (gT Z Z))<|aA<|aN Z<|aH<|aD<|bL mixed<|wD 0 Z (aK Z)<|wD 1 Z (aK Z)<|wG 2 Z Z Z (aK Z)<|wG 3 Z Z Z (aF Z)<|wG 4 Z Z Z (yF 7 7 dw sz3 Z)<|wG 5 Z Z Z (yL 0 au Z Z Z) ?_;refine wG 6 Z Z Z (Yl.f (dN Z Z) cC)<|wG 7 Z Z Z (aK Z)<|wO 8 Z Z Z<|wO 9 Z Z Z<|wO 10 Z Z Z<|wO 11 Z Z Z<|wO 12 Z Z Z<|wO 13 Z Z Z<|wO 14 Z Z Z<|wO 15 Z Z Z<|wO 16 Z Z Z<|wO 17 Z Z Z<|wG 18 Z Z Z (aP Z Z)<|wD 19 Z (aP Z Z)<|wD 20 Z (bB Z) ?_;refine wN<|aD<|wq<|wm Z<|wm Z<|wa (aC bGy Z ((aEd (X:=([]++X)) (R0:=R0) (t:=aU 0++aU (((canon ws).flatten.length:Nat):Int)) ub Z (by simp only[ai];omega) pj hx ur hW Z hp.2.1 ⟨G,G⟩))) ?_;rintro _ _⟨Aw,cw,vals,Rs,ft,ee,uc,hs,rfl,rfl⟩;refine bR (R1:=((rc 87 10 g [PG gc,I 3,I so,I od,I sz,I ms,I (0+(((canon ws).flatten.length:Nat):Int)),I 0,sl At nt ct,sl Aw vals.length cw])::(rc 146 1 gc [sl ft ((aU 0++aU (((canon ws).flatten.length:Nat):Int)).length) ee])::⟨22,1,Aw,vals.length,cw,vals,false⟩::((Rs++X)++R0))) (Sub.refl _) (λ_ h=>Hp.toTailY (X:=[_,_,_]) (Y:=[]) h)<|wn Z<|wq<|wm Z<|wy (Yl.f (iI Z Z) cC)<|aA<|aN Z<|aH<|aJ<|wm Z<|wm Z<|wy (aF Z)<|wy (yF 7 7 dw sz3 Z) ?_;refine bY (aZ 0 Z Z Z sz3 Z Z Z Z (ak Z)) ?_;rintro _ _ rfl;refine aA<|dZ<|aI<|wq<|wm Z<|wa (aC EF Z ((lH (X:=([⟨22,1,Aw,vals.length,cw,vals,false⟩]++(Rs++X))) (R0:=R0) (0) (aU (((canon ws).flatten.length:Nat):Int)) uc Z (by simp only[ai];omega) rr cC Z))) ?_;rintro _ _⟨br,bw,xi,rfl,rfl⟩;refine wm Z<|wX Z Z<|wX Z Z<|wg Z<|wn Z<|aD<|wq<|wm Z<|wy (dH Z)<|aA<|aN Z<|aH<|aD ?_;refine wq<|wm Z<|wR Z Z<|aA<|dI Z<|aS<|wq<|wm Z<|wa (aC EF Z ((lH (X:=([⟨22,1,Aw,vals.length,cw,vals,false⟩]++(Rs++X))) (R0:=R0) ((((canon ws).flatten.length:Nat):Int)) ([]) xi Z G (aL.back rr) G (ji _).symm))) ?_;rintro _ _⟨fa,fb,Uk,rfl,rfl⟩;refine wm Z<|wX Z Z<|wX Z Z<|wg Z<|wn Z<|aD<|wq<|wm Z<|wy (dH Z)<|wm Z<|aB Z Z<|wm Z<|aB Z Z ?_;refine wm Z<|aB Z Z<|wy (aF Z)<|aB Z Z<|wy (yF 6 6 dw sz3 Z)<|aB Z Z<|wy (yL 0 au Z Z Z)<|aB Z Z<|wy (Yl.f (iI Z Z))<|wy (aP Z Z)<|wm Z<|aB Z Z<|wm Z<|aB Z Z<|wy (aF Z) ?_;refine aB Z Z<|wy (yF 0 0 dw VP Z)<|aB Z Z<|wy (yL 0 yf Z Z Z)<|aB Z Z<|wa (aC bEw Z (Ct.pick [1,0,2] 3 cC Z (LJ (k:=0) (R:=([(rc 87 10 g [PG gc,I 3,I so,I od,I sz,I ms,I (0+(((canon ws).flatten.length:Nat):Int)),I (((canon ws).flatten.length:Nat):Int),sl At nt ct,sl Aw vals.length cw]),⟨22,1,Aw,vals.length,cw,vals,false⟩]++(Rs++X))++R0) (RdC.right Uk ([(rc 87 10 g [PG gc,I 3,I so,I od,I sz,I ms,I (0+(((canon ws).flatten.length:Nat):Int)),I (((canon ws).flatten.length:Nat):Int),sl At nt ct,sl Aw vals.length cw]),⟨22,1,Aw,vals.length,cw,vals,false⟩]++(Rs++X))) Z))) ?_;rintro _ _⟨rfl,rfl⟩;refine aB Z Z<|wy (Yl.f (dN Z Z) cC)<|wy (aP Z Z)<|wm Z<|aB Z Z<|wm Z<|aB Z Z<|wm Z<|aM Z Z Z Z<|aM Z Z Z Z<|aM Z Z Z Z<|aM Z Z Z Z<|aM Z Z Z Z<|aM Z Z Z Z<|aB Z Z ?_;refine wy (aP Z Z)<|wy (aP Z Z)<|aA<|aN Z<|aH<|wq<|wn Z<|aX [1,0,2] 3 cC Z ?_;exact⟨_,Z,_,_,vals,Rs,_,_,_,hs,Z,Z⟩
theorem Hp.toTailZ (h:Hp B w0 w (X++((Rs++[])++Y))):Hp B w0 w (X++(Y++Rs)):=by
 rw[ji,<-ek] at h;exact Hp.toTail0 h
theorem aUo (al:Rd w an ar am 1 (ints .u8 u)) (ac:aL u) (hN:u.length<=1000000) (hp:(0<=so/\so<=2)/\(od=0\/od=1)/\(1<=sz/\sz<=16777216)) (Mk: -1000<=lim/\lim<=1000000) (hu:u=oQ so od sz []):
  CF 19 #[sl an ar am,I lim] w (λv R'=>v= .tuple #[.agg #[sl none 0 0,sl none 0 0], .agg #[I 3,I so,I od,I sz],I 0]):=by
 obtain rfl:=al.lenI;refine aTg Kj Z Z Z ed Z kK bz Z eF ?_;have mv:=al.max;refine wq<|wa (eH (sz:=2) aAl Z) ?_;rintro _ _⟨ao,rfl,rfl⟩;refine wa (eH (sz:=4) aAk Z) ?_;rintro _ _⟨db,rfl,rfl⟩;refine wn Z<|wq<|wm Z<|wa (aC bEz Z (Ct.fresh (λw hw=>uL ((al.c _) w hw) hN))) ?_;rintro _ _⟨_,rfl,ew,me,mz,rfl,rfl⟩;refine wm Z<|wy (uP Z Z)<|wy (gV (v:= .agg #[PG ew,I 0,I 0,I 0,I 0,I (min lim 100000),I 0,I 0,sl none 0 0,sl none 0 0]) Z (λw=>cA))<|wa (dC (sz:=10) rfl rfl) ?_;rintro _ _⟨fd,rfl,rfl⟩;refine wn Z<|aD<|wq<|wm Z<|wa (aC bEy Z ((aQj (X:=[]) (R0:=[(ru 5 me ((u).length) mz u),(rc 27 4 db [I 0,I 0,I 0,I 0]),(rc 25 2 ao [sl none 0 0,sl none 0 0])]) (rdr 0 Z) Z hN ac hp G hu))) ?_;rintro _ _⟨ft,ee,rfl,rfl⟩;refine wn Z<|wq<|wm Z<|wy (Yl.f (iI Z Z) cC)<|aA<|aN Z<|aH<|aD<|GJ (Rc:=((rc 87 10 fd [PG ew,I 3,I so,I od,I sz,I (min lim 100000),I 0,I 0,sl none 0 0,sl none 0 0])::[])) mixed (λ_ h=>h.selR (F:=[_,_,_,_,_]) (F':=[_]) [0] cC Z) ?_;refine jM 0 Z cA Z (aK Z) ?_;refine jM 1 Z cA Z (aF Z) ?_;refine jM 2 Z cA Z (yF 8 8 dw kK Z) ?_;refine jM 3 Z cA Z (bM (vs:=[sl none 0 0,sl none 0 0]) (rdr 0 Z) ed Z kK Z Z (ak Z) Z) ?_;refine jM 4 Z cA Z (aK Z) ?_;refine jM 5 Z cA Z (aF Z) ?_;refine jM 6 Z cA Z (yF 1 1 dw eF Z) ?_;refine jM 7 Z cA Z (bM (vs:=[I 3,I so,I od,I sz]) (rdr 0 Z) bz Z eF Z Z (ak Z) Z) ?_;refine oD 8 cA ?_;refine aNc 8 Z (dO (vs:=[sl none 0 0,sl none 0 0]) 4 Z kK Z Z Z (by intro v hv;simp at hv;rcases hv with rfl|rfl<;>rfl) Z) ?_;rintro _ _ rfl;refine⟨λ_ h=>h.selR (F:=[_,_,_,_,_]) (F':=[_]) [0] cC Z,?_⟩;refine oD 9 cA ?_;refine aNc 9 Z (dO (vs:=[I 3,I so,I od,I sz]) 3 Z eF Z Z Z (by intro v hv;simp at hv;rcases hv with rfl|rfl|rfl|rfl<;>rfl) Z) ?_;rintro _ _ rfl;refine⟨λ_ h=>h.selR (F:=[_,_,_,_,_]) (F':=[_]) [0] cC Z,?_⟩;refine jM 10 Z cA Z (bB Z) ?_;refine EK cA ?_;refine bT ?_;refine⟨_,_,_,⟨_,4,_,Z,Z,Z,Z,Z,Z,Z,Z⟩,⟨_,3,_,Z,Z,Z,Z,Z,Z,Z,Z⟩,Z,[],λ_ h=>(h.selR (F:=[_,_,_,_,_]) (F':=[]) [] cC Z).left (X:=[]),?_⟩;rfl
theorem aZy {w:World} {ws:AD} (al:Rd w an ar am 1 (ints .u8 u)) (ac:aL u) (hN:u.length<=1000000) (hp:(0<=so/\so<=2)/\(od=0\/od=1)/\(1<=sz/\sz<=16777216)) (Mk: -1000<=lim/\lim<=1000000) (hu:u=oQ so od sz ws) (hw:ws≠[]) (cg: ¬gD ws) (hx:ExtR ws L TS 0) (ur: ∀w∈ws,aL w) (hW:ws.flatten.length<=400/\ws.length<=400) (hm:(ws.flatten.length:Int)<=lim):
  CF 19 #[sl an ar am,I lim] w (λv R'=> ∃(A:AF) (c:Nat) (vals:AG) (Rs:List Row),v= .tuple #[.agg #[sl none 0 0,sl A vals.length c], .agg #[I 3,I so,I od,I sz],I 0]/\SlR .u8 Rs vals (canon ws)/\R'=⟨22,1,A,vals.length,c,vals,false⟩::Rs):=by
 obtain rfl:=al.lenI;refine aTg Kj Z Z Z ed Z kK bz Z eF ?_;have mv:=al.max;refine wq<|wa (eH (sz:=2) aAl Z) ?_;rintro _ _⟨ao,rfl,rfl⟩;refine wa (eH (sz:=4) aAk Z) ?_;rintro _ _⟨db,rfl,rfl⟩;refine wn Z<|wq<|wm Z<|wa (aC bEz Z (Ct.fresh (λw hw=>uL ((al.c _) w hw) hN))) ?_;rintro _ _⟨_,rfl,ew,me,mz,rfl,rfl⟩;refine wm Z<|wy (uP Z Z)<|wy (gV (v:= .agg #[PG ew,I 0,I 0,I 0,I 0,I (min lim 100000),I 0,I 0,sl none 0 0,sl none 0 0]) Z (λw=>cA))<|wa (dC (sz:=10) rfl rfl) ?_;rintro _ _⟨fd,rfl,rfl⟩;refine wn Z<|aD<|wq<|wm Z<|wa (aC bEy Z ((aQi (X:=[]) (R0:=[(ru 5 me ((u).length) mz u),(rc 27 4 db [I 0,I 0,I 0,I 0]),(rc 25 2 ao [sl none 0 0,sl none 0 0])]) (rdr 0 Z) Z hN ac hp G hu hw cg hx ur hW G))) ?_;rintro _ _⟨Aw,cw,vals,Rs,L7,ft,ee,hs,rfl,rfl⟩;refine bR (R1:=((rc 87 10 fd [PG ew,I 3,I so,I od,I sz,I (min lim 100000),I (0+(((canon ws).flatten.length:Nat):Int)),I L7,sl none 0 0,sl Aw vals.length cw])::(rc 146 1 ew [sl ft 0 ee])::⟨22,1,Aw,vals.length,cw,vals,false⟩::(ru 5 me ((u).length) mz u)::(rc 27 4 db [I 0,I 0,I 0,I 0])::(rc 25 2 ao [sl none 0 0,sl none 0 0])::Rs)) (Sub.refl _) (λ_ h=>Hp.toTailZ (X:=[_,_,_]) (Y:=[_,_,_]) h)<|wn Z<|wq<|wm Z<|wy (Yl.f (iI Z Z) cC)<|aA<|aN Z<|aH<|aD<|GJ (Rc:=((rc 87 10 fd [PG ew,I 3,I so,I od,I sz,I (min lim 100000),I (0+(((canon ws).flatten.length:Nat):Int)),I L7,sl none 0 0,sl Aw vals.length cw])::⟨22,1,Aw,vals.length,cw,vals,false⟩::Rs)) mixed (λ_ h=>h.selR (F:=[_,_,_,_,_,_]) (F':=[_,_]) [0,2] cC Z) ?_;refine jM 0 Z cA Z (aK Z) ?_;refine jM 1 Z cA Z (aF Z) ?_;refine jM 2 Z cA Z (yF 8 8 dw kK Z) ?_;refine jM 3 Z cA Z (bM (vs:=[sl none 0 0,sl Aw vals.length cw]) (rdr 0 Z) ed Z kK Z Z (ak Z) Z) ?_;refine jM 4 Z cA Z (aK Z) ?_;refine jM 5 Z cA Z (aF Z) ?_;refine jM 6 Z cA Z (yF 1 1 dw eF Z) ?_;refine jM 7 Z cA Z (bM (vs:=[I 3,I so,I od,I sz]) (rdr 0 Z) bz Z eF Z Z (ak Z) Z) ?_;refine oD 8 cA ?_;refine aNc 8 Z (dO (vs:=[sl none 0 0,sl Aw vals.length cw]) 5 Z kK Z Z Z (by intro v hv;simp at hv;rcases hv with rfl|rfl<;>rfl) Z) ?_;rintro _ _ rfl;refine⟨λ_ h=>h.selR (F:=[_,_,_,_,_,_]) (F':=[_,_]) [0,2] cC Z,?_⟩;refine oD 9 cA ?_;refine aNc 9 Z (dO (vs:=[I 3,I so,I od,I sz]) 4 Z eF Z Z Z (by intro v hv;simp at hv;rcases hv with rfl|rfl|rfl|rfl<;>rfl) Z) ?_;rintro _ _ rfl;refine⟨λ_ h=>h.selR (F:=[_,_,_,_,_,_]) (F':=[_,_]) [0,2] cC Z,?_⟩;refine jM 10 Z cA Z (bB Z) ?_;refine EK cA ?_;refine bT ?_;refine⟨_,_,_,⟨_,5,_,Z,Z,Z,Z,Z,Z,Z,Z⟩,⟨_,4,_,Z,Z,Z,Z,Z,Z,Z,Z⟩,Z,(⟨22,1,Aw,vals.length,cw,vals,false⟩::Rs),λ_ h=>h.selR (F:=[_,_,_,_,_,_]) (F':=[_]) [2] cC Z,?_⟩;exact⟨_,_,vals,Rs,Z,hs,Z⟩
variable {w:World} {an Nb Au bl:AF} {ar am Nf cu cm bm:Nat} {u:AH} {k so od sz:Int} {ws:AD} {ap:AG}
theorem aRa (k so od sz:Int) (w:World):(binOp .eql 27 (.agg #[I k,I so,I od,I sz]) (.agg #[I k,I so,I od,I sz])).run Tryz.prog w= .ok bt w:=by
 have h0:(part 3 #[I k,I so,I od,I sz] 0).run Tryz.prog w= .ok (I k) w:=cA
 have h1:(part 3 #[I k,I so,I od,I sz] 1).run Tryz.prog w= .ok (I so) w:=cA
 have h2:(part 3 #[I k,I so,I od,I sz] 2).run Tryz.prog w= .ok (I od) w:=cA
 have h3:(part 3 #[I k,I so,I od,I sz] 3).run Tryz.prog w= .ok (I sz) w:=cA
 rw[run_eql_struct,run_equalIn_agg (d:=9999) _ _ _ _ cA cA];simp[Program.fieldsOf,bz,Op.eqFields,jl,h0,h1,h2,h3,λx=>run_equalIn_int (P:=Tryz.prog) w 9998 3 .i64 .i64 x x cA]
theorem KN (x y:Operand) (xs ys:Array Value) (w:World):(eqGuard .eql 27 x y (.agg xs) (.agg ys)).run Tryz.prog w= .ok () w:=run_eqGuard_agg w _ _ _ _ _ _ cA
theorem GZ {B:Nat} {w0:World} {R:List Row} {A:AF} {c:Nat}:RdC B w0 R A 0 c 1 (ints .u8 []):=qN
theorem MU:canon []=[]:=dx (by have:=xR [];simpa using this)
theorem ZR (al:Rd w an ar am 1 (ints .u8 u)) (ac:aL u) (Qg:u.length<=140737488355327) (hp:(0<=so/\so<=2)/\(od=0\/od=1)/\(1<=sz/\sz<=16777216)) (hk:k=0\/k=1\/k=2):
  CF 5 #[.agg #[sl an u.length am,sl Nb 0 Nf], .agg #[I k,I so,I od,I sz]] w (λv R'=>v=bt):=by
 obtain rfl:=al.lenI;refine fn1 Tryz.func5 Z Z Z ?_;have mv:=al.max;refine wq<|wa (dC (sz:=2) Z Z) ?_;rintro _ _⟨ao,rfl,rfl⟩;refine wa (dC (sz:=4) Z Z) ?_;rintro _ _⟨db,rfl,rfl⟩;refine wn Z<|aD<|wq<|wy (bM (vs:=[sl an u.length am,sl Nb 0 Nf]) (rdr 1 Z) ed Z kK Z Z (ak Z) Z)<|wa (aC aZw Z (Ct.quiet (λw hw=>xN (u:=u) (ws:=[]) ((al.c _) w hw) (qN w hw) ((eB .u8 _).c hw) Qg))) ?_;rintro _ _⟨rfl,b1,rfl,pj⟩;refine aA<|bA Z (λbc=> ?_) (λbc=> ?_)
 ·refine wq<|wn Z<|bN (R1:=[]) (λ_ h=>(h.selR (F:=[_,_]) (F':=[]) [] cC Z).left (X:=[])) ?_;refine⟨_,Z,?_⟩;rfl
 ·have Mw:=pj (by cases b1 with|false=>rfl|true=>exact absurd rfl bc);have hS:u.length<=60:=Mw.1;refine aH<|wq<|wy (bM (vs:=[sl an u.length am,sl Nb 0 Nf]) (rdr 1 Z) ed Z kK Z Z (ak Z) Z)<|wy (bM (vs:=[I k,I so,I od,I sz]) (rdr 0 Z) bz Z eF Z Z (ak Z) Z)<|wa (aC aUe Z (Ct.fresh (λw hw=>aHj (u:=u) ((al.c _) w hw) ac G hp hk))) ?_;rintro _ _⟨_,rfl,fg,fi,rfl,rfl⟩;refine wm Z<|wX Z Z<|wX Z Z<|wg Z<|wn Z<|aD<|wq<|wm Z<|wy (Yl.f (iI Z Z) cC)<|aA<|aN Z<|aH<|aD ?_;refine aJ<|wm Z<|wa (aC aZx Z (Ct.fresh (λw hw=>aHt (w:=u) (k:=k) (so:=so) (od:=od) (sz:=sz) ((rdr 0 Z) w hw) (oC (t:=k) (so:=so) (o:=od) (sz:=sz) (u:=u) ac G G G G G).1 (by have:=(oC (t:=k) (so:=so) (o:=od) (sz:=sz) (u:=u) ac G G G G G).2;omega) Z ac G G G G G))) ?_;rintro _ _⟨_,rfl,fz,mj,rfl,rfl⟩;refine wm Z<|wX Z Z<|wX Z Z<|wX Z Z<|wa (eH (sz:=2) aAl Z) ?_;rintro _ _⟨u3,rfl,rfl⟩;refine wa (eH (sz:=4) aAk Z) ?_;rintro _ _⟨zj,rfl,rfl⟩;refine bY (dO (vs:=[sl fz ((u).length) mj,sl none 0 0]) 1 Z kK Z Z Z (by intro v hv;simp at hv;rcases hv with rfl|rfl<;>rfl) Z) ?_;rintro _ _ rfl;refine bY (dO (vs:=[I k,I so,I od,I sz]) 0 Z eF Z Z Z (by intro v hv;simp at hv;rcases hv with rfl|rfl|rfl|rfl<;>rfl) Z) ?_;rintro _ _ rfl;refine wn Z<|aD<|bL mixed<|wD 0 Z (aK Z)<|wD 1 Z (Yl.t (gT Z Z) cC)<|wD 2 Z (aK Z)<|wG 3 Z Z Z (bM (vs:=[I k,I so,I od,I sz]) (rdr 0 Z) bz Z eF Z Z (ak Z) Z)<|wG 4 Z Z Z (bM (vs:=[I k,I so,I od,I sz]) (rdr 4 Z) bz Z eF Z Z (ak Z) Z)<|wG 5 Z Z Z (aOc (aRa _ _ _ _) (KN _ _ _ _) Z Z)<|wD 6 Z (aQ Z Z)<|wD 7 Z (aK Z)<|wG 8 Z Z Z (yF 0 0 ed dP Z)<|wG 9 Z Z Z (yL 1 ah Z Z Z)<|wG 10 Z Z Z (jR ah dh wo Z (rdr 2 Z)) ?_;refine wG 11 Z Z Z (yF 0 0 ed dP Z)<|wG 12 Z Z Z (yL 5 ah Z Z Z)<|wG 13 Z Z Z (jR ah dh wo Z (al.c _))<|wG 14 Z Z Z (Yl.t (OB Z Z ac ac) (Z))<|wD 15 Z (aQ Z Z)<|wD 16 Z (aK Z)<|wG 17 Z Z Z (yF 1 1 ed kL Z)<|wG 18 Z Z Z (yL 1 ay Z Z Z)<|wG 19 Z Z Z (yF 1 1 ed kL Z)<|wG 20 Z Z Z (yL 5 ay Z Z Z)<|uY 21 Z cA Z Z Z (aC bFb Z (Ct.fresh (λw hw=>EL (qN w hw) ((eB .u8 _).c hw) (show(∀w∈([]:AD),w.length<=8000)/\([]:AD).length<=100000 from⟨(λ_ h=>nomatch h),cC⟩)))) ?_;rintro _ _⟨_,rfl,gd,ce,l7,Sc,rfl,Id,rfl⟩;refine⟨.inr λ_ h=>h.right,?_⟩;have Rg:=Id.1;refine RY (R1:=(⟨22,1,gd,l7.length,ce,l7,false⟩::(rc 27 4 zj [I k,I so,I od,I sz])::(rc 25 2 u3 [sl fz ((u).length) mj,sl none 0 0])::(ru 5 fz ((u).length) mj u)::(ru 5 fg ((xW k so od sz u).length) fi (xW k so od sz u))::(rc 27 4 db [I k,I so,I od,I sz])::(rc 25 2 ao [sl an u.length am,sl Nb 0 Nf])::Sc)) (λ_=>Hp.toTailI0 (X:=[_]) (Y:=[_,_,_,_,_,_]))<|uY 22 Z cA Z Z Z (aC bFc Z (Ct.quiet (λw hw=>JM ((aFw _) w hw) (eB _ _) ((rdr 0 Z) w hw) (Id.slw (qZ aGk) (Hp.right (R':=[_,_,_,_,_,_,_]) hw)) (by first|omega|decide)))) ?_;rintro _ _⟨rfl,rfl⟩;refine⟨.inr hiZ,?_⟩;refine jS (v:=bt) (bg Value.bool (ko (MU.symm)))<|wD 23 Z (aQ Z Z)<|wD 24 Z (aK Z)<|uY 25 Z cA Z Z Z (aC aZv Z (Ct.quiet (λw hw=>uG))) ?_;rintro _ _⟨rfl,rfl⟩;refine⟨.inr hiZ,?_⟩;refine wD 26 Z (aQ Z Z)<|wD 27 Z (bB Z)<|wN<|bN (R1:=[]) (λ_ h=>(h.selR (F:=[_,_,_,_,_,_,_]) (F':=[]) [] cC Z).left (X:=[])) ?_;refine⟨_,Z,?_⟩;rfl
theorem QL {ws:AD} {L TS:AH} (hp:(0<=so/\so<=2)/\(od=0\/od=1)/\(1<=sz/\sz<=16777216)) (hb: ∀w∈ws,aL w) (cg: ¬gD ws) (hx:ExtR ws L TS 0) (hN:ws.flatten.length<=400/\ws.length<=400):(oQ so od sz ws).length<=4000:=by
 have e1:=(rC (od:=od) hb cg ⟨L,TS,hx⟩ hN).1;have e2:=dA 4 sz G;have e3:=eO ws;have e4:=dA 2 ((canon ws).flatten.length:Int) G;have e5:(aU 0).length=1:=rfl;unfold oQ;simp only[ai,dm,jg];split
 ·simp only[jg];omega
 ·omega
theorem ZT (hp:(0<=so/\so<=2)/\(od=0\/od=1)/\(1<=sz/\sz<=16777216)):
  CF 5 #[.agg #[sl Au 0 cu,sl Nb 0 Nf], .agg #[I 3,I so,I od,I sz]] w (λv R'=>v=bt):=by
 refine fn1 Tryz.func5 Z Z Z ?_;refine wq<|wa (dC (sz:=2) Z Z) ?_;rintro _ _⟨ao,rfl,rfl⟩;refine wa (dC (sz:=4) Z Z) ?_;rintro _ _⟨db,rfl,rfl⟩;refine wn Z<|aD<|wq<|wy (bM (vs:=[sl Au 0 cu,sl Nb 0 Nf]) (rdr 1 Z) ed Z kK Z Z (ak Z) Z)<|wa (aC aZw Z (Ct.quiet (λw hw=>xN (u:=[]) (ws:=[]) (GZ w hw) (qN w hw) ((eB .u8 _).c hw) cC))) ?_;rintro _ _⟨rfl,b1,rfl,pj⟩;refine aA<|bA Z (λbc=> ?_) (λbc=> ?_)
 ·refine wq<|wn Z<|bN (R1:=[]) (λ_ h=>(h.selR (F:=[_,_]) (F':=[]) [] cC Z).left (X:=[])) ?_;refine⟨_,Z,?_⟩;rfl
 ·have Mw:=pj (by cases b1 with|false=>rfl|true=>exact absurd rfl bc);have hN:([]:AD).flatten.length<=400/\([]:AD).length<=400:=cC
  have cg: ¬gD []:=λ⟨_,h,_⟩=>nomatch h
  have ur: ∀w∈([]:AD),aL w:=λ_ h=>nomatch h
  obtain⟨L,TS,hx⟩:=aTl cg cC cC;have hlw:=QL hp ur cg hx hN;refine aH<|wq<|wy (bM (vs:=[sl Au 0 cu,sl Nb 0 Nf]) (rdr 1 Z) ed Z kK Z Z (ak Z) Z)<|wy (bM (vs:=[I 3,I so,I od,I sz]) (rdr 0 Z) bz Z eF Z Z (ak Z) Z)<|wa (aC aUe Z (Ct.fresh (λw hw=>aHk (qN w hw) ((eB .u8 _).c hw) hp cg hN ⟨L,TS,hx⟩ (ws:=[])))) ?_;rintro _ _⟨_,rfl,fg,fi,rfl,rfl⟩;refine wm Z<|wX Z Z<|wX Z Z<|wg Z<|wn Z<|aD<|wq<|wm Z<|wy (Yl.f (iI Z Z) cC)<|aA<|aN Z<|aH<|aD ?_;refine aJ<|wm Z<|wa (aC aZx Z (Ct.quiet (λw hw=>aUo ((rdr 0 Z) w hw) (LY hp.1 hp.2.1 ur cg ⟨L,TS,hx⟩ hN G) G hp G Z))) ?_;rintro _ _⟨rfl,rfl⟩;refine wm Z<|wX Z Z<|wX Z Z<|wX Z Z<|wa (eH (sz:=2) aAl Z) ?_;rintro _ _⟨fd,rfl,rfl⟩;refine wa (eH (sz:=4) aAk Z) ?_;rintro _ _⟨u3,rfl,rfl⟩;refine bY (dO (vs:=[sl none 0 0,sl none 0 0]) 1 Z kK Z Z Z (by intro v hv;simp at hv;rcases hv with rfl|rfl<;>rfl) Z) ?_;rintro _ _ rfl;refine bY (dO (vs:=[I 3,I so,I od,I sz]) 0 Z eF Z Z Z (by intro v hv;simp at hv;rcases hv with rfl|rfl|rfl|rfl<;>rfl) Z) ?_;rintro _ _ rfl;refine wn Z<|aD<|bL mixed<|wD 0 Z (aK Z)<|wD 1 Z (Yl.t (gT Z Z) cC)<|wD 2 Z (aK Z)<|wG 3 Z Z Z (bM (vs:=[I 3,I so,I od,I sz]) (rdr 0 Z) bz Z eF Z Z (ak Z) Z)<|wG 4 Z Z Z (bM (vs:=[I 3,I so,I od,I sz]) (rdr 3 Z) bz Z eF Z Z (ak Z) Z)<|wG 5 Z Z Z (aOc (aRa _ _ _ _) (KN _ _ _ _) Z Z)<|wD 6 Z (aQ Z Z)<|wD 7 Z (aK Z)<|wG 8 Z Z Z (yF 0 0 ed dP Z)<|wG 9 Z Z Z (yL 1 ah Z Z Z)<|wG 10 Z Z Z (jR ah dh wo Z (JW _)) ?_;refine wG 11 Z Z Z (yF 0 0 ed dP Z)<|wG 12 Z Z Z (yL 4 ah Z Z Z)<|wG 13 Z Z Z (jR ah dh wo Z GZ)<|wG 14 Z Z Z (Yl.t (OB Z Z aL.nil aL.nil) (Z))<|wD 15 Z (aQ Z Z)<|wD 16 Z (aK Z)<|wG 17 Z Z Z (yF 1 1 ed kL Z)<|wG 18 Z Z Z (yL 1 ay Z Z Z)<|wG 19 Z Z Z (yF 1 1 ed kL Z)<|wG 20 Z Z Z (yL 4 ay Z Z Z)<|uY 21 Z cA Z Z Z (aC bFb Z (Ct.fresh (λw hw=>EL (qN w hw) ((eB .u8 _).c hw) (show(∀w∈([]:AD),w.length<=8000)/\([]:AD).length<=100000 from⟨(λ_ h=>nomatch h),cC⟩)))) ?_;rintro _ _⟨_,rfl,en,cj,qt,j5,rfl,ud,rfl⟩;refine⟨.inr λ_ h=>h.right,?_⟩;have r9:=ud.1;refine RY (R1:=(⟨22,1,en,qt.length,cj,qt,false⟩::(rc 27 4 u3 [I 3,I so,I od,I sz])::(rc 25 2 fd [sl none 0 0,sl none 0 0])::(ru 5 fg ((oQ so od sz []).length) fi (oQ so od sz []))::(rc 27 4 db [I 3,I so,I od,I sz])::(rc 25 2 ao [sl Au 0 cu,sl Nb 0 Nf])::j5)) (λ_=>Hp.toTailI0 (X:=[_]) (Y:=[_,_,_,_,_]))<|uY 22 Z cA Z Z Z (aC bFc Z (Ct.quiet (λw hw=>JM ((aFw _) w hw) (eB _ _) ((rdr 0 Z) w hw) (ud.slw (qZ aGk) (Hp.right (R':=[_,_,_,_,_,_]) hw)) (by first|omega|decide)))) ?_;rintro _ _⟨rfl,rfl⟩;refine⟨.inr hiZ,?_⟩;refine jS (v:=bt) (bg Value.bool (ko (MU.symm)))<|wD 23 Z (aQ Z Z)<|wD 24 Z (aK Z)<|uY 25 Z cA Z Z Z (aC aZv Z (Ct.quiet (λw hw=>uG))) ?_;rintro _ _⟨rfl,rfl⟩;refine⟨.inr hiZ,?_⟩;refine wD 26 Z (aQ Z Z)<|wD 27 Z (bB Z)<|wN<|bN (R1:=[]) (λ_ h=>(h.selR (F:=[_,_,_,_,_,_]) (F':=[]) [] cC Z).left (X:=[])) ?_;refine⟨_,Z,?_⟩;rfl
theorem ZQ (ba:Rd w bl cm bm 1 ap) (bp:SlW .u8 w ap ws) (hp:(0<=so/\so<=2)/\(od=0\/od=1)/\(1<=sz/\sz<=16777216)) (cg: ¬gD ws) (hw1:ws≠[]):
  CF 5 #[.agg #[sl Au 0 cu,sl bl ws.length bm], .agg #[I 3,I so,I od,I sz]] w (λv R'=>v=bt):=by
 obtain rfl:cm=ws.length:=by have:=ba.len;have:=bp.1;omega
 refine fn1 Tryz.func5 Z Z Z ?_;have ob:=ba.max;refine wq<|wa (dC (sz:=2) Z Z) ?_;rintro _ _⟨ao,rfl,rfl⟩;refine wa (dC (sz:=4) Z Z) ?_;rintro _ _⟨db,rfl,rfl⟩;refine wn Z<|aD<|wq<|wy (bM (vs:=[sl Au 0 cu,sl bl ws.length bm]) (rdr 1 Z) ed Z kK Z Z (ak Z) Z)<|wa (aC aZw Z (Ct.quiet (λw hw=>xN (u:=[]) (ws:=ws) (GZ w hw) ((ba.c _) w hw) (bp.c hw) cC))) ?_;rintro _ _⟨rfl,b1,rfl,pj⟩;refine aA<|bA Z (λbc=> ?_) (λbc=> ?_)
 ·refine wq<|wn Z<|bN (R1:=[]) (λ_ h=>(h.selR (F:=[_,_]) (F':=[]) [] cC Z).left (X:=[])) ?_;refine⟨_,Z,?_⟩;rfl
 ·have Mw:=pj (by cases b1 with|false=>rfl|true=>exact absurd rfl bc);have hN:ws.flatten.length<=400/\ws.length<=400:=⟨G,G⟩;have ur: ∀w∈ws,aL w:=λw hw=>((bp.okB) w hw).1;obtain⟨L,TS,hx⟩:=aTl cg G G;have hlw:=QL hp ur cg hx hN;have Mg:=qZ bp.okB;have Ys:=xR ws;refine aH<|wq<|wy (bM (vs:=[sl Au 0 cu,sl bl ws.length bm]) (rdr 1 Z) ed Z kK Z Z (ak Z) Z)<|wy (bM (vs:=[I 3,I so,I od,I sz]) (rdr 0 Z) bz Z eF Z Z (ak Z) Z)<|wa (aC aUe Z (Ct.fresh (λw hw=>aHk ((ba.c _) w hw) (bp.c hw) hp cg hN ⟨L,TS,hx⟩))) ?_;rintro _ _⟨_,rfl,fg,fi,rfl,rfl⟩;refine wm Z<|wX Z Z<|wX Z Z<|wg Z<|wn Z<|aD<|wq<|wm Z<|wy (Yl.f (iI Z Z) cC)<|aA<|aN Z<|aH<|aD ?_;refine aJ<|wm Z<|wa (aC aZx Z (Ct.fresh (λw hw=>aZy ((rdr 0 Z) w hw) (LY hp.1 hp.2.1 ur cg ⟨L,TS,hx⟩ hN G) G hp G Z hw1 cg hx ur hN G))) ?_;rintro _ _⟨_,rfl,Ay,cy,vals,Rs,rfl,hs,rfl⟩;have hvl:=hs.1;refine bR (R1:=(⟨22,1,Ay,vals.length,cy,vals,false⟩::(ru 5 fg ((oQ so od sz ws).length) fi (oQ so od sz ws))::(rc 27 4 db [I 3,I so,I od,I sz])::(rc 25 2 ao [sl Au 0 cu,sl bl ws.length bm])::Rs)) (Sub.refl _) (λ_ h=>Hp.toTail0 (X:=[_]) (Y:=[_,_,_]) h)<|wm Z<|wX Z Z<|wX Z Z<|wX Z Z<|wa (eH (sz:=2) aAl Z) ?_;rintro _ _⟨fd,rfl,rfl⟩;refine wa (eH (sz:=4) aAk Z) ?_;rintro _ _⟨u3,rfl,rfl⟩;refine bY (dO (vs:=[sl none 0 0,sl Ay vals.length cy]) 1 Z kK Z Z Z (by intro v hv;simp at hv;rcases hv with rfl|rfl<;>rfl) Z) ?_;rintro _ _ rfl;refine bY (dO (vs:=[I 3,I so,I od,I sz]) 0 Z eF Z Z Z (by intro v hv;simp at hv;rcases hv with rfl|rfl|rfl|rfl<;>rfl) Z) ?_;rintro _ _ rfl;refine wn Z<|aD<|bL mixed<|wD 0 Z (aK Z)<|wD 1 Z (Yl.t (gT Z Z) cC)<|wD 2 Z (aK Z)<|wG 3 Z Z Z (bM (vs:=[I 3,I so,I od,I sz]) (rdr 0 Z) bz Z eF Z Z (ak Z) Z)<|wG 4 Z Z Z (bM (vs:=[I 3,I so,I od,I sz]) (rdr 4 Z) bz Z eF Z Z (ak Z) Z)<|wG 5 Z Z Z (aOc (aRa _ _ _ _) (KN _ _ _ _) Z Z)<|wD 6 Z (aQ Z Z)<|wD 7 Z (aK Z)<|wG 8 Z Z Z (yF 0 0 ed dP Z)<|wG 9 Z Z Z (yL 1 ah Z Z Z)<|wG 10 Z Z Z (jR ah dh wo Z (JW _)) ?_;refine wG 11 Z Z Z (yF 0 0 ed dP Z)<|wG 12 Z Z Z (yL 5 ah Z Z Z)<|wG 13 Z Z Z (jR ah dh wo Z GZ)<|wG 14 Z Z Z (Yl.t (OB Z Z aL.nil aL.nil) (Z))<|wD 15 Z (aQ Z Z)<|wD 16 Z (aK Z)<|wG 17 Z Z Z (yF 1 1 ed kL Z)<|wG 18 Z Z Z (yL 1 ay Z Z Z)<|wG 19 Z Z Z (yF 1 1 ed kL Z)<|wG 20 Z Z Z (yL 5 ay Z Z Z)<|uY 21 Z cA Z Z Z (aC bFb Z (Ct.fresh (λw hw=>EL ((ba.c _) w hw) (bp.c hw) (⟨λw hw=>by have:=ql (nz hw);omega,G⟩)))) ?_;rintro _ _⟨_,rfl,en,cj,qt,j5,rfl,ud,rfl⟩;refine⟨.inr λ_ h=>h.right,?_⟩;have r9:=ud.1;have Vc:=ud.left Rs;have Vd:=hs.right j5;refine RY (R1:=(⟨22,1,en,qt.length,cj,qt,false⟩::(rc 27 4 u3 [I 3,I so,I od,I sz])::(rc 25 2 fd [sl none 0 0,sl Ay vals.length cy])::⟨22,1,Ay,vals.length,cy,vals,false⟩::(ru 5 fg ((oQ so od sz ws).length) fi (oQ so od sz ws))::(rc 27 4 db [I 3,I so,I od,I sz])::(rc 25 2 ao [sl Au 0 cu,sl bl ws.length bm])::(j5++Rs))) (λ_=>Hp.toTailI (X:=[_]) (Y:=[_,_,_,_,_,_]))<|uY 22 Z cA Z Z Z (aC bFc Z (Ct.quiet (λw hw=>JM ((rdr 3 Z) w hw) (Vd.slw Mg (Hp.right (R':=[_,_,_,_,_,_,_]) hw)) ((rdr 0 Z) w hw) (Vc.slw (qZ bp.okB) (Hp.right (R':=[_,_,_,_,_,_,_]) hw)) (by first|omega|decide)))) ?_;rintro _ _⟨rfl,rfl⟩;refine⟨.inr hiZ,?_⟩;refine jS (v:=bt) (bg Value.bool (ko (Z)))<|wD 23 Z (aQ Z Z)<|wD 24 Z (aK Z)<|uY 25 Z cA Z Z Z (aC aZv Z (Ct.quiet (λw hw=>uG))) ?_;rintro _ _⟨rfl,rfl⟩;refine⟨.inr hiZ,?_⟩;refine wD 26 Z (aQ Z Z)<|wD 27 Z (bB Z)<|wN<|bN (R1:=[]) (λ_ h=>(h.selR (F:=[_,_,_,_,_,_,_]) (F':=[]) [] cC Z).left (X:=[])) ?_;refine⟨_,Z,?_⟩;rfl
theorem ZU (al:Rd w an ar am 1 (ints .u8 u)) (ba:Rd w bl cm bm 1 ap) (bp:SlW .u8 w ap ws) (Qg:u.length<=140737488355327) (Fc: ¬(((0<=k/\k<=3)/\(0<=so/\so<=2)/\(od=0\/od=1)/\(1<=sz/\sz<=16777216))/\(k≠3->ws.length=0)/\(k=3->u.length=0)/\ ¬gD ws)):
  CF 5 #[.agg #[sl an u.length am,sl bl ws.length bm], .agg #[I k,I so,I od,I sz]] w (λv R'=>v=bt):=by
 obtain rfl:=al.lenI;obtain rfl:cm=ws.length:=by have:=ba.len;have:=bp.1;omega
 refine fn1 Tryz.func5 Z Z Z ?_;have mv:=al.max;have ob:=ba.max;refine wq<|wa (dC (sz:=2) Z Z) ?_;rintro _ _⟨ao,rfl,rfl⟩;refine wa (dC (sz:=4) Z Z) ?_;rintro _ _⟨db,rfl,rfl⟩;refine wn Z<|aD<|wq<|wy (bM (vs:=[sl an u.length am,sl bl ws.length bm]) (rdr 1 Z) ed Z kK Z Z (ak Z) Z)<|wa (aC aZw Z (Ct.quiet (λw hw=>xN (u:=u) (ws:=ws) ((al.c _) w hw) ((ba.c _) w hw) (bp.c hw) Qg))) ?_;rintro _ _⟨rfl,b1,rfl,pj⟩;refine aA<|bA Z (λbc=> ?_) (λbc=> ?_)
 ·refine wq<|wn Z<|bN (R1:=[]) (λ_ h=>(h.selR (F:=[_,_]) (F':=[]) [] cC Z).left (X:=[])) ?_;refine⟨_,Z,?_⟩;rfl
 ·have Mw:=pj (by cases b1 with|false=>rfl|true=>exact absurd rfl bc);have hN:ws.flatten.length<=400/\ws.length<=400/\u.length<=400:=⟨G,G,G⟩;refine aH<|wq<|wy (bM (vs:=[sl an u.length am,sl bl ws.length bm]) (rdr 1 Z) ed Z kK Z Z (ak Z) Z)<|wy (bM (vs:=[I k,I so,I od,I sz]) (rdr 0 Z) bz Z eF Z Z (ak Z) Z)<|wa (aC aUe Z (Ct.quiet (λw hw=>aZs ((al.c _) w hw) ((ba.c _) w hw) (bp.c hw) Fc hN))) ?_;rintro _ _⟨rfl,rfl⟩;refine wm Z<|wX Z Z<|wX Z Z<|wg Z<|wn Z<|aD<|wq<|wm Z<|wy (Yl.t (iI Z Z) cC)<|aA<|dI Z<|wq ?_;refine wm Z<|wy (aO ah Z)<|wR Z Z<|wm Z<|aB Z Z<|wa (aC aZv Z (Ct.quiet (λw hw=>uG))) ?_;rintro _ _⟨rfl,rfl⟩;refine wy (aQ Z Z)<|wn Z<|bN (R1:=[]) (λ_ h=>(h.selR (F:=[_,_]) (F':=[]) [] cC Z).left (X:=[])) ?_;refine⟨_,Z,?_⟩;rfl
theorem boxBack_ct (al:Rd w an ar am 1 (ints .u8 u)) (ac:aL u) (Qg:u.length<=140737488355327) (ba:Rd w bl cm bm 1 ap) (bp:SlW .u8 w ap ws):
  CF 5 #[.agg #[sl an ar am,sl bl cm bm], .agg #[I k,I so,I od,I sz]] w (λv R'=>v=bt):=by
 obtain rfl:=al.lenI;obtain rfl:cm=ws.length:=by have:=ba.len;have:=bp.1;omega
 by_cases hg:(((0<=k/\k<=3)/\(0<=so/\so<=2)/\(od=0\/od=1)/\(1<=sz/\sz<=16777216))/\(k≠3->ws.length=0)/\(k=3->u.length=0)/\ ¬gD ws)
 ·obtain ⟨h1,h2,h3,h4⟩:=hg;by_cases hk:k=3
  ·subst hk;obtain rfl:u=[]:=dx (h3 rfl);by_cases hw:ws=[]
   ·subst hw;exact ZT h1.2
   ·exact ZQ ba bp h1.2 h4 hw
  ·obtain rfl:ws=[]:=dx (h2 hk);exact ZR al ac Qg h1.2 G
 ·exact ZU al ba bp Qg hg
end Go.Proofs.YtdbebmmhdefgdaaGreat
namespace Go.Eng
open Go Go.ChangeShapes Go.WideShapes Go.RowKit
section
variable {H:Type} {enc:TypeId × Value->H} {P:Program} {w:World} {base:Nat} {held:Bool}
theorem aJo {t:TypeId} {f0 f1:Field} {ts:List TypeId} {ds:List (DataW H)} {y0 y1:DataW H} (h:(DataW.weightsEach P (t::ts) (.agg [y0,y1]::ds)).all (· <=reachBytes)=true) (hu:P.underlying t=some (.struct #[f0,f1])):(DataW.weightsEach P [f0.type,f1.type] [y0,y1]).all (· <=reachBytes)=true:=by
 simp only[DataW.weightsEach,DataW.weights,hu,List.all_append,pz] at h;exact h.1
theorem aBm {e t0 t1:TypeId} {k:IntKind} {zs rs:AH} {y1:DataW H} (h:(DataW.weightsEach P [t0,t1] [.slice (lits k zs) (lits k rs),y1]).all (· <=reachBytes)=true) (hu:P.underlying t0=some (.slice e)) (hb:Nat.ble 1 (P.bytesOf e)=true):zs.length<=140737488355327:=by
 simp only[DataW.weightsEach,DataW.weights,hu,List.all_append,pz,Ey] at h;have hw:=yu h.1.1;have j7:=ak hb;have Ui:=reachBytes_lt;have hl:((lits k zs:List (DataW H)).length)=zs.length:=by simp[lits]
 rw[hl] at hw;have:zs.length*1<=(zs.length+(lits k rs:List (DataW H)).length)*P.bytesOf e:=Dx G j7;omega
theorem pay_open {t e0 e1:TypeId} {f0 f1:Field} {v:Value} {d:DataW H} {p:List MemPlace} {ts:List TypeId} {ds:List (DataW H)} {r:Reach} {b0:Nat} (hs:P.underlying t=some (.struct #[f0,f1])) (Zy:Go.Deep.oneCellFields P #[f0,f1]=true) (hC:P.cellsOf t=2) (hv:Value.okWide P w r b0 t v) (h:DataW.Trod enc P w base (λ_=>true) held t v d p) (hsz:(DataW.weightsEach P (t::ts) (d::ds)).all (· <=reachBytes)=true)
  (t0:P.underlying f0.type=some (.slice e0)) (h8:P.underlying e0=some (.int .u8)) (t1:P.underlying f1.type=some (.slice e1)) (te:P.underlying e1=some (.slice e0)) (c0:P.cellsOf e0=1) (c1:P.cellsOf e1=1) (hb:Nat.ble 1 (P.bytesOf e0)=true):
  ∃(A A':AF) (c c':Nat) (u:AH) (vals:AG) (ws:AD),v= .agg #[.slice A u.length c, .slice A' ws.length c']/\Rd w A u.length c 1 (ints .u8 u)/\(∀x∈u,(Lit.int .u8 x).wf=true)/\u.length<=140737488355327/\Rd w A' ws.length c' 1 vals/\SlW .u8 w vals ws:=by
 obtain⟨v0,v1,y0,y1,n,rfl,rfl,_,h0,h1⟩:=Go.Joins.open_agg2 hs Zy hC hv h;have hz:=aJo hsz hs
 obtain⟨A,c,u,rfl,k1,k2,k3⟩: ∃(A:AF) (c:Nat) (u:AH),v0= .slice A u.length c/\Rd w A u.length c 1 (ints .u8 u)/\(∀x∈u,(Lit.int .u8 x).wf=true)/\u.length<=140737488355327:=by
  rcases open_ints t0 h8 c0 h0 with⟨ie,_⟩|⟨x,l,cp,zs,ie,_,hl,hm,hq,hx,tz,hwz⟩
  ·simp only[Gf,Ag] at ie;subst ie;exact⟨none,0,[],rfl,aFv _,(λ_ h=>by cases h),cC⟩
  ·simp only[Gf,Ag] at ie;subst ie;subst hx;obtain⟨u,e,g1,g2⟩:=aXx hl hm (by simpa using hq) tz hwz;have Hx:=aBm hz t0 hb;rw[ax] at Hx;have Rk:zs.length=cp:=by simpa using hq
   subst e;exact⟨_,_,u,rfl,g1,g2,G⟩
 obtain⟨A',c',vals,ws,rfl,k4,k5⟩: ∃(A:AF) (c:Nat) (vals:AG) (ws:AD),v1= .slice A ws.length c/\Rd w A ws.length c 1 vals/\SlW .u8 w vals ws:=by
  rcases Go.Deep.open_int_rows t1 te h8 c1 c0 h1 with⟨ie,_⟩|⟨x,l,c,A,L,C,Z,ie,_,hl,hm,hx,hr⟩
  ·simp only[Gf,Ag] at ie;subst ie;exact⟨none,0,[],[],rfl,⟨cD,cD,cD,λj v hv=>by simp at hv⟩,eB _ _⟩
  ·simp only[Gf,Ag] at ie;subst ie;subst hx;obtain⟨vals,ws,e,g1,g2⟩:=aPf hl hm hr λr Ui=>aJn hz (j:=1) (t:=f1.type) (e:=e1) (q:=e0) rfl rfl t1 te hb Ui (by have:=hr r G;rw[this.2.2.2.1];exact this.2.1) (λhA=>by have:=hr r G;rw[this.2.2.2.1];exact this.2.2.2.2.2.1 hA);subst e;exact⟨_,_,vals,ws,rfl,g1,g2⟩
 exact⟨A,A',c,c',u,vals,ws,rfl,k1,k2,k3,k4,k5⟩
end
end Go.Eng

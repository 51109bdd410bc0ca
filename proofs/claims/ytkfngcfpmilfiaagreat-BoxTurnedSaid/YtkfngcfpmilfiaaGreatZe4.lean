/- Own work. -/
import Derived.Lib.BytesEntry
import Derived.Lib.AppendZeros
import Derived.Lib.MakeNoZero
import Derived.Laws.Externs
import Derived.Maps.AppendAt
import Derived.Test.YtkfngcfpmilfiaaGreatZe3
set_option linter.unusedVariables false
set_option linter.unusedSimpArgs false
set_option maxHeartbeats 8000000
namespace Go.Pure
open Go Go.Eng
section
variable {b r c l x ms:AH} {v od n t:Int} {ws:AD}
open Classical in
noncomputable def iG (b:AH):Option (Int × AH):=
 if h: ∃p:Int × Nat,rJ b p.1 p.2/\p.1<=9223372036854775807 then some ((Classical.choose h).1,b.drop (Classical.choose h).2) else none
theorem VO {k:Nat} (h:rJ b v k) (e:v<=9223372036854775807):iG b=some (v,b.drop k):=by
 have a: ∃p:Int × Nat,rJ b p.1 p.2/\p.1<=9223372036854775807:=⟨(v,k),h,e⟩;unfold iG;rw[dif_pos a];obtain⟨h1,d⟩:=(yl a).1.one h;rw[h1,d]
theorem bMl (h: ∀v k,rJ b v k->9223372036854775807<v):iG b=none:=by
 unfold iG;rw[dif_neg];rintro⟨p,h1,a⟩;have:=h _ _ h1;omega
theorem VP (a:0<=v) (b:v<=9223372036854775807) (r:AH):iG (aU v++r)=some (v,r):=by
 rw[VO (rJ.of ⟨a,G⟩ r) b,List.drop_left]
theorem dH (h:iG b=some (v,r)):b=aU v++r/\0<=v/\v<=9223372036854775807:=by
 unfold iG at h;split at h
 ·rename_i g;have hs:=yl g;have a:=fo h;have d:=bi Prod.fst a;have e:=bi Prod.snd a;dsimp only at d e;subst d e;exact⟨hs.1.drop,hs.1.1.1,hs.2⟩
 cases h
theorem bCj (v:Int):0<(aU v).length:=List.length_pos_iff.2 (bKv v)
theorem fA (h:iG b=some (v,r)):r.length<b.length:=by
 have h1:=(dH h).1;have a:=bi List.length h1;rw[aa] at a;have:=bCj v;omega
noncomputable def wK (n:Int):Nat->AH->Option (AH × AH)
 |0,r=>some ([],r)
 |k+1,r=>match iG r with
  |none=>none
  |some (t,r1)=>if t<1\/n<t then none else(wK n k r1).map λp=>(t::p.1,p.2)
noncomputable def mkU (t n:Int) (r:AH):Option (AH × AH):=
 if t=1 then match iG r with
  |none=>none
  |some (a,r1)=>if n<a then none else some ([a],r1)
 else if t=3 then match iG r with
  |none=>none
  |some (m,r1)=>if 1000<m then none else wK n m.toNat r1
 else some ([],r)
open Classical in
noncomputable def unU (od n:Int) (x:AH):Option (AH):=
 if h: ∃l:AH,aI l/\(l.length:Int)=n/\bT l od=x then some (Classical.choose h) else none
def UU (b:AH):Int:=rd b 0+rd b 1*256+rd b 2*65536+rd b 3*16777216
noncomputable def pkU (od n:Int) (r:AH):Option (Int × AH × AH):=
 match iG r with
 |none=>none
 |some (m,r1)=>if (r1.length:Int)<4+m then none else
  match unU od n ((r1.drop 4).take m.toNat) with
  |none=>none
  |some l=>some (UU (r1.take 4),l,r1.drop (4+m.toNat))
open Classical in
noncomputable def bkU (t:Int) (l ms:AH):Option (AH × AD):=
 if t=1 then if XK l (rd ms 0) then some (iW l (rd ms 0),[]) else none
 else if t=2 then some (backL l (bR (lfL l)),[])
 else if t=3 then(eY ((bR (lfL l)).map (bS l)) [] 0 ms).map λws=>(ws.flatten,ws)
 else some (l,[])
noncomputable def qL (t od sz lim tot n:Int) (r:AH):Except Int ((AH × AD) × AH):=
 if (t=3/\0<tot)\/(t≠3/\sz<n)\/lim-tot<n then .error 3 else
 match mkU t n r with
 |none=> .error 3
 | some (ms,r1)=>match pkU od n r1 with
  |none=> .error 3
  |some (sm,l,r2)=>match bkU t l ms with
   |none=> .error 5
   |some (b,ws)=>if bv (lG b)≠sm then .error 4 else .ok ((b,ws),r2)
noncomputable def PO (t tot:Int) (sh:Bool) (r:AH):Bool:=
 match iG r with
 |none=>false
 |some (n,r1)=>decide (n=tot/\r1=[]/\ ¬(sh=true/\t≠3))
noncomputable def rV (t od sz lim:Int):Nat->AH->AD->Int->Bool->AH->Except Int (AH × AD)
 |0,_,_,_,_,_=> .error 3
 | f+1,s,ws,last,sh,r=>match iG r with
  |none=> .error 3
  | some (n,r1)=>if n=0 then if PO t s.length sh r1 then .ok (s,ws) else .error 3
   else match qL t od sz lim s.length n r1 with
    | .error e=> .error e
    | .ok (p,r2)=>rV t od sz lim f (s++p.1) p.2 n (sh||decide (0<last/\last<sz)) r2
noncomputable def nW (r:AH):Option ((Int × Int × Int × Int) × AH):=
 if r.take 5=[87,72,82,76,1]/\8<=r.length then
  match iG (r.drop 8) with
  |none=>none
  |some (sz,r1)=>if rd r 5<=3/\rd r 6<=2/\rd r 7<=1/\1<=sz/\sz<=16777216 then some ((rd r 5,rd r 6,rd r 7,sz),r1) else none
 else none
noncomputable def pI (b:AH) (lim:Int):Except Int ((AH × AD) × (Int × Int × Int × Int)):=
 match nW b with
 |none=> .error 3
 |some ((t,so,od,sz),r)=>match rV t od sz (min lim 100000) (r.length+1) [] [] 0 false r with
  | .error e=> .error e
  | .ok p=> .ok (p,(t,so,od,sz))
theorem aQe {b c x:AH} {o:Int} (hb:aI b) (hc:aI c) (h1:bT b o=x) (h:bT c o=x): ∀i:Nat,i<=(bW b).length->i<=(bW c).length->(bW b).take i=(bW c).take i
 |0,_,_=>rfl
 |i+1,hi,hj=>by
  have m:=aQe hb hc h1 h i G G;have g:=aDe (i:=(i:Int)) hb h1.symm rfl G G;have a:=aDe (i:=(i:Int)) hc h.symm rfl G G;rw[bu] at g a;rw[<-m] at a;have hs:xB (encP o ((bW b).take i)):=(zD (λx r=>qA hb x (ku r))).1;have d:=DN (o:=o) hs;have p:=qA hb _ (bM (L:=bW b) (k:=(i:Int)) G G);have q:=qA hc _ (bM (L:=bW c) (k:=(i:Int)) G G);have e:=aFt d.2.1 p.1 (by rw[d.1];exact p.2) q.1 (by rw[d.1];exact q.2) g.v0 g.v1 a.v0 a.v1;have t1:=dP (l:=bW b) (j:=(i:Int)) G G;have t2:=dP (l:=bW c) (j:=(i:Int)) G G;rw[bu,show((i:Int)+1).toNat=i+1 by omega] at t1 t2;rw[t1,t2,m,e]
theorem bAe (hb:aI b) (hc:aI c) (h:bW b=bW c):b=c:=by
 have h1:dR 0 (dY bQ b)=dR 0 (dY bQ c):=List.append_cancel_right h;have a:=aPe (most:=max b.length c.length) (oM hb) (by rw[jR];omega);have d:=aPe (most:=max b.length c.length) (oM hc) (by rw[jR];omega);rw[h1,d] at a;have e:=fo a;rw[<-GA hb,<-GA hc,e]
theorem pack_inj {o:Int} (hb:aI b) (hc:aI c) (h:bT b o=bT c o):b=c:=by
 have lp: ∀b:AH,0<(bW b).length:=λb=>by unfold bW;rw[aa];simp
 have key: ∀ {b c:AH},aI b->aI c->bT b o=bT c o->(bW b).length<=(bW c).length->b=c:=λ{b c} hb hc h d=>by
  have e:=aQe hb hc h rfl (bW b).length (dn _) d;rw[qa] at e;have l0:=lp b;have a1:=(PX hb (i:=((bW b).length:Int)-1) G G).2 rfl
  have a2:rd (bW c) (((bW b).length:Int)-1)=257:=by
   have a:=QE (l:=bW c) (k:=((bW b).length:Int)) (i:=((bW b).length:Int)-1) G G;rw[bu,<-e,a1] at a;exact a.symm
  have a3:=(PX hc G G).1 a2;refine bAe hb hc (e.trans (bg G))
 rcases Nat.le_total (bW b).length (bW c).length with g|g
 ·exact key hb hc h g
 exact(key hc hb h.symm g).symm
theorem bJj (hl:aI l) (h:bT l od=x):unU od l.length x=some l:=by
 have a: ∃l':AH,aI l'/\(l'.length:Int)=(l.length:Int)/\bT l' od=x:=⟨l,hl,rfl,h⟩;unfold unU;rw[dif_pos a];have hs:=yl a;rw[pack_inj hs.1 hl (hs.2.2.trans h.symm)]
theorem aZr (h: ∀l:AH,aI l->(l.length:Int)=n->bT l od≠x):unU od n x=none:=by
 unfold unU;rw[dif_neg];rintro⟨l,h1,a,b⟩;exact h l h1 a b
theorem bJl (h:unU od n x=some l):aI l/\(l.length:Int)=n/\bT l od=x:=by
 unfold unU at h;split at h
 ·rename_i a;rw[<-fo h];exact yl a
 cases h
theorem VU (hb:aI b) (hl:b.length=4):fT (UU b)=b:=by
 rcases b with _|⟨a0,_|⟨a1,_|⟨a2,_|⟨a3,_|⟨a4,b⟩⟩⟩⟩⟩<;>simp at hl;have a:=hb a0 cD;have h1:=hb a1 cD;have d:=hb a2 cD;have g:=hb a3 cD;have e:UU [a0,a1,a2,a3]=a0+a1*256+a2*65536+a3*16777216:=rfl;unfold fT;rw[e];congr 1
 ·omega
 congr 1
 ·omega
 congr 1
 ·omega
 congr 1;omega
theorem aFn: ∀ {k:Nat} {n:Int} {r r1 TS:AH},wK n k r=some (TS,r1)->r=(TS.map aU).flatten++r1/\TS.length=k/\ ∀t∈TS,1<=t/\t<=n
 |0,n,r,r1,TS,h=>by
  rw[wK] at h;cases h;exact⟨rfl,rfl,λ_ h=>nomatch h⟩
 |k+1,n,r,r1,TS,h=>by
  rw[wK] at h;split at h
  ·cases h
  rename_i t r2 g;split at h
  ·cases h
  rename_i hc;rw[ii] at h;obtain⟨p,hp,e⟩:=h;obtain⟨h1,b,d⟩:=aFn (TS:=p.1) (r1:=p.2) hp;cases e;have hi:=(dH g).1;refine⟨by rw[hi,h1];simp,by simp[b],λx a=> ?_⟩;rcases il.1 a with rfl|a
  ·omega
  exact d x a
theorem JW {r1 ms:AH} (h:mkU t n r=some (ms,r1)):(t=1/\ ∃a,ms=[a]/\0<=a/\a<=n/\r=aU a++r1)\/(t=3/\ms.length<=1000/\r=xD ms++r1/\ ∀x∈ms,1<=x/\x<=n)\/(t≠1/\t≠3/\ms=[]/\r=r1):=by
 unfold mkU at h;split at h
 ·rename_i e;split at h
  ·cases h
  rename_i a r2 d;split at h
  ·cases h
  have hi:=dH d;cases h;exact .inl ⟨e,a,rfl,hi.2.1,G,hi.1⟩
 split at h
 ·rename_i e;split at h
  ·cases h
  rename_i m r2 d;split at h
  ·cases h
  have hi:=dH d;obtain⟨h1,g,b⟩:=aFn h;refine .inr (.inl ⟨e,G,?_,b⟩);unfold xD;rw[hi.1,h1,g,show((m.toNat:Nat):Int)=m by omega,dx]
 rename_i h1 b;cases h;exact .inr (.inr ⟨h1,b,rfl,rfl⟩)
theorem aCz {sm:Int} {r2:AH} (hb:aI r) (h:pkU od n r=some (sm,l,r2)):aI l/\(l.length:Int)=n/\r=aU (bT l od).length++(fT sm++(bT l od++r2)):=by
 unfold pkU at h;split at h
 ·cases h
 rename_i m r1 e;split at h
 ·cases h
 split at h
 ·cases h
 rename_i hc l' hu;have hi:=dH e;obtain⟨h1,b,d⟩:=bJl hu;cases h;have g:aI r1:=aI.back (x:=aU m) (by rw[<-hi.1];exact hb);refine⟨h1,b,?_⟩;have a:((r1.drop 4).take m.toNat).length=m.toNat:=by rw[ax,az];omega
 rw[VU (g.take 4) (by rw[ax];omega),d,a,show((m.toNat:Nat):Int)=m by omega,<-xu,ed,ed];exact hi.1
theorem WY (hl:aI l) (B:t≠3) (h:bkU t l ms=some (b,ws)):ws=[]/\b.length=l.length/\aI b/\uH t b=(if t=1 then aU (rd ms 0) else [],l):=by
 unfold bkU at h;split at h
 ·rename_i j;subst j;split at h
  ·rename_i hk;cases h;obtain⟨a,m,p⟩:=sW (iW l (rd ms 0));obtain⟨q,g⟩:=CQ hl hk m p;refine⟨rfl,oZ _ _,λx d=> ?_,by rw[RY m p,q,g,cz rfl]⟩;unfold iW at d;obtain⟨i,_,rfl⟩:=gq.1 d;exact hl.rd _
  cases h
 split at h
 ·rename_i j;subst j;cases h;obtain⟨T,hp,o⟩:=FR (bws (backL l (bR (lfL l))));have e:=aTu hl hp o;have g:=RZ hp o;rw[e] at g;have A:=(NS (t:=2) (u:=backL l (bR (lfL l))));refine⟨rfl,?_,?_,by rw[g,bq G]⟩
  ·have:=bi List.length e;rw[bn,LC hp] at this;exact this
  intro x d;unfold backL at d;obtain⟨w,v,k⟩:=ny.1 d;obtain⟨c,_,rfl⟩:=gq.1 v;unfold bS at k;obtain⟨y,_,rfl⟩:=gq.1 k;exact hl.rd y
 rename_i h1 r;cases h;exact⟨rfl,rfl,hl,by rw[RX h1 r,bq h1]⟩
theorem aQw: ∀ {ts:AH} {all out rest:AD},wU all ts=some (out,rest)-> ∀w∈out,∀x∈w,∃a∈all,x∈a
 |[],all,out,rest,h,w,b,x,hx=>by
  rw[wU] at h;cases h;cases b
 | n::ts,all,out,rest,h,w,b,x,hx=>by
  rw[wU] at h;split at h
  ·cases h
  rw[ii] at h;obtain⟨p,hp,e⟩:=h;cases e;rcases il.1 b with rfl|b
  ·obtain ⟨a,g,d⟩:=ny.1 hx;exact⟨a,ku g,d⟩
  obtain ⟨a,g,d⟩:=aQw (out:=p.1) (rest:=p.2) hp w b x hx;exact⟨a,lu g,d⟩
theorem bFm (ws:AD): ∃L TS e,ExtR ws L TS e:=by
 by_cases h:1000<ws.length\/100000<ws.flatten.length
 ·exact⟨[],[],2, .inl ⟨rfl,h,rfl,rfl⟩⟩
 by_cases g: ∃w∈ws,w.length=0
 ·exact⟨[],[],1, .inr (.inl ⟨h,rfl,g,rfl,rfl⟩)⟩
 obtain⟨L,TS,b⟩:=WB (ws:=ws) (λw a=>Bh λe=>g ⟨w,a,e⟩) G G;exact⟨L,TS,0,b⟩
theorem bFo {ws:AD} {L TS:AH} (i:ExtR ws L TS 0) (hb: ∀w∈ws,aI w):eY ((bR (lfL L)).map (bS L)) [] 0 TS=some (canon ws):=by
 rcases i with⟨h,_⟩|⟨_,h,_⟩|⟨_,_,j,⟨T,hp,d,rfl⟩,rfl⟩
 ·omega
 ·omega
 have b:(bR (lfL (T.map (lastB ws)))).map (bS (T.map (lastB ws)))=zN (fQ ws):=(GC hb hp d).1
 have h1: ∀r∈fQ ws,1<=r.2/\0<r.1.length:=λr a=>by
  obtain⟨w,_,g,rfl⟩:=rD a;have hc:0<(lw w).length:=by rw[lD];exact g
  have a1:=qQ hc;have a2:=AQ hc;have a3:=nT hc;exact⟨by show 1<=gP (lw w);omega,by show 0<(jX (lw w)).length;omega⟩
 rw[b];exact WC (qB ws) (λr h=>(h1 r h).1) (λr h e=>by have:=(h1 r h).2;rw[<-e] at this;simp at this)
theorem aSg {ws:AD} (hl:aI l) (q:l.length<=100000) (u:ms.length<=1000) (h:eY ((bR (lfL l)).map (bS l)) [] 0 ms=some ws):ExtR ws l ms 0/\canon ws=ws/\ ∀w∈ws,aI w:=by
 cases hr:wU ((bR (lfL l)).map (bS l)) ms with
 |none=>rw[MH hr] at h;cases h
 | some p=>
  have In: ∀w∈p.1,aI w:=λw v x d=>by
   obtain⟨a,r,g⟩:=aQw (out:=p.1) (rest:=p.2) hr w v x d;obtain⟨c,_,rfl⟩:=gq.1 r;unfold bS at g;obtain⟨y,_,rfl⟩:=gq.1 g;exact hl.rd y
  obtain⟨L,TS,e,d⟩:=bFm p.1;have b:=TL (out:=p.1) (rest:=p.2) hl q u hr d In;by_cases c:p.2.length=0/\e=0/\L=l/\TS=ms
  ·rw [cz c] at b;rw[b] at h;have m:=fo h;obtain⟨_,c2,j,k⟩:=c;subst c2 j k;have i:=bFo d In;rw[b] at i;have o:=fo i;rw[<-m];exact⟨d,o.symm,In⟩
  rw [bq c] at b;rw[b] at h;cases h
end
section
variable {t od sz lim tot n so:Int} {r r2 b S:AH} {ws W:AD}
theorem NL (hb:aI r) (i:t≠3) (h:qL t od sz lim tot n r= .ok ((b,ws),r2)):
  ws=[]/\(b.length:Int)=n/\aI b/\n<=sz/\n<=lim-tot/\aU n++r=cZ t od b++r2/\aI r2:=by
 unfold qL at h;split at h
 ·cases h
 rename_i hc;split at h
 ·cases h
 rename_i ms r1 j;split at h
 ·cases h
 rename_i sm l q hp;split at h
 ·cases h
 rename_i p o hk;split at h
 ·cases h
 rename_i hs;cases h
 have h1:r=(if t=1 then aU (rd ms 0) else [])++r1:=by
  rcases JW j with⟨d,a,rfl,_,_,e⟩|⟨d,_⟩|⟨d,_,_,e⟩
  ·rw[cz d,e];rfl
  ·exact absurd d i
  rw[bq d,e];rfl
 have g:aI r1:=aI.back (by rw[<-h1];exact hb);obtain⟨p1,p2,p3⟩:=aCz g hp;obtain⟨k1,k2,k,m⟩:=WY p1 i hk;have ge:bv (lG b)=sm:=ol.1 hs;refine⟨k1,G,k,G,G,?_,?_⟩
 ·unfold cZ;rw[m,ge,k2,p2,h1,p3];simp only[dx]
 rw [p3] at g;exact aI.back (aI.back (aI.back g))
theorem GY {ws:AD} (hb:aI r) (hn:0<n) (hl:lim<=100000) (g:0<=tot) (h:qL 3 od sz lim tot n r= .ok ((b,ws),r2)):
  tot=0/\b=ws.flatten/\(b.length:Int)=n/\n<=lim/\canon ws=ws/\(∀w∈ws,aI w)/\ws≠[]/\(∃L TS,ExtR ws L TS 0)/\aU n++r=eX od ws++r2/\aI r2:=by
 unfold qL at h;split at h
 ·cases h
 rename_i hc;split at h
 ·cases h
 rename_i ms r1 o;split at h
 ·cases h
 rename_i sm l x hp;split at h
 ·cases h
 rename_i u q hk;split at h
 ·cases h
 rename_i hs;cases h;rcases JW o with⟨g,_⟩|⟨_,m1,m2,m3⟩|⟨_,g,_⟩
 ·omega
 ·have a:aI r1:=aI.back (by rw[<-m2];exact hb);obtain⟨p1,p2,p3⟩:=aCz a hp;unfold bkU at hk;rw[bq G,bq G,cz rfl,ii] at hk;obtain⟨w,p,e⟩:=hk;cases e;obtain⟨d,i,j⟩:=aSg p1 G m1 p;have ge:bv (lG ws.flatten)=sm:=ol.1 hs;have k:=QO d j;have m:=xR d;refine⟨G,rfl,G,G,i,j,?_,⟨_,_,d⟩,?_,?_⟩
  ·rintro rfl;have v:l.length=0:=m;omega
  ·unfold eX;rw[i,k,ge,m2,p3,show(ws.flatten.length:Int)=n by omega];simp only[dx]
  rw [p3] at a;exact aI.back (aI.back (aI.back a))
 omega
def bIu (sz:Int):AD->Prop
 |[]=>True
 |p::l=>(l=[]\/(p.length:Int)=sz)/\bIu sz l
theorem VY {sh:Bool} (h:PO t tot sh r=true):r=aU tot/\ ¬(sh=true/\t≠3):=by
 unfold PO at h;split at h
 ·cases h
 rename_i n r1 e;obtain⟨a,b,d⟩:=wu h;subst a b;refine⟨?_,d⟩;have:=(dH e).1;rwa[ik] at this
theorem ZM {t od sz lim:Int} (a:t≠3): ∀ {f:Nat} {s r S:AH} {ws W:AD} {last:Int} {sh:Bool},aI r->rV t od sz lim f s ws last sh r= .ok (S,W)->
  ∃ps:AD,S=s++ps.flatten/\r=(ps.map (cZ t od)).flatten++(aU 0++aU S.length)/\(∀p∈ps,0<p.length/\(p.length:Int)<=sz/\aI p)/\bIu sz ps/\sh=false/\(ps=[]\/ ¬(0<last/\last<sz))/\(ps=[]/\W=ws\/W=[])/\(ps=[]\/(S.length:Int)<=lim)
 |0,s,r,S,ws,W,last,sh,hb,h=>by rw[rV] at h;cases h
 | f+1,s,r,S,ws,W,last,sh,hb,h=>by
  rw[rV] at h;split at h
  ·cases h
  rename_i n r1 u;have hi:=dH u;split at h
  ·rename_i e;split at h
   ·rename_i o;cases h;obtain⟨k,l⟩:=VY o;refine⟨[],cD,by rw[hi.1,e,k];rfl,λ_ h=>(by cases h),trivial,?_, .inl rfl, .inl ⟨rfl,rfl⟩, .inl rfl⟩;cases sh
    ·rfl
    exact absurd ⟨rfl,a⟩ l
   cases h
  rename_i e;split at h
  ·cases h
  rename_i p r2 hk;have y:aI r1:=aI.back (by rw[<-hi.1];exact hb);obtain⟨k1,k2,v,A,B,w,x⟩:=NL (b:=p.1) (ws:=p.2) y a hk;obtain⟨ps,a1,a2,a3,a4,a5,g,i,j⟩:=ZM a x h;rw[Bool.or_eq_false_iff,si] at a5;have m:(p.1++ps.flatten).length+s.length=S.length:=by rw[a1];simp only[aa];omega
  refine⟨p.1::ps,by rw[a1];simp,by rw[hi.1,w,a2];simp,λq d=> ?_,⟨?_,a4⟩,a5.1, .inr a5.2, .inr ?_, .inr ?_⟩
  ·rcases il.1 d with rfl|d
   ·exact⟨G,G,v⟩
   exact a3 q d
  ·rcases g with h|h
   ·exact .inl h
   exact .inr G
  ·rcases i with⟨_,h⟩|h
   ·rw[h,k1]
   exact h
  rcases j with h|h
  ·subst h;simp only[Ar,ik] at m;omega
  exact h
theorem OV {t od:Int} {n:Nat} {S:AH} (hn:1<=n): ∀(ps:AD) (k:Nat),S.drop (k*n)=ps.flatten->(∀p∈ps,0<p.length/\p.length<=n)->bIu n ps->NY t od n S k=(ps.map (cZ t od)).flatten++(aU 0++aU S.length)
 |[],k,h,_,_=>by
  have h1:=List.drop_eq_nil_iff.1 h;rw[ZY (Hq.1 λg=>by have:=(bHp hn).1 g;omega)];rfl
 | p::ps,k,h,hp,hf=>by
  have p0:=hp p (.head _)
  have hl:k*n<S.length:=by
   have:=bi List.length h;rw[az,jv,aa] at this;omega
  have d:(S.drop (k*n)).take n=p:=by
   rw[h,jv];rcases hf.1 with e|e
   ·subst e;rw[Ar,ik,bg p0.2]
   rw[Bb G,bg G]
  have a:S.drop ((k+1)*n)=ps.flatten:=by
   rw[yj,Ci,<-xu,h,jv];rcases hf.1 with e|e
   ·subst e;rw[Ar,ik,og p0.2]
   rw[Bo G]
  rw[aMk ((bHp hn).2 hl),d,OV hn ps (k+1) a (λq b=>hp q (.tail _ b)) hf.2];simp
theorem tX (hb:aI b) (h:nW b=some ((t,so,od,sz),r)):b=[87,72,82,76,1]++([t,so,od]++(aU sz++r))/\(0<=t/\t<=3)/\(0<=so/\so<=2)/\(od=0\/od=1)/\(1<=sz/\sz<=16777216):=by
 unfold nW at h;split at h
 ·rename_i hc;split at h
  ·cases h
  rename_i k r1 g;split at h
  ·rename_i hp;cases h;have hi:=(dH g).1;have m:=hb.rd 5;have o:=hb.rd 6;have p:=hb.rd 7;refine⟨?_,⟨G,G⟩,⟨G,G⟩,G,G⟩
   have a:b=b.take 5++((b.drop 5).take 3++b.drop 8):=by
    rw[show b.drop 8=(b.drop 5).drop 3 by rw[xu],ed,ed]
   have d:(b.drop 5).take 3=[rd b 5,rd b 6,rd b 7]:=by
    apply su
    ·rw[ax,az];simp;omega
    intro i h1 e;rw[uf,xz];have j:i<3:=by simpa using e
    rcases i with _|_|_|i
    ·exact(fH (l:=b) (i:=5) G G).symm
    ·exact(fH (l:=b) (i:=6) G G).symm
    ·exact(fH (l:=b) (i:=7) G G).symm
    omega
   conv=>lhs;rw[a]
   rw[hc.1,d,hi]
  cases h
 cases h
theorem aXm (hb:aI b) (u:t≠3) (h:pI b lim= .ok ((S,W),(t,so,od,sz))):b=tF t so od sz S/\W=[]/\((0<=t/\t<=3)/\(0<=so/\so<=2)/\(od=0\/od=1)/\(1<=sz/\sz<=16777216))/\aI S/\(S=[]\/(S.length:Int)<=min lim 100000):=by
 unfold pI at h;split at h
 ·cases h
 rename_i t' D C F r v;split at h
 ·cases h
 rename_i p y;cases h;obtain⟨d,j,k,l,m⟩:=tX hb v;have B:aI r:=by rw[d] at hb;exact aI.back (aI.back (aI.back hb))
 obtain⟨ps,a1,a2,a3,a4,a5,H,g,i⟩:=ZM u B y;rw[ig] at a1;have A:((sz.toNat:Nat):Int)=sz:=G
 have o:=OV (t:=t) (od:=od) (n:=sz.toNat) (S:=S) G ps 0 (by rw[Bi,Ej,a1]) (λp hp=>by have:=a3 p hp;omega) (by rw[A];exact a4);refine⟨?_,?_,⟨j,k,l,m⟩,λx e=> ?_,?_⟩
 ·rw [aBc,o,<-a2];exact d
 ·rcases g with⟨_,h⟩|h<;>exact h
 ·rw [a1] at e;obtain⟨q,w,a⟩:=ny.1 e;exact(a3 q w).2.2 x a
 rcases i with h|h
 ·exact .inl (by rw[a1,h];rfl)
 exact .inr h
theorem aOn {W:AD} (hb:aI b) (h:pI b lim= .ok ((S,W),(3,so,od,sz))):b=tC so od sz W/\S=W.flatten/\canon W=W/\(∀w∈W,aI w)/\((0<=so/\so<=2)/\(od=0\/od=1)/\(1<=sz/\sz<=16777216))/\(W=[]\/(∃L TS,ExtR W L TS 0)/\(S.length:Int)<=min lim 100000):=by
 unfold pI at h;split at h
 ·cases h
 rename_i t' J H M r y;split at h
 ·cases h
 rename_i p a;cases h;obtain⟨d,N,k,l,m⟩:=tX hb y;have F:aI r:=by rw[d] at hb;exact aI.back (aI.back (aI.back hb))
 have j:canon []=[]:=di (by have:=(jI []).length_eq;unfold canon;rw[bn,this];rfl);rw[rV] at a;split at a
 ·cases a
 rename_i n r1 x;have hi:=dH x;have K:aI r1:=aI.back (by rw[<-hi.1];exact F);split at a
 ·rename_i o;split at a
  ·rename_i g;cases a;obtain⟨f1,f2⟩:=VY g;refine⟨?_,rfl,j,λ_ h=>(by cases h),⟨k,l,m⟩, .inl rfl⟩;rw[d,hi.1,o,f1];unfold tC;rw[cz rfl,j];simp
  cases a
 rename_i o;split at a
 ·cases a
 rename_i p r2 hk;obtain⟨k0,k1,k2,O,q,A,B,C,D,P⟩:=GY (b:=p.1) (ws:=p.2) K G G cD hk;cases Hj:r.length with
 |zero=>
  rw[Hj,rV] at a;cases a
 | succ f=>
  rw[Hj,rV] at a;split at a
  ·cases a
  rename_i Q R v;have u:=dH v;split at a
  ·rename_i e;split at a
   ·rename_i g;cases a;obtain⟨f1,f2⟩:=VY g;rw[ig] at f1 ⊢;refine⟨?_,k1,q,A,⟨k,l,m⟩, .inr ⟨C,G⟩⟩;unfold tC;rw[bq B,q,d,hi.1,D,u.1,e,f1,k1];simp
   cases a
  split at a
  ·cases a
  rename_i i;unfold qL at i;rw[cz (.inl ⟨rfl,cJ⟩)] at i;cases i
end
section
def Kp (p:Prop):Prop:=p
def NoB (x:AH) (o most:Int):Prop:= ∀b:AH,aI b->(b.length:Int)<=most->bT b o≠x
structure pJ (x:AH) (o most:Int) (acc:AH) (S:PpS):Prop where
 sy: ∀z∈acc,0<=z/\z<257
 st:S=encP o acc
 kx:S.cd.k+4<=x.length
 c0:0<=cuC x S.cd
 c1:cuC x S.cd<=S.cd.R
 all: ∀b:AH,aI b->(b.length:Int)<=most->bT b o=x->acc=(bW b).take acc.length/\acc.length<(bW b).length
variable {x acc:AH} {o most:Int} {S:PpS}
section
variable {b l r ms r1 r2 u s:AH} {y n od m t a sz lim sm e so:Int} {k f:Nat} {ws:AD} {sh:Bool}
theorem aHp (h:x.length<4):NoB x o most:=λb _ _ e=>by
 have:=bi List.length e;unfold bT at this;rw[mQ] at this;omega
theorem aAu (d:aI x) (a:4<=x.length):pJ x o most [] pp0:=by
 have h1:=EI 4 (x.take 4) (by rw[ax];omega) (d.take 4)
 have e:cuC x pp0.cd=lZ (x.take 4):=by
  show lZ (x.take (0+4))-0=_;rw[Eh]
 refine⟨λ_ h=>(by cases h),rfl,a,by rw[e];exact h1.1,by rw[e];show _<=(4294967295:Int);omega,λb _ _ _=>⟨rfl,?_⟩⟩;unfold bW;rw[aa];simp
theorem pJ.ok (h:pJ x o most acc S):xB S:=by
 rw[h.st];exact(zD λz a=>⟨(h.sy z a).1,by have:=(h.sy z a).2;omega⟩).1
theorem pJ.wid (h:pJ x o most acc S):16777216<=S.cd.R/\S.cd.R<4294967296:=⟨h.ok.2.2.1,h.ok.2.2.2.1⟩
theorem pJ.c2 (h:pJ x o most acc S):0<=cuC x S.cd/\cuC x S.cd<4294967296:=⟨h.c0,by have:=h.c1;have:=h.wid;omega⟩
theorem pJ.mdl (h:pJ x o most acc S):mD (dK o S):=DN h.ok
theorem pJ.tot (h:pJ x o most acc S):1<=bL (dK o S)/\bL (dK o S)<=65536:=by
 have h1:=h.mdl;have a:=aQf h1.2.1;have b:=h1.2.2;have d:=h1.1;omega
theorem pJ.next (h:pJ x o most acc S) (hb:aI b) (a:(b.length:Int)<=most) (e:bT b o=x):wH x S.cd (dK o S) (rd (bW b) acc.length)/\(0<=rd (bW b) acc.length/\rd (bW b) acc.length<258):=by
 obtain⟨a1,a2⟩:=h.all b hb a e;refine⟨aDe (i:=(acc.length:Int)) hb e.symm (by rw[bu,<-a1];exact h.st) G G,?_⟩;exact qA hb _ (bM (L:=bW b) (k:=(acc.length:Int)) G G)
theorem pJ.none (h:pJ x o most acc S) (k: ¬cuC x S.cd/(S.cd.R/bL (dK o S))<bL (dK o S)):NoB x o most:=λb hb d e=>by
 obtain⟨g,a⟩:=h.next hb d e;have:=lC h.mdl a.1 a.2;have i:=g.v1;have j:=this.2.2.1;omega
theorem ZG {C:AH}: ∀(k:Nat) {v:Int},k<=C.length->0<=v->v<bL (C.take k)-> ∃y:Int,(0<=y/\y<k)/\bL (C.take y.toNat)<=v/\v<bL (C.take y.toNat)+rd C y
 |0,v,_,h0,h=>by
  rw[yf,bAf] at h;omega
 | k+1,v,hk,h0,h=>by
  have e:=kW (l:=C) (i:=(k:Int)) G G;rw[show((k:Int)+1).toNat=k+1 by omega,bu] at e;by_cases c:v<bL (C.take k)
  ·obtain ⟨y,h1,a⟩:=ZG k G h0 c;exact⟨y,⟨h1.1,G⟩,a⟩
  exact⟨k,⟨G,G⟩,by rw[bu];omega,by rw[bu];omega⟩
theorem pJ.found (h:pJ x o most acc S) (e:cuC x S.cd/(S.cd.R/bL (dK o S))<bL (dK o S)): ∃y:Int,(0<=y/\y<258)/\(bL ((dK o S).take y.toNat)<=cuC x S.cd/(S.cd.R/bL (dK o S))/\cuC x S.cd/(S.cd.R/bL (dK o S))<bL ((dK o S).take y.toNat)+rd (dK o S) y)/\
  S.cd.R/bL (dK o S)*bL ((dK o S).take y.toNat)<=cuC x S.cd/\cuC x S.cd<S.cd.R/bL (dK o S)*(bL ((dK o S).take y.toNat)+rd (dK o S) y):=by
 have hl:=h.mdl.1
 have d:0<S.cd.R/bL (dK o S):=by
  have h1:=h.tot;have a:=h.wid;exact Int.lt_of_lt_of_le (by decide:(0:Int)<1) ((uo G).2 G)
 obtain⟨y,h1,a,b⟩:=ZG (C:=dK o S) 258 (v:=cuC x S.cd/(S.cd.R/bL (dK o S))) G (Aa h.c0 G) (by rw[bg G];exact e);refine⟨y,⟨h1.1,h1.2⟩,⟨a,b⟩,?_,?_⟩
 ·have:=(uo d).1 a;rw[xc];exact this
 have:=(Int.ediv_lt_iff_lt_mul d).1 b;rw[xc];exact this
theorem pJ.same (h:pJ x o most acc S) (d:0<=y/\y<258) (a:bL ((dK o S).take y.toNat)<=cuC x S.cd/(S.cd.R/bL (dK o S))/\cuC x S.cd/(S.cd.R/bL (dK o S))<bL ((dK o S).take y.toNat)+rd (dK o S) y) (hb:aI b) (j:(b.length:Int)<=most) (e:bT b o=x):rd (bW b) acc.length=y:=by
 obtain⟨g,i⟩:=h.next hb j e;have hl:=h.mdl;exact aFt hl.2.1 i.1 (by rw[hl.1];exact i.2) d.1 (by rw[hl.1];exact d.2) g.v0 g.v1 a.1 a.2
theorem pJ.short (h:pJ x o most acc S) (i:0<=y/\y<258) (g:bL ((dK o S).take y.toNat)<=cuC x S.cd/(S.cd.R/bL (dK o S))/\cuC x S.cd/(S.cd.R/bL (dK o S))<bL ((dK o S).take y.toNat)+rd (dK o S) y) (hk:x.length<(mM S.cd (dK o S) y).k+4):NoB x o most:=λb hb a e=>by
 have h1:=h.same i g hb a e;have d:=(h.next hb a e).1.len;rw[h1] at d;omega
theorem pJ.last (h:pJ x o most acc S) (g:bL ((dK o S).take (257:Int).toNat)<=cuC x S.cd/(S.cd.R/bL (dK o S))/\cuC x S.cd/(S.cd.R/bL (dK o S))<bL ((dK o S).take (257:Int).toNat)+rd (dK o S) 257) (hb:aI b) (d:(b.length:Int)<=most) (e:bT b o=x):bW b=acc++[257]:=by
 have h1:=h.same (y:=257) G g hb d e;obtain⟨a1,a2⟩:=h.all b hb d e;have k:=(PX hb (i:=(acc.length:Int)) G G).1 h1;have a:=dP (l:=bW b) (j:=(acc.length:Int)) G G;rw[bu,<-a1,h1,bg G] at a;exact a
theorem aHm {x:AH} (a:aI x) (k:Nat): ∀j:Nat,k+j<=x.length->lZ (x.take k)*256^j<=lZ (x.take (k+j))/\lZ (x.take (k+j))<(lZ (x.take k)+1)*256^j
 |0,_=>by simp only[qw,rz,wh];omega
 |j+1,h=>by
  obtain⟨h1,b⟩:=aHm a k j G;have e:=tQ (x:=x) (m:=k+j) G;have d:=a.rd ((k+j:Nat):Int);rw[show k+(j+1)=k+j+1 by omega,e,tq,<-qc,<-qc];constructor<;>omega
theorem bSd {s:CdS} {low size total:Int} (e:aI x) (d5:s.R/total*low<=cuC x s) (a:cuC x s<s.R/total*(low+size)) (hlen:(lW s low size total).k+4<=x.length):0<=cuC x (lW s low size total)/\cuC x (lW s low size total)<(lW s low size total).R:=by
 have g:=aHm e (s.k+4) (shN (s.R/total*size)) (by show s.k+4+shN _<=_;have:(lW s low size total).k=s.k+shN (s.R/total*size):=rfl;omega);have hp:(0:Int)<256^shN (s.R/total*size):=Ag cC
 have b:cuC x (lW s low size total)=lZ (x.take (s.k+4+shN (s.R/total*size)))-(s.N+s.R/total*low)*256^shN (s.R/total*size):=by
  unfold cuC lW;dsimp only;rw[show s.k+shN (s.R/total*size)+4=s.k+4+shN (s.R/total*size) by omega]
 have d:(lW s low size total).R=s.R/total*size*256^shN (s.R/total*size):=rfl;rw[b,d];unfold cuC at d5 a;rw[Ec] at a;generalize (256:Int)^shN (s.R/total*size)=P at*;generalize lZ (x.take (s.k+4+shN (s.R/total*size)))=M at*;generalize lZ (x.take (s.k+4))=K at*;generalize s.R/total*low=A at*;generalize s.R/total*size=Z at*;constructor
 ·have:(s.N+A)*P<=K*P:=ll G G;omega
 have:(K+1)*P<=(s.N+A+Z)*P:=ll G G;rw[Gg (s.N+A)] at this;omega
theorem pJ.step (h:pJ x o most acc S) (v:aI x) (w:0<=y/\y<258) (r:y≠257) (u:bL ((dK o S).take y.toNat)<=cuC x S.cd/(S.cd.R/bL (dK o S))/\cuC x S.cd/(S.cd.R/bL (dK o S))<bL ((dK o S).take y.toNat)+rd (dK o S) y)
  (d5:S.cd.R/bL (dK o S)*bL ((dK o S).take y.toNat)<=cuC x S.cd) (A:cuC x S.cd<S.cd.R/bL (dK o S)*(bL ((dK o S).take y.toNat)+rd (dK o S) y)) (hk:(mM S.cd (dK o S) y).k+4<=x.length):pJ x o most (acc++[y]) (fJ o S y):=by
 have hc:=bSd v d5 A hk;have e:(fJ o S y).cd=lW S.cd (bL ((dK o S).take y.toNat)) (rd (dK o S) y) (bL (dK o S)):=uK o S y;refine⟨λz a=> ?_,by rw[aBb,<-h.st],by rw[e];exact hk,by rw[e];exact hc.1,by rw[e];exact Be hc.2,λb hb q d=> ?_⟩
 ·rcases ek.1 a with a|a
  ·exact h.sy z a
  rw[gz.1 a];omega
 obtain ⟨a1,a2⟩:=h.all b hb q d;have h1:=h.same w u hb q d;have m:=dP (l:=bW b) (j:=(acc.length:Int)) G G;rw[bu,<-a1,h1] at m;have p:=PX hb (i:=(acc.length:Int)) G G;rw[h1] at p;rw[aa,dw];refine⟨by rw[<-m];congr 1,?_⟩;have: ¬((acc.length:Int)=(bW b).length-1):=λg=>r (p.2 g);omega
theorem pJ.full (h:pJ x o most acc S) (hn:most<acc.length):NoB x o most:=λb hb a e=>by
 have h1:=(h.all b hb a e).2;have d:=DI b;omega
theorem LH {most:Int}: ∀ {l out:AH} {p:Int} {q:AH},1<=p->aI out->(out.length:Int)<=most->bkL most l out p=some q->aI q/\(q.length:Int)<=most
 |[],out,p,q,_,hb,hl,h=>by
  rw[bkL] at h;cases h;exact⟨hb,hl⟩
 | z::l,out,p,q,hp,hb,hl,h=>by
  rw[bkL] at h;split at h
  ·cases h
  rename_i c;split at h
  ·split at h
   ·cases h
   rename_i c2 b;refine LH G (λy a=> ?_) ?_ h
   ·rcases ek.1 a with a|a
    ·exact hb y a
    rw[gz.1 a];omega
   rw[aa,dw];omega
  split at h
  ·cases h
  rename_i c2 b;refine LH G (λy a=> ?_) ?_ h
  ·rcases ek.1 a with a|a
   ·exact hb y a
   rw[Am a];omega
  rw [aa,df];have:(0:Int)<=(z+1)*p:=yz G G;omega
def aEq (x:AH) (o most:Int) (l:AH):Prop:= ∀b:AH,aI b->(b.length:Int)<=most->bT b o=x->bW b=l++[257]
theorem aEq.tell (h:aEq x o most l) (hb:aI b) (a:(b.length:Int)<=most) (e:bT b o=x):dR 0 (dY bQ b)=l/\bkL most l [] 1=some (dY bQ b):=by
 have h1:=List.append_cancel_right (h b hb a e);exact⟨h1,by rw[<-h1];exact aPe (oM hb) (by rw[jR];exact a)⟩
theorem aEq.none (h:aEq x o most l) (hk:bkL most l [] 1=none):NoB x o most:=λb hb a e=>by
 rw[(h.tell hb a e).2] at hk;cases hk
theorem aEq.other {q:AH} (h:aEq x o most l) (hk:bkL most l [] 1=some q) (a:bT (kR bQ q) o≠x):NoB x o most:=λb hb d e=>by
 rw[(h.tell hb d e).2] at hk;have:=fo hk;rw[<-this,GA hb] at a;exact a e
theorem bRi (hb:aI b) (e:bT b o=x):unU o n x=if (b.length:Int)=n then some b else none:=by
 split
 ·rename_i h;subst h;exact bJj hb e
 rename_i h;exact aZr λl hl hn a=>h (by rw[<-hn,pack_inj hl hb (a.trans e.symm)])
theorem bJk (h:NoB x o n):unU o n x=none:=aZr λl hl hn=>h l hl G
theorem aGw (h:iG r=none):pkU od n r=none:=by unfold pkU;rw[h]
theorem nJ {t:AH} (h:iG r=some (m,t)) (hl:(t.length:Int)<4+m):pkU od n r=none:=by
 unfold pkU;rw[h];dsimp only;rw[cz hl]
theorem bCp {t:AH} (h:iG r=some (m,t)) (hl:4+m<=(t.length:Int)):pkU od n r=(unU od n ((t.drop 4).take m.toNat)).map λl=>(UU (t.take 4),l,(t.drop 4).drop m.toNat):=by
 unfold pkU;rw[h];dsimp only;rw[bq G,<-xu];cases unU od n ((t.drop 4).take m.toNat)<;>rfl
theorem QJ {t:AH} (h:iG r=some (m,t)) (hl:4+m<=(t.length:Int)) (hb:NoB ((t.drop 4).take m.toNat) od n):pkU od n r=none:=by
 rw[bCp h hl,bJk hb];rfl
theorem mO {t:AH} (h:iG r=some (m,t)) (hl:4+m<=(t.length:Int)) (hb:aI b) (e:bT b od=(t.drop 4).take m.toNat):pkU od n r=if (b.length:Int)=n then some (UU (t.take 4),b,(t.drop 4).drop m.toNat) else none:=by
 rw[bCp h hl,bRi hb e];split<;>rfl
theorem aRm {t:AH} (h:iG r=some (a,t)):mkU 1 n r=if n<a then none else some ([a],t):=by unfold mkU;rw[cz rfl,h]
theorem bDo (h:iG r=none):mkU 1 n r=none:=by unfold mkU;rw[cz rfl,h]
theorem VA {t:AH} (h:iG r=some (m,t)):mkU 3 n r=if 1000<m then none else wK n m.toNat t:=by unfold mkU;rw[bq G,cz rfl,h]
theorem bDn (h:iG r=none):mkU 3 n r=none:=by unfold mkU;rw[bq G,cz rfl,h]
theorem bOz (h1:t≠1) (a:t≠3):mkU t n r=some ([],r):=by unfold mkU;rw[bq h1,bq a]
theorem aFl {t acc:AH} (h:iG r=some (a,t)) (b: ¬(a<1\/n<a)) {o:Option (AH × AH)} (e:o=(wK n (k+1) r).map λp=>(acc++p.1,p.2)):o=(wK n k t).map λp=>((acc++[a])++p.1,p.2):=by
 rw[e,wK,h];dsimp only;rw[bq b,Option.map_map];congr 1;funext p;simp
theorem aCf {t acc:AH} (h:iG r=some (a,t)) (b:a<1\/n<a) {o:Option (AH × AH)} (e:o=(wK n (k+1) r).map λp=>(acc++p.1,p.2)):o=none:=by
 rw[e,wK,h];dsimp only;rw[cz b];rfl
theorem aFm {acc:AH} (h:iG r=none) {o:Option (AH × AH)} (e:o=(wK n (k+1) r).map λp=>(acc++p.1,p.2)):o=none:=by
 rw[e,wK,h];rfl
theorem aQb {acc:AH} {o:Option (AH × AH)} (e:o=(wK n 0 r).map λp=>(acc++p.1,p.2)):o=some (acc,r):=by
 rw[e,wK];simp
theorem bHz (h:XK l (rd ms 0)):bkU 1 l ms=some (iW l (rd ms 0),[]):=by unfold bkU;rw[cz rfl,cz h]
theorem bHy (h: ¬XK l (rd ms 0)):bkU 1 l ms=none:=by unfold bkU;rw[cz rfl,bq h]
theorem WZ:bkU 2 l ms=some (backL l (bR (lfL l)),[]):=by unfold bkU;rw[bq G,cz rfl]
theorem aBu:bkU 3 l ms=(eY ((bR (lfL l)).map (bS l)) [] 0 ms).map λws=>(ws.flatten,ws):=by unfold bkU;rw[bq G,bq G,cz rfl]
theorem bHx (h1:t≠1) (a:t≠2) (b:t≠3):bkU t l ms=some (l,[]):=by unfold bkU;rw[bq h1,bq a,bq b]
abbrev vD (t sz lim tot n:Int):Prop:= ¬((t=3/\0<tot)\/(t≠3/\sz<n)\/lim-tot<n)
theorem qK {tot:Int} (h: ¬vD t sz lim tot n):qL t od sz lim tot n r= .error 3:=by unfold qL;rw[cz (ol.1 h)]
theorem QU {tot:Int} (h:vD t sz lim tot n) (h1:mkU t n r=none):qL t od sz lim tot n r= .error 3:=by unfold qL;rw[bq h,h1]
theorem jF {tot:Int} (h:vD t sz lim tot n) (h1:mkU t n r=some (ms,r1)) (a:pkU od n r1=none):qL t od sz lim tot n r= .error 3:=by unfold qL;rw[bq h,h1];dsimp only;rw[a]
theorem LG {tot:Int} (h:vD t sz lim tot n) (h1:mkU t n r=some (ms,r1)) (a:pkU od n r1=some (sm,l,r2)) (b:bkU t l ms=none):qL t od sz lim tot n r= .error 5:=by unfold qL;rw[bq h,h1];dsimp only;rw[a];dsimp only;rw[b]
theorem rR {tot:Int} (h:vD t sz lim tot n) (h1:mkU t n r=some (ms,r1)) (a:pkU od n r1=some (sm,l,r2)) (d:bkU t l ms=some (b,ws)):qL t od sz lim tot n r=if bv (lG b)≠sm then .error 4 else .ok ((b,ws),r2):=by unfold qL;rw[bq h,h1];dsimp only;rw[a];dsimp only;rw[d]
theorem wE (hl:aI l) (a:t≠3) (h:bkU t l ms=some (b,ws)):b.length=l.length/\aI b:=⟨(WY hl a h).2.1,(WY hl a h).2.2.1⟩
theorem aRk (h:mkU t n r=some (ms,r1)) (h1:t=1):ms.length=1:=by
 rcases JW h with⟨_,a,rfl,_⟩|⟨b,_⟩|⟨b,_⟩
 ·rfl
 ·omega
 exact absurd h1 b
theorem UZ (hb:aI r) (h:mkU t n r=some (ms,r1)):aI r1/\r1.length<=r.length:=by
 have key: ∀x:AH,r=x++r1->aI r1/\r1.length<=r.length:=λx e=>⟨aI.back (by rw[<-e];exact hb),by rw[e,aa];omega⟩;rcases JW h with⟨_,a,_,_,_,e⟩|⟨_,_,e,_⟩|⟨_,_,_,e⟩
 ·exact key _ e
 ·exact key _ e
 exact key [] e
theorem aGx (hb:aI r) (h:pkU od n r=some (sm,l,r2)):(aI l/\(l.length:Int)=n)/\aI r2/\r2.length<=r.length:=by
 obtain⟨h1,a,e⟩:=aCz hb h;refine⟨⟨h1,a⟩,?_,?_⟩
 ·rw [e] at hb;exact aI.back (aI.back (aI.back hb))
 have:=bi List.length e;simp only[aa] at this;omega
theorem bVd (h:8<=u.length):rd ((u.drop 5).take 3) 0=rd u 5/\rd ((u.drop 5).take 3) 1=rd u 6/\rd ((u.drop 5).take 3) 2=rd u 7:=by
 have key: ∀j:Int,0<=j->j<3->rd ((u.drop 5).take 3) j=rd u (5+j):=λj j0 a=>by
  rw[fH (l:=(u.drop 5).take 3) j0 (by rw[ax,az];omega),fH (l:=u) (i:=5+j) G G,uf,xz];congr 1;omega
 exact⟨key 0 G G,key 1 G G,key 2 G G⟩
theorem oV (h:u.length<8):nW u=none:=by unfold nW;rw[bq G]
theorem OL (h:u.take 5≠[87,72,82,76,1]):nW u=none:=by unfold nW;rw[bq λc=>h c.1]
theorem VK (h:iG ((u.drop 5).drop 3)=none):nW u=none:=by
 rw[xu] at h;unfold nW;split
 ·rw[h]
 rfl
theorem BQ (hb:aI u) (a:u.take 5=[87,72,82,76,1]) (b:8<=u.length) (h:iG ((u.drop 5).drop 3)=some (sz,r)):nW u=if (0<=rd u 5/\rd u 5<=3)/\(0<=rd u 6/\rd u 6<=2)/\(rd u 7=0\/rd u 7=1)/\(1<=sz/\sz<=16777216) then some ((rd u 5,rd u 6,rd u 7,sz),r) else none:=by
 rw[xu] at h;have d:=hb.rd 5;have e:=hb.rd 6;have g:=hb.rd 7;unfold nW;rw[cz ⟨a,b⟩,h];dsimp only;split
 ·rw[cz G]
 rw[bq G]
theorem DT {last:Int} (h:iG r=none):rV t od sz lim (f+1) s ws last sh r= .error 3:=by rw[rV,h]
theorem iM {last:Int} (h:iG r=some (0,r1)):rV t od sz lim (f+1) s ws last sh r=if PO t s.length sh r1 then .ok (s,ws) else .error 3:=by rw[rV,h];rfl
theorem uM {last:Int} (h:iG r=some (n,r1)) (a:n≠0) (hk:qL t od sz lim s.length n r1= .error e):rV t od sz lim (f+1) s ws last sh r= .error e:=by
 rw[rV,h];dsimp only;rw[bq a,hk]
theorem DR {last:Int} {w2:AD} (h:iG r=some (n,r1)) (a:n≠0) (hk:qL t od sz lim s.length n r1= .ok ((b,w2),r2)):rV t od sz lim (f+1) s ws last sh r=rV t od sz lim f (s++b) w2 n (sh||decide (0<last/\last<sz)) r2:=by
 rw[rV,h];dsimp only;rw[bq a,hk]
theorem EO {tot:Int} (h:iG r=none):PO t tot sh r=false:=by unfold PO;rw[h]
theorem aSe {tot:Int} (h:iG r=some (n,r1)):PO t tot sh r=decide (n=tot/\r1=[]/\ ¬(sh=true/\t≠3)):=by unfold PO;rw[h]
theorem decU_none (h:nW u=none):pI u lim= .error 3:=by unfold pI;rw[h]
theorem fM (h:nW u=some ((t,so,od,sz),r)) (a:rV t od sz (min lim 100000) (r.length+1) [] [] 0 false r= .error e):pI u lim= .error e:=by unfold pI;rw[h];dsimp only;rw[a]
theorem EQ {p:AH × AD} (h:nW u=some ((t,so,od,sz),r)) (a:rV t od sz (min lim 100000) (r.length+1) [] [] 0 false r= .ok p):pI u lim= .ok (p,(t,so,od,sz)):=by unfold pI;rw[h];dsimp only;rw[a]
theorem uV {tot:Int} (h:iG r=some (n,r1)) (hc:(n≠tot\/(0:Int)<r1.length)\/(sh=true/\t≠3)):PO t tot sh r=false:=by
 rw[aSe h,si];rintro⟨h1,rfl,a⟩;rcases hc with(h|h)|h
 ·exact h h1
 ·simp at h
 exact a h
theorem tZ {tot:Int} (h:iG r=some (n,r1)) (hc: ¬((n≠tot\/(0:Int)<r1.length)\/(sh=true/\t≠3))):PO t tot sh r=true:=by
 rw[aSe h,wo];have h1: ¬(n≠tot\/(0:Int)<r1.length):=λg=>hc (.inl g);exact⟨G,di G,λg=>hc (.inr g)⟩
theorem aRl (h:mkU t n r=some (ms,r1)):ms.length<=1000:=by
 rcases JW h with⟨_,a,rfl,_⟩|⟨_,b,_⟩|⟨_,_,rfl,_⟩
 ·simp
 ·exact b
 simp
end
end
section
variable {b:AH} {q:Nat} {x:Int}
def PN (b:AH) (q:Nat) (x:Int):Int:=rd b (q:Int)%128%2^(64-7*q)*2^(7*q)+x
theorem aRz (j:q<=9) (g:0<=x) (k:x<2^(7*q)):0<=PN b q x/\PN b q x<18446744073709551616:=by
 unfold PN;have hp:(0:Int)<2^(64-7*q):=Ag cC;have h1:=jk (rd b (q:Int)%128) (Int.ne_of_gt hp);have h:=ja (rd b (q:Int)%128) hp
 have e:(2:Int)^(64-7*q)*2^(7*q)=18446744073709551616:=by
  rw[<-za,show 64-7*q+7*q=64 by omega];rfl
 generalize rd b (q:Int)%128%2^(64-7*q)=d at*;generalize (2:Int)^(7*q)=m at*;generalize (2:Int)^(64-7*q)=p at*;have i:0<=d*m:=yz h1 G;have a:(d+1)*m<=p*m:=ll G G;rw[Gg] at a;omega
theorem aIh (d:q<=8):PN b q x=rd b (q:Int)%128*2^(7*q)+x:=by
 unfold PN
 have h1:(128:Int)<=2^(64-7*q):=by
  have:(2:Int)^7<=2^(64-7*q):=by
   exact_mod_cast Cj (by decide:0<2) (show 7<=64-7*q by omega)
  omega
 rw[kg (a:=rd b (q:Int)%128) G G]
theorem bFb (hb:aI b) (C:q<=9) (hl:q<b.length) (h:rd b (q:Int)<128) (hn: ∀j:Int,0<=j->j<q-> ¬rd b j<128):
  (aU (PN b q (iY (b.take q)))=b.take (q+1)->rJ b (PN b q (iY (b.take q))) (q+1))/\(aU (PN b q (iY (b.take q)))≠b.take (q+1)-> ¬ ∃V k,rJ b V k):=by
 have v:=rU (b.take q);have D:=aRz (b:=b) C v (IM (b:=b) q G);refine⟨λe=>⟨D,by rw[e,ax];omega,_,by rw[e,ed]⟩,λe=> ?_⟩;rintro⟨V,k,B⟩;refine e ?_;obtain⟨r,hk,t,u⟩:=B;have h1:=aDv (aU V) t (QG r.1);rw[<-u] at h1;have o:=aSk (b:=b) (i:=(q:Int)) G G h hn
 have F:b.findIdx (λx=>decide (x<128))=q:=by
  unfold kD at o;split at o
  ·omega
  omega
 have y:(aU V).length=q+1:=G
 have p:aU V=b.take (q+1):=by
  rw[u,<-y,Cg]
 have l:V=iY (b.take (q+1)):=by rw[<-p,IL r.1]
 have m:=xC (b:=b) (q:=q) hl;have J:=hb.rd (q:Int)
 have A:PN b q (iY (b.take q))=V:=by
  rcases gm q 9 with c|c
  ·rw[aIh G,l,m]
  obtain rfl:q=9:=G
  unfold PN;rw[l,m]
  have H:rd b ((9:Nat):Int)%128*9223372036854775808+iY (b.take 9)<18446744073709551616:=by
   have a:=m;rw[<-l] at a;have d:(2:Int)^(7*9)=9223372036854775808:=rfl;rw[d] at a;omega
  have w:(2:Int)^(64-7*9)=2:=rfl;rw[w];have g:rd b ((9:Nat):Int)%128%2=rd b ((9:Nat):Int)%128:=G
  rw[g]
 rw[A,p]
theorem bMj (hb:aI b) {i:Int} (hi:i=b.length\/i=10) (hn: ∀j:Int,0<=j->j<i->j<b.length-> ¬rd b j<128): ¬ ∃V k,rJ b V k:=by
 refine aNv hb ?_;by_cases h:kD b<0
 ·exact .inl h
 obtain ⟨h1,a,d⟩:=zC (b:=b) G;have: ¬kD b<i:=λc=>hn _ G c h1 a;exact .inr (.inl G)
end
end Go.Pure
namespace Go.Eng
open Go Go.RowKit Go.Pure
section
variable {P:Program} {n:Nd} {B:Nat} {w0:World} {L:Env} {R:List Row} {ty:TypeId}
section
variable {w:World} {A A2:AF} {m c m2 c2 sz e k:Nat} {u t:AH} {x y:Operand} {xs:AG}
theorem aEn {f:FuncId} {Nk:List Operand} {ts:Array TypeId} {vs:AG} {Post:Value->List Row->Prop} (e:evs L Nk=some vs)
  (k: ∀w,Hp B w0 w R-> ∃v w' R',(callFunc f vs.toArray).run P w= .ok (.value v) w'/\Hp B w0 w' R'/\Post v R'):
  Ac P n B w0 (.call {callee:= .value (.func f),args:=Nk.toArray,argTypes:=ts}) ty L R Post:=by
 intro a w o K Q h _ hs hp hk;have d:=hs.evs e;obtain⟨v,w',R',i,b,j⟩:=k w hp;have g:a.eval (.func f)= .func (.func f) #[] #[]:=hs.ev rfl;unfold Oper.wp;simp only[execOp,h,resolve,g,Deferred.ofValue,invoke,jq,qg,jw,uu,d,uz,ig,ik,i,Oper.upon];exact hk v w' R' b j
theorem aKd (u:AH):(Lib.bytesOf u).length=u.length:=by simp[Lib.bytesOf]
theorem aBi: ∀ {u t:AH},aI u->aI t->Lib.compareBytes (Lib.bytesOf u) (Lib.bytesOf t)=cmpL u t
 |[],[],_,_=>rfl
 |[],_::_,_,_=>rfl
 |_::_,[],_,_=>rfl
 | x::u,y::t,hu,ht=>by
  have l:=aBi (u:=u) (t:=t) (λz j=>hu z (fw _ j)) λz j=>ht z (fw _ j);have g:=hu x cD;have i:=ht y cD
  have e: ∀z:Int,0<=z/\z<256->((z.toNat.toUInt8).toNat:Int)=z:=λz j=>by
   rw[Nat.toUInt8,Dh (by simp[UInt8.size];omega)];omega
  have ci: ∀ {a b:Int},0<=a/\a<256->0<=b/\b<256->(a.toNat.toUInt8<b.toNat.toUInt8↔a<b):=λ{a b} k hb=>by
   rw[UInt8.lt_iff_toNat_lt];have h1:=e a k;have m:=e b hb;omega
  show(if x.toNat.toUInt8<y.toNat.toUInt8 then -1 else if y.toNat.toUInt8<x.toNat.toUInt8 then 1 else Lib.compareBytes (Lib.bytesOf u) (Lib.bytesOf t))=cmpL (x::u) (y::t);rw[cmpL,l];by_cases c:x<y
  ·rw[cz c,cz ((ci g i).2 c)]
  rw [bq c,bq (λh=>c ((ci g i).1 h))];by_cases d:y<x
  ·rw[cz d,cz ((ci i g).2 d)]
  rw[bq d,bq (λh=>d ((ci i g).1 h))]
theorem AC (h:Rd w A m c 1 (ints .u8 u)):(Extern.Bytes.bytesOf (.slice A m c)).run P w= .ok ⟨(Lib.bytesOf u).toArray⟩ w:=by
 have hl:=h.lenI;rcases A with _|a
 ·have d:u=[]:=by
   cases u with
   |nil=>rfl
   |cons y l'=>obtain⟨_,g,_⟩:=h.at_ 0 (.int .u8 y) (by simp[ints]);cases g
  subst d;rfl
 have:=Lib.run_loadBytesX (P:=P) w u a .empty λj x i=>by
  obtain⟨b,e,hc⟩:=h.at_ j (.int .u8 x) (by simp[ints,i]);obtain rfl:=fo e;exact hc
 rw[<-hl] at this;show(Extern.Bytes.loadBytes a m .empty).run P w=_;rw[this];simp
theorem bKe (h:Rd w A m c 1 (ints .u8 u)) (a:Rd w A2 m2 c2 1 (ints .u8 t)) (hu:aI u) (b:aI t):
  (Extern.BytealgCompare.compare #[.slice A m c, .slice A2 m2 c2]).run P w= .ok (.int .i64 (cmpL u t)) w:=by
 change Sem.run P (do pure (goInt (Extern.BytealgCompare.cmp (<-Extern.Bytes.bytesOf (.slice A m c)) (<-Extern.Bytes.bytesOf (.slice A2 m2 c2))))) w=_;simp only[jq,AC h,AC a,jw,qg];rw[Lib.cmp_eq,aBi hu b];rfl
theorem bZm {f:FuncId} {fn:Func} {ts:Array TypeId} {c:Nat} (g:P.funcs[f]? =some fn) (b:(fn.name== "runtime.NumGoroutine")=false) (hb:fn.body.isNone=true) (hn:Extern.findNext fn=none) (e:Extern.find fn=some Extern.BytealgCompare.compare)
  (j:ev L x=some (.slice A m c)) (k:ev L y=some (.slice A2 m2 c2)) (h:RdC B w0 R A m c 1 (ints .u8 u)) (d:RdC B w0 R A2 m2 c2 1 (ints .u8 t)) (hu:aI u) (i:aI t):
  Ac P n B w0 (.call {callee:= .value (.func f),args:=[x,y].toArray,argTypes:=ts}) ty L R (λv R'=>v= .int .i64 (cmpL u t)/\R'=R):=
 aEn (vs:=[.slice A m c, .slice A2 m2 c2]) (by simp[evs,j,k]) λw a=>⟨_,w,R,by
  rw[Gv g b hb hn e];rw[show [Value.slice A m c,Value.slice A2 m2 c2].toArray= #[.slice A m c, .slice A2 m2 c2] from rfl,bKe (h w a) (d w a) hu i]
  rfl,a,rfl,rfl⟩
theorem bOp {t e:TypeId} (d:P.underlying t=some (.slice e)) (g:ev L x=some (.slice A m c)):Yl P n B w0 (.call {callee:= .builtin .cap,args:= #[x],argTypes:= #[t]}) ty L R (.int .i64 (c:Int)):=by
 intro a w o b _ hs _;simp[execOp,b,resolve,invoke,builtin,Builtin.cap_,pu d,hs.ev g,goInt]
theorem aEy {z:Operand} {t e:TypeId} {k2:IntKind} (d:P.underlying t=some (.slice e)) (hi:(P.info? e).map (·.size)=some sz) (k:ev L x=some (.slice A m c)) (l:ev L z=some (.int k2 0)):
  Yl P n B w0 (.slice t x none (some z) none) ty L R (.slice A 0 c):=by
 intro a w o j _ hs hp;obtain⟨i0,i,b⟩:=ii.1 hi;have g:P.elem t=e:=by simp[Program.elem,d]
 have h:P.underlying t=some (.slice (P.elem t)):=by rw[g];exact d
 simp only[execOp,j,lh,Bp,hs.ev k,hs.ev l,jq,Ak w t _ _ _ _ h,run_slice_h w t A m c h k2 0 (ni 0) G,g]
 have:(if c=0 then A else Option.map (λx=>x.add 0) A)=A:=by
  split
  ·rfl
  exact JQ A
 simp[sizeOf,typeInfo,i,b,sliced,this]
theorem Row.lies_cut (h:Row.lies B w ⟨e,sz,A,m,c,xs,false⟩) (hk:k<=m) (d:A≠none):Row.lies B w ⟨e,sz,A,k,c,xs.take (k*sz),false⟩:=by
 have h1:=Row.lies_w h rfl;have q:k*sz<=m*sz:=vo _ hk;unfold Row.lies;simp only;obtain⟨hl,b⟩:=h1;simp only at hl b;refine⟨by rw[ax];omega,?_⟩;rcases b with⟨a,_⟩|⟨g,cap,cur,a,hb,i,j,p,o,l⟩
 ·simp only[ko] at a;exact absurd a.1 d
 simp only[ko] at a;obtain⟨rfl,_,rfl⟩:=a;refine .inr ⟨g,c,cur,rfl,hb,i,G,p,o,?_⟩;rw[<-l,List.take_take];congr 1;omega
theorem Hp.cut (h:Hp B w0 w (⟨e,sz,A,m,c,xs,false⟩::R)) (hk:k<=m) (d:A≠none):Hp B w0 w (⟨e,sz,A,k,c,xs.take (k*sz),false⟩::R):=
 ⟨h.below,h.base,λr a=>by
  rcases il.1 a with rfl|a
  ·exact Row.lies_cut (h.own _ (.head _)) hk d
  ·exact h.own r (.tail _ a),by
  obtain⟨h1,b⟩:=jb.1 h.apart
  exact jb.2 ⟨λr a=>h1 r a,b⟩,h.late⟩
theorem Hp.newC (h:Hp B w0 w R) (cs:Array Value) (e m:Nat) (a:m<=cs.size) (hc:cs.size<=maxLen):Hp B w0 (w.alloc (.cells cs e)) (⟨e,1,some ⟨w.heap.size,0,none⟩,m,cs.size,cs.toList.take m,false⟩::R):=by
 have h1:=h.new cs e cs.size 1 hc G;have:=h1.cut (k:=m) a cD;rwa[qy] at this
theorem bOb {t h e:TypeId} {z:Value} {bytes:Nat} {j:IntKind} (H:P.underlying t=some (.slice e)) (u:P.underlying h=some (.int j)) (A:(P.info? e).map (λi=>(i.zero,i.size,i.bytes))=some (some z,1,bytes)) (N:z.cells= #[z])
  (J:ev L x=some (.slice none 0 0)) (M:ev L y=some (.int .i64 (m:Int))) (C:0<m) (T:m<=9223372036854775807) (hb:m*bytes<=281474976710656):
  Ac P n B w0 (.call {callee:= .builtin .append,args:= #[x,y],argTypes:= #[t,h]}) ty L R (λv R'=> ∃g c,v= .slice (some ⟨g,0,none⟩) m c/\R'=⟨e,1,some ⟨g,0,none⟩,m,c,List.replicate m z,false⟩::R):=by
 intro a w o K Q D _ hs hp hk;obtain⟨i0,hi,l⟩:=ii.1 A;simp only[uk] at l;obtain⟨n8,X,r⟩:=l;have F:=Lib.run_append_nil_zeros (P:=P) w t h o.type e i0 z .i64 j H u hi n8 m C G G (by rw[r];exact hb)
 have d: ∀q,(Builtin.zeroCells z.cells q).toList=List.replicate q z:=λq=>by
  rw[N];refine su (by simp[Builtin.zeroCells]) λi h1 S=> ?_;simp[Builtin.zeroCells,Nat.mod_one]
 unfold Oper.wp;simp only[execOp,D,resolve,invoke,builtin,jq,qg,jw,uu,jg,ug,hs.ev J,hs.ev M,F,Oper.upon];have p:=grownCap_ge w m 0 e;have O:=Ia w m 0 e (by unfold maxLen;omega)
 have b:(Builtin.zeroCells z.cells m++Builtin.zeroCells z.cells (grownCap w m 0 e-m)).size=grownCap w m 0 e:=by
  rw[<-jy,vz,aa,d,d,df,df];omega
 have k:=(hp.drawn (w.drawn+1) G).newC (Builtin.zeroCells z.cells m++Builtin.zeroCells z.cells (grownCap w m 0 e-m)) e m (by rw[b];exact p) (by rw[b];exact O);rw[vz,d,d,Dm (by rw[df]),b] at k;exact hk _ _ _ k ⟨_,_,rfl,rfl⟩
end
end
section
variable {P:Program} {n:Nd} {B:Nat} {w0:World} {L:Env} {R:List Row} {ty:TypeId}
theorem aTa {x y:Int} (a:0<=x/\x<256) (b:0<=y/\y<256):(x.toNat.toUInt8==y.toNat.toUInt8)=decide (x=y):=by
 have e: ∀z:Int,0<=z/\z<256->((z.toNat.toUInt8).toNat:Int)=z:=λz d=>by
  rw[Nat.toUInt8,Dh (by simp[UInt8.size];omega)];omega
 by_cases h:x=y
 ·subst h;simp
 rw [mo h];refine beq_eq_false_iff_ne.2 λg=>h ?_;have:=e x a;have:=e y b;rw[g] at*;omega
theorem aWs {u:AH} {c:Int} (hu:aI u) (hc:0<=c/\c<256) (b:c∈u):
  (List.range (⟨(Lib.bytesOf u).toArray⟩:ByteArray).size).find? (λi=>(⟨(Lib.bytesOf u).toArray⟩:ByteArray)[i]! ==c.toNat.toUInt8)=some (idx u c).toNat:=by
 have hi:=BP b
 have a:(⟨(Lib.bytesOf u).toArray⟩:ByteArray).size=u.length:=by
  show(Lib.bytesOf u).toArray.size=_;rw[qz,aKd]
 have g7: ∀(i:Nat) (h:i<u.length),(⟨(Lib.bytesOf u).toArray⟩:ByteArray)[i]! =(u[i]).toNat.toUInt8:=λi h=>by
  rw[uh _ i (by rw[a];exact h)];show(Lib.bytesOf u).toArray[i]'_=_;simp[Lib.bytesOf]
 refine List.find?_range_eq_some.2 ⟨?_,?_,?_⟩
 ·rw [g7 _ G,aTa (hu _ (mg _)) hc];have:=aMn b;rw[fH hi.1 hi.2] at this;rw[nz this]
 ·rw[jr,a];omega
 intro j d;rw[g7 _ G,aTa (hu _ (mg _)) hc]
 have:u[j]≠c:=λg=>by
  unfold idx at d hi;have:=Eo (xs:=u) (p:=λx=>x==c) (i:=j) G;simp[g] at this
 rw[mo this];rfl
theorem aKn {f:FuncId} {fn:Func} {x y:Operand} {ts:Array TypeId} {A:AF} {m c':Nat} {u:AH} {c:Int} (j:P.funcs[f]? =some fn) (e:(fn.name== "runtime.NumGoroutine")=false) (hb:fn.body.isNone=true) (hn:Extern.findNext fn=none) (g:Extern.find fn=some Extern.BytealgIndexByte.indexByte)
  (k:ev L x=some (.slice A m c')) (l:ev L y=some (.int .u8 c)) (h:RdC B w0 R A m c' 1 (ints .u8 u)) (hu:aI u) (hc:0<=c/\c<256) (a:c∈u):
  Ac P n B w0 (.call {callee:= .value (.func f),args:=[x,y].toArray,argTypes:=ts}) ty L R (λv R'=>v= .int .i64 (idx u c)/\R'=R):=
 aEn (vs:=[.slice A m c', .int .u8 c]) (by simp[evs,k,l]) λw d=>⟨_,w,R,by
  rw[Gv j e hb hn g];rw[show [Value.slice A m c',Value.int .u8 c].toArray= #[.slice A m c', .int .u8 c] from rfl]
  change (Sem.run P (do
   let b<-Extern.Bytes.bytesOf (.slice A m c')
   let c<-Extern.Bytes.asByte (.int .u8 c)
   match (List.range b.size).find? λi=>b[i]! ==c with
   |some i=>pure (goInt i)
   |none=>pure (goInt (-1))) w).andThen _=_
  simp only[jq,AC (h w d),jw,Extern.Bytes.asByte,qg,aWs hu hc a];rfl,d,by
  show Value.int .i64 (((idx u c).toNat:Nat):Int)=_;have:=BP a
  rw[show(((idx u c).toNat:Nat):Int)=idx u c by omega],rfl⟩
theorem lM {x:Int} (a:0<=x) (h:x<18446744073709551616):IntKind.u64.wrap x=x:=by
 rw[Fp];omega
theorem oJ {x:Int} (a:0<=x) (h:x<256):IntKind.u8.wrap x=x:=by
 rw[Dj];omega
theorem bAo (x:Int) (d:0<=x) (h1:x<18446744073709551616) (j:IntKind) (k:Nat) (hk:k<=64) (w:World):(Op.shift .shr .u64 x j (k:Int)).run P w= .ok (.int .u64 (x/2^k)) w:=by
 have hn: ¬((k:Int)<0):=G
 have b:min (k:Int).toNat (IntKind.bits .u64)=k:=by
  have:IntKind.bits .u64=64:=rfl;omega
 have a:Int.fdiv x (2^k)=x/2^k:=Cf _ (by exact wz G);unfold Op.shift;simp only[hn,b,a,xq];rfl
theorem bQr {x y:Operand} {t u:TypeId} {a:Int} {j:IntKind} {k:Nat} (e:ev L x=some (.int .u64 a)) (g:ev L y=some (.int j (k:Int))) (b:0<=a) (h1:a<18446744073709551616) (hk:Nat.ble k 64=true):Yl P n B w0 (.binOp .shr t x y u) ty L R (.int .u64 (a/2^k)):=by
 intro h w o d _ hs _;simp[execOp,d,hs.ev e,hs.ev g,binOp,eqGuard,bAo a b h1 j k (ah hk)]
end
section
variable {P:Program} {n:Nd} {B:Nat} {w0:World} {L:Env} {R:List Row} {ty:TypeId}
section
variable {w:World} {A:AF} {m c:Nat} {k:IntKind} {u:AH} {Rs Xk:List Row} {vals v1 v2:AG} {ls l1 l2:AD} {i:Int} {x:Operand}
theorem aVf (h:Rd w A m c 1 (ints k u)) (a:A.isNone=true):u=[]:=by
 cases u with
 |nil=>rfl
 |cons y l=>
  obtain⟨b,g,_⟩:=h.at_ 0 (.int k y) (by simp[ints]);rw[g] at a;cases a
theorem SlR.weak (h:SlR k Rs vals ls) (d: ∀B w0 w,Hp B w0 w Xk->Hp B w0 w Rs):SlR k Xk vals ls:=
 ⟨h.1,λj b=>by
  obtain⟨A,c,h1,a⟩:=h.2 j b
  exact⟨A,c,h1,λB w0 w e=>a B w0 w (d B w0 w e)⟩⟩
theorem SlR.right (h:SlR k Rs vals ls) (X:List Row):SlR k (X++Rs) vals ls:=h.weak λ_ _ _ a=>a.right
theorem SlR.left (h:SlR k Rs vals ls) (T:List Row):SlR k (Rs++T) vals ls:=h.weak λ_ _ _ a=>a.left
theorem aIi {l m:AD} {j:Nat} (h:j<l.length):(l++m).getD j []=l.getD j []:=by
 rw[af,af,jh h]
theorem SlR.app (h:SlR k Rs v1 l1) (g:SlR k Rs v2 l2):SlR k Rs (v1++v2) (l1++l2):=by
 refine⟨by simp[h.1,g.1],λj b=> ?_⟩;rcases gm j l1.length with q|q
 ·obtain ⟨A,c,h1,a⟩:=h.2 j q;rw[aIi q,jh (by rw[h.1];exact q)];exact⟨A,c,h1,a⟩
 rw [aa] at b;obtain⟨A,c,h1,a⟩:=g.2 (j-l1.length) G
 have e:(l1++l2).getD j []=l2.getD (j-l1.length) []:=by
  rw[af,af,ji q]
 rw[e,ji (by rw[h.1];exact q),h.1];exact⟨A,c,h1,a⟩
theorem SlR.take (h:SlR k Rs vals ls) (i:Nat):SlR k Rs (vals.take i) (ls.take i):=by
 refine⟨by simp[h.1],λj b=> ?_⟩;rw[ax] at b;obtain⟨A,c,h1,a⟩:=h.2 j G
 have e:(ls.take i).getD j []=ls.getD j []:=by
  rw[af,af,qx G]
 rw[e,qx G];exact⟨A,c,h1,a⟩
theorem SlR.drop (h:SlR k Rs vals ls) (i:Nat):SlR k Rs (vals.drop i) (ls.drop i):=by
 refine⟨by simp[h.1],λj b=> ?_⟩;rw[az] at b;obtain⟨A,c,h1,a⟩:=h.2 (i+j) G
 have e:(ls.drop i).getD j []=ls.getD (i+j) []:=by
  rw[af,af,ui]
 rw[e,ui];exact⟨A,c,h1,a⟩
theorem SlR.single {l:AH} (b:m=l.length) (h: ∀B w0 w,Hp B w0 w Rs->Rd w A m c 1 (ints k l)):SlR k Rs [.slice A m c] [l]:=by
 subst b;refine⟨rfl,λj a=> ?_⟩;simp only[dw] at a;obtain rfl:j=0:=G
 exact⟨A,c,rfl,h⟩
theorem SlR.push {l:AH} (h:SlR k Rs vals ls) (a:m=l.length) (b: ∀B w0 w,Hp B w0 w Rs->Rd w A m c 1 (ints k l)):SlR k Rs (vals++[.slice A m c]) (ls++[l]):=h.app (SlR.single a b)
theorem SlR.one {vals:AG} (h:SlR k Rs vals ls): ∀v∈vals,v.oneCell'=true:=λv b=>by
 obtain⟨j,a,e⟩:=ib.1 b;obtain⟨A,c,h1,_⟩:=h.2 j (by rw[<-h.1];exact a);rw[au a,e] at h1;obtain rfl:=fo h1;simp[Value.oneCell']
def OkB (ls:AD):Prop:= ∀l∈ls,aI l/\l.length<=140737488355327
theorem SlR.slw (h:SlR .u8 Rs vals ls) (hb:OkB ls) (e:Hp B w0 w Rs):SlW .u8 w vals ls:=
 ⟨h.1,λj a=>by
  obtain⟨A,c,h1,d⟩:=h.2 j a
  have b:ls.getD j []∈ls:=by
   rw[af,au a];exact mg a
  exact⟨A,c,h1,d _ _ _ e,λx g=>eQ ((hb _ b).1 x g),(hb _ b).2⟩⟩
theorem SlW.take (h:SlW k w vals ls) (i:Nat):SlW k w (vals.take i) (ls.take i):=by
 refine⟨by simp[h.1],λj a=> ?_⟩;rw[ax] at a
 have e:(ls.take i).getD j []=ls.getD j []:=by
  rw[af,af,qx G]
 rw[e,qx G];exact h.2 j G
theorem SlW.one {vals:AG} (h:SlW k w vals ls): ∀v∈vals,v.oneCell'=true:=λv b=>by
 obtain⟨j,a,e⟩:=ib.1 b;obtain⟨A,c,h1,_⟩:=h.2 j (by rw[<-h.1];exact a);rw[au a,e] at h1;obtain rfl:=fo h1;simp[Value.oneCell']
theorem SlW.app (h:SlW k w v1 l1) (g:SlW k w v2 l2):SlW k w (v1++v2) (l1++l2):=by
 refine⟨by simp[h.1,g.1],λj a=> ?_⟩;rcases gm j l1.length with q|q
 ·rw [aIi q,jh (by rw[h.1];exact q)];exact h.2 j q
 rw [aa] at a
 have e:(l1++l2).getD j []=l2.getD (j-l1.length) []:=by
  rw[af,af,ji q]
 rw[e,ji (by rw[h.1];exact q),h.1];exact g.2 (j-l1.length) G
theorem SlW.okB (h:SlW .u8 w vals ls):OkB ls:=λl hl=>by
 obtain⟨j,d,e⟩:=ib.1 hl;obtain⟨A,c,_,_,a,b⟩:=h.2 j d;have g:ls.getD j []=l:=by rw[af,au d,e];rfl
 rw[g] at a b;exact⟨byteL_wf a,b⟩
structure RC where
 A:AF
 c:Nat
 root:AH
 times:Int
def encR (r:RC):AG:=[.slice r.A r.root.length r.c, .int .i64 r.times]
def RC.rt (r:RC):RT:=(r.root,r.times)
def rdG (l:List RC) (i:Int):RC:=l.getD i.toNat ⟨none,0,[],0⟩
def rgs (l:List RC):AG:=l.flatMap encR
def RgR (Rs:List Row) (l:List RC):Prop:= ∀r∈l,aI r.root/\ ∀(B:Nat) (w0 w:World),Hp B w0 w Rs->Rd w r.A r.root.length r.c 1 (ints .u8 r.root)
theorem RgR.nil (Rs:List Row):RgR Rs []:=λr h=>by cases h
theorem RgR.weak {l:List RC} (h:RgR Rs l) (b: ∀B w0 w,Hp B w0 w Xk->Hp B w0 w Rs):RgR Xk l:=λr a=>⟨(h r a).1,λB w0 w d=>(h r a).2 B w0 w (b B w0 w d)⟩
theorem RgR.right {l:List RC} (h:RgR Rs l) (X:List Row):RgR (X++Rs) l:=h.weak λ_ _ _ a=>a.right
theorem RgR.snoc {l:List RC} {e:Nat} {t:Int} {ro:Bool} (h:RgR Rs l) (d:m=u.length) (hb:aI u):RgR (⟨e,1,A,m,c,ints .u8 u,ro⟩::Rs) (l++[⟨A,c,u,t⟩]):=λr a=>by
 subst d;rcases ek.1 a with a|a
 ·exact⟨(h r a).1,λB w0 w b=>(h r a).2 B w0 w b.tail⟩
 obtain rfl:=gz.1 a;exact⟨hb,λB w0 w b=>rdr (R:=⟨e,1,A,u.length,c,ints .u8 u,ro⟩::Rs) 0 rfl w b⟩
theorem RgR.perm {l m:List RC} (h:RgR Rs l) (hp:m.Perm l):RgR Rs m:=λr a=>h r (hp.subset a)
theorem aQu (l:List RC):(rgs l).length=l.length*2:=bFh (enc:=encR) (λ_=>rfl) l
theorem aQv (l m:List RC):rgs (l++m)=rgs l++rgs m:=Db
theorem bKo (l:List RC): ∀v∈rgs l,v.oneCell'=true:=λv a=>by
 obtain⟨r,_,h⟩:=zo.1 a;simp only[encR,il,vw,Ib] at h;rcases h with rfl|rfl<;>rfl
theorem bFw (x:RC): ∀v∈encR x,v.oneCell'=true:=λv a=>by
 simp only[encR,il,vw,Ib] at a;rcases a with rfl|rfl<;>rfl
theorem EC {l:List RC} (a:0<=i) (h1:i<l.length):rdG l i∈l:=by
 unfold rdG;rw[af,au G];exact mg _
theorem bRy {l:List RC} (b:0<=i) (h1:i<l.length):((rgs l).drop (i.toNat*2)).take 2=encR (rdG l i):=by
 have e:l=l.take i.toNat++rdG l i::l.drop (i.toNat+1):=by
  conv=>lhs;rw[<-ed i.toNat l]
  congr 1;rw[nk G];congr 1;unfold rdG;rw[af,au G];rfl
 have hl:(rgs (l.take i.toNat)).length=i.toNat*2:=by rw[aQu,ax,zh G]
 have a:rgs l=rgs (l.take i.toNat)++(encR (rdG l i)++rgs (l.drop (i.toNat+1))):=by
  conv=>lhs;rw[e]
  rw[aQv];rfl
 rw[a,Bo hl];rfl
theorem bOn {t:TypeId} {d:TypeDesc} {l:List RC} (hu:P.underlying t=some d) (e:LP d=true) (a:(P.info? t).map (·.size)=some 2) (h:ev L x=some (.pointer (pat A (i.toNat*2)))) (g:RdC B w0 R A m c 2 (rgs l)) (b:0<=i) (h1:i<l.length):
  Yl P n B w0 (.load t x) ty L R (.agg #[.slice (rdG l i).A (rdG l i).root.length (rdG l i).c, .int .i64 (rdG l i).times]):=by
 have:=aYz (P:=P) (n:=n) (B:=B) (w0:=w0) (R:=R) (ty:=ty) hu e a h rfl g (by rw[aQu];omega) G;rwa[bRy b h1] at this
theorem aYq {s:Operand} {t e:TypeId} {z:Value} {bytes p c2:Nat} {A2:AF} {l news:List RC} (i:Nat) (hi:R[i]? =some ⟨e,2,A,p,c,rgs l,false⟩) (d:P.underlying t=some (.slice e)) (b:(P.info? e).map (λi=>(i.zero,i.size,i.bytes))=some (some z,2,bytes)) (h:z.cells.size=2) (k:Nat.blt 0 bytes=true)
  (hs:ev L s=some (.slice A p c)) (g:ev L x=some (.slice A2 m c2)) (io:RdC B w0 R A2 m c2 2 (rgs news)) (j:(p+m)*bytes<=140737488355328):
  Ac P n B w0 (.call {callee:= .builtin .append,args:= #[s,x],argTypes:= #[t,t]}) ty L R (λv R'=> ∃a c',v= .slice a (p+m) c'/\R'=R.set i ⟨e,2,a,p+m,c',rgs (l++news),false⟩):=by
 have:=fO (P:=P) (n:=n) (B:=B) (w0:=w0) (ty:=ty) i hi rfl d b h rfl k hs g io (bKo news) j;simp only[<-aQv] at this;exact this
theorem bUc {t e:TypeId} (r:RC) (b:P.underlying t=some (.slice e)) (a:(P.info? e).map (λi=>(i.zero,i.size))=some (some (.agg #[.slice none 0 0, .int .i64 0]),2)) (h:ev L x=some (.agg #[.slice r.A r.root.length r.c, .int .i64 r.times])):
  Ac P n B w0 (.buildSlice t 1 #[(0,x)]) ty L R (λv R'=> ∃g,v= .slice (some ⟨g,0,none⟩) 1 1/\R'=⟨e,2,some ⟨g,0,none⟩,1,1,rgs [r],false⟩::R):=by
 have d:evp L [(0,x)]=some [(0, .agg #[.slice r.A r.root.length r.c, .int .i64 r.times])]:=by simp[evp,h]
 exact tH (P:=P) (n:=n) (B:=B) (w0:=w0) (L:=L) (R:=R) (ty:=ty) (len:=1) (ps:=[(0,x)]) (cells:= #[.slice r.A r.root.length r.c, .int .i64 r.times]) b a d cC cC cA (by rfl)
end
end
section
variable {P:Program} {n:Nd} {B:Nat} {w0:World} {L:Env} {R:List Row} {ty:TypeId}
theorem RdC.toV {A:AF} {m h c:Nat} {xs:AG} (b:RdC B w0 R A m c 1 xs) (a:h<=m):RdC B w0 R A h c 1 (xs.take h):=by
 have:=b.to a;rwa[qy] at this
theorem RdC.fromV {A:AF} {m c l:Nat} {xs:AG} (a:RdC B w0 R A m c 1 xs) (h1:l<=m):RdC B w0 R (lL A l c 1) (m-l) (c-l) 1 (xs.drop l):=λw b=>by
 have h:=a.cut h1 (dn m) w b;have hl:=(a w b).len;rw[qy,qy,bg (by rw[az];omega)] at h;exact h
theorem Hp.dropMid {w:World} {X Rs T:List Row} (h:Hp B w0 w (X++(Rs++T))):Hp B w0 w (X++T):=h.sublist ((List.sublist_append_right Rs T).append_left X)
theorem yJ {id:Nat} {l:List Oper} {Q:fP} {Rc:List Row} (e:P.follows .mixedOrders=true) (hR: ∀w,Hp B w0 w R->Hp B w0 w Rc) (h:WDc P n B w0 l.toArray Q.nrm l.toArray.size (Array.replicate l.toArray.size false) L R Rc) (d:qF n.rd l=true:=by exact rfl):W P n B w0 (.region id l.toArray true) Q L R:=by
 intro a w hs hp;refine wpIn_region_any e (aKl aPq d _ _ _ _<|FZ _ _ _ _ _ (h a _ _ hs (hp.drawn _ (Ij _)) hR (λ_ _ _ h=>h) λ_ _ L' R' ge b hk=>⟨L',R',ge,b,hk⟩))
theorem RgR.left {Rs:List Row} {l:List RC} (h:RgR Rs l) (T:List Row):RgR (Rs++T) l:=h.weak λ_ _ _ a=>a.left
theorem SlR.nilR (k:IntKind) (Rs:List Row):SlR k Rs [] []:=⟨rfl,λj a=>by simp at a⟩
theorem CO {ws:AD} (h:OkB ws):OkB (canon ws):=λc hc=>by
 obtain⟨w,h1,b,rfl⟩:=aAj hc;have a:=h w h1;rw[lD];exact⟨aI.append (a.1.drop _) (a.1.take _),a.2⟩
theorem OkB.app {a b:AD} (d:OkB a) (hb:OkB b):OkB (a++b):=λl hl=>(ek.1 hl).elim (d l) (hb l)
theorem aBn (ws:AD):(canon ws).length<=ws.length:=by
 rw[aBm];unfold dL;rw[bn];exact yo _ _
end
section
variable {P:Program} {n:Nd} {B:Nat} {w0:World} {L:Env} {R:List Row} {ty:TypeId}
section
variable {x y:Operand} {p q a m:Int} {j:IntKind} {k:Nat}
theorem aZc {t u:TypeId} (a:ev L x=some (.int .u64 p)) (b:ev L y=some (.int .u64 q)) (h:0<=p+q/\p+q<18446744073709551616):Yl P n B w0 (.binOp .add t x y u) ty L R (.int .u64 (p+q)):=by
 have:=aZd (P:=P) (n:=n) (B:=B) (w0:=w0) (R:=R) (ty:=ty) (t:=t) (u:=u) a b;rwa[lM h.1 h.2] at this
theorem aKv {t u:TypeId} (a:ev L x=some (.int .u64 p)) (b:ev L y=some (.int .u64 q)) (h:0<=p-q/\p-q<18446744073709551616):Yl P n B w0 (.binOp .sub t x y u) ty L R (.int .u64 (p-q)):=by
 have:=bOj (P:=P) (n:=n) (B:=B) (w0:=w0) (R:=R) (ty:=ty) (t:=t) (u:=u) a b;rwa[lM h.1 h.2] at this
theorem mV {t u:TypeId} (a:ev L x=some (.int .u64 p)) (b:ev L y=some (.int .u64 q)) (h:0<=p*q/\p*q<18446744073709551616):Yl P n B w0 (.binOp .mul t x y u) ty L R (.int .u64 (p*q)):=by
 have:=bOm (P:=P) (n:=n) (B:=B) (w0:=w0) (R:=R) (ty:=ty) (t:=t) (u:=u) a b;rwa[lM h.1 h.2] at this
theorem sI {t u:TypeId} (d:ev L x=some (.int .u64 p)) (e:ev L y=some (.int .u64 q)) (h:0<=p/\p<18446744073709551616) (a:0<q):Yl P n B w0 (.binOp .quo t x y u) ty L R (.int .u64 (p/q)):=by
 have:=bOk (P:=P) (n:=n) (B:=B) (w0:=w0) (R:=R) (ty:=ty) (t:=t) (u:=u) d e h.1 a;have h1:p/q<=p:=Cm q h.1;have b:0<=p/q:=Aa h.1 G;rwa[lM b G] at this
theorem dO {s d:TypeId} {e:TypeDesc} (ge:P.underlying s=some e) (a:P.underlying d=some (.int .u64)) (b:ev L x=some (.int j p)) (h:0<=p/\p<18446744073709551616:=by omega):Yl P n B w0 (.convert s d x) ty L R (.int .u64 p):=by
 have:=pV (P:=P) (n:=n) (B:=B) (w0:=w0) (R:=R) (ty:=ty) ge a b;rwa[lM h.1 h.2] at this
theorem eP {s d:TypeId} {e:TypeDesc} (ge:P.underlying s=some e) (a:P.underlying d=some (.int .u8)) (b:ev L x=some (.int j p)):Yl P n B w0 (.convert s d x) ty L R (.int .u8 (p%256)):=by
 have:=pV (P:=P) (n:=n) (B:=B) (w0:=w0) (R:=R) (ty:=ty) ge a b;rwa[Dj] at this
theorem bQx {t u:TypeId} (a:ev L x=some (.int .u8 p)) (b:ev L y=some (.int .u8 q)):Yl P n B w0 (.binOp .add t x y u) ty L R (.int .u8 ((p+q)%256)):=by
 have:=aZd (P:=P) (n:=n) (B:=B) (w0:=w0) (R:=R) (ty:=ty) (t:=t) (u:=u) a b;rwa[Dj] at this
theorem bAq (x m:Int) (h:0<=x*m/\x*m<18446744073709551616) (j:IntKind) (k:Nat) (hk:k<=64) (a:(2:Int)^k=m) (w:World):(Op.shift .shl .u64 x j (k:Int)).run P w= .ok (.int .u64 (x*m)) w:=by
 have hn: ¬((k:Int)<0):=G
 have hb:min (k:Int).toNat (IntKind.bits .u64)=k:=by
  have:IntKind.bits .u64=64:=rfl;omega
 unfold Op.shift;simp only[hn,hb,xq,a,lM h.1 h.2];rfl
theorem pM {t u:TypeId} (e:ev L x=some (.int .u64 a)) (g:ev L y=some (.int j (k:Int))) (b:(2:Int)^k=m) (h:0<=a*m/\a*m<18446744073709551616) (hk:Nat.ble k 64=true):Yl P n B w0 (.binOp .shl t x y u) ty L R (.int .u64 (a*m)):=by
 intro i w o d _ hs _;simp[execOp,d,hs.ev e,hs.ev g,binOp,eqGuard,bAq a m h j k (ah hk) b]
theorem rM {t u:TypeId} (d:ev L x=some (.int .u64 a)) (e:ev L y=some (.int j (k:Int))) (b:(2:Int)^k=m) (h:0<=a/\a<18446744073709551616) (hk:Nat.ble k 64=true):Yl P n B w0 (.binOp .shr t x y u) ty L R (.int .u64 (a/m)):=by
 have:=bQr (P:=P) (n:=n) (B:=B) (w0:=w0) (R:=R) (ty:=ty) (t:=t) (u:=u) d e h.1 h.2 hk;rwa[b] at this
theorem vQ (h:0<=p/\p<18446744073709551616):(BitVec.ofInt 64 p).toNat=p.toNat:=by
 rw[zq];have e:((2^64:Nat):Int)=18446744073709551616:=rfl;rw[e,kg h.1 h.2]
theorem aUr (p:Int) (h:0<=p/\p<18446744073709551616) (k:Nat) (hk:k<=64) (m:Int) (d:m=(2:Int)^k-1) (w:World):(Op.intBits .and .u64 p m).run P w= .ok (.int .u64 (p%2^k)) w:=by
 show Result.ok (Value.int .u64 (IntKind.u64.wrap ((BitVec.ofInt 64 p &&& BitVec.ofInt 64 m).toNat:Int))) w=_;have hp:(0:Int)<2^k:=Ag G
 have g:(2:Int)^k<=2^64:=by
  have:(2:Nat)^k<=2^64:=Cj G hk
  exact_mod_cast this
 have a:(BitVec.ofInt 64 m).toNat=2^k-1:=by
  rw[vQ G,d];have:((2:Int)^k)=((2^k:Nat):Int):=by norm_cast
  rw[this];omega
 rw[Jj,vQ h,a,Fs]
 have b:((p.toNat%2^k:Nat):Int)=p%2^k:=by
  rw[zm,ky h.1]
  norm_cast
 rw[b];have h1:0<=p%2^k:=jk _ G;have e:p%2^k<2^k:=ja _ hp;rw[lM h1 G]
theorem PT {t u:TypeId} (k:Nat) (g:ev L x=some (.int .u64 p)) (i:ev L y=some (.int .u64 q)) (b:(2:Int)^k=m) (e:q=m-1) (h:0<=p/\p<18446744073709551616) (hk:Nat.ble k 64=true):Yl P n B w0 (.binOp .and t x y u) ty L R (.int .u64 (p%m)):=by
 subst b;intro a w o d _ hs _;simp[execOp,d,binOp,eqGuard,hs.ev g,hs.ev i,aUr p h k (ah hk) q e]
theorem bSh: ∀n:Fin 256,(n.val|||128)=n.val%128+128:=by decide+kernel
theorem bKd (p:Int) (h:0<=p/\p<256) (w:World):(Op.intBits .or .u8 p 128).run P w= .ok (.int .u8 (p%128+128)) w:=by
 show Result.ok (Value.int .u8 (IntKind.u8.wrap ((BitVec.ofInt 8 p|||BitVec.ofInt 8 128).toNat:Int))) w=_
 have a:(BitVec.ofInt 8 p).toNat=p.toNat:=by
  rw[zq];have e:((2^8:Nat):Int)=256:=rfl;rw[e,kg h.1 h.2]
 have b:(BitVec.ofInt 8 128).toNat=128:=cC
 rw[Ke,a,b];have:=bSh ⟨p.toNat,G⟩;rw[show p.toNat|||128=p.toNat%128+128 from this,oJ G G];rw[show((p.toNat%128+128:Nat):Int)=p%128+128 by omega]
theorem bUo {t u:TypeId} (d:ev L x=some (.int .u8 p)) (e:ev L y=some (.int .u8 128)) (h:0<=p/\p<256):Yl P n B w0 (.binOp .or t x y u) ty L R (.int .u8 (p%128+128)):=by
 intro a w o b _ hs _;simp[execOp,b,binOp,eqGuard,hs.ev d,hs.ev e,bKd p h]
theorem aCl (p q:Int) (k:Nat) (m:Int) (b:(2:Int)^k=m) (h:0<=p/\p*m+q<18446744073709551616) (g:0<=q/\q<m) (w:World):(Op.intBits .or .u64 (p*m) q).run P w= .ok (.int .u64 (p*m+q)) w:=by
 show Result.ok (Value.int .u64 (IntKind.u64.wrap ((BitVec.ofInt 64 (p*m)|||BitVec.ofInt 64 q).toNat:Int))) w=_;have e:0<=p*m:=yz h.1 G;rw[Ke,vQ G,vQ G]
 have a:(p*m).toNat=2^k*p.toNat:=by
  have:p*m=((2^k*p.toNat:Nat):Int):=by
   rw[Ad,ky h.1,Gr,<-b,xc];rfl
  rw[this,bu]
 have d:q.toNat<2^k:=by
  have:((2^k:Nat):Int)=m:=by rw[<-b,Gr];rfl
  omega
 rw[a,<-Gy d,<-a];rw[show(((p*m).toNat+q.toNat:Nat):Int)=p*m+q by omega,lM G h.2]
theorem aEz {t u:TypeId} (k:Nat) (g:ev L x=some (.int .u64 (p*m))) (i:ev L y=some (.int .u64 q)) (b:(2:Int)^k=m) (h:0<=p/\p*m+q<18446744073709551616) (e:0<=q/\q<m):Yl P n B w0 (.binOp .or t x y u) ty L R (.int .u64 (p*m+q)):=by
 intro a w o d _ hs _;simp[execOp,d,binOp,eqGuard,hs.ev g,hs.ev i,aCl p q k m b h e]
theorem bUn {t u:TypeId} (k:Nat) (j:ev L x=some (.int .u64 q)) (l:ev L y=some (.int .u64 m)) (d:(2:Int)^k=m) (h:m+q<18446744073709551616) (i:0<=q/\q<m):Yl P n B w0 (.binOp .or t x y u) ty L R (.int .u64 (q+m)):=by
 intro a w o g _ hs _;have e:=aCl (P:=P) 1 q k m d G i w
 have b:(Op.intBits .or .u64 q m).run P w= .ok (.int .u64 (q+m)) w:=by
  have c:Op.intBits .or .u64 q m=Op.intBits .or .u64 (1*m) q:=by
   rw[Int.one_mul];unfold Op.intBits;simp only[BitVec.or_comm]
  rw[c,e,Int.one_mul,Int.add_comm]
 simp[execOp,g,binOp,eqGuard,hs.ev j,hs.ev l,b]
theorem bAn (k0:IntKind) (x m:Int) (d:0<=x) (j:IntKind) (k:Nat) (hk:k<=k0.bits) (a:(2:Int)^k=m) (w:World):(Op.shift .shr k0 x j (k:Int)).run P w= .ok (.int k0 (x/m)) w:=by
 have hn: ¬((k:Int)<0):=G
 have hb:min (k:Int).toNat k0.bits=k:=G
 have b:Int.fdiv x m=x/m:=Cf _ (by rw[<-a];exact wz G);unfold Op.shift;simp only[hn,hb,a,b,xq];rfl
theorem FW {t u:TypeId} {k0:IntKind} (e:ev L x=some (.int k0 a)) (g:ev L y=some (.int j (k:Int))) (b:(2:Int)^k=m) (h:0<=a) (hk:Nat.ble k k0.bits=true):Yl P n B w0 (.binOp .shr t x y u) ty L R (.int k0 (a/m)):=by
 intro i w o d _ hs _;simp[execOp,d,hs.ev e,hs.ev g,binOp,eqGuard,bAn k0 a m h j k (ah hk) b]
theorem wF {t e:TypeId} {z:Value} {bytes m c c2:Nat} {A A2:AF} {l l2:AH} {kk:IntKind} (ht:P.underlying t=some (.slice e)) (dv:(P.info? e).map (λi=>(i.zero,i.size,i.bytes))=some (some z,1,bytes))
  (hx:ev L x=some (.slice A m c)) (hr:RdC B w0 R A m c 1 (ints kk l)) (hy:ev L y=some (.slice A2 k c2)) (w6:RdC B w0 R A2 k c2 1 (ints kk l2)) (h0:0<m) (h1:0<k) (hg:c<m+k) (hb:m+k<=1000000) (O:Builtin.nextslicecap (m+k) c*bytes<=281474976710656) (hz:z.cells.size=1):
  Ac P n B w0 (.call {callee:= .builtin .append,args:= #[x,y],argTypes:= #[t,t]}) ty L R (λv R'=> ∃g c',v= .slice (some ⟨g,0,none⟩) (m+k) c'/\R'=⟨e,1,some ⟨g,0,none⟩,m+k,c',ints kk (l++l2),false⟩::R):=by
 intro a w o K Q ho _ hs hp hk;obtain⟨i0,hi,J⟩:=ii.1 dv;simp only[uk] at J;obtain⟨n8,F,S⟩:=J;have d:=hr w hp;have C:=w6 w hp;have r:(ints kk l).length=m:=by have:=d.len;omega
 have D:(ints kk l2).length=k:=by have:=C.len;omega
 obtain⟨X,rfl,_⟩:=d.at_ 0 (ints kk l)[0] (by rw[au G]);obtain⟨Y,rfl,_⟩:=C.at_ 0 (ints kk l2)[0] (by rw[au G])
 have ke:=run_append_grow (P:=P) (w:=w) t o.type e i0 z ht hi n8 X m c (ints kk l) (by rw[r,F];omega) (λj v p=>by
   obtain⟨T,u,hc⟩:=d.at_ j v p;obtain rfl:=fo u
   exact hc) Y k c2 (ints kk l2) (by rw[D,F];omega) (λj v p=>by
   obtain⟨T,u,hc⟩:=C.at_ j v p;obtain rfl:=fo u
   exact hc) hg G (by rw[S];exact O)
 unfold Oper.wp;simp only[execOp,ho,resolve,invoke,builtin,jq,qg,jw,uu,jg,ug,hs.ev hx,hs.ev hy,ke,Oper.upon];have N:=grownCap_ge w (m+k) c e;have pe:=Ia w (m+k) c e (by unfold maxLen;omega)
 have ns:((ints kk l).toArray++(ints kk l2).toArray++Builtin.zeroCells z.cells (grownCap w (m+k) c e-(m+k))).size=m+k+(Builtin.zeroCells z.cells (grownCap w (m+k) c e-(m+k))).size:=by
  simp only[Array.size_append,qz,r,D]
 have q:z.cells.size=1->(Builtin.zeroCells z.cells (grownCap w (m+k) c e-(m+k))).size=grownCap w (m+k) c e-(m+k):=λh=>by
  simp[Builtin.zeroCells,h]
 have b:((ints kk l).toArray++(ints kk l2).toArray++Builtin.zeroCells z.cells (grownCap w (m+k) c e-(m+k))).size=grownCap w (m+k) c e:=by rw[ns,q hz];omega
 have H:=(hp.drawn (w.drawn+1) G).newC ((ints kk l).toArray++(ints kk l2).toArray++Builtin.zeroCells z.cells (grownCap w (m+k) c e-(m+k))) e (m+k) (by rw[b];exact N) (by rw[b];exact pe)
 have M:((ints kk l).toArray++(ints kk l2).toArray++Builtin.zeroCells z.cells (grownCap w (m+k) c e-(m+k))).toList.take (m+k)=ints kk (l++l2):=by
  rw[vz,vz];show(ints kk l++ints kk l2++_).take (m+k)=_;rw[Dm (by rw[aa,r,D])];simp[ints]
 rw[M,b] at H;exact hk _ _ _ H ⟨_,_,rfl,rfl⟩
end
end
section
variable {P:Program} {n:Nd} {B:Nat} {w0:World} {L:Env} {R:List Row} {ty:TypeId}
theorem bIj: ∀n:Fin 256,(BitVec.ofInt 8 (n.val:Int) &&& ~~~ BitVec.ofInt 8 128).toNat=n.val%128:=by decide+kernel
theorem aGd (p:Int) (h:0<=p/\p<256) (w:World):(Op.intBits .andNot .u8 p 128).run P w= .ok (.int .u8 (p%128)) w:=by
 have e:=bIj ⟨p.toNat,G⟩;simp only at e;rw[show((p.toNat:Nat):Int)=p by omega] at e;show Result.ok (Value.int .u8 (IntKind.u8.wrap ((BitVec.ofInt 8 p &&& ~~~ BitVec.ofInt 8 128).toNat:Int))) w=_;rw[e,oJ G G];rw[show((p.toNat%128:Nat):Int)=p%128 by omega]
theorem aTn {x y:Operand} {t u:TypeId} {p:Int} (d:ev L x=some (.int .u8 p)) (e:ev L y=some (.int .u8 128)) (h:0<=p/\p<256):Yl P n B w0 (.binOp .andNot t x y u) ty L R (.int .u8 (p%128)):=by
 intro a w o b _ hs _;simp[execOp,b,binOp,eqGuard,hs.ev d,hs.ev e,aGd p h]
theorem bOl {x y:Operand} {t u:TypeId} {p q m:Int} (k:Nat) (j:ev L x=some (.int .u64 q)) (l:ev L y=some (.int .u64 (p*m))) (d:(2:Int)^k=m) (h:0<=p/\p*m+q<18446744073709551616) (i:0<=q/\q<m):Yl P n B w0 (.binOp .or t x y u) ty L R (.int .u64 (p*m+q)):=by
 intro a w o g _ hs _;have e:=aCl (P:=P) p q k m d h i w
 have b:(Op.intBits .or .u64 q (p*m)).run P w= .ok (.int .u64 (p*m+q)) w:=by
  have c:Op.intBits .or .u64 q (p*m)=Op.intBits .or .u64 (p*m) q:=by
   unfold Op.intBits;simp only[BitVec.or_comm]
  rw[c,e]
 simp[execOp,g,binOp,eqGuard,hs.ev j,hs.ev l,b]
end
section
variable {P:Program} {n:Nd} {B:Nat} {w0:World} {L:Env} {R:List Row} {ty:TypeId}
theorem wrap32 {x:Int} (h:0<=x/\x<4294967296):IntKind.u32.wrap x=x:=by
 simp[IntKind.wrap,IntKind.bits,IntKind.signed];omega
theorem FU {p:Int} (h:0<=p/\p<4294967296):(BitVec.ofInt 32 p).toNat=p.toNat:=by
 rw[zq];have e:((2^32:Nat):Int)=4294967296:=rfl;rw[e,kg h.1 h.2]
theorem rT {x:Operand} {s d:TypeId} {j:IntKind} {p:Int} {e:TypeDesc} (ge:P.underlying s=some e) (a:P.underlying d=some (.int .u32)) (b:ev L x=some (.int j p)) (h:0<=p/\p<4294967296):Yl P n B w0 (.convert s d x) ty L R (.int .u32 p):=by
 have:=pV (P:=P) (n:=n) (B:=B) (w0:=w0) (R:=R) (ty:=ty) ge a b;rwa[wrap32 h] at this
theorem aUq (x m:Int) (h:0<=x*m/\x*m<4294967296) (j:IntKind) (k:Nat) (hk:k<=32) (a:(2:Int)^k=m) (w:World):(Op.shift .shl .u32 x j (k:Int)).run P w= .ok (.int .u32 (x*m)) w:=by
 have hn: ¬((k:Int)<0):=G
 have hb:min (k:Int).toNat (IntKind.bits .u32)=k:=by
  have:IntKind.bits .u32=32:=rfl;omega
 unfold Op.shift;simp only[hn,hb,xq,a,wrap32 h];rfl
theorem yH {x y:Operand} {t u:TypeId} {a m:Int} {j:IntKind} {k:Nat} (e:ev L x=some (.int .u32 a)) (g:ev L y=some (.int j (k:Int))) (b:(2:Int)^k=m) (h:0<=a*m/\a*m<4294967296) (hk:Nat.ble k 32=true):Yl P n B w0 (.binOp .shl t x y u) ty L R (.int .u32 (a*m)):=by
 intro i w o d _ hs _;simp[execOp,d,hs.ev e,hs.ev g,binOp,eqGuard,aUq a m h j k (ah hk) b]
theorem bAr (p q:Int) (k:Nat) (m:Int) (b:(2:Int)^k=m) (h:0<=p/\p*m+q<4294967296) (g:0<=q/\q<m) (w:World):(Op.intBits .or .u32 q (p*m)).run P w= .ok (.int .u32 (q+p*m)) w:=by
 show Result.ok (Value.int .u32 (IntKind.u32.wrap ((BitVec.ofInt 32 q|||BitVec.ofInt 32 (p*m)).toNat:Int))) w=_;have e:0<=p*m:=yz h.1 G;rw[BitVec.or_comm,Ke,FU G,FU G]
 have a:(p*m).toNat=2^k*p.toNat:=by
  have:p*m=((2^k*p.toNat:Nat):Int):=by
   rw[Ad,ky h.1,Gr,<-b,xc];rfl
  rw[this,bu]
 have d:q.toNat<2^k:=by
  have:((2^k:Nat):Int)=m:=by rw[<-b,Gr];rfl
  omega
 rw[a,<-Gy d,<-a];rw[show(((p*m).toNat+q.toNat:Nat):Int)=q+p*m by omega,wrap32 G]
theorem FX {x y:Operand} {t u:TypeId} {p q m:Int} (k:Nat) (g:ev L x=some (.int .u32 q)) (i:ev L y=some (.int .u32 (p*m))) (b:(2:Int)^k=m) (h:0<=p/\p*m+q<4294967296) (e:0<=q/\q<m):Yl P n B w0 (.binOp .or t x y u) ty L R (.int .u32 (q+p*m)):=by
 intro a w o d _ hs _;simp[execOp,d,binOp,eqGuard,hs.ev g,hs.ev i,bAr p q k m b h e]
theorem AJ {w:World} (base:Nat) (t x ty e:TypeId) (S:IntKind) (i:TypeInfo) (z:Value) (bytes:Nat) (H:P.underlying t=some (.slice e)) (A:P.underlying x=some (.int S)) (hi:P.info? e=some i) (J:i.zero=some z)
  (N:i.size=1) (X:i.bytes=bytes) (Xa:z.cells= #[z]) (o8:z.oneCell'=true) (v:Value) (n:Nat) (xs:AG) (h:w.ownsRow base e 1 v n xs) (m:Nat) (h0:0<m) (o:n+m<=maxLen) (mw:(n+m)*bytes<=140737488355328) (Yw:base<=w.heap.size):
  ∃y w',(Builtin.append_ #[t,x] ty #[v, .int .i64 (m:Int)]).run P w= .ok y w'/\w'.ownsRow base e 1 y (n+m) (xs++List.replicate m z)/\w.grownBy w' v.ownBlock/\(y.ownBlock=v.ownBlock\/y.ownBlock=some w.heap.size):=by
 subst X;have xl:n+m<=9223372036854775807:=by simp only[maxLen] at o;omega
 have hl:(List.replicate m z).length=m:=df;have hlen:(xs++List.replicate m z).length=(n+m)*1:=by rw[aa,h.1,hl];omega
 have a: ∀q,(Builtin.zeroCells z.cells q).toList=List.replicate q z:=λq=>by
  rw[Xa];refine su (by simp[Builtin.zeroCells]) λi h1 h2=> ?_;simp[Builtin.zeroCells,Nat.mod_one]
 have z8:Builtin.zeroCells z.cells m=(List.replicate m z).toArray:=by rw[<-a m]
 have T:m≠0:=G
 have R:IntKind.i64.wrap (m:Int)=m:=by rw[Co];omega
 have M: ¬((m:Int)<0):=G
 have Wp:m*i.bytes<=(n+m)*i.bytes:=vo _ G
 have O: ¬(281474976710656<(m:Int)*(i.bytes:Int)):=by
  rw[<-Ad];omega
 have grown: ∀(old:Nat),old<n+m-> ∀(row:Option Nat),
   (w.drew.alloc (.cells (xs.toArray++Builtin.zeroCells z.cells m++Builtin.zeroCells z.cells (grownCap w (n+m) old e-(n+m))) e)).ownsRow base e 1 (.slice (some ⟨w.heap.size,0,none⟩) (n+m) (grownCap w (n+m) old e)) (n+m) (xs++List.replicate m z)/\
   w.grownBy (w.drew.alloc (.cells (xs.toArray++Builtin.zeroCells z.cells m++Builtin.zeroCells z.cells (grownCap w (n+m) old e-(n+m))) e)) row:=by
  intro old ho row;have Y:=grownCap_ge w (n+m) old e;have L:grownCap w (n+m) old e<=maxLen:=Ia w (n+m) old e o;have o7:=h.1;refine⟨⟨hlen, .inr ⟨w.heap.size,_,_,rfl,Yw,heap_alloc_new w.drew _,Y,L,?_,?_⟩⟩,⟨rfl,rfl,rfl,cD,λk hk _=>by first|exact heap_alloc_old w.drew _ k hk|exact heap_alloc_old w.drew _ hk⟩⟩
  ·rw [<-jy,vz,vz,aa,aa,a,a,df,df];show xs.length+m+_=_;omega
  rw [vz,vz,a,<-hlen];exact Cg
 rcases h.2 with⟨rfl,rfl⟩|⟨g,cap,cur,rfl,C,Q,hnc,L,ns,b⟩
 ·have hx:xs=[]:=di (by simpa using h.1);subst hx;have r:=Lib.run_append_nil_zeros (P:=P) w t x ty e i z .i64 S H A hi J m h0 G G G;have d:=grown 0 G (Value.ownBlock (.slice none 0 0));simp only[oh,ig,Array.empty_append] at d ⊢;exact⟨_,_,r,d.1,d.2,Or.inr rfl⟩
 by_cases K:n+m<=cap
 ·have Mi:n*1+(List.replicate m z).length<=cur.size:=by rw[hl,ns];omega
  have B:=run_storeCells_at P g (n*1) e (List.replicate m z) 0 cur w Q (by simpa using Mi) (λu hu=>by rw[Am hu];exact o8);simp only[qw] at B
  have r:(Builtin.append_ #[t,x] ty #[.slice (some ⟨g,0,none⟩) n cap, .int .i64 (m:Int)]).run P w= .ok (.slice (some ⟨g,0,none⟩) (n+m) cap) (w.setRow g (cur.toList.take (n*1)++List.replicate m z++cur.toList.drop (n*1+(List.replicate m z).length)).toArray):=by
   simp only[qy] at B;simp[Builtin.append_,pu H,pu A,sizeOf,typeInfo,zeroValue,hi,J,asInt,asIntOf,R,T,M,O,N,K,z8,Addr.add_lit,B]
  refine⟨_,_,r,⟨hlen, .inr ⟨g,cap,_,rfl,C,Kq w g cur _ e _ Q,K,L,?_,?_⟩⟩,⟨rfl,rfl,rfl,cD,λk _ hk=>Jz w g k _ (λe=>hk (by simp[Value.ownBlock,e]))⟩,Or.inl rfl⟩
  ·simp only[qz,aa,ax,az,jy];omega
  rw [b,<-hlen];exact Cg
 have holds: ∀j u,xs[j]? =some u->w.cell? ((⟨g,0,none⟩:Addr).add j)=some u:=h.cells (g:=g) rfl;have F:=run_firstCells_some (P:=P) w.drew 1 n ⟨g,0,none⟩ n cap xs h.1 (by simpa using holds);have hn: ¬(n+m<=cap):=K;have p: ¬(9223372036854775807<((n:Int)+(m:Int))):=G
 have D:=growslice_fits (old:=cap) G mw;have l: ¬(281474976710656<Builtin.nextslicecap (n+m) cap*i.bytes):=G
 have r:(Builtin.append_ #[t,x] ty #[.slice (some ⟨g,0,none⟩) n cap, .int .i64 (m:Int)]).run P w= .ok (.slice (some ⟨w.heap.size,0,none⟩) (n+m) (grownCap w (n+m) cap e)) (w.drew.alloc (.cells (xs.toArray++Builtin.zeroCells z.cells m++Builtin.zeroCells z.cells (grownCap w (n+m) cap e-(n+m))) e)):=by
  simp[Builtin.append_,pu H,pu A,sizeOf,typeInfo,zeroValue,hi,J,asInt,asIntOf,R,T,M,O,N,hn,p,l,Question.forced,F,newRow,grownCap]
 have d:=grown cap G (Value.ownBlock (.slice (some ⟨g,0,none⟩) n cap));exact⟨_,_,r,d.1,d.2,Or.inr rfl⟩
theorem bIn {s x:Operand} {t r e:TypeId} {bytes m:Nat} {y k:IntKind} {A:AF} {c q:Nat} {l:AH} (i:Nat) (hi:R[i]? =some ⟨e,1,A,q,c,ints k l,false⟩) (ht:P.underlying t=some (.slice e)) (H:P.underlying r=some (.int y)) (N:(P.info? e).map (λi=>(i.zero,i.size,i.bytes))=some (some (.int k 0),1,bytes))
  (hs:ev L s=some (.slice A q c)) (hx:ev L x=some (.int .i64 (m:Int))) (O:0<m) (T:q+m<=1000000) (mw:(q+m)*bytes<=140737488355328):
  Ac P n B w0 (.call {callee:= .builtin .append,args:= #[s,x],argTypes:= #[t,r]}) ty L R (λv R'=> ∃d c',v= .slice d (q+m) c'/\R'=R.set i ⟨e,1,d,q+m,c',ints k (l++List.replicate m 0),false⟩):=by
 intro a w o K Q X _ ge hp hk;obtain⟨i0,M,C⟩:=ii.1 N;simp only[uk] at C;obtain⟨n8,o8,D⟩:=C;have Y:=hp.own _ (gy hi);have im:=Row.lies_w Y rfl;obtain⟨v',w',u,j,S,b⟩:=AJ (P:=P) B t r o.type e y i0 (.int k 0) bytes ht H M n8 o8 D rfl rfl _ q (ints k l) im m O (by unfold maxLen;omega) mw hp.base
 have F: ∃d c',v'= .slice d (q+m) c':=by
  rcases j.2 with⟨rfl,hn⟩|⟨g,cap,cur,rfl,_⟩
  ·exact⟨none,0,by rw[hn]⟩
  exact⟨_,cap,rfl⟩
 obtain⟨d,c',rfl⟩:=F;have h:ints k l++List.replicate m (.int k 0)=ints k (l++List.replicate m 0):=by simp[ints]
 rw[h] at j;unfold Oper.wp execOp;simp only[X,resolve,invoke,builtin,jq,qg,jw,uu,jg,ug,ge.ev hs,ge.ev hx,u,Oper.upon];refine hk _ w' _ ?_ ⟨d,c',rfl,rfl⟩;refine hp.upd hi S (SX _ _ _ _ u) (λk hk=> ?_) ?_ (λJ re=> ?_)
 ·cases hA:A with
  |none=>rw[hA] at hk;simp[Value.ownBlock] at hk
  |some a1=>rw[hA] at hk;simp only[Value.ownBlock,jl] at hk;exact⟨a1,rfl,hk⟩
 ·exact j
 have p:d=some J:=re;subst p;rcases b with b|b
 ·cases hA:A with
  |none=>rw[hA] at b;simp[Value.ownBlock] at b
  |some a1=>rw[hA] at b;simp only[Value.ownBlock,jl] at b;exact .inl ⟨a1,rfl,b.symm⟩
 simp only[Value.ownBlock,jl] at b;exact .inr G
end
theorem bMq {x:Int} (h:0<=x/\x<4294967296):0+x/1%256*1+x/256%256*256+x/65536%256*65536+x/16777216%256*16777216=x:=G
section
variable {P:Program} {n:Nd} {B:Nat} {w0:World} {L:Env} {R:List Row} {ty:TypeId}
section
variable {x y:Operand} {m c sz e c' j N:Nat} {k k1:IntKind} {D u:AH} {A:AF} {vh p:Int} {w:World} {xs:AG}
theorem bIo {f:FuncId} {fn:Func} {ts:Array TypeId} {ps:Array TypeId} {t e:TypeId} (h:P.funcs[f]? =some fn) (b:(fn.name== "runtime.NumGoroutine")=false) (hb:fn.body.isNone=true) (hn:Extern.findNext fn=none) (d:Extern.find fn=some (Extern.BytealgMakeNoZero.makeNoZero ps #[t]))
  (j:P.underlying t=some (.slice e)) (o:ev L x=some (.int .i64 (m:Int))) (r:m<=1000000):
  Ac P n B w0 (.call {callee:= .value (.func f),args:=[x].toArray,argTypes:=ts}) ty L R (λv R'=> ∃g C,m<=C/\v= .slice (some ⟨g,0,none⟩) m C/\R'=⟨e,1,some ⟨g,0,none⟩,0,C,ints .u8 [],false⟩::R):=
 aEn (vs:=[.int .i64 (m:Int)]) (by simp[evs,o]) λw l=>by
  obtain⟨cs,i,a,p⟩:=Lib.run_makeNoZero (P:=P) w ps t e j m G;have q:=((l.drawn (w.drawn+1+1) G).newC cs e m a (p (by unfold maxLen;omega))).cut (k:=0) (oq _) cD;refine⟨_,_,_,?_,q,w.heap.size,cs.size,a,rfl,by simp[ints]⟩;rw[Gv h b hb hn d];rw[show [Value.int .i64 (m:Int)].toArray= #[.int .i64 m] from rfl,i];rfl
theorem aBz {t t2 e:TypeId} {pp:AF} {g p dl u m2 c2:Nat} {A2:AF} {src:AH} (i:Nat) (hi:R[i]? =some ⟨e,1,some ⟨g,0,none⟩,p,c,ints k D,false⟩) (S:P.underlying t=some (.slice e)) (N:(P.info? e).map (·.size)=some 1)
  (T:ev L x=some (.slice pp dl u)) (X:ev L y=some (.slice A2 m2 c2)) (Rk:pp=some ⟨g,p,none⟩) (hdl:p+dl<=c) (io:RdC B w0 R A2 m2 c2 1 (ints k src)):
  Ac P n B w0 (.call {callee:= .builtin .copy,args:= #[x,y],argTypes:= #[t,t2]}) ty L R (λv R'=>v= .int .i64 ((min m2 dl:Nat):Int)/\R'=R.set i ⟨e,1,some ⟨g,0,none⟩,p+min m2 dl,c,ints k (D++src.take (min m2 dl)),false⟩):=by
 intro a w o K Q O Pb hs l hk;have Y:=Row.lies_w (l.own _ (gy hi)) rfl;have M:=io w l;have Ss:m2=src.length:=M.lenI;have hl:p=D.length:=by have:=Y.1;rw[dB] at this;simp only at this;omega
 rcases Y.2 with⟨d,_⟩|⟨g',cap,cur,d,hb,A,F,wi,J,r⟩
 ·simp at d
 simp only[ko,jl,Br,Az,Al] at d;obtain⟨rfl,rfl⟩:=d;simp only at r J F A hb;rw[qy] at r J;subst Rk;obtain⟨q,H⟩: ∃q,min m2 dl=q:=⟨_,rfl⟩;rw[H] at hk;have Wv:Nat.min m2 dl=q:=H;have mt:(ints k (src.take q)).length=q:=by rw[dB,ax];omega
 rcases fe m2 with hz|fm
 ·have kt:q=0:=G
  have m:=run_copy_none (P:=P) w t t2 o.type e (some ⟨g,p,none⟩) A2 dl u m2 c2 S N (by rw[hz];exact Nat.zero_min _);unfold Oper.wp execOp;simp only[O,resolve,invoke,builtin,jq,qg,jw,uu,jg,ug,hs.ev T,hs.ev X,m,Oper.upon];refine hk (.int .i64 ((0:Nat):Int)) w R l ⟨by rw[kt],?_⟩;rw[kt];simp only[yf,ik,qw]
  exact(by
   apply vk;intro j;rw[xx];split
   ·rename_i e;subst e;rw[cz (gp.1 hi).1,hi]
   rfl)
 obtain ⟨a2,rfl⟩: ∃a2,A2=some a2:=by
  obtain⟨a2,h,_⟩:=M.at_ 0 _ (au (by rw[dB];omega));exact⟨a2,h⟩
 have m:=run_copy_row P w t t2 o.type e g p dl u a2 m2 c2 cur e (ints k (src.take q)) S N A (by rw[mt];exact H.symm) (λj v d=>by
  obtain⟨b,h1,h2⟩:=M.at_ j v (by
   rw[ints,Bt] at d;rw[qi] at d;split at d
   ·exact d
   cases d)
  obtain rfl:=fo h1
  exact h2) (by rw[mt,J];omega) (KC k _)
 rw[mt] at m;unfold Oper.wp execOp;simp only[O,resolve,invoke,builtin,jq,qg,jw,uu,jg,ug,hs.ev T,hs.ev X,m,Oper.upon];refine hk (.int .i64 (q:Int)) _ _ ?_ ⟨rfl,rfl⟩;refine l.upd hi (row:=some g) ⟨rfl,rfl,rfl,cD,λj _ C=>Jz w g j _ (λe=>C (by simp[e]))⟩ (dn _) (λj C=>by cases C;exact⟨_,rfl,rfl⟩) ?_ (λa' re=> .inl ⟨a',re,rfl⟩);unfold Row.lies;simp only;refine⟨?_, .inr ⟨g,c,_,rfl,hb,Kq w g cur _ e _ A,G,wi,?_,?_⟩⟩
 ·simp only[dB,aa,ax];omega
 ·simp only[qz,aa,ax,az,jy,dB];omega
 simp only[qy];rw[vT,<-r]
 have h1:(cur.toList.take p++ints k (src.take q)).length=p+q:=by
  rw[aa,mt,ax,jy];omega
 rw[List.take_append,h1,bg G,Er,yf,ik]
theorem aYs {t e:TypeId} (d:P.underlying t=some (.slice e)) (hi:(P.info? e).map (·.size)=some sz) (l:ev L x=some (.slice A m c)) (p:ev L y=some (.int k1 vh)) (j:0<=vh) (hc:vh<=c):
  Yl P n B w0 (.slice t x none (some y) none) ty L R (.slice A vh.toNat c):=by
 intro a w o k _ hs hp;obtain⟨i0,i,b⟩:=ii.1 hi;have g:P.elem t=e:=by simp[Program.elem,d]
 have h:P.underlying t=some (.slice (P.elem t)):=by rw[g];exact d
 simp only[execOp,k,lh,Bp,hs.ev l,hs.ev p,jq,Ak w t _ _ _ _ h,run_slice_h w t A m c h k1 vh j hc,g]
 have:(if c=0 then A else Option.map (λx=>x.add 0) A)=A:=by
  split
  ·rfl
  exact JQ A
 simp[sizeOf,typeInfo,i,b,sliced,this]
theorem aTm {z:Operand} {t e:TypeId} {h:Nat} {k2:IntKind} {i:Int} (d:P.underlying t=some (.slice e)) (hi:(P.info? e).map (·.size)=some sz) (r:ev L x=some (.slice A m c)) (u:ev L y=some (.int k1 vh)) (v:ev L z=some (.int k2 i)) (l:vh=(h:Int)) (p:i=(h:Int)) (hc:h<=c):
  Yl P n B w0 (.slice t x none (some y) (some z)) ty L R (.slice A h h):=by
 subst l;subst p;intro a w o q _ hs hp;obtain⟨i0,k,b⟩:=ii.1 hi;have g:P.elem t=e:=by simp[Program.elem,d]
 have j:P.underlying t=some (.slice (P.elem t)):=by rw[g];exact d
 simp only[execOp,q,lh,Bp,hs.ev r,hs.ev u,hs.ev v,jq,Ak w t _ _ _ _ j,run_slice_hm w t A m c j k1 k2 (h:Int) (h:Int) G G G,g]
 have:(if h=0 then A else Option.map (λx=>x.add 0) A)=A:=by
  split
  ·rfl
  exact JQ A
 simp[sizeOf,typeInfo,k,b,sliced,this]
theorem Row.lies_ro (h:Row.lies B w ⟨e,sz,A,m,c,xs,false⟩) (d:A≠none) (hc:m<=c'):Row.lies B w ⟨e,sz,A,m,c',xs,true⟩:=by
 have h1:=Row.lies_w h rfl;unfold Row.lies;simp only;obtain⟨hl,b⟩:=h1;simp only at hl b;rcases b with⟨a,_⟩|⟨g,cap,cur,a,hb,i,j,o,l,k⟩
 ·simp only[ko] at a;exact absurd a.1 d
 simp only[ko] at a;obtain⟨rfl,_,rfl⟩:=a;exact⟨g,cur,_,rfl,hb,i,G,hc,hl,k⟩
theorem Hp.toRo (h:Hp B w0 w (⟨e,sz,A,m,c,xs,false⟩::R)) (d:A≠none) (hc:m<=c'):Hp B w0 w (⟨e,sz,A,m,c',xs,true⟩::R):=
 ⟨h.below,h.base,λr a=>by
  rcases il.1 a with rfl|a
  ·exact Row.lies_ro (h.own _ (.head _)) d hc
  ·exact h.own r (.tail _ a),by
  obtain⟨h1,b⟩:=jb.1 h.apart
  exact jb.2 ⟨λr a=>h1 r a,b⟩,h.late⟩
theorem RdC.capI {l:AH} (h:RdC B w0 R A m c 1 (ints k l)) (hc:m<=c'):RdC B w0 R A m c' 1 (ints k l):=λw a=>
 let q:=h w a
 ⟨q.len,q.max,hc,q.at_⟩
structure aEr (u D:AH) (N:Nat) (p:Int):Prop where
 p0:0<=p
 pN:p<=N
 up:(u.length:Int)<=p
 len:(D.length:Int)=p
 at_: ∀j:Nat,j<p->lt D j=om u j
 dvd:p=N\/(u.length:Int)∣p
theorem bSy {E:AH}:lt (D++E) j=if j<D.length then lt D j else lt E (j-D.length):=by
 unfold lt;rw[af];split
 ·rw[jh G,af]
 rw[ji G,af]
theorem lt_take {q:Nat} (h:j<q):lt (D.take q) j=lt D j:=by
 unfold lt;rw[af,qx h,af]
theorem aEr.init (hu:u.length<=N):aEr u ([]++u.take (min u.length N)) N ((min u.length N:Nat):Int):=by
 have e:min u.length N=u.length:=G
 rw[e,ig,qa];exact⟨G,G,G,rfl,λj a=>(nU G).symm, .inr (Int.dvd_refl _)⟩
theorem aEr.step (h:aEr u D N p) (hu:0<u.length) (hp:p<N):
  aEr u (D++(D.take (min p N).toNat).take (min (min p N).toNat (N-p.toNat))) N (p+((min (min p N).toNat (N-p.toNat):Nat):Int)):=by
 obtain⟨p0,pN,up,len,at_,dvd⟩:=h;have e:min p (N:Int)=p:=G
 rw[e];obtain⟨q,i⟩: ∃q,min p.toNat (N-p.toNat)=q:=⟨_,rfl⟩;rw[i];have a:(u.length:Int)∣p:=dvd.resolve_left G;refine⟨G,G,G,by rw[aa,ax,ax];omega,λj l=> ?_,?_⟩
 ·rw [bSy];split
  ·exact at_ j G
  rename_i hc;rw[lt_take G,lt_take G,at_ _ G];obtain⟨k,hk⟩:=a
  have d:0<=k:=by
   rcases bz k 0 with g|g
   ·have:=yz (show(0:Int)<=u.length by omega) (show 0<= -k by omega);rw[Int.mul_neg] at this;omega
   exact g
  have b:D.length=u.length*k.toNat:=by
   have:(D.length:Int)=((u.length*k.toNat:Nat):Int):=by rw[len,hk,Ad,ky d]
   exact_mod_cast this
  have:=(qE u).mul k.toNat (j-D.length);rw[<-this,<-b,uj G]
 rcases gm q p.toNat with g|g
 ·left;omega
 right;have:(q:Int)=p:=G
 rw[this];exact Int.dvd_add a a
theorem aEr.done {a:Int} (h:aEr u D N p) (hp: ¬p<N) (i:N=a.toNat*u.length):D=rep u a:=by
 have hl:=h.len;have e:=h.pN;refine bP (by rw[lU];omega) λj g h1=> ?_;have b:=h.at_ j.toNat G;have d:=TK u a.toNat j.toNat G;rw[VE,b,<-d];unfold rd rep;rw[bu]
end
end
section
variable {P:Program} {n:Nd} {B:Nat} {w0:World} {L:Env} {R:List Row} {ty:TypeId}
def CellIs (L:Env) (R:List Row) (p sz:Nat) (xs:AG):Prop:= ∃(g i:Nat) (r:Row),lk L p=some (.pointer (some ⟨g,0,none⟩))/\R[i]? =some r/\r.ro=false/\r.A=some ⟨g,0,none⟩/\r.n=1/\r.c=1/\r.sz=sz/\r.xs=xs
theorem CellIs.load {m:Nat} {p sz:Nat} {xs:AG} {a:Act} {w:World} (h:CellIs L R p sz xs) (hs:Sat (m:Nd) L a) (hp:Hp B w0 w R): ∃g e,a.tmps[p]?.getD undef= .pointer (some ⟨g,0,none⟩)/\w.heap[g]? =some (.cells xs.toArray e (0,0))/\xs.length=sz:=by
 obtain⟨g,i,r,h1,o,q,d,u,v,j,x⟩:=h;have A:=Row.lies_w (hp.own r (gy o)) q;rcases A.2 with⟨hn,_⟩|⟨C,cap,cur,b,_,y,_,_,l,k⟩
 ·rw[d] at hn;cases hn
 rw [d] at b;simp only[ko,jl,Br,Az,Al] at b;obtain⟨rfl,rfl⟩:=b;rw[u,j,Ci] at k;rw[v,j,Ci] at l
 have e:cur=r.xs.toArray:=by
  rw[<-k,bg (by rw[jy];omega)]
 rw[x] at e;subst e;exact⟨g,_,by have:=hs.getD h1;simpa using this,y,by simpa using l⟩
theorem aSd {f:FuncId} {fn:Func} {c:Code} {args:AG} {R:List Row} {Post:Value->List Row->Prop} {p1 p2 m:Nat} {t1 t2:TypeId} {d1 d2:TypeDesc} {o p:Nat} (S:P.funcs[f]? =some fn) (hb:fn.body=some c) (T:fn.results= #[.cell p1 t1, .cell p2 t2, .tmp m]) (hl:Nat.ble args.length fn.ntmps=true)
  (F:P.underlying t1=some d1) (A:(match d1 with| .struct _| .array _ _=>true|_=>false)=true) (M:(P.info? t1).map (·.size)=some o)
  (r:P.underlying t2=some d2) (C:(match d2 with| .struct _| .array _ _=>true|_=>false)=true) (D:(P.info? t2).map (·.size)=some p)
  (h:W P fn.ntmps B w0 c ⟨λL R'=> ∃xs a u,CellIs L R' p1 o xs/\CellIs L R' p2 p a/\lk L m=some u/\ ∃R1,(∀w,Hp B w0 w R'->Hp B w0 w R1)/\Post (.tuple #[.agg xs.toArray, .agg a.toArray,u]) R1,
   λL R'=> ∃xs a u,CellIs L R' p1 o xs/\CellIs L R' p2 p a/\lk L m=some u/\ ∃R1,(∀w,Hp B w0 w R'->Hp B w0 w R1)/\Post (.tuple #[.agg xs.toArray, .agg a.toArray,u]) R1,λ_ _ _=>False⟩ (ini 0 args) R):Ct P f args.toArray B w0 R Post:=by
 intro w Y;have Wo:args.length<=fn.ntmps:=ah hl
 have fin: ∀(L':Env) (R':List Row) (i:Act) (w':World),Sat fn.ntmps L' i->Hp B w0 w' R'->(∃xs a u,CellIs L' R' p1 o xs/\CellIs L' R' p2 p a/\lk L' m=some u/\ ∃R1,(∀w,Hp B w0 w R'->Hp B w0 w R1)/\Post (.tuple #[.agg xs.toArray, .agg a.toArray,u]) R1)->
   ∃v R1,(results fn i.tmps).run P w'= .ok v w'/\Hp B w0 w' R1/\Post v R1:=by
  rintro L' R' i w' ge b ⟨xs,a,u,h1,j,N,R1,O,Q⟩;obtain⟨g,e,a1,H,l1⟩:=h1.load ge b;obtain⟨K,e',a2,J,l2⟩:=j.load ge b;have x:=ge.val m u N
  have k:(results fn i.tmps).run P w'= .ok (.tuple #[.agg xs.toArray, .agg a.toArray,u]) w':=by
   simp[results,T,a1,a2,x,asAddr,run_loadVar_row w' g e t1 xs.toArray (0,0) d1 H F A (by rw[M];simp[l1]),run_loadVar_row w' K e' t2 a.toArray (0,0) d2 J r C (by rw[D];simp[l2])]
  exact⟨_,R1,k,O _ b,Q⟩
 refine calls_of_wp S hb (wp_mono (wpIn_wide.1 (h _ w ⟨cJ,rfl,λt v X=> ?_⟩ Y)) ?_)
 ·obtain ⟨_,j⟩:=aNk args 0 t v X;simp only[yx] at j;have ci:=(gp.1 j).1;rw[<-j];simp[Bw,ci]
 intro e i w' d;cases e with
 |normal=>
  obtain⟨L',R',ge,b,y⟩:=d;obtain⟨v,R1,k,q,un⟩:=fin L' R' _ _ ge b y;exact⟨ge.defers,v,k,v,R1,rfl,q,un⟩
 |ret=>
  obtain⟨L',R',ge,b,y⟩:=d;obtain⟨v,R1,k,q,un⟩:=fin L' R' _ _ ge b y;exact⟨ge.defers,v,k,v,R1,rfl,q,un⟩
 |exit id=>obtain⟨_,_,_,_,h⟩:=d;exact h.elim
 |goto l=>exact d
 |panic ch=>exact d.elim
 |outgrown=>exact d.elim
end
section
variable {P:Program} {n:Nd} {B:Nat} {w0:World}
theorem aZh {z A I K M N O S T U C D E F G H:Type} {c:Code} {Q:fP} {L:Env} {R:List Row} (Lx:z->A->I->K->M->N->O->S->T->U->C->D->E->F->G->H->Env) (Rx:z->A->I->K->M->N->O->S->T->U->C->D->E->F->G->H->List Row) (J:z->A->I->K->M->N->O->S->T->U->C->D->E->F->G->H->Prop) (μ:z->A->I->K->M->N->O->S->T->U->C->D->E->F->G->H->Nat)
  (h0: ∃a b d e f g i j k l nc qt wx o9 X Y,J a b d e f g i j k l nc qt wx o9 X Y/\Sub (Lx a b d e f g i j k l nc qt wx o9 X Y) L/\ ∀w,Hp B w0 w R->Hp B w0 w (Rx a b d e f g i j k l nc qt wx o9 X Y))
  (round: ∀a b d e f g i j k l nc qt wx o9 X Y,J a b d e f g i j k l nc qt wx o9 X Y->W P n B w0 c {Q with nrm:=λL' R'=> ∃m o q r s t u v x y vq f7 t6 Mt Xc Xd,J m o q r s t u v x y vq f7 t6 Mt Xc Xd/\μ m o q r s t u v x y vq f7 t6 Mt Xc Xd<μ a b d e f g i j k l nc qt wx o9 X Y/\Sub (Lx m o q r s t u v x y vq f7 t6 Mt Xc Xd) L'/\ ∀w,Hp B w0 w R'->Hp B w0 w (Rx m o q r s t u v x y vq f7 t6 Mt Xc Xd)} (Lx a b d e f g i j k l nc qt wx o9 X Y) (Rx a b d e f g i j k l nc qt wx o9 X Y)):W P n B w0 (.loop c) Q L R:=by
 obtain⟨a,b,d,e,f,g,i,j,k,l,nc,qt,wx,o9,X,Y,h1,h2,h3⟩:=h0;refine oK (σ:=z × A × I × K × M × N × O × S × T × U × C × D × E × F × G × H) (λp=>Lx p.1 p.2.1 p.2.2.1 p.2.2.2.1 p.2.2.2.2.1 p.2.2.2.2.2.1 p.2.2.2.2.2.2.1 p.2.2.2.2.2.2.2.1 p.2.2.2.2.2.2.2.2.1 p.2.2.2.2.2.2.2.2.2.1 p.2.2.2.2.2.2.2.2.2.2.1 p.2.2.2.2.2.2.2.2.2.2.2.1 p.2.2.2.2.2.2.2.2.2.2.2.2.1 p.2.2.2.2.2.2.2.2.2.2.2.2.2.1 p.2.2.2.2.2.2.2.2.2.2.2.2.2.2.1 p.2.2.2.2.2.2.2.2.2.2.2.2.2.2.2) (λp=>Rx p.1 p.2.1 p.2.2.1 p.2.2.2.1 p.2.2.2.2.1 p.2.2.2.2.2.1 p.2.2.2.2.2.2.1 p.2.2.2.2.2.2.2.1 p.2.2.2.2.2.2.2.2.1 p.2.2.2.2.2.2.2.2.2.1 p.2.2.2.2.2.2.2.2.2.2.1 p.2.2.2.2.2.2.2.2.2.2.2.1 p.2.2.2.2.2.2.2.2.2.2.2.2.1 p.2.2.2.2.2.2.2.2.2.2.2.2.2.1 p.2.2.2.2.2.2.2.2.2.2.2.2.2.2.1 p.2.2.2.2.2.2.2.2.2.2.2.2.2.2.2) (λp=>J p.1 p.2.1 p.2.2.1 p.2.2.2.1 p.2.2.2.2.1 p.2.2.2.2.2.1 p.2.2.2.2.2.2.1 p.2.2.2.2.2.2.2.1 p.2.2.2.2.2.2.2.2.1 p.2.2.2.2.2.2.2.2.2.1 p.2.2.2.2.2.2.2.2.2.2.1 p.2.2.2.2.2.2.2.2.2.2.2.1 p.2.2.2.2.2.2.2.2.2.2.2.2.1 p.2.2.2.2.2.2.2.2.2.2.2.2.2.1 p.2.2.2.2.2.2.2.2.2.2.2.2.2.2.1 p.2.2.2.2.2.2.2.2.2.2.2.2.2.2.2) (λp=>μ p.1 p.2.1 p.2.2.1 p.2.2.2.1 p.2.2.2.2.1 p.2.2.2.2.2.1 p.2.2.2.2.2.2.1 p.2.2.2.2.2.2.2.1 p.2.2.2.2.2.2.2.2.1 p.2.2.2.2.2.2.2.2.2.1 p.2.2.2.2.2.2.2.2.2.2.1 p.2.2.2.2.2.2.2.2.2.2.2.1 p.2.2.2.2.2.2.2.2.2.2.2.2.1 p.2.2.2.2.2.2.2.2.2.2.2.2.2.1 p.2.2.2.2.2.2.2.2.2.2.2.2.2.2.1 p.2.2.2.2.2.2.2.2.2.2.2.2.2.2.2) ⟨(a,b,d,e,f,g,i,j,k,l,nc,qt,wx,o9,X,Y),h1,h2,h3⟩ λp hp=>iP (round p.1 p.2.1 p.2.2.1 p.2.2.2.1 p.2.2.2.2.1 p.2.2.2.2.2.1 p.2.2.2.2.2.2.1 p.2.2.2.2.2.2.2.1 p.2.2.2.2.2.2.2.2.1 p.2.2.2.2.2.2.2.2.2.1 p.2.2.2.2.2.2.2.2.2.2.1 p.2.2.2.2.2.2.2.2.2.2.2.1 p.2.2.2.2.2.2.2.2.2.2.2.2.1 p.2.2.2.2.2.2.2.2.2.2.2.2.2.1 p.2.2.2.2.2.2.2.2.2.2.2.2.2.2.1 p.2.2.2.2.2.2.2.2.2.2.2.2.2.2.2 hp) ?_ (λ_ _ h=>h) (λ_ _ _ h=>h);rintro L' R' ⟨m,o,q,r,s,t,u,v,x,y,vq,f7,t6,Mt,Xc,Xd,g1,g2,g3,g4⟩;exact⟨(m,o,q,r,s,t,u,v,x,y,vq,f7,t6,Mt,Xc,Xd),⟨g1,g2⟩,g3,g4⟩
def encS (r:RC):Value:= .slice r.A r.root.length r.c
theorem SlR.toRg {Rs:List Row} {vals:AG} {ls:AD} (h:SlR .u8 Rs vals ls) (hb: ∀l∈ls,aI l): ∃lr:List RC,vals=lr.map encS/\lr.map RC.root=ls/\RgR Rs lr:=by
 obtain⟨hl,h⟩:=h
 induction ls generalizing vals with
 |nil=>exact⟨[],by simpa using hl,rfl,RgR.nil _⟩
 | cons l ls ih=>
  rcases vals with _|⟨v,vals⟩
  ·simp at hl
  obtain⟨A,c,h1,a⟩:=h 0 cD
  obtain⟨lr,d,e,g⟩:=ih (vals:=vals) (λq i=>hb q (.tail _ i)) (by simpa using hl) (λj k=>by
   obtain⟨A,c,h1,a⟩:=h (j+1) cJ
   exact⟨A,c,by simpa using h1,by simpa using a⟩)
  simp only[List.getElem?_cons_zero,jl,List.getD_cons_zero] at h1 a;refine⟨⟨A,c,l,0⟩::lr,by rw[h1,d];rfl,by rw[<-e];rfl,λr b=> ?_⟩;rcases il.1 b with rfl|b
  ·exact⟨hb _ (.head _),a⟩
  exact g r b
theorem RgR.toSl {Rs:List Row} {lr:List RC} (h:RgR Rs lr):SlR .u8 Rs (lr.map encS) (lr.map RC.root):=by
 refine⟨cD,λj a=> ?_⟩;rw[bn] at a;refine⟨lr[j].A,lr[j].c,?_,?_⟩
 ·rw [mr,au a,af,mr,au a];rfl
 rw [af,mr,au a];exact(h _ (mg a)).2
theorem encS_one (x:RC):(encS x).oneCell'=true:=rfl
theorem bHj:Go.Sort.SWO (Go.Proofs.ltOf λx y:RC=>cmpL x.root y.root):=by
 have e: ∀x y:RC,Go.Proofs.ltOf (λx y:RC=>cmpL x.root y.root) x y=true↔cmpL x.root y.root<0:=λx y=>by simp[Go.Proofs.ltOf]
 have e': ∀x y:RC,Go.Proofs.ltOf (λx y:RC=>cmpL x.root y.root) x y=false↔cmpL y.root x.root<=0:=λx y=>by
  rw[<-Bool.not_eq_true,e,mH x.root y.root];omega
 refine⟨λx=> ?_,λx y z h1 a=> ?_,λx y z h1 a=> ?_⟩
 ·rw[e',(cmpL_eq x.root x.root).2 rfl];omega
 ·rw [e] at h1 a ⊢;have b:=QS x.root y.root z.root G G;rcases zt b with g|g
  ·exact g
  have g2:=(cmpL_eq _ _).1 g;rw[g2,mH y.root z.root] at h1;omega
 rw [e'] at h1 a ⊢;exact QS _ _ _ a h1
theorem bHk {a b:AD} (hp:a.Perm b) (e:a.Pairwise λx y=>cmpL x y<=0) (hb:b.Pairwise λx y=>cmpL x y<=0):a=b:=
 hp.eq_of_pairwise (λx y _ _ h1 d=>(cmpL_eq x y).1 (by rw[mH x y] at d;omega)) e hb
end
end Go.Eng
namespace Go.Eng
open Go Go.RowKit
section
variable {P:Program} {n:Nd} {B:Nat} {w0:World} {ops:Array Oper} {K:Env->List Row->Prop} {L:Env} {R R1:List Row}
theorem aZf {bh:Nat} {ab:AI} (h: ∀w,Hp B w0 w R↔Hp B w0 w R1) (k:WD P n B w0 ops K bh ab L R1):WD P n B w0 ops K bh ab L R:=by
 intro a w Q hs hp d b;have e:(λw=>Hp B w0 w R)=(λw=>Hp B w0 w R1):=funext λw=>propext (h w);rw[e];exact k a w Q hs ((h w).1 hp) d b
theorem Hp.toTailI0 {w:World} {X Rs Y:List Row}:Hp B w0 w ((X++Rs)++Y)↔Hp B w0 w (X++(Y++Rs)):=by
 have hp:((X++Rs)++Y).Perm (X++(Y++Rs)):=by
  rw[dx];exact ym X ul
 exact⟨λh=>h.perm hp,λh=>h.perm hp.symm⟩
end
end Go.Eng
namespace Go.Eng
open Go Go.RowKit Go.Pure
section
variable {P:Program} {n:Nd} {B:Nat} {w0:World} {L:Env} {R:List Row} {ty:TypeId}
theorem bNy: ∀n:Fin 256,(BitVec.ofInt 8 (n.val:Int) &&& BitVec.ofInt 8 127).toNat=n.val%128:=by decide+kernel
theorem aMc (p:Int) (h:0<=p/\p<256) (w:World):(Op.intBits .and .u8 p 127).run P w= .ok (.int .u8 (p%128)) w:=by
 have e:=bNy ⟨p.toNat,G⟩;simp only at e;rw[show((p.toNat:Nat):Int)=p by omega] at e;show Result.ok (Value.int .u8 (IntKind.u8.wrap ((BitVec.ofInt 8 p &&& BitVec.ofInt 8 127).toNat:Int))) w=_;rw[e,oJ G G];rw[show((p.toNat%128:Nat):Int)=p%128 by omega]
theorem aZb {x y:Operand} {t u:TypeId} {p:Int} (d:ev L x=some (.int .u8 p)) (e:ev L y=some (.int .u8 127)) (h:0<=p/\p<256):Yl P n B w0 (.binOp .and t x y u) ty L R (.int .u8 (p%128)):=by
 intro a w o b _ hs _;simp[execOp,b,binOp,eqGuard,hs.ev d,hs.ev e,aMc p h]
theorem bAp (x:Int) (d:0<=x) (j:IntKind) (k:Nat) (hk:k<=64) (w:World):(Op.shift .shl .u64 x j (k:Int)).run P w= .ok (.int .u64 (x%2^(64-k)*2^k)) w:=by
 have hn: ¬((k:Int)<0):=G
 have hb:min (k:Int).toNat (IntKind.bits .u64)=k:=by
  have:IntKind.bits .u64=64:=rfl;omega
 have e:IntKind.u64.wrap (x*2^k)=x%2^(64-k)*2^k:=by
  have a:IntKind.u64.wrap (x*2^k)=x*2^k%18446744073709551616:=Fp _
  have b:(18446744073709551616:Int)=2^(64-k)*2^k:=by
   rw[<-za,show 64-k+k=64 by omega];rfl
  rw[a,b,xc x,xc (2^(64-k)),Int.mul_emod_mul_of_pos _ _ (Ag cC),xc]
 unfold Op.shift;simp only[hn,hb,xq,e];rfl
theorem bQs {x y:Operand} {t u:TypeId} {a:Int} {j:IntKind} {k:Nat} (e:ev L x=some (.int .u64 a)) (g:ev L y=some (.int j (k:Int))) (b:0<=a) (hk:Nat.ble k 64=true):Yl P n B w0 (.binOp .shl t x y u) ty L R (.int .u64 (a%2^(64-k)*2^k)):=by
 intro h w o d _ hs _;simp[execOp,d,hs.ev e,hs.ev g,binOp,eqGuard,bAp a b j k (ah hk)]
end
end Go.Eng
namespace Go.Proofs.YtkfngcfpmilfiaaGreat
open Go Go.Eng Go.Pure
open Tryz
set_option maxRecDepth 100000
section
variable {w:World} {l b:AH} {k:Int} {lf:AF} {rj lj:Nat}
theorem aGi:
  CF 165 #[] w (λv R'=> ∃A c,v=sl A 256 c/\R'=[(ru 5 A 256 c bQ)]):=by
 refine fn1 func165 Z Z Z<|aD Z<|wq<|aX (dU ai zb5 Z Z) λa=>bC (v:=sl (GG a) ((256:Int).toNat) ((256:Int).toNat)) Z<|aB Z<|aA<|aD Z<|aF<|dF (λ(i:Int) (V:AH)=>[(1,sl (GG a) ((256:Int).toNat) ((256:Int).toNat)),(5,I (((256:Int).toNat:Nat):Int)),(6,I i)]) (λi V=>[(ru 5 (GG a) ((256:Int).toNat) ((256:Int).toNat) V)]) (λi V=>(0<=i)/\(i<=256)/\(V.length=256)/\(∀j:Int,0<=j->j<i->rd V j=j)) (λi V=>(256-i).toNat) ?_ ?_
 ·exact⟨0,List.replicate ((256:Int).toNat) (0:Int),⟨G,G,(Z),(λj h1 g=>G)⟩,KP⟩
 intro i V ⟨b,h,e,d⟩;refine aD Z<|aA<|aR Z ?_ ?_<;>intro ap
 ·exact aG<|aA<|aF<|aD Z<|aT 3 Z<|wy (pV av ay Z)<|wy (aC ai sz5 Z Z (rdr 0 Z))<|bN (bJ 0 Z sz5 Z Z)<|aJ<|bK<|wA Z Z<|aB Z<|⟨i+1,upd V i (IntKind.u8.wrap i),⟨G,G,(by rw[aW];exact e),(gG (f:=λj=>j) b G d (oJ b G))⟩,G,KP⟩
 refine aP<|aD Z<|aL [0] 99<|⟨_,Z,?_⟩;obtain rfl:V=bQ:=aRw e (λj h1 g=>d j h1 G);exact⟨_,_,Z,Z⟩
theorem aHq {B:Nat} {w0:World} {R:List Row} {A:AF} {m c:Nat} (a:m=l.length) (hk:0<=k/\k<l.length) (b:1<l.length):
  CT 167 #[sl A m c,I k] B w0 ((ru 5 A m c l)::R) (λv R'=>v= .tuple #[]/\R'=(ru 5 A m c (mtf l k))::R):=by
 subst a;refine fn0 func167 Z Z Z<|aK 2 Z<|wy (aC ai sz5 Z Z (rdr 0 Z))<|wy (aQ ay Z Z (rdr 0 Z))<|aB Z<|aA<|bE mixed<|wD 0 Z (dI Z)<|wD 1 Z (dE ai sz5 Z Z)<|bF 2 2 Z<|wD 4 Z (dV ai sz5 Z Z (rdr 0 Z))<|wC 5 Z (aEo (lo:=1) 0 Z ai sz5 Z Z Z Z G (RdC.toI (h:=(k).toNat) (rdr 0 Z) cG)) ?_;rintro _ _⟨rfl,rfl⟩;refine⟨.inl cA,?_⟩;refine wN<|aT 2 Z<|wy (aC ai sz5 Z Z (rdr 0 Z))<|bN (bJ 0 Z sz5 Z Z)<|aJ ?_
 skip
 rw[bSs hk.1 hk.2];exact⟨Z,Z⟩
theorem aDp {ao:AF} {ar an:Nat} {u:AH} {c:Int} (am:R4 w ao ar an u) (a:aI u) (hc:0<=c/\c<256) (b:c∈u):
  CF 166 #[sl ao ar an, .int .u8 c] w (λv R'=>v=I (idx u c)):=by
 obtain rfl:=am.lenI;refine fn1 func166 Z Z Z<|aD Z<|aK 2 Z<|dD (aKn func215 cA cA cA cA Z Z (am.c _) a hc b)<|aB Z<|aS<|⟨_,Z,?_⟩;rfl
theorem aVo (e:R4 w lf rj lj b) (go:aI b) (y:b.length<=1000000):
  CF 108 #[sl lf rj lj] w (λv R'=> ∃A c,v=sl A (b.length) c/\R'=[(ru 5 A b.length c (dY bQ b))]):=by
 obtain rfl:=e.lenI;refine fn1 func108 Z Z Z<|aD Z<|wq<|bZ bPz Z (λw q=>aGi) λo m=>aB Z<|aK 2 Z<|aX (dU ai zb5 Z Z) λh=>bC (v:=sl (GG h) b.length b.length) Z<|aB Z<|aA<|aD Z<|aF<|gX (λ(i:Int) (V:AH) (U:AH)=>[(3,sl o 256 m),(4,sl (GG h) b.length b.length),(12,sl lf b.length lj),(13,I (b.length:Int)),(14,I i)]) (λi V U=>[(ru 5 (GG h) b.length b.length U),(ru 5 o 256 m V)]) (λi V U=>(0<=i)/\(i<=b.length)/\(V=zM bQ (b.take i.toNat))/\(U.length=b.length)/\(∀j:Int,0<=j->j<i->rd U j=rd (dY bQ b) j)) (λi V U=>(b.length-i).toNat) ?_ ?_
 ·exact⟨0,bQ,List.replicate b.length (0:Int),⟨G,G,(Z),(by rw[df]),(λj h1 u=>G)⟩,KP⟩
 intro i V U ⟨d,x,g,l,p⟩;have r:V.Perm bQ:=by rw[g];exact aGh go _
 have Ne:=DX r;have a:=go.rd i;have k:=Ne.2.2 _ a.1 a.2;refine aD Z<|aA<|aR Z ?_ ?_<;>intro ap
 ·exact aG<|aA<|aF<|aK 1 Z<|wy (aC ai sz5 Z Z (e.c _))<|wy (aQ ay Z Z (e.c _))<|aB Z<|aK 2 Z<|dZ bYb Z (λw q=>aDp ((rdr 1 Z) w q) Ne.2.1 a k.1)<|aB Z<|aK 3 Z<|wy (pV av ay Z)<|wy (aC ai sz5 Z Z (rdr 0 Z))<|bN (bJ 0 Z sz5 Z Z)<|aJ<|aT 2 Z<|dD (aH bPy Z (Ct.at 1 Z (aHq Ne.1.symm G G)))<|aJ<|bK<|wA Z Z<|aB Z<|⟨i+1,mtf V (idx V (rd b i)),upd U i (IntKind.u8.wrap (idx V (rd b i))),⟨G,G,(by rw[ZR d G,<-g]),(by rw[aW];exact l),(gG (f:=λj=>rd (dY bQ b) j) d G p (by rw[bCc d G,<-g];exact oJ k.2.1 k.2.2))⟩,G,KP⟩
 refine aP<|aD Z<|aL [0] 99<|⟨_,Z,?_⟩;obtain rfl:U=dY bQ b:=bP (by rw[l,jR]) (λj h1 u=>p j h1 G);exact⟨_,_,Z,Z⟩
theorem aYl (d:R4 w lf rj lj b) (go:aI b) (u:b.length<=1000000):
  CF 189 #[sl lf rj lj] w (λv R'=> ∃A c,v=sl A (b.length) c/\R'=[(ru 5 A b.length c (kR bQ b))]):=by
 obtain rfl:=d.lenI;refine fn1 func189 Z Z Z<|aD Z<|wq<|bZ bPz Z (λw x=>aGi) λm l=>aB Z<|aK 2 Z<|aX (dU ai zb5 Z Z) λg=>bC (v:=sl (GG g) b.length b.length) Z<|aB Z<|aA<|aD Z<|aF<|gX (λ(i:Int) (V:AH) (U:AH)=>[(3,sl m 256 l),(4,sl (GG g) b.length b.length),(11,sl lf b.length lj),(12,I (b.length:Int)),(13,I i)]) (λi V U=>[(ru 5 (GG g) b.length b.length U),(ru 5 m 256 l V)]) (λi V U=>(0<=i)/\(i<=b.length)/\(V=EZ bQ (b.take i.toNat))/\(U.length=b.length)/\(∀j:Int,0<=j->j<i->rd U j=rd (kR bQ b) j)) (λi V U=>(b.length-i).toNat) ?_ ?_
 ·exact⟨0,bQ,List.replicate b.length (0:Int),⟨G,G,(Z),(by rw[df]),(λj h1 q=>G)⟩,KP⟩
 intro i V U ⟨a,r,e,h,o⟩;have p:V.Perm bQ:=by rw[e];exact aGg go _
 have Ne:=DX p;have k:=go.rd i;have y:=Ne.2.2 _ k.1 k.2;refine aD Z<|aA<|aR Z ?_ ?_<;>intro ap
 ·exact aG<|aA<|aF<|aK 1 Z<|wy (aC ai sz5 Z Z (d.c _))<|wy (aQ ay Z Z (d.c _))<|aB Z<|aK 4 Z<|wy (aC ai sz5 Z Z (rdr 1 Z))<|wy (aQ ay Z Z (rdr 1 Z))<|wy (aC ai sz5 Z Z (rdr 0 Z))<|bN (bJ 0 Z sz5 Z Z)<|aJ<|aT 2 Z<|wy (gV ay av Z)<|dD (aH bPy Z (Ct.at 1 Z (aHq Ne.1.symm G G)))<|aJ<|bK<|wA Z Z<|aB Z<|⟨i+1,mtf V (rd b i),upd U i (rd V (rd b i)),⟨G,G,(by rw[ZO a G,<-e]),(by rw[aW];exact h),(gG (f:=λj=>rd (kR bQ b) j) a G o (by rw[bCa a G,<-e]))⟩,G,KP⟩
 refine aP<|aD Z<|aL [0] 99<|⟨_,Z,?_⟩;obtain rfl:U=kR bQ b:=bP (by rw[h,qO]) (λj h1 q=>o j h1 G);exact⟨_,_,Z,Z⟩
theorem ZN:
  CF 141 #[] w (λv R'=> ∃A c,v=sl A 256 c/\R'=[(ru 5 A 256 c bQ)]):=by
 refine fn1 func141 Z Z Z<|aD Z<|wq<|dX (ru 5 none 0 0 ([]))<|aB Z<|aA<|aD Z<|aF<|eT (λ(A1:AF) (a:Nat) (c1:Nat) (acc:AH) (i:Int)=>[(1,sl A1 a c1),(2,I i)]) (λA1 a c1 acc i=>[(ru 5 A1 a c1 acc)]) (λA1 a c1 acc i=>(a=acc.length)/\(0<=i)/\(i<=256)/\(acc=iota i.toNat)) (λA1 a c1 acc i=>(256-i).toNat) ?_ ?_
 ·exact⟨none,0,0,[],0,⟨(Z),G,G,(Z)⟩,KP⟩
 intro A1 a c1 acc i ⟨e,d,m,b⟩;have k:=bi List.length b;rw[bI] at k;refine aA<|aD Z<|aR Z ?_ ?_<;>intro ap
 ·exact aG<|aA<|aF<|aT 2 Z<|wy (pV av ay Z)<|aX (bG .u8 [IntKind.u8.wrap i] ai zs5 Z Z Z) λl=>dG (aO 1 Z ai zb5 Z Z Z (rdr 0 Z)) λg j=>bC (v:=sl g (a+1) j) Z<|aB Z<|aT 1 Z<|wA Z Z<|aB Z<|⟨g,a+1,j,acc++([IntKind.u8.wrap i]),i+1,⟨(by rw[aa,e];rfl),G,G,(by rw[xO d,<-b,oJ d G])⟩,G,SA,λ_ h=>h.sel [1] cC Z⟩
 refine aP<|aD Z<|aL [0] 99<|⟨_,Z,?_⟩;obtain rfl:i=256:=G
 subst b;obtain rfl:a=256:=by rw[e,bI];rfl
 exact⟨_,_,Z,Z⟩
theorem VW {li:AF} {va ml:Nat} (a:R4 w li va ml l) (hk:0<=k/\k<l.length) (m:l.length<=1000000):
  CF 142 #[sl li va ml,I k] w (λv R'=> ∃A c,v=sl A (l.length) c/\R'=[(ru 5 A l.length c (mtf l k))]):=by
 obtain rfl:=a.lenI;refine fn1 func142 Z Z Z<|aD Z<|aA<|bE mixed<|bZs<|fB 0 Z cA Z (dI Z)<|fB 1 Z cA Z (dI Z)<|fB 2 Z cA Z (aC ai sz5 Z Z (a.c _))<|fB 3 Z cA Z (aQ ay Z Z (a.c _))<|fB 5 Z cA Z (dI Z)<|fB 6 Z cA Z (dI Z)<|fB 7 Z cA Z (dV ai sz5 Z Z (a.c _))<|fB 9 Z cA Z (dI Z)<|fB 10 Z cA Z (dI Z)<|fB 11 Z cA Z (dJ Z Z)<|fB 12 Z cA Z (dE ai sz5 Z Z)<|iV 4 cA<|sN 4 Z Z (bG .u8 [rd l k] ai zs5 Z Z Z) ?_;rintro _ _⟨j,rfl,rfl⟩;refine⟨λ_ h=>h.sel [] cC Z,?_⟩;refine iV 8 cA<|sN 8 Z Z (aO 0 Z ai zb5 Z Z Z (RdC.toI (a.c _) G)) ?_;rintro _ _⟨b,d,rfl,rfl⟩;refine⟨λ_ h=>h.sel [] cC Z,?_⟩;refine vX (v:=sl b (1+((k).toNat)) d) Z<|iV 13 cA<|sN 13 Z Z (aO 0 Z ai zb5 Z Z Z (RdC.fromI (a.c _) G)) ?_;rintro _ _⟨g,i,rfl,rfl⟩;refine⟨λ_ h=>h.sel [] cC Z,?_⟩;refine vX (v:=sl g ((1+((k).toNat))+(l.length-(k+1).toNat)) i) Z<|fB 14 Z cA Z (bY Z)<|sM cA<|aL [0] 99<|⟨_,Z,?_⟩;have e:([rd l k]++l.take k.toNat)++l.drop (k+1).toNat=mtf l k:=by unfold mtf;rw[show(k+1).toNat=k.toNat+1 by omega];rfl
 rw[e];rw[show 1+k.toNat+(l.length-(k+1).toNat)=l.length by omega];exact⟨_,_,Z,Z⟩
theorem aMh (p:R4 w lf rj lj b) (go:aI b) (T:b.length<=1000000):
  CF 120 #[sl lf rj lj] w (λv R'=> ∃A c,v=sl A (b.length) c/\R'=[(ru 5 A b.length c (dY bQ b))]):=by
 obtain rfl:=p.lenI;refine fn1 func120 Z Z Z<|aD Z<|wq<|bZ bQi Z (λw J=>ZN) λD C=>aB Z<|wq<|dX (ru 5 none 0 0 ([]))<|aB Z<|aA<|aD Z<|aF<|zU (λ(i:Int) (V:AH) (e:AF) (d:Nat) (g:Nat) (A1:AF) (a:Nat) (c1:Nat) (acc:AH) (Rs:List Row)=>[(0,sl lf b.length lj),(3,sl e d g),(4,sl A1 a c1),(5,I i)]) (λi V e d g A1 a c1 acc Rs=>((ru 5 A1 a c1 acc)::Rs)) (λi V e d g A1 a c1 acc Rs=>(0<=i)/\(i<=b.length)/\(V=zM bQ (b.take i.toNat))/\(d=256)/\(∀(B:Nat) (w0 w:World),Hp B w0 w Rs->R4 w e d g V)/\(a=acc.length)/\(acc=dY bQ (b.take i.toNat))) (λi V e d g A1 a c1 acc Rs=>(b.length-i).toNat) ?_ ?_
 ·exact⟨0,bQ,D,256,C,none,0,0,[],((ru 5 D 256 C bQ)::[]),⟨G,G,(Z),(Z),(λB w0 w h=>rdr 0 Z w h),(Z),(Z)⟩,SA,λ_ h=>h.selR (F:=[_,_]) (F':=[_,_]) [0,1] cC Z⟩
 intro i V e d g A1 a c1 acc Rs ⟨x,S,q,P,o,y,l⟩;have N:V.Perm bQ:=by rw[q];exact aGh go _
 have Ne:=DX N;have u:=go.rd i;have m:=Ne.2.2 _ u.1 u.2;have Q:=bi List.length l;rw[jR,ax] at Q;refine aA<|aD Z<|aR Z ?_ ?_<;>intro ap
 ·refine aG<|aA<|aF<|aD Z<|aA<|aF<|iK (λ(k:Int)=>[(0,sl lf b.length lj),(3,sl e d g),(4,sl A1 a c1),(5,I i),(6,I k)]) (λk=>((ru 5 A1 a c1 acc)::Rs)) (λk=>(0<=k)/\(k<=idx V (rd b i))) (λk=>(idx V (rd b i)-k).toNat) ?_ ?_
  ·exact⟨0,⟨G,(m.2.1)⟩,KP⟩
  intro k ⟨O,r⟩;refine aA<|aA<|bE mixed<|bF 0 2 Z<|wD 2 Z (aC ai sz5 Z Z (λ_ h=>o _ _ _ (h.right (R':=[_]))))<|wD 3 Z (aQ ay Z Z (λ_ h=>o _ _ _ (h.right (R':=[_]))))<|bF 4 2 Z<|wD 6 Z (aC ai sz5 Z Z (p.c _))<|wD 7 Z (aQ ay Z Z (p.c _))<|wD 8 Z (gD Z Z)<|wN<|aR Z ?_ ?_<;>intro R
  ·exact aG<|aF<|aT 1 Z<|wA Z Z<|aB Z<|⟨k+1,⟨G,(aIf m.1 r cF)⟩,(by have:=aIf m.1 r cF;omega),KP⟩
  have j:=bEy O r m.1 (pg.1 cF);exact aP<|aK 2 Z<|wy (pV av ay Z)<|aX (bG .u8 [IntKind.u8.wrap k] ai zs5 Z Z Z) λY=>dG (aO 1 Z ai zb5 Z Z Z (rdr 0 Z)) λL M=>bC (v:=sl L (a+1) M) Z<|aB Z<|aT 2 Z<|bZ bQh Z (λw J=>VW ((λ_ h=>o _ _ _ (h.right (R':=[_,_]))) w J) G G) λK H=>aB Z<|aT 1 Z<|wA Z Z<|aB Z<|⟨i+1,(mtf V k),K,(V).length,H,L,a+1,M,acc++([IntKind.u8.wrap k]),((ru 5 K ((V).length) H (mtf V k))::Rs),⟨G,G,(by rw[ZR x G,<-q,<-j]),(Ne.1),(λB w0 w h=>rdr 0 Z w h),(by rw[aa,y];rfl),(by rw[aNh x G,<-l,<-q,<-j,oJ G G])⟩,G,SA,λ_ h=>h.selR (F:=[_,_,_]) (F':=[_,_]) [2,0] cC Z⟩
 refine aP<|aD Z<|gN (R1:=[(ru 5 A1 a c1 acc)]) (λ_ h=>(h.selR (F:=[_]) (F':=[_]) [0] cC Z).left (X:=[_]))<|⟨_,Z,?_⟩;rw[bg G] at l;subst l;obtain rfl:a=b.length:=by rw[y,jR]
 exact⟨_,_,Z,Z⟩
theorem aMr (j:R4 w lf rj lj b) (go:aI b) (N:b.length<=1000000):
  CF 85 #[sl lf rj lj] w (λv R'=> ∃A c,v=sl A (b.length) c/\R'=[(ru 5 A b.length c (kR bQ b))]):=by
 obtain rfl:=j.lenI;refine fn1 func85 Z Z Z<|aD Z<|wq<|bZ bQi Z (λw y=>ZN) λu r=>aB Z<|wq<|dX (ru 5 none 0 0 ([]))<|aB Z<|aA<|aD Z<|aF<|zU (λ(i:Int) (V:AH) (e:AF) (d:Nat) (g:Nat) (A1:AF) (a:Nat) (c1:Nat) (acc:AH) (Rs:List Row)=>[(0,sl lf b.length lj),(3,sl e d g),(4,sl A1 a c1),(5,I i)]) (λi V e d g A1 a c1 acc Rs=>((ru 5 A1 a c1 acc)::Rs)) (λi V e d g A1 a c1 acc Rs=>(0<=i)/\(i<=b.length)/\(V=EZ bQ (b.take i.toNat))/\(d=256)/\(∀(B:Nat) (w0 w:World),Hp B w0 w Rs->R4 w e d g V)/\(a=acc.length)/\(acc=kR bQ (b.take i.toNat))) (λi V e d g A1 a c1 acc Rs=>(b.length-i).toNat) ?_ ?_
 ·exact⟨0,bQ,u,256,r,none,0,0,[],((ru 5 u 256 r bQ)::[]),⟨G,G,(Z),(Z),(λB w0 w h=>rdr 0 Z w h),(Z),(Z)⟩,SA,λ_ h=>h.selR (F:=[_,_]) (F':=[_,_]) [0,1] cC Z⟩
 intro i V e d g A1 a c1 acc Rs ⟨p,M,m,K,l,q,k⟩;have J:V.Perm bQ:=by rw[m];exact aGg go _
 have Ne:=DX J;have o:=go.rd i;have P:=Ne.2.2 _ o.1 o.2;have L:=bi List.length k;rw[qO,ax] at L;refine aA<|aD Z<|aR Z ?_ ?_<;>intro ap
 ·exact aG<|aA<|aF<|aK 4 Z<|wy (aC ai sz5 Z Z (j.c _))<|wy (aQ ay Z Z (j.c _))<|wy (aC ai sz5 Z Z (λ_ h=>l _ _ _ (h.right (R':=[_]))))<|wy (aQ ay Z Z (λ_ h=>l _ _ _ (h.right (R':=[_]))))<|aX (bG .u8 [rd V (rd b i)] ai zs5 Z Z Z) λO=>dG (aO 1 Z ai zb5 Z Z Z (rdr 0 Z)) λD H=>bC (v:=sl D (a+1) H) Z<|aB Z<|aT 3 Z<|wy (aC ai sz5 Z Z (j.c _))<|wy (aQ ay Z Z (j.c _))<|wy (gV ay av Z)<|bZ bQh Z (λw y=>VW ((λ_ h=>l _ _ _ (h.right (R':=[_,_]))) w y) G G) λC x=>aB Z<|aT 1 Z<|wA Z Z<|aB Z<|⟨i+1,(mtf V (rd b i)),C,(V).length,x,D,a+1,H,acc++([rd V (rd b i)]),((ru 5 C ((V).length) x (mtf V (rd b i)))::Rs),⟨G,G,(by rw[ZO p G,<-m]),(Ne.1),(λB w0 w h=>rdr 0 Z w h),(by rw[aa,q];rfl),(by rw[aLd p G,<-k,<-m])⟩,G,SA,λ_ h=>h.selR (F:=[_,_,_]) (F':=[_,_]) [2,0] cC Z⟩
 refine aP<|aD Z<|gN (R1:=[(ru 5 A1 a c1 acc)]) (λ_ h=>(h.selR (F:=[_]) (F':=[_]) [0] cC Z).left (X:=[_]))<|⟨_,Z,?_⟩;rw[bg G] at k;subst k;obtain rfl:a=b.length:=by rw[q,qO]
 exact⟨_,_,Z,Z⟩
end
section
variable {n i:Int} {acc b:AH} {w:World} {lf:AF} {rj lj:Nat}
theorem YX {m:Int} (h:fI n.toNat=acc++fI m.toNat) (hp:0<m) {d q:Int} (e:d=(m-1)%2) (g:q=(m-1)/2):fI n.toNat=(acc++[d])++fI q.toNat:=by
 rw[h,IU G,dx,ou];have a:(((m.toNat-1)%2:Nat):Int)=d:=G
 have b:(m.toNat-1)/2=q.toNat:=G
 rw[a,b]
theorem ZA (h:acc++dR n.toNat (b.drop i.toNat)=dR 0 b) (i0:0<=i) (hi:i<b.length) (n0:0<=n) (hc:rd b i=0):acc++dR (n+1).toNat (b.drop (i+1).toNat)=dR 0 b:=by
 rw[jN i0 hi,dR,cz hc] at h;rw[show(n+1).toNat=n.toNat+1 by omega];exact h
theorem IW (h:acc++dR n.toNat (b.drop i.toNat)=dR 0 b) (i0:0<=i) (hi:i<b.length) (hc: ¬rd b i=0):((acc++fI n.toNat)++[rd b i+1])++dR 0 (b.drop (i+1).toNat)=dR 0 b:=by
 rw[jN i0 hi,dR,bq hc] at h;rw[<-h];simp
theorem SF (h:acc++dR n.toNat (b.drop i.toNat)=dR 0 b):acc.length<=b.length:=by
 have h1:=bi List.length h;have a:=uI b 0;rw[aa] at h1;omega
theorem YW (a:0<=n):((fI n.toNat).length:Int)<=n:=by
 have:=IV _ _ (dn n.toNat);omega
theorem YY (k:0<=n/\n<=1000000):
  CF 164 #[I n] w (λv R'=> ∃A c,v=sl A ((fI n.toNat).length) c/\R'=[(ri 3 A ((fI n.toNat).length) c (fI n.toNat))]):=by
 refine fn1 func164 Z Z Z<|aD Z<|wq<|dX (ri 3 none 0 0 ([]))<|aB Z<|aA<|aF<|eT (λ(A1:AF) (a:Nat) (c1:Nat) (acc:AH) (m:Int)=>[(0,I m),(3,sl A1 a c1)]) (λA1 a c1 acc m=>[(ri 3 A1 a c1 acc)]) (λA1 a c1 acc m=>(a=acc.length)/\(0<=m)/\(fI n.toNat=acc++fI m.toNat)/\(acc.length+m<=n)) (λA1 a c1 acc m=>m.toNat) ?_ ?_
 ·exact⟨none,0,0,[],n,⟨(Z),G,(Z),(by show((0:Nat):Int)+n<=n;omega)⟩,KP⟩
 intro A1 a c1 acc m ⟨b,o,i,l⟩;refine aA<|aD Z<|aR Z ?_ ?_<;>intro ap
 ·exact aG<|aA<|aF<|aT 2 Z<|wS Z Z<|wy (uF Z Z)<|aX (bG .i64 [(m-1)%2] ak zs3 Z Z Z) λj=>dG (aO 1 Z ak zb3 Z Z Z (rdr 0 Z)) λd g=>bC (v:=sl d (a+1) g) Z<|aB Z<|aT 1 Z<|wS Z Z<|wy (zP Z Z G G G)<|aB Z<|⟨d,a+1,g,acc++([(m-1)%2]),(m-1)/2,⟨(by rw[aa,b];try rfl),G,(YX i G G G),(by rw[aa,dw];omega)⟩,G,SA,λ_ h=>h.sel [1] cC Z⟩
 refine aP<|aD Z<|aL [0] 99<|⟨_,Z,?_⟩;obtain rfl:m=0:=G
 have e:fI n.toNat=acc:=by rw[i];exact ik _
 rw[e];obtain rfl:=b;exact⟨_,_,Z,Z⟩
theorem GI (k:0<=n/\n<=1000000):
  CF 178 #[I n] w (λv R'=> ∃A c,v=sl A ((fI n.toNat).length) c/\R'=[(ri 3 A ((fI n.toNat).length) c (fI n.toNat))]):=by
 refine fn1 func178 Z Z Z<|aD Z<|wq<|dX (ri 3 none 0 0 ([]))<|aB Z<|aA<|aF<|eT (λ(A1:AF) (a:Nat) (c1:Nat) (acc:AH) (m:Int)=>[(0,I m),(3,sl A1 a c1)]) (λA1 a c1 acc m=>[(ri 3 A1 a c1 acc)]) (λA1 a c1 acc m=>(a=acc.length)/\(0<=m)/\(fI n.toNat=acc++fI m.toNat)/\(acc.length+m<=n)) (λA1 a c1 acc m=>m.toNat) ?_ ?_
 ·exact⟨none,0,0,[],n,⟨(Z),G,(Z),(by show((0:Nat):Int)+n<=n;omega)⟩,KP⟩
 intro A1 a c1 acc m ⟨b,o,i,l⟩;refine aA<|aD Z<|aR Z ?_ ?_<;>intro ap
 ·exact aG<|aF<|aK 1 Z<|wy (uF Z Z)<|wS Z Z<|aB Z<|aK 2 Z<|wS Z Z<|aX (bG .i64 [(2-(m%2))-1] ak zs3 Z Z Z) λj=>dG (aO 1 Z ak zb3 Z Z Z (rdr 0 Z)) λd g=>bC (v:=sl d (a+1) g) Z<|aB Z<|aT 2 Z<|wS Z Z<|wy (zP Z Z G G G)<|aB Z<|⟨d,a+1,g,acc++([(2-(m%2))-1]),(m-(2-(m%2)))/2,⟨(by rw[aa,b];try rfl),G,(YX i G G G),(by rw[aa,dw];omega)⟩,G,SA,λ_ h=>h.sel [1] cC Z⟩
 refine aP<|aD Z<|aL [0] 99<|⟨_,Z,?_⟩;obtain rfl:m=0:=G
 have e:fI n.toNat=acc:=by rw[i];exact ik _
 rw[e];obtain rfl:=b;exact⟨_,_,Z,Z⟩
theorem aTw (j:R4 w lf rj lj b) (go:aI b) (N:b.length<=1000000):
  CF 107 #[sl lf rj lj] w (λv R'=> ∃A c,v=sl A ((dR 0 b).length) c/\R'=[(ri 3 A ((dR 0 b).length) c (dR 0 b))]):=by
 obtain rfl:=j.lenI;refine fn1 func107 Z Z Z<|aD Z<|wq<|dX (ri 3 none 0 0 ([]))<|aB Z<|aD Z<|aA<|aD Z<|aF<|nX (λ(A1:AF) (a:Nat) (c1:Nat) (acc:AH) (i:Int) (m:Int)=>[(3,sl A1 a c1),(4,I m),(7,sl lf b.length lj),(8,I (b.length:Int)),(9,I i)]) (λA1 a c1 acc i m=>[(ri 3 A1 a c1 acc)]) (λA1 a c1 acc i m=>(a=acc.length)/\(0<=i)/\(i<=b.length)/\(0<=m)/\(m<=i)/\(acc++dR m.toNat (b.drop i.toNat)=dR 0 b)) (λA1 a c1 acc i m=>(b.length-i).toNat) ?_ ?_
 ·exact⟨none,0,0,[],0,0,⟨(Z),G,G,G,G,(Z)⟩,KP⟩
 intro A1 a c1 acc i m ⟨d,k,M,o,O,g⟩;have m6:=SF g;have C:=YW o;refine aD Z<|aA<|aR Z ?_ ?_<;>intro ap
 ·have D:=go.rd i;refine aG<|aA<|aF<|wq<|wy (aC ai sz5 Z Z (j.c _))<|wy (aQ ay Z Z (j.c _))<|aB Z<|aA<|aD Z<|aR Z ?_ ?_<;>intro F
  ·exact aK 1 Z<|wA Z Z<|aB Z<|aP<|bK<|wA Z Z<|aB Z<|⟨A1,a,c1,acc,i+1,m+1,⟨(by first|exact d|simp[d,ow]),G,G,G,G,(ZA g k G o cF)⟩,G,KP⟩
  exact aG<|aK 2 Z<|bZ bQa Z (λw x=>YY G) λJ H=>dG (aO 1 Z ak zb3 Z Z Z (rdr 0 Z)) λy B=>bC (v:=sl y (a+((fI (m).toNat).length)) B) Z<|wm Z<|wy (gV ay av Z)<|wA Z Z<|aX (bG .i64 [(rd b i)+1] ak zs3 Z Z Z) λP=>dG (aO 2 Z ak zb3 Z Z Z (rdr 0 Z)) λq p=>bC (v:=sl q ((a+((fI (m).toNat).length))+1) p) Z<|aB Z<|sQ Z<|bK<|wA Z Z<|aB Z<|⟨q,(a+((fI (m).toNat).length))+1,p,(acc++(fI (m).toNat))++([(rd b i)+1]),i+1,0,⟨(by first|exact d|simp[d,ow]),G,G,G,G,(IW g k G cF)⟩,G,SA,λ_ h=>h.sel [2] cC Z⟩
 refine aP<|aK 2 Z<|bZ bQa Z (λw x=>YY G) λL K=>dG (aO 1 Z ak zb3 Z Z Z (rdr 0 Z)) λr u=>bC (v:=sl r (a+((fI (m).toNat).length)) u) Z<|aB Z<|aL [1] 99<|⟨_,Z,?_⟩;rw[vv G] at g;have l:acc++fI m.toNat=dR 0 b:=g;have e:a+(fI m.toNat).length=(dR 0 b).length:=by rw[<-l,aa,d]
 rw[e,l];exact⟨_,_,Z,Z⟩
theorem TB (j:R4 w lf rj lj b) (go:aI b) (X:b.length<=1000000):
  CF 119 #[sl lf rj lj] w (λv R'=> ∃A c,v=sl A ((dR 0 b).length) c/\R'=[(ri 3 A ((dR 0 b).length) c (dR 0 b))]):=by
 obtain rfl:=j.lenI;refine fn1 func119 Z Z Z<|aD Z<|wq<|dX (ri 3 none 0 0 ([]))<|aB Z<|aD Z<|aA<|aD Z<|aF<|nX (λ(A1:AF) (a:Nat) (c1:Nat) (acc:AH) (i:Int) (m:Int)=>[(0,sl lf b.length lj),(3,sl A1 a c1),(4,I m),(5,I i)]) (λA1 a c1 acc i m=>[(ri 3 A1 a c1 acc)]) (λA1 a c1 acc i m=>(a=acc.length)/\(0<=i)/\(i<=b.length)/\(0<=m)/\(m<=i)/\(acc++dR m.toNat (b.drop i.toNat)=dR 0 b)) (λA1 a c1 acc i m=>(b.length-i).toNat) ?_ ?_
 ·exact⟨none,0,0,[],0,0,⟨(Z),G,G,G,G,(Z)⟩,KP⟩
 intro A1 a c1 acc i m ⟨d,k,T,x,kj,g⟩;have m6:=SF g;have N:=YW x;refine aA<|aD Z<|aR Z ?_ ?_<;>intro ap
 ·have P:=go.rd i;refine aG<|aA<|aF<|aA<|aK 2 Z<|wy (aC ai sz5 Z Z (j.c _))<|wy (aQ ay Z Z (j.c _))<|aB Z<|aR Z ?_ ?_<;>intro Q
  ·exact aK 1 Z<|wA Z Z<|aB Z<|aP<|aT 1 Z<|wA Z Z<|aB Z<|⟨A1,a,c1,acc,i+1,m+1,⟨(by first|exact d|simp[d,ow]),G,G,G,G,(ZA g k G x cF)⟩,G,KP⟩
  refine aG<|aA<|yJ (Rc:=[]) mixed (λ_ h=>h.sel [] cC Z)<|fB 0 Z cA Z (dI Z)<|fB 1 Z cA Z (dI Z)<|fB 4 Z cA Z (dI Z)<|fB 5 Z cA Z (dI Z)<|fB 6 Z cA Z (aC ai sz5 Z Z (j.c _))<|fB 7 Z cA Z (aQ ay Z Z (j.c _))<|fB 8 Z cA Z (gV ay av Z)<|fB 9 Z cA Z (dJ Z Z)<|aDz 2 10 cA ?_ ?_
  ·refine sN 2 Z Z (aH bGh Z (Ct.fresh (λw q=>GI G))) ?_;rintro _ _⟨_,rfl,S,R,rfl,rfl⟩;refine⟨λ_ h=>h.sel [] cC Z,?_⟩;refine aDz 3 10 cA ?_ ?_
   ·refine sN 3 Z Z (aO 1 Z ak zb3 Z Z Z (rdr 0 Z)) ?_;rintro _ _⟨C,D,rfl,rfl⟩;refine⟨λ_ h=>h.sel [] cC Z,?_⟩;refine vX (v:=sl C (a+((fI (m).toNat).length)) D) Z<|iV 10 cA<|sN 10 Z Z (bG .i64 [(rd b i)+1] ak zs3 Z Z Z) ?_;rintro _ _⟨rv,rfl,rfl⟩;refine⟨λ_ h=>h.sel [] cC Z,?_⟩;refine iV 11 cA<|sN 11 Z Z (aO 2 Z ak zb3 Z Z Z (rdr 0 Z)) ?_;rintro _ _⟨B,y,rfl,rfl⟩;refine⟨λ_ h=>h.sel [] cC Z,?_⟩;exact vX (v:=sl B ((a+((fI (m).toNat).length))+1) y) Z<|fB 12 Z cA Z (bY Z)<|sM cA<|sQ Z<|aT 1 Z<|wA Z Z<|aB Z<|⟨B,(a+((fI (m).toNat).length))+1,y,(acc++(fI (m).toNat))++([(rd b i)+1]),i+1,0,⟨(by first|exact d|simp[d,ow]),G,G,G,G,(IW g k G cF)⟩,G,SA,λ_ h=>h.sel [2] cC Z⟩
   refine sN 10 Z Z (bG .i64 [(rd b i)+1] ak zs3 Z Z Z) ?_;rintro _ _⟨sg,rfl,rfl⟩;refine⟨λ_ h=>h.sel [] cC Z,?_⟩;refine iV 3 cA<|sN 3 Z Z (aO 2 Z ak zb3 Z Z Z (rdr 1 Z)) ?_;rintro _ _⟨K,F,rfl,rfl⟩;refine⟨λ_ h=>h.sel [] cC Z,?_⟩;refine vX (v:=sl K (a+((fI (m).toNat).length)) F) Z<|iV 11 cA<|sN 11 Z Z (aO 2 Z ak zb3 Z Z Z (rdr 0 Z)) ?_;rintro _ _⟨o,p,rfl,rfl⟩;refine⟨λ_ h=>h.sel [] cC Z,?_⟩;exact vX (v:=sl o ((a+((fI (m).toNat).length))+1) p) Z<|fB 12 Z cA Z (bY Z)<|sM cA<|sQ Z<|aT 1 Z<|wA Z Z<|aB Z<|⟨o,(a+((fI (m).toNat).length))+1,p,(acc++(fI (m).toNat))++([(rd b i)+1]),i+1,0,⟨(by first|exact d|simp[d,ow]),G,G,G,G,(IW g k G cF)⟩,G,SA,λ_ h=>h.sel [2] cC Z⟩
  refine sN 10 Z Z (bG .i64 [(rd b i)+1] ak zs3 Z Z Z) ?_;rintro _ _⟨O,rfl,rfl⟩;refine⟨λ_ h=>h.sel [] cC Z,?_⟩;refine iV 2 cA<|sN 2 Z Z (aH bGh Z (Ct.fresh (λw q=>GI G))) ?_;rintro _ _⟨_,rfl,i5,py,rfl,rfl⟩;refine⟨λ_ h=>h.sel [] cC Z,?_⟩;refine iV 3 cA<|sN 3 Z Z (aO 2 Z ak zb3 Z Z Z (rdr 0 Z)) ?_;rintro _ _⟨H,J,rfl,rfl⟩;refine⟨λ_ h=>h.sel [] cC Z,?_⟩;refine vX (v:=sl H (a+((fI (m).toNat).length)) J) Z<|iV 11 cA<|sN 11 Z Z (aO 2 Z ak zb3 Z Z Z (rdr 1 Z)) ?_;rintro _ _⟨r,u,rfl,rfl⟩;refine⟨λ_ h=>h.sel [] cC Z,?_⟩;exact vX (v:=sl r ((a+((fI (m).toNat).length))+1) u) Z<|fB 12 Z cA Z (bY Z)<|sM cA<|sQ Z<|aT 1 Z<|wA Z Z<|aB Z<|⟨r,(a+((fI (m).toNat).length))+1,u,(acc++(fI (m).toNat))++([(rd b i)+1]),i+1,0,⟨(by first|exact d|simp[d,ow]),G,G,G,G,(IW g k G cF)⟩,G,SA,λ_ h=>h.sel [2] cC Z⟩
 refine aP<|aK 2 Z<|bZ bGh Z (λw q=>GI G) λY j7=>dG (aO 1 Z ak zb3 Z Z Z (rdr 0 Z)) λL M=>bC (v:=sl L (a+((fI (m).toNat).length)) M) Z<|aB Z<|aL [1] 99<|⟨_,Z,?_⟩;rw[vv G] at g;have l:acc++fI m.toNat=dR 0 b:=g;have e:a+(fI m.toNat).length=(dR 0 b).length:=by rw[<-l,aa,d]
 rw[e,l];exact⟨_,_,Z,Z⟩
end
section
variable {B g n c:Nat} {w0 w:World} {R:List Row} {A:AF} {C:AH} {ie:Int}
theorem UY (hn:n=C.length) (hs:0<=ie/\ie<C.length):
  CT 168 #[PG g,I ie] B w0 ((rc 222 2 g [sl A n c,I (bL C)])::(ri 3 A n c C)::R) (λv R'=>v=bt/\R'=(rc 222 2 g [sl A n c,I (bL C)])::(ri 3 A n c C)::R):=by
 subst hn;exact fn1 func168 Z Z Z<|aD Z<|aK 1 Z<|wy (bIy underlying152 Z Z)<|bH 2 Z<|aN Z Z<|wy (Yl.t (pG Z Z) G)<|iC [0] 8 Z<|aN Z Z<|wy (Yl.t (fD Z Z) G)<|aB Z<|aS<|⟨_,Z,Z,Z⟩
theorem kQ:
  CT 112 #[PG g] B w0 ((rc 222 2 g [sl A n c,I (bL C)])::(ri 3 A n c C)::R) (λv R'=>v=I (bL C)/\R'=(rc 222 2 g [sl A n c,I (bL C)])::(ri 3 A n c C)::R):=by
 exact fn1 func112 Z Z Z<|aD Z<|aA<|aK 1 Z<|wy (kT underlying152 Z Z)<|aJ<|aM Z<|aG<|lK [0] Z<|aS<|⟨_,Z,Z,Z⟩
theorem nK (hn:n=C.length) (hs:0<=ie/\ie<C.length) (b:mD C):
  CT 110 #[PG g,I ie] B w0 ((rc 222 2 g [sl A n c,I (bL C)])::(ri 3 A n c C)::R) (λv R'=>v= .tuple #[I (bL (C.take ie.toNat)),I (rd C ie),bt]/\R'=(rc 222 2 g [sl A n c,I (bL C)])::(ri 3 A n c C)::R):=by
 subst hn;refine fn3 func110 Z Z Z<|aD Z<|aA<|aK 2 Z<|dD (aH bPx Z ((UY Z G)))<|aB Z<|aM Z<|aG<|aA<|cB [0] 5 Z<|wy (dV ak sz3 Z Z (rdr 1 Z))<|aB Z<|aF<|dF (λ(i:Int) (low:Int)=>[(0,PG g),(1,I ie),(4,I low),(18,sl A ((ie).toNat) c),(19,I (((ie).toNat:Nat):Int)),(20,I i)]) (λi low=>((rc 222 2 g [sl A C.length c,I (bL C)])::(ri 3 A C.length c C)::R)) (λi low=>(0<=i)/\(i<=ie)/\(low=bL (C.take i.toNat))) (λi low=>(ie-i).toNat) ?_ ?_
 ·exact⟨0,0,⟨G,G,(Z)⟩,KP⟩
 intro i low ⟨a,m,d⟩;have j:=tJ (i:=i) b.2.1 a G;have pm:=b.2.2;have mt:=b.1;have e:=QE (l:=C) (k:=ie) (i:=i) a;refine aD Z<|aA<|aR Z ?_ ?_<;>intro ap
 ·have e:=e G;exact aG<|aA<|aF<|wq<|wy (aC ak sz3 Z Z (RdC.toI (h:=(ie).toNat) (rdr 1 Z) cG))<|wy (aQ av Z Z (RdC.toI (h:=(ie).toNat) (rdr 1 Z) cG))<|aB Z<|aT 2 Z<|wA Z Z<|aB Z<|bK<|wA Z Z<|aB Z<|⟨i+1,low+(rd ((C).take (ie).toNat) i),⟨G,G,(by rw[kW a G,<-d,QE a G])⟩,G,KP⟩
 refine aP<|aA<|bE mixed<|fU [0] 0 6 Z<|wD 6 Z (aC ak sz3 Z Z (rdr 1 Z))<|wD 7 Z (aQ av Z Z (rdr 1 Z))<|bF 8 3 Z<|wN<|aS<|⟨_,_,_,Z,Z,Z,?_⟩;obtain rfl:i=ie:=G
 rw[<-d];exact⟨Z,Z⟩
theorem BI:
  CF 163 #[I 258] w (λv R'=> ∃g A c,v=PG g/\R'=[(rc 222 2 g [sl A 258 c,I 258]),(ri 3 A 258 c FC)]):=by
 refine fn1 func163 Z Z Z<|aD Z<|aA<|aK 1 Z<|wy (Yl.f (fD Z Z) cC)<|bH 2 Z<|aN Z Z<|wy (Yl.f (iL Z Z) cC)<|aB Z<|aM Z<|aG<|aK 2 Z<|aX (dU ak zb3 Z Z) λa=>bC (v:=sl (GG a) ((258:Int).toNat) ((258:Int).toNat)) Z<|wy (bV (v:= .agg #[sl (GG a) ((258:Int).toNat) ((258:Int).toNat),I 258]) Z (λw=>cA))<|aX (dC (sz:=2) rfl rfl) λb=>aB Z<|aA<|lK [0] Z<|aF<|dF (λ(i:Int) (V:AH)=>[(3,PG b),(20,I (((258:Int).toNat:Nat):Int)),(21,I i)]) (λi V=>[(rc 222 2 b [sl (GG a) ((258:Int).toNat) ((258:Int).toNat),I 258]),(ri 3 (GG a) ((258:Int).toNat) ((258:Int).toNat) V)]) (λi V=>(0<=i)/\(i<=258)/\(V.length=258)/\(∀j:Int,0<=j->j<i->rd V j=1)) (λi V=>(258-i).toNat) ?_ ?_
 ·exact⟨0,List.replicate ((258:Int).toNat) (0:Int),⟨G,G,(df),(λj h1 k=>G)⟩,KP⟩
 intro i V ⟨h,l,e,d⟩;refine aD Z<|aA<|aR Z ?_ ?_<;>intro ap
 ·exact aG<|aA<|aF<|aD Z<|nQ [0] 5 Z<|wy (aC ak sz3 Z Z (rdr 1 Z))<|bN (bJ 1 Z sz3 Z Z)<|aJ<|bK<|wA Z Z<|aB Z<|⟨i+1,upd V i 1,⟨G,G,(by rw[aW];exact e),(gG (f:=λ_=>1) h G d Z)⟩,G,KP⟩
 refine aP<|aD Z<|aS<|⟨_,Z,?_⟩;obtain rfl:V=FC:=bSv e (λj h1 k=>d j h1 G);exact⟨_,_,_,Z,Z⟩
theorem yN:
  CF 137 #[I 258] w (λv R'=> ∃g A c,v=PG g/\R'=[(rc 191 1 g [sl A 258 c]),(ri 3 A 258 c FC)]):=by
 refine fn1 func137 Z Z Z<|aD Z<|aA<|aK 1 Z<|wy (Yl.f (fD Z Z) cC)<|bH 2 Z<|aN Z Z<|wy (Yl.f (iL Z Z) cC)<|aB Z<|aM Z<|aG<|wq<|wy (bV (v:= .agg #[sl none 0 0]) Z (λw=>cA))<|aX (dC (sz:=1) rfl rfl) λd=>dX (ri 3 none 0 0 ([])) ?_;refine aB Z<|aA<|aD Z<|aF<|eT (λ(i:Int) (A1:AF) (a:Nat) (c1:Nat) (acc:AH)=>[(0,I 258),(3,PG d),(4,I i)]) (λi A1 a c1 acc=>[(ri 3 A1 a c1 acc),(rc 191 1 d [sl A1 a c1])]) (λi A1 a c1 acc=>(0<=i)/\(i<=258)/\(a=acc.length)/\(acc=List.replicate i.toNat 1)) (λi A1 a c1 acc=>(258-i).toNat) ?_ ?_
 ·exact⟨0,none,0,0,[],⟨G,G,(Z),(Z)⟩,KP⟩
 intro i A1 a c1 acc ⟨m,o,e,b⟩;have l:=bi List.length b;rw[df] at l;refine aA<|aD Z<|aR Z ?_ ?_<;>intro ap
 ·exact aG<|aA<|aF<|nQ [1] 5 Z<|aX (bG .i64 [1] ak zs3 Z Z Z) λp=>dG (aO 1 Z ak zb3 Z Z Z (rdr 0 Z)) λj k=>bC (v:=sl j (a+1) k) Z<|bH 2 Z<|bN (aV 2 Z Z Z XM Z Z Z Z (ah Z))<|aJ<|aT 1 Z<|wA Z Z<|aB Z<|⟨i+1,j,(a+1),k,acc++([1]),⟨G,G,(by rw[aa,e];rfl),(by rw[b,show(i+1).toNat=i.toNat+1 by omega,zb])⟩,G,SA,λ_ h=>h.sel [1,2] cC Z⟩
 refine aP<|aD Z<|aL [1,0] 99<|⟨_,Z,?_⟩;obtain rfl:i=258:=G
 subst b;obtain rfl:a=258:=by rw[e,df];rfl
 exact⟨_,_,_,Z,Z⟩
theorem BH (hn:n=C.length) (hs:0<=ie/\ie<C.length) (a:mD C):
  CT 171 #[PG g,I ie] B w0 ((rc 222 2 g [sl A n c,I (bL C)])::(ri 3 A n c C)::R) (λv R'=>v=bt/\R'=(rc 222 2 g [sl A n c,I (bL (nS C ie))])::(ri 3 A n c (nS C ie))::R):=by
 subst hn;have mt:=a.1;have u:=a.le.part (i:=ie) hs.1 G;have n7:=a.up (s:=ie) hs.1 G;have pm:=a.2.2;have e:=n7.1.1;have w:=vJ a.2.1;refine fn1 func171 Z Z Z<|aD Z<|aA<|aK 2 Z<|dD (aH bPx Z ((UY Z G)))<|aB Z<|aM Z<|aG<|cB [0] 5 Z<|wy (aC ak sz3 Z Z (rdr 1 Z))<|wy (aQ av Z Z (rdr 1 Z))<|wA Z Z<|wy (aC ak sz3 Z Z (rdr 1 Z))<|bN (bJ 1 Z sz3 Z Z)<|aJ<|cB [0] 4 Z<|wA Z Z<|bH 2 Z<|bN (aV 0 Z Z Z sz3 Z Z Z Z (ah Z))<|aJ<|aA<|lK [0] Z<|aR Z ?_ ?_<;>intro ap
 ·refine aK 3 Z<|bN (aV 0 Z Z Z sz3 Z Z Z Z (ah Z))<|aJ<|lK [0] Z<|aF<|gX (λ(i:Int) (V:AH) (t:Int)=>[(0,PG g),(38,sl A C.length c),(39,I (C.length:Int)),(40,I i)]) (λi V t=>((rc 222 2 g [sl A C.length c,I t])::(ri 3 A C.length c V)::R)) (λi V t=>(0<=i)/\(i<=258)/\(OZ (upd C ie (rd C ie+32)) V i t)) (λi V t=>(258-i).toNat) ?_ ?_
  ·exact⟨0,upd C ie ((rd C ie)+32),0,⟨G,G,(VL e)⟩,KP⟩
  intro i V t ⟨d,D,b⟩;have k:=n7.1.part (i:=i) d;have h:=n7.1.half.le.part (i:=i) d;have F:=b.len;have o:=b.sum;refine aD Z<|aA<|aR Z ?_ ?_<;>intro y
  ·have k:=k G;have h:=h G;have x:=b.left i G G;have r:=fZ (l:=V) (i:=i) (v:=(rd V i+1)/2) d G;have q:0<=t/\t<=65536:=by rw[o];exact h.1
   refine aG<|aA<|aF<|aK 1 Z<|wy (aC ak sz3 Z Z (rdr 1 Z))<|wy (aQ av Z Z (rdr 1 Z))<|aB Z<|cB [0] 6 Z<|wA Z Z<|wy (zP Z Z G G G)<|wy (aC ak sz3 Z Z (rdr 1 Z))<|bN (bJ 1 Z sz3 Z Z)<|aJ<|bE mixed<|fU [0,0] 0 9 Z<|wD 9 Z (aC ak sz3 Z Z (rdr 1 Z))<|wD 10 Z (aQ av Z Z (rdr 1 Z))<|wD 11 Z (dJ Z Z)<|bF 12 2 Z<|qN 14 Z cA (aV 0 Z Z Z sz3 Z Z Z Z (ah Z)) ?_;rintro _ _ rfl;refine⟨.inl cA,?_⟩;exact wN<|bK<|wA Z Z<|aB Z<|⟨i+1,upd V i (((rd V i)+1)/2),(t+rd (upd V i ((rd V i+1)/2)) i),⟨G,G,(b.step e d G)⟩,G,KP⟩
  refine aP<|aD Z<|aS<|⟨_,Z,?_⟩;obtain rfl:i=258:=G
  obtain⟨m,p⟩:=b.done_all e;have j:nS C ie=V:=by unfold nS;rw[cz G,m]
  rw[j,m,<-p];exact⟨Z,Z⟩
 refine aG<|aD Z<|aS<|⟨_,Z,?_⟩;have j:nS C ie=(upd C ie (rd C ie+32)):=by unfold nS;rw[bq G]
 rw[j,n7.2];exact⟨Z,Z⟩
theorem jT (hn:n=C.length) (d:XI C):
  CT 79 #[PG g] B w0 ((rc 191 1 g [sl A n c])::(ri 3 A n c C)::R) (λv R'=>v=I (bL C)/\R'=(rc 191 1 g [sl A n c])::(ri 3 A n c C)::R):=by
 subst hn;refine fn1 func79 Z Z Z<|aD Z<|aD Z<|aA<|aD Z<|aF<|dF (λ(i:Int) (t:Int)=>[(0,PG g),(3,I t),(4,I i)]) (λi t=>((rc 191 1 g [sl A C.length c])::(ri 3 A C.length c C)::R)) (λi t=>(0<=i)/\(i<=C.length)/\(t=bL (C.take i.toNat))) (λi t=>(C.length-i).toNat) ?_ ?_
 ·exact⟨0,0,⟨G,G,(Z)⟩,KP⟩
 intro i t ⟨e,h,a⟩;have mt:=d.1;have b:=d.part (i:=i) e;refine aA<|lK [0] Z<|aR Z ?_ ?_<;>intro ap
 ·have b:=b G;exact aG<|aA<|aF<|nQ [0] 6 Z<|wy (aC ak sz3 Z Z (rdr 1 Z))<|wy (aQ av Z Z (rdr 1 Z))<|wA Z Z<|aB Z<|aT 1 Z<|wA Z Z<|aB Z<|⟨i+1,t+(rd C i),⟨G,G,(by rw[kW e G,<-a])⟩,G,KP⟩
 refine aP<|aD Z<|aS<|⟨_,Z,?_⟩;rw[bg G] at a;subst a;exact⟨Z,Z⟩
theorem mE (hn:n=C.length) (hs:0<=ie/\ie<C.length) (d:mD C):
  CT 81 #[PG g,I ie] B w0 ((rc 191 1 g [sl A n c])::(ri 3 A n c C)::R) (λv R'=>v= .tuple #[I (bL (C.take ie.toNat)),I (rd C ie),bt]/\R'=(rc 191 1 g [sl A n c])::(ri 3 A n c C)::R):=by
 subst hn;refine fn3 func81 Z Z Z<|aD Z<|aA<|aK 1 Z<|wy (Yl.f (fD Z Z))<|iC [0] 7 Z<|aN Z Z<|wy (Yl.f (pG Z Z))<|aB Z<|aM Z<|aG<|aD Z<|aA<|aD Z<|aF<|dF (λ(i:Int) (low:Int)=>[(0,PG g),(1,I ie),(7,I low),(8,I i)]) (λi low=>((rc 191 1 g [sl A C.length c])::(ri 3 A C.length c C)::R)) (λi low=>(0<=i)/\(i<=ie)/\(low=bL (C.take i.toNat))) (λi low=>(ie-i).toNat) ?_ ?_
 ·exact⟨0,0,⟨G,G,(Z)⟩,KP⟩
 intro i low ⟨b,h,a⟩;have mt:=d.1;have e:=d.le.part (i:=i) b G;refine aA<|aD Z<|aR Z ?_ ?_<;>intro ap
 ·exact aG<|aA<|aF<|nQ [0] 6 Z<|wy (aC ak sz3 Z Z (rdr 1 Z))<|wy (aQ av Z Z (rdr 1 Z))<|wA Z Z<|aB Z<|aT 1 Z<|wA Z Z<|aB Z<|⟨i+1,low+(rd C i),⟨G,G,(by rw[kW b G,<-a])⟩,G,KP⟩
 refine aP<|aA<|bE mixed<|fU [0] 0 6 Z<|wD 6 Z (aC ak sz3 Z Z (rdr 1 Z))<|wD 7 Z (aQ av Z Z (rdr 1 Z))<|bF 8 3 Z<|wN<|aS<|⟨_,_,_,Z,Z,Z,?_⟩;obtain rfl:i=ie:=G
 rw[<-a];exact⟨Z,Z⟩
theorem nI (hn:n=C.length) (hs:0<=ie/\ie<C.length) (a:mD C):
  CT 83 #[PG g,I ie] B w0 ((rc 191 1 g [sl A n c])::(ri 3 A n c C)::R) (λv R'=>v=bt/\R'=(rc 191 1 g [sl A n c])::(ri 3 A n c (nS C ie))::R):=by
 subst hn;have mt:=a.1;have r:=a.le.part (i:=ie) hs.1 G;have n7:=a.up (s:=ie) hs.1 G;have pm:=a.2.2;have d:=n7.1.1;have u:=vJ a.2.1;refine fn1 func83 Z Z Z<|aD Z<|aA<|aK 1 Z<|wy (Yl.f (fD Z Z))<|iC [0] 7 Z<|aN Z Z<|wy (Yl.f (pG Z Z))<|aB Z<|aM Z<|aG<|aA<|bE mixed<|fU [0,0] 0 10 Z<|wD 10 Z (aC ak sz3 Z Z (rdr 1 Z))<|wD 11 Z (aQ av Z Z (rdr 1 Z))<|wD 12 Z (dJ Z Z)<|wD 13 Z (aC ak sz3 Z Z (rdr 1 Z))<|qN 14 Z cA (bJ 1 Z sz3 Z Z) ?_;rintro _ _ rfl;refine⟨.inl cA,?_⟩;refine wN<|aA<|aK 1 Z<|dD (aH aXc Z ((jT (by rw[d,mt]) n7.1))) ?_;refine aB Z<|aR Z ?_ ?_<;>intro ap
 ·refine aD Z<|aF<|gX (λ(i:Int) (V:AH) (t:Int)=>[(0,PG g),(5,I i)]) (λi V t=>((rc 191 1 g [sl A C.length c])::(ri 3 A C.length c V)::R)) (λi V t=>(0<=i)/\(i<=258)/\(OZ (upd C ie (rd C ie+32)) V i t)) (λi V t=>(258-i).toNat) ?_ ?_
  ·exact⟨0,upd C ie ((rd C ie)+32),0,⟨G,G,(VL d)⟩,KP⟩
  intro i V t ⟨e,D,b⟩;have k:=n7.1.part (i:=i) e;have h:=n7.1.half.le.part (i:=i) e;have F:=b.len;have o:=b.sum;refine aA<|lK [0] Z<|aR Z ?_ ?_<;>intro x
  ·have k:=k G;have h:=h G;have w:=b.left i G G;have q:=fZ (l:=V) (i:=i) (v:=(rd V i+1)/2) e G;have p:0<=t/\t<=65536:=by rw[o];exact h.1
   refine aG<|aA<|aF<|bE mixed<|fU [0,0] 0 10 Z<|wD 10 Z (aC ak sz3 Z Z (rdr 1 Z))<|wD 11 Z (aQ av Z Z (rdr 1 Z))<|wD 12 Z (dJ Z Z)<|wD 13 Z (zP Z Z G G G)<|wD 14 Z (aC ak sz3 Z Z (rdr 1 Z))<|qN 15 Z cA (bJ 1 Z sz3 Z Z) ?_;rintro _ _ rfl;refine⟨.inl cA,?_⟩;exact wN<|aT 1 Z<|wA Z Z<|aB Z<|⟨i+1,upd V i (((rd V i)+1)/2),(t+rd (upd V i ((rd V i+1)/2)) i),⟨G,G,(b.step d e G)⟩,G,KP⟩
  refine aP<|aD Z<|aS<|⟨_,Z,?_⟩;obtain rfl:i=258:=G
  obtain⟨m,y⟩:=b.done_all d;have j:nS C ie=V:=by unfold nS;rw[cz G,m]
  rw[j,m];exact⟨Z,Z⟩
 refine aG<|aD Z<|aS<|⟨_,Z,?_⟩;have j:nS C ie=(upd C ie (rd C ie+32)):=by unfold nS;rw[bq G]
 rw[j];exact⟨Z,Z⟩
end
theorem zW {w:World} {ao:AF} {ar an:Nat} {u:AH} {i:Int} (am:R4 w ao ar an u) (hi:0<=i/\i<=u.length) (j:u.length<=1000000):
  CF 124 #[sl ao ar an,I i] w (λv R'=> ∃A c,v=sl A (u.drop i.toNat++u.take i.toNat).length c/\R'=[(ru 5 A ((u.drop i.toNat++u.take i.toNat).length) c (u.drop i.toNat++u.take i.toNat))]):=by
 obtain rfl:=am.lenI;refine fn1 Tryz.func124 Z Z Z<|aD Z<|aA<|bE mixed<|bF 1 2 Z<|wD 3 Z (dE ai sz5 Z Z)<|bF 5 2 Z<|wD 7 Z (dV ai sz5 Z Z (am.c _))<|wC 0 Z (bG .u8 [] ai zs5 Z Z Z) ?_;rintro _ _⟨h,rfl,rfl⟩;refine⟨.inr hrZ,?_⟩;refine wC 4 Z (aO 0 Z ai zb5 Z Z Z (RdC.fromI (am.c _) G)) ?_;rintro _ _⟨a,b,rfl,rfl⟩;refine⟨.inl cA,?_⟩;refine iA (v:=sl a (0+(u.length-(i).toNat)) b) Z<|wC 8 Z (aO 0 Z ai zb5 Z Z Z (RdC.toI (am.c _) G)) ?_;rintro _ _⟨d,g,rfl,rfl⟩;refine⟨.inl cA,?_⟩;refine iA (v:=sl d ((0+(u.length-(i).toNat))+((i).toNat)) g) Z<|wD 9 Z (bY Z)<|wN<|aL [0] 99<|⟨_,Z,?_⟩;have e:(0+(u.length-i.toNat)+i.toNat)=(u.drop i.toNat++u.take i.toNat).length:=by rw[aa,az,ax];omega
 simp only[ig,e];exact⟨_,_,Z,Z⟩
section
variable {u:AH} {w:World} {ws:AD}
theorem LA.init0:LA u (jW u u.length) 0 1 0:=LA.init _
theorem bTz {ao:AF} {ar an:Nat} (am:R4 w ao ar an u) (H:u.length<=1000000):
  CF 147 #[sl ao ar an] w (λv R'=>v=I (oN u)):=by
 obtain rfl:=am.lenI;refine fn1 func147 Z Z Z<|aD Z<|aD Z<|aD Z<|aA<|aF<|gX (λ(i:Int) (j:Int) (k:Int)=>[(0,sl ao u.length an),(3,I (u.length:Int)),(4,I i),(5,I j),(6,I k)]) (λi j k=>[]) (λi j k=>(LA u (jW u u.length) i j k)/\(i<=2*u.length+2)/\(j<=2*u.length+3)/\(k<=u.length)/\(u.length=0->i=0/\j=1)) (λi j k=>(3*u.length+3-(i+j+k)).toNat) ?_ ?_
 ·exact⟨0,1,0,⟨(LA.init0),G,G,G,G⟩,KP⟩
 intro i j k ⟨a,L,o,p,x⟩;have B:=a.i0;have K:=a.j0;have F:=a.k0;refine aA<|aK 4 Z<|bD 4 [0,3,4,5,6] 18 (.bool (decide ((i<(u.length:Int))/\(j<(u.length:Int))))) Z ?_ ?_
 ·refine bB 14 Z ?_ ?_<;>intro ap
  ·exact aB Z<|KP
  exact aB Z<|KP
 refine wm Z<|bD 4 [0,3,4,5,6] 23 (.bool (decide (((i<(u.length:Int))/\(j<(u.length:Int)))/\(k<(u.length:Int))))) Z ?_ ?_
 ·refine bB 19 Z ?_ ?_<;>intro C
  ·exact aB Z<|KP
  exact aB Z<|KP
 refine aJ<|aR Z ?_ ?_<;>intro D
 ·have J:=jk (i+k) (show(u.length:Int)≠0 by omega);have y:=ja (i+k) (show(0:Int)<u.length by omega);have q:=jk (j+k) (show(u.length:Int)≠0 by omega);have r:=ja (j+k) (show(0:Int)<u.length by omega);have h:=yX (s:=u) G;have d:=bAx (s:=u) a.i0 a.k0;have g:=bAx (s:=u) a.j0 a.k0;refine aG<|aF<|aA<|bE mixed<|bF 0 3 Z<|wD 3 Z (dJ Z Z)<|wD 4 Z (dI Z)<|wD 5 Z (uF Z Z)<|wD 6 Z (aC ai sz5 Z Z (am.c _))<|wD 7 Z (aQ ay Z Z (am.c _))<|bF 8 3 Z<|wD 11 Z (dJ Z Z)<|wD 12 Z (dI Z)<|wD 13 Z (uF Z Z)<|wD 14 Z (aC ai sz5 Z Z (am.c _))<|wD 15 Z (aQ ay Z Z (am.c _))<|bF 16 2 Z<|wN<|aA<|aF<|aD Z<|aR Z ?_ ?_<;>intro l
  ·have b:=a.eq (by rw[<-d,<-g];exact l);exact aK 1 Z<|wA Z Z<|aB Z<|aP<|⟨i,j,k+1,⟨(b),G,G,G,G⟩,G,KP⟩
  refine aD Z<|aR Z ?_ ?_<;>intro m
  ·have b:=a.gt h (by rw[<-d,<-g];exact m);refine aT 2 Z<|wA Z Z<|wA Z Z<|aB Z<|aD Z<|aD Z<|aR Z ?_ ?_<;>intro pi
   ·exact aT 1 Z<|wA Z Z<|aB Z<|⟨i+(k+1),j+1,0,⟨(b.2 G),G,G,G,G⟩,G,KP⟩
   exact aG<|⟨i+(k+1),j,0,⟨(b.1 G),G,G,G,G⟩,G,KP⟩
  have b:=a.lt h (by rw[<-d,<-g];omega);refine aT 2 Z<|wA Z Z<|wA Z Z<|aB Z<|aD Z<|aD Z<|aR Z ?_ ?_<;>intro A
  ·exact aT 1 Z<|wA Z Z<|aB Z<|⟨i,(j+(k+1))+1,0,⟨(b.2 G),G,G,G,G⟩,G,KP⟩
  exact aG<|⟨i,j+(k+1),0,⟨(b.1 G),G,G,G,G⟩,G,KP⟩
 refine aP<|aK 2 Z<|wy (pQ Z Z)<|aB Z<|aS<|⟨_,Z,?_⟩;rcases fe u.length with z|z
 ·obtain ⟨rfl,rfl⟩:=x z;have e:oN u=0:=by unfold oN;rw[z];rfl
  rw[e];rfl
 exact bi (Value.int .i64) (a.done (yX z) G)
theorem bEz {m:Int} (d:0<=m) (e:m<=1000000):
  CF 50 #[sl none 0 0,I m] w (λv R'=> ∃A c,v=sl A 0 c/\R'=[(ru 5 A 0 c ([]))]):=by
 refine fn1 func50 Z Z Z<|wq<|dX (ru 5 none 0 0 ([]))<|aB Z<|aA<|aK 1 Z<|wy (Yl.f (fD Z Z))<|aJ<|aM Z<|aG<|aA<|aK 2 Z<|wy (bOp ai Z)<|bH 2 Z<|wS Z Z<|wS Z Z<|aB Z<|aD Z<|aR Z ?_ ?_<;>intro ap
 ·refine aT 2 Z<|wy (bOp ai Z)<|wy (aEy ai sz5 Z Z)<|wy (Yl.is (dI Z) (by rw[show m-(((0:Nat):Int)-((0:Nat):Int))=(m.toNat:Int) by omega])) ?_;exact dG (bOb ai av zb5 Z Z Z G G G) λa b=>gZ (R1:=[(ru 5 (GG a) 0 b ([])),(ru 5 none 0 0 ([]))]) (Sub.refl _) (λ_ h=>h.cut (k:=0) (oq _) cD)<|bH 2 Z<|wy (aEy ai sz5 Z Z)<|aB Z<|aD Z<|aL [0] 99<|⟨_,Z,_,_,Z,Z⟩
 exact aG<|aD Z<|aL [0] 99<|⟨_,Z,_,_,Z,Z⟩
theorem EN (i:Nat):((ws.take i).flatten).length<=ws.flatten.length:=by
 conv=>rhs;rw[<-ed i ws]
 rw[lq,aa];omega
theorem jJ {bl:AF} {cg bm:Nat} {aq:AG} (d:Rd w bl cg bm 1 aq) (j:SlW .u8 w aq ws) (J:ws.flatten.length<=1000000/\ws.length<=1000000):
  CF 24 #[sl bl cg bm] w (λv R'=> ∃A c,v=sl A (ws.flatten).length c/\R'=[(ru 5 A ((ws.flatten).length) c (ws.flatten))]):=by
 obtain rfl:cg=ws.length:=by have:=d.len;have:=j.1;omega
 refine fn1 func24 Z Z Z<|aD Z<|aD Z<|aA<|aD Z<|aF<|dF (λ(i:Int) (z:Int)=>[(0,sl bl ws.length bm),(3,I z),(9,sl bl ws.length bm),(10,I (ws.length:Int)),(11,I i)]) (λi z=>[]) (λi z=>(0<=i)/\(i<=ws.length)/\(z=((ws.take i.toNat).flatten.length:Int))) (λi z=>(ws.length-i).toNat) ?_ ?_
 ·exact⟨0,0,⟨G,G,(Z)⟩,KP⟩
 intro i z ⟨l,H,x⟩;have O:=EN (ws:=ws) i.toNat;refine aD Z<|aA<|aR Z ?_ ?_<;>intro ap
 ·have h:=EN (ws:=ws) (i+1).toNat;rw[gJ l G,aa] at h;refine aG<|aA<|aF<|wq<|wy (aC dm iZ Z Z (d.c _))<|j.elim (i:=i) G G (λF D B Q L R=> ?_);exact wy (kS ai Z Z Z (d.c _) B)<|aB Z<|aK 3 Z<|wA Z Z<|aB Z<|aK 1 Z<|wy (Yl.f (fD Z Z))<|aJ<|aM Z<|aG<|bK<|wA Z Z<|aB Z<|⟨i+1,z+(((rdl ws i).length:Nat):Int),⟨G,G,(by rw[gJ l G,aa,x];omega)⟩,G,KP⟩
 refine aP<|aK 1 Z<|bZ cAu Z (λw K=>bEz G G) λjp y=>aB Z<|aA<|aD Z<|aF<|eT (λ(q:Int) (A1:AF) (a:Nat) (c1:Nat) (acc:AH)=>[(6,sl A1 a c1),(25,sl bl ws.length bm),(26,I (ws.length:Int)),(27,I q)]) (λq A1 a c1 acc=>[(ru 5 A1 a c1 acc)]) (λq A1 a c1 acc=>(0<=q)/\(q<=ws.length)/\(a=acc.length)/\(acc=(ws.take q.toNat).flatten)) (λq A1 a c1 acc=>(ws.length-q).toNat) ?_ ?_
 ·exact⟨0,jp,0,y,[],⟨G,G,(Z),(Z)⟩,KP⟩
 intro q A1 a c1 acc ⟨r,M,m,e⟩;have N:acc.length<=ws.flatten.length:=by rw[e];exact EN _
 refine aD Z<|aA<|aR Z ?_ ?_<;>intro C
 ·have h:=EN (ws:=ws) (q+1).toNat;rw[gJ r G,aa] at h;refine aG<|aA<|aF<|wq<|wy (aC dm iZ Z Z (d.c _))<|j.elim (i:=q) G G (λS P b u k g=> ?_);exact wy (kS ai Z Z Z (d.c _) b)<|aB Z<|aT 2 Z<|dG (aO 0 Z ai zb5 Z Z Z (u.c _)) λo p=>bC (v:=sl o (a+((rdl ws q).length)) p) Z<|aB Z<|bK<|wA Z Z<|aB Z<|⟨q+1,o,a+((rdl ws q).length),p,acc++(rdl ws q),⟨G,G,(by rw[aa,m]),(by rw[gJ r G,e])⟩,G,KP⟩
 refine aP<|aD Z<|aL [0] 99<|⟨_,Z,?_⟩;rw[bg G] at e;subst e;obtain rfl:=m;exact⟨_,_,Z,Z⟩
end
section
variable {w:World} {x:Int} {ao tk:AF} {ar an wk tz:Nat} {u t:AH}
theorem aAs:
  CF 151 #[I x] w (λv R'=>v=bf):=by
 refine fn1 Jq Z Z Z<|aD Z<|aK 2 Z<|wy (Yl.f (gD Z Z))<|aB Z<|aS<|⟨_,Z,?_⟩;rfl
theorem sF {y:Int}:
  CF 96 #[I x,I y] w (λv R'=>v=I (jO x y)):=by
 refine fn1 func96 Z Z Z<|aD Z<|aK 1 Z<|dZ bQd Z (λw a=>aAs)<|aB Z<|aK 1 Z<|dZ bQd Z (λw a=>aAs)<|aB Z<|aA<|aD Z<|aM Z<|aG<|aA<|aD Z<|aM Z<|aG<|aA<|aD Z<|aR Z ?_ ?_<;>intro ap
 ·refine aD Z<|aS<|⟨_,Z,?_⟩;exact bi (Value.int .i64) (by unfold jO;rw[cz G])
 refine aG<|aA<|aD Z<|aR Z ?_ ?_<;>intro b
 ·refine aD Z<|aS<|⟨_,Z,?_⟩;exact bi (Value.int .i64) (by unfold jO;rw[bq G,cz G])
 refine aG<|aD Z<|aS<|⟨_,Z,?_⟩;exact bi (Value.int .i64) (by unfold jO;rw[bq G,bq G])
theorem DC (am:R4 w ao ar an u) (b:R4 w tk wk tz t):
  CF 126 #[sl ao ar an,sl tk wk tz] w (λv R'=>v=I (cmpL u t)):=by
 obtain rfl:=am.lenI;obtain rfl:=b.lenI;refine fn1 func126 Z Z Z ?_;have l:=am.max;have e:=b.max;refine aD Z<|aA<|aD Z<|aF<|iK (λ(i:Int)=>[(0,sl ao u.length an),(1,sl tk t.length tz),(5,I i)]) (λi=>[]) (λi=>(0<=i)/\(i<=u.length)/\(i<=t.length)/\(cmpL u t=cmpL (u.drop i.toNat) (t.drop i.toNat))) (λi=>(u.length-i).toNat) ?_ ?_
 ·exact⟨0,⟨G,G,G,cD⟩,KP⟩
 intro i ⟨a,d,hit,hc⟩;refine aA<|aK 5 Z<|bD 5 [0,1,5] 15 (.bool (decide ((i<(u.length:Int))/\(i<(t.length:Int))))) Z ?_ ?_
 ·refine bB 10 Z ?_ ?_<;>intro ap
  ·exact aB Z<|KP
  exact aB Z<|KP
 refine aJ<|aR Z ?_ ?_<;>intro g
 ·refine aG<|aA<|aF<|aA<|bE mixed<|bF 0 2 Z<|wD 2 Z (aC ai sz5 Z Z (am.c _))<|wD 3 Z (aQ ay Z Z (am.c _))<|bF 4 2 Z<|wD 6 Z (aC ai sz5 Z Z (b.c _))<|wD 7 Z (aQ ay Z Z (b.c _))<|wD 8 Z (gD Z Z)<|wN<|aR Z ?_ ?_<;>intro h
  ·refine aA<|aA<|bE mixed<|bF 0 2 Z<|wD 2 Z (aC ai sz5 Z Z (am.c _))<|wD 3 Z (aQ ay Z Z (am.c _))<|bF 4 2 Z<|wD 6 Z (aC ai sz5 Z Z (b.c _))<|wD 7 Z (aQ ay Z Z (b.c _))<|wD 8 Z (fD Z Z)<|wN<|aR Z ?_ ?_<;>intro j
   ·refine aD Z<|aS<|⟨_,Z,?_⟩;exact bi (Value.int .i64) (by rw[hc,uC a G G,cz G])
   refine aG<|aD Z<|aS<|⟨_,Z,?_⟩;exact bi (Value.int .i64) (by rw[hc,uC a G G,bq G,cz G])
  exact aG<|aT 1 Z<|wA Z Z<|aB Z<|⟨i+1,⟨G,G,G,(by rw[hc,uC a G G,bq G,bq G])⟩,G,KP⟩
 refine aP<|aA<|aF<|aD Z<|aR Z ?_ ?_<;>intro k
 ·refine aD Z<|aS<|⟨_,Z,?_⟩;exact bi (Value.int .i64) (by rw[hc,xW a d hit G,cz G])
 refine aD Z<|aR Z ?_ ?_<;>intro pi
 ·refine aD Z<|aS<|⟨_,Z,?_⟩;exact bi (Value.int .i64) (by rw[hc,xW a d hit G,bq G,cz G])
 refine aG<|aD Z<|aS<|⟨_,Z,?_⟩;exact bi (Value.int .i64) (by rw[hc,xW a d hit G,bq G,bq G])
theorem aDy (am:R4 w ao ar an u) (a:R4 w tk wk tz t) (l:u.length<=1000000) (ci:t.length<=1000000):
  CF 177 #[sl ao ar an,sl tk wk tz] w (λv R'=>v=I (WN u t)):=by
 obtain rfl:=am.lenI;obtain rfl:=a.lenI;refine fn1 func177 Z Z Z<|aD Z<|aA<|aK 4 Z<|bD 4 [0,1] 15 (.bool (decide (((u.length:Int)=0)\/((t.length:Int)=0)))) Z ?_ ?_
 ·refine bB 11 Z ?_ ?_<;>intro ap
  ·exact aB Z<|KP
  exact aB Z<|KP
 refine aJ<|aR Z ?_ ?_<;>intro d
 ·refine aA<|bE mixed<|bF 0 3 Z<|wD 3 Z (pQ Z Z)<|wD 4 Z (dV ai sz5 Z Z (am.c _) (by first|omega|exact jk _ G|exact ja _ G) (by first|omega|exact jk _ G|exact ja _ G)) ?_;refine bF 5 3 Z<|wD 8 Z (pQ Z Z)<|wD 9 Z (dV ai sz5 Z Z (a.c _) (by first|omega|exact jk _ G|exact ja _ G) (by first|omega|exact jk _ G|exact ja _ G)) ?_;refine wC 10 Z (aH aSr Z (Ct.quiet (λw b=>DC ((RdC.toI (am.c _) G) w b) ((RdC.toI (a.c _) G) w b)))) ?_;rintro _ _⟨rfl,rfl⟩;refine⟨.inr hiZ,?_⟩;refine wD 11 Z (bY Z)<|wN<|aS<|⟨_,Z,?_⟩;exact bi (Value.int .i64) (by rw[aOq u t G];unfold WN;rw[cz G])
 refine aG<|aA<|aD Z<|aF<|iK (λ(k:Int)=>[(0,sl ao u.length an),(1,sl tk t.length tz),(5,I k)]) (λk=>[]) (λk=>(0<=k)/\(k<=u.length+t.length)/\(WN u t=WM u t ((u.length:Int)+t.length-k).toNat k)) (λk=>((u.length:Int)+t.length-k).toNat) ?_ ?_
 ·exact⟨0,⟨G,G,(by unfold WN;rw[bq G];congr 1<;>omega)⟩,KP⟩
 intro k ⟨i,j,hO⟩;refine aA<|aK 5 Z<|wy (dJ Z Z (by first|omega|exact jk _ G|exact ja _ G)) ?_;refine aB Z<|aR Z ?_ ?_<;>intro e
 ·refine aG<|aA<|aF<|aA<|bE mixed<|bF 0 4 Z<|wD 4 Z (uF Z Z (by first|omega|exact jk _ G|exact ja _ G) (by first|omega|exact jk _ G|exact ja _ G)) ?_;refine wD 5 Z (aC ai sz5 Z Z (am.c _) (by first|omega|exact jk _ G|exact ja _ G) (by first|omega|exact jk _ G|exact ja _ G)) ?_;refine wD 6 Z (aQ ay Z Z (am.c _) (by first|omega|exact jk _ G|exact ja _ G) (by first|omega|exact jk _ G|exact ja _ G)) ?_;refine bF 7 4 Z<|wD 11 Z (uF Z Z (by first|omega|exact jk _ G|exact ja _ G) (by first|omega|exact jk _ G|exact ja _ G)) ?_;refine wD 12 Z (aC ai sz5 Z Z (a.c _) (by first|omega|exact jk _ G|exact ja _ G) (by first|omega|exact jk _ G|exact ja _ G)) ?_;refine wD 13 Z (aQ ay Z Z (a.c _) (by first|omega|exact jk _ G|exact ja _ G) (by first|omega|exact jk _ G|exact ja _ G)) ?_;refine bF 14 2 Z<|wN<|aA<|aD Z<|aR Z ?_ ?_<;>intro g
  ·refine aD Z<|aS<|⟨_,Z,?_⟩;exact bi (Value.int .i64) (by rw[hO,WL G (by unfold jO;rw[cz G];decide)];unfold jO;rw[cz G])
  refine aG<|aD Z<|aR Z ?_ ?_<;>intro h
  ·refine aD Z<|aS<|⟨_,Z,?_⟩;exact bi (Value.int .i64) (by rw[hO,WL G (by unfold jO;rw[bq G,cz G];decide)];unfold jO;rw[bq G,cz G])
  refine aG<|aT 1 Z<|wy (dJ Z Z (by first|omega|exact jk _ G|exact ja _ G)) ?_;refine aB Z ?_;exact⟨k+1,⟨G,G,(by rw[hO,bNi G (by unfold jO;rw[bq G,bq G])];congr 1<;>omega)⟩,G,KP⟩
 refine aP<|aD Z<|aS<|⟨_,Z,?_⟩;exact bi (Value.int .i64) (by rw[hO,show((u.length:Int)+t.length-k).toNat=0 by omega];rfl)
end
section
variable {u:AH} {i k:Int} {w:World} {ao:AF} {ar an:Nat}
theorem VG (s:AH): ∀n:Nat,0<n->jW s n<n
 | 1,_=>by
  have e:jW s 1=0:=by
   rw[jW,jW];split<;>rfl
  omega
 |n+2,_=>by
  have a:=VG s (n+1) G;rw[jW];split<;>omega
theorem aVu (a:1<=i) (hk:k=jW u i.toNat) (h:cmpL (lN u i) (lN u k)<0):i=jW u (i+1).toNat:=by
 rw[show(i+1).toNat=i.toNat+1 by omega,jW,cz (by rw[<-hk,ky G];exact h)];omega
theorem bDv (a:1<=i) (hk:k=jW u i.toNat) (h: ¬cmpL (lN u i) (lN u k)<0):k=jW u (i+1).toNat:=by
 rw[show(i+1).toNat=i.toNat+1 by omega,jW,bq (by rw[<-hk,ky G];exact h),hk]
theorem bSo (am:R4 w ao ar an u) (e:aI u) (o:u.length<=1000000):
  CF 91 #[sl ao ar an] w (λv R'=> ∃A c,v=sl A (lw u).length c/\R'=[(ru 5 A ((lw u).length) c (lw u))]):=by
 obtain rfl:=am.lenI;refine fn1 func91 Z Z Z ?_;have i:=aDh u;have a:([u.drop (oN u).toNat,u.take (oN u).toNat]:AD).flatten=lw u:=by simp[lw,lN]
 have h:=lD u;refine aD Z<|aK 1 Z<|dZ bYj Z (λw b=>bTz ((am.c _) w b) cE)<|aB Z<|aA<|bE mixed<|bF 0 2 Z<|wD 2 Z (dE ai sz5 Z Z)<|bF 3 2 Z<|wD 5 Z (dV ai sz5 Z Z (am.c _)) ?_;have g:SlW .u8 w [sl (lL ao (oN u).toNat an 1) (u.length-(oN u).toNat) (an-(oN u).toNat),sl ao ((oN u).toNat) an] [u.drop (oN u).toNat,u.take (oN u).toNat]:=((gI _ _).snoc (am.fromI (l:=(oN u).toNat) G) (λx d=>eQ (e x (lu d))) (by rw[az];omega)).snoc (am.toI G) (λx d=>eQ (e x (ku d))) (by rw[ax];omega);refine wC 6 Z (jD [Value.slice (lL ao (oN u).toNat an 1) (u.length-(oN u).toNat) (an-(oN u).toNat),Value.slice ao ((oN u).toNat) an] dm pF Z Z Z Z) ?_;rintro _ _⟨j,rfl,rfl⟩;refine⟨.inr hrZ,?_⟩;refine wC 7 Z (aH FH Z (Ct.fresh (λw b=>jJ ((rdr 0 Z) w b) (g.c b) (by rw[a];exact⟨G,cD⟩)))) ?_;rintro _ _⟨_,rfl,k,m,rfl,rfl⟩;refine⟨.inr hrZ,?_⟩;refine wD 8 Z (bY Z)<|wN<|aL [0] 99<|⟨_,Z,?_⟩;rw[a];exact⟨_,_,Z,Z⟩
theorem uD (am:R4 w ao ar an u) (e:u.length<=1000000):
  CF 35 #[sl ao ar an] w (λv R'=> ∃A c,v=sl A (u).length c/\R'=[(ru 5 A ((u).length) c (u))]):=by
 obtain rfl:=am.lenI;refine fn1 func35 Z Z Z<|wq<|dX (ru 5 none 0 0 ([]))<|aB Z<|aA<|aK 1 Z<|wy (aPu ai Z Z)<|aJ<|RN Z ?_ ?_<;>intro ap
 ·refine aD Z<|aL [0] 99<|⟨_,Z,?_⟩;obtain rfl:=aVf am ap;exact⟨_,_,Z,Z⟩
 refine aG<|wq<|aX (bG .u8 [] ai zs5 Z Z Z) λd=>wm Z<|dG (aO 0 Z ai zb5 Z Z Z (am.c _)) λa b=>bC (v:=sl a (0+u.length) b) Z<|aB Z<|aL [0] 99<|⟨_,Z,?_⟩;simp only[ig,oh];exact⟨_,_,Z,Z⟩
theorem KS {tk:AF} {wk tz:Nat} {t:AH} (am:R4 w ao ar an u) (a:R4 w tk wk tz t) (d:aI u) (b:aI t):
  CF 95 #[sl ao ar an,sl tk wk tz] w (λv R'=>v=I (cmpL u t)):=by
 obtain rfl:=am.lenI;obtain rfl:=a.lenI;refine fn1 func95 Z Z Z<|aD Z<|aK 2 Z<|dD (bZm func150 cA cA cA cA Z Z (am.c _) (a.c _) d b)<|aB Z<|aS<|⟨_,Z,?_⟩;rfl
theorem aTt (am:R4 w ao ar an u) (hi:0<=i/\i<u.length) (hk:0<=k/\k<u.length) (e:u.length<=1000000):
  CF 180 #[sl ao ar an,I i,I k] w (λv R'=>v=I (cmpL (lN u i) (lN u k))):=by
 obtain rfl:=am.lenI;refine fn1 func180 Z Z Z<|aD Z<|aA<|aK 1 Z<|wy (Yl.f (fD Z Z))<|bH 4 Z<|aN Z Z<|wy (Yl.f (pG Z Z))<|bH 3 Z<|aN Z Z<|wy (Yl.f (fD Z Z))<|bH 5 Z<|aN Z Z<|wy (Yl.f (pG Z Z))<|aB Z<|aM Z<|aG<|aK 2 Z<|bZ aJd Z (λw a=>zW ((am.c _) w a) ⟨hi.1,G⟩ cE) λd b=>bH 2 Z<|bZ aJd Z (λw a=>zW ((am.c _) w a) ⟨hk.1,G⟩ cE) λg h=>dZ aSr Z (λw a=>DC ((rdr 1 Z) w a) ((rdr 0 Z) w a))<|aB Z<|aL [] 99<|⟨_,Z,?_⟩;rfl
theorem bNx (am:R4 w ao ar an u) (j:u.length<=1000000):
  CF 125 #[sl ao ar an] w (λv R'=>v=I (oN u)):=by
 obtain rfl:=am.lenI;refine fn1 func125 Z Z Z<|aD Z<|aD Z<|aA<|aD Z<|aF<|dF (λ(i:Int) (k:Int)=>[(0,sl ao u.length an),(3,I k),(4,I i)]) (λi k=>[]) (λi k=>(1<=i)/\(i<=u.length\/i=1)/\(k=jW u i.toNat)) (λi k=>(u.length-i).toNat) ?_ ?_
 ·exact⟨1,0,⟨G,G,(by have:=VG u 1 cC;show(0:Int)=((jW u 1:Nat):Int);omega)⟩,KP⟩
 intro i k ⟨a,g,hk⟩;have d:=VG u i.toNat G;refine aA<|aD Z<|aR Z ?_ ?_<;>intro ap
 ·refine aG<|aA<|aF<|aK 3 Z<|dZ bXt Z (λw b=>aTt ((am.c _) w b) cE cE cE)<|aB Z<|aR Z ?_ ?_<;>intro h
  ·exact sQ Z<|aT 1 Z<|wA Z Z<|aB Z<|⟨i+1,i,⟨G,G,(aVu a hk cF)⟩,G,KP⟩
  exact aG<|aT 1 Z<|wA Z Z<|aB Z<|⟨i+1,k,⟨G,G,(bDv a hk cF)⟩,G,KP⟩
 refine aP<|aD Z<|aS<|⟨_,Z,?_⟩;rcases fe u.length with z|z
 ·obtain rfl:k=0:=G
  have e:oN u=0:=by unfold oN;rw[z];rfl
  rw[e]
 obtain rfl:i=u.length:=G
 rw[hk,bu];rfl
theorem bSp (am:R4 w ao ar an u) (g:u.length<=1000000):
  CF 64 #[sl ao ar an] w (λv R'=> ∃A c,v=sl A (lw u).length c/\R'=[(ru 5 A ((lw u).length) c (lw u))]):=by
 obtain rfl:=am.lenI;refine fn1 func64 Z Z Z ?_;have b:=aDh u;exact aD Z<|aK 2 Z<|dZ bYs Z (λw a=>bNx ((am.c _) w a) cE)<|bZ aJd Z (λw a=>zW ((am.c _) w a) ⟨b.1,b.2.1⟩ cE) λe d=>aB Z<|aL [0] 99<|⟨_,Z,_,_,Z,Z⟩
theorem aBs {L:AH} {z:Int} (g:1<=i) (hi:i<u.length) (hl:L.length=u.length) (d: ∀j:Int,0<=j->j<i->j<u.length->MB u (j+1).toNat (rd L j)) (h:MB u (i.toNat+1) z): ∀j:Int,0<=j->j<i+1->j<u.length->MB u (j+1).toNat (rd (upd L i z) j):=λj a h1 b=>by
 by_cases e:j=i
 ·subst e;rw[fZ G G,show(j+1).toNat=j.toNat+1 by omega];exact h
 rw [iD G a (λq=>e q.symm)];exact d j a G b
theorem aPc (am:R4 w ao ar an u) (F:u.length<=1000000):
  CF 197 #[sl ao ar an] w (λv R'=> ∃(A:AF) (c:Nat) (L:AH),v=sl A L.length c/\L.length=u.length/\(∀j:Int,0<=j->j<u.length->j<u.length->MB u (j+1).toNat (rd L j))/\R'=[(ri 3 A L.length c L)]):=by
 obtain rfl:=am.lenI;refine fn1 func197 Z Z Z<|aD Z<|aK 2 Z<|aX (dU ak zb3 Z Z) λa=>gW (R1:=[(ri 3 (GG a) u.length u.length (List.replicate u.length (0:Int)))]) Z<|bC (v:=sl (GG a) u.length u.length) Z<|aB Z<|aD Z<|aA<|aD Z<|aF<|gX (λ(i:Int) (z:Int) (L:AH)=>[(0,sl ao u.length an),(3,sl (GG a) u.length u.length),(4,I z),(5,I i)]) (λi z L=>[(ri 3 (GG a) u.length u.length L)]) (λi z L=>(1<=i)/\(i<=u.length\/i=1)/\(L.length=u.length)/\(∀j:Int,0<=j->j<i->j<u.length->MB u (j+1).toNat (rd L j))/\(MB u i.toNat z)) (λi z L=>(u.length-i).toNat) ?_ ?_
 ·exact⟨1,0,List.replicate u.length (0:Int),⟨G,G,(by rw[df]),(λj q h1 D=>by obtain rfl:j=0:=G;have e:rd (List.replicate u.length (0:Int)) 0=0:=(by unfold rd;rw[af,ze];split<;>rfl);rw[e];exact MB.one),(MB.one)⟩,KP⟩
 intro i z L ⟨p,B,b,l,hn⟩;refine aA<|aD Z<|aR Z ?_ ?_<;>intro ap
 ·refine aG<|aA<|aF<|aA<|aF<|iK (λ(m:Int)=>[(0,sl ao u.length an),(3,sl (GG a) u.length u.length),(4,I m),(5,I i)]) (λm=>[(ri 3 (GG a) u.length u.length L)]) (λm=>(KI u i.toNat m)) (λm=>m.toNat) ?_ ?_
  ·exact⟨z,(KI.init hn),KP⟩
  intro m k;have y:=k.bd;refine aA<|lS [(0,sl ao u.length an),(3,sl (GG a) u.length u.length),(4,I m),(5,I i),(27, .bool (decide ((0<m)/\((rd u i)≠(rd u m)))))] [(ri 3 (GG a) u.length u.length L)] ?_ ?_
  ·refine bE mixed<|bF 0 3 Z<|gM 17 Z ?_ ?_<;>intro C
   ·exact bF 3 2 Z<|wG 5 Z Z Z (aC ai sz5 Z Z (am.c _))<|wG 6 Z Z Z (aQ ay Z Z (am.c _))<|bF 7 2 Z<|wG 9 Z Z Z (aC ai sz5 Z Z (am.c _))<|wG 10 Z Z Z (aQ ay Z Z (am.c _))<|bF 11 2 Z<|wN<|KP
   exact bF 3 10 Z<|wN<|KP
  refine aR Z ?_ ?_<;>intro r
  ·have x:rd u m≠rd u i:=λe=>r.2 e.symm;have d:=l (m-1) G G G;rw[show(m-1+1).toNat=m.toNat by omega] at d;exact aG<|aF<|aT 2 Z<|wS Z Z<|wy (aC ak sz3 Z Z (rdr 0 Z))<|wy (aQ av Z Z (rdr 0 Z))<|aB Z<|⟨rd L (m-1),(k.step (by rw[<-VE,<-VE];exact x) d),(by have:=d.bd;omega),KP⟩
  refine aP<|aA<|aA<|bE mixed<|bF 0 2 Z<|wD 2 Z (aC ai sz5 Z Z (am.c _))<|wD 3 Z (aQ ay Z Z (am.c _))<|bF 4 2 Z<|wD 6 Z (aC ai sz5 Z Z (am.c _))<|wD 7 Z (aQ ay Z Z (am.c _))<|wD 8 Z (pU Z Z)<|wN<|aR Z ?_ ?_<;>intro o
  ·have g:=k.hit (by rw[<-VE,<-VE];exact o.symm);exact aT 1 Z<|wA Z Z<|aB Z<|aT 3 Z<|wy (aC ak sz3 Z Z (rdr 0 Z))<|bN (bJ 0 Z sz3 Z Z)<|gW (R1:=[(ri 3 (GG a) u.length u.length (upd L i (m+1)))]) Z<|aJ<|aT 1 Z<|wA Z Z<|aB Z<|⟨i+1,m+1,upd L i (m+1),⟨G,G,(by rw[aW];exact b),(aBs p G b l g),(by rw[show(i+1).toNat=i.toNat+1 by omega];exact g)⟩,G,KP⟩
  have g:=k.miss G (by rw[<-VE,<-VE];exact λe=>o e.symm);exact aG<|aT 3 Z<|wy (aC ak sz3 Z Z (rdr 0 Z))<|bN (bJ 0 Z sz3 Z Z)<|gW (R1:=[(ri 3 (GG a) u.length u.length (upd L i m))]) Z<|aJ<|aT 1 Z<|wA Z Z<|aB Z<|⟨i+1,m,upd L i m,⟨G,G,(by rw[aW];exact b),(aBs p G b l g),(by rw[show(i+1).toNat=i.toNat+1 by omega];exact g)⟩,G,KP⟩
 exact aP<|aD Z<|gN (R1:=[(ri 3 (GG a) u.length u.length L)]) (λ_ h=>h.sel [0] cC Z)<|⟨_,Z,_,_,L,by rw[b],b,λj q h1 _=>l j q G h1,by rw[b]⟩
theorem aVy (am:R4 w ao ar an u) (i:u.length<=1000000):
  CF 146 #[sl ao ar an] w (λv R'=>v=I (lp u)):=by
 obtain rfl:=am.lenI;refine fn1 func146 Z Z Z<|aD Z<|aA<|aD Z<|aR Z ?_ ?_<;>intro ap
 ·refine aD Z<|aS<|⟨_,Z,?_⟩;exact bi (Value.int .i64) (by rw[di (show u.length=0 by omega)];rfl)
 refine aG<|aK 3 Z<|wa (aH bXi Z (Ct.fresh (λw d=>aPc ((am.c _) w d) cE))) ?_;rintro _ _⟨_,rfl,h,g,b,rfl,e,a,rfl⟩;refine bH 2 Z<|wS Z Z<|wy (aC ak sz3 Z Z (rdr 0 Z))<|wy (aQ av Z Z (rdr 0 Z))<|wy (oH Z Z (by have j:=(a (u.length-1) G G G).bd;omega)) ?_;refine aB Z<|aL [] 99<|⟨_,Z,?_⟩;exact bi (Value.int .i64) (MB.least G (by have:=a (u.length-1) G G G;rw[show((u.length:Int)-1+1).toNat=u.length by omega] at this;exact this))
theorem bBb (am:R4 w ao ar an u) (i:u.length<=1000000):
  CF 90 #[sl ao ar an] w (λv R'=> ∃(A:AF) (c:Nat),v= .tuple #[sl A (jX u).length c,I (gP u)]/\R'=[(ru 5 A ((jX u).length) c (jX u))]):=by
 obtain rfl:=am.lenI;refine fn2 func90 Z Z Z<|wq<|dX (ru 5 none 0 0 ([]))<|aB Z<|aA<|aD Z<|aR Z ?_ ?_<;>intro ap
 ·refine aD Z<|aL [0] 99<|⟨_,_,Z,Z,?_⟩;obtain rfl:=di (show u.length=0 by omega);exact⟨_,_,Z,Z⟩
 have b:=VH (u:=u) G;refine aG<|aK 1 Z<|dZ bYk Z (λw a=>aVy ((am.c _) w a) cE)<|aB Z<|aA<|aK 3 Z<|wy (uF Z Z)<|aB Z<|aR Z ?_ ?_<;>intro d
 ·refine sQ Z<|aA<|bE mixed<|bF 0 2 Z<|wD 2 Z (dV ai sz5 Z Z (am.c _))<|bF 4 3 Z<|wD 7 Z (zP Z Z G G G)<|wC 3 Z (aH aXh Z (Ct.fresh (λw a=>uD ((RdC.toI (am.c _) G) w a) (by rw[ax];omega)))) ?_;rintro _ _⟨_,rfl,h,g,rfl,rfl⟩;refine⟨.inr hrZ,?_⟩;refine bF 8 2 Z<|wN<|aL [0] 99<|⟨_,_,Z,Z,?_⟩;have e:rl u=u.length:=by unfold rl;rw[cz cF]
  unfold jX gP;rw[e];exact⟨_,_,Z,Z⟩
 refine aG<|aA<|bE mixed<|bF 0 2 Z<|wD 2 Z (dV ai sz5 Z Z (am.c _))<|bF 4 3 Z<|wD 7 Z (zP Z Z G G G)<|wC 3 Z (aH aXh Z (Ct.fresh (λw a=>uD ((RdC.toI (am.c _) G) w a) (by rw[ax];omega)))) ?_;rintro _ _⟨_,rfl,j,k,rfl,rfl⟩;refine⟨.inr hrZ,?_⟩;refine bF 8 2 Z<|wN<|aL [0] 99<|⟨_,_,Z,Z,?_⟩;have e:rl u=lp u:=by unfold rl;rw[bq cF]
 unfold jX gP;rw[e];exact⟨_,_,Z,Z⟩
end
section
variable {w w0:World} {low size total r:Int} {B g n c:Nat} {R:List Row} {A:AF} {b:AH}
theorem BO (a:rH low size total):
  CF 169 #[I low,I size,I total] w (λv R'=>v=bt):=by
 refine fn1 func169 Z Z Z ?_;obtain⟨b,d,e,g⟩:=a;refine aD Z<|aK 1 Z<|wy (Yl.t (PC Z Z) G)<|bH 2 Z<|aN Z Z<|wy (Yl.t (pG Z Z) G)<|bH 3 Z<|aN Z Z<|wy (Yl.t (pG Z Z) G)<|bH 4 Z<|aN Z Z<|wy (Yl.t (PC Z Z) G)<|bH 5 Z<|aN Z Z<|wS Z Z<|aN Z Z<|wy (Yl.t (PC Z Z) G)<|aB Z<|aS<|⟨_,Z,?_⟩;rfl
theorem ZV (a:rH low size total):
  CF 139 #[I low,I size,I total] w (λv R'=>v=bt):=by
 refine fn1 func139 Z Z Z ?_;obtain⟨b,d,e,g⟩:=a;refine aD Z<|aK 1 Z<|wy (Yl.t (PC Z Z) G)<|bH 2 Z<|aN Z Z<|wy (Yl.t (pG Z Z) G)<|bH 3 Z<|aN Z Z<|wy (Yl.t (pG Z Z) G)<|bH 4 Z<|aN Z Z<|wy (Yl.t (PC Z Z) G)<|bH 5 Z<|aN Z Z<|wS Z Z<|aN Z Z<|wy (Yl.t (PC Z Z) G)<|aB Z<|aS<|⟨_,Z,?_⟩;rfl
theorem UV:
  CF 106 #[] w (λv R'=> ∃g A c,v=PG g/\R'=[(rc 217 3 g [sl A cd0.k c, .int .u64 (cd0.N%4294967296), .int .u64 cd0.R]),(ru 5 A cd0.k c (beL cd0.k (cd0.N/4294967296)))]):=by
 exact fn1 func106 Z Z Z<|aD Z<|wq<|wy (bV (v:= .agg #[sl none 0 0, .int .u64 0, .int .u64 4294967295]) Z (λw=>cA))<|aX (dC (sz:=3) rfl rfl) λa=>dX (ru 5 none 0 0 ([]))<|aB rfl<|aL [1,0] 99<|⟨_,Z,_,_,_,Z,Z⟩
theorem aEa {x:Int} (hn:n=b.length) (hb:aI b) (p:b.length<=1000000):
  CT 170 #[PG g] B w0 ((rc 217 3 g [sl A n c, .int .u64 x, .int .u64 r])::(ru 5 A n c b)::R) (λv R'=>v= .tuple #[]/\R'=(rc 217 3 g [sl A n c, .int .u64 x, .int .u64 r])::(ru 5 A n c (LU b 1))::R):=by
 subst hn;refine fn0 func170 Z Z Z<|cB [0] 5 Z<|wS Z Z<|aB Z<|aF<|dF (λ(i:Int) (V:AH)=>[(0,PG g),(2,I i)]) (λi V=>((rc 217 3 g [sl A b.length c, .int .u64 x, .int .u64 r])::(ru 5 A b.length c V)::R)) (λi V=>(-1<=i)/\(i<b.length)/\(aKt b 1 V i 1)) (λi V=>(i+1).toNat) ?_ ?_
 ·exact⟨(b.length:Int)-1,b,⟨G,G,(aBx hb Z)⟩,KP⟩
 intro i V ⟨k,o,a⟩;have q:=a.1;have j:=a.2.1.rd i;have h:=fZ (l:=V) (i:=i) (v:=(rd V i+1)%256);refine aA<|aD Z<|aR Z ?_ ?_<;>intro ap
 ·have h:=h G G;refine aG<|aA<|aF<|cB [0] 5 Z<|wy (aC ai sz5 Z Z (rdr 1 Z))<|wy (aQ ay Z Z (rdr 1 Z))<|wy (bQx Z Z)<|wy (aC ai sz5 Z Z (rdr 1 Z))<|bN (bJ 1 Z sz5 Z Z)<|aJ<|cB [0] 5 Z<|wy (aC ai sz5 Z Z (rdr 1 Z))<|wy (aQ ay Z Z (rdr 1 Z))<|aB Z<|aR Z ?_ ?_<;>intro m
  ·refine aS ?_
   skip
   have e:upd V i ((rd V i+1)%256)=LU b 1:=(a.step (y:=0) (d:=(rd V i+1)%256) G G G G).stop (.inl rfl);rw[e];exact⟨Z,Z⟩
  exact aG<|aT 1 Z<|wS Z Z<|aB Z<|⟨i-1,upd V i (((rd V i)+1)%256),⟨G,G,(a.step G G G G)⟩,G,KP⟩
 refine aP ?_
 skip
 obtain rfl:=a.stop (.inr G);exact⟨Z,Z⟩
theorem UD {s:CdS} (hn:n=s.k) (hc:aEv s) (p:rH low size total) (hk:s.k<=1000000):
  CT 111 #[PG g,I low,I size,I total] B w0 ((rc 217 3 g [sl A n c, .int .u64 (s.N%4294967296), .int .u64 s.R])::(ru 5 A n c (beL s.k (s.N/4294967296)))::R) (λv R'=> ∃(A1:AF) (c1:Nat),v=bt/\R'=(rc 217 3 g [sl A1 ((lW s low size total).k) c1, .int .u64 ((lW s low size total).N%4294967296), .int .u64 ((lW s low size total).R)])::(ru 5 A1 ((lW s low size total).k) c1 (beL (lW s low size total).k ((lW s low size total).N/4294967296)))::R):=by
 subst hn;obtain⟨J,r1,n0,S⟩:=hc;have K:=p;obtain⟨T,X,Y,s4⟩:=K;obtain⟨f1,f2,f3,f4,f5⟩:=mX p ⟨J,r1⟩;refine fn1 func111 Z Z Z<|aD Z<|aA<|aK 1 Z<|wy (kT underlying150 Z Z)<|bH 4 Z<|aN Z Z<|dZ bGk Z (λw Q=>BO p)<|aB Z<|aM Z<|aG<|cB [0] 5 Z<|wy (dO av ic Z)<|wy (sI Z Z G G)<|aB Z<|cB [0] 6 Z<|wy (dO av ic Z)<|wy (mV Z Z G)<|wy (aZc Z Z G)<|bH 2 Z<|bN (aV 0 Z Z Z wP Z Z Z Z (ah Z))<|aJ<|aA<|cB [0] 4 Z<|wy (rM (k:=32) (m:=4294967296) Z Z Z G Z)<|aB Z<|aR Z ?_ ?_<;>intro ap
 ·refine cB [0] 4 Z<|wy (PT (m:=4294967296) 32 Z Z Z Z G Z)<|bH 2 Z<|bN (aV 0 Z Z Z wP Z Z Z Z (ah Z))<|aJ<|aT 1 Z<|dD (aH bXz Z ((aEa (by rw[mQ]) (EX _ _) (by rw[mQ];omega)))) ?_;refine aJ<|aA<|aK 3 Z<|wy (dO av ic Z)<|wy (mV Z Z G)<|bH 2 Z<|bN (aV 0 Z Z Z wP Z Z Z Z (ah Z))<|aJ<|aF<|sS (λ(j:Nat) (A1:AF) (a:Nat) (c1:Nat) (V:AH) (x:Int) (r:Int) (M:Int)=>[(0,PG g)]) (λj A1 a c1 V x r M=>((rc 217 3 g [sl A1 a c1, .int .u64 x, .int .u64 r])::(ru 5 A1 a c1 V)::R)) (λj A1 a c1 V x r M=>(M=(s.N+s.R/total*low)*256^j)/\(r=(s.R/total*size)*256^j)/\(j<=shN (s.R/total*size))/\(V=beL (s.k+j) (M/4294967296))/\(x=M%4294967296)/\(a=s.k+j)) (λj A1 a c1 V x r M=>(4-j)) ?_ ?_
  ·exact⟨0,A,s.k,c,LU (beL s.k (s.N/4294967296)) 1,((s.N%4294967296)+((s.R/total)*low))%4294967296,(s.R/total)*size,(s.N+s.R/total*low),⟨(by rw[rz,wh]),(by rw[rz,wh]),(oq _),(by first|(rw[QV,qw,show(s.N+s.R/total*low)/4294967296=s.N/4294967296+1 by omega])|(rw[qw,show(s.N+s.R/total*low)/4294967296=s.N/4294967296 by omega])),G,(Z)⟩,KP⟩
  intro j A1 a c1 V x r M ⟨e,b,l,i,o,d⟩;have H:=AA (s.R/total*size);have D:1<=r:=by rw[b];exact xJ G
  refine aA<|lK [0] Z<|aR Z ?_ ?_<;>intro L
  ·refine aG<|aA<|aF<|aA<|bE mixed<|fU [0,0] 0 9 Z<|wD 9 Z (rM (k:=24) (m:=16777216) Z Z Z G Z)<|wD 10 Z (eP ic ay Z)<|wC 11 Z (bG .u8 [(x/16777216)%256] ai zs5 Z Z Z) ?_;rintro _ _⟨P,rfl,rfl⟩;refine⟨.inr hrZ,?_⟩;refine wC 12 Z (aO 2 Z ai zb5 Z Z Z (rdr 0 Z)) ?_;rintro _ _⟨q,u,rfl,rfl⟩;refine⟨.inl cA,?_⟩;refine iA (v:=sl q (a+1) u) Z<|bF 13 2 Z<|qN 15 Z cA (aV 1 Z Z Z iZ Z Z Z Z (ah Z)) ?_;rintro _ _ rfl;refine⟨.inl cA,?_⟩;exact wN<|nQ [1] 5 Z<|wy (pM (k:=8) (m:=256) Z Z Z G Z)<|wy (PT (m:=4294967296) 32 Z Z Z Z G Z)<|bH 2 Z<|bN (aV 1 Z Z Z wP Z Z Z Z (ah Z))<|aJ<|nQ [1] 4 Z<|wy (pM (k:=8) (m:=256) Z Z Z G Z)<|bH 2 Z<|bN (aV 1 Z Z Z wP Z Z Z Z (ah Z))<|aJ<|⟨(j+1),q,a+1,u,V++([(x/16777216)%256]),(x*256)%4294967296,r*256,(M*256),⟨(by rw[e,qc,<-tq]),(by rw[b,qc,<-tq]),(xH G l (by rw[<-b];assumption)),(by rw[i,o];exact(aKi _ _).symm),G,(by rw[d];rfl)⟩,G,SA,λ_ h=>h.selR (F:=[_,_,_]) (F':=[_,_]) [1,2] cC Z⟩
  refine aP<|aD Z<|aS<|⟨_,Z,?_⟩;obtain rfl:j=shN (s.R/total*size):=DL G l (by rw[<-b];omega);refine⟨A1,c1,Z,?_⟩;rw[i,o,b,e,d];rfl
 refine aG<|aA<|aK 3 Z<|wy (dO av ic Z)<|wy (mV Z Z G)<|bH 2 Z<|bN (aV 0 Z Z Z wP Z Z Z Z (ah Z))<|aJ<|aF<|sS (λ(j:Nat) (A1:AF) (a:Nat) (c1:Nat) (V:AH) (x:Int) (r:Int) (M:Int)=>[(0,PG g)]) (λj A1 a c1 V x r M=>((rc 217 3 g [sl A1 a c1, .int .u64 x, .int .u64 r])::(ru 5 A1 a c1 V)::R)) (λj A1 a c1 V x r M=>(M=(s.N+s.R/total*low)*256^j)/\(r=(s.R/total*size)*256^j)/\(j<=shN (s.R/total*size))/\(V=beL (s.k+j) (M/4294967296))/\(x=M%4294967296)/\(a=s.k+j)) (λj A1 a c1 V x r M=>(4-j)) ?_ ?_
 ·exact⟨0,A,s.k,c,beL s.k (s.N/4294967296),(s.N%4294967296)+((s.R/total)*low),(s.R/total)*size,(s.N+s.R/total*low),⟨(by rw[rz,wh]),(by rw[rz,wh]),(oq _),(by first|(rw[QV,qw,show(s.N+s.R/total*low)/4294967296=s.N/4294967296+1 by omega])|(rw[qw,show(s.N+s.R/total*low)/4294967296=s.N/4294967296 by omega])),G,(Z)⟩,KP⟩
 intro j A1 a c1 V x r M ⟨e,b,l,i,o,d⟩;have H:=AA (s.R/total*size);have D:1<=r:=by rw[b];exact xJ G
 refine aA<|lK [0] Z<|aR Z ?_ ?_<;>intro O
 ·refine aG<|aA<|aF<|aA<|bE mixed<|fU [0,0] 0 9 Z<|wD 9 Z (rM (k:=24) (m:=16777216) Z Z Z G Z)<|wD 10 Z (eP ic ay Z)<|wC 11 Z (bG .u8 [(x/16777216)%256] ai zs5 Z Z Z) ?_;rintro _ _⟨sk,rfl,rfl⟩;refine⟨.inr hrZ,?_⟩;refine wC 12 Z (aO 2 Z ai zb5 Z Z Z (rdr 0 Z)) ?_;rintro _ _⟨C,y,rfl,rfl⟩;refine⟨.inl cA,?_⟩;refine iA (v:=sl C (a+1) y) Z<|bF 13 2 Z<|qN 15 Z cA (aV 1 Z Z Z iZ Z Z Z Z (ah Z)) ?_;rintro _ _ rfl;refine⟨.inl cA,?_⟩;exact wN<|nQ [1] 5 Z<|wy (pM (k:=8) (m:=256) Z Z Z G Z)<|wy (PT (m:=4294967296) 32 Z Z Z Z G Z)<|bH 2 Z<|bN (aV 1 Z Z Z wP Z Z Z Z (ah Z))<|aJ<|nQ [1] 4 Z<|wy (pM (k:=8) (m:=256) Z Z Z G Z)<|bH 2 Z<|bN (aV 1 Z Z Z wP Z Z Z Z (ah Z))<|aJ<|⟨(j+1),C,a+1,y,V++([(x/16777216)%256]),(x*256)%4294967296,r*256,(M*256),⟨(by rw[e,qc,<-tq]),(by rw[b,qc,<-tq]),(xH G l (by rw[<-b];assumption)),(by rw[i,o];exact(aKi _ _).symm),G,(by rw[d];rfl)⟩,G,SA,λ_ h=>h.selR (F:=[_,_,_]) (F':=[_,_]) [1,2] cC Z⟩
 refine aP<|aD Z<|aS<|⟨_,Z,?_⟩;obtain rfl:j=shN (s.R/total*size):=DL G l (by rw[<-b];omega);refine⟨A1,c1,Z,?_⟩;rw[i,o,b,e,d];rfl
theorem bFt {s:CdS} (hn:n=s.k) (hk:s.k<=1000000):
  CT 114 #[PG g] B w0 ((rc 217 3 g [sl A n c, .int .u64 (s.N%4294967296), .int .u64 s.R])::(ru 5 A n c (beL s.k (s.N/4294967296)))::R) (λv R'=> ∃(A1:AF) (c1:Nat),v=sl A1 (s.k+4) c1/\R'=(ru 5 A1 (s.k+4) c1 (beL (s.k+4) s.N))::(rc 217 3 g [sl A n c, .int .u64 (s.N%4294967296), .int .u64 s.R])::(ru 5 A n c (beL s.k (s.N/4294967296)))::R):=by
 subst hn;have y:=mQ s.k (s.N/4294967296);refine fn1 func114 Z Z Z<|aD Z<|aA<|aK 1 Z<|wy (kT underlying150 Z Z)<|aJ<|aM Z<|aG<|cB [0] 4 Z<|bZ aXh Z (λw j=>uD ((rdr 1 Z) w j) (by rw[mQ];exact hk)) λu r=> ?_;refine aB Z<|aA<|aD Z<|aF<|kI 5<|eD<|wq<|wy (Yl.t (fD Z Z) cC)<|aJ<|aA<|bA Z<|aG<|aA<|aF<|aD Z<|nQ [1] 6 Z<|wy (Yl.is (dJ Z Z) Z)<|wy (Yl.is (jG Z Z) Z)<|wy (Yl.is (oH Z Z) Z)<|wy (rM (k:=24) (m:=16777216) Z Z Z G Z)<|wy (eP ic ay Z)<|aX (bG .u8 [((s.N%4294967296)/16777216)%256] ai zs5 Z Z Z) λx=>dG (aO 1 Z ai zb5 Z Z Z (rdr 0 Z)) λo p=>bC (v:=sl o (((beL s.k (s.N/4294967296)).length)+1) p) Z<|aB Z<|bK<|wy (Yl.is (dJ Z Z) Z)<|aB Z<|eD<|wq<|wy (Yl.t (fD Z Z) cC)<|aJ<|aA<|bA Z<|aG<|aA<|aF<|aD Z<|nQ [2] 6 Z<|wy (Yl.is (dJ Z Z) Z)<|wy (Yl.is (jG Z Z) Z)<|wy (Yl.is (oH Z Z) Z)<|wy (rM (k:=16) (m:=65536) Z Z Z G Z) ?_;refine wy (eP ic ay Z)<|aX (bG .u8 [((s.N%4294967296)/65536)%256] ai zs5 Z Z Z) λq=>dG (aO 2 Z ai zb5 Z Z Z (rdr 0 Z)) λl a=>bC (v:=sl l ((((beL s.k (s.N/4294967296)).length)+1)+1) a) Z<|aB Z<|bK<|wy (Yl.is (dJ Z Z) Z)<|aB Z<|eD<|wq<|wy (Yl.t (fD Z Z) cC)<|aJ<|aA<|bA Z<|aG<|aA<|aF<|aD Z<|nQ [3] 6 Z<|wy (Yl.is (dJ Z Z) Z)<|wy (Yl.is (jG Z Z) Z)<|wy (Yl.is (oH Z Z) Z)<|wy (rM (k:=8) (m:=256) Z Z Z G Z)<|wy (eP ic ay Z)<|aX (bG .u8 [((s.N%4294967296)/256)%256] ai zs5 Z Z Z) λC=>dG (aO 3 Z ai zb5 Z Z Z (rdr 0 Z)) λb h=>bC (v:=sl b (((((beL s.k (s.N/4294967296)).length)+1)+1)+1) h) Z<|aB Z<|bK<|wy (Yl.is (dJ Z Z) Z)<|aB Z<|eD<|wq<|wy (Yl.t (fD Z Z) cC)<|aJ<|aA<|bA Z<|aG<|aA<|aF<|aD Z<|nQ [4] 6 Z<|wy (Yl.is (dJ Z Z) Z) ?_;refine wy (Yl.is (jG Z Z) Z)<|wy (Yl.is (oH Z Z) Z)<|wy (rM (k:=0) (m:=1) Z Z Z G Z)<|wy (eP ic ay Z)<|aX (bG .u8 [((s.N%4294967296)/1)%256] ai zs5 Z Z Z) λD=>dG (aO 4 Z ai zb5 Z Z Z (rdr 0 Z)) λd i=>bC (v:=sl d ((((((beL s.k (s.N/4294967296)).length)+1)+1)+1)+1) i) Z<|aB Z<|bK<|wy (Yl.is (dJ Z Z) Z)<|aB Z<|eD<|wq<|wy (Yl.f (fD Z Z) cC)<|aJ<|aA<|aM Z<|aP<|aD Z<|aL [4,5,6] 7<|⟨_,Z,?_⟩;have e:(beL s.k (s.N/4294967296)).length+1+1+1+1=s.k+4:=G
 rw[e,<-bNv s.k s.N _ rfl];exact⟨_,_,Z,Z⟩
theorem PH:
  CF 121 #[] w (λv R'=> ∃g A c,v=PG g/\R'=[(rc 179 2 g [sl A (cd0.k+4) c, .int .u64 cd0.R]),(ru 5 A (cd0.k+4) c (beL (cd0.k+4) cd0.N))]):=by
 exact fn1 func121 Z Z Z<|aD Z<|wq<|aX (dU ai zb5 Z Z) λa=>bC (v:=sl (GG a) ((4:Int).toNat) ((4:Int).toNat)) Z<|wy (bV (v:= .agg #[sl (GG a) ((4:Int).toNat) ((4:Int).toNat), .int .u64 4294967295]) Z (λw=>cA))<|aX (dC (sz:=2) rfl rfl) λb=>aB rfl<|aS<|⟨_,Z,_,_,_,Z,Z⟩
theorem bIm {x0:Int} (hn:n=b.length) (hb:aI b) (o:b.length<=1000010) (p:0<=x0/\x0<1099511627776):
  CT 179 #[PG g, .int .u64 x0] B w0 ((rc 179 2 g [sl A n c, .int .u64 r])::(ru 5 A n c b)::R) (λv R'=>v= .tuple #[]/\R'=(rc 179 2 g [sl A n c, .int .u64 r])::(ru 5 A n c (LU b x0))::R):=by
 subst hn;refine fn0 func179 Z Z Z<|cB [0] 5 Z<|wS Z Z<|aB Z<|aF<|gX (λ(i:Int) (x:Int) (V:AH)=>[(0,PG g),(1, .int .u64 x),(4,I i)]) (λi x V=>((rc 179 2 g [sl A b.length c, .int .u64 r])::(ru 5 A b.length c V)::R)) (λi x V=>(-1<=i)/\(i<b.length)/\(0<=x/\x<1099511627776)/\(aKt b x0 V i x)) (λi x V=>(i+1).toNat) ?_ ?_
 ·exact⟨(b.length:Int)-1,x0,b,⟨G,G,G,(aBx hb Z)⟩,KP⟩
 intro i x V ⟨h,l,e,a⟩;have q:=a.1;have d:=a.2.1.rd i;refine aA<|aK 3 Z<|bD 3 [0,1,4] 16 (.bool (decide ((0<=i)/\(0<x)))) Z ?_ ?_
 ·refine bB 13 Z ?_ ?_<;>intro ap
  ·exact aB Z<|KP
  exact aB Z<|KP
 refine aJ<|aR Z ?_ ?_<;>intro j
 ·exact aG<|aA<|aF<|cB [0] 6 Z<|wy (aC ai sz5 Z Z (rdr 1 Z))<|wy (aQ ay Z Z (rdr 1 Z))<|wy (dO ay ic Z)<|wy (aZc Z Z G)<|aB Z<|cB [0] 6 Z<|wy (eP ic ay Z)<|wy (aC ai sz5 Z Z (rdr 1 Z))<|bN (bJ 1 Z sz5 Z Z)<|aJ<|aT 1 Z<|wy (rM (k:=8) (m:=256) Z Z Z G Z)<|aB Z<|aT 1 Z<|wS Z Z<|aB Z<|⟨i-1,(x+(rd V i))/256,upd V i ((x+(rd V i))%256),⟨G,G,G,(a.step G G Z Z)⟩,G,KP⟩
 refine aP ?_
 skip
 obtain rfl:=a.stop G;exact⟨Z,Z⟩
theorem MF {s:CdS} (hn:n=s.k+4) (hc:aEv s) (d:rH low size total) (hk:s.k<=1000000):
  CT 122 #[PG g,I low,I size,I total] B w0 ((rc 179 2 g [sl A n c, .int .u64 s.R])::(ru 5 A n c (beL (s.k+4) s.N))::R) (λv R'=> ∃(A1:AF) (c1:Nat),v=bt/\R'=(rc 179 2 g [sl A1 ((lW s low size total).k+4) c1, .int .u64 ((lW s low size total).R)])::(ru 5 A1 ((lW s low size total).k+4) c1 (beL ((lW s low size total).k+4) (lW s low size total).N))::R):=by
 subst hn;obtain⟨u,r1,n0,J⟩:=hc;have x:=d;obtain⟨K,L,O,P⟩:=x;obtain⟨f1,f2,f3,f4,f5⟩:=mX d ⟨u,r1⟩;refine fn1 func122 Z Z Z<|aD Z<|aA<|aK 3 Z<|dZ bQj Z (λw D=>ZV d)<|aB Z<|aM Z<|aG<|cB [0] 5 Z<|wy (dO av ic Z)<|wy (sI Z Z G G)<|aB Z<|aK 3 Z<|wy (dO av ic Z)<|wy (mV Z Z G)<|dD (aH bXv Z ((bIm (by rw[mQ]) (EX _ _) (by rw[mQ];omega) G))) ?_;refine aJ<|aK 3 Z<|wy (dO av ic Z)<|wy (mV Z Z G)<|bH 2 Z<|bN (aV 0 Z Z Z wP Z Z Z Z (ah Z))<|aJ<|aA<|aF<|IK (λ(j:Nat) (A1:AF) (a:Nat) (c1:Nat) (V:AH) (r:Int) (M:Int)=>[(0,PG g)]) (λj A1 a c1 V r M=>((rc 179 2 g [sl A1 a c1, .int .u64 r])::(ru 5 A1 a c1 V)::R)) (λj A1 a c1 V r M=>(M=(s.N+s.R/total*low)*256^j)/\(r=(s.R/total*size)*256^j)/\(j<=shN (s.R/total*size))/\(V=beL (s.k+j+4) M)/\(a=s.k+j+4)) (λj A1 a c1 V r M=>(4-j)) ?_ ?_
 ·exact⟨0,A,s.k+4,c,LU (beL (s.k+4) s.N) ((s.R/total)*low),(s.R/total)*size,(s.N+s.R/total*low),⟨(by rw[rz,wh]),(by rw[rz,wh]),(oq _),(by rw[QV]),(Z)⟩,KP⟩
 intro j A1 a c1 V r M ⟨o,b,q,p,e⟩;have H:=AA (s.R/total*size);have y:1<=r:=by rw[b];exact xJ G
 refine aA<|lK [0] Z<|aR Z ?_ ?_<;>intro ap
 ·exact aG<|aF<|cB [0] 5 Z<|aX (bG .u8 [0] ai zs5 Z Z Z) λC=>dG (aO 2 Z ai zb5 Z Z Z (rdr 0 Z)) λi l=>bC (v:=sl i (a+1) l) Z<|bH 2 Z<|bN (aV 1 Z Z Z iZ Z Z Z Z (ah Z))<|aJ<|nQ [1] 5 Z<|wy (pM (k:=8) (m:=256) Z Z Z G Z)<|bH 2 Z<|bN (aV 1 Z Z Z wP Z Z Z Z (ah Z))<|aJ<|⟨(j+1),i,a+1,l,V++([0]),r*256,(M*256),⟨(by rw[o,qc,<-tq]),(by rw[b,qc,<-tq]),(xH G q (by rw[<-b];assumption)),(by rw[p,show s.k+(j+1)+4=s.k+j+4+1 by omega,aYg]),(by rw[e];omega)⟩,G,SA,λ_ h=>h.selR (F:=[_,_,_]) (F':=[_,_]) [1,2] cC Z⟩
 refine aP<|aD Z<|aS<|⟨_,Z,?_⟩;obtain rfl:j=shN (s.R/total*size):=DL G q (by rw[<-b];omega);refine⟨A1,c1,Z,?_⟩;rw[p,b,o,e];rfl
end
section
variable {w w0:World} {ie o cls x i:Int} {B g g0 g1 g2 c:Nat} {R:List Row} {A:AF} {C l:AH}
abbrev syb (b:AH):AH:=(dR 0 (dY bQ b))++[257]
theorem GV:
  CF 172 #[I ie] w (λv R'=>v=I (gU ie)):=by
 refine fn1 func172 Z Z Z<|aD Z<|aA<|aF<|aD Z<|aR Z ?_ ?_<;>intro ap
 ·refine aD Z<|aS<|⟨_,Z,?_⟩;exact bi (Value.int .i64) (by unfold gU;rw[cz cF])
 refine aD Z<|aR Z ?_ ?_<;>intro a
 ·refine aD Z<|aS<|⟨_,Z,?_⟩;exact bi (Value.int .i64) (by unfold gU;rw[bq cF,cz cF])
 refine aG<|aD Z<|aS<|⟨_,Z,?_⟩;exact bi (Value.int .i64) (by unfold gU;rw[bq cF,bq cF])
theorem KA (a:o=0\/o=1):
  CF 104 #[I o] w (λv R'=>v=bt):=by
 refine fn1 func104 Z Z Z<|aD Z<|aK 3 Z<|wJ 3 [(8, .bool (decide ((o=0)\/(o=1))))] [] ?_ ?_
 ·refine bB 5 Z ?_ ?_<;>intro ap
  ·exact aB Z<|KP
  exact aB Z<|KP
 refine rO 8 Z (a)<|aB Z<|aS<|⟨_,Z,?_⟩;rfl
theorem MR:
  CF 105 #[I o] w (λv R'=> ∃(g g0 g1 g2:Nat) (A0 A1 A2:AF) (c0 c1 c2:Nat),v=PG g/\R'=[(rc 214 5 g [PG g0,PG g1,PG g2,I 0,I o]),(rc 222 2 g0 [sl A0 258 c0,I 258]),(ri 3 A0 258 c0 FC),(rc 222 2 g1 [sl A1 258 c1,I 258]),(ri 3 A1 258 c1 FC),(rc 222 2 g2 [sl A2 258 c2,I 258]),(ri 3 A2 258 c2 FC)]):=by
 refine fn1 func105 Z Z Z<|aD Z<|aK 1 Z<|wy (bV (v:= .agg #[.pointer none, .pointer none, .pointer none,I 0,I o]) Z (λw=>cA))<|aX (dC (sz:=5) rfl rfl) λd=>aB rfl<|aA<|aD rfl<|aF<|kI 4<|eD<|wq<|wy (Yl.t (fD rfl rfl) cC)<|aJ<|aA<|bA Z<|aG<|aA<|aF<|aD Z<|bE mixed<|bF 0 2 Z<|bF 3 2 Z<|wC 2 Z (aH bGl Z (Ct.fresh (λw a=>BI))) ?_;rintro _ _⟨_,rfl,e,i,j,rfl,rfl⟩;refine⟨.inr λ_ h=>h.right (R':=[_,_]),?_⟩;refine wD 5 Z (dW (q:=0) (rdr 2 Z) Di JA Z Z (ah Z) cC cC Z)<|qN 6 Z cA (aV 2 Z Z Z JA Z Z Z Z (ah Z)) ?_;rintro _ _ rfl;refine⟨.inl cA,?_⟩;refine wN<|bK<|wy (Yl.is (dJ Z Z) Z)<|aB Z<|eD<|wq<|wy (Yl.t (fD Z Z) cC)<|aJ<|aA<|bA Z<|aG<|aA<|aF<|aD Z<|bE mixed<|bF 0 2 Z<|bF 3 2 Z<|wC 2 Z (aH bGl Z (Ct.fresh (λw a=>BI))) ?_;rintro _ _⟨_,rfl,r,p,m,rfl,rfl⟩;refine⟨.inr λ_ h=>h.right (R':=[_,_]),?_⟩;refine wD 5 Z (dW (q:=1) (rdr 4 Z) Di JA Z Z (ah Z) cC cC Z)<|qN 6 Z cA (aV 4 Z Z Z JA Z Z Z Z (ah Z)) ?_;rintro _ _ rfl;refine⟨.inl cA,?_⟩;refine wN<|bK<|wy (Yl.is (dJ Z Z) Z)<|aB Z<|eD<|wq<|wy (Yl.t (fD Z Z) cC)<|aJ<|aA<|bA Z<|aG<|aA<|aF<|aD Z<|bE mixed<|bF 0 2 Z<|bF 3 2 Z<|wC 2 Z (aH bGl Z (Ct.fresh (λw a=>BI))) ?_;rintro _ _⟨_,rfl,b,l,k,rfl,rfl⟩;refine⟨.inr λ_ h=>h.right (R':=[_,_]),?_⟩;refine wD 5 Z (dW (q:=2) (rdr 6 Z) Di JA Z Z (ah Z) cC cC Z)<|qN 6 Z cA (aV 6 Z Z Z JA Z Z Z Z (ah Z)) ?_;rintro _ _ rfl;refine⟨.inl cA,?_⟩;exact wN<|bK<|wy (Yl.is (dJ Z Z) Z)<|aB Z<|eD<|wq<|wy (Yl.f (fD Z Z) cC)<|aJ<|aA<|aM Z<|aP<|aD Z<|aL [6,4,5,2,3,0,1] 99<|⟨_,Z,_,_,_,_,_,_,_,_,_,_,Z,Z⟩
theorem yU (hk:cls*o=0):
  CT 109 #[PG g] B w0 ((rc 214 5 g [PG g0,PG g1,PG g2,I cls,I o])::R) (λv R'=>v=PG g0/\R'=(rc 214 5 g [PG g0,PG g1,PG g2,I cls,I o])::R):=by
 refine fn1 Jn Z Z Z<|aD Z<|aA<|bE mixed<|fU [0,0] 0 9 Z<|wD 9 Z (Yl.is (jG Z Z) (by rw[hk])) ?_;exact bF 10 2 Z<|wD 12 Z (dW (q:=0) (rdr 0 Z) Di JA Z Z (ah Z) cC cC Z)<|fU [0] 13 2 Z<|wN<|aS<|⟨_,Z,Z,Z⟩
theorem yT (hk:cls*o=1):
  CT 109 #[PG g] B w0 ((rc 214 5 g [PG g0,PG g1,PG g2,I cls,I o])::R) (λv R'=>v=PG g1/\R'=(rc 214 5 g [PG g0,PG g1,PG g2,I cls,I o])::R):=by
 refine fn1 Jn Z Z Z<|aD Z<|aA<|bE mixed<|fU [0,0] 0 9 Z<|wD 9 Z (Yl.is (jG Z Z) (by rw[hk])) ?_;exact bF 10 2 Z<|wD 12 Z (dW (q:=1) (rdr 0 Z) Di JA Z Z (ah Z) cC cC Z)<|fU [0] 13 2 Z<|wN<|aS<|⟨_,Z,Z,Z⟩
theorem yS (hk:cls*o=2):
  CT 109 #[PG g] B w0 ((rc 214 5 g [PG g0,PG g1,PG g2,I cls,I o])::R) (λv R'=>v=PG g2/\R'=(rc 214 5 g [PG g0,PG g1,PG g2,I cls,I o])::R):=by
 refine fn1 Jn Z Z Z<|aD Z<|aA<|bE mixed<|fU [0,0] 0 9 Z<|wD 9 Z (Yl.is (jG Z Z) (by rw[hk])) ?_;exact bF 10 2 Z<|wD 12 Z (dW (q:=2) (rdr 0 Z) Di JA Z Z (ah Z) cC cC Z)<|fU [0] 13 2 Z<|wN<|aS<|⟨_,Z,Z,Z⟩
theorem SS (hk:cls*o=0) (hs:0<=ie/\ie<C.length) (a:mD C):
  CT 113 #[PG g,I ie] B w0 ((rc 214 5 g [PG g0,PG g1,PG g2,I cls,I o])::(rc 222 2 g0 [sl A 258 c,I (bL C)])::(ri 3 A 258 c C)::R) (λv R'=>v= .tuple #[]/\R'=(rc 214 5 g [PG g0,PG g1,PG g2,I (gU ie),I o])::(rc 222 2 g0 [sl A 258 c,I (bL (nS C ie))])::(ri 3 A 258 c (nS C ie))::R):=by
 have mt:=a.1;refine fn0 Jo Z Z Z<|aK 1 Z<|dD (aH vV Z (Ct.at 0 Z (yU cF)))<|wm Z<|dD (aH bGj Z (Ct.pk [1,2,0] 3 (h:=BH (by rw[mt]) hs a))) ?_;refine NN [2,0,1] 3 ?_;refine aJ<|aT 2 Z<|dZ bGi Z (λw b=>GV)<|bH 2 Z<|bN (aV 0 Z Z Z sz3 Z Z Z Z (ah Z))<|aJ ?_
 skip
 exact⟨Z,Z⟩
theorem SQ (hk:cls*o=1) (hs:0<=ie/\ie<C.length) (a:mD C):
  CT 113 #[PG g,I ie] B w0 ((rc 214 5 g [PG g0,PG g1,PG g2,I cls,I o])::(rc 222 2 g1 [sl A 258 c,I (bL C)])::(ri 3 A 258 c C)::R) (λv R'=>v= .tuple #[]/\R'=(rc 214 5 g [PG g0,PG g1,PG g2,I (gU ie),I o])::(rc 222 2 g1 [sl A 258 c,I (bL (nS C ie))])::(ri 3 A 258 c (nS C ie))::R):=by
 have mt:=a.1;refine fn0 Jo Z Z Z<|aK 1 Z<|dD (aH vV Z (Ct.at 0 Z (yT cF)))<|wm Z<|dD (aH bGj Z (Ct.pk [1,2,0] 3 (h:=BH (by rw[mt]) hs a))) ?_;refine NN [2,0,1] 3 ?_;refine aJ<|aT 2 Z<|dZ bGi Z (λw b=>GV)<|bH 2 Z<|bN (aV 0 Z Z Z sz3 Z Z Z Z (ah Z))<|aJ ?_
 skip
 exact⟨Z,Z⟩
theorem SN (hk:cls*o=2) (hs:0<=ie/\ie<C.length) (a:mD C):
  CT 113 #[PG g,I ie] B w0 ((rc 214 5 g [PG g0,PG g1,PG g2,I cls,I o])::(rc 222 2 g2 [sl A 258 c,I (bL C)])::(ri 3 A 258 c C)::R) (λv R'=>v= .tuple #[]/\R'=(rc 214 5 g [PG g0,PG g1,PG g2,I (gU ie),I o])::(rc 222 2 g2 [sl A 258 c,I (bL (nS C ie))])::(ri 3 A 258 c (nS C ie))::R):=by
 have mt:=a.1;refine fn0 Jo Z Z Z<|aK 1 Z<|dD (aH vV Z (Ct.at 0 Z (yS cF)))<|wm Z<|dD (aH bGj Z (Ct.pk [1,2,0] 3 (h:=BH (by rw[mt]) hs a))) ?_;refine NN [2,0,1] 3 ?_;refine aJ<|aT 2 Z<|dZ bGi Z (λw b=>GV)<|bH 2 Z<|bN (aV 0 Z Z Z sz3 Z Z Z Z (ah Z))<|aJ ?_
 skip
 exact⟨Z,Z⟩
theorem aQi {s:PpS} (h:s.cls*o=0):fJ o s x=⟨nS s.c0 x,s.c1,s.c2,gU x,mM s.cd s.c0 x⟩:=by
 unfold fJ XR dK;rw[cz h,cz h]
theorem aQh {s:PpS} (h:s.cls*o=1):fJ o s x=⟨s.c0,nS s.c1 x,s.c2,gU x,mM s.cd s.c1 x⟩:=by
 unfold fJ XR dK;rw[bq G,cz h,bq G,cz h]
theorem aQg {s:PpS} (h:s.cls*o=2):fJ o s x=⟨s.c0,s.c1,nS s.c2 x,gU x,mM s.cd s.c2 x⟩:=by
 unfold fJ XR dK;rw[bq G,bq G,bq G,bq G]
theorem xG {s t:PpS} (h:s=encP o (l.take i.toNat)) (a:0<=i) (hi:i<l.length) (b:fJ o s (rd l i)=t):t=encP o (l.take (i+1).toNat):=by
 rw[dP a hi,aBb,<-h,b]
theorem aSo {s:PpS} (hl:aPp l) (h:s=encP o (l.take i.toNat)):xB s/\s.cd.k<=2*l.length:=by
 have:=zD (o:=o) (l:=l.take i.toNat) (λx a=>hl x (ku a));rw[<-h,ax] at this;exact⟨this.1,G⟩
theorem KW {s:PpS} (h:xB s) (a:o=0\/o=1):s.cls*o=0\/s.cls*o=1\/s.cls*o=2:=by
 have:=h.2.1;rcases a with rfl|rfl<;>omega
theorem xK {lf:AF} {rj lj:Nat} {b:AH} (T:R4 w lf rj lj b) (go:aI b) (X:o=0\/o=1) (hN:b.length<=100000):
  CF 55 #[sl lf rj lj,I o] w (λv R'=> ∃A c,v= .tuple #[sl A (bT b o).length c,bt]/\R'=[(ru 5 A ((bT b o).length) c (bT b o))]):=by
 obtain rfl:=T.lenI;refine fn2 func55 Z Z Z ?_;have S:=qA go;have iz:=DI b;have Y:=uI (dY bQ b) 0;rw[jR] at Y;have j5:(bW b).length=(dR 0 (dY bQ b)).length+1:=by unfold bW;rw[aa];rfl
 refine aD Z<|aA<|aK 1 Z<|dZ bQn Z (λw D=>KA X)<|bH 4 Z<|aN Z Z<|wy (Yl.f (iL Z Z))<|aB Z<|aM Z<|aG<|aK 1 Z<|wa (aH bGu Z (Ct.fresh (λw D=>MR))) ?_;rintro _ _⟨_,rfl,J,p,r,x,y,jp,u,q,B,m,rfl,rfl⟩;refine aB Z<|wq<|aCc (aH bZb Z (Ct.fresh (λw D=>UV))) λK sv px=>aB Z<|aA<|aK 1 Z<|bZ bYz Z (λw D=>aVo ((T.c _) w D) go G) λO P=>bZ bZa Z (λw D=>aTw ((rdr 0 Z) w D) (oM go) (by rw[jR];omega)) λee eh=> ?_;refine aX (bG .i64 [257] ak zs3 Z Z Z) λQ=>dG (aO 1 Z ak zb3 Z Z Z (rdr 0 Z)) λF H=>bC (v:=sl F (((dR 0 (dY bQ b)).length)+1) H) Z<|aB Z<|aF<|DD (λ(i:Int) (g:AF) (j:Nat) (a:PpS)=>[(6,PG J),(7,PG K),(28,sl F (((dR 0 (dY bQ b)).length)+1) H),(29,I ((((dR 0 (dY bQ b)).length)+1:Nat):Int)),(30,I i)]) (λi g j a=>[(ri 3 (GG Q) 1 1 ([257])),(ri 3 F (((dR 0 (dY bQ b)).length)+1) H (syb b)),(ru 5 O ((b).length) P (dY bQ b)),(rc 217 3 K [sl g a.cd.k j, .int .u64 (a.cd.N%4294967296), .int .u64 a.cd.R]),(ru 5 g a.cd.k j (beL a.cd.k (a.cd.N/4294967296))),(rc 214 5 J [PG p,PG r,PG x,I a.cls,I o]),(rc 222 2 p [sl y 258 q,I (bL a.c0)]),(ri 3 y 258 q a.c0),(rc 222 2 r [sl jp 258 B,I (bL a.c1)]),(ri 3 jp 258 B a.c1),(rc 222 2 x [sl u 258 m,I (bL a.c2)]),(ri 3 u 258 m a.c2)]) (λi g j a=>(0<=i)/\(i<=(bW b).length)/\(a=encP o ((bW b).take i.toNat))) (λi g j a=>((bW b).length-i).toNat) ?_ ?_
 ·exact⟨0,sv,px,pp0,⟨G,G,(Z)⟩,KP⟩
 intro i g j a ⟨M,gn,C⟩;have d:=aSo S C;refine aD Z<|aA<|aR Z ?_ ?_<;>intro ap
 ·have l:=S _ (bM (L:=bW b) (k:=i) M G);refine aG<|aA<|aF<|wq<|wy (aC ak sz3 Z Z (rdr 1 Z))<|wy (aQ av Z Z (rdr 1 Z))<|aB Z<|wq ?_;rcases KW d.1 X with hk|hk|hk
  ·refine wm Z<|dD (aH vV Z (Ct.at 5 Z (yU hk)))<|wm Z<|dD (aH aJf Z (Ct.pk [6,7,0,1,2,3,4,5,8,9,10,11] 99 (h:=nK (by rw[d.1.1.1.1]) (by rw[d.1.1.1.1];exact l) d.1.1.1))) ?_;refine aB Z<|aK 4 Z<|dD (aH vV Z (Ct.at 7 Z (yU hk)))<|dD (aH aJe Z (Ct.sub (R1:=[(rc 222 2 p [sl y 258 q,I (bL a.c0)]),(ri 3 y 258 q a.c0),(ri 3 (GG Q) 1 1 ([257])),(ri 3 F (((dR 0 (dY bQ b)).length)+1) H (syb b)),(ru 5 O ((b).length) P (dY bQ b)),(rc 217 3 K [sl g a.cd.k j, .int .u64 (a.cd.N%4294967296), .int .u64 a.cd.R]),(ru 5 g a.cd.k j (beL a.cd.k (a.cd.N/4294967296))),(rc 214 5 J [PG p,PG r,PG x,I a.cls,I o]),(rc 222 2 r [sl jp 258 B,I (bL a.c1)]),(ri 3 jp 258 B a.c1),(rc 222 2 x [sl u 258 m,I (bL a.c2)]),(ri 3 u 258 m a.c2)]) hiZ (kQ)))<|dG (aH bGt Z (Ct.pk [5,6,0,1,2,3,4,7,8,9,10,11] 99 (h:=UD Z d.1.2.2 (lC d.1.1.1 l.1 l.2) G))) λnd nh=>aJ<|aT 2 Z<|dD (aH aBe Z (Ct.pk [7,2,3,0,1,4,5,6,8,9,10,11] 99 (h:=SS hk (by rw[d.1.1.1.1];exact l) d.1.1.1))) ?_;exact aJ<|bK<|wA Z Z<|aB Z<|⟨i+1,nd,nh,(⟨nS a.c0 (rd (bW b) i),a.c1,a.c2,gU (rd (bW b) i),mM a.cd a.c0 (rd (bW b) i)⟩:PpS),⟨G,G,(xG C M G (aQi hk))⟩,G,SA,λ_ h=>h.sel [5,6,7,3,4,0,1,2,8,9,10,11] cC Z⟩
  ·refine wm Z<|dD (aH vV Z (Ct.at 5 Z (yT hk)))<|wm Z<|dD (aH aJf Z (Ct.pk [8,9,0,1,2,3,4,5,6,7,10,11] 99 (h:=nK (by rw[d.1.1.2.1.1]) (by rw[d.1.1.2.1.1];exact l) d.1.1.2.1))) ?_;refine aB Z<|aK 4 Z<|dD (aH vV Z (Ct.at 7 Z (yT hk)))<|dD (aH aJe Z (Ct.sub (R1:=[(rc 222 2 r [sl jp 258 B,I (bL a.c1)]),(ri 3 jp 258 B a.c1),(ri 3 (GG Q) 1 1 ([257])),(ri 3 F (((dR 0 (dY bQ b)).length)+1) H (syb b)),(ru 5 O ((b).length) P (dY bQ b)),(rc 217 3 K [sl g a.cd.k j, .int .u64 (a.cd.N%4294967296), .int .u64 a.cd.R]),(ru 5 g a.cd.k j (beL a.cd.k (a.cd.N/4294967296))),(rc 214 5 J [PG p,PG r,PG x,I a.cls,I o]),(rc 222 2 p [sl y 258 q,I (bL a.c0)]),(ri 3 y 258 q a.c0),(rc 222 2 x [sl u 258 m,I (bL a.c2)]),(ri 3 u 258 m a.c2)]) hiZ (kQ)))<|dG (aH bGt Z (Ct.pk [5,6,0,1,2,3,4,7,8,9,10,11] 99 (h:=UD Z d.1.2.2 (lC d.1.1.2.1 l.1 l.2) G))) λtc tg=>aJ<|aT 2 Z<|dD (aH aBe Z (Ct.pk [7,2,3,0,1,4,5,6,8,9,10,11] 99 (h:=SQ hk (by rw[d.1.1.2.1.1];exact l) d.1.1.2.1))) ?_;exact aJ<|bK<|wA Z Z<|aB Z<|⟨i+1,tc,tg,(⟨a.c0,nS a.c1 (rd (bW b) i),a.c2,gU (rd (bW b) i),mM a.cd a.c1 (rd (bW b) i)⟩:PpS),⟨G,G,(xG C M G (aQh hk))⟩,G,SA,λ_ h=>h.sel [5,6,7,3,4,0,8,9,1,2,10,11] cC Z⟩
  refine wm Z<|dD (aH vV Z (Ct.at 5 Z (yS hk)))<|wm Z<|dD (aH aJf Z (Ct.pk [10,11,0,1,2,3,4,5,6,7,8,9] 99 (h:=nK (by rw[d.1.1.2.2.1]) (by rw[d.1.1.2.2.1];exact l) d.1.1.2.2))) ?_;refine aB Z<|aK 4 Z<|dD (aH vV Z (Ct.at 7 Z (yS hk)))<|dD (aH aJe Z (Ct.sub (R1:=[(rc 222 2 x [sl u 258 m,I (bL a.c2)]),(ri 3 u 258 m a.c2),(ri 3 (GG Q) 1 1 ([257])),(ri 3 F (((dR 0 (dY bQ b)).length)+1) H (syb b)),(ru 5 O ((b).length) P (dY bQ b)),(rc 217 3 K [sl g a.cd.k j, .int .u64 (a.cd.N%4294967296), .int .u64 a.cd.R]),(ru 5 g a.cd.k j (beL a.cd.k (a.cd.N/4294967296))),(rc 214 5 J [PG p,PG r,PG x,I a.cls,I o]),(rc 222 2 p [sl y 258 q,I (bL a.c0)]),(ri 3 y 258 q a.c0),(rc 222 2 r [sl jp 258 B,I (bL a.c1)]),(ri 3 jp 258 B a.c1)]) hiZ (kQ)))<|dG (aH bGt Z (Ct.pk [5,6,0,1,2,3,4,7,8,9,10,11] 99 (h:=UD Z d.1.2.2 (lC d.1.1.2.2 l.1 l.2) G))) λvt wb=>aJ<|aT 2 Z<|dD (aH aBe Z (Ct.pk [7,2,3,0,1,4,5,6,8,9,10,11] 99 (h:=SN hk (by rw[d.1.1.2.2.1];exact l) d.1.1.2.2))) ?_;exact aJ<|bK<|wA Z Z<|aB Z<|⟨i+1,vt,wb,(⟨a.c0,a.c1,nS a.c2 (rd (bW b) i),gU (rd (bW b) i),mM a.cd a.c2 (rd (bW b) i)⟩:PpS),⟨G,G,(xG C M G (aQg hk))⟩,G,SA,λ_ h=>h.sel [5,6,7,3,4,0,8,9,10,11,1,2] cC Z⟩
 refine aP<|aK 1 Z<|dG (aH bYy Z (Ct.pk [3,4,0,1,2,5,6,7,8,9,10,11] 99 (h:=bFt Z G))) λyb zj=>aB Z<|aL [0] 99<|⟨_,_,Z,Z,?_⟩;rw[bg G] at C;have e:(bT b o).length=a.cd.k+4:=by unfold bT;rw[mQ,<-C]
 have e2:bT b o=beL (a.cd.k+4) a.cd.N:=by unfold bT;rw[<-C]
 rw[e,e2];exact⟨_,_,Z,Z⟩
end
section
variable {B g n c:Nat} {w0:World} {R:List Row} {A:AF} {x:AH} {us cc r total:Int}
theorem yV {C:AH} {y v0:Int} (hn:n=C.length) (a:mD C) (d:0<=y/\y<258) (j:bL (C.take y.toNat)<=v0/\v0<bL (C.take y.toNat)+rd C y):
  CT 223 #[PG g,I v0] B w0 ((rc 222 2 g [sl A n c,I (bL C)])::(ri 3 A n c C)::R) (λv R'=>v= .tuple #[I y,bt]/\R'=(rc 222 2 g [sl A n c,I (bL C)])::(ri 3 A n c C)::R):=by
 subst hn;have mt:=a.1;have h:=a.le.part d.1 d.2;have k:=tJ (i:=y) a.2.1 d.1 G;refine fn2 func223 Z Z Z<|aD Z<|aA<|aK 1 Z<|wy (Yl.f (fD Z Z))<|bH 3 Z<|aN Z Z<|dD (aH aJe Z ((kQ)))<|aN Z Z<|wy (Yl.f (pG Z Z))<|aB Z<|aM Z<|aG<|aA<|aF<|dF (λ(i:Int) (x:Int)=>[(0,PG g),(1,I x),(4,I i)]) (λi x=>((rc 222 2 g [sl A C.length c,I (bL C)])::(ri 3 A C.length c C)::R)) (λi x=>(0<=i)/\(i<=y)/\(x=v0-bL (C.take i.toNat))) (λi x=>(y-i).toNat) ?_ ?_
 ·exact⟨0,v0,⟨G,G,(by rw[show bL (C.take (0:Int).toNat)=0 from rfl];omega)⟩,KP⟩
 intro i x ⟨b,e,m⟩;have hp:=a.le.part b G;refine aA<|cB [0] 6 Z<|wy (aC ak sz3 Z Z (rdr 1 Z))<|wy (aQ av Z Z (rdr 1 Z))<|aB Z<|aR Z ?_ ?_<;>intro ap
 ·have l:i≠y:=by rintro rfl;omega
  exact aG<|aF<|cB [0] 6 Z<|wy (aC ak sz3 Z Z (rdr 1 Z))<|wy (aQ av Z Z (rdr 1 Z))<|wS Z Z<|aB Z<|aT 1 Z<|wA Z Z<|aB Z<|⟨i+1,x-(rd C i),⟨G,G,(by rw[kW b G];omega)⟩,G,KP⟩
 refine aP<|aD Z<|aS<|⟨_,_,Z,Z,?_⟩;obtain rfl:i=y:=aQk a.2.1 b e G j.1 G;exact⟨Z,Z⟩
theorem qU {M:Int} {m:Nat} (hn:n=x.length) (b:aI x) (e:x.length<=1000000) (hu:us=(m:Int)) (hc:cc=lZ (x.take m)-M) (hb:0<=cc/\cc<4294967296) (a:m<x.length):
  CT 247 #[PG g] B w0 ((rc 289 4 g [sl A n c,I us, .int .u64 cc, .int .u64 r])::(ru 5 A n c x)::R) (λv R'=>v=bt/\R'=(rc 289 4 g [sl A n c,I ((m+1:Nat):Int), .int .u64 (lZ (x.take (m+1))-M*256), .int .u64 r])::(ru 5 A n c x)::R):=by
 subst hn;subst hu;have d:=b.rd (m:Int);refine fn1 func247 Z Z Z<|aD Z<|aA<|aA<|bE mixed<|fU [0,0] 0 9 Z<|wD 9 Z (Yl.f (pG Z Z))<|wN<|aM Z<|aG<|aA<|bE mixed<|fU [0] 0 5 Z<|wD 5 Z (pM (k:=8) (m:=256) Z Z Z G Z)<|fU [0,0] 6 8 Z<|wD 14 Z (aC ai sz5 Z Z (rdr 1 Z))<|wD 15 Z (aQ ay Z Z (rdr 1 Z))<|wD 16 Z (dO ay ic Z)<|wD 17 Z (aEz (p:=cc) (m:=256) 8 Z Z Z G G)<|bF 18 2 Z<|qN 20 Z cA (aV 0 Z Z Z wP Z Z Z Z (ah Z)) ?_;rintro _ _ rfl;refine⟨.inl cA,?_⟩;refine wN<|cB [0] 4 Z<|wA Z Z<|bH 2 Z<|bN (aV 0 Z Z Z sz3 Z Z Z Z (ah Z))<|aJ<|aD Z<|aS<|⟨_,Z,?_⟩;rw[CG a hc];exact⟨Z,Z⟩
theorem UW {w:World} {ao:AF} {ar an:Nat} {u:AH} (am:R4 w ao ar an u) (a:aI u) (b:u.length<=1000000) (l:4<=u.length):
  CF 221 #[sl ao ar an] w (λv R'=> ∃g A c,v= .tuple #[PG g,bt]/\R'=[(rc 289 4 g [sl A u.length c,I ((cd0.k+4:Nat):Int), .int .u64 (cuC u cd0), .int .u64 cd0.R]),(ru 5 A u.length c u)]):=by
 obtain rfl:=am.lenI;refine fn2 func221 Z Z Z ?_;have p:=EI 0 (u.take 0) (by rw[ax];omega) (a.take _);have q:=EI 1 (u.take 1) (by rw[ax];omega) (a.take _);have h:=EI 2 (u.take 2) (by rw[ax];omega) (a.take _);have j:=EI 3 (u.take 3) (by rw[ax];omega) (a.take _);refine aD Z<|aA<|aK 2 Z<|wy (Yl.f (fD Z Z))<|aJ<|aM Z<|aG<|aK 1 Z<|bZ aXh Z (λw i=>uD ((am.c _) w i) b) λe d=>wy (bV (v:= .agg #[sl e u.length d,I 0, .int .u64 0, .int .u64 4294967295]) Z (λw=>cA))<|aX (dC (sz:=4) rfl rfl) λo=>aB rfl<|aA<|aD rfl<|aF<|kI 5<|eD<|wq<|wy (Yl.t (fD rfl rfl) cC)<|aJ<|aA<|bA rfl<|aG<|aA<|aF<|aT 1 Z<|dD (aH WE Z ((qU (m:=0) (M:=0) Z a b Z Z (by first|exact⟨cC,cC⟩|(simp only[oh,Nat.reduceAdd,Gw,Eh];omega)) G))) ?_;refine aJ<|bK<|wy (Yl.is (dJ Z Z) Z)<|aB Z<|eD<|wq<|wy (Yl.t (fD Z Z) cC)<|aJ<|aA<|bA Z<|aG<|aA<|aF<|aT 1 Z<|dD (aH WE Z ((qU (m:=0+1) (M:=(0*256)) Z a b Z Z (by first|exact⟨cC,cC⟩|(simp only[oh,Nat.reduceAdd,Gw,Eh];omega)) G))) ?_;refine aJ<|bK<|wy (Yl.is (dJ Z Z) Z)<|aB Z<|eD<|wq<|wy (Yl.t (fD Z Z) cC)<|aJ<|aA<|bA Z<|aG<|aA<|aF<|aT 1 Z<|dD (aH WE Z ((qU (m:=0+1+1) (M:=(0*256*256)) Z a b Z Z (by first|exact⟨cC,cC⟩|(simp only[oh,Nat.reduceAdd,Gw,Eh];omega)) G))) ?_;refine aJ<|bK<|wy (Yl.is (dJ Z Z) Z)<|aB Z<|eD<|wq<|wy (Yl.t (fD Z Z) cC)<|aJ<|aA<|bA Z<|aG<|aA<|aF<|aT 1 Z<|dD (aH WE Z ((qU (m:=0+1+1+1) (M:=(0*256*256*256)) Z a b Z Z (by first|exact⟨cC,cC⟩|(simp only[oh,Nat.reduceAdd,Gw,Eh];omega)) G))) ?_;refine aJ<|bK<|wy (Yl.is (dJ Z Z) Z)<|aB Z<|eD<|wq<|wy (Yl.f (fD Z Z) cC)<|aJ<|aA<|aM Z<|aP<|aD Z<|aS<|⟨_,_,Z,Z,?_⟩;exact⟨_,_,_,Z,Z⟩
theorem aWt (hn:n=x.length) (e:1<=total/\total<=65536) (d:16777216<=r/\r<4294967296) (hc:0<=cc/\cc<4294967296) (h:cc/(r/total)<total):
  CT 222 #[PG g,I total] B w0 ((rc 289 4 g [sl A n c,I us, .int .u64 cc, .int .u64 r])::(ru 5 A n c x)::R) (λv R'=>v= .tuple #[I (cc/(r/total)),bt]/\R'=(rc 289 4 g [sl A n c,I us, .int .u64 cc, .int .u64 r])::(ru 5 A n c x)::R):=by
 subst hn;have b:256<=r/total:=(uo G).2 G;have a:0<=cc/(r/total):=Aa hc.1 G;refine fn2 func222 Z Z Z<|aD Z<|aA<|aK 1 Z<|wy (kT Ji Z Z)<|bH 2 Z<|aN Z Z<|wy (Yl.f (fD Z Z))<|bH 3 Z<|aN Z Z<|wy (Yl.f (iL Z Z))<|aB Z<|aM Z<|aG<|cB [0] 5 Z<|wy (dO av ic Z)<|wy (sI Z Z G G)<|aB Z<|aA<|aK 1 Z<|wy (Yl.f (pU Z Z))<|iC [0] 6 Z<|aN Z Z<|wy (sI Z Z G G)<|bH 1 Z<|aN Z Z<|wy (dO av ic Z)<|aN Z Z<|wy (Yl.f (pG Z Z))<|aB Z<|aM Z<|aG<|cB [0] 5 Z<|wy (sI Z Z G G)<|wy (gV ic av Z)<|aB Z<|aS<|⟨_,_,Z,Z,?_⟩;exact⟨Z,Z⟩
theorem aTy {s:CdS} {low size:Int} (hn:n=x.length) (h:aI x) (l:x.length<=1000000) (hs:16777216<=s.R/\s.R<4294967296) (b:rH low size total) (d5:s.R/total*low<=cuC x s) (F:cuC x s<s.R/total*(low+size)) (hlen:(lW s low size total).k+4<=x.length):
  CT 224 #[PG g,I low,I size,I total] B w0 ((rc 289 4 g [sl A n c,I ((s.k+4:Nat):Int), .int .u64 (cuC x s), .int .u64 s.R])::(ru 5 A n c x)::R) (λv R'=>v=bt/\R'=(rc 289 4 g [sl A n c,I (((lW s low size total).k+4:Nat):Int), .int .u64 (cuC x (lW s low size total)), .int .u64 ((lW s low size total).R)])::(ru 5 A n c x)::R):=by
 subst hn;have o:=b;obtain⟨H,J,K,L⟩:=o;obtain⟨f1,f2,f3,f4,f5⟩:=mX b hs;have q:=Ec (s.R/total) low size;have O:s.k+shN (s.R/total*size)+4<=x.length:=hlen;refine fn1 func224 Z Z Z<|aD Z<|aA<|aK 1 Z<|wy (kT Ji Z Z)<|bH 4 Z<|aN Z Z<|dZ bGk Z (λw C=>BO b)<|aB Z<|aM Z<|aG<|cB [0] 5 Z<|wy (dO av ic Z)<|wy (sI Z Z G G)<|aB Z<|aA<|cB [0] 6 Z<|wy (dO av ic Z)<|wy (mV Z Z G)<|wy (Yl.f (fD Z Z))<|iC [0] 8 Z<|aN Z Z<|wA Z Z<|aN Z Z<|wy (dO av ic Z)<|aN Z Z<|wy (mV Z Z G)<|aN Z Z<|wy (Yl.f (pG Z Z))<|aB Z<|aM Z<|aG<|cB [0] 6 Z<|wy (dO av ic Z)<|wy (mV Z Z G)<|wy (aKv Z Z G)<|bH 2 Z<|bN (aV 0 Z Z Z wP Z Z Z Z (ah Z)) ?_;refine aJ<|aA<|aK 3 Z<|wy (dO av ic Z)<|wy (mV Z Z G)<|bH 2 Z<|bN (aV 0 Z Z Z wP Z Z Z Z (ah Z))<|aJ<|aF<|DD (λ(j:Nat) (cc:Int) (r:Int) (M:Int)=>[(0,PG g)]) (λj cc r M=>((rc 289 4 g [sl A x.length c,I ((s.k+j+4:Nat):Int), .int .u64 cc, .int .u64 r])::(ru 5 A x.length c x)::R)) (λj cc r M=>(M=(s.N+s.R/total*low)*256^j)/\(r=(s.R/total*size)*256^j)/\(j<=shN (s.R/total*size))/\(cc=lZ (x.take (s.k+j+4))-M)/\(0<=cc/\cc<r)) (λj cc r M=>(4-j)) ?_ ?_
 ·exact⟨0,(cuC x s-s.R/total*low),(s.R/total)*size,(s.N+s.R/total*low),⟨(by rw[rz,wh]),(by rw[rz,wh]),(oq _),(by show cuC x s-s.R/total*low=lZ (x.take (s.k+4))-_;unfold cuC;omega),G⟩,KP⟩
 intro j cc r M ⟨d,a,e,hc,hb⟩;have D:=AA (s.R/total*size);have u:1<=r:=by rw[a];exact xJ G
 refine aA<|lK [0] Z<|aR Z ?_ ?_<;>intro ap
 ·have i:j+1<=shN (s.R/total*size):=xH G e (by rw[<-a];assumption);have io:=CG (x:=x) (m:=s.k+j+4) G hc;have y:=h.rd ((s.k+j+4:Nat):Int);have p:0<=lZ (x.take (s.k+j+4+1))-M*256/\lZ (x.take (s.k+j+4+1))-M*256<r*256:=G
  exact aG<|aA<|aF<|aK 1 Z<|dD (aH WE Z ((qU (m:=(s.k+j+4)) (M:=M) Z h l Z hc G G)))<|aB Z<|aM Z<|aG<|nQ [0] 4 Z<|wy (pM (k:=8) (m:=256) Z Z Z G Z)<|bH 2 Z<|bN (aV 0 Z Z Z wP Z Z Z Z (ah Z))<|aJ<|⟨(j+1),(lZ (x.take (s.k+j+4+1))-M*256),r*256,(M*256),⟨(by rw[d,qc,<-tq]),(by rw[a,qc,<-tq]),(i),(Z),(p)⟩,G,KP⟩
 refine aP<|aD Z<|aS<|⟨_,Z,?_⟩;obtain rfl:j=shN (s.R/total*size):=DL G e (by rw[<-a];omega);rw[hc,a,d];exact⟨Z,Z⟩
end
section
variable {w:World} {x0 x n:Int}
theorem bKx (u:0<=x0/\x0<18446744073709551616):
  CF 49 #[.int .u64 x0] w (λv R'=> ∃A c,v=sl A ((aU x0).length) c/\R'=[(ru 5 A ((aU x0).length) c (aU x0))]):=by
 refine fn1 func49 Z Z Z ?_;have hlen:=cK 9 x0 G;refine aD Z<|wq<|dX (ru 5 none 0 0 ([]))<|aB Z<|aA<|aF<|eT (λ(A1:AF) (a:Nat) (c1:Nat) (acc:AH) (x:Int)=>[(0, .int .u64 x),(3,sl A1 a c1)]) (λA1 a c1 acc x=>[(ru 5 A1 a c1 acc)]) (λA1 a c1 acc x=>(a=acc.length)/\(0<=x/\x<18446744073709551616)/\(aU x0=acc++aU x)) (λA1 a c1 acc x=>x.toNat) ?_ ?_
 ·exact⟨none,0,0,[],x0,⟨(Z),G,(Z)⟩,KP⟩
 intro A1 a c1 acc x ⟨d,q,b⟩;have p:=bi List.length b;rw[aa] at p;refine aA<|aD Z<|aR Z ?_ ?_<;>intro ap
 ·exact aG<|aF<|aK 2 Z<|wy (eP ic ay Z)<|wy (bUo Z Z G)<|aX (bG .u8 [(x%256)%128+128] ai zs5 Z Z Z) λr=>dG (aO 1 Z ai zb5 Z Z Z (rdr 0 Z)) λg i=>bC (v:=sl g (a+1) i) Z<|aB Z<|aT 1 Z<|wy (rM (k:=7) (m:=128) Z Z Z G Z)<|aB Z<|⟨g,a+1,i,acc++([(x%256)%128+128]),x/128,⟨(by rw[aa,d];try rfl),G,(aAe b G G G)⟩,G,SA,λ_ h=>h.sel [1] cC Z⟩
 refine aP<|aK 2 Z<|wy (eP ic ay Z)<|aX (bG .u8 [x%256] ai zs5 Z Z Z) λy=>dG (aO 1 Z ai zb5 Z Z Z (rdr 0 Z)) λo l=>bC (v:=sl o (a+1) l) Z<|aB Z<|aL [1] 99<|⟨_,Z,?_⟩;have e:acc++[x%256]=aU x0:=by rw[b,kM G,kg G G]
 have j:a+1=(aU x0).length:=by rw[<-e,aa,d];rfl
 rw[e,j];exact⟨_,_,Z,Z⟩
theorem aGf (u:0<=x0/\x0<18446744073709551616):
  CF 29 #[.int .u64 x0] w (λv R'=> ∃A c,v=sl A ((aU x0).length) c/\R'=[(ru 5 A ((aU x0).length) c (aU x0))]):=by
 refine fn1 func29 Z Z Z ?_;have hlen:=cK 9 x0 G;refine aD Z<|wq<|dX (ru 5 none 0 0 ([]))<|aB Z<|aA<|aF<|eT (λ(A1:AF) (a:Nat) (c1:Nat) (acc:AH) (x:Int)=>[(0, .int .u64 x),(3,sl A1 a c1)]) (λA1 a c1 acc x=>[(ru 5 A1 a c1 acc)]) (λA1 a c1 acc x=>(a=acc.length)/\(0<=x/\x<18446744073709551616)/\(aU x0=acc++aU x)) (λA1 a c1 acc x=>x.toNat) ?_ ?_
 ·exact⟨none,0,0,[],x0,⟨(Z),G,(Z)⟩,KP⟩
 intro A1 a c1 acc x ⟨d,q,b⟩;have p:=bi List.length b;rw[aa] at p;refine aA<|aD Z<|aR Z ?_ ?_<;>intro ap
 ·exact aG<|aF<|aK 2 Z<|wy (PT (m:=128) 7 Z Z Z Z G Z)<|wy (bUn (m:=128) 7 Z Z Z G G)<|wy (eP ic ay Z)<|aX (bG .u8 [((x%128)+128)%256] ai zs5 Z Z Z) λr=>dG (aO 1 Z ai zb5 Z Z Z (rdr 0 Z)) λg i=>bC (v:=sl g (a+1) i) Z<|aB Z<|aT 1 Z<|wy (rM (k:=7) (m:=128) Z Z Z G Z)<|aB Z<|⟨g,a+1,i,acc++([((x%128)+128)%256]),x/128,⟨(by rw[aa,d];try rfl),G,(aAe b G G G)⟩,G,SA,λ_ h=>h.sel [1] cC Z⟩
 refine aP<|aK 2 Z<|wy (eP ic ay Z)<|aX (bG .u8 [x%256] ai zs5 Z Z Z) λy=>dG (aO 1 Z ai zb5 Z Z Z (rdr 0 Z)) λo l=>bC (v:=sl o (a+1) l) Z<|aB Z<|aL [1] 99<|⟨_,Z,?_⟩;have e:acc++[x%256]=aU x0:=by rw[b,kM G,kg G G]
 have j:a+1=(aU x0).length:=by rw[<-e,aa,d];rfl
 rw[e,j];exact⟨_,_,Z,Z⟩
theorem KG (b:0<=x/\x<4294967296):
  CF 56 #[.int .u32 x] w (λv R'=> ∃A c,v=sl A 4 c/\R'=[(ru 5 A 4 c (fT x))]):=by
 refine fn1 func56 Z Z Z<|aD Z<|wq<|aX (dU ai zb5 Z Z) λa=>bC (v:=sl (GG a) 4 4) Z<|aB Z<|aA<|aD Z<|aF<|kI 5<|eD<|wq<|wy (Yl.t (fD Z Z) cC)<|aJ<|aA<|bA Z<|aG<|aA<|aF<|aD Z<|aT 4 Z<|wy (Yl.is (jG Z Z) Z)<|wy (FW (k:=0) (m:=1) Z Z Z G Z)<|wy (eP qm ay Z)<|wy (aC ai sz5 Z Z (rdr 0 Z))<|bN (bJ 0 Z sz5 Z Z)<|aJ<|bK<|wy (Yl.is (dJ Z Z) Z) ?_;refine aB Z<|eD<|wq<|wy (Yl.t (fD Z Z) cC)<|aJ<|aA<|bA Z<|aG<|aA<|aF<|aD Z<|aT 4 Z<|wy (Yl.is (jG Z Z) Z)<|wy (FW (k:=8) (m:=256) Z Z Z G Z)<|wy (eP qm ay Z)<|wy (aC ai sz5 Z Z (rdr 0 Z))<|bN (bJ 0 Z sz5 Z Z)<|aJ<|bK<|wy (Yl.is (dJ Z Z) Z)<|aB Z<|eD<|wq<|wy (Yl.t (fD Z Z) cC)<|aJ<|aA<|bA Z<|aG ?_;refine aA<|aF<|aD Z<|aT 4 Z<|wy (Yl.is (jG Z Z) Z)<|wy (FW (k:=16) (m:=65536) Z Z Z G Z)<|wy (eP qm ay Z)<|wy (aC ai sz5 Z Z (rdr 0 Z))<|bN (bJ 0 Z sz5 Z Z)<|aJ<|bK<|wy (Yl.is (dJ Z Z) Z)<|aB Z<|eD<|aA<|bK<|wy (Yl.t (fD Z Z) cC)<|aJ<|aA<|bA Z<|aG<|aA<|aF<|aD Z<|aT 4 Z<|wy (Yl.is (jG Z Z) Z)<|wy (FW (k:=24) (m:=16777216) Z Z Z G Z)<|wy (eP qm ay Z)<|wy (aC ai sz5 Z Z (rdr 0 Z))<|bN (bJ 0 Z sz5 Z Z) ?_;exact aJ<|bK<|wy (Yl.is (dJ Z Z) Z)<|aB Z<|eD<|wq<|wy (Yl.f (fD Z Z) cC)<|aJ<|aA<|aM Z<|aP<|aD Z<|aL [0] 99<|⟨_,Z,_,_,Z,Z⟩
theorem aUy (b:0<=x/\x<4294967296):
  CF 62 #[.int .u32 x] w (λv R'=> ∃A c,v=sl A 4 c/\R'=[(ru 5 A 4 c (fT x))]):=by
 refine fn1 func62 Z Z Z<|aD Z<|aK 1 Z<|wy (eP qm ay Z)<|wm Z<|wy (FW (k:=8) (m:=256) Z Z Z G Z)<|wy (eP qm ay Z)<|wm Z<|wy (FW (k:=16) (m:=65536) Z Z Z G Z)<|wy (eP qm ay Z)<|wm Z<|wy (FW (k:=24) (m:=16777216) Z Z Z G Z)<|wy (eP qm ay Z)<|aX (bG .u8 [x%256,(x/256)%256,(x/65536)%256,(x/16777216)%256] ai zs5 Z Z Z) λa=>aB Z<|aL [0] 99<|⟨_,Z,?_⟩;unfold fT;rw[Int.ediv_one];exact⟨_,_,Z,Z⟩
theorem jA (d:0<=n/\n<9223372036854775808):
  CF 23 #[I n] w (λv R'=> ∃A c,v=sl A ((aU n).length) c/\R'=[(ru 5 A ((aU n).length) c (aU n))]):=by
 exact fn1 func23 Z Z Z<|aD Z<|aK 1 Z<|wy (dO av ic Z)<|bZ cAv Z (λw e=>bKx G) λb a=>aB Z<|aL [0] 99<|⟨_,Z,_,_,Z,Z⟩
theorem iX (d:0<=n/\n<9223372036854775808):
  CF 12 #[I n] w (λv R'=> ∃A c,v=sl A ((aU n).length) c/\R'=[(ru 5 A ((aU n).length) c (aU n))]):=by
 exact fn1 func12 Z Z Z<|aD Z<|aK 1 Z<|wy (dO av ic Z)<|bZ bWh Z (λw e=>aGf G) λb a=>aB Z<|aL [0] 99<|⟨_,Z,_,_,Z,Z⟩
end
section
variable {w:World} {k:Int}
theorem sD {h:AF} {b i:Nat} {ks:AH} (d:R5 w h b i ks) (l:(0<=k/\k<=1048576)/\ ∀x∈ks,0<=x/\x<k):
  CF 234 #[sl h b i,I k] w (λv R'=> ∃A c,v= .tuple #[sl A k.toNat c,bt]/\R'=[(ri 3 A k.toNat c (gF ks k))]):=by
 obtain rfl:=d.lenI;refine fn2 func234 Z Z Z ?_;have p:=d.max;have hk:=l.1;refine aD Z<|aA<|aK 3 Z<|bD 3 [0,1] 14 (.bool (decide ((k<0)\/(1048576<k)))) Z ?_ ?_
 ·refine bB 11 Z ?_ ?_<;>intro ap
  ·exact aB Z<|KP
  exact aB Z<|KP
 refine pW 14 Z G<|aJ<|aM Z<|aG<|aK 1 Z<|aX (dU ak zb3 Z Z) λj=>bC (v:=sl (GG j) ((k).toNat) ((k).toNat)) Z<|aB Z<|aA<|aD Z<|aF<|dF (λ(m:Int) (V:AH)=>[(1,I k),(6,sl (GG j) ((k).toNat) ((k).toNat)),(17,sl h ks.length i),(18,I (ks.length:Int)),(19,I m)]) (λm V=>[(ri 3 (GG j) ((k).toNat) ((k).toNat) V)]) (λm V=>(0<=m)/\(m<=ks.length)/\(V=gF (ks.take m.toNat) k)) (λm V=>(ks.length-m).toNat) ?_ ?_
 ·exact⟨0,List.replicate ((k).toNat) (0:Int),⟨G,G,((aJu k).symm)⟩,KP⟩
 intro m V ⟨q,y,g⟩;refine aD Z<|aA<|aR Z ?_ ?_<;>intro r
 ·have o:=l.2 _ (bM (L:=ks) q G)
  have hb:0<=rd V (rd ks m)/\rd V (rd ks m)<=m:=by
   have a:=WK (ks:=ks.take m.toNat) (k:=k) (x:=rd ks m);rw[<-g,ax] at a;omega
  refine aG<|aA<|aF<|wq<|wy (aC ak sz3 Z Z (d.c _))<|wy (aQ av Z Z (d.c _))<|aB Z<|aA<|aK 3 Z<|bD 4 [1,6,8,17,18,19] 29 (.bool (decide (((rd ks m)<0)\/(k<=(rd ks m))))) Z ?_ ?_
  ·refine bB 25 Z ?_ ?_<;>intro u
   ·exact aB Z<|KP
   exact aB Z<|KP
  exact pW 29 Z G<|aJ<|aM Z<|aG<|aT 2 Z<|wy (aC ak sz3 Z Z (rdr 0 Z))<|wy (aQ av Z Z (rdr 0 Z))<|wA Z Z<|wy (aC ak sz3 Z Z (rdr 0 Z))<|bN (bJ 0 Z sz3 Z Z)<|aJ<|bK<|wA Z Z<|aB Z<|⟨m+1,upd V (rd ks m) ((rd V (rd ks m))+1),⟨G,G,(by rw[dP q G,<-aBh o.1 o.2,<-g])⟩,G,KP⟩
 refine aP<|aD Z<|aL [0] 99<|⟨_,_,Z,Z,?_⟩;have e:ks.take m.toNat=ks:=bg G;rw[e] at g;subst g;exact⟨_,_,Z,Z⟩
theorem DK {d:AF} {a e:Nat} {cs:AH} (b:R5 w d a e cs) (l: ∀x∈cs,0<=x) (m4:cs.sum<=1000000000) (mt:cs.length<=1048576):
  CF 248 #[sl d a e] w (λv R'=> ∃A c,v=sl A (eF cs).length c/\R'=[(ri 3 A ((eF cs).length) c (eF cs))]):=by
 obtain rfl:=b.lenI;refine fn1 func248 Z Z Z<|aD Z<|aK 2 Z<|aX (dU ak zb3 Z Z) λh=>bC (v:=sl (GG h) cs.length cs.length) Z<|aB Z<|aD Z<|aA<|aD Z<|aF<|gX (λ(i:Int) (n:Int) (V:AH)=>[(3,sl (GG h) cs.length cs.length),(4,I n),(10,sl d cs.length e),(11,I (cs.length:Int)),(12,I i)]) (λi n V=>[(ri 3 (GG h) cs.length cs.length V)]) (λi n V=>(0<=i)/\(i<=cs.length)/\(n=ps cs i)/\(V.length=cs.length)/\(∀j:Int,0<=j->j<i->rd V j=ps cs j)) (λi n V=>(cs.length-i).toNat) ?_ ?_
 ·exact⟨0,0,List.replicate cs.length (0:Int),⟨G,G,(Z),(by rw[df]),(λj h1 m=>G)⟩,KP⟩
 intro i n V ⟨g,p,hn,hl,k⟩;refine aD Z<|aA<|aR Z ?_ ?_<;>intro ap
 ·have q:=BA l i;have o:=BA l (i+1);rw[nY g G] at o;exact aG<|aA<|aF<|aK 1 Z<|wy (aC ak sz3 Z Z (b.c _))<|wy (aQ av Z Z (b.c _))<|aB Z<|aK 3 Z<|wy (aC ak sz3 Z Z (rdr 0 Z))<|bN (bJ 0 Z sz3 Z Z)<|aJ<|aT 2 Z<|wA Z Z<|aB Z<|bK<|wA Z Z<|aB Z<|⟨i+1,n+(rd cs i),upd V i n,⟨G,G,(by rw[nY g G,hn]),(by rw[aW];exact hl),(gG g G k hn)⟩,G,KP⟩
 refine aP<|aD Z<|aL [0] 99<|⟨_,Z,?_⟩;obtain rfl:V=eF cs:=bP (hl.trans (gT cs).symm) λj h1 m=>by rw[qV h1 G];exact k j h1 G
 rw[gT];exact⟨_,_,Z,Z⟩
theorem yR {o:AF} {J p:Nat} {order:AH} {t7:AF} {K t8:Nat} {keys:AH} (l:R5 w o J p order) (b:R5 w t7 K t8 keys) (hk:0<=k/\k<=1048576) (M: ∀x∈keys,0<=x/\x<k) (u: ∀i∈order,0<=i/\i<keys.length) (hlen:order.length<=1000000):
  CF 225 #[sl o J p,sl t7 K t8,I k] w (λv R'=> ∃A c,v= .tuple #[sl A order.length c,bt]/\R'=[(ri 3 A order.length c (dN order keys k.toNat))]):=by
 obtain rfl:=l.lenI;obtain rfl:=b.lenI;refine fn2 func225 Z Z Z ?_;have g: ∀i∈order,0<=rd keys i/\rd keys i<k:=λi hi=>M _ (bM (u i hi).1 (u i hi).2);refine aD Z<|aA<|aK 2 Z<|bZ aJc Z (λw C=>sD ((b.c _) w C) ⟨hk,M⟩) λO N=>aB Z<|aD Z<|aM Z<|aG<|aK 1 Z<|aX (dU ak zb3 Z Z) λy=>bC (v:=sl (GG y) ((k).toNat) ((k).toNat)) Z<|aB Z<|aA<|aD Z<|aF<|dF (λ(m:Int) (V:AH)=>[(0,sl o order.length p),(1,sl t7 keys.length t8),(10,sl (GG y) ((k).toNat) ((k).toNat)),(27,sl o order.length p),(28,I (order.length:Int)),(29,I m)]) (λm V=>[(ri 3 (GG y) ((k).toNat) ((k).toNat) V),(ri 3 O ((k).toNat) N (gF keys k))]) (λm V=>(0<=m)/\(m<=order.length)/\(V=gF ((order.take m.toNat).map (rd keys)) k)) (λm V=>(order.length-m).toNat) ?_ ?_
 ·exact⟨0,List.replicate ((k).toNat) (0:Int),⟨G,G,((aJu k).symm)⟩,KP⟩
 intro m V ⟨H,X,j⟩;refine aD Z<|aA<|aR Z ?_ ?_<;>intro ap
 ·have hi:=u _ (bM (L:=order) H G);have D:=g _ (bM (L:=order) H G)
  have hb:0<=rd V (rd keys (rd order m))/\rd V (rd keys (rd order m))<=m:=by
   have a:=WK (ks:=(order.take m.toNat).map (rd keys)) (k:=k) (x:=rd keys (rd order m));rw[<-j,bn,ax] at a;omega
  have oc:V.length=k.toNat:=by rw[j,fG]
  refine aG<|aA<|aF<|wq<|wy (aC ak sz3 Z Z (l.c _))<|wy (aQ av Z Z (l.c _))<|aB Z<|aA<|aK 3 Z<|bD 5 [0,1,10,12,27,28,29] 40 (.bool (decide (((rd order m)<0)\/((keys.length:Int)<=(rd order m))))) Z ?_ ?_
  ·refine bB 35 Z ?_ ?_<;>intro R
   ·exact aB Z<|KP
   exact aB Z<|KP
  exact pW 40 Z G<|aJ<|aM Z<|aG<|aT 3 Z<|wy (aC ak sz3 Z Z (b.c _))<|wy (aQ av Z Z (b.c _))<|wy (aC ak sz3 Z Z (rdr 0 Z))<|wy (aQ av Z Z (rdr 0 Z))<|wA Z Z<|wy (aC ak sz3 Z Z (rdr 0 Z))<|bN (bJ 0 Z sz3 Z Z)<|aJ<|bK<|wA Z Z<|aB Z<|⟨m+1,upd V (rd keys (rd order m)) ((rd V (rd keys (rd order m)))+1),⟨G,G,(by rw[dP H G,jc,List.map_singleton,<-aBh D.1 D.2,<-j])⟩,G,KP⟩
 have r:V=(gF (order.map (rd keys)) k):=by rw[j,bg G]
 have f9:(eF V).length=k.toNat:=by rw[gT,j,fG]
 refine aP<|aK 1 Z<|bZ aSp Z (λw C=>DK ((rdr 0 Z) w C) (by rw[r];exact oW _ _) (by rw[r,WJ G g];omega) (by rw[r,fG];omega)) λP Q=> ?_;refine aB Z<|aK 2 Z<|aX (dU ak zb3 Z Z) λF=>bC (v:=sl (GG F) order.length order.length) Z<|aB Z<|aA<|aD Z<|aF<|gX (λ(q:Int) (S:AH) (d:AH)=>[(1,sl t7 keys.length t8),(13,sl P ((eF V).length) Q),(14,sl (GG F) order.length order.length),(56,sl o order.length p),(57,I (order.length:Int)),(58,I q)]) (λq S d=>[(ri 3 (GG F) order.length order.length d),(ri 3 P ((eF V).length) Q S),(ri 3 (GG y) ((k).toNat) ((k).toNat) V),(ri 3 O ((k).toNat) N (gF keys k))]) (λq S d=>(0<=q)/\(q<=order.length)/\(LX order keys S d k q)) (λq S d=>(order.length-q).toNat) ?_ ?_
 ·exact⟨0,eF V,List.replicate order.length (0:Int),⟨G,G,(by rw[r];exact aMx)⟩,KP⟩
 intro q S d ⟨B,Y,h⟩;refine aD Z<|aA<|aR Z ?_ ?_<;>intro T
 ·have hi:=u _ (bM (L:=order) B G);have D:=g _ (bM (L:=order) B G);have ci:=h.lt g B G;have r9:=h.len;have yk:=h.alen;exact aG<|aA<|aF<|wq<|wy (aC ak sz3 Z Z (l.c _))<|wy (aQ av Z Z (l.c _))<|aB Z<|aK 4 Z<|wy (aC ak sz3 Z Z (b.c _))<|wy (aQ av Z Z (b.c _))<|wy (aC ak sz3 Z Z (rdr 1 Z))<|wy (aQ av Z Z (rdr 1 Z))<|wm Z<|wy (aC ak sz3 Z Z (rdr 0 Z))<|bN (bJ 0 Z sz3 Z Z)<|aJ<|aT 3 Z<|wy (aC ak sz3 Z Z (b.c _))<|wy (aQ av Z Z (b.c _))<|wy (aC ak sz3 Z Z (rdr 1 Z))<|wy (aQ av Z Z (rdr 1 Z))<|wA Z Z<|wy (aC ak sz3 Z Z (rdr 1 Z))<|bN (bJ 1 Z sz3 Z Z)<|aJ<|bK<|wA Z Z<|aB Z<|⟨q+1,upd S (rd keys (rd order q)) ((rd S (rd keys (rd order q)))+1),upd d (rd S (rd keys (rd order q))) (rd order q),⟨G,G,(h.step g B G)⟩,G,KP⟩
 refine aP<|aD Z<|aL [0] 99<|⟨_,_,Z,Z,?_⟩;have e:=h.done g G;subst e;exact⟨_,_,Z,Z⟩
end
end Go.Proofs.YtkfngcfpmilfiaaGreat

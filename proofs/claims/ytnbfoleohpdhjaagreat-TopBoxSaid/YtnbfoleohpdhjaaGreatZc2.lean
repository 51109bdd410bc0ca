/- Own work. -/
import Derived.Shelf.SlSortCmp.Kit1
import Derived.Lib.SlKeysI
import Derived.Lib.SmallJoins
import Derived.Deep.Matrix
import Derived.Test.YtnbfoleohpdhjaaGreatProg
import Derived.KernelRfl
import Derived.Shelf.Abstract
import Derived.WalkKit
import Derived.OwnWalkIn
import Derived.TacticsInMore
import Derived.LoopNIn
import Derived.LoopIn
import Derived.Sort.QuietTacIn
import Derived.Test.YtnbfoleohpdhjaaGreatZc1
set_option linter.unusedVariables false
set_option linter.unusedSimpArgs false
set_option maxHeartbeats 8000000
namespace Go.Eng
open Go Go.RowKit Go.Proofs Go.Sort
section
variable {P:Program} {B:Nat} {w0:World} {R:List Row}
def bBq (P:Program) (f g:Nat) (cb:Array Value) (k:Nat):Prop:=
 ∀(α:Type) [Inhabited α] (enc:α->AG) (_: ∀x,(enc x).length=k) (_: ∀x,∀v∈enc x,v.oneCell'=true) (cf:α->α->Int) (_:SWO (ltOf cf)) (fa off cap:Nat) (d:Array α) (w:World)
  (_:CmpLays P g cb enc k cf fa off d.size w) (_:HoldsK enc k w fa off d) (_:fa<w.heap.size) (_:d.size<4611686018427387904),
  Calls P f #[.slice (some ⟨fa,off,none⟩) d.size cap, .func (.func g) #[] cb] w λe w'=>e= .returned (.tuple #[])/\ ∃d' n os,PermIn 0 d.size d d'/\SortedIn (ltOf cf) 0 d.size d'/\w'=sortWorldK enc k w fa off n d' os
def bBr (P:Program) (f g:Nat) (cb:Array Value):Prop:=
 ∀(α:Type) [Inhabited α] (enc:α->Value) (_:OneCell enc) (cf:α->α->Int) (_:SWO (ltOf cf)) (fa off cap:Nat) (d:Array α) (w:World)
  (_:CmpLays1 P g cb enc cf fa off d.size w) (_:Holds enc w fa off d) (_:fa<w.heap.size) (_:d.size<4611686018427387904),
  Calls P f #[.slice (some ⟨fa,off,none⟩) d.size cap, .func (.func g) #[] cb] w λe w'=>e= .returned (.tuple #[])/\ ∃d' n os,PermIn 0 d.size d d'/\SortedIn (ltOf cf) 0 d.size d'/\w'=sortWorld enc w fa off n d' os
def zW (P:Program) (f:Nat):Prop:= ∀(p:AF) (cap:Nat) (fv:Value) (w:World),Calls P f #[.slice p 0 cap,fv] w λe w'=>e= .returned (.tuple #[])/\w'=w
theorem Hp.putRow {w:World} (hw:Hp B w0 w R) {i T k m c fa:Nat} {vs:AG} (hi:R[i]? =some ⟨T,k,some ⟨fa,0,none⟩,m,c,vs,false⟩) (xs:Array Value) (Xz:xs.size=m*k) (n:Nat) (os:Array Obj):
  Hp B w0 (grow (putRow id (Sort.ahead w n) fa 0 xs) os) (R.set i ⟨T,k,some ⟨fa,0,none⟩,m,c,xs.toList,false⟩)/\Hp B w0 (grow (putRow id (Sort.ahead w n) fa 0 xs) os) (R.eraseIdx i):=by
 have fk:=Row.lies_w (hw.own _ (gq hi)) rfl;rcases fk.2 with⟨hv,hn⟩|⟨g,cap,cur,hv,hb,hg,hnc,sp,jp,ht⟩
 ·simp at hv
 simp only[ko,mr,Am,Aj,zw] at hv;obtain⟨rfl,rfl⟩:=hv;simp only at ht jp hg hnc hb;have br:fa<w.heap.size:=(gu.1 hg).1
 have hsz:w.heap.size<=(grow (Go.Sort.putRow id (Sort.ahead w n) fa 0 xs) os).heap.size:=by
  rw[size_grow,Go.Sort.size_putRow];exact Cb _ _
 have hk: ∀k,k<w.heap.size->fa≠k->(grow (Go.Sort.putRow id (Sort.ahead w n) fa 0 xs) os).heap[k]? =w.heap[k]? :=by
  intro k hk Lp;rw[heap_grow_old _ _ (by rw[Go.Sort.size_putRow];exact hk)];simp[Go.Sort.putRow,mapBlock,ww,Lp,Sort.ahead]
 have Lz:(grow (Go.Sort.putRow id (Sort.ahead w n) fa 0 xs) os).heap[fa]? =some (.cells (putCells id 0 xs cur) T (0,0)):=by
  rw[heap_grow_old _ _ (by rw[Go.Sort.size_putRow];exact br)];simp[Go.Sort.putRow,mapBlock,ww,Sort.ahead,hg,onCells]
 refine⟨?_,hw.but hi rfl rfl rfl (by show w.drawn<=w.drawn+n;omega) hsz λk h1 h2=>hk k h1 (h2 _ rfl)⟩;refine hw.upd hi (row:=some fa) ⟨rfl,rfl,rfl,hsz,λk h1 cg=>hk k h1 λe=>cg (by rw[e])⟩ ?_ (λk hk=> ?_) ?_ (λa' oe=> .inl ⟨a',oe,rfl⟩)
 ·show w.drawn<=w.drawn+n;omega
 ·obtain rfl:=jg hk;exact⟨_,rfl,rfl⟩
 ·unfold Row.lies;simp only;refine⟨by rw[jq,Xz], .inr ⟨fa,c,_,rfl,hb,Lz,hnc,sp,?_,?_⟩⟩
  ·simp only[putCells,Array.size_mapIdx];exact jp
  ·apply uz;intro t;rw[qb];split
   ·rename_i yy
    have Zo:t<cur.size:=by
     have:m*k<=c*k:=vg _ hnc;omega
    rw[qz,qz,pq (by simp[putCells];exact Zo),pq (by rw[Xz];exact yy)];simp only[putCells,Fu,id];rw[dm ⟨oz _,by rw[ny,Xz];exact yy⟩,yg,si _ t (by rw[Xz];exact yy)]
   ·rename_i yy;rw[ng (by rw[jq,Xz];omega)]
theorem QE {α:Type} [Inhabited α] {enc:α->AG} {k:Nat} (hk: ∀x,(enc x).length=k) (d:Array α):(flatK enc k d).toList=d.toList.flatMap enc:=by
 have hlen: ∀l:List α,(l.flatMap enc).length=l.length*k:=λl=>by
  induction l with
  |nil=>simp
  |cons x l ih=>rw[Ae,ah,ih,hk,dn,yl];omega
 have hget: ∀(l:List α) (t:Nat) (x:α),0<k->l[t/k]? =some x->(l.flatMap enc)[t]? =(enc x)[t%k]? :=λl=>by
  induction l with
  |nil=>intro t x _ h;simp at h
  | cons y l ih=>
   intro t x k0 h;rw[Ae];rcases gp t k with g|g
   ·rw [Fe g] at h;simp only[List.getElem?_cons_zero,mr] at h;subst h;rw[ji (by rw[hk];exact g),lv g]
   ·have e:t/k=(t-k)/k+1:=by
     rw[<-su g,Nat.add_div_right _ k0];simp
    rw[e,Dw] at h;rw[jk (by rw[hk];exact g),hk,ih (t-k) x k0 h,<-zt g]
 apply uz;intro t;have hs:(flatK enc k d).size=d.size*k:=size_flatK _ _ _;rcases gp t (d.size*k) with h|h
 ·have k0:0<k:=Dm λe=>by subst e;simp at h
  have Rp:t/k<d.size:=Nat.div_lt_of_lt_mul (by rw[Ag];exact h)
  have e1:(flatK enc k d)[t]? =some ((flatK enc k d)[t]!):=by
   rw[pq (by rw[hs];exact h),si _ t (by rw[hs];exact h)]
  rw[qz,e1,get_flatK enc k d t h,hget d.toList t d[t/k] k0 (by rw[qz,pq Rp]),si d _ Rp];have hm:t%k<(enc d[t/k]).length:=by rw[hk];exact yw _ k0
  rw[av hm,si (enc d[t/k]) (t%k) hm]
 ·rw[ng (by rw[jq,hs];exact h),ng (by rw[hlen,jq];exact h)]
theorem aYn {α:Type} {enc:α->AG} {k:Nat} (hk: ∀x,(enc x).length=k) (l:List α):(l.flatMap enc).length=l.length*k:=by
 induction l with
 |nil=>simp
 |cons x l ih=>rw[Ae,ah,ih,hk,dn,yl];omega
theorem xR {α:Type} [Inhabited α] {d d':Array α} (h:PermIn 0 d.size d d'):d'.toList.Perm d.toList:=by
 obtain⟨hs,_,hp⟩:=h;have e1:(d'.extract 0 d.size).toList=d'.toList:=by rw[<-hs];simp
 have e2:(d.extract 0 d.size).toList=d.toList:=cD
 rw[e1,e2] at hp;exact hp
theorem AB {α:Type} [Inhabited α] {cf:α->α->Int} {d':Array α} {n:Nat} (h:SortedIn (ltOf cf) 0 n d') (hn:d'.size=n):d'.toList.Pairwise λx y=> ¬cf y x<0:=by
 refine dz.2 λa b ha u6 yr=> ?_;rw[jq] at ha u6;have h1:=h a b (oz _) yr G;rw[si d' a ha,si d' b u6] at h1;simp only[ltOf,uh] at h1;simpa using h1
theorem aKw {w:World} (hw:Hp B w0 w R) {i T k c:Nat} {A:AF} {vs:AG} (hi:R[i]? =some ⟨T,k,A,0,c,vs,false⟩):R.set i ⟨T,k,A,0,c,[],false⟩=R/\vs=[]:=by
 have fk:=Row.lies_w (hw.own _ (gq hi)) rfl;have hl:=fk.1;simp only[Ce] at hl;obtain rfl:=dw hl;refine⟨?_,rfl⟩;apply uz;intro j;rw[xz];split
 ·rename_i h;subst h;split
  ·exact hi.symm
  ·rename_i h2;rw[ng G]
 ·rfl
theorem aFm {α:Type} {f g k:Nat} {cb:Array Value} {enc:α->AG} (Vc:bBq P f g cb k) (Vb:zW P f) (hk: ∀x,(enc x).length=k) (h1: ∀x,∀v∈enc x,v.oneCell'=true) {T c:Nat} {A:AF} {l:List α} (i:Nat) (hi:R[i]? =some ⟨T,k,A,l.length,c,l.flatMap enc,false⟩) (hsz:l.length<4611686018427387904) (cmp:α->α->Int) (hO:SWO (ltOf cmp))
  (Lq: ∀W,Hp B w0 W (R.eraseIdx i)-> ∀x∈l,∀y∈l,
   Ct P g (#[.agg (enc x).toArray, .agg (enc y).toArray]++cb) W.heap.size W [] (λv _=>v= .int .i64 (cmp x y))):
  Ct P f #[.slice A l.length c, .func (.func g) #[] cb] B w0 R (λv R'=>v= .tuple #[]/\ ∃l':List α,l'.Perm l/\l'.Pairwise (λx y=> ¬cmp y x<0)/\R'=R.set i ⟨T,k,A,l'.length,c,l'.flatMap enc,false⟩):=by
 intro w hw;rcases l with _|⟨x0,l0⟩
 ·refine (Vb A c _ w).mono ?_;rintro e w' ⟨rfl,rfl⟩;obtain⟨h1,h2⟩:=aKw hw hi;exact⟨_,_,rfl,hw,rfl,[], .refl _, .nil,h1.symm⟩
 generalize hl:x0::l0=l at*;have fb:0<l.length:=by rw[<-hl];simp
 have fk:=Row.lies_w (hw.own _ (gq hi)) rfl;rcases fk.2 with⟨_,hn⟩|⟨fa,cap,cur,hv,hb,hg,hnc,sp,jp,ht⟩
 ·simp only at hn;omega
 simp only[ko,zw] at hv;obtain⟨rfl,rfl⟩:=hv;simp only at ht jp hg hnc
 haveI:Inhabited {p:α//p∈l}:=⟨⟨l[0],lu _⟩⟩
 obtain⟨d,hd⟩: ∃d:Array {p:α//p∈l},d=l.attach.toArray:=⟨_,rfl⟩;have xb:d.size=l.length:=by rw[hd];simp
 have Qa:d.toList.map Subtype.val=l:=by rw[hd];exact Bo l
 have Ov: ∀x: {p:α//p∈l},(enc x.1).length=k:=λx=>hk x.1;have hfm: ∀e:List {p:α//p∈l},e.flatMap (λx=>enc x.1)=(e.map Subtype.val).flatMap enc:=λe=>by rw[List.flatMap_map]
 have br:fa<w.heap.size:=(gu.1 hg).1
 have hH:HoldsK (λx: {p:α//p∈l}=>enc x.1) k w fa 0 d:=by
  intro j hj
  have b6:j<l.length*k:=by
   have:j<(flatK (λx: {p:α//p∈l}=>enc x.1) k d).size:=hj;rw[size_flatK,xb] at this;exact this
  have hf:=QE Ov d;rw[hfm,Qa] at hf
  have e:(l.flatMap enc)[j]? =some ((flatK (λx: {p:α//p∈l}=>enc x.1) k d)[j]!):=by
   rw[<-hf,qz,pq hj,si _ j hj]
  refine⟨?_,?_⟩
  ·rw [ny];exact hw.cellAt i hi rfl e
  ·exact hw.openAt i (0+j) hi rfl rfl
 have vb:CmpLays P g cb (λx: {p:α//p∈l}=>enc x.1) k (λx y=>cmp x.1 y.1) fa 0 d.size w:=by
  intro m' os dk Rp x y;have hW:=(hw.putRow hi (flatK (λx: {p:α//p∈l}=>enc x.1) k dk) (by rw[size_flatK,Rp,xb]) m' os).2;refine(Lq (sortWorldK (λx: {p:α//p∈l}=>enc x.1) k w fa 0 m' dk os) hW x.1 x.2 y.1 y.2 _ (Hp.refl _)).mono ?_;rintro e w' ⟨v,R',rfl,hh,rfl⟩;exact⟨rfl,PY hh.below hh.late.1⟩
 have Va:SWO (ltOf λ(x y: {p:α//p∈l})=>cmp x.1 y.1):=⟨λx=>hO.irrefl x.1,λx y z=>hO.trans x.1 y.1 z.1,λx y z=>hO.ntrans x.1 y.1 z.1⟩;have wb:=Vc _ (λx: {p:α//p∈l}=>enc x.1) Ov (λx=>h1 x.1) _ Va fa 0 c d w vb hH br (by rw[xb];exact hsz);rw[xb] at wb;refine wb.mono ?_;rintro e w' ⟨rfl,d',n,os,ov,o0,rfl⟩;rw[<-xb] at ov;have m6:d'.size=l.length:=by rw[ov.1,xb]
 have hW:=(hw.putRow hi (flatK (λx: {p:α//p∈l}=>enc x.1) k d') (by rw[size_flatK,m6]) n os).1;rw[QE Ov,hfm] at hW
 have cr:(d'.toList.map Subtype.val).Perm l:=by
  have:=(xR ov).map Subtype.val;rwa[Qa] at this
 refine⟨_,_,rfl,hW,rfl,d'.toList.map Subtype.val,cr,?_,?_⟩
 ·exact ik.2 (AB o0 m6)
 ·rw[cr.length_eq]
theorem aFn {α:Type} {f g:Nat} {cb:Array Value} {enc:α->Value} (Vc:bBr P f g cb) (Vb:zW P f) (h1: ∀x,(enc x).oneCell'=true) {T c:Nat} {A:AF} {l:List α} (i:Nat) (hi:R[i]? =some ⟨T,1,A,l.length,c,l.map enc,false⟩) (hsz:l.length<4611686018427387904) (cmp:α->α->Int) (hO:SWO (ltOf cmp))
  (Lq: ∀W,Hp B w0 W (R.eraseIdx i)-> ∀x∈l,∀y∈l,
   Ct P g (#[enc x,enc y]++cb) W.heap.size W [] (λv _=>v= .int .i64 (cmp x y))):
  Ct P f #[.slice A l.length c, .func (.func g) #[] cb] B w0 R (λv R'=>v= .tuple #[]/\ ∃l':List α,l'.Perm l/\l'.Pairwise (λx y=> ¬cmp y x<0)/\R'=R.set i ⟨T,1,A,l'.length,c,l'.map enc,false⟩):=by
 intro w hw;rcases l with _|⟨x0,l0⟩
 ·refine (Vb A c _ w).mono ?_;rintro e w' ⟨rfl,rfl⟩;obtain⟨h1,h2⟩:=aKw hw hi;exact⟨_,_,rfl,hw,rfl,[], .refl _, .nil,h1.symm⟩
 generalize hl:x0::l0=l at*;have fb:0<l.length:=by rw[<-hl];simp
 have fk:=Row.lies_w (hw.own _ (gq hi)) rfl;rcases fk.2 with⟨_,hn⟩|⟨fa,cap,cur,hv,hb,hg,hnc,sp,jp,ht⟩
 ·simp only at hn;omega
 simp only[ko,zw] at hv;obtain⟨rfl,rfl⟩:=hv;simp only at ht jp hg hnc
 haveI:Inhabited {p:α//p∈l}:=⟨⟨l[0],lu _⟩⟩
 obtain⟨d,hd⟩: ∃d:Array {p:α//p∈l},d=l.attach.toArray:=⟨_,rfl⟩;have xb:d.size=l.length:=by rw[hd];simp
 have Qa:d.toList.map Subtype.val=l:=by rw[hd];exact Bo l
 have br:fa<w.heap.size:=(gu.1 hg).1
 have Wx: ∀(W:World) (dk:Array {p:α//p∈l}),putRow (λx: {p:α//p∈l}=>enc x.1) W fa 0 dk=putRow id W fa 0 (dk.map λx=>enc x.1):=by
  intro W dk;unfold putRow;congr 1;funext cs;unfold putCells;apply Array.ext
  ·simp
  ·intro j h1 h2;simp only[Fu,Array.size_map,id,yg,ny];split
   ·rename_i hc;rw[si dk j hc.2,si (dk.map λx=>enc x.1) j (by simpa using hc.2)];simp
   ·rfl
 have hH:Holds (λx: {p:α//p∈l}=>enc x.1) w fa 0 d:=by
  intro j hj;have b6:j<l.length:=by rw[<-xb];exact hj
  have e:(l.map enc)[j]? =some (enc d[j]!.1):=by
   have e0:(d.toList.map λx=>enc x.1)=l.map enc:=by
    conv=>rhs;rw[<-Qa]
    rw[ql];rfl
   rw[<-e0,lq,qz,pq hj,si d j hj];rfl
  refine⟨?_,?_⟩
  ·rw [ny];exact hw.cellAt i hi rfl e
  ·exact hw.openAt i (0+j) hi rfl rfl
 have vb:CmpLays1 P g cb (λx: {p:α//p∈l}=>enc x.1) (λx y=>cmp x.1 y.1) fa 0 d.size w:=by
  intro m' os dk Rp x y;have hW:=(hw.putRow hi (dk.map λx=>enc x.1) (by simp[Rp,xb]) m' os).2;rw[<-Wx] at hW;refine(Lq (sortWorld (λx: {p:α//p∈l}=>enc x.1) w fa 0 m' dk os) hW x.1 x.2 y.1 y.2 _ (Hp.refl _)).mono ?_;rintro e w' ⟨v,R',rfl,hh,rfl⟩;exact⟨rfl,PY hh.below hh.late.1⟩
 have Va:SWO (ltOf λ(x y: {p:α//p∈l})=>cmp x.1 y.1):=⟨λx=>hO.irrefl x.1,λx y z=>hO.trans x.1 y.1 z.1,λx y z=>hO.ntrans x.1 y.1 z.1⟩;have wb:=Vc _ (λx: {p:α//p∈l}=>enc x.1) (λx=>h1 x.1) _ Va fa 0 c d w vb hH br (by rw[xb];exact hsz);rw[xb] at wb;refine wb.mono ?_;rintro e w' ⟨rfl,d',n,os,ov,o0,rfl⟩;rw[<-xb] at ov;have m6:d'.size=l.length:=by rw[ov.1,xb]
 have hW:=(hw.putRow hi (d'.map λx=>enc x.1) (by simp[m6]) n os).1;rw[<-Wx] at hW
 have cr:(d'.toList.map Subtype.val).Perm l:=by
  have:=(xR ov).map Subtype.val;rwa[Qa] at this
 have em:(d'.map λx=>enc x.1).toList=(d'.toList.map Subtype.val).map enc:=cD
 rw[em] at hW;refine⟨_,_,rfl,hW,rfl,d'.toList.map Subtype.val,cr,?_,?_⟩
 ·exact ik.2 (AB o0 m6)
 ·rw[cr.length_eq]
end
section
variable {P:Program} {B:Nat} {w0:World} {R:List Row}
def bLt (P:Program) (f:Nat):Prop:= ∀(fa off cap:Nat) (zs:AH) (w:World) (_:Holds (Value.int .i64) w fa off zs.toArray) (_:fa<w.heap.size) (_:zs.length<4611686018427387904),
 Calls P f #[.slice (some ⟨fa,off,none⟩) zs.length cap] w λe w'=>e= .returned (.tuple #[])/\ ∃n os,w'=grow (putRow (Value.int .i64) (Sort.ahead w n) fa off (zs.mergeSort λx y=>decide (x<=y)).toArray) os
def bGr (P:Program) (f:Nat):Prop:= ∀(p:AF) (cap:Nat) (w:World),Calls P f #[.slice p 0 cap] w λe w'=>e= .returned (.tuple #[])/\w'=w
def bLu (P:Program) (f:Nat):Prop:= ∀(b off n c:Nat) (zs:AH) (x:Int) (w:World) (_:n<=zs.length) (_:n<4611686018427387904) (_: ∀j,j<zs.length->w.cell? ⟨b,off+j,none⟩=some (.int .i64 (zs.getD j 0))) (_:(zs.take n).Pairwise (· <= ·)),
 Calls P f #[.slice (some ⟨b,off,none⟩) n c, .int .i64 x] w λe w'=>e= .returned (.tuple #[.int .i64 ((zs.take n).countP (· <x):Nat), .bool ((zs.take n).contains x)])/\ ∃q,w'=w.drewN q
def bGu (P:Program) (f:Nat):Prop:= ∀(a:AF) (c:Nat) (x:Int) (w:World),Calls P f #[.slice a 0 c, .int .i64 x] w λe w'=>e= .returned (.tuple #[.int .i64 0, .bool false])/\w'=w
def oM (l:AH):AH:=l.mergeSort λx y=>decide (x<=y)
theorem mY (l:AH):(oM l).Perm l:=List.mergeSort_perm _ _
theorem DL (l:AH):(oM l).Pairwise (· <= ·):=by
 have:=List.pairwise_mergeSort (le:=λx y:Int=>decide (x<=y)) (λa b c h1 h2=>by simp at*;omega) (λa b=>cH) l;exact this.imp λh=>by simpa using h
theorem aNt {f:Nat} (hS:bLt P f) (Vb:bGr P f) {T m c:Nat} {A:AF} {l:AH} (i:Nat) (hi:R[i]? =some ⟨T,1,A,m,c,ints .i64 l,false⟩) (hsz:l.length<4611686018427387904):
  Ct P f #[.slice A m c] B w0 R (λv R'=>v= .tuple #[]/\R'=R.set i ⟨T,1,A,m,c,ints .i64 (oM l),false⟩):=by
 intro w hw;have fk:=Row.lies_w (hw.own _ (gq hi)) rfl;have gg:=Row.rd (hw.own _ (gq hi));obtain rfl:m=l.length:=gg.lenI;rcases fk.2 with⟨hv,hn⟩|⟨fa,cap,cur,hv,hb,hg,hnc,sp,jp,ht⟩
 ·simp only at hn;have hl:l=[]:=dw hn;subst hl;refine(Vb A c w).mono ?_;rintro e w' ⟨rfl,rfl⟩;refine⟨_,_,rfl,?_,rfl,rfl⟩;have e:oM []=[]:=by simp[oM]
  rw[e]
  have:R.set i ⟨T,1,A,([]:AH).length,c,ints .i64 [],false⟩=R:=by
   apply uz;intro k;rw[xz];split
   ·rename_i h;subst h;split
    ·exact hi.symm
    ·rename_i h2;rw[ng G]
   ·rfl
  rw[this];exact hw
 ·simp only[ko,zw] at hv;obtain⟨rfl,rfl⟩:=hv;simp only at ht jp hg hnc;have br:fa<w.heap.size:=(gu.1 hg).1
  have hH:Holds (Value.int .i64) w fa 0 l.toArray:=by
   intro j hj;have b6:j<l.length:=by simpa using hj
   have e:(ints .i64 l)[j]? =some (.int .i64 (l.toArray[j]!)):=by
    rw[si l.toArray j hj];simp[ints,b6]
   refine⟨?_,?_⟩
   ·rw [ny];exact hw.cellAt i hi rfl e
   ·exact hw.openAt i (0+j) hi rfl rfl
  refine(hS fa 0 c l w hH br hsz).mono ?_;rintro e w' ⟨rfl,n,os,rfl⟩;refine⟨_,_,rfl,?_,rfl,rfl⟩;have Wq:=ownsRow_sorted_i (w:=w) (base:=B) (g:=fa) (cap:=c) (n:=n) (e:=T) (os:=os) (cur:=cur) (ss:=l) (ts:=oM l) (mY l).length_eq hb hg hnc sp jp;have hgb:=grownBy_sorted_i (w:=w) (g:=fa) (n:=n) (os:=os) (oM l).toArray;refine hw.upd hi (row:=some fa) hgb ?_ (λk hk=> ?_) ?_ (λa' oe=> .inl ⟨a',oe,rfl⟩)
  ·show w.drawn<=w.drawn+n;omega
  ·obtain rfl:=jg hk;exact⟨_,rfl,rfl⟩
  ·exact Wq
theorem aQk {f:Nat} (hF:bLu P f) (hF0:bGu P f) {T m c:Nat} {A:AF} {l:AH} {x:Int} (i:Nat) (hi:R[i]? =some ⟨T,1,A,m,c,ints .i64 l,false⟩) (hsz:l.length<4611686018427387904) (hs:l.Pairwise (· <= ·)):
  Ct P f #[.slice A m c, .int .i64 x] B w0 R (λv R'=>v= .tuple #[.int .i64 (l.countP (· <x):Nat), .bool (l.contains x)]/\R'=R):=by
 intro w hw;have fk:=Row.lies_w (hw.own _ (gq hi)) rfl;have gg:=Row.rd (hw.own _ (gq hi));obtain rfl:m=l.length:=gg.lenI;rcases fk.2 with⟨hv,hn⟩|⟨fa,cap,cur,hv,hb,hg,hnc,sp,jp,ht⟩
 ·simp only at hn;have hl:l=[]:=dw hn;subst hl;refine(hF0 A c x w).mono ?_;rintro e w' ⟨rfl,rfl⟩;exact⟨_,_,rfl,hw,rfl,rfl⟩
 ·simp only[ko,zw] at hv;obtain⟨rfl,rfl⟩:=hv;have sr:l.take l.length=l:=qc
  have:=hF fa 0 l.length c l x w (ed _) hsz (λj hj=>by
   rw[ny]
   exact hw.cellAt i hi rfl (by simp[ints,ai,hj])) (by rw[sr];exact hs)
  rw[sr] at this;refine this.mono ?_;rintro e w' ⟨rfl,q,rfl⟩;exact⟨_,_,rfl,hw.drawn _ (Cb _ _),rfl,rfl⟩
end
end Go.Eng
namespace Go.Eng
open Go Go.RowKit
section
variable {P:Program} {n:Nd} {B:Nat} {w0:World} {ops:Array Oper} {K:Env->List Row->Prop} {L:Env} {R Rc:List Row} {op:Op} {ty:TypeId} {pos:String} {ph:Array Edge}
def WDc (P:Program) (n:Nd) (B:Nat) (w0:World) (ops:Array Oper) (K:Env->List Row->Prop) (bo:Nat) (ab:AI) (L:Env) (R Rc:List Row):Prop:=
 ∀a w (Q:Exit->Act->World->Prop),Sat n L a->Hp B w0 w R->(∀w,Hp B w0 w R->Hp B w0 w Rc)->(∀c a w,¬Q (.panic c) a w)->(∀a' w' L' R',Sat n L' a'->Hp B w0 w' R'->K L' R'->Q .normal a' w')->wY P ops Q bo (λw=>Hp B w0 w Rc) ab a w
def aEi (P:Program) (n:Nd) (B:Nat) (w0:World) (ops:Array Oper) (K:Env->List Row->Prop) (bo:Nat) (ab:AI) (L:Env) (R Rc:List Row) (i:Nat):Prop:=
 ∀a w (Q:Exit->Act->World->Prop),Sat n L a->Hp B w0 w R->(∀w,Hp B w0 w R->Hp B w0 w Rc)->(∀c a w,¬Q (.panic c) a w)->(∀a' w' L' R',Sat n L' a'->Hp B w0 w' R'->K L' R'->Q .normal a' w')->
  wpOp P ops Q i (λa' w'=> ∃S':World->Prop,S' w'/\(RD ops ab i=true\/ ∀x,S' x->Hp B w0 x Rc)/\wY P ops Q bo S' (ab.setIfInBounds i true) a' w') a w
theorem bRb {bo:Nat} {ab:AI} (h:WDc P n B w0 ops K bo ab L R R):WD P n B w0 ops K bo ab L R:=
 λa w Q hs hp kl hq=>h a w Q hs hp (λ_ h=>h) kl hq
theorem gI {d:Nat} {v:Value} {bo:Nat} {ab:AI} (i:Nat) (hi:ops[i]? =some {dst:=some d,op:=op,type:=ty,pos:=pos,after:=ph,guard:=none}) (hc:chk ops ab i=true) (hn:Nat.blt d n=true)
  (hy:Yl P n B w0 op ty L Rc v) (h:WDc P n B w0 ops K bo (ab.setIfInBounds i true) ((d,v)::L) R Rc):WDc P n B w0 ops K (bo+1) ab L R Rc:=by
 intro a w Q hs hp yp kl hq;simp only[chk,qh] at hc;obtain⟨⟨⟨h1,h2⟩,h3⟩,h4⟩:=hc;refine CQ hi (Region.noSelect_spec h1) (λc a w hh=>(kl c _ w hh).elim) bo _ ab a w h4 (Region.free_spec hi h2) (by simpa using h3) (.inl ⟨rfl,λw hw=>hy a w _ rfl rfl hs hw⟩) (yp w hp) ?_;exact h _ w Q (hs.put hn v) hp yp kl hq
theorem uJ {bo:Nat} {ab:AI} (hr:Region.ready .any ops ab=[]) (h:K L R):WDc P n B w0 ops K bo ab L R Rc:=by
 intro a w Q hs hp _ kl hq;cases bo with
 |zero=>exact⟨hr,hq _ _ L R hs hp h⟩
 |succ bo=>exact⟨λ_=>hq _ _ L R hs hp h,by rw[hr];simp⟩
theorem qQ {d:Nat} {Post:Value->List Row->Prop} {bo:Nat} {ab:AI} (i:Nat) (hi:ops[i]? =some {dst:=some d,op:=op,type:=ty,pos:=pos,after:=ph,guard:=none}) (hn:Nat.blt d n=true) (ha:Ac P n B w0 op ty L R Post)
  (h: ∀v R',Post v R'->(∀w,Hp B w0 w R'->Hp B w0 w Rc)/\WDc P n B w0 ops K bo (ab.setIfInBounds i true) ((d,v)::L) R' Rc):aEi P n B w0 ops K bo ab L R Rc i:=by
 intro a w Q hs hp yp kl hq;unfold wpOp;simp only[hi];rw[dm (by simp[Region.wanted])];refine .inl (ha a w _ _ Q rfl rfl hs hp λv w' R' cr hv=> ?_);obtain⟨h1,h2⟩:=h v R' hv;exact⟨λw=>Hp B w0 w Rc,h1 w' cr, .inr λ_ h=>h,h2 _ w' Q (hs.put hn v) cr h1 kl hq⟩
theorem aRw {Post:Value->List Row->Prop} {bo:Nat} {ab:AI} (i:Nat) (hi:ops[i]? =some {dst:=none,op:=op,type:=ty,pos:=pos,after:=ph,guard:=none}) (ha:Ac P n B w0 op ty L R Post)
  (h: ∀v R',Post v R'->(∀w,Hp B w0 w R'->Hp B w0 w Rc)/\WDc P n B w0 ops K bo (ab.setIfInBounds i true) L R' Rc):aEi P n B w0 ops K bo ab L R Rc i:=by
 intro a w Q hs hp yp kl hq;unfold wpOp;simp only[hi];rw[dm (by simp[Region.wanted])];refine .inl (ha a w _ _ Q rfl rfl hs hp λv w' R' cr hv=> ?_);obtain⟨h1,h2⟩:=h v R' hv;exact⟨λw=>Hp B w0 w Rc,h1 w' cr, .inr λ_ h=>h,h2 _ w' Q hs cr h1 kl hq⟩
theorem jF {bo:Nat} {ab:AI} (i:Nat) (hr:Region.ready .any ops ab=[i]) (hi:aEi P n B w0 ops K bo ab L R Rc i):WDc P n B w0 ops K (bo+1) ab L R Rc:=by
 intro a w Q hs hp yp kl hq;refine⟨λh0=>absurd (hr▸h0) cD,λk hk=> ?_⟩;rw[hr] at hk;obtain rfl:=ig.1 hk;exact hi a w Q hs hp yp kl hq
theorem YI {bo:Nat} {ab:AI} (i j:Nat) (hr:Region.ready .any ops ab=[i,j]) (hi:aEi P n B w0 ops K bo ab L R Rc i) (hj:aEi P n B w0 ops K bo ab L R Rc j):WDc P n B w0 ops K (bo+1) ab L R Rc:=by
 intro a w Q hs hp yp kl hq;refine⟨λh0=>absurd (hr▸h0) cD,λk hk=> ?_⟩;rw[hr] at hk;rcases jd.1 hk with rfl|hk
 ·exact hi a w Q hs hp yp kl hq
 ·obtain rfl:=ig.1 hk;exact hj a w Q hs hp yp kl hq
theorem tY {bo:Nat} {ab:AI} {d:Nat} {u v:Value} (hu:u=v) (h:WDc P n B w0 ops K bo ab ((d,v)::L) R Rc):WDc P n B w0 ops K bo ab ((d,u)::L) R Rc:=by
 subst hu;exact h
end
section
variable {P:Program} {n:Nd} {B:Nat} {w0 w00:World} {F:Exit->Act->World->Prop} {L:Env} {R:List Row}
def LF {σ:Type} (F:Exit->Act->World->Prop) (m B:Nat) (w00 w0:World) (Lx:σ->Env) (Rx:σ->List Row) (K:σ->Prop):Exit->Act->World->Prop
 | .normal,a,w=> ∃s ds W,K s/\Below B w0 W/\Gd B w00 ⟨m,ds,none⟩ W/\Sat ⟨m,ds,none⟩ (Lx s) a/\Hp B W w (Rx s)
 |e,a,w=>F e a w
theorem bIv {σ:Type} {m:Nat} {ds:List Deferred} {c:Code} (Lx:σ->Env) (Rx:σ->List Row) (J:σ->Prop) (μ:σ->Nat) (h0:Fam B w0 Lx Rx J L R) (hG:Gd B w00 ⟨m,ds,none⟩ w0)
  (round: ∀s ds W,J s->Below B w0 W->Gd B w00 ⟨m,ds,none⟩ W->V P ⟨m,ds,none⟩ B W c (LF F m B w00 w0 Lx Rx λy=>J y/\μ y<μ s) (Lx s) (Rx s)):V P ⟨m,ds,none⟩ B w0 (.loop c) F L R:=by
 intro a w hs hp;obtain⟨x0,Ds,hL0,Od⟩:=h0;refine wpIn_loop_ghost (λk a w=> ∃x ds W,μ x=k/\J x/\Below B w0 W/\Gd B w00 ⟨m,ds,none⟩ W/\Sat ⟨m,ds,none⟩ (Lx x) a/\Hp B W w (Rx x)) (μ x0) ⟨x0,ds,w0,rfl,Ds,Ey _ _,hG,hs.sub hL0,Od w hp⟩ ?_;rintro k a w ⟨x,ds,W,rfl,hJ,hb,hg,hs,hp⟩;refine Bb (round x ds W hJ hb hg a w hs hp) ?_;intro e a' w' hq;cases e with
 |normal=>
  obtain⟨y,ds',W',⟨hJy,br⟩,u6,hg',en,cr⟩:=hq;exact⟨μ y,br,y,ds',W',rfl,hJy,u6,hg',en,cr⟩
 |exit id=>exact hq
 |goto l=>exact hq
 |ret=>exact hq
 |panic ch=>exact hq
 |outgrown=>exact hq
theorem bCc {σ:Type} {m:Nat} {ds:List Deferred} {W:World} {Lx:σ->Env} {Rx:σ->List Row} {K:σ->Prop} (hb:Below B w0 W) (hG:Gd B w00 ⟨m,ds,none⟩ W) (h:Fam B W Lx Rx K L R):VN ⟨m,ds,none⟩ B W (LF F m B w00 w0 Lx Rx K) L R:=λa w hs hp=>by
 obtain⟨s,hK,hL,hR⟩:=h;exact⟨s,ds,W,hK,hb,hG,hs.sub hL,hR w hp⟩
def VX (n:Nd) (B:Nat) (w0:World) (F:Exit->Act->World->Prop) (i:Nat) (L:Env) (R:List Row):Prop:= ∀a w,Sat n L a->Hp B w0 w R->F (.exit i) a w
theorem bIw {i:Nat} (h:VX n B w0 F i L R):(FQ F n B w0).ext i L R:=h
theorem bMl {σ:Type} {m i:Nat} {W:World} {Lx:σ->Env} {Rx:σ->List Row} {K:σ->Prop} (h:VX n B W F i L R):VX n B W (LF F m B w00 w0 Lx Rx K) i L R:=h
theorem bMm {i:Nat} (h:VN n B w0 F L R):VX n B w0 (Exit.inBlock i F) i L R:=λa w hs hp=>by
 show(if i=i then F .normal a w else F (.exit i) a w);rw[dm rfl];exact h a w hs hp
theorem bCb {σ0 σ1 σ2 σ3 σ4 σ5 σ6:Type} {m:Nat} {ds:List Deferred} {c:Code} (Lx:σ0->σ1->σ2->σ3->σ4->σ5->σ6->Env) (Rx:σ0->σ1->σ2->σ3->σ4->σ5->σ6->List Row) (J:σ0->σ1->σ2->σ3->σ4->σ5->σ6->Prop) (μ:σ0->σ1->σ2->σ3->σ4->σ5->σ6->Nat)
  (h0: ∃x0 x1 x2 x3 x4 x5 x6,J x0 x1 x2 x3 x4 x5 x6/\Sub (Lx x0 x1 x2 x3 x4 x5 x6) L/\ ∀w,Hp B w0 w R->Hp B w0 w (Rx x0 x1 x2 x3 x4 x5 x6)) (hG:Gd B w00 ⟨m,ds,none⟩ w0)
  (round: ∀x0 x1 x2 x3 x4 x5 x6 ds W,J x0 x1 x2 x3 x4 x5 x6->Below B w0 W->Gd B w00 ⟨m,ds,none⟩ W->V P ⟨m,ds,none⟩ B W c (LF F m B w00 w0 (λp:σ0 × σ1 × σ2 × σ3 × σ4 × σ5 × σ6=>Lx p.1 p.2.1 p.2.2.1 p.2.2.2.1 p.2.2.2.2.1 p.2.2.2.2.2.1 p.2.2.2.2.2.2) (λp=>Rx p.1 p.2.1 p.2.2.1 p.2.2.2.1 p.2.2.2.2.1 p.2.2.2.2.2.1 p.2.2.2.2.2.2) (λp=>J p.1 p.2.1 p.2.2.1 p.2.2.2.1 p.2.2.2.2.1 p.2.2.2.2.2.1 p.2.2.2.2.2.2/\μ p.1 p.2.1 p.2.2.1 p.2.2.2.1 p.2.2.2.2.1 p.2.2.2.2.2.1 p.2.2.2.2.2.2<μ x0 x1 x2 x3 x4 x5 x6)) (Lx x0 x1 x2 x3 x4 x5 x6) (Rx x0 x1 x2 x3 x4 x5 x6)):V P ⟨m,ds,none⟩ B w0 (.loop c) F L R:=by
 obtain⟨x0,x1,x2,x3,x4,x5,x6,h1,h2,h3⟩:=h0;exact bIv (σ:=σ0 × σ1 × σ2 × σ3 × σ4 × σ5 × σ6) (λp=>Lx p.1 p.2.1 p.2.2.1 p.2.2.2.1 p.2.2.2.2.1 p.2.2.2.2.2.1 p.2.2.2.2.2.2) (λp=>Rx p.1 p.2.1 p.2.2.1 p.2.2.2.1 p.2.2.2.2.1 p.2.2.2.2.2.1 p.2.2.2.2.2.2) (λp=>J p.1 p.2.1 p.2.2.1 p.2.2.2.1 p.2.2.2.2.1 p.2.2.2.2.2.1 p.2.2.2.2.2.2) (λp=>μ p.1 p.2.1 p.2.2.1 p.2.2.2.1 p.2.2.2.2.1 p.2.2.2.2.2.1 p.2.2.2.2.2.2) ⟨(x0,x1,x2,x3,x4,x5,x6),h1,h2,h3⟩ hG λp ds W hp hb hg=>round p.1 p.2.1 p.2.2.1 p.2.2.2.1 p.2.2.2.2.1 p.2.2.2.2.2.1 p.2.2.2.2.2.2 ds W hp hb hg
theorem aTi {σ0 σ1 σ2 σ3 σ4 σ5 σ6:Type} {m M:Nat} {ds:List Deferred} {W:World} {Lx:σ0->σ1->σ2->σ3->σ4->σ5->σ6->Env} {Rx:σ0->σ1->σ2->σ3->σ4->σ5->σ6->List Row} {J:σ0->σ1->σ2->σ3->σ4->σ5->σ6->Prop} {μ:σ0->σ1->σ2->σ3->σ4->σ5->σ6->Nat} (hb:Below B w0 W) (hG:Gd B w00 ⟨m,ds,none⟩ W)
  (h: ∃y0 y1 y2 y3 y4 y5 y6,J y0 y1 y2 y3 y4 y5 y6/\μ y0 y1 y2 y3 y4 y5 y6<M/\Sub (Lx y0 y1 y2 y3 y4 y5 y6) L/\ ∀w,Hp B W w R->Hp B W w (Rx y0 y1 y2 y3 y4 y5 y6)):VN ⟨m,ds,none⟩ B W (LF F m B w00 w0 (λp:σ0 × σ1 × σ2 × σ3 × σ4 × σ5 × σ6=>Lx p.1 p.2.1 p.2.2.1 p.2.2.2.1 p.2.2.2.2.1 p.2.2.2.2.2.1 p.2.2.2.2.2.2) (λp=>Rx p.1 p.2.1 p.2.2.1 p.2.2.2.1 p.2.2.2.2.1 p.2.2.2.2.2.1 p.2.2.2.2.2.2) (λp=>J p.1 p.2.1 p.2.2.1 p.2.2.2.1 p.2.2.2.2.1 p.2.2.2.2.2.1 p.2.2.2.2.2.2/\μ p.1 p.2.1 p.2.2.1 p.2.2.2.1 p.2.2.2.2.1 p.2.2.2.2.2.1 p.2.2.2.2.2.2<M)) L R:=by
 obtain⟨y0,y1,y2,y3,y4,y5,y6,g1,g2,g3,g4⟩:=h;exact bCc hb hG ⟨(y0,y1,y2,y3,y4,y5,y6),⟨g1,g2⟩,g3,g4⟩
end
end Go.Eng
namespace Go.Eng
open Go Go.ChangeShapes Go.WideShapes Go.RowKit
section
variable {H:Type} {enc:TypeId × Value->H} {P:Program} {w:World} {base:Nat} {held:Bool}
theorem aNz {t:TypeId} {f0 f1:Field} {ts:List TypeId} {ds:List (DataW H)} {y0 y1:DataW H} (h:(DataW.weightsEach P (t::ts) (.agg [y0,y1]::ds)).all (· <=reachBytes)=true) (hu:P.underlying t=some (.struct #[f0,f1])):(DataW.weightsEach P [f0.type,f1.type] [y0,y1]).all (· <=reachBytes)=true:=by
 simp only[DataW.weightsEach,DataW.weights,hu,List.all_append,qh] at h;exact h.1
theorem aFq {e t0 t1:TypeId} {k:IntKind} {zs rs:AH} {y1:DataW H} (h:(DataW.weightsEach P [t0,t1] [.slice (lits k zs) (lits k rs),y1]).all (· <=reachBytes)=true) (hu:P.underlying t0=some (.slice e)) (hb:Nat.ble 1 (P.bytesOf e)=true):zs.length<=140737488355327:=by
 simp only[DataW.weightsEach,DataW.weights,hu,List.all_append,qh,Fg] at h;have hw:=zh h.1.1;have u6:=ak hb;have Wy:=reachBytes_lt;have hl:((lits k zs:List (DataW H)).length)=zs.length:=by simp[lits]
 rw[hl] at hw;have:zs.length*1<=(zs.length+(lits k rs:List (DataW H)).length)*P.bytesOf e:=Bu G u6;omega
theorem pay_open {t e0 e1:TypeId} {f0 f1:Field} {v:Value} {d:DataW H} {p:List MemPlace} {ts:List TypeId} {ds:List (DataW H)} {r:Reach} {b0:Nat} (hs:P.underlying t=some (.struct #[f0,f1])) (hone:Go.Deep.oneCellFields P #[f0,f1]=true) (hC:P.cellsOf t=2) (hv:Value.okWide P w r b0 t v) (h:DataW.Trod enc P w base (λ_=>true) held t v d p) (hsz:(DataW.weightsEach P (t::ts) (d::ds)).all (· <=reachBytes)=true)
  (t0:P.underlying f0.type=some (.slice e0)) (h8:P.underlying e0=some (.int .u8)) (t1:P.underlying f1.type=some (.slice e1)) (te:P.underlying e1=some (.slice e0)) (c0:P.cellsOf e0=1) (c1:P.cellsOf e1=1) (hb:Nat.ble 1 (P.bytesOf e0)=true):
  ∃(A A':AF) (c c':Nat) (u:AH) (vals:AG) (ws:AD),v= .agg #[.slice A u.length c, .slice A' ws.length c']/\Rd w A u.length c 1 (ints .u8 u)/\(∀x∈u,(Lit.int .u8 x).wf=true)/\u.length<=140737488355327/\Rd w A' ws.length c' 1 vals/\SlW .u8 w vals ws:=by
 obtain⟨v0,v1,y0,y1,n,rfl,rfl,_,h0,h1⟩:=Go.Joins.open_agg2 hs hone hC hv h;have hz:=aNz hsz hs
 obtain⟨A,c,u,rfl,k1,k2,k3⟩: ∃(A:AF) (c:Nat) (u:AH),v0= .slice A u.length c/\Rd w A u.length c 1 (ints .u8 u)/\(∀x∈u,(Lit.int .u8 x).wf=true)/\u.length<=140737488355327:=by
  rcases open_ints t0 h8 c0 h0 with⟨jp,_⟩|⟨x,l,cp,zs,jp,_,hl,hm,hq,hx,ya,hwz⟩
  ·simp only[Da,Aj] at jp;subst jp;exact⟨none,0,[],rfl,aKh _,(λ_ h=>by cases h),cC⟩
  ·simp only[Da,Aj] at jp;subst jp;subst hx;obtain⟨u,e,g1,g2⟩:=bDl hl hm (by simpa using hq) ya hwz;have Mq:=aFq hz t0 hb;rw[ax] at Mq;have Tq:zs.length=cp:=by simpa using hq
   subst e;exact⟨_,_,u,rfl,g1,g2,G⟩
 obtain⟨A',c',vals,ws,rfl,k4,k5⟩: ∃(A:AF) (c:Nat) (vals:AG) (ws:AD),v1= .slice A ws.length c/\Rd w A ws.length c 1 vals/\SlW .u8 w vals ws:=by
  rcases Go.Deep.open_int_rows t1 te h8 c1 c0 h1 with⟨jp,_⟩|⟨x,l,c,A,L,C,Z,jp,_,hl,hm,hx,hr⟩
  ·simp only[Da,Aj] at jp;subst jp;exact⟨none,0,[],[],rfl,⟨cD,cD,cD,λj v hv=>by simp at hv⟩,fA _ _⟩
  ·simp only[Da,Aj] at jp;subst jp;subst hx;obtain⟨vals,ws,e,g1,g2⟩:=aTx hl hm hr λr Wy=>aNy hz (j:=1) (t:=f1.type) (e:=e1) (q:=e0) rfl rfl t1 te hb Wy (by have:=hr r G;rw[this.2.2.2.1];exact this.2.1) (λhA=>by have:=hr r G;rw[this.2.2.2.1];exact this.2.2.2.2.2.1 hA);subst e;exact⟨_,_,vals,ws,rfl,g1,g2⟩
 exact⟨A,A',c,c',u,vals,ws,rfl,k1,k2,k3,k4,k5⟩
end
end Go.Eng
namespace Go.Proofs.YtnbfoleohpdhjaaGreat
open Go Go.Eng
theorem mixed:Tryz.prog.follows .mixedOrders=true:=cA
theorem sz2:(Tryz.prog.info? 2).map (·.size)=some 1:=cA
theorem sz3:(Tryz.prog.info? 3).map (·.size)=some 1:=cA
theorem zb3:(Tryz.prog.info? 3).map (λi=>(i.zero,i.size,i.bytes))=some (some (.int .i64 0),1,8):=cA
theorem zs3:(Tryz.prog.info? 3).map (λi=>(i.zero,i.size))=some (some (.int .i64 0),1):=cA
theorem sz4:(Tryz.prog.info? 4).map (·.size)=some 1:=cA
theorem zb4:(Tryz.prog.info? 4).map (λi=>(i.zero,i.size,i.bytes))=some (some (.bool false),1,1):=cA
theorem sz5:(Tryz.prog.info? 5).map (·.size)=some 1:=cA
theorem zb5:(Tryz.prog.info? 5).map (λi=>(i.zero,i.size,i.bytes))=some (some (.int .u8 0),1,1):=cA
theorem zs5:(Tryz.prog.info? 5).map (λi=>(i.zero,i.size))=some (some (.int .u8 0),1):=cA
theorem bRe:(Tryz.prog.info? 21).map (·.size)=some 1:=cA
theorem cZ:(Tryz.prog.info? 22).map (·.size)=some 1:=cA
theorem wK:(Tryz.prog.info? 22).map (λi=>(i.zero,i.size,i.bytes))=some (some (.slice none 0 0),1,24):=cA
theorem mW:(Tryz.prog.info? 22).map (λi=>(i.zero,i.size))=some (some (.slice none 0 0),1):=cA
theorem bBw:(Tryz.prog.info? 22).map (·.zero)=some (some (.slice none 0 0)):=cA
theorem iD:(Tryz.prog.info? 23).map (·.size)=some 1:=cA
theorem lG:(Tryz.prog.info? 25).map (·.size)=some 2:=cA
theorem aMx:(Tryz.prog.info? 25).map (·.zero)=some (some (.agg #[(.slice none 0 0),(.slice none 0 0)])):=cA
theorem dW:(Tryz.prog.info? 27).map (·.size)=some 4:=cA
theorem aMw:(Tryz.prog.info? 27).map (·.zero)=some (some (.agg #[(.int .i64 0),(.int .i64 0),(.int .i64 0),(.int .i64 0)])):=cA
theorem eY:(Tryz.prog.info? 52).map (·.size)=some 1:=cA
theorem bQy:(Tryz.prog.info? 52).map (λi=>(i.zero,i.size,i.bytes))=some (some (.slice none 0 0),1,24):=cA
theorem bMb:(Tryz.prog.info? 52).map (λi=>(i.zero,i.size))=some (some (.slice none 0 0),1):=cA
theorem bQv:(Tryz.prog.info? 52).map (·.zero)=some (some (.slice none 0 0)):=cA
theorem bJd:(Tryz.prog.info? 54).map (·.size)=some 3:=cA
theorem bLz:(Tryz.prog.info? 54).map (·.zero)=some (some (.agg #[(.slice none 0 0),(.slice none 0 0),(.bool false)])):=cA
theorem ZR:(Tryz.prog.info? 59).map (·.size)=some 1:=cA
theorem gT:(Tryz.prog.info? 70).map (·.size)=some 1:=cA
theorem aNo:(Tryz.prog.info? 75).map (·.size)=some 2:=cA
theorem bQx:(Tryz.prog.info? 75).map (λi=>(i.zero,i.size,i.bytes))=some (some (.agg #[(.slice none 0 0),(.int .i64 0)]),2,32):=cA
theorem bQw:(Tryz.prog.info? 75).map (λi=>(i.zero,i.size))=some (some (.agg #[(.slice none 0 0),(.int .i64 0)]),2):=cA
theorem bLy:(Tryz.prog.info? 75).map (·.zero)=some (some (.agg #[(.slice none 0 0),(.int .i64 0)])):=cA
theorem bJc:(Tryz.prog.info? 81).map (·.size)=some 1:=cA
theorem bJb:(Tryz.prog.info? 93).map (·.size)=some 1:=cA
theorem bJa:(Tryz.prog.info? 94).map (·.size)=some 3:=cA
theorem bQu:(Tryz.prog.info? 97).map (·.zero)=some (some (.agg #[(.slice none 0 0),(.slice none 0 0),(.slice none 0 0)])):=cA
theorem DJ:(Tryz.prog.info? 131).map (·.size)=some 1:=cA
theorem bMp:(Tryz.prog.info? 145).map (·.size)=some 3:=cA
theorem bMo:(Tryz.prog.info? 147).map (·.size)=some 1:=cA
theorem bHi:(Tryz.prog.info? 148).map (·.size)=some 256:=cA
theorem ZT:(Tryz.prog.info? 175).map (·.size)=some 1:=cA
theorem kC:(Tryz.prog.info? 177).map (·.size)=some 2:=cA
theorem wU:(Tryz.prog.info? 177).map (λi=>(i.zero,i.size,i.bytes))=some (some (.agg #[(.int .i64 0),(.int .i64 0)]),2,16):=cA
theorem MK:(Tryz.prog.info? 177).map (λi=>(i.zero,i.size))=some (some (.agg #[(.int .i64 0),(.int .i64 0)]),2):=cA
theorem aJl:(Tryz.prog.info? 177).map (·.zero)=some (some (.agg #[(.int .i64 0),(.int .i64 0)])):=cA
theorem TN:(Tryz.prog.info? 178).map (·.size)=some 3:=cA
theorem aTv:(Tryz.prog.info? 196).map (·.size)=some 1:=cA
theorem bMc:(Tryz.prog.info? 196).map (λi=>(i.zero,i.size))=some (some (.pointer none),1):=cA
theorem aTu:(Tryz.prog.info? 205).map (·.size)=some 1:=cA
theorem bMn:(Tryz.prog.info? 300).map (·.size)=some 1:=cA
theorem bMa:(Tryz.prog.info? 300).map (·.zero)=some (some (.pointer none)):=cA
abbrev en4:=enters Tryz.func4 cA cA
abbrev en5:=enters Tryz.func5 cA cA
abbrev en6:=enters Tryz.func6 cA cA
abbrev en7:=enters Tryz.func7 cA cA
abbrev en8:=enters Tryz.func8 cA cA
abbrev en9:=enters Tryz.func9 cA cA
abbrev bLe:=enters Gh cA cA
abbrev yM:=enters Tryz.func11 cA cA
abbrev zY:=enters Tryz.func12 cA cA
abbrev bPx:=enters Tryz.func13 cA cA
abbrev bPt:=enters Tryz.func14 cA cA
abbrev bPn:=enters Iu cA cA
abbrev bLd:=enters Kr cA cA
abbrev SN:=enters Tryz.func17 cA cA
abbrev aRg:=enters Tryz.func18 cA cA
abbrev bSv:=enters Tryz.func19 cA cA
abbrev bSu:=enters Kt cA cA
abbrev bOe:=enters Tryz.func21 cA cA
abbrev bSt:=enters Tryz.func22 cA cA
abbrev bSs:=enters Tryz.func23 cA cA
abbrev bLc:=enters Tryz.func24 cA cA
abbrev bLb:=enters Ku cA cA
abbrev bSr:=enters Tryz.func26 cA cA
abbrev bSq:=enters Tryz.func27 cA cA
abbrev bSp:=enters Tryz.func28 cA cA
abbrev aRf:=enters Tryz.func29 cA cA
abbrev aRe:=enters Kv cA cA
abbrev bSo:=enters Tryz.func31 cA cA
abbrev bSn:=enters Tryz.func32 cA cA
abbrev bNf:=enters Tryz.func33 cA cA
abbrev bNe:=enters Tryz.func34 cA cA
abbrev bNd:=enters Tryz.func35 cA cA
abbrev bFr:=enters Iw cA cA
abbrev aZb:=enters Tryz.func37 cA cA
abbrev bFq:=enters Tryz.func38 cA cA
abbrev aCv:=enters Tryz.func39 cA cA
abbrev aCu:=enters Tryz.func40 cA cA
abbrev bLa:=enters Tryz.func41 cA cA
abbrev bSm:=enters Tryz.func42 cA cA
abbrev bSl:=enters Tryz.func43 cA cA
abbrev bFp:=enters Tryz.func44 cA cA
abbrev bSk:=enters Tryz.func45 cA cA
abbrev bSj:=enters Tryz.func46 cA cA
abbrev bFo:=enters Iy cA cA
abbrev bNc:=enters Tryz.func48 cA cA
abbrev bSi:=enters Tryz.func49 cA cA
abbrev aRd:=enters Tryz.func50 cA cA
abbrev bSh:=enters Tryz.func51 cA cA
abbrev aRc:=enters Tryz.func52 cA cA
abbrev bKz:=enters Tryz.func53 cA cA
abbrev JB:=enters Tryz.func54 cA cA
abbrev bNb:=enters Iz cA cA
abbrev bKy:=enters Tryz.func56 cA cA
abbrev aZa:=enters Tryz.func57 cA cA
abbrev bSg:=enters Tryz.func58 cA cA
abbrev bKx:=enters Tryz.func59 cA cA
abbrev bFn:=enters Tryz.func60 cA cA
abbrev bKw:=enters Kw cA cA
abbrev bSf:=enters Tryz.func62 cA cA
abbrev bSe:=enters Tryz.func63 cA cA
abbrev bSd:=enters Tryz.func64 cA cA
abbrev bSc:=enters Tryz.func65 cA cA
abbrev bNa:=enters Tryz.func66 cA cA
abbrev bMz:=enters Tryz.func67 cA cA
abbrev aYz:=enters Tryz.func68 cA cA
abbrev bMy:=enters Tryz.func69 cA cA
abbrev bSb:=enters Tryz.func71 cA cA
abbrev bSa:=enters Tryz.func72 cA cA
abbrev bRz:=enters Tryz.func73 cA cA
abbrev bMx:=enters Tryz.func74 cA cA
abbrev bMw:=enters Tryz.func75 cA cA
abbrev bRy:=enters Tryz.func76 cA cA
abbrev bRx:=enters Tryz.func77 cA cA
abbrev bRw:=enters Tryz.func78 cA cA
abbrev wP:=enters Ky cA cA
abbrev aRb:=enters Tryz.func80 cA cA
abbrev bKv:=enters Tryz.func81 cA cA
abbrev aHx:=enters Tryz.func82 cA cA
abbrev aRa:=enters Kz cA cA
abbrev bRv:=enters Tryz.func84 cA cA
abbrev bRu:=enters Tryz.func85 cA cA
abbrev bRt:=enters Tryz.func87 cA cA
abbrev bMv:=enters Tryz.func88 cA cA
abbrev bRs:=enters Tryz.func89 cA cA
abbrev bRr:=enters Tryz.func90 cA cA
abbrev bRq:=enters Tryz.func91 cA cA
abbrev bRp:=enters Tryz.func92 cA cA
abbrev bRo:=enters Tryz.func93 cA cA
abbrev bRn:=enters Tryz.func94 cA cA
abbrev bRm:=enters Tryz.func95 cA cA
abbrev bRl:=enters Tryz.func96 cA cA
abbrev bRk:=enters Tryz.func97 cA cA
abbrev bKu:=enters La cA cA
abbrev aHw:=enters Tryz.func99 cA cA
abbrev bQl:=enters Tryz.func100 cA cA
abbrev bQk:=enters Tryz.func101 cA cA
abbrev bQj:=enters Tryz.func102 cA cA
abbrev bQi:=enters Tryz.func103 cA cA
abbrev bQh:=enters Tryz.func104 cA cA
abbrev aMa:=enters Tryz.func105 cA cA
abbrev bQg:=enters Tryz.func106 cA cA
abbrev aLz:=enters Gw cA cA
abbrev aLy:=enters Gx cA cA
abbrev aLx:=enters Tryz.func109 cA cA
abbrev aLw:=enters Gy cA cA
abbrev bQf:=enters Tryz.func111 cA cA
abbrev bQe:=enters Tryz.func112 cA cA
abbrev bQd:=enters Tryz.func113 cA cA
abbrev bQc:=enters Tryz.func114 cA cA
abbrev bIl:=enters Jz cA cA
abbrev aZs:=enters Tryz.func121 cA cA
abbrev bQb:=enters Tryz.func122 cA cA
abbrev bIk:=enters Tryz.func123 cA cA
abbrev bQa:=enters Tryz.func124 cA cA
abbrev bPz:=enters Tryz.func125 cA cA
abbrev aZr:=enters Tryz.func126 cA cA
abbrev bIj:=enters Tryz.func127 cA cA
abbrev bIi:=enters Tryz.func128 cA cA
abbrev bPy:=enters Tryz.func129 cA cA
abbrev bIh:=enters Tryz.func130 cA cA
abbrev bIg:=enters Tryz.func131 cA cA
abbrev bIf:=enters Tryz.func132 cA cA
abbrev bPw:=enters Tryz.func133 cA cA
abbrev aZq:=enters Tryz.func134 cA cA
abbrev aZp:=enters Tryz.func135 cA cA
abbrev bPv:=enters Tryz.func138 cA cA
abbrev bPu:=enters Tryz.func139 cA cA
abbrev bPs:=enters Tryz.func140 cA cA
abbrev bPr:=enters Tryz.func141 cA cA
abbrev bPq:=enters Tryz.func142 cA cA
abbrev bPp:=enters Tryz.func143 cA cA
abbrev aZo:=enters Ka cA cA
abbrev aZn:=enters Tryz.func145 cA cA
abbrev aZm:=enters Tryz.func146 cA cA
abbrev aLv:=enters Tryz.func147 cA cA
abbrev aZl:=enters Tryz.func148 cA cA
abbrev bPo:=enters Tryz.func149 cA cA
abbrev bPm:=enters Tryz.func150 cA cA
abbrev bPl:=enters Tryz.func151 cA cA
abbrev bPk:=enters Tryz.func152 cA cA
abbrev bPj:=enters Tryz.func153 cA cA
abbrev bPi:=enters Tryz.func154 cA cA
abbrev bPh:=enters Tryz.func155 cA cA
abbrev bPg:=enters Tryz.func156 cA cA
abbrev bIe:=enters Tryz.func158 cA cA
abbrev bId:=enters Tryz.func159 cA cA
abbrev bPf:=enters Tryz.func160 cA cA
abbrev bPe:=enters Tryz.func161 cA cA
abbrev bPd:=enters Tryz.func162 cA cA
abbrev bPc:=enters Tryz.func163 cA cA
abbrev bPb:=enters Tryz.func164 cA cA
abbrev bPa:=enters Tryz.func165 cA cA
abbrev bOz:=enters Tryz.func166 cA cA
abbrev bOy:=enters Tryz.func167 cA cA
abbrev bOx:=enters Tryz.func168 cA cA
abbrev bOw:=enters Tryz.func179 cA cA
abbrev bOv:=enters Tryz.func180 cA cA
abbrev bOu:=enters Tryz.func187 cA cA
abbrev aZk:=enters Tryz.func188 cA cA
abbrev bOt:=enters Tryz.func189 cA cA
abbrev bOs:=enters Tryz.func190 cA cA
abbrev aZj:=enters Tryz.func191 cA cA
abbrev aZi:=enters Tryz.func192 cA cA
abbrev bOr:=enters Tryz.func193 cA cA
abbrev bOq:=enters Tryz.func194 cA cA
abbrev bOp:=enters Tryz.func195 cA cA
abbrev bOo:=enters Tryz.func196 cA cA
abbrev bOn:=enters Tryz.func197 cA cA
abbrev aCz:=enters Tryz.func198 cA cA
abbrev bIc:=enters Tryz.func199 cA cA
abbrev bIb:=enters Tryz.func200 cA cA
abbrev bOm:=enters Tryz.func201 cA cA
abbrev bOl:=enters Tryz.func202 cA cA
abbrev bOk:=enters Tryz.func203 cA cA
abbrev bOj:=enters Tryz.func204 cA cA
abbrev bOi:=enters Tryz.func205 cA cA
abbrev bOh:=enters Tryz.func206 cA cA
abbrev bOg:=enters Tryz.func207 cA cA
abbrev bOf:=enters Tryz.func208 cA cA
abbrev aZh:=enters Tryz.func209 cA cA
abbrev bOd:=enters Tryz.func210 cA cA
abbrev bIa:=enters Tryz.func211 cA cA
abbrev bHz:=enters Tryz.func212 cA cA
abbrev bOc:=enters Tryz.func213 cA cA
abbrev aZg:=enters Tryz.func214 cA cA
abbrev bOb:=enters Tryz.func215 cA cA
abbrev bOa:=enters Tryz.func221 cA cA
abbrev bNz:=enters Tryz.func222 cA cA
abbrev aLu:=enters Tryz.func223 cA cA
abbrev aCy:=enters Tryz.func224 cA cA
abbrev bHy:=enters Tryz.func229 cA cA
abbrev bHx:=enters Tryz.func230 cA cA
abbrev bNy:=enters Tryz.func231 cA cA
abbrev VG:=enters Tryz.func232 cA cA
abbrev bNx:=enters Tryz.func233 cA cA
abbrev QH:=enters Tryz.func234 cA cA
abbrev bHw:=enters Tryz.func235 cA cA
abbrev bNw:=enters Tryz.func236 cA cA
abbrev aLt:=enters Tryz.func237 cA cA
abbrev bNv:=enters Tryz.func238 cA cA
abbrev bNu:=enters Tryz.func239 cA cA
abbrev bNt:=enters Tryz.func240 cA cA
abbrev aZf:=enters Tryz.func241 cA cA
abbrev aZe:=enters Tryz.func242 cA cA
abbrev aZd:=enters Tryz.func243 cA cA
abbrev bNs:=enters Tryz.func244 cA cA
abbrev aZc:=enters Tryz.func245 cA cA
abbrev bNr:=enters Tryz.func246 cA cA
abbrev bHv:=enters Tryz.func256 cA cA
abbrev bHu:=enters Tryz.func257 cA cA
abbrev bHt:=enters Tryz.func258 cA cA
abbrev bNq:=enters Tryz.func259 cA cA
abbrev bHs:=enters Tryz.func260 cA cA
abbrev bHr:=enters Tryz.func261 cA cA
abbrev bNp:=enters Tryz.func262 cA cA
abbrev bNo:=enters Tryz.func263 cA cA
abbrev bHq:=enters Tryz.func264 cA cA
abbrev bNn:=enters Tryz.func265 cA cA
abbrev bNm:=enters Tryz.func266 cA cA
abbrev aCx:=enters Tryz.func267 cA cA
abbrev bNl:=enters Tryz.func268 cA cA
abbrev bNk:=enters Tryz.func269 cA cA
abbrev aCw:=enters Tryz.func270 cA cA
abbrev bNj:=enters Tryz.func287 cA cA
abbrev bNi:=enters Tryz.func288 cA cA
abbrev bNh:=enters Tryz.func289 cA cA
abbrev bHp:=enters Tryz.func290 cA cA
abbrev bNg:=enters Tryz.func304 cA cA
end Go.Proofs.YtnbfoleohpdhjaaGreat
namespace Go.Proofs.YtnbfoleohpdhjaaGreat
open Go Go.Eng Go.RowKit Go.Shelf Go.Proofs
section
variable {c j g:Nat} {xs:AG} {zs:AH} {A:AF}
attribute [local go_sem] Oper.semAt_some
theorem jQ {W:World} {a:Addr} {n:Nat} (h:Rd W (some a) n c 1 xs) (hj:j<xs.length):W.cell? (a.add j)=some (xs[j]'hj):=by
 obtain⟨b,h1,h2⟩:=h.at_ j _ (av hj);obtain rfl:=jg h1;exact h2
theorem _root_.Go.Eng.Iter.congr {P:Program} {gf:Nat} {lb:Array Value} {sk:World->Prop} {N:Nat} {f f':Nat->AG} (it:Iter P gf lb sk N f) (h: ∀k,k<N->f k=f' k):Iter P gf lb sk N f':=
 λl J W hR hD hY h0=>it l J W hR hD (λk W hk hJ=>by rw[h k hk];exact hY k W hk hJ) h0
theorem VA {k:IntKind} (h:j<zs.length):(ints k zs)[j]?.getD undef= .int k (rd zs (j:Int)):=by
 have:=Go.Eng.ints_at (k:=k) (l:=zs) (i:=(j:Int)) G G;rw[dh] at this;rw[this,qd]
set_option maxRecDepth 100000 in
theorem bBc (wk:xs.length<=1000000):Iter Tryz.prog 244 #[.pointer (some ⟨g,0,none⟩)] (λw=>Rd w (some ⟨g,0,none⟩) 1 1 1 [.slice A xs.length c]/\Rd w A xs.length c 1 xs) xs.length
  (λk=>[.int .i64 (((xs.length-1-k:Nat):Int)),xs[xs.length-1-k]?.getD undef]):=by
 intro l J W hR _ hY h0;rcases fo xs.length with hz|fb
 ·have hc:W.cell? ⟨g,0,none⟩=some (.slice A xs.length c):=jQ (hR _ _ h0).1 (j:=0) cD;rw[hz] at hc;refine Bn Tryz.func244 rfl trivial ?_ rfl;simp only[Tryz.ntmps244,qx,dn,il,Nat.reduceAdd,Nat.reduceSub,xm,xq,zg,uq,iv,iy]
  gi_wp2
  gi_loopw [3] (λi wr=>i= .int .i64 (-1)/\J 0 wr) (λ_ _=>0)
  case atStart=>exact⟨rfl,h0⟩
  case round=>
   obtain⟨rfl,uv⟩:=hrel
   gi_wp2
   go_end0
   exact⟨⟨_,rfl⟩,by rw[hz];exact uv⟩
 ·obtain ⟨a,rfl⟩: ∃a,A=some a:=by
   obtain⟨a,h1,_⟩:=(hR _ _ h0).2.at_ 0 _ (av fb);exact⟨a,h1⟩
  have hc:W.cell? ⟨g,0,none⟩=some (.slice (some a) xs.length c):=jQ (hR _ _ h0).1 (j:=0) cD;refine Bn Tryz.func244 rfl trivial ?_ rfl;simp only[Tryz.ntmps244,qx,dn,il,Nat.reduceAdd,Nat.reduceSub,xm,xq,zg,uq,iv,iy]
  gi_wp2
  gi_loopw [3] (λi wr=>(∃k j:Nat,k+j+1=xs.length/\i= .int .i64 (j:Int)/\J k wr)\/(i= .int .i64 (-1)/\J xs.length wr)) (λi _=>(intOf i+1).toNat)
  case atStart=>exact .inl ⟨0,xs.length-1,G,by rw[show((xs.length:Int)-1)=((xs.length-1:Nat):Int) by omega],h0⟩
  case round=>
   rcases hrel with⟨k,j,Tg,rfl,uv⟩|⟨rfl,uv⟩
   ·obtain ⟨fn,tmps,assign,body,hy,Re⟩:=hY k wr G uv;rw[show xs.length-1-k=j by omega] at hy;have Fm:j<xs.length:=G
    rw[av Fm] at hy;simp only[qd] at hy;have ar:wr.cell? ⟨g,0,none⟩=some (.slice (some a) xs.length c):=jQ (hR _ _ uv).1 (j:=0) cD;have bx:=jQ (hR _ _ uv).2 Fm
    gi_wp2
    refine⟨rfl,Re.mono ?_⟩;rintro e W3 ⟨rfl,Nh⟩
    gi_wp2
    go_roundw
    case rel=>
     rcases fo j with rfl|hj
     ·exact .inr ⟨cD,by rw[<-Tg];exact Nh⟩
     ·exact .inl ⟨k+1,j-1,G,by rw[show((j:Int)-1)=((j-1:Nat):Int) by omega],Nh⟩
    case measure=>simp[intOf]
   ·gi_wp2
    go_end0
    exact⟨⟨_,rfl⟩,uv⟩
set_option maxRecDepth 100000 in
theorem bBd (wk:xs.length<=1000000):Iter Tryz.prog 245 #[.pointer (some ⟨g,0,none⟩)] (λw=>Rd w (some ⟨g,0,none⟩) 1 1 1 [.slice A xs.length c]/\Rd w A xs.length c 1 xs) xs.length
  (λk=>[.int .i64 (((xs.length-1-k:Nat):Int)),xs[xs.length-1-k]?.getD undef]):=by
 intro l J W hR _ hY h0;rcases fo xs.length with hz|fb
 ·have hc:W.cell? ⟨g,0,none⟩=some (.slice A xs.length c):=jQ (hR _ _ h0).1 (j:=0) cD;rw[hz] at hc;refine Bn Tryz.func245 rfl trivial ?_ rfl;simp only[Tryz.ntmps245,qx,dn,il,Nat.reduceAdd,Nat.reduceSub,xm,xq,zg,uq,iv,iy]
  gi_wp2
  gi_loopw [3] (λi wr=>i= .int .i64 (-1)/\J 0 wr) (λ_ _=>0)
  case atStart=>exact⟨rfl,h0⟩
  case round=>
   obtain⟨rfl,uv⟩:=hrel
   gi_wp2
   go_end0
   exact⟨⟨_,rfl⟩,by rw[hz];exact uv⟩
 ·obtain ⟨a,rfl⟩: ∃a,A=some a:=by
   obtain⟨a,h1,_⟩:=(hR _ _ h0).2.at_ 0 _ (av fb);exact⟨a,h1⟩
  have hc:W.cell? ⟨g,0,none⟩=some (.slice (some a) xs.length c):=jQ (hR _ _ h0).1 (j:=0) cD;refine Bn Tryz.func245 rfl trivial ?_ rfl;simp only[Tryz.ntmps245,qx,dn,il,Nat.reduceAdd,Nat.reduceSub,xm,xq,zg,uq,iv,iy]
  gi_wp2
  gi_loopw [3] (λi wr=>(∃k j:Nat,k+j+1=xs.length/\i= .int .i64 (j:Int)/\J k wr)\/(i= .int .i64 (-1)/\J xs.length wr)) (λi _=>(intOf i+1).toNat)
  case atStart=>exact .inl ⟨0,xs.length-1,G,by rw[show((xs.length:Int)-1)=((xs.length-1:Nat):Int) by omega],h0⟩
  case round=>
   rcases hrel with⟨k,j,Tg,rfl,uv⟩|⟨rfl,uv⟩
   ·obtain ⟨fn,tmps,assign,body,hy,Re⟩:=hY k wr G uv;rw[show xs.length-1-k=j by omega] at hy;have Fm:j<xs.length:=G
    rw[av Fm] at hy;simp only[qd] at hy;have ar:wr.cell? ⟨g,0,none⟩=some (.slice (some a) xs.length c):=jQ (hR _ _ uv).1 (j:=0) cD;have bx:=jQ (hR _ _ uv).2 Fm
    gi_wp2
    refine⟨rfl,Re.mono ?_⟩;rintro e W3 ⟨rfl,Nh⟩
    gi_wp2
    go_roundw
    case rel=>
     rcases fo j with rfl|hj
     ·exact .inr ⟨cD,by rw[<-Tg];exact Nh⟩
     ·exact .inl ⟨k+1,j-1,G,by rw[show((j:Int)-1)=((j-1:Nat):Int) by omega],Nh⟩
    case measure=>simp[intOf]
   ·gi_wp2
    go_end0
    exact⟨⟨_,rfl⟩,uv⟩
theorem BX (wk:zs.length<=1000000):Iter Tryz.prog 245 #[.pointer (some ⟨g,0,none⟩)] (λw=>Rd w (some ⟨g,0,none⟩) 1 1 1 [.slice A zs.length c]/\Rd w A zs.length c 1 (ints .i64 zs)) zs.length
  (λk=>[.int .i64 (((zs.length-1-k:Nat):Int)), .int .i64 (rd zs ((zs.length-1-k:Nat):Int))]):=by
 have h:=bBd (g:=g) (A:=A) (c:=c) (xs:=ints .i64 zs) (by rw[bY];exact wk);rw[bY] at h;exact h.congr λk hk=>by rw[VA G]
set_option maxRecDepth 100000 in
theorem aTf:Iter Tryz.prog 289 #[.pointer (some ⟨g,0,none⟩)] (λw=>Rd w (some ⟨g,0,none⟩) 1 1 1 [.slice A xs.length c]/\Rd w A xs.length c 1 xs) xs.length
  (λk=>[xs[k]?.getD undef]):=by
 intro l J W hR _ hY h0;have wk:=(hR _ _ h0).2.max;rcases fo xs.length with hz|fb
 ·have hc:W.cell? ⟨g,0,none⟩=some (.slice A xs.length c):=jQ (hR _ _ h0).1 (j:=0) cD;rw[hz] at hc;refine Bn Tryz.func289 rfl trivial ?_ rfl;simp only[Tryz.ntmps289,qx,dn,il,Nat.reduceAdd,Nat.reduceSub,xm,xq,zg,uq,iv,iy]
  gi_wp2
  gi_loopw [7] (λi wr=>i= .int .i64 0/\J 0 wr) (λ_ _=>0)
  case atStart=>exact⟨rfl,h0⟩
  case round=>
   obtain⟨rfl,uv⟩:=hrel
   gi_wp2
   go_end0
   exact⟨⟨_,rfl⟩,by rw[hz];exact uv⟩
 ·obtain ⟨a,rfl⟩: ∃a,A=some a:=by
   obtain⟨a,h1,_⟩:=(hR _ _ h0).2.at_ 0 _ (av fb);exact⟨a,h1⟩
  have hc:W.cell? ⟨g,0,none⟩=some (.slice (some a) xs.length c):=jQ (hR _ _ h0).1 (j:=0) cD;refine Bn Tryz.func289 rfl trivial ?_ rfl;simp only[Tryz.ntmps289,qx,dn,il,Nat.reduceAdd,Nat.reduceSub,xm,xq,zg,uq,iv,iy]
  gi_wp2
  gi_loopw [7] (λi wr=> ∃k:Nat,k<=xs.length/\i= .int .i64 k/\J k wr) (λi _=>xs.length-(intOf i).toNat)
  case atStart=>exact⟨0,oz _,rfl,h0⟩
  case round=>
   obtain⟨k,hk,rfl,uv⟩:=hrel;by_cases br:k<xs.length
   ·obtain ⟨fn,tmps,assign,body,hy,Re⟩:=hY k wr br uv;rw[av br] at hy;simp only[qd] at hy;have ar:wr.cell? ⟨g,0,none⟩=some (.slice (some a) xs.length c):=jQ (hR _ _ uv).1 (j:=0) cD;have bx:=jQ (hR _ _ uv).2 br
    gi_wp2
    refine⟨rfl,Re.mono ?_⟩;rintro e W3 ⟨rfl,Nh⟩
    gi_wp2
    go_roundw
    case rel=>exact⟨k+1,G,cD,Nh⟩
    case measure=>simp[intOf];omega
   ·obtain rfl:k=xs.length:=G
    gi_wp2
    go_end0
    exact⟨⟨_,rfl⟩,uv⟩
theorem aEt:Iter Tryz.prog 289 #[.pointer (some ⟨g,0,none⟩)] (λw=>Rd w (some ⟨g,0,none⟩) 1 1 1 [.slice A zs.length c]/\Rd w A zs.length c 1 (ints .i64 zs)) zs.length
  (λk=>[.int .i64 (rd zs (k:Int))]):=by
 have h:=aTf (g:=g) (A:=A) (c:=c) (xs:=ints .i64 zs);rw[bY] at h;exact h.congr λk hk=>by rw[VA hk]
end
section
variable {n c m k g1 g2:Nat} {xs:AG} {A:AF} {zs:AH}
attribute [local go_sem] Oper.semAt_some
theorem nA {W:World} {a:Addr} (h:Rd W (some a) n c 1 xs) {j:Nat} (hj:j<xs.length):W.cell? (a.add j)=some (xs[j]'hj):=by
 obtain⟨b,h1,h2⟩:=h.at_ j _ (av hj);obtain rfl:=jg h1;exact h2
def chN (m n:Nat):Nat:=(m+n-1)/n
theorem JI (hn:1<=n):k<chN m n↔k*n<m:=by
 unfold chN;rw[Nat.lt_iff_add_one_le,Nat.le_div_iff_mul_le G,yl];omega
theorem aIi (h:n<=m-k*n):((k:Int)*(n:Int)+(n:Int)).toNat-k*n=min n (m-k*n):=by
 have d9:(k:Int)*(n:Int)=((k*n:Nat):Int):=cD
 omega
theorem aIg:((k:Int)*(n:Int)+min (n:Int) ((m-k*n:Nat):Int)).toNat-k*n=min n (m-k*n):=by
 have d9:(k:Int)*(n:Int)=((k*n:Nat):Int):=cD
 omega
theorem aIh (h:m-k*n<=n):((k:Int)*(n:Int)+((m-k*n:Nat):Int)).toNat-k*n=min n (m-k*n):=by
 have d9:(k:Int)*(n:Int)=((k*n:Nat):Int):=cD
 omega
theorem aIj {N:Nat} (hn:1<=n) (h:k<N):N-(intOf (.int .i64 ((k:Int)*n+n))).toNat/n<N-(intOf (.int .i64 ((k:Int)*n))).toNat/n:=by
 have e0:(intOf (.int .i64 ((k:Int)*n))).toNat=k*n:=by
  have d9:(k:Int)*(n:Int)=((k*n:Nat):Int):=cD
  simp only[intOf,d9];omega
 have e1:(intOf (.int .i64 ((k:Int)*n+n))).toNat=(k+1)*n:=by
  have d9:(k:Int)*(n:Int)=((k*n:Nat):Int):=cD
  simp only[intOf,d9,yl];omega
 rw[e0,e1,Dl _ G,Dl _ G];omega
theorem aIl {P:Program} {t e:TypeId} {p:Nat} {tm:Array Value} {s:Nat} {w:World} {o:Oper} (ht:P.underlying t=some (.slice e)) (hi:(P.info? e).map (·.size)=some 1)
  (ho:o.op= .slice t (.tmp 14) (some (.tmp 15)) none none) (hs:tm.size=s) (h14:tm[14]? =some (.slice A m c)) (h15:tm[15]? =some (.int .i64 (p:Int))) (hp:p<=m):
  (execOp ({tmps:=tm,defers:=[]}:Act).eval o).run P w= .ok (.value (.slice (jO A p c 1) (m-p) (c-p))) w:=by
 have h:=dH (P:=P) (n:=⟨s,[],none⟩) (B:=w.heap.size) (w0:=w) (L:=[(14, .slice A m c),(15, .int .i64 (p:Int))]) (R:=[]) (ty:=o.type) (x:= .tmp 14) (y:= .tmp 15) ht hi rfl rfl (l:=(p:Int)) G G
 have h2:=h {tmps:=tm,defers:=[]} w o ho rfl ⟨hs,rfl,λt v hv=>by
  rcases zQ hv with⟨rfl,rfl⟩|⟨_,hv⟩
  ·exact h14
  ·rcases zQ hv with⟨rfl,rfl⟩|⟨_,hv⟩
   ·exact h15
   ·simp[lk] at hv⟩ (Hp.refl w)
 rw[dh] at h2;exact h2
set_option maxRecDepth 100000 in
theorem bAo (hn:1<=n) (nh:n<=16777216) (wk:xs.length<=1000000):Iter Tryz.prog 35 #[.pointer (some ⟨g1,0,none⟩), .pointer (some ⟨g2,0,none⟩)] (λw=>Rd w (some ⟨g1,0,none⟩) 1 1 1 [.slice A xs.length c]/\Rd w (some ⟨g2,0,none⟩) 1 1 1 [.int .i64 (n:Int)]/\Rd w A xs.length c 1 xs) (chN xs.length n)
  (λk=>[.slice (jO A (k*n) c 1) (min n (xs.length-k*n)) (min n (xs.length-k*n))]):=by
 intro l J W hR hD hY h0;have hc:W.cell? ⟨g1,0,none⟩=some (.slice A xs.length c):=nA (hR _ _ h0).1 (j:=0) cD;have hd:W.cell? ⟨g2,0,none⟩=some (.int .i64 (n:Int)):=nA (hR _ _ h0).2.1 (j:=0) cD;have nw:=(hR _ _ h0).2.2.le;refine Bn Tryz.func35 rfl trivial ?_ rfl;simp only[Tryz.ntmps35,qx,dn,il,Nat.reduceAdd,Nat.reduceSub,xm,xq,zg,uq,iv,iy]
 gi_wp2
 gi_loopw [4] (λi wr=> ∃k:Nat,k<=chN xs.length n/\i= .int .i64 ((k*n:Nat):Int)/\J k wr) (λi _=>chN xs.length n-(intOf i).toNat/n)
 case atStart=>exact⟨0,oz _,cD,h0⟩
 case round=>
  obtain⟨k,hk,rfl,uv⟩:=hrel;have ar:wr.cell? ⟨g1,0,none⟩=some (.slice A xs.length c):=nA (hR _ _ uv).1 (j:=0) cD;have Ls:wr.cell? ⟨g2,0,none⟩=some (.int .i64 (n:Int)):=nA (hR _ _ uv).2.1 (j:=0) cD;by_cases br:k<chN xs.length n
  ·have Th:k*n<xs.length:=(JI hn).1 br
   have hcut:jO A (k*n) c 1=Option.map (λx=>x.add (k*n)) A:=by
    unfold jO;rw[df G,qp]
   gi_wp2
   refine wpIn_region_quiet_lit rfl cA cA ?_
   iterate 3 quiet_step_in (skip)
   refine wpQuietIn_step (by quiet_asked_in) (λK hK=> ?_);rw[dm (by simp[Region.wanted])];refine⟨.slice (jO A (k*n) c 1) (xs.length-k*n) (c-k*n),λw' Qo=> ?_,hK _ ?_⟩
   ·unfold Oper.quietAtIn;rw[aIl (p:=k*n) (A:=A) (m:=xs.length) (c:=c) Tryz.underlying22 sz5 rfl rfl rfl cD G];exact⟨rfl,rfl⟩
   clear hK K
   iterate 3 quiet_step_in (skip)
   refine wpQuietIn_nil ?_;intro _ Qo;obtain⟨nq,hw''⟩:=Qo;subst hw'';have hJn:J k (wr.drewN nq):=hD k wr (wr.drawn+nq) uv G;have bx:(wr.drewN nq).cell? ⟨g1,0,none⟩=some (.slice A xs.length c):=nA (hR _ _ hJn).1 (j:=0) cD;have Ro:(wr.drewN nq).cell? ⟨g2,0,none⟩=some (.int .i64 (n:Int)):=nA (hR _ _ hJn).2.1 (j:=0) cD;obtain⟨fn,tmps,assign,body,hy,Re⟩:=hY k _ br hJn;have qn:(k*n)/n=k:=Dl _ G;have mu:(k*n+n)/n=k+1:=by rw[<-Cc];exact Dl _ G
   gi_wp2
   all_goals
    rw[hcut] at hy
    first
     |rw[aIi (k:=k) (n:=n) (m:=xs.length) G,hy]
     |rw[aIh (k:=k) (n:=n) (m:=xs.length) G,hy]
     |rw[aIg (k:=k) (n:=n) (m:=xs.length),hy]
    gi_wp2
    refine⟨rfl,Re.mono ?_⟩;rintro e W3 ⟨rfl,Nh⟩;have hd3:W3.cell? ⟨g2,0,none⟩=some (.int .i64 (n:Int)):=nA (hR _ _ Nh).2.1 (j:=0) cD
    gi_wp2
    go_roundw
    case rel=>exact⟨k+1,G,by simp[yl],Nh⟩
    case measure=>
     exact aIj hn br
  ·obtain rfl:k=chN xs.length n:=G
   have Th: ¬chN xs.length n*n<xs.length:=λh=>br ((JI hn).2 h)
   gi_wp2
   go_end0
   exact⟨⟨_,rfl⟩,uv⟩
theorem aIk (hn:1<=n) (nh:n<=16777216) (wk:zs.length<=1000000):Iter Tryz.prog 35 #[.pointer (some ⟨g1,0,none⟩), .pointer (some ⟨g2,0,none⟩)] (λw=>Rd w (some ⟨g1,0,none⟩) 1 1 1 [.slice A zs.length c]/\Rd w (some ⟨g2,0,none⟩) 1 1 1 [.int .i64 (n:Int)]/\Rd w A zs.length c 1 (ints .u8 zs)) (chN zs.length n)
  (λk=>[.slice (jO A (k*n) c 1) (min n (zs.length-k*n)) (min n (zs.length-k*n))]):=by
 have h:=bAo (g1:=g1) (g2:=g2) (A:=A) (c:=c) (xs:=ints .u8 zs) hn nh (by rw[bY];exact wk);rw[bY] at h;exact h
theorem KH {sz:Int} (hn:1<=sz) (nh:sz<=16777216) (wk:zs.length<=1000000):Iter Tryz.prog 35 #[.pointer (some ⟨g1,0,none⟩), .pointer (some ⟨g2,0,none⟩)] (λw=>Rd w (some ⟨g1,0,none⟩) 1 1 1 [.slice A zs.length c]/\Rd w (some ⟨g2,0,none⟩) 1 1 1 [.int .i64 sz]/\Rd w A zs.length c 1 (ints .u8 zs)) (chN zs.length sz.toNat)
  (λk=>[.slice (jO A (k*sz.toNat) c 1) (min sz.toNat (zs.length-k*sz.toNat)) (min sz.toNat (zs.length-k*sz.toNat))]):=by
 have h:=aIk (g1:=g1) (g2:=g2) (A:=A) (c:=c) (n:=sz.toNat) (zs:=zs) G G wk;rw[mg G] at h;exact h
theorem UH {B:Nat} {w0:World} {R:List Row} {l:Nat} {k:IntKind} {xs:AH} (hr:RdC B w0 R A m c 1 (ints k xs)) (h1:l<=m):RdC B w0 R (jO A l c 1) (min n (m-l)) (min n (m-l)) 1 (ints k ((xs.drop l).take n)):=by
 intro w hw;have hl:=(hr w hw).lenI;have h:=hr.cutI (l:=l) (h:=l+min n (m-l)) G G w hw;rw[show l+min n (m-l)-l=min n (m-l) by omega] at h
 have e:(xs.drop l).take (min n (m-l))=(xs.drop l).take n:=by
  rcases Nat.le_total n (m-l) with a|a
  ·rw[Aa a]
  ·rw[Nat.min_eq_right a,bg (by rw[bn];omega),bg (by rw[bn];omega)]
 rw[e] at h;exact⟨h.len,h.max,ed _,h.at_⟩
end
end Go.Proofs.YtnbfoleohpdhjaaGreat
namespace Go.Pure
open Go.Eng
section
variable {i k:Int} {u v:AH} {f:Nat}
def iW (a b:Int):Int:=if a<b then -1 else if b<a then 1 else 0
def cmpL:AH->AH->Int
 |[],[]=>0
 |[],_::_=> -1
 |_::_,[]=>1
 |a::s,b::t=>if a<b then -1 else if b<a then 1 else cmpL s t
theorem gD {l:AH} (h0:0<=i) (h:i<l.length):l.drop i.toNat=rd l i::l.drop (i+1).toNat:=by
 have hl:i.toNat<l.length:=G
 have e:(i+1).toNat=i.toNat+1:=G
 rw[e,mf hl];simp[rd,ai,av hl]
theorem rR (h0:0<=i) (hu:i<u.length) (hv:i<v.length):
  cmpL (u.drop i.toNat) (v.drop i.toNat)=if rd u i<rd v i then -1 else if rd v i<rd u i then 1 else cmpL (u.drop (i+1).toNat) (v.drop (i+1).toNat):=by
 rw[gD h0 hu,gD h0 hv];rfl
theorem uX (h0:0<=i) (hu:i<=u.length) (hv:i<=v.length) (h: ¬(i<u.length/\i<v.length)):
  cmpL (u.drop i.toNat) (v.drop i.toNat)=if (u.length:Int)<v.length then -1 else if (v.length:Int)<u.length then 1 else 0:=by
 have nil: ∀(l:AH) (j:Int),(l.length:Int)<=j->l.drop j.toNat=[]:=λl j h=>ol G;by_cases h1:i<u.length
 ·have h2:i=v.length:=G
  rw[gD h0 h1,nil v i G,df G,dm G];rfl
 ·by_cases h2:i<v.length
  ·rw [gD h0 h2,nil u i G,dm G];rfl
  ·rw [nil u i G,nil v i G,df G,df G];rfl
def QQ (u v:AH):Nat->Int->Int
 |0,_=>0
 |f+1,k=>if rd u (k%u.length)<rd v (k%v.length) then -1 else if rd v (k%v.length)<rd u (k%u.length) then 1 else QQ u v f (k+1)
def QR (u v:AH):Int:=
 if (u.length:Int)=0\/(v.length:Int)=0 then iW (min u.length 1) (min v.length 1) else QQ u v (u.length+v.length) 0
theorem aRr (a b:Int):iW b a= -iW a b:=by unfold iW;split<;>split<;>omega
theorem VM (h:rd u (k%u.length)=rd v (k%v.length)):QQ u v (f+1) k=QQ u v f (k+1):=by
 rw[QQ,df G,df G]
theorem QP (hf:0<f) (h:iW (rd u (k%u.length)) (rd v (k%v.length))≠0):QQ u v f k=iW (rd u (k%u.length)) (rd v (k%v.length)):=by
 obtain⟨f,rfl⟩: ∃g,f=g+1:=⟨f-1,G⟩;unfold QQ iW at*;split
 ·rfl
 ·split
  ·rfl
  ·rename_i h1 h2;rw[df h1,df h2] at h;exact absurd rfl h
theorem bFy (hf:0<f) (h:iW (rd u (k%u.length)) (rd v (k%v.length))=0):QQ u v f k=QQ u v (f-1) (k+1):=by
 obtain⟨f,rfl⟩: ∃g,f=g+1:=⟨f-1,G⟩;refine VM ?_;unfold iW at h;split at h
 ·omega
 ·split at h<;>omega
def rep (w:AH) (k:Int):AH:=(List.replicate k.toNat w).flatten
theorem oV (w:AH) (k:Int):(rep w k).length=k.toNat*w.length:=by
 unfold rep;rw[qj,List.map_replicate,List.sum_replicate_nat]
theorem aIf (u v:AH) (h:(u.length:Int)=0\/(v.length:Int)=0):cmpL (u.take (min (u.length:Int) 1).toNat) (v.take (min (v.length:Int) 1).toNat)=iW (min u.length 1) (min v.length 1):=by
 cases u with
 | nil=>cases v with
  |nil=>rfl
  |cons b t=>
   have e:(min (((b::t).length:Nat):Int) 1)=1:=by simp only[dn];omega
   rw[e];rfl
 | cons a s=>cases v with
  |nil=>
   have e:(min (((a::s).length:Nat):Int) 1)=1:=by simp only[dn];omega
   rw[e];rfl
  |cons b t=>simp only[dn] at h;omega
end
section
variable {u v:AH} {d N:Nat} {c:Int}
def om (u:AH) (i:Nat):Int:=u.getD (i%u.length) 0
theorem PD (u:AH) (k:Nat):rd u ((k:Int)%u.length)=om u k:=by
 unfold rd om;rw[<-zo,dh]
theorem qH {i:Nat} (h:i<u.length):om u i=u.getD i 0:=by
 unfold om;rw[lv h]
def Per (W:Nat->Int) (d:Nat):Prop:= ∀i,W (i+d)=W i
theorem qO (u:AH):Per (om u) u.length:=by
 intro i;unfold om;rw[Io]
theorem Per.mul {W:Nat->Int} (h:Per W d): ∀k,Per W (d*k)
 |0=>λi=>by rw[Nat.mul_zero,rq]
 |k+1=>λi=>by rw[Nat.mul_succ,<-nz,h,h.mul k]
theorem Per.mod {W:Nat->Int} (h:Per W d) (i:Nat):W (i%d)=W i:=by
 have:=h.mul (i/d) (i%d);rw[Nat.mod_add_div] at this;exact this.symm
theorem Per.gcd {W:Nat->Int} (a b:Nat):Per W a->Per W b->Per W (Nat.gcd a b):=by
 induction a,b using Nat.gcd.induction with
 |H0 n=>intro _ h;rw[Nat.gcd_zero_left];exact h
 |H1 m n hm ih=>
  intro h1 h2;rw[Nat.gcd_rec];refine ih ?_ h1;intro i;have e:=h1.mul (n/m) (i+n%m);rw[nz,Nat.mod_add_div] at e;rw[<-e];exact h2 i
theorem agree {U V:Nat->Int} {p q:Nat} (hp:0<p) (hq:0<q) (hU:Per U p) (hV:Per V q) (h: ∀i,i<p+q->U i=V i): ∀i,U i=V i:=by
 intro i
 induction i using Nat.strongRecOn with
 | _ i ih=>
  by_cases hi:i<p+q
  ·exact h i hi
  ·have e1:U i=U (i-p):=by have:=hU (i-p);rw[su G] at this;exact this
   have e2:V (i-p)=V (i-p-q):=by have:=hV (i-p-q);rw[su G] at this;exact this
   have e3:U (i-q)=U (i-p-q):=by have:=hU (i-p-q);rw[show i-p-q+p=i-q by omega] at this;exact this
   have e4:V i=V (i-q):=by have:=hV (i-q);rw[su G] at this;exact this
   rw[e1,ih (i-p) G,e2,<-ih (i-p-q) G,<-e3,ih (i-q) G,<-e4]
def FD (U V:Nat->Int) (N:Nat) (c:Int):Prop:=(c=0/\ ∀i,i<N->U i=V i)\/ ∃k,k<N/\(∀i,i<k->U i=V i)/\U k≠V k/\c=iW (U k) (V k)
theorem kX {a b:Int}:iW a b=0↔a=b:=by unfold iW;split<;>(try split)<;>omega
theorem FD.uniq {U V:Nat->Int} {M:Nat} {d:Int} (h:FD U V N c) (h':FD U V M d) (hc:c=0-> ∀i,i<M->U i=V i) (hd:d=0-> ∀i,i<N->U i=V i):c=d:=by
 rcases h with⟨rfl,h⟩|⟨k,hk,h,hn,e⟩
 ·rcases h' with⟨rfl,_⟩|⟨k',po,_,Zj,e'⟩
  ·rfl
  ·exact absurd (hc rfl k' po) Zj
 ·rcases h' with⟨rfl,h'⟩|⟨k',po,h',Zj,e'⟩
  ·exact absurd (hd rfl k hk) hn
  ·have:k=k':=by
    by_cases h1:k<k'
    ·exact absurd (h' k h1) hn
    ·by_cases h2:k'<k
     ·exact absurd (h k' h2) Zj
     ·omega
   subst this;rw[e,e']
theorem FD.step {U V:Nat->Int} (h0:U 0=V 0) (h:FD (λi=>U (i+1)) (λi=>V (i+1)) N c):FD U V (N+1) c:=by
 rcases h with⟨rfl,h⟩|⟨k,hk,h,hn,e⟩
 ·refine .inl ⟨rfl,λi hi=> ?_⟩;cases i with
  |zero=>exact h0
  |succ i=>exact h i G
 ·refine .inr ⟨k+1,G,λi hi=> ?_,hn,e⟩;cases i with
  |zero=>exact h0
  |succ i=>exact h i G
theorem aMf (u v:AH): ∀(f k:Nat),FD (λi=>om u (i+k)) (λi=>om v (i+k)) f (QQ u v f k)
 |0,_=> .inl ⟨rfl,λi hi=>G⟩
 | f+1,k=>by
  by_cases h:om u k=om v k
  ·rw [VM (by rw[PD,PD];exact h)];have ih:=aMf u v f (k+1);refine FD.step (by simpa using h) ?_;have e:((k+1:Nat):Int)=(k:Int)+1:=G
   rw[<-e];simpa [nz,ve 1 k] using ih
  ·refine .inr ⟨0,G,λi hi=>G,by simpa using h,?_⟩;rw[QP G (by rw[PD,PD];exact λe=>h (kX.1 e)),PD,PD];simp
theorem aMg (hu:0<u.length) (hv:0<v.length):FD (om u) (om v) (u.length+v.length) (QR u v):=by
 unfold QR;rw[df G];have:=aMf u v (u.length+v.length) 0;simpa using this
def Lt (U V:Nat->Int):Prop:= ∃k,(∀i,i<k->U i=V i)/\U k<V k
theorem Lt.trans {U V W:Nat->Int} (h:Lt U V) (h':Lt V W):Lt U W:=by
 obtain⟨k,h,hk⟩:=h;obtain⟨m,h',hm⟩:=h';by_cases h1:k<m
 ·exact⟨k,λi hi=>by rw[h i hi,h' i G],by rw[<-h' k h1];exact hk⟩
 ·by_cases h2:m<k
  ·exact⟨m,λi hi=>by rw[h i G,h' i hi],by rw[h m h2];exact hm⟩
  ·have:k=m:=G
   subst this;exact⟨k,λi hi=>by rw[h i hi,h' i hi],G⟩
theorem bAh (hu:0<u.length) (hv:0<v.length):QR u v<0↔Lt (om u) (om v):=by
 constructor
 ·intro h;rcases aMg hu hv with⟨e,_⟩|⟨k,_,hk,hn,e⟩
  ·omega
  ·refine ⟨k,hk,?_⟩;rw[e] at h;unfold iW at h;split at h
   ·assumption
   ·split at h<;>omega
 ·rintro ⟨k,hk,br⟩;rcases aMg hu hv with⟨e,h⟩|⟨m,_,hm,hn,e⟩
  ·have:=agree hu hv (qO u) (qO v) h k;omega
  ·have:k=m:=by
    by_cases h1:k<m
    ·have:=hm k h1;omega
    ·by_cases h2:m<k
     ·exact absurd (hk m h2) hn
     ·omega
   subst this;rw[e];unfold iW;rw[dm br];decide
theorem OB (w:AH): ∀(k i:Nat),i<k*w.length->(rep w k).getD i 0=om w i
 |0,i,h=>G
 | k+1,i,h=>by
  have e:((k+1:Nat):Int)=1+(k:Int):=G
  have e2:rep w ((k+1:Nat):Int)=w++rep w k:=by
   unfold rep;rw[show((k+1:Nat):Int).toNat=k+1 by omega,List.replicate_succ];simp
  rw[e2];by_cases hi:i<w.length
  ·rw[qH hi,ai,ai,ji hi]
  ·rw [ai,jk G,<-ai,OB w k (i-w.length) (by rw[yl] at h;omega)];have:=qO w (i-w.length);rw[su G] at this;exact this.symm
end
section
variable {u:AH} {f p:Nat}
def lpF (u:AH):Nat->Int->Int
 |0,_=>0
 |f+1,p=>if u.drop p.toNat=u.take ((u.length:Int)-p).toNat then p else lpF u f (p+1)
def lp (u:AH):Int:=lpF u u.length 1
theorem aKy {p:Int} (hf:0<f) (h:u.drop p.toNat=u.take ((u.length:Int)-p).toNat):lpF u f p=p:=by
 obtain⟨f,rfl⟩: ∃g,f=g+1:=⟨f-1,G⟩;rw[lpF,dm h]
theorem aXc {p:Int} (hf:0<f) (h: ¬u.drop p.toNat=u.take ((u.length:Int)-p).toNat):lpF u f p=lpF u (f-1) (p+1):=by
 obtain⟨f,rfl⟩: ∃g,f=g+1:=⟨f-1,G⟩;rw[lpF,df h];rfl
def RP (u:AH) (p:Nat):Prop:=u.drop p=u.take (u.length-p)
theorem OV:RP u p↔ ∀i,i+p<u.length->u.getD (i+p) 0=u.getD i 0:=by
 constructor
 ·intro h i hi;have:=bq (λl=>l.getD i 0) h;simp only[ai,sj,qb] at this;rw[dm G] at this;rw[ai,ai,ve];exact this
 ·intro h;refine ul cD λi h1 h2=> ?_;simp only[bn] at h1;have:=h i G;simp only[ai] at this;rw[av G,av G] at this;simp only[qd] at this;rw[Af,wo,<-this];simp only[ve]
theorem aBr (u:AH): ∀(f:Nat) (p:Nat),1<=p->p+f=u.length+1->p<=u.length-> ∃r:Nat,lpF u f p=r/\p<=r/\r<=u.length/\RP u r/\ ∀q,p<=q->q<r-> ¬RP u q
 |0,p,_,h2,h3=>G
 | f +1,p,h1,h2,h3=>by
  have e:((u.length:Int)-(p:Int)).toNat=u.length-p:=G
  by_cases h:RP u p
  ·refine ⟨p,aKy G ?_,ed _,h3,h,λq a b=>G⟩;rw[dh,e];exact h
  ·rw [aXc G (by rw[dh,e];exact h)]
   have br:p<u.length:=by
    rcases gp p u.length with h'|h'
    ·exact h'
    ·have:p=u.length:=G
     subst this;exact absurd (by unfold RP;simp) h
   obtain⟨r,hr,h4,h5,h6,h7⟩:=aBr u f (p+1) G G G;refine⟨r,?_,G,h5,h6,λq a b=> ?_⟩
   ·rw[<-hr];rfl
   ·by_cases hq:q=p
    ·subst hq;exact h
    ·exact h7 q G b
theorem LX (h:0<u.length): ∃r:Nat,lp u=r/\1<=r/\r<=u.length/\RP u r/\ ∀q,1<=q->q<r-> ¬RP u q:=
 aBr u u.length 1 (ed 1) G h
def rl (u:AH):Int:=if (u.length:Int)%lp u≠0 then u.length else lp u
theorem aBb (hp:0<p) (h:RP u p): ∀i,i<u.length->u.getD i 0=u.getD (i%p) 0:=by
 intro i
 induction i using Nat.strongRecOn with
 | _ i ih=>
  intro hi;by_cases br:i<p
  ·rw[lv br]
  ·have:=OV.1 h (i-p) G;rw[su G] at this;rw[this,ih (i-p) G G,<-zt G]
theorem aKu (hp:0<p) (hn:p<=u.length) (i:Nat):om (u.take p) i=u.getD (i%p) 0:=by
 unfold om;rw[ax,Aa hn];simp only[ai];rw[qb,dm (yw _ hp)]
theorem bEc (hp:0<p) (hn:p<=u.length) (hd:p∣u.length) (h:RP u p) (i:Nat):om u i=om (u.take p) i:=by
 rw[aKu hp hn];unfold om;rw[aBb hp h _ (yw _ G),Nat.mod_mod_of_dvd _ hd]
theorem aKr {d:Nat} (h:Per (om u) d):RP u d:=by
 refine OV.2 λi hi=> ?_;rw[<-qH hi,<-qH (by omega:i<u.length)];exact h i
theorem WY (h:0<u.length): ∃r:Nat,rl u=r/\1<=r/\r<=u.length/\(∀i,om u i=om (u.take r) i)/\ ∀d,1<=d->Per (om u) d->r<=d:=by
 obtain⟨p,hp,h1,h2,h3,h4⟩:=LX h
 have key: ∀d,1<=d->Per (om u) d->d<u.length->p∣u.length/\p<=d:=by
  intro d hd nj br;have hg:Per (om u) (Nat.gcd d u.length):=Per.gcd _ _ nj (qO u);have g1:Nat.gcd d u.length∣u.length:=Nat.gcd_dvd_right _ _;have g2:Nat.gcd d u.length<=d:=Nat.le_of_dvd G (Nat.gcd_dvd_left _ _);have g3:0<Nat.gcd d u.length:=Nat.gcd_pos_of_pos_left _ G;generalize Nat.gcd d u.length=g at*
  have p1:p<=g:=by
   rcases gp g p with a|a
   ·exact absurd (aKr hg) (h4 g g3 a)
   ·exact a
  have g4:2*g<=u.length:=by
   obtain⟨k,hk⟩:=g1
   have:2<=k:=by
    rcases gp k 2 with a|a
    ·have:k=0\/k=1:=G
     rcases this with rfl|rfl<;>omega
    ·exact a
   rw[hk]
   calc 2*g<=k*g:=vg _ this
    _=g*k:=Ag _ _
  have ag: ∀i,om (u.take p) i=om u i:=by
   refine agree (p:=p) (q:=g) G g3 ?_ hg λi hi=> ?_
   ·have:=qO (u.take p);rwa[ax,Aa h2] at this
   ·rw[aKu G h2,qH G,<-aBb G h3 i G]
  have pp:Per (om u) p:=by
   intro i;rw[<-ag,<-ag];have:=qO (u.take p) i;rwa[ax,Aa h2] at this
  have hh:Per (om u) (Nat.gcd p u.length):=Per.gcd _ _ pp (qO u);have e1:Nat.gcd p u.length∣p:=Nat.gcd_dvd_left _ _;have e2:Nat.gcd p u.length∣u.length:=Nat.gcd_dvd_right _ _;have e3:0<Nat.gcd p u.length:=Nat.gcd_pos_of_pos_left _ G;have e4:=Nat.le_of_dvd G e1
  have e5:p<=Nat.gcd p u.length:=by
   rcases gp (Nat.gcd p u.length) p with a|a
   ·exact absurd (aKr hh) (h4 _ e3 a)
   ·exact a
  have e6:Nat.gcd p u.length=p:=G
  rw[e6] at e2;exact⟨e2,G⟩
 by_cases hd:p∣u.length
 ·refine ⟨p,?_,h1,h2,bEc G h2 hd h3,λd a b=> ?_⟩
  ·unfold rl;rw[hp,df]
   ·intro hn;refine hn ?_;rw[<-zo,Nat.mod_eq_zero_of_dvd hd];rfl
  ·rcases gp d u.length with c|c
   ·exact(key d a b c).2
   ·omega
 ·refine ⟨u.length,?_,G,ed _,λi=>by rw[qc],λd a b=> ?_⟩
  ·unfold rl;rw[hp,dm];intro hz;rw[<-zo] at hz;exact hd (Nat.dvd_of_mod_eq_zero G)
  ·rcases gp d u.length with c|c
   ·exact absurd (key d a b c).1 hd
   ·exact c
theorem nZ (h:0<u.length):1<=rl u/\rl u<=u.length:=by
 obtain⟨r,e,h1,h2,_⟩:=WY h;omega
theorem PT (h:0<u.length):1<=lp u/\lp u<=u.length:=by
 obtain⟨r,e,h1,h2,_⟩:=LX h;omega
theorem aWn {a:Nat} (hu:0<u.length) (ha:0<a) (i:Nat):om (rep u a) i=om u i:=by
 have l:(rep u a).length=a*u.length:=by rw[oV,dh]
 have hp:0<a*u.length:=Iq ha hu;have hm:i%(a*u.length)<a*u.length:=yw _ hp;have e:om (rep u a) i=(rep u a).getD (i%(rep u a).length) 0:=rfl;rw[e,l,OB u a _ hm];unfold om;rw[Nat.mod_mod_of_dvd _ (Nat.dvd_mul_left _ _)]
end
end Go.Pure
namespace Go.Pure
open Go Go.Eng
def orL:AH->Int
 |[]=>0
 |a::l=>if a≠0 then a else orL l
theorem bJx {l:AH} {k:Int} (h0:0<=k) (h:k<l.length) (hz:rd l k=0):orL (l.drop k.toNat)=orL (l.drop (k+1).toNat):=by
 rw[gD h0 h,orL,df G]
theorem bDy {l:AH} {k:Int} (h0:0<=k) (h:k<l.length) (hz:rd l k≠0):orL (l.drop k.toNat)=rd l k:=by
 rw[gD h0 h,orL,dm hz]
def ahd (ws:AD) (bs rs:AH) (t:Int × Int) (h:Int):Int:=rd rs (rd bs t.1+(t.2+h)%((rdl ws t.1).length:Int))
def aFe (ws:AD) (bs rs:AH) (h:Int) (t u:Int × Int):Int:=
 orL [iW (ahd ws bs rs t 0) (ahd ws bs rs u 0),iW (ahd ws bs rs t h) (ahd ws bs rs u h),iW t.1 u.1,iW t.2 u.2]
def TOk (ws:AD) (bs:AH) (N:Nat) (t:Int × Int):Prop:=(0<=t.1/\t.1<ws.length/\t.1<bs.length)/\(0<=t.2/\t.2<(rdl ws t.1).length/\t.2<=1000000)/\0<(rdl ws t.1).length/\(0<=rd bs t.1/\rd bs t.1+(rdl ws t.1).length<=N)
def jC (bs:AH) (t:Int × Int):Int:=rd bs t.1+t.2
def JZ (ws:AD) (bs rs:AH) (h:Int) (t u:Int × Int):Prop:=ahd ws bs rs t 0≠ahd ws bs rs u 0\/ahd ws bs rs t h≠ahd ws bs rs u h
instance (ws:AD) (bs rs:AH) (h:Int) (t u:Int × Int):Decidable (JZ ws bs rs h t u):=by unfold JZ;infer_instance
def jJ (ws:AD) (bs rs:AH) (h:Int) (l:AE):Nat->Int
 |0=>0
 |i+1=>jJ ws bs rs h l i+if JZ ws bs rs h (rdp l i) (rdp l (i+1:Nat)) then 1 else 0
theorem zT {ws:AD} {bs rs:AH} {h:Int} {l:AE} {i:Int} (hi:0<i):jJ ws bs rs h l i.toNat=jJ ws bs rs h l (i-1).toNat+if JZ ws bs rs h (rdp l (i-1)) (rdp l i) then 1 else 0:=by
 obtain⟨k,rfl⟩: ∃k:Nat,i=(k:Int)+1:=⟨(i-1).toNat,G⟩;have e1:((k:Int)+1).toNat=k+1:=G
 have e2:((k:Int)+1-1)=k:=G
 rw[e1,e2,dh];rfl
theorem fO {l:AH} {i v:Int} (h0:0<=i) (h:i<l.length):rd (upd l i v) i=v:=by
 unfold rd upd;have hl:i.toNat<l.length:=G
 simp[ai,hl]
theorem gN {l:AH} {i j v:Int} (h0:0<=i) (hj:0<=j) (cg:i≠j):rd (upd l i v) j=rd l j:=by
 unfold rd upd;have:i.toNat≠j.toNat:=G
 simp[ai,this]
theorem kL {l:AE} {i:Int} (h0:0<=i) (h:i<l.length):rdp l i∈l:=by
 have hl:i.toNat<l.length:=G
 simp[rdp,ai,av hl]
theorem bDi {l:AE} (hd:l.Nodup) {i j:Int} (h0:0<=i) (h:i<l.length) (g0:0<=j) (g:j<l.length) (e:rdp l i=rdp l j):i=j:=by
 have hi:i.toNat<l.length:=G
 have hj:j.toNat<l.length:=G
 simp only[rdp,ai,av hi,av hj,qd] at e;rcases jl i j with br|br|br
 ·exact absurd e (dz.1 hd i.toNat j.toNat hi hj G)
 ·exact br
 ·exact absurd e.symm (dz.1 hd j.toNat i.toNat hj hi G)
theorem BL {bs rk:AH} {l:AE} {f:Nat->Int} {i n:Int} (hnd:l.Nodup) (Ry: ∀t∈l,∀u∈l,jC bs t=jC bs u->t=u) (h0:0<=i) (hi:i<l.length) (fb: ∀t∈l,0<=jC bs t) (br:jC bs (rdp l i)<rk.length)
  (w6: ∀j:Nat,j<i->rd rk (jC bs (rdp l j))=f j) (hn:n=f i.toNat): ∀j:Nat,(j:Int)<i+1->rd (upd rk (rd bs (rdp l i).1+(rdp l i).2) n) (jC bs (rdp l j))=f j:=by
 intro j hj;have Tp:=fb _ (kL h0 hi);by_cases Fl:(j:Int)=i
 ·subst Fl;rw[dh] at hn;rw[<-hn];exact fO Tp br
 ·have Pc:=fb _ (kL (show(0:Int)<=j by omega) (show(j:Int)<l.length by omega));have cg:jC bs (rdp l i)≠jC bs (rdp l j):=λe=>Fl (bDi hnd G G h0 hi (Ry _ (kL h0 hi) _ (kL G G) e).symm);have e:=gN (l:=rk) (v:=n) Tp Pc cg;rw[<-w6 j G];exact e
theorem FW {a b:Int}:iW a b<0↔a<b:=by unfold iW;split<;>(try split)<;>omega
theorem DI (ws:AD) (bs rs:AH) (h:Int) (t u:Int × Int):aFe ws bs rs h t u<0↔
  (ahd ws bs rs t 0<ahd ws bs rs u 0\/ahd ws bs rs t 0=ahd ws bs rs u 0/\(ahd ws bs rs t h<ahd ws bs rs u h\/ahd ws bs rs t h=ahd ws bs rs u h/\(t.1<u.1\/t.1=u.1/\t.2<u.2))):=by
 unfold aFe;simp only[orL];generalize ahd ws bs rs t 0=a;generalize ahd ws bs rs u 0=b;generalize ahd ws bs rs t h=c;generalize ahd ws bs rs u h=d;by_cases h1:a=b
 ·have e1:iW a b=0:=kX.2 h1;by_cases h2:c=d
  ·have e2:iW c d=0:=kX.2 h2;by_cases h3:t.1=u.1
   ·have e3:iW t.1 u.1=0:=kX.2 h3;by_cases h4:t.2=u.2
    ·have e4:iW t.2 u.2=0:=kX.2 h4;simp[e1,e2,e3,e4];omega
    ·have e4:iW t.2 u.2≠0:=λe=>h4 (kX.1 e);simp only[e1,e2,e3,ne_eq,not_true,Es,yj,Kh,e4,FW];omega
   ·have e3:iW t.1 u.1≠0:=λe=>h3 (kX.1 e);simp only[e1,e2,ne_eq,not_true,Es,yj,Kh,e3,FW];omega
  ·have e2:iW c d≠0:=λe=>h2 (kX.1 e);simp only[e1,ne_eq,not_true,Es,yj,Kh,e2,FW];omega
 ·have e1:iW a b≠0:=λe=>h1 (kX.1 e);simp only[ne_eq,e1,Es,Kh,FW];omega
theorem aTo (ws:AD) (bs rs:AH) (h:Int):Go.Sort.SWO (Go.Proofs.ltOf (aFe ws bs rs h)):=by
 refine⟨λx=> ?_,λx y z h1 h2=> ?_,λx y z h1 h2=> ?_⟩
 ·simp only[Go.Proofs.ltOf,uh,DI];omega
 ·simp only[Go.Proofs.ltOf,yh,DI] at*;omega
 ·simp only[Go.Proofs.ltOf,uh,DI] at*;omega
end Go.Pure
namespace Go.Pure
open Go Go.Eng
def pF (ws:AD) (k:Nat):Nat:=((ws.take k).flatten).length
def tZ (ws:AD) (k:Nat):AH:=(List.range k).map λi=>(pF ws i:Int)
def turnsOf (w:Int) (j:Nat):AE:=(List.range j).map λi:Nat=>(w,(i:Int))
def gG (ws:AD):Nat->AE
 |0=>[]
 |k+1=>gG ws k++turnsOf k (rdl ws k).length
theorem CY (w:Int) {j:Int} (h:0<=j):turnsOf w (j+1).toNat=turnsOf w j.toNat++[(w,j)]:=by
 obtain⟨j,rfl⟩: ∃m:Nat,j=m:=⟨j.toNat,G⟩;rw[show((j:Int)+1).toNat=j+1 by omega,dh];unfold turnsOf;rw[zz,jc];rfl
theorem JO (w:Int) (j:Nat):(turnsOf w j).length=j:=by simp[turnsOf]
theorem fC {ws:AD} {k:Int} (h0:0<=k) (h:k<ws.length):(ws.take (k+1).toNat).flatten=(ws.take k.toNat).flatten++rdl ws k:=by
 rw[show ws.take (k+1).toNat=ws.take k.toNat++[rdl ws k] from ?_]
 ·simp
 ·have hl:k.toNat<ws.length:=G
  rw[show(k+1).toNat=k.toNat+1 by omega,qy,av hl];simp[rdl,ai,av hl]
theorem kW {ws:AD} {k:Int} (h0:0<=k) (h:k<ws.length):pF ws (k+1).toNat=pF ws k.toNat+(rdl ws k).length:=by
 unfold pF;rw[fC h0 h,ah]
theorem LV (ws:AD) (k:Nat):pF ws k<=ws.flatten.length:=by
 unfold pF;have:=gz k ws
 calc ((ws.take k).flatten).length<=((ws.take k).flatten).length+((ws.drop k).flatten).length:=Cb _ _
  _=((ws.take k++ws.drop k).flatten).length:=by rw[mh,ah]
  _=_:=by rw[this]
theorem aIx {ws:AD} {k:Int} (h0:0<=k):tZ ws (k+1).toNat=tZ ws k.toNat++[(pF ws k.toNat:Int)]:=by
 rw[show(k+1).toNat=k.toNat+1 by omega];unfold tZ;rw[zz,jc];rfl
theorem VU (ws:AD) (k:Nat):(tZ ws k).length=k:=by simp[tZ]
theorem ND {ws:AD} {k:Int} (h0:0<=k):gG ws (k+1).toNat=gG ws k.toNat++turnsOf k (rdl ws k).length:=by
 obtain⟨k,rfl⟩: ∃m:Nat,k=m:=⟨k.toNat,G⟩;rw[show((k:Int)+1).toNat=k+1 by omega,dh];rfl
theorem yZ (ws:AD): ∀k:Nat,k<=ws.length->(gG ws k).length=pF ws k
 |0,_=>rfl
 |k+1,h=>by
  have ih:=yZ ws k G;have:=kW (ws:=ws) (k:=k) G G;rw[show((k:Int)+1).toNat=k+1 by omega,dh] at this;show(gG ws k++turnsOf k (rdl ws k).length).length=_;rw[ah,ih,JO,this]
end Go.Pure
namespace Go.Pure
open Go Go.Eng
section
variable {H:Nat} {h:Int} {ws:AD} {bs rs:AH}
def tw (ws:AD) (t:Int × Int) (j:Nat):Int:=(rdl ws t.1).getD ((t.2.toNat+j)%(rdl ws t.1).length) 0
def TV (ws:AD) (t:Int × Int):Prop:=0<=t.1/\t.1<ws.length/\0<=t.2/\t.2<(rdl ws t.1).length
def LtH (H:Nat) (U V:Nat->Int):Prop:= ∃k,k<H/\(∀i,i<k->U i=V i)/\U k<V k
def EqH (H:Nat) (U V:Nat->Int):Prop:= ∀i,i<H->U i=V i
theorem EqH.symm {U V:Nat->Int} (h:EqH H U V):EqH H V U:=λi hi=>(h i hi).symm
theorem EqH.trans {U V W:Nat->Int} (h:EqH H U V) (h':EqH H V W):EqH H U W:=λi hi=>(h i hi).trans (h' i hi)
theorem LtH.not_eq {U V:Nat->Int} (h:LtH H U V): ¬EqH H U V:=λe=>by
 obtain⟨k,hk,_,hl⟩:=h;have:=e k hk;omega
theorem LtH.asymm {U V:Nat->Int} (h:LtH H U V): ¬LtH H V U:=by
 obtain⟨k,hk,h1,hl⟩:=h;rintro⟨m,hm,h2,Sa⟩;by_cases a:k<m
 ·have:=h2 k a;omega
 ·by_cases b:m<k
  ·have:=h1 m b;omega
  ·have:k=m:=G
   subst this;omega
theorem LtH.trans {U V W:Nat->Int} (h:LtH H U V) (h':LtH H V W):LtH H U W:=by
 obtain⟨k,hk,h1,hl⟩:=h;obtain⟨m,hm,h2,Sa⟩:=h';by_cases a:k<m
 ·exact⟨k,hk,λi hi=>(h1 i hi).trans (h2 i G),by rw[<-h2 k a];exact hl⟩
 ·by_cases b:m<k
  ·exact⟨m,hm,λi hi=>(h1 i G).trans (h2 i hi),by rw[h1 m b];exact Sa⟩
  ·have:k=m:=G
   subst this;exact⟨k,hk,λi hi=>(h1 i hi).trans (h2 i hi),G⟩
theorem LtH.eq_left {U V W:Nat->Int} (h:EqH H U V) (h':LtH H V W):LtH H U W:=by
 obtain⟨k,hk,h1,hl⟩:=h';exact⟨k,hk,λi hi=>(h i G).trans (h1 i hi),by rw[h k hk];exact hl⟩
theorem LtH.eq_right {U V W:Nat->Int} (h:LtH H U V) (h':EqH H V W):LtH H U W:=by
 obtain⟨k,hk,h1,hl⟩:=h;exact⟨k,hk,λi hi=>(h1 i hi).trans (h' i G),by rw[<-h' k hk];exact hl⟩
theorem tri (H:Nat) (U V:Nat->Int):LtH H U V\/EqH H U V\/LtH H V U:=by
 induction H with
 |zero=>exact .inr (.inl λi hi=>G)
 | succ H ih=>
  rcases ih with⟨k,hk,h⟩|h|⟨k,hk,h⟩
  ·exact .inl ⟨k,G,h⟩
  ·rcases jl (U H) (V H) with a|a|a
   ·exact .inl ⟨H,G,h,a⟩
   ·refine .inr (.inl λi hi=> ?_);by_cases e:i=H
    ·rw[e];exact a
    ·exact h i G
   ·exact .inr (.inr ⟨H,G,λi hi=>(h i hi).symm,a⟩)
  ·exact .inr (.inr ⟨k,G,h⟩)
theorem aLm {h:Nat} {U V:Nat->Int}:EqH (H+h) U V↔EqH H U V/\EqH h (λi=>U (i+H)) (λi=>V (i+H)):=by
 constructor
 ·exact λe=>⟨λi hi=>e i G,λi hi=>e (i+H) G⟩
 ·rintro ⟨a,b⟩ i hi;by_cases c:i<H
  ·exact a i c
  ·have:=b (i-H) G;simpa [su (show H<=i by omega)] using this
theorem bEs {h:Nat} {U V:Nat->Int}:LtH (H+h) U V↔LtH H U V\/EqH H U V/\LtH h (λi=>U (i+H)) (λi=>V (i+H)):=by
 constructor
 ·rintro ⟨k,hk,h1,hl⟩;by_cases c:k<H
  ·exact .inl ⟨k,c,h1,hl⟩
  ·refine .inr ⟨λi hi=>h1 i G,k-H,G,λi hi=>h1 (i+H) G,?_⟩;simpa [su (show H<=k by omega)] using hl
 ·rintro (⟨k,hk,h1,hl⟩|⟨e,k,hk,h1,hl⟩)
  ·exact⟨k,G,h1,hl⟩
  ·refine ⟨k+H,G,λi hi=> ?_,hl⟩;by_cases c:i<H
   ·exact e i c
   ·have:=h1 (i-H) G;simpa [su (show H<=i by omega)] using this
def RK (ws:AD) (bs:AH) (H:Nat) (rs:AH):Prop:= ∀t u,TV ws t->TV ws u->(rd rs (jC bs t)<rd rs (jC bs u)↔LtH H (tw ws t) (tw ws u))/\(rd rs (jC bs t)=rd rs (jC bs u)↔EqH H (tw ws t) (tw ws u))
def sh (ws:AD) (t:Int × Int) (h:Int):Int × Int:=(t.1,(t.2+h)%((rdl ws t.1).length:Int))
theorem aJy {t:Int × Int} (ht:TV ws t):TV ws (sh ws t h):=by
 obtain⟨a,b,c,d⟩:=ht;exact⟨a,b,jv _ G,jf _ G⟩
theorem YQ (ws:AD) (bs rs:AH) (t:Int × Int) (h:Int):ahd ws bs rs t h=rd rs (jC bs (sh ws t h)):=rfl
theorem LK {t:Int × Int} (ht:TV ws t):sh ws t 0=t:=by
 obtain⟨a,b,c,d⟩:=ht;unfold sh;rw[yx,kz c d]
theorem TG {t:Int × Int} (ht:TV ws t) (hh:0<=h) (j:Nat):tw ws (sh ws t h) j=tw ws t (j+h.toNat):=by
 obtain⟨a,b,c,d⟩:=ht;unfold tw sh;simp only;congr 1;obtain⟨x,hx⟩: ∃m:Nat,t.2=m:=⟨t.2.toNat,G⟩;obtain⟨y,rfl⟩: ∃m:Nat,h=m:=⟨h.toNat,G⟩;rw[hx,dh,dh,show((x:Int)+(y:Int))=((x+y:Nat):Int) by omega,<-zo,dh,Nat.mod_add_mod];congr 1;omega
def iJ (h:Int):Nat:=if h=0 then 1 else(2*h).toNat
def oG (h:Int):Nat:=(max 1 h).toNat
theorem aKx (hh:0<=h) (hr:RK ws bs (oG h) rs) {t u:Int × Int} (ht:TV ws t) (hu:TV ws u):
  (LtH (iJ h) (tw ws t) (tw ws u)↔(ahd ws bs rs t 0<ahd ws bs rs u 0\/ahd ws bs rs t 0=ahd ws bs rs u 0/\ahd ws bs rs t h<ahd ws bs rs u h))/\
  (EqH (iJ h) (tw ws t) (tw ws u)↔(ahd ws bs rs t 0=ahd ws bs rs u 0/\ahd ws bs rs t h=ahd ws bs rs u h)):=by
 have r0:=hr t u ht hu;have r1:=hr _ _ (aJy (h:=h) ht) (aJy (h:=h) hu);rw[YQ,YQ,YQ,YQ,LK ht,LK hu];by_cases h0:h=0
 ·subst h0;rw[LK ht,LK hu];have e:iJ 0=oG 0:=cC
  rw[e,<-r0.1,<-r0.2];constructor<;>omega
 ·have e1:oG h=h.toNat:=by unfold oG;omega
  have e2:iJ h=h.toNat+h.toNat:=by unfold iJ;rw[df h0];omega
  rw[e1] at r0 r1;rw[e2,bEs,aLm,<-r0.1,<-r0.2];have f1:(λi=>tw ws t (i+h.toNat))=tw ws (sh ws t h):=funext λi=>(TG ht hh i).symm;have f2:(λi=>tw ws u (i+h.toNat))=tw ws (sh ws u h):=funext λi=>(TG hu hh i).symm;rw[f1,f2,<-r1.1,<-r1.2];exact⟨Iff.rfl,Iff.rfl⟩
def ltI (t u:Int × Int):Prop:=t.1<u.1\/t.1=u.1/\t.2<u.2
def aWh (ws:AD) (H:Nat) (t u:Int × Int):Prop:=LtH H (tw ws t) (tw ws u)\/EqH H (tw ws t) (tw ws u)/\ltI t u
theorem aTp (hh:0<=h) (hr:RK ws bs (oG h) rs) {t u:Int × Int} (ht:TV ws t) (hu:TV ws u):aFe ws bs rs h t u<0↔aWh ws (iJ h) t u:=by
 obtain⟨a,b⟩:=aKx hh hr ht hu;rw[DI];unfold aWh ltI;rw[a,b];omega
theorem aXq (hh:0<=h) (hr:RK ws bs (oG h) rs) {t u:Int × Int} (ht:TV ws t) (hu:TV ws u):JZ ws bs rs h t u↔ ¬EqH (iJ h) (tw ws t) (tw ws u):=by
 obtain⟨_,b⟩:=aKx hh hr ht hu;rw[b];unfold JZ;omega
end
theorem xG: ∀ {a b:AH},a.Perm b->a.Pairwise (· <= ·)->b.Pairwise (· <= ·)->a=b
 |[],b,h,_,_=>(List.nil_perm.1 h).symm
 |x::a,[],h,_,_=>absurd h.symm cD
 | x::a,y::b,h,ha,hb=>by
  have h1:y<=x:=by
   rcases jd.1 (h.mem_iff.1 (.head _)) with e|e
   ·omega
   ·exact(ja.1 hb).1 x e
  have h2:x<=y:=by
   rcases jd.1 (h.mem_iff.2 (.head _)) with e|e
   ·omega
   ·exact(ja.1 ha).1 y e
  have e:x=y:=G
  subst e;rw[xG ((List.perm_cons x).1 h) (ja.1 ha).2 (ja.1 hb).2]
theorem LtH.mono {H M:Nat} {U V:Nat->Int} (h:LtH H U V) (hm:H<=M):LtH M U V:=by
 obtain⟨k,hk,r⟩:=h;exact⟨k,G,r⟩
theorem EqH.mono {H M:Nat} {U V:Nat->Int} (h:EqH M U V) (hm:H<=M):EqH H U V:=λi hi=>h i G
structure Sorted (ws:AD) (M:Nat) (l:AE):Prop where
 tv: ∀t∈l,TV ws t
 nodup:l.Nodup
 pw:l.Pairwise λx y=> ¬aWh ws M y x
theorem pY {l:AE} {j:Nat} (h:j<l.length):rdp l j=l[j]:=by
 simp[rdp,ai,av h]
theorem Sorted.le {ws:AD} {M:Nat} {l:AE} (s:Sorted ws M l) {i j:Nat} (mz:i<j) (hj:j<l.length): ¬LtH M (tw ws (rdp l j)) (tw ws (rdp l i)):=by
 have:=dz.1 s.pw i j G hj mz;rw[pY hj,pY G];exact λh=>this (.inl h)
theorem Sorted.eq_between {ws:AD} {M:Nat} {l:AE} (s:Sorted ws M l) {i m j:Nat} (h1:i<=m) (h2:m<=j) (hj:j<l.length) (he:EqH M (tw ws (rdp l i)) (tw ws (rdp l j))):EqH M (tw ws (rdp l i)) (tw ws (rdp l m)):=by
 rcases Nat.eq_or_lt_of_le h1 with rfl|h1
 ·exact λ_ _=>rfl
 rcases Nat.eq_or_lt_of_le h2 with rfl|h2
 ·exact he
 rcases tri M (tw ws (rdp l i)) (tw ws (rdp l m)) with a|a|a
 ·exact absurd (LtH.eq_left he.symm a) (s.le h2 hj)
 ·exact a
 ·exact absurd a (s.le h1 G)
section
variable {ws:AD} {bs rs:AH} {h:Int} {l:AE}
theorem QV (hh:0<=h) (hr:RK ws bs (oG h) rs) (s:Sorted ws (iJ h) l) {j:Nat} (hj:j+1<l.length):
  (EqH (iJ h) (tw ws (rdp l j)) (tw ws (rdp l (j+1:Nat)))/\jJ ws bs rs h l (j+1)=jJ ws bs rs h l j)\/(¬EqH (iJ h) (tw ws (rdp l j)) (tw ws (rdp l (j+1:Nat)))/\jJ ws bs rs h l (j+1)=jJ ws bs rs h l j+1):=by
 have ht:=s.tv _ (kL (l:=l) (i:=(j:Int)) G G);have hu:=s.tv _ (kL (l:=l) (i:=((j+1:Nat):Int)) G G);have hk:=aXq hh hr ht hu;show _/\jJ ws bs rs h l j+(if JZ ws bs rs h (rdp l j) (rdp l (j+1:Nat)) then 1 else 0)=_\/_;by_cases e:EqH (iJ h) (tw ws (rdp l j)) (tw ws (rdp l (j+1:Nat)))
 ·exact .inl ⟨e,by rw[df (λk=>hk.1 k e),yx]⟩
 ·refine .inr ⟨e,?_⟩;show jJ ws bs rs h l j+(if JZ ws bs rs h (rdp l j) (rdp l (j+1:Nat)) then 1 else 0)=_;rw[dm (hk.2 e)]
theorem QW (hh:0<=h) (hr:RK ws bs (oG h) rs) (s:Sorted ws (iJ h) l) {i:Nat}: ∀d,i+d<l.length->jJ ws bs rs h l i<=jJ ws bs rs h l (i+d)/\(jJ ws bs rs h l i=jJ ws bs rs h l (i+d)↔EqH (iJ h) (tw ws (rdp l i)) (tw ws (rdp l (i+d:Nat))))
 |0,_=>⟨ni _,⟨λ_ _ _=>rfl,λ_=>rfl⟩⟩
 | d+1,hd=>by
  obtain⟨a,b⟩:=QW (i:=i) hh hr s d G;rcases QV hh hr s (j:=i+d) hd with⟨e,c⟩|⟨e,c⟩
  ·have c':jJ ws bs rs h l (i+(d+1))=jJ ws bs rs h l (i+d):=c;rw[c'];refine⟨a,b.trans ⟨λx=>x.trans e,λx=>x.trans e.symm⟩⟩
  ·have c':jJ ws bs rs h l (i+(d+1))=jJ ws bs rs h l (i+d)+1:=c;rw[c'];refine⟨G,⟨λx=>G,λx=>absurd ?_ e⟩⟩;have y:=s.eq_between (m:=i+d) G G hd x;exact y.symm.trans x
theorem bAk (hh:0<=h) (hr:RK ws bs (oG h) rs) (s:Sorted ws (iJ h) l) {i j:Nat} (hi:i<l.length) (hj:j<l.length):
  (jJ ws bs rs h l i<jJ ws bs rs h l j↔LtH (iJ h) (tw ws (rdp l i)) (tw ws (rdp l j)))/\(jJ ws bs rs h l i=jJ ws bs rs h l j↔EqH (iJ h) (tw ws (rdp l i)) (tw ws (rdp l j))):=by
 rcases wu i j with br|rfl|br
 ·obtain ⟨d,rfl⟩: ∃d,j=i+d:=⟨j-i,G⟩;obtain⟨a,b⟩:=QW (i:=i) hh hr s d hj;refine⟨?_,b⟩;constructor
  ·intro x;rcases tri (iJ h) (tw ws (rdp l i)) (tw ws (rdp l (i+d:Nat))) with y|y|y
   ·exact y
   ·have:=b.2 y;omega
   ·exact absurd y (s.le br hj)
  ·intro x;have:jJ ws bs rs h l i≠jJ ws bs rs h l (i+d):=λe=>x.not_eq (b.1 e);omega
 ·exact⟨⟨λx=>G,λx=>absurd x x.asymm⟩,⟨λ_ _ _=>rfl,λ_=>rfl⟩⟩
 ·obtain ⟨d,rfl⟩: ∃d,i=j+d:=⟨i-j,G⟩;obtain⟨a,b⟩:=QW (i:=j) hh hr s d hi;refine⟨⟨λx=>G,λx=>absurd x (s.le br hi)⟩,⟨λx=>(b.1 x.symm).symm,λx=>(b.2 x.symm).symm⟩⟩
theorem bDd (hh:0<=h) (hr:RK ws bs (oG h) rs) (s:Sorted ws (iJ h) l) (gl: ∀t,TV ws t->t∈l) {rk:AH} (w6: ∀j:Nat,j<l.length->rd rk (jC bs (rdp l j))=jJ ws bs rs h l j):RK ws bs (iJ h) rk:=by
 intro t u ht hu;obtain⟨i,hi,rfl⟩:=ib.1 (gl t ht);obtain⟨j,hj,rfl⟩:=ib.1 (gl u hu);rw[<-pY hi,<-pY hj,w6 i hi,w6 j hj];exact bAk hh hr s hi hj
structure Steps (bs rs:AH) (lo:AE) (w:Int):Prop where
 zero:0<lo.length->rd rs (jC bs (rdp lo (0:Nat)))=0
 step: ∀j:Nat,j+1<lo.length->rd rs (jC bs (rdp lo (j+1:Nat)))=rd rs (jC bs (rdp lo j))\/rd rs (jC bs (rdp lo (j+1:Nat)))=rd rs (jC bs (rdp lo j))+1
 last:0<lo.length->rd rs (jC bs (rdp lo ((lo.length-1:Nat):Int)))=w
theorem aFg (hh:0<=h) (hr:RK ws bs (oG h) rs) (s:Sorted ws (iJ h) l) {rk:AH} (w6: ∀j:Nat,j<l.length->rd rk (jC bs (rdp l j))=jJ ws bs rs h l j):Steps bs rk l (jJ ws bs rs h l (l.length-1)):=by
 refine⟨λh0=>by rw[w6 0 h0];rfl,λj hj=> ?_,λh0=>w6 _ G⟩;rw[w6 _ hj,w6 j G];rcases QV hh hr s hj with⟨_,e⟩|⟨_,e⟩
 ·exact .inl e
 ·exact .inr e
theorem PO {f:Int × Int->Int} {l:AE} (h: ∀j:Nat,j+1<l.length->f (rdp l j)<=f (rdp l (j+1:Nat))):(l.map f).Pairwise (· <= ·):=by
 have mono: ∀d i:Nat,i+d<l.length->f (rdp l i)<=f (rdp l (i+d:Nat)):=by
  intro d
  induction d with
  |zero=>intro i _;exact ni _
  |succ d ih=>intro i hi;exact Jt (ih i G) (h (i+d) G)
 refine ik.2 (dz.2 λi j hi hj mz=> ?_);have:=mono (j-i) i G;rw[show i+(j-i)=j by omega,pY hi,pY hj] at this;exact this
theorem bEg (h0:0<h) (hr:RK ws bs (oG h) rs) (s:Sorted ws (iJ h) l) {lo:AE} {w:Int} (hp:l.Perm lo) (st:Steps bs rs lo w) (hw:jJ ws bs rs h l (l.length-1)=w) {i j:Nat} (hi:i<l.length) (hj:j<l.length)
  (he:EqH (oG h) (tw ws (rdp l i)) (tw ws (rdp l j))):EqH (iJ h) (tw ws (rdp l i)) (tw ws (rdp l j)):=by
 have hh:0<=h:=G
 have Ta:oG h<=iJ h:=by unfold oG iJ;rw[df G];omega
 have hlen:=hp.length_eq
 let g:Int × Int->Int:=λt=>rd rs (jC bs t)
 have Tx: ∀j:Nat,j<l.length->TV ws (rdp l j):=λj hj=>s.tv _ (kL G G)
 have ga:(l.map g).Pairwise (· <= ·):=PO λj hj=>by
  have hn:=s.le (i:=j) (j:=j+1) G hj;have:=(hr _ _ (Tx (j+1) hj) (Tx j G)).1;have Zj: ¬rd rs (jC bs (rdp l (j+1:Nat)))<rd rs (jC bs (rdp l j)):=λx=>hn ((this.1 x).mono Ta);show rd rs (jC bs (rdp l j))<=rd rs (jC bs (rdp l (j+1:Nat)));omega
 have gb:(lo.map g).Pairwise (· <= ·):=PO λj hj=>by
  show rd rs (jC bs (rdp lo j))<=rd rs (jC bs (rdp lo (j+1:Nat)));rcases st.step j hj with e|e<;>omega
 have Fk:=xG (hp.map g) ga gb
 have gj: ∀j:Nat,j<l.length->g (rdp l j)=g (rdp lo j):=λj hj=>by
  have h2:j<lo.length:=G
  have:=bq (λq=>q[j]?) Fk;simp only[lq,av hj,av h2,kv,mr] at this;rw[pY hj,pY h2];exact this
 have key: ∀d k:Nat,k+d<l.length->jJ ws bs rs h l k-g (rdp l k)<=jJ ws bs rs h l (k+d)-g (rdp l (k+d:Nat)):=by
  intro d
  induction d with
  |zero=>intro k _;exact ni _
  | succ d ih=>
   intro k hk;refine Jt (ih k G) ?_;have e1:=gj (k+d) G;have e2:=gj (k+(d+1)) hk;have gd:=st.step (k+d) G;have hg:g (rdp lo (k+(d+1):Nat))=g (rdp lo (k+d:Nat))\/g (rdp lo (k+(d+1):Nat))=g (rdp lo (k+d:Nat))+1:=gd;rcases QV hh hr s (j:=k+d) hk with⟨e,c⟩|⟨e,c⟩
   ·have c':jJ ws bs rs h l (k+(d+1))=jJ ws bs rs h l (k+d):=c;have:=(hr _ _ (Tx (k+d) G) (Tx (k+d+1) hk)).2.2 (e.mono Ta);have this':g (rdp l (k+d:Nat))=g (rdp l (k+(d+1):Nat)):=this;omega
   ·have c':jJ ws bs rs h l (k+(d+1))=jJ ws bs rs h l (k+d)+1:=c;omega
 have Ui: ∀k:Nat,k<l.length->jJ ws bs rs h l k=g (rdp l k):=by
  intro k hk;have fb:0<l.length:=G
  have a:=key k 0 G;have b:=key (l.length-1-k) k G;rw[ny] at a;rw[show k+(l.length-1-k)=l.length-1 by omega,hw] at b;have z:=gj 0 fb;have z':g (rdp lo (0:Nat))=0:=st.zero G;have y:=gj (l.length-1) G;have y':=st.last G;rw[<-hlen] at y';have y'':g (rdp lo ((l.length-1:Nat):Int))=w:=y';have c0:jJ ws bs rs h l 0=0:=rfl;omega
 have e1:=(hr _ _ (Tx i hi) (Tx j hj)).2.2 he;refine(bAk hh hr s hi hj).2.1 ?_;rw[Ui i hi,Ui j hj];exact e1
end
def Lyn (f:Nat->Int) (p:Nat):Prop:=0<p/\ ∀r,0<r->r<p-> ∃d,r+d<p/\(∀e,e<d->f e=f (r+e))/\f d<f (r+d)
def yV (f:Nat->Int) (p j:Nat):Prop:= ∀i,i+p<j->f (i+p)=f i
theorem yV.mod {f:Nat->Int} {p j:Nat} (hp:0<p) (h:yV f p j): ∀i,i<j->f i=f (i%p):=by
 intro i
 induction i using Nat.strongRecOn with
 | ind i ih=>
  intro hi;rcases gp i p with a|a
  ·rw[lv a]
  ·have e:=h (i-p) G;rw[show i-p+p=i by omega] at e;rw[e,ih (i-p) G G];congr 1;rw[zt a]
theorem aZu {f:Nat->Int} {p j:Nat} (hL:Lyn f p) (nj:yV f p j) (Pc:p<=j) (br:f (j-p)<f j):Lyn f (j+1):=by
 obtain⟨hp,hL⟩:=hL;have hm:=nj.mod hp;refine⟨G,λr h0 hr=> ?_⟩;have hjp:(j-p)%p=j%p:=(zt Pc).symm
 have hq: ∀e,r+e<j->r%p+e<p->f (r+e)=f (r%p+e):=by
  intro e h1 h2;rw[hm _ h1];congr 1;rw[Kq,lv (a:=e) G,lv h2]
 have Te:f (j-p)=f (j%p):=by rw[hm (j-p) G,hjp]
 rcases fo (r%p) with hz|hz
 ·refine ⟨j-r,G,λe he=> ?_,?_⟩
  ·rw [hm e G,hm (r+e) G];congr 1;rw[Kq,hz,ny,Nat.mod_mod]
  ·rw [show r+(j-r)=j by omega]
   have e1:(j-r)%p=j%p:=by
    have:j=r+(j-r):=G
    conv=>rhs;rw[this,Kq,hz,ny,Nat.mod_mod]
   rcases gp 0 r with _|_
   ·rw[hm (j-r) G,e1,<-Te];exact br
   ·omega
 ·obtain ⟨d0,hd,Fk,hl⟩:=hL (r%p) hz (yw _ hp);rcases gp (r+d0) j with a|a
  ·refine ⟨d0,G,λe he=> ?_,?_⟩
   ·rw[hq e G G];exact Fk e he
   ·rw[hq d0 a hd];exact hl
  ·refine ⟨j-r,G,λe he=> ?_,?_⟩
   ·rw[hq e G G];exact Fk e G
   ·rw [show r+(j-r)=j by omega]
    have e1:j%p=r%p+(j-r):=by
     have:j=r+(j-r):=G
     conv=>lhs;rw[this,Kq,lv (a:=j-r) G]
     exact lv G
    rw[e1] at Te
    have:f (j-r)<=f (r%p+(j-r)):=by
     rcases gp (j-r) d0 with b|b
     ·exact Int.le_of_eq (Fk _ b)
     ·have:j-r=d0:=G
      rw[this];omega
    omega
theorem aRj {f:Nat->Int} {p j n:Nat} (hp:0<p) (nj:yV f p j) (Pc:p<=j) (o3:j<n->f j<f (j-p)) {m:Nat} (hpm:p<m) (hm:m<=n): ¬Lyn f m:=by
 rintro⟨_,h⟩;obtain⟨d,hd,Fk,hl⟩:=h p hp hpm;rcases gp (p+d) j with a|a
 ·have:=nj d G;rw[ve p d,this] at hl;omega
 ·have hs:=o3 G;rcases gp (j-p) d with b|b
  ·have:=Fk _ b;rw[show p+(j-p)=j by omega] at this;omega
  ·rw [show j-p=d by omega] at hs;rw[show p+d=j by omega] at hl;omega
def lt (s:AH) (i:Nat):Int:=s.getD i 0
theorem oH: ∀(u v:AH),v.length<u.length->(cmpL u v<0↔ ∃d,d<v.length/\(∀e,e<d->lt u e=lt v e)/\lt u d<lt v d)
 |[],v,h=>by simp at h
 |a::u,[],h=>by simp[cmpL]
 | a::u,b::v,h=>by
  have ih:=oH u v (by simpa using h);rw[cmpL];rcases jl a b with c|c|c
  ·rw [dm c];exact⟨λ_=>⟨0,cD,λe he=>G,c⟩,λ_=>G⟩
  ·subst c;rw[df G,df G,ih];constructor
   ·rintro ⟨d,h1,h2,h3⟩;refine⟨d+1,by simpa using h1,λe he=> ?_,h3⟩;cases e with
    |zero=>rfl
    |succ e=>exact h2 e G
   ·rintro ⟨d,h1,h2,h3⟩;cases d with
    |zero=>exact absurd h3 (by simp[lt])
    |succ d=>exact⟨d,by simpa using h1,λe he=>h2 (e+1) G,h3⟩
  ·rw [df G,dm c];refine⟨λh=>G,?_⟩;rintro⟨d,h1,h2,h3⟩;cases d with
   |zero=>have:a<b:=h3;omega
   |succ d=>have:a=b:=h2 0 G;omega
theorem jS (s:AH) (a i:Nat):lt (s.drop a) i=lt s (a+i):=by simp[lt,ai]
theorem lt_take {s:AH} {a i:Nat} (h:i<a):lt (s.take a) i=lt s i:=by simp[lt,ai,h]
theorem PP {s:AH} {i:Int}:rd s i=lt s i.toNat:=rfl
def pW (s:AH):Bool:= !s.isEmpty && (List.range s.length).all λr=>Nat.beq r 0||decide (cmpL s (s.drop r)<0)
theorem kV (s:AH):pW s=true↔0<s.length/\ ∀r:Nat,0<r->r<s.length->cmpL s (s.drop r)<0:=by
 unfold pW;rw[qh,vw];have e:(!s.isEmpty)=true↔0<s.length:=by cases s<;>simp
 rw[e];refine and_congr_right λ_=>⟨λh r h0 hr=> ?_,λh r hr=> ?_⟩
 ·have:=h r (jy.2 hr);rw[Bh,jb] at this;rcases this with a|a
  ·have:=yo a;omega
  ·exact a
 ·rw [Bh,jb];rcases fo r with a|a
  ·left;subst a;rfl
  ·exact .inr (h r a (jy.1 hr))
theorem aEj (s:AH) (a p:Nat) (h:a+p<=s.length):pW ((s.drop a).take p)=true↔Lyn (λi=>lt s (a+i)) p:=by
 have hl:((s.drop a).take p).length=p:=by rw[ax,bn];omega
 rw[kV,hl];unfold Lyn;refine and_congr_right λ_=>forall_congr' λr=>forall_congr' λh0=>forall_congr' λhr=> ?_;rw[oH _ _ (by rw[bn,hl];omega),bn,hl];constructor
 ·rintro ⟨d,h1,h2,h3⟩;refine⟨d,G,λe he=> ?_,?_⟩
  ·have:=h2 e he;rwa[jS,lt_take G,lt_take G,jS,jS] at this
  ·rwa[jS,lt_take G,lt_take G,jS,jS] at h3
 ·rintro ⟨d,h1,h2,h3⟩;refine⟨d,G,λe he=> ?_,?_⟩
  ·rw[jS,lt_take G,lt_take G,jS,jS];exact h2 e he
  ·rw[jS,lt_take G,lt_take G,jS,jS];exact h3
def jL (s:AH):Nat->Nat
 |0=>0
 |n+1=>if pW (s.take (n+1)) then n+1 else jL s n
theorem IR {s:AH} {p:Nat} (h:pW (s.take p)=true): ∀n,p<=n->(∀m,p<m->m<=n->pW (s.take m)=false)->jL s n=p
 |0,hp,_=>by unfold jL;omega
 | n+1,hp,hn=>by
  unfold jL;rcases gp p (n+1) with a|a
  ·rw [hn (n+1) a (ed _)];simp only[xh,yj];exact IR h n G λm h1 h2=>hn m h1 G
  ·have:p=n+1:=G
   subst this;rw[h,dm rfl]
theorem aBp (s:AH) (h:0<s.length):pW (s.take 1)=true:=by
 cases s with
 |nil=>simp at h
 |cons a s=>rfl
theorem sI {s:AH} (h:0<s.length): ∀n,0<n->0<jL s n
 | n+1,_=>by
  unfold jL;split
  ·omega
  ·rename_i hh;cases n with
   |zero=>exact absurd (aBp s h) hh
   |succ n=>exact sI h (n+1) G
theorem UT (s:AH): ∀n,jL s n<=n
 |0=>ed _
 |n+1=>by
  unfold jL;split
  ·omega
  ·have:=UT s n;omega
def SL:Nat->AH->AH
 |0,_=>[]
 |f+1,s=>if s.isEmpty then [] else(jL s s.length:Int)::SL f (s.drop (jL s s.length))
def dS (s:AH):AH:=SL s.length s
theorem VE: ∀(f g:Nat) (s:AH),s.length<=f->s.length<=g->SL f s=SL g s
 |0,g,s,h,_=>by
  have:s=[]:=Av.1 G;subst this;cases g<;>rfl
 |f+1,0,s,_,h=>by
  have:s=[]:=Av.1 G;subst this;rfl
 | f+1,g+1,s,h1,h2=>by
  unfold SL;cases s with
  |nil=>rfl
  |cons a s=>
   simp only[Eb,xh,yj];have:=sI (s:=a::s) cD (a::s).length cD;rw[VE f g _ (by rw[bn];omega) (by rw[bn];omega)]
theorem QF {s:AH} (h:s.length=0):dS s=[]:=by
 have:s=[]:=Av.1 h;subst this;rfl
theorem IY {s:AH} (h:0<s.length):dS s=(jL s s.length:Int)::dS (s.drop (jL s s.length)):=by
 unfold dS;cases s with
 |nil=>simp at h
 |cons a s=>
  rw[show(a::s).length=s.length+1 from rfl,SL];simp only[Eb,xh,yj];have:=sI (s:=a::s) cD (a::s).length cD;rw[show s.length+1=(a::s).length from rfl];congr 1;exact VE _ _ _ (by rw[bn];simp only[dn] at*;omega) (ed _)
theorem aRk {s:AH} {a p j:Nat} (hL:Lyn (λi=>lt s (a+i)) p) (nj:yV (λi=>lt s (a+i)) p j) (Pc:p<=j) (Za:a+j<=s.length) (o3:a+j<s.length->lt s (a+j)<lt s (a+j-p)):jL (s.drop a) (s.drop a).length=p:=by
 have hp:=hL.1;refine IR ((aEj s a p G).2 hL) _ (by rw[bn];omega) λm h1 h2=> ?_;rw[bn] at h2;cases hb:pW ((s.drop a).take m) with
 |false=>rfl
 |true=>
  exact absurd ((aEj s a m G).1 hb) (aRj (f:=λi=>lt s (a+i)) (n:=s.length-a) hp nj Pc (λh=>by rw[show a+(j-p)=a+j-p by omega];exact o3 G) h1 h2)
theorem Lyn.over {s:AH} {a p j:Nat} (hL:Lyn (λi=>lt s (a+i)) p) (nj:yV (λi=>lt s (a+i)) p j) (Pc:p+p<=j):Lyn (λi=>lt s (a+p+i)) p:=by
 refine⟨hL.1,λr h0 hr=> ?_⟩;obtain⟨d,h1,h2,h3⟩:=hL.2 r h0 hr
 have e: ∀i,i<p->lt s (a+p+i)=lt s (a+i):=λi hi=>by
  have:=nj i G;rw[show a+p+i=a+(i+p) by omega];exact this
 refine⟨d,h1,λq hq=> ?_,?_⟩
 ·simp only at h2 ⊢;rw[e q G,e (r+q) G];exact h2 q hq
 ·simp only at h3 ⊢;rw[e d G,e (r+d) G];exact h3
theorem yV.over {s:AH} {a p j:Nat} (nj:yV (λi=>lt s (a+i)) p j) (Pc:p<=j):yV (λi=>lt s (a+p+i)) p (j-p):=by
 intro i hi;have:=nj (i+p) G;simp only at this ⊢;rw[show a+p+(i+p)=a+(i+p+p) by omega,show a+p+i=a+(i+p) by omega];exact this
theorem bEo (f:Nat->Int):Lyn f 1:=⟨G,λr h0 hr=>G⟩
theorem aVx (f:Nat->Int):yV f 1 1:=λi hi=>G
theorem aOy (f:Nat->Int) (p:Nat):yV f p p:=λi hi=>G
theorem yV.snoc {f:Nat->Int} {p j:Nat} (h:yV f p j) (Pc:p<=j) (he:f j=f (j-p)):yV f p (j+1):=by
 intro i hi;rcases gp (i+p) j with a|a
 ·exact h i a
 ·rw[show i+p=j by omega,he];congr 1;omega
section
variable {s:AH} {a i j b:Int}
def vG (s:AH) (a p:Int):Prop:=Lyn (λe=>lt s (a.toNat+e)) p.toNat
def vD (s:AH) (a p n:Int):Prop:=yV (λe=>lt s (a.toNat+e)) p.toNat n.toNat
theorem KE:vG s a (a+1-a)/\vD s a (a+1-a) (a+1-a):=by
 unfold vG vD;rw[show(a+1-a).toNat=1 by omega];exact⟨bEo _,aVx _⟩
theorem aDa (h0:0<=a) (In:a<=i) (mz:i<j) (hL:vG s a (j-i)) (hP:vD s a (j-i) (j-a)) (br:rd s i<rd s j):vG s a (j+1-a)/\vD s a (j+1-a) (j+1-a):=by
 refine⟨?_,aOy _ _⟩;unfold vG
 have:=aZu hL hP G (by
  show lt s (a.toNat+((j-a).toNat-(j-i).toNat))<lt s (a.toNat+(j-a).toNat);rw[show a.toNat+((j-a).toNat-(j-i).toNat)=i.toNat by omega,show a.toNat+(j-a).toNat=j.toNat by omega]
  exact br)
 rwa[show(j-a).toNat+1=(j+1-a).toNat by omega] at this
theorem aDb (h0:0<=a) (In:a<=i) (mz:i<j) (hL:vG s a (j-i)) (hP:vD s a (j-i) (j-a)) (he:rd s i<=rd s j) (hn: ¬rd s i<rd s j):vG s a (j+1-(i+1))/\vD s a (j+1-(i+1)) (j+1-a):=by
 rw[show j+1-(i+1)=j-i by omega];refine⟨hL,?_⟩;unfold vD;rw[show(j+1-a).toNat=(j-a).toNat+1 by omega];refine yV.snoc hP G ?_;show lt s (a.toNat+(j-a).toNat)=lt s (a.toNat+((j-a).toNat-(j-i).toNat));rw[show a.toNat+((j-a).toNat-(j-i).toNat)=i.toNat by omega,show a.toNat+(j-a).toNat=j.toNat by omega];have:rd s i=rd s j:=G
 exact this.symm
theorem aRi (h0:0<=b) (ux:b<=i) (mz:i<j) (hj:j<=s.length) (hL:vG s b (j-i)) (hP:vD s b (j-i) (j-b)) (o3: ¬(j<s.length/\rd s i<=rd s j)):dS (s.drop b.toNat)=(j-i)::dS (s.drop (b+(j-i)).toNat):=by
 have hlen:=aRk hL hP G G λh=>by
  rw[show b.toNat+(j-b).toNat=j.toNat by omega,show j.toNat-(j-i).toNat=i.toNat by omega];have: ¬rd s i<=rd s j:=λhh=>o3 ⟨G,hh⟩;have:rd s j<rd s i:=G
  exact this
 have fb:0<(s.drop b.toNat).length:=by rw[bn];omega
 rw[IY fb,hlen,Ho];rw[show((j-i).toNat:Int)=j-i by omega,show b.toNat+(j-i).toNat=(b+(j-i)).toNat by omega]
theorem aHz (h0:0<=b) (mz:i<j) (hL:vG s b (j-i)) (hP:vD s b (j-i) (j-b)) (h:b+(j-i)<=i):vG s (b+(j-i)) (j-i)/\vD s (b+(j-i)) (j-i) (j-(b+(j-i))):=by
 unfold vG vD;rw[show(b+(j-i)).toNat=b.toNat+(j-i).toNat by omega,show(j-(b+(j-i))).toNat=(j-b).toNat-(j-i).toNat by omega];exact⟨Lyn.over hL hP G,yV.over hP G⟩
end
theorem aBo {s:AH} {n:Int} (h1:1<=n) (hn:n<=s.length) (h: ¬pW (s.take n.toNat)=true):1<=n-1/\jL s (n-1).toNat=jL s n.toNat:=by
 obtain⟨m,rfl⟩: ∃m:Nat,n=m+1:=⟨(n-1).toNat,G⟩;have e:((m:Int)+1).toNat=m+1:=G
 rw[e] at h;rw[e,show((m:Int)+1-1).toNat=m by omega,jL,df h];refine⟨?_,rfl⟩;rcases fo m with z|z
 ·subst z;exact absurd (aBp s G) h
 ·omega
theorem aGu {s:AH} {n:Int} (h1:1<=n) (h:pW (s.take n.toNat)=true):(jL s n.toNat:Int)=n:=by
 obtain⟨m,rfl⟩: ∃m:Nat,n=m+1:=⟨(n-1).toNat,G⟩;have e:((m:Int)+1).toNat=m+1:=G
 rw[e] at h;rw[e,jL,dm h];omega
section
variable {s:AH} {i d h n b k:Nat}
theorem aXa {M:Nat} {U V:Nat->Int}:LtH (M+1) U V↔U 0<V 0\/U 0=V 0/\LtH M (λi=>U (i+1)) (λi=>V (i+1)):=by
 constructor
 ·rintro ⟨k,hk,h1,h2⟩;cases k with
  |zero=>exact .inl h2
  |succ k=>exact .inr ⟨h1 0 G,k,G,λi hi=>h1 (i+1) G,h2⟩
 ·rintro (h|⟨e,k,hk,h1,h2⟩)
  ·exact⟨0,G,λi hi=>G,h⟩
  ·refine ⟨k+1,G,λi hi=> ?_,h2⟩;cases i with
   |zero=>exact e
   |succ i=>exact h1 i G
def pad (m:Int) (l:AH) (d:Nat):Int:=if d<l.length then lt l d-m+1 else 0
theorem aDr (m:Int): ∀(a b:AH) (N:Nat),a.length<=N->b.length<=N->(∀x∈a,m<=x)->(∀x∈b,m<=x)->(cmpL a b<0↔LtH N (pad m a) (pad m b))
 |[],[],N,_,_,_,_=>by
  simp only[cmpL];refine⟨λh=>G,?_⟩;rintro⟨k,_,_,h⟩;simp[pad] at h
 |[],b::v,N,_,hb,_,mb=>by
  simp only[cmpL];have:=mb b cD;refine⟨λ_=>⟨0,by simp only[dn] at hb;omega,λi hi=>G,?_⟩,λ_=>G⟩;have e1:pad m [] 0=0:=rfl;have e2:pad m (b::v) 0=b-m+1:=by unfold pad;rw[dm cD];rfl
  rw[e1,e2];omega
 | a::u,[],N,_,_,ma,_=>by
  simp only[cmpL];refine⟨λh=>G,?_⟩;rintro⟨k,_,_,h⟩;exfalso;have e1:pad m [] k=0:=by unfold pad;rw[df cD]
  rw[e1] at h;unfold pad at h;split at h
  ·rename_i hk
   have:m<=lt (a::u) k:=ma _ (by
    unfold lt;rw[ai,av hk]
    exact lu _)
   omega
  ·omega
 |a::u,b::v,0,h,_,_,_=>by simp at h
 | a::u,b::v,N+1,ha,hb,ma,mb=>by
  have ih:=aDr m u v N (by simpa using ha) (by simpa using hb) (λx hx=>ma x (gm _ hx)) (λx hx=>mb x (gm _ hx));have e0: ∀(x:Int) (xs:AH),pad m (x::xs) 0=x-m+1:=λx xs=>by unfold pad;rw[dm cD];rfl
  have e1: ∀(x:Int) (xs:AH),(λi=>pad m (x::xs) (i+1))=pad m xs:=λx xs=>by
   funext i;unfold pad;by_cases h:i<xs.length
   ·rw[dm (by simpa using h),dm h];rfl
   ·rw[df (by simpa using h),df h]
  rw[cmpL,aXa,e0,e0,e1,e1];rcases jl a b with c|c|c
  ·rw [dm c];exact⟨λ_=> .inl G,λ_=>G⟩
  ·subst c;rw[df G,df G,ih];exact⟨λh=> .inr ⟨rfl,h⟩,λh=>h.elim (λh=>G) λh=>h.2⟩
  ·rw [df G,dm c];exact⟨λh=>G,λh=>h.elim (λh=>G) λh=>G⟩
def lo (s:AH):Int:=s.foldr min 0
theorem aXe: ∀ {s:AH} {x:Int},x∈s->lo s<=x
 | a::s,x,h=>by
  unfold lo;rw[List.foldr_cons];rcases jd.1 h with rfl|h
  ·exact Int.min_le_left _ _
  ·have:=aXe h;unfold lo at this;omega
def eu (s:AH) (i d:Nat):Int:=if i+d<s.length then lt s (i+d)-lo s+1 else 0
theorem bKk (h:i<s.length):lt s i∈s:=by
 unfold lt;rw[ai,av h];exact lu _
theorem uG (h:i+d<s.length):0<eu s i d:=by
 have:=aXe (bKk h);unfold eu;rw[dm h];omega
theorem jZ (h:s.length<=i+d):eu s i d=0:=by unfold eu;rw[df G]
theorem yJ (s:AH) (i b d:Nat):eu s (i+b) d=eu s i (b+d):=by unfold eu;rw[nz]
def uW (s:AH) (i h:Nat):AH:=(s.drop i).take h
theorem aDe (hd:d<h):pad (lo s) (uW s i h) d=eu s i d:=by
 unfold pad eu uW;rw[ax,bn];by_cases c:i+d<s.length
 ·rw[dm G,dm c,lt_take hd,jS]
 ·rw[df G,df c]
theorem aPl {H:Nat} {U U' V V':Nat->Int} (h1: ∀i,i<H->U i=U' i) (h2: ∀i,i<H->V i=V' i):LtH H U V↔LtH H U' V':=by
 constructor
 ·rintro ⟨k,hk,a,b⟩;exact⟨k,hk,λi hi=>by rw[<-h1 i G,<-h2 i G];exact a i hi,by rw[<-h1 k hk,<-h2 k hk];exact b⟩
 ·rintro ⟨k,hk,a,b⟩;exact⟨k,hk,λi hi=>by rw[h1 i G,h2 i G];exact a i hi,by rw[h1 k hk,h2 k hk];exact b⟩
theorem yO (s:AH) (i k h:Nat):cmpL (uW s i h) (uW s k h)<0↔LtH h (eu s i) (eu s k):=by
 have hm: ∀j,∀x∈uW s j h,lo s<=x:=λj x hx=>aXe (nu (ll hx));rw[aDr (lo s) _ _ h (by unfold uW;rw[ax];omega) (by unfold uW;rw[ax];omega) (hm i) (hm k)];exact aPl (λd hd=>aDe hd) λd hd=>aDe hd
theorem bEp {U V:Nat->Int} (hb:b<=n):LtH (n+b) U V↔LtH n U V\/EqH n U V/\LtH n (λi=>U (b+i)) (λi=>V (b+i)):=by
 constructor
 ·rintro ⟨k,hk,h1,h2⟩;rcases gp k n with a|a
  ·exact .inl ⟨k,a,h1,h2⟩
  ·refine .inr ⟨λi hi=>h1 i G,k-b,G,λi hi=>h1 (b+i) G,?_⟩;show U (b+(k-b))<V (b+(k-b));rw[show b+(k-b)=k by omega];exact h2
 ·rintro (h|⟨e,k,hk,h1,h2⟩)
  ·exact h.mono G
  ·refine ⟨b+k,G,λi hi=> ?_,h2⟩;rcases gp i n with a|a
   ·exact e i a
   ·have:=h1 (i-b) G;simp only at this;rwa[show b+(i-b)=i by omega] at this
theorem bFj {U V:Nat->Int} (hb:b<=n):EqH (n+b) U V↔EqH n U V/\EqH n (λi=>U (b+i)) (λi=>V (b+i)):=by
 constructor
 ·exact λe=>⟨λi hi=>e i G,λi hi=>e (b+i) G⟩
 ·rintro ⟨e,f⟩ i hi;rcases gp i n with a|a
  ·exact e i a
  ·have:=f (i-b) G;simp only at this;rwa[show b+(i-b)=i by omega] at this
def rkS (s:AH) (h i:Nat):Nat:=(List.range s.length).countP λk=>decide (cmpL (uW s k h) (uW s i h)<0)
theorem uI {α:Type} {p q:α->Bool}: ∀ {l:List α},(∀x∈l,p x=true->q x=true)->(∃x∈l,p x=false/\q x=true)->l.countP p<l.countP q
 |[],_,h=>by obtain⟨x,hx,_⟩:=h;cases hx
 | a::l,h,hx=>by
  have hl:l.countP p<=l.countP q:=Ev λx hx=>h x (gm _ hx);obtain⟨x,hm,h1,h2⟩:=hx;rw[List.countP_cons,List.countP_cons];rcases jd.1 hm with rfl|hm
  ·rw[h1,h2];simp;omega
  ·have ih:=uI (λy hy=>h y (gm _ hy)) ⟨x,hm,h1,h2⟩;have ha:=h a cD;cases hp:p a with
   |false=>cases q a<;>simp<;>omega
   |true=>rw[ha hp];simp;omega
theorem xL (hi:i<s.length):rkS s h i<rkS s h k↔LtH h (eu s i) (eu s k):=by
 constructor
 ·intro hr;rcases tri h (eu s i) (eu s k) with a|a|a
  ·exact a
  ·exfalso
   have:rkS s h k<=rkS s h i:=Ev λx _ hx=>by
    rw[jb,yO] at hx ⊢;exact hx.eq_right a.symm
   omega
  ·exfalso
   have:rkS s h k<=rkS s h i:=Ev λx _ hx=>by
    rw[jb,yO] at hx ⊢;exact hx.trans a
   omega
 ·intro hl;refine uI (λx _ hx=> ?_) ⟨i,jy.2 hi,?_,?_⟩
  ·rw [jb,yO] at hx ⊢;exact hx.trans hl
  ·rw [uh,yO];exact λh=>h.asymm h
  ·rw [jb,yO];exact hl
theorem aKd (hi:i<s.length) (hk:k<s.length):rkS s h i=rkS s h k↔EqH h (eu s i) (eu s k):=by
 constructor
 ·intro he;rcases tri h (eu s i) (eu s k) with a|a|a
  ·have:=(xL hi).2 a;omega
  ·exact a
  ·have:=(xL hk).2 a;omega
 ·intro he;rcases wu (rkS s h i) (rkS s h k) with a|a|a
  ·exact absurd he ((xL hi).1 a).not_eq
  ·exact a
  ·exact absurd he.symm ((xL hk).1 a).not_eq
def uN (s:AH) (n i:Nat):Nat:=if i<s.length then rkS s n i+1 else 0
theorem DX (hn:0<n):uN s n i<uN s n k↔LtH n (eu s i) (eu s k):=by
 unfold uN;by_cases hi:i<s.length
 ·by_cases hk:k<s.length
  ·rw[dm hi,dm hk,<-xL hi];omega
  ·rw [dm hi,df hk];refine⟨λh=>G,?_⟩;rintro⟨d,_,_,h2⟩;rw[jZ (s:=s) (i:=k) G] at h2;rcases gp (i+d) s.length with a|a
   ·have:=uG a;omega
   ·rw[jZ a] at h2;omega
 ·by_cases hk:k<s.length
  ·rw [df hi,dm hk];refine⟨λ_=>⟨0,hn,λd hd=>G,?_⟩,λ_=>G⟩;rw[jZ G];exact uG G
  ·rw [df hi,df hk];refine⟨λh=>G,?_⟩;rintro⟨d,_,_,h2⟩;rw[jZ (s:=s) (i:=k) G,jZ G] at h2;omega
theorem bDf (hn:0<n):uN s n i=uN s n k↔EqH n (eu s i) (eu s k):=by
 constructor
 ·intro he;rcases tri n (eu s i) (eu s k) with a|a|a
  ·have:=(DX hn).2 a;omega
  ·exact a
  ·have:=(DX hn).2 a;omega
 ·intro he;rcases wu (uN s n i) (uN s n k) with a|a|a
  ·exact absurd he ((DX hn).1 a).not_eq
  ·exact a
  ·exact absurd he.symm ((DX hn).1 a).not_eq
theorem aFy (hn:0<n) (hb:b<=n) (hi:i<s.length) (hk:k<s.length):rkS s (n+b) i<rkS s (n+b) k↔rkS s n i<rkS s n k\/rkS s n i=rkS s n k/\uN s n (i+b)<uN s n (k+b):=by
 rw[xL hi,bEp hb,xL hi,aKd hi hk,DX hn];have e: ∀j,eu s (j+b)=λd=>eu s j (b+d):=λj=>funext λd=>yJ s j b d;rw[e,e]
theorem NV (hn:0<n) (hb:b<=n) (hi:i<s.length) (hk:k<s.length):rkS s (n+b) i=rkS s (n+b) k↔rkS s n i=rkS s n k/\uN s n (i+b)=uN s n (k+b):=by
 rw[aKd hi hk,bFj hb,aKd hi hk,bDf hn];have e: ∀j,eu s (j+b)=λd=>eu s j (b+d):=λj=>funext λd=>yJ s j b d;rw[e,e]
theorem bJl {i:Nat} {o:List Nat} (hp:o.Perm (List.range s.length)) (hs:o.Pairwise λx y=>rkS s h x<=rkS s h y) (hi:i<o.length) (Se: ∀(hz:0<i),rkS s h (o[i-1]' G)≠rkS s h o[i]):rkS s h o[i]=i:=by
 have hm: ∀x∈o,x<s.length:=λx hx=>jy.1 (hp.subset hx)
 have e:rkS s h o[i]=o.countP λk=>decide (rkS s h k<rkS s h o[i]):=by
  have e1:rkS s h o[i]=o.countP λk=>decide (cmpL (uW s k h) (uW s o[i] h)<0):=by
   unfold rkS;rw[<-hp.countP_eq]
  rw[e1];refine Ik λx hx=> ?_;rw[jb,jb,yO,<-xL (hm x hx),<-e1]
 rw[e];have hsplit:o=o.take i++o.drop i:=(gz i o).symm
 have h1:(o.take i).countP (λk=>decide (rkS s h k<rkS s h o[i]))=i:=by
  have:(o.take i).length=i:=by rw[ax];omega
  conv=>rhs;rw[<-this]
  rw[List.countP_eq_length];intro x hx;rw[jb];obtain⟨j,hj,rfl⟩:=ib.1 hx;rw[ax] at hj;rw[wo];have hz:0<i:=G
  have hprev:=Se hz;have nw:rkS s h (o[i-1]' G)<=rkS s h o[i]:=dz.1 hs (i-1) i G hi G;rcases gp j (i-1) with a|a
  ·have:=dz.1 hs j (i-1) G G a;omega
  ·have:j=i-1:=G
   subst this;omega
 have h2:(o.drop i).countP (λk=>decide (rkS s h k<rkS s h o[i]))=0:=by
  rw[Cm];intro x hx;rw[jb];obtain⟨j,hj,rfl⟩:=ib.1 hx;rw[bn] at hj;rw[Af];rcases fo j with z|z
  ·subst z;simp
  ·have:=dz.1 hs i (i+j) hi G G;omega
 have h3:(o.take i++o.drop i).countP (λk=>decide (rkS s h k<rkS s h o[i]))=i:=by rw[List.countP_append,h1,h2,rq]
 rwa[gz] at h3
end
theorem xX {w:Int} {j:Nat} {t:Int × Int}:t∈turnsOf w j↔t.1=w/\0<=t.2/\t.2<j:=by
 unfold turnsOf;rw[ii];constructor
 ·rintro ⟨i,hi,rfl⟩;rw[jy] at hi;exact⟨rfl,by simp only;omega,by simp only;omega⟩
 ·rintro ⟨rfl,h1,h2⟩;refine⟨t.2.toNat,jy.2 G,?_⟩;rw[mg h1]
theorem zO {ws:AD} {t:Int × Int}: ∀ {k:Nat},t∈gG ws k↔(0<=t.1/\t.1<k)/\0<=t.2/\t.2<(rdl ws t.1).length
 |0=>by
  constructor
  ·intro h;cases h
  ·rintro⟨h,_⟩;omega
 | k+1=>by
  show t∈gG ws k++turnsOf k (rdl ws k).length↔_;rw[ek,zO,xX];constructor
  ·rintro (⟨h1,h2⟩|⟨h1,h2,h3⟩)
   ·exact⟨⟨h1.1,G⟩,h2⟩
   ·rw[h1];exact⟨⟨G,G⟩,h2,h3⟩
  ·rintro ⟨h1,h2,h3⟩;by_cases e:t.1=k
   ·exact .inr ⟨e,h2,by rw[e] at h3;exact h3⟩
   ·exact .inl ⟨⟨h1.1,G⟩,h2,h3⟩
theorem tO {ws:AD} {t:Int × Int}:t∈gG ws ws.length↔TV ws t:=by
 rw[zO];unfold TV;constructor
 ·rintro⟨⟨a,b⟩,c,d⟩;exact⟨a,b,c,d⟩
 ·rintro⟨a,b,c,d⟩;exact⟨⟨a,b⟩,c,d⟩
theorem RU (w:Int) (j:Nat):(turnsOf w j).Nodup:=by
 unfold turnsOf;refine ik.2 ((xu (n:=j)).imp λ{a b} h e=>h ?_);simp only[Ao,zw] at e;omega
theorem xE (ws:AD): ∀k,(gG ws k).Nodup
 |0=> .nil
 |k+1=>by
  refine yf.2 ⟨xE ws k,RU _ _,λa ha b hb e=> ?_⟩;subst e;have h1:=(zO.1 ha).1;have h2:=(xX.1 hb).1;omega
theorem UK {ws:AD} {i j:Nat} (h:i<=j):pF ws i<=pF ws j:=by
 unfold pF;obtain⟨d,rfl⟩: ∃d,j=i+d:=⟨j-i,G⟩;rw[Jg,mh,ah];omega
theorem aAr {ws:AD} {k:Nat} {i:Int} (h0:0<=i) (h:i<k):rd (tZ ws k) i=pF ws i.toNat:=by
 have hi:i.toNat<k:=G
 simp[rd,tZ,ai,hi]
theorem bDm {ws:AD} {w j:Int} (h0:0<=w) (h1:w<ws.length) (h2:0<=j) (h3:j<(rdl ws w).length):rd ws.flatten (pF ws w.toNat+j)=rd (rdl ws w) j:=by
 have e:ws.flatten=(ws.take w.toNat).flatten++(ws.drop w.toNat).flatten:=by
  rw[<-mh,gz]
 rw[e,aVk h0 h1,oq];unfold rd;rw[ai,jk (by unfold pF;omega),ji (by unfold pF;omega),ai];congr 2;unfold pF;omega
theorem XF {ws:AD} {t:Int × Int} (ht:TV ws t):jC (tZ ws ws.length) t=pF ws t.1.toNat+t.2:=by
 unfold jC;rw[aAr ht.1 ht.2.1]
theorem aVu {ws:AD} {t u:Int × Int} (ht:TV ws t) (hu:TV ws u) (h:jC (tZ ws ws.length) t=jC (tZ ws ws.length) u):t=u:=by
 rw[XF ht,XF hu] at h;obtain⟨a1,a2,a3,a4⟩:=ht;obtain⟨b1,b2,b3,b4⟩:=hu;have o1:=kW a1 a2;have o2:=kW b1 b2
 have e:t.1=u.1:=by
  rcases jl t.1 u.1 with x|x|x
  ·have:=UK (ws:=ws) (show(t.1+1).toNat<=u.1.toNat by omega);omega
  ·exact x
  ·have:=UK (ws:=ws) (show(u.1+1).toNat<=t.1.toNat by omega);omega
 rw[e] at h;exact Prod.ext e G
theorem bGo {ws:AD} (hN:ws.flatten.length<=1000000) {t:Int × Int} (ht:TV ws t):TOk ws (tZ ws ws.length) ws.flatten.length t:=by
 obtain⟨a1,a2,a3,a4⟩:=ht;have o1:=kW a1 a2;have o2:=LV ws (t.1+1).toNat;have e:=aAr (ws:=ws) a1 a2;have hb:=VU ws ws.length;refine⟨⟨a1,a2,G⟩,⟨a3,a4,G⟩,G,?_⟩;rw[e];omega
theorem aUo (ws:AD):RK ws (tZ ws ws.length) 1 ws.flatten:=by
 intro t u ht hu
 have one: ∀t,TV ws t->rd ws.flatten (jC (tZ ws ws.length) t)=tw ws t 0:=by
  intro t ht;rw[XF ht,bDm ht.1 ht.2.1 ht.2.2.1 ht.2.2.2];obtain⟨a1,a2,a3,a4⟩:=ht;unfold tw rd;rw[rq,lv G]
 rw[one t ht,one u hu];constructor
 ·constructor
  ·exact λh=>⟨0,G,λi hi=>G,h⟩
  ·rintro ⟨k,hk,_,h⟩;obtain rfl:k=0:=G
   exact h
 ·constructor
  ·intro h i hi;obtain rfl:i=0:=G
   exact h
  ·exact λh=>h 0 G
theorem aTk {ws:AD} (t:Int × Int):Per (tw ws t) (rdl ws t.1).length:=by
 intro i;unfold tw;rw[<-nz,Io]
def jR (ws:AD) (t u:Int × Int):Prop:=Lt (tw ws t) (tw ws u)\/(∀i,tw ws t i=tw ws u i)/\ltI t u
theorem aWe {ws:AD} {M:Nat} {t u:Int × Int} (hM:EqH M (tw ws t) (tw ws u)-> ∀i,tw ws t i=tw ws u i):aWh ws M t u↔jR ws t u:=by
 unfold aWh jR;constructor
 ·rintro (⟨k,_,h1,h2⟩|⟨e,h⟩)
  ·exact .inl ⟨k,h1,h2⟩
  ·exact .inr ⟨hM e,h⟩
 ·rintro (⟨k,h1,h2⟩|⟨e,h⟩)
  ·rcases tri M (tw ws t) (tw ws u) with a|a|⟨m,_,g1,g2⟩
   ·exact .inl a
   ·have:=hM a k;omega
   ·exfalso;by_cases x:k<m
    ·have:=g1 k x;omega
    ·by_cases y:m<k
     ·have:=h1 m y;omega
     ·have:k=m:=G
      subst this;omega
  ·exact .inr ⟨λi _=>e i,h⟩
theorem aCr {ws:AD} {M:Nat} {t u:Int × Int} (ht:TV ws t) (hu:TV ws u) (hM:(rdl ws t.1).length+(rdl ws u.1).length<=M) (h:EqH M (tw ws t) (tw ws u)): ∀i,tw ws t i=tw ws u i:=by
 obtain⟨a1,a2,a3,a4⟩:=ht;obtain⟨b1,b2,b3,b4⟩:=hu;exact agree G G (aTk t) (aTk u) λi hi=>h i G
theorem aCq {ws:AD} {h:Int} (h0:0<h) (gd: ∀t u,TV ws t->TV ws u->EqH (oG h) (tw ws t) (tw ws u)->EqH (iJ h) (tw ws t) (tw ws u)) {t u:Int × Int} (ht:TV ws t) (hu:TV ws u) (he:EqH (oG h) (tw ws t) (tw ws u)): ∀i,tw ws t i=tw ws u i:=by
 have e1:oG h=h.toNat:=by unfold oG;omega
 have e2:iJ h=h.toNat+h.toNat:=by unfold iJ;rw[df G];omega
 rw[e1,e2] at gd;rw[e1] at he;intro i
 induction i using Nat.strongRecOn generalizing t u with
 | _ i ih=>
  by_cases hi:i<h.toNat
  ·exact he i hi
  ·have h2:=(aLm.1 (gd t u ht hu he)).2;have f1:(λi=>tw ws t (i+h.toNat))=tw ws (sh ws t h):=funext λi=>(TG ht G i).symm;have f2:(λi=>tw ws u (i+h.toNat))=tw ws (sh ws u h):=funext λi=>(TG hu G i).symm;rw[f1,f2] at h2;have:=ih (i-h.toNat) G (aJy ht) (aJy hu) h2;rw[TG ht G,TG hu G,su G] at this;exact this
theorem dJ {l:AH} {j:Int} (h0:0<=j) (h:j<l.length):l.take (j+1).toNat=l.take j.toNat++[rd l j]:=by
 have hl:j.toNat<l.length:=G
 rw[show(j+1).toNat=j.toNat+1 by omega,qy,av hl];simp[rd,ai,av hl]
theorem bEr (t u:Int × Int):ltI t u\/t=u\/ltI u t:=by
 unfold ltI;rcases jl t.1 u.1 with a|a|a
 ·exact .inl (.inl a)
 ·rcases jl t.2 u.2 with b|b|b
  ·exact .inl (.inr ⟨a,b⟩)
  ·exact .inr (.inl (Prod.ext a b))
  ·exact .inr (.inr (.inr ⟨a.symm,b⟩))
 ·exact .inr (.inr (.inl a))
theorem Sorted.toO {ws:AD} {M:Nat} {l:AE} (s:Sorted ws M l) (hM: ∀t u,TV ws t->TV ws u->EqH M (tw ws t) (tw ws u)-> ∀i,tw ws t i=tw ws u i):l.Pairwise (jR ws):=by
 refine(s.pw.and s.nodup).imp_of_mem λ{x y} hx hy h=> ?_;have Pl:=aWe (hM x y (s.tv x hx) (s.tv y hy));rw[<-Pl];rcases tri M (tw ws x) (tw ws y) with a|a|a
 ·exact .inl a
 ·rcases bEr x y with b|b|b
  ·exact .inr ⟨a,b⟩
  ·exact absurd b h.2
  ·exact absurd (.inr ⟨a.symm,b⟩) h.1
 ·exact absurd (.inl a) h.1
theorem stay {ws:AD} {bs rs:AH} {h w:Int} {l lo:AE} (h0:0<h) (hr:RK ws bs (oG h) rs) (s:Sorted ws (iJ h) l) (gl: ∀t,TV ws t->t∈l) (hp:l.Perm lo) (st:Steps bs rs lo w) (hw:jJ ws bs rs h l (l.length-1)=w):l.Pairwise (jR ws):=by
 have Ta:oG h<=iJ h:=by unfold oG iJ;rw[df G];omega
 refine s.toO λt u ht hu e=>aCq h0 (λt u ht hu e=> ?_) ht hu (e.mono Ta);obtain⟨i,hi,rfl⟩:=ib.1 (gl t ht);obtain⟨j,hj,rfl⟩:=ib.1 (gl u hu);rw[<-pY hi,<-pY hj] at e ⊢;exact bEg h0 hr s hp st hw hi hj e
theorem NI {l:AE} {j:Int} (h0:0<=j) (h:j<l.length):l.take (j+1).toNat=l.take j.toNat++[rdp l j]:=by
 have hl:j.toNat<l.length:=G
 rw[show(j+1).toNat=j.toNat+1 by omega,qy,av hl];simp[rdp,ai,av hl]
theorem IP {α:Type} {r:α->α->Prop} (Pp: ∀x y,r x y-> ¬r y x): ∀ {a b:List α},a.Perm b->a.Pairwise r->b.Pairwise r->a=b
 |[],b,h,_,_=>(List.nil_perm.1 h).symm
 |x::a,[],h,_,_=>absurd h.symm cD
 | x::a,y::b,h,ha,hb=>by
  have e:x=y:=by
   rcases jd.1 (h.mem_iff.1 (.head _)) with e|e
   ·exact e
   ·have h1:=(ja.1 hb).1 x e;rcases jd.1 (h.mem_iff.2 (.head _)) with e2|e2
    ·exact e2.symm
    ·exact absurd h1 (Pp _ _ ((ja.1 ha).1 y e2))
  subst e;rw[IP Pp ((List.perm_cons x).1 h) (ja.1 ha).2 (ja.1 hb).2]
end Go.Pure
namespace Go.Pure
open Go Go.Eng
theorem bEb {w:AH} {i:Nat} (hi:i<w.length) (j:Nat):om (w.drop i++w.take i) j=w.getD ((i+j)%w.length) 0:=by
 have hl:(w.drop i++w.take i).length=w.length:=by rw[ah,bn,ax];omega
 have hm:=yw j (show 0<w.length by omega);unfold om;rw[hl,ai,ai];congr 1;have e:(i+j)%w.length=(i+j%w.length)%w.length:=by rw[Nat.add_mod_mod]
 rw[e];clear e;generalize j%w.length=r at hm ⊢;by_cases h:r<w.length-i
 ·have e2:(i+r)%w.length=i+r:=lv G;rw[ji (by rw[bn];exact h),sj,e2]
 ·have e2:(i+r)%w.length=i+r-w.length:=by rw[zt G,lv G]
  rw[jk (by rw[bn];omega),bn,qb,dm G,e2];congr 1;omega
theorem bHl {ws:AD} {t:Int × Int} (ht:TV ws t) (j:Nat):om ((rdl ws t.1).drop t.2.toNat++(rdl ws t.1).take t.2.toNat) j=tw ws t j:=by
 obtain⟨a,b,c,d⟩:=ht;rw[bEb G];rfl
end Go.Pure
namespace Go.Pure
open Go Go.Eng
section
variable {ws:AD} {l:AE} {j:Nat}
theorem Lt.of_H {H:Nat} {U V:Nat->Int} (h:LtH H U V):Lt U V:=by
 obtain⟨k,_,r⟩:=h;exact⟨k,r⟩
theorem xZ (U V:Nat->Int):Lt U V\/(∀i,U i=V i)\/Lt V U:=by
 by_cases h: ∀i,U i=V i
 ·exact .inr (.inl h)
 ·obtain ⟨k,hk⟩:=Fv.1 h;rcases tri (k+1) U V with a|a|a
  ·exact .inl (Lt.of_H a)
  ·exact absurd (a k G) hk
  ·exact .inr (.inr (Lt.of_H a))
theorem Lt.asymm {U V:Nat->Int} (h:Lt U V): ¬Lt V U:=by
 obtain⟨k,h1,hl⟩:=h;rintro⟨m,h2,Sa⟩;by_cases a:k<m
 ·have:=h2 k a;omega
 ·by_cases b:m<k
  ·have:=h1 m b;omega
  ·have:k=m:=G
   subst this;omega
theorem Lt.not_eq {U V:Nat->Int} (h:Lt U V): ¬ ∀i,U i=V i:=λe=>by
 obtain⟨k,_,hl⟩:=h;have:=e k;omega
theorem aBg {t u:Int × Int} (h: ¬Lt (tw ws t) (tw ws u)) (hi:ltI u t):jR ws u t:=by
 rcases xZ (tw ws u) (tw ws t) with a|a|a
 ·exact .inl a
 ·exact .inr ⟨a,hi⟩
 ·exact absurd a h
theorem aGo (t u:Int × Int) (h:jR ws t u): ¬jR ws u t:=by
 rcases h with h|⟨e,h⟩
 ·rintro (g|⟨e,g⟩)
  ·exact h.asymm g
  ·exact h.not_eq λi=>(e i).symm
 ·rintro (g|⟨e',g⟩)
  ·exact g.not_eq λi=>(e i).symm
  ·unfold ltI at h g;omega
theorem PC {t u v:Int × Int} (h:jR ws t u) (g:jR ws u v):jR ws t v:=by
 rcases h with⟨k,h1,hl⟩|⟨e,h⟩
 ·rcases g with g|⟨e',_⟩
  ·exact .inl (Lt.trans ⟨k,h1,hl⟩ g)
  ·exact .inl ⟨k,λi hi=>(h1 i hi).trans (e' i),by rw[<-e' k];exact hl⟩
 ·rcases g with⟨k,h1,hl⟩|⟨e',g⟩
  ·exact .inl ⟨k,λi hi=>(e i).trans (h1 i hi),by rw[e k];exact hl⟩
  ·exact .inr ⟨λi=>(e i).trans (e' i),by unfold ltI at*;omega⟩
theorem aHf {x:Int × Int} {j:Nat} (hp:l.Pairwise (jR ws)) (h1: ∀y∈l.take j,jR ws y x) (h2: ∀y∈l.drop j,jR ws x y):(l.take j++[x]++l.drop j).Pairwise (jR ws):=by
 have hs:(l.take j++l.drop j).Pairwise (jR ws):=by rw[gz];exact hp
 obtain⟨a,b,c⟩:=ku.1 hs;refine ku.2 ⟨ku.2 ⟨a,qi _ _,λy hy z hz=> ?_⟩,b,λy hy z hz=> ?_⟩
 ·obtain rfl:=ig.1 hz;exact h1 y hy
 ·rcases ek.1 hy with hy|hy
  ·exact c y hy z hz
  ·obtain rfl:=ig.1 hy;exact h2 z hz
theorem aBy {α:Type} {l:List α} {x:α}:(l.take j++[x]++l.drop j).Perm (l++[x]):=by
 have h:(l.take j++[x]++l.drop j).Perm (l.take j++l.drop j++[x]):=by
  rw[dx,dx];exact wz _ rf
 rwa[gz] at h
theorem aSn {x:Int × Int} {j:Int} (hp:l.Pairwise (jR ws)) (h0:0<j) (hj:j<=l.length) (h:jR ws (rdp l (j-1)) x): ∀y∈l.take j.toNat,jR ws y x:=by
 intro y hy;obtain⟨i,hi,rfl⟩:=ib.1 hy;rw[ax] at hi;rw[wo];have ot:(j-1).toNat<l.length:=G
 have e:rdp l (j-1)=l[(j-1).toNat]:=by
  unfold rdp;rw[ai,av ot];rfl
 rw[e] at h;rcases gp i (j-1).toNat with a|a
 ·exact PC (dz.1 hp i (j-1).toNat G ot a) h
 ·have:i=(j-1).toNat:=G
  subst this;exact h
theorem aDq {t u:Int × Int} (ht:TV ws t) (hu:TV ws u):QR ((rdl ws t.1).drop t.2.toNat++(rdl ws t.1).take t.2.toNat) ((rdl ws u.1).drop u.2.toNat++(rdl ws u.1).take u.2.toNat)<0↔Lt (tw ws t) (tw ws u):=by
 have e1:om ((rdl ws t.1).drop t.2.toNat++(rdl ws t.1).take t.2.toNat)=tw ws t:=funext (bHl ht);have e2:om ((rdl ws u.1).drop u.2.toNat++(rdl ws u.1).take u.2.toNat)=tw ws u:=funext (bHl hu)
 have l1:0<((rdl ws t.1).drop t.2.toNat++(rdl ws t.1).take t.2.toNat).length:=by
  obtain⟨a,b,c,d⟩:=ht;rw[ah,bn,ax];omega
 have l2:0<((rdl ws u.1).drop u.2.toNat++(rdl ws u.1).take u.2.toNat).length:=by
  obtain⟨a,b,c,d⟩:=hu;rw[ah,bn,ax];omega
 rw[bAh l1 l2,e1,e2]
end
section
variable {ws:AD} {w k j:Int} {U:AE}
theorem aWw {u:Int × Int} (wv:0<=w) (hw:w<ws.length) (hk:k<=(rdl ws w).length) (h:u∈gG ws w.toNat++turnsOf w k.toNat):TV ws u/\ltI u (w,k):=by
 rcases ek.1 h with h|h
 ·obtain ⟨⟨a,b⟩,c,d⟩:=zO.1 h;exact⟨⟨a,G,c,d⟩, .inl (by simp only;omega)⟩
 ·obtain ⟨a,b,c⟩:=xX.1 h;obtain⟨u1,u2⟩:=u;simp only at a b c;subst a;exact⟨⟨wv,hw,b,by simp only;omega⟩, .inr ⟨rfl,by simp only;omega⟩⟩
theorem OC (wv:0<=w) (hw:w<ws.length) (hk:k<=(rdl ws w).length) (hp:U.Perm (gG ws w.toNat++turnsOf w k.toNat)) (i:Int) (h0:0<=i) (h:i<U.length):TV ws (rdp U i)/\ltI (rdp U i) (w,k):=
 aWw wv hw hk (hp.subset (kL h0 h))
def aJt (ws:AD) (t:Int × Int):AH:=(rdl ws t.1).drop t.2.toNat++(rdl ws t.1).take t.2.toNat
theorem aYb (wv:0<=w) (hw:w<ws.length) (iu:0<=k) (hk:k<(rdl ws w).length) (hp:U.Perm (gG ws w.toNat++turnsOf w k.toNat)) (tj:0<=j) (hj:j<=U.length)
  (yv: ∀i:Int,j<=i->i<U.length->jR ws (w,k) (rdp U i)) (h:0<j/\QR (aJt ws (w,k)) (aJt ws (rdp U (j-1)))<0): ∀i:Int,j-1<=i->i<U.length->jR ws (w,k) (rdp U i):=by
 intro i h1 h2;rcases cz i j with a|a
 ·have:i=j-1:=G
  subst this;exact .inl ((aDq ⟨wv,hw,iu,hk⟩ (OC wv hw G hp (j-1) G h2).1).1 h.2)
 ·exact yv i a h2
theorem bFa (wv:0<=w) (hw:w<ws.length) (iu:0<=k) (hk:k<(rdl ws w).length) (hp:U.Perm (gG ws w.toNat++turnsOf w k.toNat)) (hs:U.Pairwise (jR ws)) (tj:0<=j) (hj:j<=U.length)
  (yv: ∀i:Int,j<=i->i<U.length->jR ws (w,k) (rdp U i)) (h: ¬(0<j/\QR (aJt ws (w,k)) (aJt ws (rdp U (j-1)))<0)):
  (U.take j.toNat++[(w,k)]++U.drop j.toNat).Perm (gG ws w.toNat++turnsOf w (k+1).toNat)/\(U.take j.toNat++[(w,k)]++U.drop j.toNat).Pairwise (jR ws):=by
 refine⟨?_,aHf hs ?_ ?_⟩
 ·rw [CY w iu,<-dx];exact aBy.trans (zl _ hp)
 ·rcases cz 0 j with a|a
  ·have hq:=OC wv hw G hp (j-1) G G;refine aSn hs a hj (aBg (λhl=>h ⟨a,(aDq ⟨wv,hw,iu,hk⟩ hq.1).2 hl⟩) hq.2)
  ·intro y hy;rw[show j.toNat=0 by omega,zb] at hy;cases hy
 ·intro y hy;obtain⟨i,hi,rfl⟩:=ib.1 hy;rw[bn] at hi;have br:j.toNat+i<U.length:=G
  rw[Af];have:=yv (j+(i:Int)) G G
  have e:rdp U (j+(i:Int))=U[j.toNat+i]:=by
   unfold rdp;rw[show(j+(i:Int)).toNat=j.toNat+i by omega,ai,av br];rfl
  rwa[e] at this
end
section
variable {L s:AH} {k:Int} {ws:AD} {l:AE}
def ps (L:AH) (k:Int):Int:=(L.take k.toNat).sum
theorem mP (h0:0<=k) (h:k<L.length):ps L (k+1)=ps L k+rd L k:=by
 unfold ps;rw[dJ h0 h,Db];simp
theorem aGj (h:L.length<=k):ps L k=L.sum:=by
 unfold ps;rw[bg G]
def iQ (s L:AH) (k:Int):AD:=(List.range k.toNat).map λi:Nat=>(s.drop (ps L i).toNat).take (rd L i).toNat
theorem wZ (h0:0<=k):iQ s L (k+1)=iQ s L k++[(s.drop (ps L k).toNat).take (rd L k).toNat]:=by
 unfold iQ;rw[show(k+1).toNat=k.toNat+1 by omega,zz,jc];simp only[jm,rz];rw[show((k.toNat:Nat):Int)=k by omega]
theorem vI (s L:AH) (k:Int):(iQ s L k).length=k.toNat:=by simp[iQ]
theorem LG: ∀ {L:AH},(∀x∈L,0<x)->(L.length:Int)<=L.sum
 |[],_=>cD
 |x::L,h=>by
  have a:=h x cD;have b:=LG (L:=L) λy hy=>h y (gm _ hy);simp only[dn,uo];omega
theorem ZU {L:AH} (h: ∀x∈L,0<x) (k:Nat):(L.take k).sum<=L.sum:=by
 have e:L.sum=(L.take k).sum+(L.drop k).sum:=by rw[<-Db,gz]
 have:=LG (L:=L.drop k) λy hy=>h y (nu hy);omega
theorem IJ {L:AH} (h: ∀x∈L,0<x) (k:Int):0<=ps L k:=by
 have:=LG (L:=L.take k.toNat) λy hy=>h y (ll hy);unfold ps;omega
theorem bG (h0:0<=k) (h:k<L.length):rd L k∈L:=by
 unfold rd;rw[ai,av G];exact lu _
theorem JM {s L:AH} (hL: ∀x∈L,0<x) (hs:L.sum<=s.length): ∀k:Nat,k<=L.length->(iQ s L k).flatten=s.take (ps L k).toNat
 |0,_=>rfl
 |k+1,hk=>by
  have h0:(0:Int)<=(k:Int):=G
  have po:(k:Int)<L.length:=G
  have hp:=IJ hL k;have hr:=hL _ (bG h0 po);have e:((k+1:Nat):Int)=(k:Int)+1:=G
  rw[e,wZ h0,mh,JM hL hs k G,mP h0 po,show(ps L k+rd L k).toNat=(ps L k).toNat+(rd L k).toNat by omega,Jg];simp
theorem aCl: ∀(f:Nat) (s:AH),∀x∈SL f s,0<x
 |0,s,x,h=>by cases h
 | f+1,s,x,h=>by
  unfold SL at h;cases s with
  |nil=>cases h
  | cons a s=>
   simp only[Eb,xh,yj] at h;rcases jd.1 h with rfl|h
   ·have:=sI (s:=a::s) cD (a::s).length cD;omega
   ·exact aCl f _ x h
theorem sK (s:AH): ∀x∈dS s,0<x:=aCl _ _
theorem aCk: ∀(f:Nat) (s:AH),s.length<=f->(SL f s).sum=s.length
 |0,s,h=>by
  have:s=[]:=Av.1 G;subst this;rfl
 | f+1,s,h=>by
  unfold SL;cases s with
  |nil=>rfl
  |cons a s=>
   simp only[Eb,xh,yj];have h1:=sI (s:=a::s) cD (a::s).length cD;have h2:=UT (a::s) (a::s).length;rw[uo,aCk f _ (by rw[bn];omega),bn];omega
theorem FK (s:AH):(dS s).sum=s.length:=aCk _ _ (ed _)
theorem FM (s:AH):(dS s).length<=s.length:=by
 have:=LG (sK s);have:=FK s;omega
theorem bHj (s:AH) (k:Int):ps (dS s) k<=s.length:=by
 have:=ZU (sK s) k.toNat;have:=FK s;unfold ps;omega
def bws (s:AH):AD:=iQ s (dS s) (dS s).length
theorem oJ (s:AH):(bws s).flatten=s:=by
 unfold bws;rw[JM (sK s) (by rw[FK];omega) _ (ed _),aGj (ni _),FK];simp
theorem aMj (s:AH):(bws s).length=(dS s).length:=by unfold bws;rw[vI];omega
theorem GI (hp:l.Perm (gG ws ws.length)):l.length=ws.flatten.length:=by
 rw[hp.length_eq,yZ ws _ (ed _)];unfold pF;rw[qc]
theorem GC (hp:l.Perm (gG (bws s) (bws s).length)):l.length=s.length:=by rw[GI hp,oJ]
def lastB (ws:AD) (t:Int × Int):Int:=rd (rdl ws t.1) ((t.2+(rdl ws t.1).length-1)%((rdl ws t.1).length:Int))
theorem aPr {t:Int × Int} (h:TV ws t):lastB ws t∈ws.flatten:=by
 obtain⟨a,b,c,d⟩:=h;have hn:(0:Int)<(rdl ws t.1).length:=G
 have h1:=jv (t.2+(rdl ws t.1).length-1) (Int.ne_of_gt hn);have h2:=jf (t.2+(rdl ws t.1).length-1) hn;exact uf.2 ⟨_,bDj a b,bG h1 h2⟩
theorem lL (hp:l.Perm (gG ws ws.length)) (hb:aO ws.flatten):aO (l.map (lastB ws)):=by
 intro x hx;obtain⟨t,ht,rfl⟩:=ii.1 hx;exact hb _ (aPr (tO.1 (hp.subset ht)))
end
section
variable {l ks order keys at_:AH} {n:Nat} {i k c x m:Int}
theorem bI {m:AH} (hl:l.length=m.length) (h: ∀j:Int,0<=j->j<l.length->rd l j=rd m j):l=m:=by
 apply ul hl;intro i h1 h2;have:=h i G G;unfold rd at this;rw[dh,ai,ai,av h1,av h2] at this;exact this
theorem iT {f:Nat->Int} (h0:0<=i) (h:i<n):rd ((List.range n).map f) i=f i.toNat:=by
 unfold rd;rw[ai,lq,zi G];rfl
theorem qY:rd (List.replicate n 0) i=0:=by
 unfold rd;rw[ai,zf];split<;>rfl
def fI (ks:AH) (k:Int):AH:=(List.range k.toNat).map λc:Nat=>((ks.filter λx=>decide (x=(c:Int))).length:Int)
theorem eO (ks:AH) (k:Int):(fI ks k).length=k.toNat:=by simp[fI]
theorem aDp (k:Int):fI [] k=List.replicate k.toNat 0:=by
 unfold fI;simp only[List.filter_nil,il];apply ul cD;intro i h1 h2;simp
theorem EE (h0:0<=c) (h:c<k):rd (fI ks k) c=((ks.filter λx=>decide (x=c)).length:Int):=by
 unfold fI;rw[iT h0 G];rw[show((c.toNat:Nat):Int)=c by omega]
theorem VK (h0:0<=x) (h:x<k):upd (fI ks k) x (rd (fI ks k) x+1)=fI (ks++[x]) k:=by
 refine bI (by rw[aY,eO,eO]) λj h1 h2=> ?_;rw[aY,eO] at h2;rw[gV h0 h1 (by rw[eO];omega),EE (ks:=ks++[x]) h1 G,uk,ah];by_cases e:j=x
 ·subst e;rw[dm rfl,EE h1 G];simp
 ·rw [df e,EE h1 G]
  have:([x].filter λy=>decide (y=j))=[]:=by
   rw[lh (by simp;exact λh=>e h.symm)];rfl
  rw[this];simp
def dO (cs:AH):AH:=(List.range cs.length).map λi:Nat=>ps cs i
theorem gH (cs:AH):(dO cs).length=cs.length:=by simp[dO]
theorem oW {cs:AH} (h0:0<=i) (h:i<cs.length):rd (dO cs) i=ps cs i:=by
 unfold dO;rw[iT h0 h];rw[show((i.toNat:Nat):Int)=i by omega]
def eH (order keys:AH) (c:Int):AH:=order.filter λi=>decide (rd keys i=c)
def dD (order keys:AH):Nat->AH
 |0=>[]
 |c+1=>dD order keys c++eH order keys c
theorem mQ (h:rd keys i=c):eH (order++[i]) keys c=eH order keys c++[i]:=by
 unfold eH;rw[uk,pg (by simpa using h)];rfl
theorem pG (h:rd keys i≠c):eH (order++[i]) keys c=eH order keys c:=by
 unfold eH;rw[uk,lh (by simpa using h)];simp
theorem AQ (order keys:AH) (c:Int) (m:Nat):(eH (order.take m) keys c).length<=(eH order keys c).length:=
 ((List.take_sublist m order).filter _).length_le
theorem aRp (order keys:AH) (h0:0<=c) (h:c<k):rd (fI (order.map (rd keys)) k) c=(eH order keys c).length:=by
 rw[EE h0 h,List.filter_map,bu];rfl
theorem IM (order keys:AH) {k:Int}: ∀c:Nat,(c:Int)<=k->ps (fI (order.map (rd keys)) k) c=(dD order keys c).length
 |0,_=>rfl
 |c+1,h=>by
  rw[show((c+1:Nat):Int)=(c:Int)+1 by omega,mP G (by rw[eO];omega),IM order keys c G,aRp order keys G G];rw[dD,ah];omega
theorem BM (order keys:AH) {c d:Nat} (h:c<d):(dD order keys c).length+(eH order keys c).length<=(dD order keys d).length:=by
 induction d with
 |zero=>omega
 | succ d ih=>
  rw[dD,ah];rcases gp c d with a|a
  ·have:=ih a;omega
  ·have:c=d:=G
   subst this;omega
theorem oZ {order:AH} {k:Nat} (hk: ∀i∈order,0<=rd keys i/\rd keys i<k):(dD order keys k).Perm order:=by
 have gen: ∀c:Nat,(dD order keys c).Perm (order.filter λi=>decide (0<=rd keys i/\rd keys i<c)):=by
  intro c
  induction c with
  | zero=>
   have:(order.filter λi=>decide (0<=rd keys i/\rd keys i<(0:Nat)))=[]:=by
    rw[List.filter_eq_nil_iff];intro i _;simp only[yh];omega
   rw[this];exact .refl _
  | succ c ih=>
   rw[dD];refine(ih.append_right _).trans ?_;unfold eH
   have e:order.filter (λi=>decide (rd keys i=(c:Int)))=(order.filter λi=>decide (0<=rd keys i/\rd keys i<(c+1:Nat))).filter (λi=> ! decide (0<=rd keys i/\rd keys i<(c:Int))):=by
    rw[List.filter_filter];refine List.filter_congr λi _=> ?_;by_cases h:rd keys i=(c:Int)
    ·rw [ky h,ky (show 0<=rd keys i/\rd keys i<((c+1:Nat):Int) by omega),nk (show¬(0<=rd keys i/\rd keys i<(c:Int)) by omega)];rfl
    ·rw [nk h];by_cases h2:0<=rd keys i/\rd keys i<(c:Int)
     ·rw[ky h2];simp
     ·rw[nk (show¬(0<=rd keys i/\rd keys i<((c+1:Nat):Int)) by omega)];simp
   have e2:order.filter (λi=>decide (0<=rd keys i/\rd keys i<(c:Nat)))=(order.filter λi=>decide (0<=rd keys i/\rd keys i<(c+1:Nat))).filter (λi=>decide (0<=rd keys i/\rd keys i<(c:Int))):=by
    rw[List.filter_filter];refine List.filter_congr λi _=> ?_;by_cases h2:0<=rd keys i/\rd keys i<(c:Int)
    ·rw[ky h2,ky (show 0<=rd keys i/\rd keys i<((c+1:Nat):Int) by omega)];rfl
    ·rw[nk h2];rfl
   rw[e,e2];exact List.filter_append_perm _ _
 have:=gen k;rwa[Cn.2 (λi hi=>by rw[jb];exact hk i hi)] at this
theorem aBd {order keys l:AH}: ∀k:Nat,(dD order keys k).length<=l.length->(∀c:Nat,c<k-> ∀t:Nat,t<(eH order keys c).length->rd l ((dD order keys c).length+t)=rd (eH order keys c) t)->l.take (dD order keys k).length=dD order keys k
 |0,_,_=>rfl
 |k+1,hl,h=>by
  have ih:=aBd (order:=order) (keys:=keys) (l:=l) k (by rw[dD,ah] at hl;omega) λc hc=>h c G;rw[dD,ah] at hl ⊢;rw[Jg,ih];congr 1;refine bI (by rw[ax,bn];omega) λj h1 h2=> ?_;rw[ax,bn] at h2;have:=h k G j.toNat G;rw[show((j.toNat:Nat):Int)=j by omega] at this;rw[<-this];unfold rd;rw[ai,ai,qb,dm G,sj];congr 2;omega
structure GM (order keys at_ l:AH) (k:Int) (m:Int):Prop where
 len:l.length=order.length
 alen:at_.length=k.toNat
 at_: ∀c:Int,0<=c->c<k->rd at_ c=(dD order keys c.toNat).length+(eH (order.take m.toNat) keys c).length
 row: ∀c:Int,0<=c->c<k-> ∀t:Int,0<=t->t<(eH (order.take m.toNat) keys c).length->rd l ((dD order keys c.toNat).length+t)=rd (eH (order.take m.toNat) keys c) t
theorem aGl:GM order keys (dO (fI (order.map (rd keys)) k)) (List.replicate order.length 0) k 0:=by
 refine⟨cD,by rw[gH,eO],λc h0 h=> ?_,λc _ _ t _ ht=> ?_⟩
 ·rw [oW h0 (by rw[eO];omega)];have:=IM order keys (k:=k) c.toNat G;rw[show((c.toNat:Nat):Int)=c by omega] at this;rw[this];simp[eH]
 ·simp [eH] at ht;omega
theorem zL {order:AH} (hk: ∀i∈order,0<=rd keys i/\rd keys i<k):(dD order keys k.toNat).length=order.length:=(oZ (k:=k.toNat) λi hi=>by have:=hk i hi;omega).length_eq
theorem GM.lt {order:AH} (h:GM order keys at_ l k m) (hk: ∀i∈order,0<=rd keys i/\rd keys i<k) (h0:0<=m) (hm:m<order.length):0<=rd at_ (rd keys (rd order m))/\rd at_ (rd keys (rd order m))<l.length:=by
 have hi:=hk _ (bG h0 hm);rw[h.at_ _ hi.1 hi.2,h.len];have e:order.take (m+1).toNat=order.take m.toNat++[rd order m]:=dJ h0 hm;have h1:=AQ order keys (rd keys (rd order m)) (m+1).toNat;rw[e,mQ rfl,ah,ic] at h1;have h2:=BM order keys (c:=(rd keys (rd order m)).toNat) (d:=k.toNat) G;rw[zL hk,show(((rd keys (rd order m)).toNat:Nat):Int)=rd keys (rd order m) by omega] at h2;omega
theorem GM.step {order:AH} (h:GM order keys at_ l k m) (hk: ∀i∈order,0<=rd keys i/\rd keys i<k) (h0:0<=m) (hm:m<order.length):GM order keys (upd at_ (rd keys (rd order m)) (rd at_ (rd keys (rd order m))+1)) (upd l (rd at_ (rd keys (rd order m))) (rd order m)) k (m+1):=by
 have hi:=hk _ (bG h0 hm);have br:=h.lt hk h0 hm;have e:order.take (m+1).toNat=order.take m.toNat++[rd order m]:=dJ h0 hm;have rh:=h.at_ _ hi.1 hi.2;refine⟨by rw[aY];exact h.len,by rw[aY];exact h.alen,λc c0 c1=> ?_,λc c0 c1 t t0 t1=> ?_⟩
 ·rw [gV hi.1 c0 (by rw[h.alen];omega),e];by_cases hc:c=rd keys (rd order m)
  ·rw [dm hc,rh,mQ hc.symm,ah,hc];simp only[ic];omega
  ·rw[df hc,h.at_ c c0 c1,pG λh=>hc h.symm]
 ·rw [e] at t1 ⊢;have Qd: ∀c:Int,(eH (order.take m.toNat++[rd order m]) keys c).length<=(eH order keys c).length:=λc=>by rw[<-e];exact AQ _ _ _ _
  rw[gV br.1 G br.2,rh];by_cases hc:c=rd keys (rd order m)
  ·subst hc;rw[mQ rfl] at t1 ⊢;rw[ah,ic] at t1;by_cases ht:t=(eH (order.take m.toNat) keys (rd keys (rd order m))).length
   ·rw[dm G,SH ht]
   ·rw [df G,OH t0 G];exact h.row _ c0 c1 t t0 G
  ·rw [pG λh=>hc h.symm] at t1 ⊢;rw[df,h.row c c0 c1 t t0 t1];intro Fk;have f1:=Qd c;rw[pG λh=>hc h.symm] at f1;have f2:=Qd (rd keys (rd order m));rw[mQ rfl,ah,ic] at f2;rcases Int.lt_or_lt_of_ne hc with a|a
   ·have:=BM order keys (c:=c.toNat) (d:=(rd keys (rd order m)).toNat) G;rw[show((c.toNat:Nat):Int)=c by omega] at this;omega
   ·have:=BM order keys (c:=(rd keys (rd order m)).toNat) (d:=c.toNat) G;rw[show(((rd keys (rd order m)).toNat:Nat):Int)=rd keys (rd order m) by omega] at this;omega
theorem GM.done {order:AH} (h:GM order keys at_ l k m) (hk: ∀i∈order,0<=rd keys i/\rd keys i<k) (hm:m=order.length):l=dD order keys k.toNat:=by
 have ht:order.take m.toNat=order:=bg G
 have:=aBd (order:=order) (keys:=keys) (l:=l) k.toNat (by rw[zL hk,h.len];exact ed _) λc hc t Zo=>by
  have hr:=h.row c G G t G;rw[ht] at hr;exact hr G
 rw[zL hk,<-h.len,qc] at this;exact this
theorem iV {order keys:AH} {r:Int->Int->Prop} (ho:order.Pairwise r): ∀k:Nat,(dD order keys k).Pairwise λx y=>rd keys x<rd keys y\/rd keys x=rd keys y/\r x y
 |0=> .nil
 | k +1=>by
  rw[dD];refine ku.2 ⟨iV ho k,?_,λx hx y hy=> ?_⟩
  ·refine ((ho.sublist (ut ..)).imp_of_mem λ{x y} hx hy h=> ?_:(eH order keys k).Pairwise _);have h1:=(ow.1 hx).2;have h2:=(ow.1 hy).2;rw[jb] at h1 h2;exact .inr ⟨G,h⟩
  ·have h2:=(ow.1 hy).2;rw[jb] at h2
   have: ∀c:Nat,∀z∈dD order keys c,rd keys z<c:=by
    intro c
    induction c with
    |zero=>intro z hz;cases hz
    | succ c ih=>
     intro z hz;rw[dD] at hz;rcases ek.1 hz with hz|hz
     ·have:=ih z hz;omega
     ·have h3:=(ow.1 hz).2;rw[jb] at h3;omega
   have:=this k x hx;exact .inl G
theorem QN:0<=rd (fI ks k) x/\rd (fI ks k) x<=ks.length:=by
 by_cases h:x.toNat<k.toNat
 ·have e:rd (fI ks k) x=((ks.filter λy=>decide (y=(x.toNat:Int))).length:Int):=by
   unfold rd fI;rw[ai,lq,zi h];rfl
  have:=ym (λy=>decide (y=(x.toNat:Int))) ks;omega
 ·have e:rd (fI ks k) x=0:=by
   unfold rd;rw[ai,ng (by rw[eO];omega)];rfl
  omega
theorem BF: ∀ {L:AH},(∀x∈L,0<=x)->0<=L.sum
 |[],_=>cD
 |x::L,h=>by
  have a:=h x cD;have b:=BF (L:=L) λy hy=>h y (gm _ hy);rw[uo];omega
theorem xQ {L:AH} (h: ∀x∈L,0<=x) (k:Int):0<=ps L k/\ps L k<=L.sum:=by
 have e:L.sum=(L.take k.toNat).sum+(L.drop k.toNat).sum:=by rw[<-Db,gz]
 have a:=BF (L:=L.take k.toNat) λy hy=>h y (ll hy);have b:=BF (L:=L.drop k.toNat) λy hy=>h y (nu hy);unfold ps;omega
theorem nJ (ks:AH) (k:Int): ∀x∈fI ks k,0<=x:=by
 intro x hx;obtain⟨c,_,rfl⟩:=ii.1 hx;omega
theorem QM {order:AH} (h0:0<=k) (hk: ∀i∈order,0<=rd keys i/\rd keys i<k):(fI (order.map (rd keys)) k).sum=order.length:=by
 have:=IM order keys (k:=k) k.toNat G;rw[aGj (by rw[eO];omega),zL hk] at this;exact this
theorem fH {V:AH} {f:Int->Int} {v:Int} (h0:0<=i) (hi:i<V.length) (h: ∀j:Int,0<=j->j<i->rd V j=f j) (hv:v=f i): ∀j:Int,0<=j->j<i+1->rd (upd V i v) j=f j:=by
 intro j j0 j1;rw[gV h0 j0 hi];by_cases e:j=i
 ·rw[dm e,e,hv]
 ·rw [df e];exact h j j0 G
end
section
variable {n k b h:Nat} {x i y j:Int} {s U out:AH}
def iota (n:Nat):AH:=(List.range n).map λi:Nat=>(i:Int)
theorem bA (n:Nat):(iota n).length=n:=by simp[iota]
theorem aZ:x∈iota n↔0<=x/\x<n:=by
 unfold iota;rw[ii];constructor
 ·rintro ⟨i,hi,rfl⟩;have:=jy.1 hi;omega
 ·intro h;exact⟨x.toNat,jy.2 G,G⟩
theorem IV {n:Int} (h:0<=n):iota (n+1).toNat=iota n.toNat++[n]:=by
 unfold iota;rw[show(n+1).toNat=n.toNat+1 by omega,zz,jc];simp only[jm,rz];rw[show((n.toNat:Nat):Int)=n by omega]
theorem aHe (n:Nat):(iota n).map Int.toNat=List.range n:=by
 unfold iota;rw[ql];have:(Int.toNat ∘ λi:Nat=>(i:Int))=id:=by funext i;simp
 rw[this,Ko]
def bV (s:AH) (x y:Int):Prop:=LtH s.length (eu s x.toNat) (eu s y.toNat)
theorem gW (x y:Int) (h:bV s x y): ¬bV s y x:=h.asymm
theorem BN (x y z:Int) (h:bV s x y) (h':bV s y z):bV s x z:=LtH.trans h h'
theorem aHu {i:Nat} (hi:i<s.length) (hk:k<s.length) (h:EqH s.length (eu s i) (eu s k)):i=k:=by
 rcases wu i k with a|a|a
 ·have:=h (s.length-k) G;rw[jZ (s:=s) (i:=k) G] at this;have:=uG (s:=s) (i:=i) (d:=s.length-k) G;omega
 ·exact a
 ·have:=h (s.length-i) G;rw[jZ (s:=s) (i:=i) G] at this;have:=uG (s:=s) (i:=k) (d:=s.length-i) G;omega
theorem EJ (hx:0<=x/\x<s.length) (hy:0<=y/\y<s.length) (h:x≠y):bV s x y\/bV s y x:=by
 rcases tri s.length (eu s x.toNat) (eu s y.toNat) with a|a|a
 ·exact .inl a
 ·have:=aHu G G a;omega
 ·exact .inr a
theorem iI:cmpL (s.drop x.toNat) (s.drop y.toNat)<0↔bV s x y:=by
 unfold bV;rw[<-yO];unfold uW;rw[bg (by rw[bn];omega),bg (by rw[bn];omega)]
theorem aBz {r:Int->Int->Prop} (tr: ∀x y z,r x y->r y z->r x z) {l:AH} (hs:l.Pairwise r) (tj:0<=j) (hj:j<=l.length) (yv: ∀i:Int,j<=i->i<l.length->r x (rd l i)) (h:0<j->r (rd l (j-1)) x):(l.take j.toNat++[x]++l.drop j.toNat).Pairwise r:=by
 have gg: ∀i:Nat,∀h:i<l.length,rd l i=l[i]:=λi h=>by
  unfold rd;rw[dh,ai,av h];rfl
 have en:(l.take j.toNat++l.drop j.toNat).Pairwise r:=by rw[gz];exact hs
 obtain⟨a,b,c⟩:=ku.1 en;refine ku.2 ⟨ku.2 ⟨a,qi _ _,λy hy z hz=> ?_⟩,b,λy hy z hz=> ?_⟩
 ·obtain rfl:=ig.1 hz;obtain⟨i,hi,rfl⟩:=ib.1 hy;rw[ax] at hi;rw[wo];have hl:=h G;rw[show j-1=((j.toNat-1:Nat):Int) by omega,gg _ G] at hl;rcases gp i (j.toNat-1) with d|d
  ·exact tr _ _ _ (dz.1 hs i (j.toNat-1) G G d) hl
  ·have:i=j.toNat-1:=G
   subst this;exact hl
 ·rcases ek.1 hy with hy|hy
  ·exact c y hy z hz
  ·obtain rfl:=ig.1 hy;obtain⟨i,hi,rfl⟩:=ib.1 hz;rw[bn] at hi;rw[Af];have:=yv ((j.toNat+i:Nat):Int) G G;rwa[gg _ G] at this
theorem aYc (aw:0<=i) (hi:i<s.length) (hp:U.Perm (iota i.toNat)) (hs:U.Pairwise (bV s)) (tj:0<=j) (hj:j<=U.length) (yv: ∀q:Int,j<=q->q<U.length->bV s i (rd U q))
  (h: ¬(0<j/\cmpL (s.drop i.toNat) (s.drop (rd U (j-1)).toNat)<0)):(U.take j.toNat++[i]++U.drop j.toNat).Perm (iota (i+1).toNat)/\(U.take j.toNat++[i]++U.drop j.toNat).Pairwise (bV s):=by
 refine⟨?_,aBz (λx y z=>BN x y z) hs tj hj yv λh0=> ?_⟩
 ·rw [IV aw];exact aBy.trans (zl _ hp)
 ·have hm:=aZ.1 (hp.subset (bG (L:=U) (k:=j-1) G G));rcases EJ (s:=s) (x:=rd U (j-1)) (y:=i) G G G with a|a
  ·exact a
  ·exact absurd ⟨h0,iI.2 a⟩ h
theorem aQa (yv: ∀q:Int,j<=q->q<U.length->bV s i (rd U q)) (h:0<j/\cmpL (s.drop i.toNat) (s.drop (rd U (j-1)).toNat)<0): ∀q:Int,j-1<=q->q<U.length->bV s i (rd U q):=by
 intro q h1 h2;rcases cz q j with a|a
 ·have:q=j-1:=G
  subst this;exact iI.1 h.2
 ·exact yv q a h2
theorem vT {a b:AH} (ha:a.Perm (iota s.length)) (hb:b.Perm (iota s.length)) (sa:a.Pairwise (bV s)) (sb:b.Pairwise (bV s)):a=b:=
 IP gW (ha.trans hb.symm) sa sb
theorem DW {i:Nat} (hi:i<s.length):rkS s h i<s.length:=by
 have:rkS s h i<(List.range s.length).countP λ_=>true:=uI (λ_ _ _=>rfl) ⟨i,jy.2 hi,by rw[uh,yO];exact λh=>h.asymm h,rfl⟩;simpa using this
theorem bDe {i:Nat} (hi:i<s.length) (hk:k<s.length) (h:rkS s s.length i=rkS s s.length k):i=k:=aHu hi hk ((aKd hi hk).1 h)
theorem aKc {o:AH} (hp:o.Perm (iota s.length)) (hs:o.Pairwise λx y=>rkS s h x.toNat<=rkS s h y.toNat) (h0:0<=i) (hi:i<o.length) (Se:0<i->rkS s h (rd o (i-1)).toNat≠rkS s h (rd o i).toNat):(rkS s h (rd o i).toNat:Int)=i:=by
 have gg: ∀j:Nat,∀h:j<(o.map Int.toNat).length,(o.map Int.toNat)[j]=(rd o j).toNat:=λj h=>by
  rw[bu] at h;unfold rd;rw[dh,ai,av h];simp
 have hl:i.toNat<(o.map Int.toNat).length:=by rw[bu];omega
 have cr:(o.map Int.toNat).Perm (List.range s.length):=by
  have:=hp.map Int.toNat;rwa[aHe] at this
 have:=bJl (s:=s) (h:=h) (o:=o.map Int.toNat) (i:=i.toNat) cr (ik.2 hs) hl λhz=>by
  rw[gg _ G,gg _ hl];have:=Se G;rwa[show((i.toNat-1:Nat):Int)=i-1 by omega,show((i.toNat:Nat):Int)=i by omega]
 rw[gg _ hl,show((i.toNat:Nat):Int)=i by omega] at this;omega
theorem places {b:AH} (hp:b.Perm (iota s.length)) (hs:b.Pairwise (bV s)) (hl:out.length=s.length) (h: ∀i:Nat,i<s.length->rd out (rkS s s.length i)=i):out=b:=by
 have j9:b.length=s.length:=by rw[hp.length_eq,bA]
 refine bI (hl.trans j9.symm) λj h0 h1=> ?_;have hm: ∀q:Int,0<=q->q<b.length->0<=rd b q/\rd b q<s.length:=λq a c=>aZ.1 (hp.subset (bG a c))
 have nw:b.Pairwise λx y=>rkS s s.length x.toNat<=rkS s s.length y.toNat:=hs.imp_of_mem λ{x y} hx hy h=>by
  have:=aZ.1 (hp.subset hx);exact Nat.le_of_lt ((xL G).2 h)
 have br: ∀q:Int,0<q->q<b.length->bV s (rd b (q-1)) (rd b q):=λq a c=>by
  have:=dz.1 hs (q-1).toNat q.toNat G G G;unfold rd;rw[ai,ai,av G,av G];exact this
 have hr:=aKc (i:=j) hp nw h0 G λhz=>by
  have:=(xL (by have:=hm (j-1) G G;omega)).2 (br j hz G);omega
 have hj:=hm j h0 G;have:=h (rd b j).toNat G;rw[hr] at this;rw[this];omega
theorem aAv {m:Nat} (hm:m<s.length) (hl:out.length=s.length) (h: ∀i:Nat,i<m->rd out (rkS s s.length i)=i): ∀i:Nat,i<m+1->rd (upd out (rkS s s.length m) m) (rkS s s.length i)=i:=by
 intro i hi;have ht:=DW (h:=s.length) hm;rw[gV G G G];by_cases e:i=m
 ·subst e;rw[dm rfl]
 ·rw[df λhh=>e (bDe G hm G),h i G]
theorem bJk {i:Nat} (hi:i<s.length):rkS s 1 i=s.countP λx=>decide (x<lt s i):=by
 unfold rkS
 have e: ∀k,k<s.length->uW s k 1=[lt s k]:=λk hk=>by
  unfold uW;rw[mf hk,List.take_succ_cons,zb];unfold lt;rw[ai,av hk];rfl
 have h1:(List.range s.length).countP (λk=>decide (cmpL (uW s k 1) (uW s i 1)<0))=(List.range s.length).countP ((λx=>decide (x<lt s i)) ∘ lt s):=by
  refine Ik λk hk=> ?_;rw[e k (jy.1 hk),e i hi];show decide (cmpL [lt s k] [lt s i]<0)=true↔decide (lt s k<lt s i)=true;rw[jb,jb];simp only[cmpL];by_cases a:lt s k<lt s i
  ·rw [dm a];exact⟨λ_=>a,λ_=>G⟩
  ·rw [df a];by_cases b:lt s i<lt s k
   ·rw [dm b];exact⟨λh=>G,λh=>absurd h a⟩
   ·rw [df b];exact⟨λh=>G,λh=>absurd h a⟩
 rw[h1,<-List.countP_map];congr 1;apply ul cD;intro k h1 h2;simp[lt,ai,av h2]
def rkL (s:AH) (h:Nat):AH:=(List.range s.length).map λi=>(rkS s h i:Int)
theorem DY (s:AH) (h:Nat):(rkL s h).length=s.length:=by simp[rkL]
theorem sD (h0:0<=i) (hi:i<s.length):rd (rkL s h) i=rkS s h i.toNat:=iT h0 G
def onL (s:AH) (n b:Nat):AH:=(List.range s.length).map λi=>(uN s n (i+b):Int)
theorem aKt (s:AH) (n b:Nat):(onL s n b).length=s.length:=by simp[onL]
theorem xM (h0:0<=i) (hi:i<s.length):rd (onL s n b) i=uN s n (i.toNat+b):=iT h0 G
theorem aKe {i:Nat}:uN s n i<=s.length:=by
 unfold uN;split
 ·rename_i h;have:=DW (h:=n) h;omega
 ·omega
def dM (s:AH) (n b:Nat):AH:=dD (dD (iota s.length) (onL s n b) (s.length+1)) (rkL s n) s.length
theorem vV (s:AH) (n b:Nat):(dD (iota s.length) (onL s n b) (s.length+1)).Perm (iota s.length):=
 oZ λi hi=>by
  have:=aZ.1 hi;rw[xM this.1 this.2];have:=aKe (s:=s) (n:=n) (i:=i.toNat+b);omega
theorem gX (s:AH) (n b:Nat):(dM s n b).Perm (iota s.length):=
 (oZ λi hi=>by
  have:=aZ.1 ((vV s n b).subset hi);rw[sD this.1 this.2];have:=DW (s:=s) (h:=n) (i:=i.toNat) G
  omega).trans (vV s n b)
theorem KA (hn:0<n) (hb:b<=n):(dM s n b).Pairwise λx y=>rkS s (n+b) x.toNat<=rkS s (n+b) y.toNat:=by
 have h1:(dD (iota s.length) (onL s n b) (s.length+1)).Pairwise λx y=>rd (onL s n b) x<rd (onL s n b) y\/rd (onL s n b) x=rd (onL s n b) y/\True:=
  iV (r:=λ_ _=>True) (List.pairwise_of_forall λ_ _=>trivial) _
 have h2:=iV (keys:=rkL s n) h1 s.length;refine h2.imp_of_mem λ{x y} hx hy h=> ?_;have mx:=aZ.1 ((gX s n b).subset hx);have my:=aZ.1 ((gX s n b).subset hy);rw[sD mx.1 mx.2,sD my.1 my.2,xM mx.1 mx.2,xM my.1 my.2] at h;refine Jw.1 λbr=> ?_;rw[aFy hn hb G G] at br;omega
theorem join_step {v:Int} (hn:0<n) (hb:b<=n) (h0:0<=i) (hi:i<s.length) (hl:out.length=s.length) (h: ∀p:Int,0<=p->p<i->rd out (rd (dM s n b) p)=rkS s (n+b) (rd (dM s n b) p).toNat)
  (hv:(0<i/\rd (rkL s n) (rd (dM s n b) (i-1))=rd (rkL s n) (rd (dM s n b) i)/\rd (onL s n b) (rd (dM s n b) (i-1))=rd (onL s n b) (rd (dM s n b) i)/\v=rkS s (n+b) (rd (dM s n b) (i-1)).toNat)\/
   (¬(0<i/\rd (rkL s n) (rd (dM s n b) (i-1))=rd (rkL s n) (rd (dM s n b) i)/\rd (onL s n b) (rd (dM s n b) (i-1))=rd (onL s n b) (rd (dM s n b) i))/\v=i)):
  ∀p:Int,0<=p->p<i+1->rd (upd out (rd (dM s n b) i) v) (rd (dM s n b) p)=rkS s (n+b) (rd (dM s n b) p).toNat:=by
 have hlen:(dM s n b).length=s.length:=by rw[(gX s n b).length_eq,bA]
 have hm: ∀q:Int,0<=q->q<s.length->0<=rd (dM s n b) q/\rd (dM s n b) q<s.length:=λq a c=>aZ.1 ((gX s n b).subset (bG a G))
 have hnd:(dM s n b).Nodup:=(gX s n b).symm.nodup (by
  unfold iota
  exact ik.2 (xu.imp λ{x y} h hh=>h G))
 have hval:v=rkS s (n+b) (rd (dM s n b) i).toNat:=by
  have mi:=hm i h0 hi;rcases hv with⟨hz,e1,e2,e3⟩|⟨vi,e3⟩
  ·have mp:=hm (i-1) G G;rw[sD mp.1 mp.2,sD mi.1 mi.2] at e1;rw[xM mp.1 mp.2,xM mi.1 mi.2] at e2;rw[e3];have:=(NV (s:=s) (n:=n) (b:=b) (i:=(rd (dM s n b) (i-1)).toNat) (k:=(rd (dM s n b) i).toNat) hn hb G G).2 ⟨G,G⟩;omega
  ·rw [e3];refine(aKc (gX s n b) (KA hn hb) h0 G λhz he=>vi ⟨hz,?_⟩).symm;have mp:=hm (i-1) G G;have:=(NV (s:=s) (n:=n) (b:=b) (i:=(rd (dM s n b) (i-1)).toNat) (k:=(rd (dM s n b) i).toNat) hn hb G G).1 he;rw[sD mp.1 mp.2,sD mi.1 mi.2,xM mp.1 mp.2,xM mi.1 mi.2];exact⟨G,G⟩
 intro p p0 p1;have mi:=hm i h0 hi;have mp:=hm p p0 G;rw[gV mi.1 mp.1 G];by_cases e:p=i
 ·subst e;rw[dm rfl,hval]
 ·rw [df,h p p0 G];intro he;have cr:p.toNat<(dM s n b).length:=G
  have Tc:i.toNat<(dM s n b).length:=G
  unfold rd at he;rw[ai,ai,av cr,av Tc] at he;simp only[qd] at he;exact(dz.1 hnd p.toNat i.toNat cr Tc G) he
theorem aPw (hl:out.length=s.length) (h: ∀p:Int,0<=p->p<s.length->rd out (rd (dM s n b) p)=rkS s (n+b) (rd (dM s n b) p).toNat):out=rkL s (n+b):=by
 refine bI (hl.trans (DY _ _).symm) λj h0 h1=> ?_;have ft:=(gX s n b).symm.subset (aZ.2 ⟨h0,G⟩:j∈iota s.length);obtain⟨q,hq,e⟩:=ib.1 ft;have hlen:(dM s n b).length=s.length:=by rw[(gX s n b).length_eq,bA]
 have:=h q G G
 have e2:rd (dM s n b) q=j:=by
  unfold rd;rw[dh,ai,av hq];exact e
 rw[e2] at this;rw[this,sD h0 G]
end
def onF (l:AH) (i h:Int):Int:=if (l.length:Int)<=i+h then 0 else rd l (i+h)+1
theorem bKa {s:AH} {n b:Nat} {i:Int} (h0:0<=i) (hi:i<s.length):onF (rkL s n) i b=uN s n (i.toNat+b):=by
 unfold onF uN;rw[DY];by_cases h:(s.length:Int)<=i+b
 ·rw [dm h,df G];rfl
 ·rw [df h,dm G,sD G G,show(i+(b:Int)).toNat=i.toNat+b by omega];rfl
theorem aUr {s:AH} {h:Nat}: ∀x∈rkL s h,0<=x/\x<s.length:=by
 intro x hx;obtain⟨i,hi,rfl⟩:=ii.1 hx;have:=DW (h:=h) (jy.1 hi);omega
theorem bJz {s:AH} {n b:Nat}: ∀x∈onL s n b,0<=x/\x<(s.length:Int)+1:=by
 intro x hx;obtain⟨i,hi,rfl⟩:=ii.1 hx;have:=aKe (s:=s) (n:=n) (i:=i+b);omega
theorem aLf {O:AH} {n:Nat} (hl:O.length=n) (h: ∀j:Int,0<=j->j<n->rd O j=j):O=iota n:=by
 refine bI (by rw[hl,bA]) λj h0 h1=> ?_;rw[h j h0 G];unfold iota;rw[iT h0 G];omega
theorem bJy {s O:AH} {n b:Nat} (hl:O.length=s.length) (h: ∀j:Int,0<=j->j<s.length->rd O j=uN s n (j.toNat+b)):O=onL s n b:=by
 refine bI (by rw[hl,aKt]) λj h0 h1=> ?_;rw[h j h0 G,xM h0 G]
theorem UY (s:AH) (n b:Nat):(dM s n b).length=s.length:=by rw[(gX s n b).length_eq,bA]
theorem gY {s:AH} {n b:Nat} {p:Int} (h0:0<=p) (h:p<s.length):0<=rd (dM s n b) p/\rd (dM s n b) p<s.length:=
 aZ.1 ((gX s n b).subset (bG h0 (by rw[UY];exact h)))
theorem aPx {s:AH} {n b:Nat} {p q:Int} (p0:0<=p) (p1:p<s.length) (q0:0<=q) (q1:q<s.length) (h:rd (dM s n b) p=rd (dM s n b) q):p=q:=by
 have hl:=UY s n b
 have hnd:(dM s n b).Nodup:=(gX s n b).symm.nodup (by
  unfold iota
  exact ik.2 (xu.imp λ{x y} h hh=>h G))
 have hp:p.toNat<(dM s n b).length:=G
 have hq:q.toNat<(dM s n b).length:=G
 unfold rd at h;rw[ai,ai,av hp,av hq] at h;simp only[qd] at h;rcases jl p q with a|a|a
 ·exact absurd h (dz.1 hnd p.toNat q.toNat hp hq G)
 ·exact a
 ·exact absurd h.symm (dz.1 hnd q.toNat p.toNat hq hp G)
theorem bCd {l:AH} {i a b:Int}:upd (upd l i a) i b=upd l i b:=by simp[upd]
section
variable {s V:AH} {n b:Nat} {p:Int}
theorem aHd (hn:0<n) (hb:b<=n) (h0:0<=p) (hp:p<s.length) (hl:V.length=s.length) (h: ∀q:Int,0<=q->q<p->rd V (rd (dM s n b) q)=rkS s (n+b) (rd (dM s n b) q).toNat)
  (hc: ¬((0<p/\rd (rkL s n) (rd (dM s n b) (p-1))=rd (rkL s n) (rd (dM s n b) p))/\rd (onL s n b) (rd (dM s n b) (p-1))=rd (onL s n b) (rd (dM s n b) p))):
  ∀q:Int,0<=q->q<p+1->rd (upd V (rd (dM s n b) p) p) (rd (dM s n b) q)=rkS s (n+b) (rd (dM s n b) q).toNat:=
 join_step hn hb h0 hp hl h (.inr ⟨λ⟨a,c,d⟩=>hc ⟨⟨a,c⟩,d⟩,rfl⟩)
theorem aPv (hn:0<n) (hb:b<=n) (h0:0<=p) (hp:p<s.length) (hl:V.length=s.length) (h: ∀q:Int,0<=q->q<p->rd V (rd (dM s n b) q)=rkS s (n+b) (rd (dM s n b) q).toNat)
  (hc:(0<p/\rd (rkL s n) (rd (dM s n b) (p-1))=rd (rkL s n) (rd (dM s n b) p))/\rd (onL s n b) (rd (dM s n b) (p-1))=rd (onL s n b) (rd (dM s n b) p)):
  ∀q:Int,0<=q->q<p+1->rd (upd (upd V (rd (dM s n b) p) p) (rd (dM s n b) p) (rd (upd V (rd (dM s n b) p) p) (rd (dM s n b) (p-1)))) (rd (dM s n b) q)=rkS s (n+b) (rd (dM s n b) q).toNat:=by
 obtain⟨⟨a,c⟩,d⟩:=hc;have m1:=gY (s:=s) (n:=n) (b:=b) h0 hp;have m2:=gY (s:=s) (n:=n) (b:=b) (p:=p-1) G G;rw[bCd,gV m1.1 m2.1 G,df λe=>by have:=aPx G G h0 hp e;omega];exact join_step hn hb h0 hp hl h (.inl ⟨a,c,d,h (p-1) G G⟩)
end
theorem bDc (s:AH) (i:Nat):rkS s 0 i=0:=by
 unfold rkS;rw[Cm];intro k _;simp[uW,cmpL]
theorem aUp (s:AH):rkL s 0=List.replicate s.length 0:=by
 unfold rkL;apply ul cD;intro i h1 h2;simp[bDc]
theorem bJm {s:AH} {h:Nat} (hh:s.length<=h):rkL s h=rkL s s.length:=by
 have e: ∀k,uW s k h=uW s k s.length:=λk=>by
  unfold uW;rw[bg (by rw[bn];omega),bg (by rw[bn];omega)]
 unfold rkL rkS;simp only[e]
theorem aUq {s:AH} (h:s.length=0) (a b:Nat):rkL s a=rkL s b:=by
 unfold rkL;rw[h];rfl
theorem fB (n:Nat):(iota n).Nodup:=by
 unfold iota;exact ik.2 (xu.imp λ{x y} h hh=>h G)
theorem qZ (s:AH): ∃b:AH,b.Perm (iota s.length)/\b.Pairwise (bV s):=by
 rcases fo s.length with z|z
 ·rw [z];exact⟨[], .refl _, .nil⟩
 ·refine ⟨dM s s.length 0,gX s _ 0,?_⟩;have h1:=KA (s:=s) (n:=s.length) (b:=0) z (oz _);have h2:(dM s s.length 0).Nodup:=(gX s _ 0).symm.nodup (fB _);refine(h1.and h2).imp_of_mem λ{x y} hx hy h=> ?_;have mx:=aZ.1 ((gX s _ 0).subset hx);have my:=aZ.1 ((gX s _ 0).subset hy);rcases EJ mx my h.2 with a|a
  ·exact a
  ·exfalso;have:=(xL (s:=s) (h:=s.length) (i:=y.toNat) (k:=x.toNat) G).2 a;have:=h.1;simp only[rq] at this;omega
def smB (s:AH) (i:Int):Bool:=decide (cmpL (s.drop i.toNat) (s.drop (i+1).toNat)<0)
theorem AZ {a b:Int} {u v:AH}:cmpL (a::u) (b::v)<0↔a<b\/a=b/\cmpL u v<0:=by
 rw[cmpL];rcases jl a b with c|c|c
 ·rw[dm c];exact⟨λ_=> .inl c,λ_=>G⟩
 ·subst c;rw[df G,df G];exact⟨λh=> .inr ⟨rfl,h⟩,λh=>h.elim (λh=>G) λh=>h.2⟩
 ·rw [df G,dm c];exact⟨λh=>G,λh=>h.elim (λh=>G) λh=>G⟩
theorem iO {s:AH} {i:Int} (h0:0<=i) (h:i<s.length):s.drop i.toNat=rd s i::s.drop (i+1).toNat:=gD h0 h
theorem yN {s:AH} {i:Int} (h:(s.length:Int)<=i):s.drop i.toNat=[]:=ol G
theorem oD {s:AH} {p q:Int} (p0:0<=p) (hp:p<s.length) (q0:0<=q) (hq:q<s.length):bV s p q↔rd s p<rd s q\/rd s p=rd s q/\cmpL (s.drop (p+1).toNat) (s.drop (q+1).toNat)<0:=by
 rw[<-iI,iO p0 hp,iO q0 hq,AZ]
theorem rY {s:AH} {i:Int} (h0:0<=i) (h:(s.length:Int)<=i+1):smB s i=false:=by
 unfold smB;rw[yN h,uh];by_cases a:i<s.length
 ·rw[iO h0 a];simp[cmpL]
 ·rw[yN G];simp[cmpL]
theorem xH {s:AH} {i:Int} (h0:0<=i) (h:i+1<s.length):smB s i=true↔rd s i<rd s (i+1)\/rd s i=rd s (i+1)/\smB s (i+1)=true:=by
 unfold smB;rw[jb,jb,iO h0 G,iO (s:=s) (i:=i+1) G h,AZ]
def isL (s:AH) (p:Int):Prop:=(0<=p/\p<s.length)/\smB s p=false
def isS (s:AH) (p:Int):Prop:=(0<=p/\p<s.length)/\smB s p=true
theorem sJ {s:AH} {p:Int} (h:0<=p/\p<s.length):isL s p\/isS s p:=by
 cases e:smB s p with
 |false=>exact .inl ⟨h,e⟩
 |true=>exact .inr ⟨h,e⟩
theorem isL.not_S {s:AH} {p:Int} (h:isL s p): ¬isS s p:=λh'=>by
 have a:=h'.2;rw[h.2] at a;cases a
theorem isL.next {s:AH} {p:Int} (h:isL s p) (hp:p+1<s.length):rd s (p+1)<=rd s p/\(rd s p=rd s (p+1)->isL s (p+1)):=by
 have hn: ¬smB s p=true:=by rw[h.2];simp
 rw[xH h.1.1 hp] at hn;refine⟨Int.not_lt.1 λbr=>hn (.inl br),λe=>⟨⟨by have:=h.1.1;omega,hp⟩,?_⟩⟩;cases e2:smB s (p+1) with
 |false=>rfl
 |true=>exact absurd (.inr ⟨e,e2⟩) hn
theorem isS.next {s:AH} {p:Int} (h:isS s p):p+1<s.length/\rd s p<=rd s (p+1)/\(rd s p=rd s (p+1)->isS s (p+1)):=by
 have hp:p+1<s.length:=by
  rcases cz (p+1) s.length with a|a
  ·exact a
  ·have:=rY h.1.1 a;rw[h.2] at this;cases this
 have hs:=(xH h.1.1 hp).1 h.2;have h0:=h.1.1;refine⟨hp,G,λe=>⟨⟨G,hp⟩,?_⟩⟩;rcases hs with a|a
 ·omega
 ·exact a.2
theorem JY {s:AH}: ∀(m:Nat) (p q:Int),s.length-p<=m->isL s p->isS s q->rd s p=rd s q->bV s p q
 |0,p,q,hm,hp,_,_=>by have:=hp.1;omega
 | m+1,p,q,hm,hp,hq,e=>by
  rw[oD hp.1.1 hp.1.2 hq.1.1 hq.1.2];refine .inr ⟨e,?_⟩;obtain⟨yi,Zn,Tr⟩:=hq.next;have q0:=hq.1.1;have p0:=hp.1.1;rcases cz (p+1) s.length with a|a
  ·obtain ⟨oa,b8⟩:=hp.next a;rw[iI (s:=s),oD G a G yi];rcases cz (rd s (p+1)) (rd s (q+1)) with b|b
   ·exact .inl b
   ·have e1:rd s p=rd s (p+1):=G
    have e2:rd s q=rd s (q+1):=G
    have:=JY m (p+1) (q+1) G (b8 e1) (Tr e2) G;rw[oD G a G yi] at this;exact this
  ·rw [yN a,iO G yi];simp[cmpL]
theorem aGv {s:AH} {p q:Int} (hp:isL s p) (hq:isS s q) (e:rd s p=rd s q):bV s p q:=JY (s.length-p).toNat p q G hp hq e
theorem OZ {s:AH} {p q:Int} (p0:0<=p) (hp:p+1<s.length) (q0:0<=q) (hq:q+1<s.length) (e:rd s p=rd s q) (h:bV s (p+1) (q+1)):bV s p q:=by
 rw[oD p0 G q0 G];exact .inr ⟨e,iI.2 h⟩
theorem uQ {s:AH} {p q:Int} (hp:0<=p/\p<s.length) (hq:0<=q/\q<s.length) (h:rd s p<rd s q):bV s p q:=by
 rw[oD hp.1 hp.2 hq.1 hq.2];exact .inl h
theorem aWf {s:AH} {q:Int} (hn:0<s.length) (q0:0<=q) (hq:q+1<s.length) (e:rd s (s.length-1)=rd s q):bV s (s.length-1) q:=by
 rw[oD G G q0 G];refine .inr ⟨e,?_⟩;rw[yN G,iO G hq];simp[cmpL]
def gZ (s:AH) (i:Int):Bool:=decide (0<i) && smB s i && !smB s (i-1)
theorem oF {s:AH} {i:Int}:gZ s i=true↔0<i/\smB s i=true/\smB s (i-1)=false:=by
 unfold gZ;rw[qh,qh,jb];simp only[Bool.not_eq_true',and_assoc]
def bP (s:AH):AH:=(iota s.length).filter λi=>gZ s i
theorem uU {s:AH} {i:Int}:i∈bP s↔(0<=i/\i<s.length)/\gZ s i=true:=by
 unfold bP;rw[ow,aZ]
theorem BR (s:AH):(bP s).Nodup:=(fB _).sublist ut
theorem pM {α:Type} [DecidableEq α]: ∀ {l m:List α},l.Nodup->(∀x∈l,x∈m)->l.length<=m.length
 |[],_,_,_=>oz _
 | a::l,m,hd,h=>by
  obtain⟨h1,h2⟩:=xg.1 hd;have ha:=h a cD
  have:=pM (l:=l) (m:=m.erase a) h2 λx hx=>by
   have hxa:x≠a:=λe=>h1 (e▸hx);exact(Gb hxa).2 (h x (gm _ hx))
  rw[Cs ha] at this;have hp:=Ec ha;simp only[dn];omega
theorem sG {α:Type} [DecidableEq α]: ∀ {l m:List α},l.Nodup->(∀x∈l,x∈m)->m.length<=l.length->l.Perm m
 |[],m,_,_,h=>by
  have:m=[]:=dw (by simpa using h);rw[this]
 | a::l,m,hd,h,hl=>by
  obtain⟨h1,h2⟩:=xg.1 hd;have ha:=h a cD;have hp:=Ec ha
  have:=sG (l:=l) (m:=m.erase a) h2 (λx hx=>by
   have hxa:x≠a:=λe=>h1 (e▸hx)
   exact(Gb hxa).2 (h x (gm _ hx))) (by
   rw[Cs ha];simp only[dn] at hl
   omega)
  exact(this.cons a).trans (List.perm_cons_erase ha).symm
def seg (row:AH) (a b:Int):AH:=(List.range (b-a).toNat).map λt:Nat=>rd row (a+t)
theorem aJz (row:AH) (a b:Int):(seg row a b).length=(b-a).toNat:=by simp[seg]
theorem LW {row:AH} {a b x:Int}:x∈seg row a b↔ ∃q,a<=q/\q<b/\rd row q=x:=by
 unfold seg;rw[ii];constructor
 ·rintro ⟨t,ht,rfl⟩;have:=jy.1 ht;exact⟨a+t,G,G,rfl⟩
 ·rintro ⟨q,h1,h2,rfl⟩;exact⟨(q-a).toNat,jy.2 G,by rw[show a+((q-a).toNat:Int)=q by omega]⟩
def Once (row:AH):Prop:= ∀q r:Int,0<=q->q<row.length->0<=r->r<row.length->0<=rd row q->rd row q=rd row r->q=r
theorem TW {row:AH} (h:Once row) {a b:Int} (ha:0<=a) (hb:b<=row.length) (hp: ∀q,a<=q->q<b->0<=rd row q):(seg row a b).Nodup:=by
 unfold seg;refine ik.2 (lm (λ{x y} hx hy cg he=> ?_) xu);have j5:=jy.1 hx;have hy':=jy.1 hy;have:=h (a+x) (a+y) G G G G (hp _ G G) he;exact cg G
section
variable (s:AH) (k:Int)
def st (c:Int):Int:=ps (fI s k) c
def KT (c:Int):AH:=(iota s.length).filter λp=>decide (rd s p=c) && !smB s p
def KS (c:Int):AH:=(iota s.length).filter λp=>decide (rd s p=c) && smB s p
end
section
variable {s:AH} {k:Int}
theorem PN {c p:Int}:p∈KT s c↔isL s p/\rd s p=c:=by
 unfold KT isL;rw[ow,aZ,qh,jb];simp only[Bool.not_eq_true'];exact⟨λ⟨a,b,c⟩=>⟨⟨a,c⟩,b⟩,λ⟨⟨a,c⟩,b⟩=>⟨a,b,c⟩⟩
theorem PM {c p:Int}:p∈KS s c↔isS s p/\rd s p=c:=by
 unfold KS isS;rw[ow,aZ,qh,jb];exact⟨λ⟨a,b,c⟩=>⟨⟨a,c⟩,b⟩,λ⟨⟨a,c⟩,b⟩=>⟨a,b,c⟩⟩
theorem bCj:st s k 0=0:=rfl
theorem nG (s:AH):(iota s.length).map (rd s)=s:=by
 refine bI (by rw[bu,bA]) λj h0 h1=> ?_;rw[bu,bA] at h1;have:(iota s.length).map (rd s)=(List.range s.length).map λi:Nat=>rd s i:=by unfold iota;rw[ql];rfl
 rw[this,iT h0 h1,show((j.toNat:Nat):Int)=j by omega]
theorem lS {c:Int} (h0:0<=c) (h:c<k):st s k (c+1)=st s k c+(KT s c).length+(KS s c).length:=by
 unfold st;rw[mP h0 (by rw[eO];omega),EE h0 h]
 have e:(s.filter λx=>decide (x=c)).length=((iota s.length).filter λp=>decide (rd s p=c)).length:=by
  conv=>lhs;rw[<-nG s]
  rw[List.filter_map,bu];rfl
 have e2:((iota s.length).filter λp=>decide (rd s p=c)).length=(KT s c).length+(KS s c).length:=by
  unfold KT KS;generalize iota s.length=l
  induction l with
  |nil=>rfl
  | cons a l ih=>
   by_cases h:rd s a=c
   ·cases hb:smB s a with
    |true=>rw[pg (by simpa using h),lh (by simp[hb]),pg (by simp[h,hb])];simp only[dn];omega
    |false=>rw[pg (by simpa using h),pg (by simp[h,hb]),lh (by simp[hb])];simp only[dn];omega
   ·rw [lh (by simpa using h),lh (by simp[h]),lh (by simp[h])];exact ih
 rw[e,e2];omega
theorem lT {c d:Int} (h0:0<=c) (Eq:c<d) (hd:d<=k):st s k (c+1)<=st s k d:=by
 obtain⟨m,rfl⟩: ∃m:Nat,d=c+1+m:=⟨(d-c-1).toNat,G⟩
 induction m with
 |zero=>simp
 |succ m ih=>
  have:=ih G G;have e:=lS (s:=s) (k:=k) (c:=c+1+m) G G;rw[show c+1+((m+1:Nat):Int)=c+1+m+1 by omega];omega
theorem gP {c:Int}:0<=st s k c:=(xQ (nJ s k) c).1
theorem aFh (hk:0<=k) (hs: ∀x∈s,0<=x/\x<k):st s k k=s.length:=by
 unfold st;rw[aGj (by rw[eO];omega)]
 have:=QM (order:=iota s.length) (keys:=s) (k:=k) hk λi hi=>by
  have:=aZ.1 hi;exact hs _ (bG this.1 this.2)
 rw[nG,bA] at this;exact this
theorem AA (hk:0<=k) (hs: ∀x∈s,0<=x/\x<k) {c:Int} (h0:0<=c) (h:c<=k):st s k c<=s.length:=by
 rcases cz c k with a|a
 ·have h1:=lS (s:=s) h0 a;have h2:=lT (s:=s) h0 a (ni k);rw[aFh hk hs] at h2;omega
 ·rw [show c=k by omega,aFh hk hs];omega
theorem iP (hk:0<=k) (hs: ∀x∈s,0<=x/\x<k) {q:Int} (q0:0<=q) (hq:q<s.length): ∃c,(0<=c/\c<k)/\st s k c<=q/\q<st s k (c+1):=by
 have gen: ∀m:Nat,(m:Int)<=k->q<st s k m-> ∃c,(0<=c/\c<k)/\st s k c<=q/\q<st s k (c+1):=by
  intro m
  induction m with
  |zero=>intro _ h;rw[show((0:Nat):Int)=0 from rfl,bCj] at h;omega
  |succ m ih=>
   intro hm h;rcases cz q (st s k m) with a|a
   ·exact ih G a
   ·exact⟨m,G,a,by rw[show((m:Int)+1)=((m+1:Nat):Int) by omega];exact h⟩
 have:=gen k.toNat G;rw[show((k.toNat:Nat):Int)=k by omega,aFh hk hs] at this;exact this hq
theorem pU {c d q:Int} (c0:0<=c) (ck:c<k) (d0:0<=d) (dk:d<k) (h1:st s k c<=q) (h2:q<st s k (c+1)) (h3:st s k d<=q) (h4:q<st s k (d+1)):c=d:=by
 rcases jl c d with a|a|a
 ·have:=lT (s:=s) c0 a (by omega:d<=k);omega
 ·exact a
 ·have:=lT (s:=s) d0 a (by omega:c<=k);omega
end
end Go.Pure
namespace Go.Pure
open Go Go.Eng
section
variable {s:AH} {k:Int} {R:Int->Int->Prop}
structure bBs (s:AH) (R:Int->Int->Prop):Prop where
 char: ∀ {p q:Int},0<=p/\p<s.length->0<=q/\q<s.length->rd s p<rd s q->R p q
 ls: ∀ {p q:Int},isL s p->isS s q->rd s p=rd s q->R p q
 last: ∀ {q:Int},0<s.length->0<=q->q+1<s.length->rd s (s.length-1)=rd s q->isL s q->R (s.length-1) q
 backL: ∀ {p q:Int},isL s p->isL s q->p+1<s.length->q+1<s.length->rd s p=rd s q->R (p+1) (q+1)->R p q
structure wJ (s:AH) (k:Int) (R:Int->Int->Prop) (mF:Int->Int) (row:AH):Prop where
 len:row.length=s.length
 m0: ∀c,0<=c->c<k->0<=mF c/\mF c<=(KS s c).length
 some_: ∀c q,0<=c->c<k->st s k (c+1)-mF c<=q->q<st s k (c+1)->isS s (rd row q)/\rd s (rd row q)=c
 none_: ∀c q,0<=c->c<k->st s k c<=q->q<st s k (c+1)-mF c->rd row q= -1
 once:Once row
 all: ∀p:Int,0<=p->p<s.length->gZ s p=true-> ∃q:Int,0<=q/\q<s.length/\rd row q=p
 sorted: ∀a b:Int,0<=a->a<b->b<s.length->0<=rd row a->0<=rd row b->R (rd row a) (rd row b)
structure kG (s:AH) (k:Int) (R:Int->Int->Prop) (mF:Int->Int) (row0 row H:AH) (C:Int->Prop):Prop where
 len:row.length=s.length
 hlen:H.length=k.toNat
 hH: ∀c,0<=c->c<k->st s k c<=rd H c/\rd H c<=st s k c+(KT s c).length
 placed: ∀c q,0<=c->c<k->st s k c<=q->q<rd H c->isL s (rd row q)/\rd s (rd row q)=c
 rest: ∀c q,0<=c->c<k->rd H c<=q->q<st s k (c+1)->rd row q=rd row0 q
 once:Once row
 closed: ∀p,isL s p->((∃q:Int,0<=q/\q<s.length/\rd row q=p)↔C p)
 sorted: ∀a b:Int,0<=a->a<b->b<s.length->0<=rd row a->0<=rd row b->R (rd row a) (rd row b)
variable (hk:0<=k) (hs: ∀x∈s,0<=x/\x<k) (hR:bBs s R)
theorem oI (hs: ∀x∈s,0<=x/\x<k) {p:Int} (h:0<=p/\p<s.length):0<=rd s p/\rd s p<k:=hs _ (bG h.1 h.2)
variable {mF:Int->Int} {row0 row H:AH} {C:Int->Prop}
theorem kG.at_ (h:kG s k R mF row0 row H C) (b:wJ s k R mF row0) {c q:Int} (c0:0<=c) (ck:c<k) (h1:st s k c<=q) (h2:q<st s k (c+1)):
  (q<rd H c/\isL s (rd row q)/\rd s (rd row q)=c)\/(rd H c<=q/\isS s (rd row q)/\rd s (rd row q)=c)\/(rd H c<=q/\rd row q= -1):=by
 rcases cz q (rd H c) with a|a
 ·exact .inl ⟨a,h.placed c q c0 ck h1 a⟩
 ·rw [h.rest c q c0 ck a h2];rcases cz q (st s k (c+1)-mF c) with d|d
  ·exact .inr (.inr ⟨a,b.none_ c q c0 ck h1 d⟩)
  ·exact .inr (.inl ⟨a,b.some_ c q c0 ck d h2⟩)
include hk hs in
theorem kG.entry (h:kG s k R mF row0 row H C) (b:wJ s k R mF row0) {q:Int} (q0:0<=q) (hq:q<s.length):rd row q= -1\/(0<=rd row q/\rd row q<s.length):=by
 obtain⟨c,⟨c0,ck⟩,h1,h2⟩:=iP hk hs q0 hq;rcases h.at_ b c0 ck h1 h2 with a|a|a
 ·exact .inr a.2.1.1
 ·exact .inr a.2.1.1
 ·exact .inl a.2
theorem LH {b:wJ s k R mF row0} {c:Int} (c0:0<=c) (ck:c<k):st s k c+(KT s c).length<=st s k (c+1)-mF c:=by
 have:=lS (s:=s) c0 ck;have:=b.m0 c c0 ck;omega
include hk hs in
theorem kG.room (h:kG s k R mF row0 row H C) (b:wJ s k R mF row0) {p:Int} (hp:isL s p) (hn: ¬ ∃q:Int,0<=q/\q<s.length/\rd row q=p):
  (st s k (rd s p)<=rd H (rd s p)/\rd H (rd s p)<st s k (rd s p)+(KT s (rd s p)).length)/\rd row (rd H (rd s p))= -1/\(0<=rd H (rd s p)/\rd H (rd s p)<s.length)/\rd H (rd s p)<st s k (rd s p+1):=by
 obtain⟨c0,ck⟩:=oI hs hp.1;have hH:=h.hH _ c0 ck;have qv:=LH (b:=b) c0 ck;have nw:=AA hk hs (c:=rd s p+1) G G;have t6:=gP (s:=s) (k:=k) (c:=rd s p);have hm:=b.m0 _ c0 ck
 have br:rd H (rd s p)<st s k (rd s p)+(KT s (rd s p)).length:=by
  have ft: ∀x∈p::seg row (st s k (rd s p)) (rd H (rd s p)),x∈KT s (rd s p):=by
   intro x hx;rcases jd.1 hx with rfl|hx
   ·exact PN.2 ⟨hp,rfl⟩
   ·obtain ⟨q,q1,q2,rfl⟩:=LW.1 hx;exact PN.2 (h.placed _ q c0 ck q1 q2)
  have hnd:(p::seg row (st s k (rd s p)) (rd H (rd s p))).Nodup:=by
   refine xg.2 ⟨λhx=> ?_,TW h.once t6 (by rw[h.len];omega) λq q1 q2=>(h.placed _ q c0 ck q1 q2).1.1.1⟩;obtain⟨q,q1,q2,e⟩:=LW.1 hx;exact hn ⟨q,G,G,e⟩
  have:=pM hnd ft;rw[dn,aJz] at this;omega
 refine⟨⟨hH.1,br⟩,?_,⟨G,G⟩,G⟩;rw[h.rest _ _ c0 ck (ni _) G,b.none_ _ _ c0 ck hH.1 G]
include hk hs hR in
theorem kG.lay (h:kG s k R mF row0 row H C) (b:wJ s k R mF row0) {p:Int} {C':Int->Prop} (hp:isL s p) (hn: ¬ ∃q:Int,0<=q/\q<s.length/\rd row q=p) (kf: ∀p',isL s p'->(C' p'↔C p'\/p'=p))
  (Sg: ∀p',isL s p'->rd s p'=rd s p->(∃q:Int,0<=q/\q<s.length/\rd row q=p')->R p' p):
  kG s k R mF row0 (upd row (rd H (rd s p)) p) (upd H (rd s p) (rd H (rd s p)+1)) C':=by
 obtain⟨c0,ck⟩:=oI hs hp.1;obtain⟨⟨r1,r2⟩,r3,⟨r4,r5⟩,r6⟩:=h.room hk hs b hp hn;have gn: ∀q,0<=q->rd (upd row (rd H (rd s p)) p) q=if q=rd H (rd s p) then p else rd row q:=λq q0=>gV r4 q0 (by rw[h.len];omega)
 have hHu: ∀c,0<=c->rd (upd H (rd s p) (rd H (rd s p)+1)) c=if c=rd s p then rd H (rd s p)+1 else rd H c:=λc Uj=>gV c0 Uj (by rw[h.hlen];omega)
 have hex: ∀x:Int,0<=x->((∃q:Int,0<=q/\q<s.length/\rd (upd row (rd H (rd s p)) p) q=x)↔((∃q:Int,0<=q/\q<s.length/\rd row q=x)\/x=p)):=by
  intro x hx;constructor
  ·rintro ⟨q,q0,q1,e⟩;rw[gn q q0] at e;split at e
   ·exact .inr e.symm
   ·exact .inl ⟨q,q0,q1,e⟩
  ·rintro (⟨q,q0,q1,e⟩|rfl)
   ·refine ⟨q,q0,q1,?_⟩;rw[gn q q0,df,e];intro e2;rw[e2,r3] at e;omega
   ·exact⟨_,r4,r5,by rw[gn _ r4,dm rfl]⟩
 refine⟨by rw[aY];exact h.len,by rw[aY];exact h.hlen,λc d0 dk=> ?_,λc q d0 dk q1 q2=> ?_,λc q d0 dk q1 q2=> ?_,λq r q0 q1 t0 t1 hq e=> ?_,λp' cr=> ?_,λx y x0 xy y1 hx hy=> ?_⟩
 ·have:=h.hH c d0 dk;rw[hHu c d0];split
  ·rename_i e;subst e;omega
  ·exact this
 ·have ij:0<=q:=by have:=gP (s:=s) (k:=k) (c:=c);omega
  rw[hHu c d0] at q2;rw[gn q ij];by_cases e:q=rd H (rd s p)
  ·rw [dm e]
   have hc:c=rd s p:=by
    by_cases e2:c=rd s p
    ·exact e2
    ·rw [df e2] at q2;have:=h.hH c d0 dk;have hr:=LH (b:=b) d0 dk;have:=b.m0 c d0 dk;exact pU (s:=s) d0 dk c0 ck q1 G G G
   exact⟨hp,hc.symm⟩
  ·rw [df e];refine h.placed c q d0 dk q1 ?_;by_cases e2:c=rd s p
   ·rw[dm e2] at q2;subst e2;omega
   ·rw[df e2] at q2;exact q2
 ·rw [hHu c d0] at q1;have hHc:=h.hH c d0 dk
  have ij:0<=q:=by
   have:=gP (s:=s) (k:=k) (c:=c);by_cases e2:c=rd s p
   ·rw[dm e2] at q1;subst e2;omega
   ·rw[df e2] at q1;omega
  rw[gn q ij];by_cases e2:c=rd s p
  ·rw [dm e2] at q1;rw[df G];subst e2;exact h.rest _ q d0 dk G q2
  ·rw [df e2] at q1;rw[df,h.rest c q d0 dk q1 q2];intro e;exact e2 (pU (s:=s) d0 dk c0 ck G q2 G G)
 ·rw [aY,h.len] at q1 t1;rw[gn q q0] at hq e;rw[gn r t0] at e;by_cases e1:q=rd H (rd s p)
  ·rw [dm e1] at e;by_cases e2:r=rd H (rd s p)
   ·omega
   ·rw [df e2] at e;exact absurd ⟨r,t0,t1,e.symm⟩ hn
  ·rw [df e1] at e hq;by_cases e2:r=rd H (rd s p)
   ·rw [dm e2] at e;exact absurd ⟨q,q0,q1,e⟩ hn
   ·rw [df e2] at e;exact h.once q r q0 (by rw[h.len];exact q1) t0 (by rw[h.len];exact t1) hq e
 ·rw[hex p' cr.1.1,h.closed p' cr,kf p' cr]
 ·have key: ∀z:Int,0<=z->z<s.length->0<=rd row z->(z<rd H (rd s p)->R (rd row z) p)/\(rd H (rd s p)<z->R p (rd row z)):=by
   intro z z0 z1 hz;obtain⟨c,⟨d0,dk⟩,h1,h2⟩:=iP hk hs z0 z1;have rh:=h.at_ b d0 dk h1 h2
   have fb:0<=rd row z/\rd row z<s.length:=by
    rcases rh with a|a|a
    ·exact a.2.1.1
    ·exact a.2.1.1
    ·rw[a.2] at hz;omega
   have v7:rd s (rd row z)=c:=by
    rcases rh with a|a|a
    ·exact a.2.2
    ·exact a.2.2
    ·rw[a.2] at hz;omega
   refine⟨λbr=> ?_,λbr=> ?_⟩
   ·rcases jl c (rd s p) with e|e|e
    ·exact hR.char fb hp.1 G
    ·subst e;rcases rh with a|a|a
     ·exact Sg _ a.2.1 a.2.2 ⟨z,z0,z1,rfl⟩
     ·omega
     ·omega
    ·have:=lT (s:=s) c0 e (by omega:c<=k);omega
   ·rcases jl c (rd s p) with e|e|e
    ·have:=lT (s:=s) d0 e (by omega:rd s p<=k);omega
    ·subst e;rcases rh with a|a|a
     ·omega
     ·exact hR.ls hp a.2.1 a.2.2.symm
     ·rw[a.2] at hz;omega
    ·exact hR.char hp.1 fb G
  rw[gn x x0] at hx ⊢;rw[gn y G] at hy ⊢;by_cases e1:x=rd H (rd s p)
  ·rw [dm e1,df G];rw[df G] at hy;exact(key y G y1 hy).2 G
  ·rw [df e1];rw[df e1] at hx;by_cases e2:y=rd H (rd s p)
   ·rw [dm e2];exact(key x x0 G hx).1 G
   ·rw [df e2];rw[df e2] at hy;exact h.sorted x y x0 xy y1 hx hy
def CL (s row:AH) (i p:Int):Prop:=p=s.length-1\/ ∃q:Int,0<=q/\q<i/\rd row q=p+1
include hk hs hR in
theorem aBw (b:wJ s k R mF row0) (hn:0<s.length) (hH:H.length=k.toNat) (hH2: ∀c,0<=c->c<k->rd H c=st s k c):
  kG s k R mF row0 (upd row0 (rd H (rd s (s.length-1))) (s.length-1)) (upd H (rd s (s.length-1)) (rd H (rd s (s.length-1))+1)) (CL s (upd row0 (rd H (rd s (s.length-1))) (s.length-1)) 0):=by
 have Mi: ∀p,isL s p-> ¬ ∃q:Int,0<=q/\q<s.length/\rd row0 q=p:=by
  rintro p hp ⟨q,q0,q1,e⟩;obtain⟨c,⟨c0,ck⟩,h1,h2⟩:=iP hk hs q0 q1;rcases cz q (st s k (c+1)-mF c) with d|d
  ·have:=b.none_ c q c0 ck h1 d;have:=hp.1.1;omega
  ·have:=(b.some_ c q c0 ck d h2).1;rw[e] at this;exact hp.not_S this
 have h0:kG s k R mF row0 row0 H λ_=>False:=
  ⟨b.len,hH,λc c0 ck=>by rw[hH2 c c0 ck];omega,λc q c0 ck q1 q2=>by rw[hH2 c c0 ck] at q2;omega,λc q _ _ _ _=>rfl,b.once,λp hp=>iff_false_intro (Mi p hp),b.sorted⟩
 have hp:isL s (s.length-1):=⟨G,rY G G⟩;refine h0.lay hk hs hR b hp (Mi _ hp) (λp' cr=> ?_) λp' cr _ hex=>absurd hex (Mi p' cr);unfold CL;constructor
 ·rintro (e|⟨q,q0,q1,_⟩)
  ·exact .inr e
  ·omega
 ·rintro (h|e)
  ·exact h.elim
  ·exact .inl e
theorem aHc {i:Int} (h:kG s k R mF row0 row H (CL s row i)) (hc: ¬(0<rd row i/\smB s (rd row i-1)=false)):kG s k R mF row0 row H (CL s row (i+1)):=by
 refine⟨h.len,h.hlen,h.hH,h.placed,h.rest,h.once,λp hp=> ?_,h.sorted⟩;rw[h.closed p hp];unfold CL;refine or_congr_right ⟨λ⟨q,q0,q1,e⟩=>⟨q,q0,G,e⟩,?_⟩;rintro⟨q,q0,q1,e⟩;rcases cz q i with a|a
 ·exact⟨q,q0,a,e⟩
 ·exfalso;have:q=i:=G
  subst this;rw[e] at hc;have:=hp.1.1;exact hc ⟨G,by rw[show p+1-1=p by omega];exact hp.2⟩
include hk hs in
theorem UV {i:Int} (h:kG s k R mF row0 row H (CL s row i)) (b:wJ s k R mF row0) (i0:0<=i) (hi:i<s.length) (hc:0<rd row i/\smB s (rd row i-1)=false):
  isL s (rd row i-1)/\(¬ ∃q:Int,0<=q/\q<s.length/\rd row q=rd row i-1)/\rd row i<s.length/\i<rd H (rd s (rd row i-1)):=by
 have Oq:=h.entry hk hs b i0 hi;have hj:0<=rd row i/\rd row i<s.length:=G
 have hp:isL s (rd row i-1):=⟨G,hc.2⟩
 have hn: ¬ ∃q:Int,0<=q/\q<s.length/\rd row q=rd row i-1:=by
  intro hex;rcases(h.closed _ hp).1 hex with e|⟨q,q0,q1,e⟩
  ·omega
  ·have:=h.once q i q0 (by rw[h.len];omega) i0 (by rw[h.len];exact hi) G G;omega
 refine⟨hp,hn,hj.2,?_⟩;obtain⟨c,⟨c0,ck⟩,h1,h2⟩:=iP hk hs i0 hi;obtain⟨d0,dk⟩:=oI hs hp.1;have pv:=hp.next G;rw[show rd row i-1+1=rd row i by omega] at pv;have hHp:=h.hH _ d0 dk;rcases h.at_ b c0 ck h1 h2 with a|a|a
 ·rcases cz c (rd s (rd row i-1)) with e|e
  ·have:=lT (s:=s) c0 e (by omega:rd s (rd row i-1)<=k);omega
  ·have:rd s (rd row i-1)=c:=G
   rw[this];exact a.1
 ·rcases cz c (rd s (rd row i-1)) with e|e
  ·have:=lT (s:=s) c0 e (by omega:rd s (rd row i-1)<=k);omega
  ·exact absurd a.2.1 (pv.2 G).not_S
 ·omega
include hk hs hR in
theorem aHb {i:Int} (h:kG s k R mF row0 row H (CL s row i)) (b:wJ s k R mF row0) (i0:0<=i) (hi:i<s.length) (hc:0<rd row i/\smB s (rd row i-1)=false):
  kG s k R mF row0 (upd row (rd H (rd s (rd row i-1))) (rd row i-1)) (upd H (rd s (rd row i-1)) (rd H (rd s (rd row i-1))+1)) (CL s (upd row (rd H (rd s (rd row i-1))) (rd row i-1)) (i+1)):=by
 obtain⟨hp,hn,hj,br⟩:=UV hk hs h b i0 hi hc;have qv:=h.room hk hs b hp hn;have gn: ∀q,0<=q->rd (upd row (rd H (rd s (rd row i-1))) (rd row i-1)) q=if q=rd H (rd s (rd row i-1)) then rd row i-1 else rd row q:=λq q0=>gV qv.2.2.1.1 q0 (by rw[h.len];exact qv.2.2.1.2)
 refine h.lay hk hs hR b hp hn (λp' cr=> ?_) λp' cr he hex=> ?_
 ·unfold CL;constructor
  ·rintro (e|⟨q,q0,q1,e⟩)
   ·exact .inl (.inl e)
   ·rw [gn q q0,df G] at e;rcases cz q i with a|a
    ·exact .inl (.inr ⟨q,q0,a,e⟩)
    ·have:q=i:=G
     subst this;exact .inr G
  ·rintro ((e|⟨q,q0,q1,e⟩)|e)
   ·exact .inl e
   ·exact .inr ⟨q,q0,G,by rw[gn q q0,df G];exact e⟩
   ·exact .inr ⟨i,i0,G,by rw[gn i i0,df G];omega⟩
 ·have Wu:=hp.1;rcases(h.closed _ cr).1 hex with e|⟨q,q0,q1,e⟩
  ·subst e;exact hR.last G G G he hp
  ·have h1:=h.entry hk hs b q0 G;have h2:=cr.1;have:=h.sorted q i q0 q1 hi G G;rw[e] at this;refine hR.backL cr hp G G he ?_;rwa[show rd row i-1+1=rd row i by omega]
include hk hs in
theorem UW (h:kG s k R mF row0 row H (CL s row s.length)) (b:wJ s k R mF row0): ∀(m:Nat) (p:Int),s.length-p<=m->isL s p-> ∃q:Int,0<=q/\q<s.length/\rd row q=p
 |0,p,hm,hp=>by have:=hp.1;omega
 | m +1,p,hm,hp=>by
  have hb:=hp.1;rw[h.closed p hp];rcases cz (p+1) s.length with a|a
  ·refine .inr ?_;rcases sJ (s:=s) (p:=p+1) G with l|l
   ·exact UW h b m (p+1) G l
   ·obtain ⟨q,q0,q1,e⟩:=b.all (p+1) G a (oF.2 ⟨G,l.2,by rw[show p+1-1=p by omega];exact hp.2⟩);refine⟨q,q0,q1,?_⟩;obtain⟨c,⟨c0,ck⟩,h1,h2⟩:=iP hk hs q0 q1;have hH:=h.hH c c0 ck;have hr:=LH (b:=b) c0 ck;rw[h.rest c q c0 ck ?_ h2,e];rcases cz q (st s k (c+1)-mF c) with d|d
    ·have:=b.none_ c q c0 ck h1 d;omega
    ·omega
  ·exact .inl G
end
end Go.Pure
namespace Go.Pure
open Go Go.Eng
section
variable {s:AH} {k:Int} {R:Int->Int->Prop}
structure bGs (s:AH) (R:Int->Int->Prop):Prop where
 char: ∀ {p q:Int},0<=p/\p<s.length->0<=q/\q<s.length->rd s p<rd s q->R p q
 ls: ∀ {p q:Int},isL s p->isS s q->rd s p=rd s q->R p q
 backS: ∀ {p q:Int},isS s p->isS s q->p+1<s.length->q+1<s.length->rd s p=rd s q->R (p+1) (q+1)->R p q
structure uB (s:AH) (k:Int) (R:Int->Int->Prop) (T:Int->Int) (row:AH):Prop where
 len:row.length=s.length
 t0: ∀c,0<=c->c<k->st s k c<=T c/\T c<=st s k c+(KT s c).length
 some_: ∀c q,0<=c->c<k->st s k c<=q->q<T c->isL s (rd row q)/\rd s (rd row q)=c
 none_: ∀c q,0<=c->c<k->T c<=q->q<st s k (c+1)->rd row q= -1
 once:Once row
 all: ∀p:Int,isL s p-> ∃q:Int,0<=q/\q<s.length/\rd row q=p
 sorted: ∀a b:Int,0<=a->a<b->b<s.length->0<=rd row a->0<=rd row b->R (rd row a) (rd row b)
structure kF (s:AH) (k:Int) (R:Int->Int->Prop) (T:Int->Int) (row3 row E:AH) (C:Int->Prop):Prop where
 len:row.length=s.length
 elen:E.length=k.toNat
 hE: ∀c,0<=c->c<k->st s k (c+1)-(KS s c).length<=rd E c/\rd E c<=st s k (c+1)
 placed: ∀c q,0<=c->c<k->rd E c<=q->q<st s k (c+1)->isS s (rd row q)/\rd s (rd row q)=c
 rest: ∀c q,0<=c->c<k->st s k c<=q->q<rd E c->rd row q=rd row3 q
 once:Once row
 closed: ∀p,isS s p->((∃q:Int,0<=q/\q<s.length/\rd row q=p)↔C p)
 sorted: ∀a b:Int,0<=a->a<b->b<s.length->0<=rd row a->0<=rd row b->R (rd row a) (rd row b)
variable (hk:0<=k) (hs: ∀x∈s,0<=x/\x<k) (hR:bGs s R)
variable {T:Int->Int} {row3 row E:AH} {C:Int->Prop}
theorem kF.at_ (h:kF s k R T row3 row E C) (b:uB s k R T row3) {c q:Int} (c0:0<=c) (ck:c<k) (h1:st s k c<=q) (h2:q<st s k (c+1)):
  (rd E c<=q/\isS s (rd row q)/\rd s (rd row q)=c)\/(q<rd E c/\isL s (rd row q)/\rd s (rd row q)=c)\/(q<rd E c/\rd row q= -1):=by
 rcases cz q (rd E c) with a|a
 ·rw [h.rest c q c0 ck h1 a];rcases cz q (T c) with d|d
  ·exact .inr (.inl ⟨a,b.some_ c q c0 ck h1 d⟩)
  ·exact .inr (.inr ⟨a,b.none_ c q c0 ck d h2⟩)
 ·exact .inl ⟨a,h.placed c q c0 ck a h2⟩
include hk hs in
theorem kF.entry (h:kF s k R T row3 row E C) (b:uB s k R T row3) {q:Int} (q0:0<=q) (hq:q<s.length):rd row q= -1\/(0<=rd row q/\rd row q<s.length):=by
 obtain⟨c,⟨c0,ck⟩,h1,h2⟩:=iP hk hs q0 hq;rcases h.at_ b c0 ck h1 h2 with a|a|a
 ·exact .inr a.2.1.1
 ·exact .inr a.2.1.1
 ·exact .inl a.2
theorem NM {b:uB s k R T row3} {c:Int} (c0:0<=c) (ck:c<k):T c<=st s k (c+1)-(KS s c).length:=by
 have:=lS (s:=s) c0 ck;have:=b.t0 c c0 ck;omega
include hk hs in
theorem kF.room (h:kF s k R T row3 row E C) (b:uB s k R T row3) {p:Int} (hp:isS s p) (hn: ¬ ∃q:Int,0<=q/\q<s.length/\rd row q=p):
  (st s k (rd s p+1)-(KS s (rd s p)).length<=rd E (rd s p)-1/\rd E (rd s p)<=st s k (rd s p+1))/\rd row (rd E (rd s p)-1)= -1/\(0<=rd E (rd s p)-1/\rd E (rd s p)-1<s.length)/\st s k (rd s p)<=rd E (rd s p)-1:=by
 obtain⟨c0,ck⟩:=oI hs hp.1;have hE:=h.hE _ c0 ck;have qv:=NM (b:=b) c0 ck;have nw:=AA hk hs (c:=rd s p+1) G G;have t6:=gP (s:=s) (k:=k) (c:=rd s p);have ht:=b.t0 _ c0 ck;have hsu:=lS (s:=s) c0 ck
 have br:st s k (rd s p+1)-(KS s (rd s p)).length<=rd E (rd s p)-1:=by
  have ft: ∀x∈p::seg row (rd E (rd s p)) (st s k (rd s p+1)),x∈KS s (rd s p):=by
   intro x hx;rcases jd.1 hx with rfl|hx
   ·exact PM.2 ⟨hp,rfl⟩
   ·obtain ⟨q,q1,q2,rfl⟩:=LW.1 hx;exact PM.2 (h.placed _ q c0 ck q1 q2)
  have hnd:(p::seg row (rd E (rd s p)) (st s k (rd s p+1))).Nodup:=by
   refine xg.2 ⟨λhx=> ?_,TW h.once G (by rw[h.len];omega) λq q1 q2=>(h.placed _ q c0 ck q1 q2).1.1.1⟩;obtain⟨q,q1,q2,e⟩:=LW.1 hx;exact hn ⟨q,G,G,e⟩
  have:=pM hnd ft;rw[dn,aJz] at this;omega
 refine⟨⟨br,hE.2⟩,?_,⟨G,G⟩,G⟩;rw[h.rest _ _ c0 ck G G,b.none_ _ _ c0 ck G G]
include hk hs hR in
theorem kF.lay (h:kF s k R T row3 row E C) (b:uB s k R T row3) {p:Int} {C':Int->Prop} (hp:isS s p) (hn: ¬ ∃q:Int,0<=q/\q<s.length/\rd row q=p) (kf: ∀p',isS s p'->(C' p'↔C p'\/p'=p))
  (Sg: ∀p',isS s p'->rd s p'=rd s p->(∃q:Int,0<=q/\q<s.length/\rd row q=p')->R p p'):
  kF s k R T row3 (upd row (rd E (rd s p)-1) p) (upd E (rd s p) (rd E (rd s p)-1)) C':=by
 obtain⟨c0,ck⟩:=oI hs hp.1;obtain⟨⟨r1,r2⟩,r3,⟨r4,r5⟩,r6⟩:=h.room hk hs b hp hn;have gn: ∀q,0<=q->rd (upd row (rd E (rd s p)-1) p) q=if q=rd E (rd s p)-1 then p else rd row q:=λq q0=>gV r4 q0 (by rw[h.len];omega)
 have Rb: ∀c,0<=c->rd (upd E (rd s p) (rd E (rd s p)-1)) c=if c=rd s p then rd E (rd s p)-1 else rd E c:=λc Uj=>gV c0 Uj (by rw[h.elen];omega)
 have hex: ∀x:Int,0<=x->((∃q:Int,0<=q/\q<s.length/\rd (upd row (rd E (rd s p)-1) p) q=x)↔((∃q:Int,0<=q/\q<s.length/\rd row q=x)\/x=p)):=by
  intro x hx;constructor
  ·rintro ⟨q,q0,q1,e⟩;rw[gn q q0] at e;split at e
   ·exact .inr e.symm
   ·exact .inl ⟨q,q0,q1,e⟩
  ·rintro (⟨q,q0,q1,e⟩|rfl)
   ·refine ⟨q,q0,q1,?_⟩;rw[gn q q0,df,e];intro e2;rw[e2,r3] at e;omega
   ·exact⟨_,r4,r5,by rw[gn _ r4,dm rfl]⟩
 refine⟨by rw[aY];exact h.len,by rw[aY];exact h.elen,λc d0 dk=> ?_,λc q d0 dk q1 q2=> ?_,λc q d0 dk q1 q2=> ?_,λq r q0 q1 t0 t1 hq e=> ?_,λp' cr=> ?_,λx y x0 xy y1 hx hy=> ?_⟩
 ·have:=h.hE c d0 dk;rw[Rb c d0];split
  ·rename_i e;subst e;omega
  ·exact this
 ·rw [Rb c d0] at q1;have Oc:=h.hE c d0 dk;have hsc:=lS (s:=s) d0 dk
  have ij:0<=q:=by
   have:=gP (s:=s) (k:=k) (c:=c);by_cases e2:c=rd s p
   ·rw[dm e2] at q1;omega
   ·rw[df e2] at q1;omega
  rw[gn q ij];by_cases e:q=rd E (rd s p)-1
  ·rw [dm e]
   have hc:c=rd s p:=by
    by_cases e2:c=rd s p
    ·exact e2
    ·rw [df e2] at q1;exact pU (s:=s) d0 dk c0 ck G q2 G G
   exact⟨hp,hc.symm⟩
  ·rw [df e];refine h.placed c q d0 dk ?_ q2;by_cases e2:c=rd s p
   ·rw[dm e2] at q1;subst e2;omega
   ·rw[df e2] at q1;exact q1
 ·rw [Rb c d0] at q2;have Oc:=h.hE c d0 dk;have ij:0<=q:=by have:=gP (s:=s) (k:=k) (c:=c);omega
  rw[gn q ij];by_cases e2:c=rd s p
  ·rw [dm e2] at q2;rw[df G];subst e2;exact h.rest _ q d0 dk q1 G
  ·rw [df e2] at q2;rw[df,h.rest c q d0 dk q1 q2];intro e;exact e2 (pU (s:=s) d0 dk c0 ck q1 G G G)
 ·rw [aY,h.len] at q1 t1;rw[gn q q0] at hq e;rw[gn r t0] at e;by_cases e1:q=rd E (rd s p)-1
  ·rw [dm e1] at e;by_cases e2:r=rd E (rd s p)-1
   ·omega
   ·rw [df e2] at e;exact absurd ⟨r,t0,t1,e.symm⟩ hn
  ·rw [df e1] at e hq;by_cases e2:r=rd E (rd s p)-1
   ·rw [dm e2] at e;exact absurd ⟨q,q0,q1,e⟩ hn
   ·rw [df e2] at e;exact h.once q r q0 (by rw[h.len];exact q1) t0 (by rw[h.len];exact t1) hq e
 ·rw[hex p' cr.1.1,h.closed p' cr,kf p' cr]
 ·have key: ∀z:Int,0<=z->z<s.length->0<=rd row z->(z<rd E (rd s p)-1->R (rd row z) p)/\(rd E (rd s p)-1<z->R p (rd row z)):=by
   intro z z0 z1 hz;obtain⟨c,⟨d0,dk⟩,h1,h2⟩:=iP hk hs z0 z1;have rh:=h.at_ b d0 dk h1 h2
   have fb:0<=rd row z/\rd row z<s.length:=by
    rcases rh with a|a|a
    ·exact a.2.1.1
    ·exact a.2.1.1
    ·rw[a.2] at hz;omega
   have v7:rd s (rd row z)=c:=by
    rcases rh with a|a|a
    ·exact a.2.2
    ·exact a.2.2
    ·rw[a.2] at hz;omega
   refine⟨λbr=> ?_,λbr=> ?_⟩
   ·rcases jl c (rd s p) with e|e|e
    ·exact hR.char fb hp.1 G
    ·subst e;rcases rh with a|a|a
     ·omega
     ·exact hR.ls a.2.1 hp a.2.2
     ·rw[a.2] at hz;omega
    ·have:=lT (s:=s) c0 e (by omega:c<=k);omega
   ·rcases jl c (rd s p) with e|e|e
    ·have:=lT (s:=s) d0 e (by omega:rd s p<=k);omega
    ·subst e;rcases rh with a|a|a
     ·exact Sg _ a.2.1 a.2.2 ⟨z,z0,z1,rfl⟩
     ·omega
     ·omega
    ·exact hR.char hp.1 fb G
  rw[gn x x0] at hx ⊢;rw[gn y G] at hy ⊢;by_cases e1:x=rd E (rd s p)-1
  ·rw [dm e1,df G];rw[df G] at hy;exact(key y G y1 hy).2 G
  ·rw [df e1];rw[df e1] at hx;by_cases e2:y=rd E (rd s p)-1
   ·rw [dm e2];exact(key x x0 G hx).1 G
   ·rw [df e2];rw[df e2] at hy;exact h.sorted x y x0 xy y1 hx hy
def CS (s row:AH) (i p:Int):Prop:= ∃q:Int,i<=q/\q<s.length/\rd row q=p+1
theorem aAd (b:uB s k R T row3) (hE:E.length=k.toNat) (Us: ∀c,0<=c->c<k->rd E c=st s k (c+1)) (vi: ∀q:Int,0<=q->q<s.length-> ¬isS s (rd row3 q)):kF s k R T row3 row3 E (CS s row3 s.length):=
 ⟨b.len,hE,λc c0 ck=>by rw[Us c c0 ck];omega,λc q c0 ck q1 q2=>by rw[Us c c0 ck] at q1;omega,λc q _ _ _ _=>rfl,b.once,λp hp=>⟨λ⟨q,q0,q1,e⟩=>absurd (by rw[e];exact hp) (vi q q0 q1),λ⟨q,q0,q1,_⟩=>G⟩,b.sorted⟩
theorem aFp {i:Int} (h:kF s k R T row3 row E (CS s row (i+1))) (hc: ¬(0<rd row i/\smB s (rd row i-1)=true)):kF s k R T row3 row E (CS s row i):=by
 refine⟨h.len,h.elen,h.hE,h.placed,h.rest,h.once,λp hp=> ?_,h.sorted⟩;rw[h.closed p hp];unfold CS;refine⟨λ⟨q,q0,q1,e⟩=>⟨q,G,q1,e⟩,?_⟩;rintro⟨q,q0,q1,e⟩;rcases cz i q with a|a
 ·exact⟨q,G,q1,e⟩
 ·exfalso;have:q=i:=G
  subst this;rw[e] at hc;have:=hp.1.1;exact hc ⟨G,by rw[show p+1-1=p by omega];exact hp.2⟩
include hk hs in
theorem TT {i:Int} (h:kF s k R T row3 row E (CS s row (i+1))) (b:uB s k R T row3) (i0:0<=i) (hi:i<s.length) (hc:0<rd row i/\smB s (rd row i-1)=true):
  isS s (rd row i-1)/\(¬ ∃q:Int,0<=q/\q<s.length/\rd row q=rd row i-1)/\rd row i<s.length/\rd E (rd s (rd row i-1))-1<i:=by
 have Oq:=h.entry hk hs b i0 hi;have hj:0<=rd row i/\rd row i<s.length:=G
 have hp:isS s (rd row i-1):=⟨G,hc.2⟩
 have hn: ¬ ∃q:Int,0<=q/\q<s.length/\rd row q=rd row i-1:=by
  intro hex;obtain⟨q,q0,q1,e⟩:=(h.closed _ hp).1 hex;have:=h.once q i G (by rw[h.len];omega) i0 (by rw[h.len];exact hi) G G;omega
 refine⟨hp,hn,hj.2,?_⟩;obtain⟨c,⟨c0,ck⟩,h1,h2⟩:=iP hk hs i0 hi;obtain⟨d0,dk⟩:=oI hs hp.1;obtain⟨_,nh,Zk⟩:=hp.next;rw[show rd row i-1+1=rd row i by omega] at nh Zk;have hEp:=h.hE _ d0 dk;rcases h.at_ b c0 ck h1 h2 with a|a|a
 ·rcases cz (rd s (rd row i-1)) c with e|e
  ·have:=lT (s:=s) d0 e (by omega:c<=k);omega
  ·have:rd s (rd row i-1)=c:=G
   rw[this];omega
 ·rcases cz (rd s (rd row i-1)) c with e|e
  ·have:=lT (s:=s) d0 e (by omega:c<=k);omega
  ·exact absurd (Zk G) a.2.1.not_S
 ·omega
include hk hs hR in
theorem aFo {i:Int} (h:kF s k R T row3 row E (CS s row (i+1))) (b:uB s k R T row3) (i0:0<=i) (hi:i<s.length) (hc:0<rd row i/\smB s (rd row i-1)=true):
  kF s k R T row3 (upd row (rd E (rd s (rd row i-1))-1) (rd row i-1)) (upd E (rd s (rd row i-1)) (rd E (rd s (rd row i-1))-1)) (CS s (upd row (rd E (rd s (rd row i-1))-1) (rd row i-1)) i):=by
 obtain⟨hp,hn,hj,br⟩:=TT hk hs h b i0 hi hc;have qv:=h.room hk hs b hp hn;have gn: ∀q,0<=q->rd (upd row (rd E (rd s (rd row i-1))-1) (rd row i-1)) q=if q=rd E (rd s (rd row i-1))-1 then rd row i-1 else rd row q:=λq q0=>gV qv.2.2.1.1 q0 (by rw[h.len];exact qv.2.2.1.2)
 refine h.lay hk hs hR b hp hn (λp' cr=> ?_) λp' cr he hex=> ?_
 ·unfold CS;constructor
  ·rintro ⟨q,q0,q1,e⟩;rw[gn q G,df G] at e;rcases cz i q with a|a
   ·exact .inl ⟨q,G,q1,e⟩
   ·have:q=i:=G
    subst this;exact .inr G
  ·rintro (⟨q,q0,q1,e⟩|e)
   ·exact⟨q,G,q1,by rw[gn q G,df G];exact e⟩
   ·exact⟨i,G,hi,by rw[gn i i0,df G];omega⟩
 ·have Wu:=hp.1;obtain⟨q,q0,q1,e⟩:=(h.closed _ cr).1 hex;have h1:=h.entry hk hs b (q:=q) G q1;have h2:=cr.1;have:=h.sorted i q i0 G q1 G G;rw[e] at this;refine hR.backS hp cr G G he.symm ?_;rwa[show rd row i-1+1=rd row i by omega]
include hk hs in
theorem TU (h:kF s k R T row3 row E (CS s row 0)) (b:uB s k R T row3): ∀(m:Nat) (p:Int),s.length-p<=m->isS s p-> ∃q:Int,0<=q/\q<s.length/\rd row q=p
 |0,p,hm,hp=>by have:=hp.1;omega
 | m+1,p,hm,hp=>by
  have hb:=hp.1;rw[h.closed p hp];obtain⟨a,_,_⟩:=hp.next;rcases sJ (s:=s) (p:=p+1) G with l|l
  ·obtain ⟨q,q0,q1,e⟩:=b.all (p+1) l;refine⟨q,q0,q1,?_⟩;obtain⟨c,⟨c0,ck⟩,h1,h2⟩:=iP hk hs q0 q1;have hE:=h.hE c c0 ck;have hr:=NM (b:=b) c0 ck;rw[h.rest c q c0 ck h1 ?_,e];rcases cz q (T c) with d|d
   ·omega
   ·have:=b.none_ c q c0 ck d h2;omega
  ·exact TU h b m (p+1) G l
include hk hs in
theorem aBv (h:kF s k R T row3 row E C) (b:uB s k R T row3) {p:Int} (hp:isL s p): ∃q:Int,0<=q/\q<s.length/\rd row q=p:=by
 obtain⟨q,q0,q1,e⟩:=b.all p hp;refine⟨q,q0,q1,?_⟩;obtain⟨c,⟨c0,ck⟩,h1,h2⟩:=iP hk hs q0 q1;have hE:=h.hE c c0 ck;have hr:=NM (b:=b) c0 ck;have hb:=hp.1;rw[h.rest c q c0 ck h1 ?_,e];rcases cz q (T c) with d|d
 ·omega
 ·have:=b.none_ c q c0 ck d h2;omega
include hk hs in
theorem FB (h:kF s k R T row3 row E (CS s row 0)) (b:uB s k R T row3):row.Perm (iota s.length)/\(∀q:Int,0<=q->q+1<s.length->rd s (rd row q)<=rd s (rd row (q+1)))/\row.Pairwise R:=by
 have gl: ∀p:Int,0<=p/\p<s.length-> ∃q:Int,0<=q/\q<s.length/\rd row q=p:=λp hp=>by
  rcases sJ hp with l|l
  ·exact aBv hk hs h b l
  ·exact TU hk hs h b (s.length-p).toNat p G l
 have ov:(iota s.length).Perm row:=sG (fB _) (λx hx=>by
  obtain⟨q,q0,q1,rfl⟩:=gl x (aZ.1 hx)
  exact bG q0 (by rw[h.len];exact q1)) (by rw[h.len,bA];exact ed _)
 have fb: ∀q:Int,0<=q->q<s.length->0<=rd row q/\rd row q<s.length:=λq q0 q1=>aZ.1 (ov.symm.subset (bG q0 (by rw[h.len];exact q1)))
 have v7: ∀c q:Int,0<=c->c<k->st s k c<=q->q<st s k (c+1)->0<=q->q<s.length->rd s (rd row q)=c:=λc q c0 ck h1 h2 q0 q1=>by
  have hp:=fb q q0 q1;rcases h.at_ b c0 ck h1 h2 with a|a|a
  ·exact a.2.2
  ·exact a.2.2
  ·omega
 refine⟨ov.symm,λq q0 q1=> ?_,?_⟩
 ·obtain ⟨c,⟨c0,ck⟩,h1,h2⟩:=iP hk hs q0 G;obtain⟨d,⟨d0,dk⟩,h3,h4⟩:=iP hk hs (q:=q+1) G q1;rw[v7 c q c0 ck h1 h2 q0 G,v7 d (q+1) d0 dk h3 h4 G q1];rcases cz d c with e|e
  ·have:=lT (s:=s) d0 e (by omega:c<=k);omega
  ·exact e
 ·refine dz.2 λx y hx hy Pl=> ?_
  have e: ∀z (hz:z<row.length),rd row z=row[z]:=λz hz=>by
   unfold rd;rw[dh,ai,av hz];rfl
  rw[h.len] at hx hy;have:=h.sorted x y G G G (fb x G G).1 (fb y G G).1;rwa[e x (by rw[h.len];exact hx),e y (by rw[h.len];exact hy)] at this
end
end Go.Pure
namespace Go.Pure
open Go Go.Eng
section
variable {s:AH} {k:Int}
structure yX (s:AH) (k:Int) (l:AH) (row E:AH):Prop where
 len:row.length=s.length
 elen:E.length=k.toNat
 hE: ∀c,0<=c->c<k->rd E c=st s k (c+1)-(eH l s c).length
 vals: ∀c u:Int,0<=c->c<k->0<=u->u<(eH l s c).length->rd row (rd E c+u)=rd (eH l s c) u
 none_: ∀c q,0<=c->c<k->st s k c<=q->q<rd E c->rd row q= -1
def lF (s l:AH):Prop:=l.Nodup/\ ∀j∈l,(0<=j/\j<s.length)/\gZ s j=true
theorem lM {l:AH} (h:l.Perm (bP s)):lF s l:=⟨h.symm.nodup (BR s),λj hj=>uU.1 (h.subset hj)⟩
theorem lF.tail {l:AH} {j:Int} (h:lF s (j::l)):lF s l:=⟨(xg.1 h.1).2,λx hx=>h.2 x (gm _ hx)⟩
theorem lF.small {l:AH} (h:lF s l) {j:Int} (hj:j∈l):isS s j:=⟨(h.2 j hj).1,(oF.1 (h.2 j hj).2).2.1⟩
theorem xS {l:AH} (h:lF s l) (c:Int):(eH l s c).length<=(KS s c).length:=
 pM (h.1.sublist ut) λx hx=>by
  obtain⟨h1,h2⟩:=ow.1 hx;rw[jb] at h2;exact PM.2 ⟨h.small h1,h2⟩
theorem qP {l keys:AH} {j c:Int} (h:rd keys j=c):eH (j::l) keys c=j::eH l keys c:=by
 unfold eH;rw[pg (by simpa using h)]
theorem uS {l keys:AH} {j c:Int} (h:rd keys j≠c):eH (j::l) keys c=eH l keys c:=by
 unfold eH;rw[lh (by simpa using h)]
theorem aHn (hk:0<=k) (hs: ∀x∈s,0<=x/\x<k) {E:AH} (hE:E.length=k.toNat) (Us: ∀c,0<=c->c<k->rd E c=st s k (c+1)):yX s k [] (List.replicate s.length (-1)) E:=by
 refine⟨cD,hE,λc c0 ck=>by rw[Us c c0 ck];simp[eH],λc u _ _ _ hu=>by simp[eH] at hu;omega,λc q c0 ck h1 h2=> ?_⟩;rw[Us c c0 ck] at h2;have h0:=gP (s:=s) (k:=k) (c:=c);have h3:=AA hk hs (c:=c+1) G G;unfold rd;rw[ai,zf,dm G];rfl
variable {row E:AH} {l:AH} {j:Int}
theorem yX.room (hk:0<=k) (hs: ∀x∈s,0<=x/\x<k) (h:yX s k l row E) (ok:lF s (j::l)):st s k (rd s j)<=rd E (rd s j)-1/\(0<=rd E (rd s j)-1/\rd E (rd s j)-1<s.length)/\(0<=rd s j/\rd s j<k)/\rd E (rd s j)<=st s k (rd s j+1):=by
 have hj:=ok.2 j cD;obtain⟨c0,ck⟩:=oI hs hj.1;have h1:=xS ok (rd s j);rw[qP rfl,dn] at h1;have h2:=lS (s:=s) c0 ck;have h3:=h.hE _ c0 ck;have h4:=gP (s:=s) (k:=k) (c:=rd s j);have h5:=AA hk hs (c:=rd s j+1) G G;omega
theorem yX.step (hk:0<=k) (hs: ∀x∈s,0<=x/\x<k) (h:yX s k l row E) (ok:lF s (j::l)):yX s k (j::l) (upd row (rd E (rd s j)-1) j) (upd E (rd s j) (rd E (rd s j)-1)):=by
 obtain⟨r1,⟨r2,r3⟩,⟨c0,ck⟩,r4⟩:=h.room hk hs ok;have gn: ∀q,0<=q->rd (upd row (rd E (rd s j)-1) j) q=if q=rd E (rd s j)-1 then j else rd row q:=λq q0=>gV r2 q0 (by rw[h.len];omega)
 have Rb: ∀c,0<=c->rd (upd E (rd s j) (rd E (rd s j)-1)) c=if c=rd s j then rd E (rd s j)-1 else rd E c:=λc Uj=>gV c0 Uj (by rw[h.elen];omega)
 refine⟨by rw[aY];exact h.len,by rw[aY];exact h.elen,λc d0 dk=> ?_,λc u d0 dk u0 hu=> ?_,λc q d0 dk q1 q2=> ?_⟩
 ·rw [Rb c d0];by_cases e:c=rd s j
  ·rw[dm e,e,qP rfl,h.hE _ c0 ck,dn];omega
  ·rw[df e,uS λh=>e h.symm];exact h.hE c d0 dk
 ·rw [Rb c d0];have Oc:=h.hE c d0 dk;have hsc:=lS (s:=s) d0 dk;have Lo:=xS ok c;have t6:=gP (s:=s) (k:=k) (c:=c);by_cases e:c=rd s j
  ·subst e;rw[dm rfl];rw[qP rfl] at hu Lo ⊢;rw[dn] at hu Lo;rw[gn _ G];by_cases e2:u=0
   ·subst e2;rw[dm G];rfl
   ·rw [df G];have:=h.vals _ (u-1) c0 ck G G;rw[show rd E (rd s j)-1+u=rd E (rd s j)+(u-1) by omega,this];unfold rd;rw[show u.toNat=(u-1).toNat+1 by omega];rfl
  ·rw [df e];rw[uS λh=>e h.symm] at hu Lo ⊢;rw[gn _ G,df,h.vals c u d0 dk u0 hu];intro e2;exact e (pU (s:=s) d0 dk c0 ck (q:=rd E c+u) G G G G)
 ·rw [Rb c d0] at q2;have Oc:=h.hE c d0 dk;have t6:=gP (s:=s) (k:=k) (c:=c);rw[gn q G];by_cases e:c=rd s j
  ·rw [dm e] at q2;rw[df G];subst e;exact h.none_ _ q d0 dk q1 G
  ·rw [df e] at q2;rw[df,h.none_ c q d0 dk q1 q2];intro e2;exact e (pU (s:=s) d0 dk c0 ck (q:=q) q1 G G G)
theorem jK {l:AH} {u:Nat} (h:u<l.length):rd l (u:Int)=l[u]:=by
 unfold rd;rw[dh,ai,av h];rfl
theorem gB {l:AH} {i:Int} (h0:0<=i) (h:i<l.length):rd l i=l[i.toNat]' G:=by
 unfold rd;rw[ai,av G];rfl
theorem fP {l:AH} {r:Int->Int->Prop} (h:l.Pairwise r) {i j:Int} (h0:0<=i) (mz:i<j) (hj:j<l.length):r (rd l i) (rd l j):=by
 rw[gB h0 G,gB G hj];exact dz.1 h i.toNat j.toNat G G G
theorem kM {l:AH} (hd:l.Nodup) {i j:Int} (h0:0<=i) (h:i<l.length) (g0:0<=j) (g:j<l.length) (e:rd l i=rd l j):i=j:=by
 have hi:i.toNat<l.length:=G
 have hj:j.toNat<l.length:=G
 unfold rd at e;rw[ai,ai,av hi,av hj] at e;simp only[qd] at e;rcases jl i j with a|a|a
 ·exact absurd e (dz.1 hd i.toNat j.toNat hi hj G)
 ·exact a
 ·exact absurd e.symm (dz.1 hd j.toNat i.toNat hj hi G)
theorem vW {R:Int->Int->Prop} (hR:bBs s R) (hk:0<=k) (hs: ∀x∈s,0<=x/\x<k) (h:yX s k l row E) (hp:l.Perm (bP s)) (hσ: ∀c,(eH l s c).Pairwise R):wJ s k R (λc=>(eH l s c).length) row:=by
 have ok:=lM hp
 have rh: ∀c q,0<=c->c<k->st s k c<=q->q<st s k (c+1)->(q<rd E c/\rd row q= -1)\/(rd E c<=q/\rd row q=rd (eH l s c) (q-rd E c)/\rd row q∈eH l s c):=by
  intro c q c0 ck h1 h2;have Oc:=h.hE c c0 ck;rcases cz q (rd E c) with a|a
  ·exact .inl ⟨a,h.none_ c q c0 ck h1 a⟩
  ·have:=h.vals c (q-rd E c) c0 ck G G;rw[show rd E c+(q-rd E c)=q by omega] at this;refine .inr ⟨a,this,?_⟩;rw[this];exact bG G G
 have ft: ∀ {c x},x∈eH l s c->isS s x/\rd s x=c/\x∈l:=λ{c x} hx=>by
  obtain⟨h1,h2⟩:=ow.1 hx;rw[jb] at h2;exact⟨ok.small h1,h2,h1⟩
 have fb: ∀q:Int,0<=q->q<s.length->0<=rd row q-> ∃c,(0<=c/\c<k)/\st s k c<=q/\q<st s k (c+1)/\rd E c<=q/\rd row q=rd (eH l s c) (q-rd E c)/\rd row q∈eH l s c:=by
  intro q q0 q1 hq;obtain⟨c,⟨c0,ck⟩,h1,h2⟩:=iP hk hs q0 q1;rcases rh c q c0 ck h1 h2 with a|a
  ·omega
  ·exact⟨c,⟨c0,ck⟩,h1,h2,a⟩
 refine⟨h.len,λc c0 ck=>⟨G,by have:=xS ok c;omega⟩,λc q c0 ck h1 h2=> ?_,λc q c0 ck h1 h2=> ?_,λq r q0 q1 r0 r1 hq e=> ?_,λp p0 p1 hf=> ?_,λx y x0 xy y1 hx hy=> ?_⟩
 ·have Oc:=h.hE c c0 ck;have gd:=lS (s:=s) c0 ck;have:=xS ok c;rcases rh c q c0 ck G h2 with a|a
  ·omega
  ·have:=ft a.2.2;exact⟨this.1,this.2.1⟩
 ·have Oc:=h.hE c c0 ck;exact h.none_ c q c0 ck h1 G
 ·rw [h.len] at q1 r1;obtain⟨c,⟨c0,ck⟩,h1,h2,h3,h4,h5⟩:=fb q q0 q1 hq;obtain⟨d,⟨d0,dk⟩,g1,g2,g3,g4,g5⟩:=fb r r0 r1 G
  have Eq:c=d:=by
   have a:=(ft h5).2.1;have b:=(ft g5).2.1;rw[e] at a;omega
  subst Eq;have Oc:=h.hE c c0 ck;rw[h4,g4] at e;have:=kM (ok.1.sublist ut:(eH l s c).Nodup) G G G G e;omega
 ·have tk:=hp.symm.subset (uU.2 ⟨⟨p0,p1⟩,hf⟩);obtain⟨c0,ck⟩:=oI hs ⟨p0,p1⟩;have Mj:p∈eH l s (rd s p):=ow.2 ⟨tk,cD⟩;obtain⟨u,hu,e⟩:=ib.1 Mj;have Oc:=h.hE _ c0 ck;have gd:=lS (s:=s) c0 ck;have Lo:=xS ok (rd s p);have t6:=gP (s:=s) (k:=k) (c:=rd s p);have nw:=AA hk hs (c:=rd s p+1) G G;refine⟨rd E (rd s p)+u,G,G,?_⟩;rw[h.vals _ u c0 ck G G,jK hu];exact e
 ·obtain ⟨c,⟨c0,ck⟩,h1,h2,h3,h4,h5⟩:=fb x x0 G hx;obtain⟨d,⟨d0,dk⟩,g1,g2,g3,g4,g5⟩:=fb y G y1 hy;have a:=ft h5;have b:=ft g5;rcases jl c d with Eq|Eq|Eq
  ·exact hR.char a.1.1 b.1.1 G
  ·subst Eq;have Oc:=h.hE c c0 ck;rw[h4,g4];exact fP (hσ c) G G G
  ·have:=lT (s:=s) d0 Eq (by omega:c<=k);omega
def noS (s:AH) (x:Int):Int:=if 0<=x/\smB s x=true then -1 else x
theorem cleared (hk:0<=k) (hs: ∀x∈s,0<=x/\x<k) {R R':Int->Int->Prop} (Ni: ∀p q,isL s p->isL s q->R p q->R' p q) {mF:Int->Int} {row0 H V:AH} (h:kG s k R mF row0 row H (CL s row s.length)) (b:wJ s k R mF row0) (hl:V.length=s.length) (hV: ∀q:Int,0<=q->q<s.length->rd V q=noS s (rd row q)):
  uB s k R' (λc=>rd H c) V/\ ∀q:Int,0<=q->q<s.length-> ¬isS s (rd V q):=by
 have t6: ∀q:Int,0<=q->q<s.length->0<=rd V q->rd V q=rd row q:=λq q0 q1 hq=>by
  rw[hV q q0 q1] at hq ⊢;unfold noS at hq ⊢;split
  ·rename_i e;rw[dm e] at hq;omega
  ·rfl
 have hL: ∀q:Int,0<=q->q<s.length->isL s (rd row q)->rd V q=rd row q:=λq q0 q1 hq=>by
  rw[hV q q0 q1];unfold noS;rw[df];rintro⟨_,e⟩;exact hq.not_S ⟨hq.1,e⟩
 refine⟨⟨hl,h.hH,λc q c0 ck h1 h2=> ?_,λc q c0 ck h1 h2=> ?_,λq r q0 q1 r0 r1 hq e=> ?_,λp hp=> ?_,λx y x0 xy y1 hx hy=> ?_⟩,λq q0 q1 hq=> ?_⟩
 ·have h0:=gP (s:=s) (k:=k) (c:=c);have hH:=h.hH c c0 ck;have hr:=LH (b:=b) c0 ck;have hm:=b.m0 c c0 ck;have nw:=AA hk hs (c:=c+1) G G;have:=h.placed c q c0 ck h1 h2;rw[hL q G G this.1];exact this
 ·have h0:=gP (s:=s) (k:=k) (c:=c);have hH:=h.hH c c0 ck;have nw:=AA hk hs (c:=c+1) G G;rw[hV q G G];unfold noS;rcases h.at_ b c0 ck G h2 with a|a|a
  ·omega
  ·rw[dm ⟨a.2.1.1.1,a.2.1.2⟩]
  ·rw[a.2,df G]
 ·rw [hl] at q1 r1;have e1:=t6 q q0 q1 hq;have e2:=t6 r r0 r1 G;exact h.once q r q0 (by rw[h.len];exact q1) r0 (by rw[h.len];exact r1) G G
 ·obtain ⟨q,q0,q1,e⟩:=UW hk hs h b (s.length-p).toNat p G hp;exact⟨q,q0,q1,by rw[hL q q0 q1 (by rw[e];exact hp)];exact e⟩
 ·have ex:=t6 x x0 G hx;have ey:=t6 y G y1 hy;rw[ex,ey];rw[ex] at hx;rw[ey] at hy
  have hLV: ∀q:Int,0<=q->q<s.length->0<=rd row q->rd V q=rd row q->isL s (rd row q):=λq q0 q1 hq eV=>by
   obtain⟨c,⟨c0,ck⟩,h1,h2⟩:=iP hk hs q0 q1;rcases h.at_ b c0 ck h1 h2 with a|a|a
   ·exact a.2.1
   ·rw [hV q q0 q1] at eV;unfold noS at eV;rw[dm ⟨a.2.1.1.1,a.2.1.2⟩] at eV;omega
   ·omega
  exact Ni _ _ (hLV x x0 G hx ex) (hLV y G y1 hy ey) (h.sorted x y x0 xy y1 hx hy)
 ·have e:=t6 q q0 q1 hq.1.1;rw[e] at hq;rw[hV q q0 q1] at e;unfold noS at e;rw[dm ⟨hq.1.1,hq.2⟩] at e;have:=hq.1.1;omega
def bKn (s:AH) (j:Int) (z:AH × AH):AH × AH:=(upd z.1 (rd z.2 (rd s j)-1) j,upd z.2 (rd s j) (rd z.2 (rd s j)-1))
def bEx (s:AH) (j:Int) (z:AH × AH):AH × AH:=(upd z.1 (rd z.2 (rd s j)) j,upd z.2 (rd s j) (rd z.2 (rd s j)+1))
def ZY (s:AH) (i:Int) (z:AH × AH):AH × AH:=if 0<rd z.1 i/\smB s (rd z.1 i-1)=false then bEx s (rd z.1 i-1) z else z
def ZW (s:AH) (i:Int) (z:AH × AH):AH × AH:=if 0<rd z.1 i/\smB s (rd z.1 i-1)=true then bKn s (rd z.1 i-1) z else z
def sM (cs:AH):AH:=(List.range cs.length).map λi:Nat=>ps cs ((i:Int)+1)
def itF (s:AH) (k:Int) (l:AH):AH × AH:=l.foldr (bKn s) (List.replicate s.length (-1),sM (fI s k))
def itL (s:AH) (k:Int) (l:AH):Nat->AH × AH
 |0=>bEx s (s.length-1) ((itF s k l).1,dO (fI s k))
 |i+1=>ZY s i (itL s k l i)
def FX (s row:AH):AH:=row.map (noS s)
def itS (s:AH) (k:Int) (l:AH):Nat->AH × AH
 |0=>(FX s (itL s k l s.length).1,sM (fI s k))
 |m+1=>ZW s (s.length-1-m) (itS s k l m)
def sW (s:AH) (k:Int) (l:AH):AH:=(itS s k l s.length).1
theorem JA (cs:AH):(sM cs).length=cs.length:=by simp[sM]
theorem OG {cs:AH} {i:Int} (h0:0<=i) (h:i<cs.length):rd (sM cs) i=ps cs (i+1):=by
 unfold sM;rw[iT h0 h];rw[show((i.toNat:Nat):Int)=i by omega]
variable (hk:0<=k) (hs: ∀x∈s,0<=x/\x<k)
include hk hs in
theorem BQ: ∀ {l:AH},lF s l->yX s k l (itF s k l).1 (itF s k l).2
 |[],_=>aHn hk hs (by show(sM _).length=_;rw[JA,eO]) λc c0 ck=>by
  show rd (sM _) c=_;rw[OG c0 (by rw[eO];omega)];rfl
 |j::l,ok=>(BQ (l:=l) ok.tail).step hk hs ok
section
variable {R R':Int->Int->Prop} (hR:bBs s R) (Ps:bGs s R') (Ni: ∀p q,isL s p->isL s q->R p q->R' p q) (hσ: ∀c,(eH l s c).Pairwise R)
include hk hs hR hσ in
theorem XU (hp:l.Perm (bP s)) (hn:0<s.length): ∀i:Nat,i<=s.length->kG s k R (λc=>(eH l s c).length) (itF s k l).1 (itL s k l i).1 (itL s k l i).2 (CL s (itL s k l i).1 i)
 |0,_=>aBw hk hs hR (vW hR hk hs (BQ hk hs (lM hp)) hp hσ) hn (by rw[gH,eO]) λc c0 ck=>oW c0 (by rw[eO];omega)
 | i+1,hi=>by
  have ih:=XU hp hn i G;have b:=vW hR hk hs (BQ hk hs (lM hp)) hp hσ;rw[show((i+1:Nat):Int)=(i:Int)+1 by omega];rw[itL];unfold ZY;split
  ·rename_i hc;exact aHb hk hs hR ih b G G hc
  ·rename_i hc;exact aHc ih hc
theorem bDn {row:AH} {q:Int} (h0:0<=q) (h:q<row.length):rd (FX s row) q=noS s (rd row q):=by
 unfold FX rd;rw[ai,ai,lq,av G];rfl
include hk hs hR hσ Ni in
theorem tX (hp:l.Perm (bP s)) (hn:0<s.length):uB s k R' (λc=>rd (itL s k l s.length).2 c) (FX s (itL s k l s.length).1)/\ ∀q:Int,0<=q->q<s.length-> ¬isS s (rd (FX s (itL s k l s.length).1) q):=by
 have h:=XU hk hs hR hσ hp hn s.length (ed _);exact cleared hk hs Ni h (vW hR hk hs (BQ hk hs (lM hp)) hp hσ) (by unfold FX;rw[bu];exact h.len) λq q0 q1=>bDn q0 (by rw[h.len];exact q1)
include hk hs hR Ps hσ Ni in
theorem XT (hp:l.Perm (bP s)) (hn:0<s.length): ∀m:Nat,m<=s.length->kF s k R' (λc=>rd (itL s k l s.length).2 c) (FX s (itL s k l s.length).1) (itS s k l m).1 (itS s k l m).2 (CS s (itS s k l m).1 (s.length-m))
 | 0,_=>by
  have b:=tX hk hs hR Ni hσ hp hn
  exact aAd b.1 (by show(sM _).length=_;rw[JA,eO]) (λc c0 ck=>by
   show rd (sM _) c=_;rw[OG c0 (by rw[eO];omega)]
   rfl) b.2
 | m+1,hm=>by
  have ih:=XT hp hn m G;have b:=(tX hk hs hR Ni hσ hp hn).1;rw[show(s.length:Int)-(m:Nat)=(s.length-1-(m:Int))+1 by omega] at ih;rw[show(s.length:Int)-((m+1:Nat):Int)=s.length-1-(m:Int) by omega];rw[itS];unfold ZW;split
  ·rename_i hc;exact aFo hk hs Ps ih b G G hc
  ·rename_i hc;exact aFp ih hc
include hk hs hR Ps hσ Ni in
theorem aCa (hp:l.Perm (bP s)) (hn:0<s.length):(sW s k l).Perm (iota s.length)/\(∀q:Int,0<=q->q+1<s.length->rd s (rd (sW s k l) q)<=rd s (rd (sW s k l) (q+1)))/\(sW s k l).Pairwise R':=by
 have h:=XT hk hs hR Ps Ni hσ hp hn s.length (ed _);rw[show(s.length:Int)-(s.length:Nat)=0 by omega] at h;exact FB hk hs h (tX hk hs hR Ni hσ hp hn).1
end
def RO (s l:AH) (x y:Int):Prop:=l.Pairwise (bV s)->bV s x y
theorem bBt:bBs s (RO s l):=⟨λhp hq h _=>uQ hp hq h,λhp hq h _=>aGv hp hq h,λhn q0 hq e _ _=>aWf hn q0 hq e,λhp hq p1 q1 e h hσ=>OZ hp.1.1 p1 hq.1.1 q1 e (h hσ)⟩
theorem bQs:bGs s (RO s l):=⟨λhp hq h _=>uQ hp hq h,λhp hq h _=>aGv hp hq h,λhp hq p1 q1 e h hσ=>OZ hp.1.1 p1 hq.1.1 q1 e (h hσ)⟩
theorem RN (c:Int):(eH l s c).Pairwise (RO s l):=by
 by_cases h:l.Pairwise (bV s)
 ·exact(h.sublist ut:(eH l s c).Pairwise (bV s)).imp λh _=>h
 ·exact List.pairwise_of_forall λ_ _ hσ=>absurd hσ h
include hk hs in
theorem yH (hp:l.Perm (bP s)):wJ s k (RO s l) (λc=>(eH l s c).length) (itF s k l).1:=vW bBt hk hs (BQ hk hs (lM hp)) hp RN
include hk hs in
theorem XV (hp:l.Perm (bP s)) (hn:0<s.length): ∀i:Nat,i<=s.length->kG s k (RO s l) (λc=>(eH l s c).length) (itF s k l).1 (itL s k l i).1 (itL s k l i).2 (CL s (itL s k l i).1 i):=XU hk hs bBt RN hp hn
include hk hs in
theorem QX (hp:l.Perm (bP s)) (hn:0<s.length):uB s k (RO s l) (λc=>rd (itL s k l s.length).2 c) (FX s (itL s k l s.length).1)/\ ∀q:Int,0<=q->q<s.length-> ¬isS s (rd (FX s (itL s k l s.length).1) q):=tX hk hs bBt (λ_ _ _ _ h=>h) RN hp hn
include hk hs in
theorem aXt (hp:l.Perm (bP s)) (hn:0<s.length): ∀m:Nat,m<=s.length->kF s k (RO s l) (λc=>rd (itL s k l s.length).2 c) (FX s (itL s k l s.length).1) (itS s k l m).1 (itS s k l m).2 (CS s (itS s k l m).1 (s.length-m)):=XT hk hs bBt bQs (λ_ _ _ _ h=>h) RN hp hn
include hk hs in
theorem aLg (hp:l.Perm (bP s)) (hn:0<s.length):(sW s k l).Perm (iota s.length)/\(∀q:Int,0<=q->q+1<s.length->rd s (rd (sW s k l) q)<=rd s (rd (sW s k l) (q+1)))/\(l.Pairwise (bV s)->(sW s k l).Pairwise (bV s)):=by
 have h:=aCa hk hs (l:=l) bBt bQs (λ_ _ _ _ h=>h) RN hp hn;exact⟨h.1,h.2.1,λhσ=>h.2.2.imp λh=>h hσ⟩
end
end Go.Pure
namespace Go.Pure
open Go Go.Eng
section
variable {s:AH} {k:Int} {l row E H V:AH}
theorem aXu {m:Nat} (hm:m<l.length):itF s k (l.drop m)=bKn s (rd l (m:Int)) (itF s k (l.drop (m+1))):=by
 unfold itF;rw[jK hm,mf hm,List.foldr_cons]
theorem FJ (h:lF s l) (m:Nat):lF s (l.drop m):=⟨h.1.sublist (ze _ _),λj hj=>h.2 j (nu hj)⟩
variable (hk:0<=k) (hs: ∀x∈s,0<=x/\x<k)
include hk hs in
include hk hs in
theorem fF (hp:l.Perm (bP s)) {m:Nat} (hm:m<l.length) (hr:row=(itF s k (l.drop (m+1))).1) (hE:E=(itF s k (l.drop (m+1))).2):
  (0<=rd l (m:Int)/\rd l (m:Int)<s.length)/\(0<=rd s (rd l (m:Int))/\rd s (rd l (m:Int))<k)/\(0<=rd E (rd s (rd l (m:Int)))-1/\rd E (rd s (rd l (m:Int)))-1<s.length)/\(row.length=s.length/\E.length=k.toNat)/\
  upd row (rd E (rd s (rd l (m:Int)))-1) (rd l (m:Int))=(itF s k (l.drop m)).1/\upd E (rd s (rd l (m:Int))) (rd E (rd s (rd l (m:Int)))-1)=(itF s k (l.drop m)).2:=by
 have ok:=lM hp;have h:=BQ hk hs (FJ ok (m+1))
 have ok2:lF s (rd l (m:Int)::l.drop (m+1)):=by
  have:=FJ ok m;rwa[mf hm,<-jK hm] at this
 have r:=h.room hk hs ok2;rw[aXu hm];subst hr;subst hE;exact⟨(ok2.2 _ cD).1,r.2.2.1,r.2.1,⟨h.len,h.elen⟩,rfl,rfl⟩
include hk hs in
theorem fL0 (hp:l.Perm (bP s)) (hn:0<s.length) (hr:row=(itF s k l).1) (hH:H=dO (fI s k)):
  (0<=rd s ((s.length:Int)-1)/\rd s ((s.length:Int)-1)<k)/\(0<=rd H (rd s ((s.length:Int)-1))/\rd H (rd s ((s.length:Int)-1))<s.length)/\(row.length=s.length/\H.length=k.toNat)/\
  upd row (rd H (rd s ((s.length:Int)-1))) ((s.length:Int)-1)=(itL s k l 0).1/\upd H (rd s ((s.length:Int)-1)) (rd H (rd s ((s.length:Int)-1))+1)=(itL s k l 0).2/\smB s ((s.length:Int)-1)=false:=by
 have h:=BQ hk hs (lM hp);have hc:=oI hs (p:=(s.length:Int)-1) G;have gd:rd H (rd s ((s.length:Int)-1))=st s k (rd s ((s.length:Int)-1)):=by rw[hH,oW hc.1 (by rw[eO];omega)];rfl
 have h1:=gP (s:=s) (k:=k) (c:=rd s ((s.length:Int)-1));have h2:=lS (s:=s) hc.1 hc.2;have h3:=AA hk hs (c:=rd s ((s.length:Int)-1)+1) G G;have hl:isL s ((s.length:Int)-1):=⟨G,rY G G⟩;have h4:0<(KT s (rd s ((s.length:Int)-1))).length:=Ec (PN.2 ⟨hl,rfl⟩);have Tt:=hl.2;subst hr;subst hH;exact⟨hc,G,⟨h.len,by rw[gH,eO]⟩,rfl,rfl,Tt⟩
include hk hs in
theorem fLe (hp:l.Perm (bP s)) (hn:0<s.length) {i:Nat} (hi:i<s.length) (hr:row=(itL s k l i).1) (hH:H=(itL s k l i).2):
  (rd row (i:Int)= -1\/(0<=rd row (i:Int)/\rd row (i:Int)<s.length))/\(row.length=s.length/\H.length=k.toNat):=by
 have h:=XV hk hs hp hn i G;have b:=yH hk hs hp;subst hr;subst hH;exact⟨h.entry hk hs b G G,h.len,h.hlen⟩
include hk hs in
theorem fL (hp:l.Perm (bP s)) (hn:0<s.length) {i:Nat} (hi:i<s.length) (hr:row=(itL s k l i).1) (hH:H=(itL s k l i).2) (hc:0<rd row (i:Int)/\smB s (rd row (i:Int)-1)=false):
  rd row (i:Int)<s.length/\(0<=rd s (rd row (i:Int)-1)/\rd s (rd row (i:Int)-1)<k)/\(0<=rd H (rd s (rd row (i:Int)-1))/\rd H (rd s (rd row (i:Int)-1))<s.length)/\
  upd row (rd H (rd s (rd row (i:Int)-1))) (rd row (i:Int)-1)=(itL s k l (i+1)).1/\upd H (rd s (rd row (i:Int)-1)) (rd H (rd s (rd row (i:Int)-1))+1)=(itL s k l (i+1)).2:=by
 have h:=XV hk hs hp hn i G;have b:=yH hk hs hp;subst hr;subst hH;obtain⟨h1,h2,h3,_⟩:=UV hk hs h b G G hc;have hb:=oI hs h1.1;have hr:=h.room hk hs b h1 h2;have h4:=(h.hH _ hb.1 hb.2).1;have h5:=gP (s:=s) (k:=k) (c:=rd s (rd (itL s k l i).1 (i:Int)-1));have h6:=AA hk hs (c:=rd s (rd (itL s k l i).1 (i:Int)-1)+1) G G;have h7:=lS (s:=s) hb.1 hb.2;refine⟨h3,hb,⟨G,G⟩,?_,?_⟩
 ·rw[itL,ZY,dm hc];rfl
 ·rw[itL,ZY,dm hc];rfl
theorem fLs {i:Nat} (hr:row=(itL s k l i).1) (hH:H=(itL s k l i).2) (hc: ¬(0<rd row (i:Int)/\smB s (rd row (i:Int)-1)=false)):row=(itL s k l (i+1)).1/\H=(itL s k l (i+1)).2:=by
 subst hr;subst hH;rw[itL,ZY,df hc];exact⟨rfl,rfl⟩
def sS (s row:AH) (i:Int):AH:=(row.take i.toNat).map (noS s)++row.drop i.toNat
theorem aRs:sS s row 0=row:=by simp[sS]
theorem aDs (i:Int):(sS s row i).length=row.length:=by simp[sS];omega
theorem bAn {i:Int} (h:(row.length:Int)<=i):sS s row i=FX s row:=by
 unfold sS FX;rw[bg G,ol G,iw]
theorem XD {i q:Int} (q0:0<=q) (hq:i<=q) (h0:0<=i) (hl:i<=row.length):rd (sS s row i) q=rd row q:=by
 unfold sS rd;rw[ai,ai,jk cH,sj];simp only[bu,ax];congr 2;omega
theorem VP {i:Int} (h0:0<=i) (hi:i<row.length):sS s row (i+1)=upd (sS s row i) i (noS s (rd row i)):=by
 unfold sS upd;have br:i.toNat<row.length:=G
 rw[show(i+1).toNat=i.toNat+1 by omega,qy,av br,Ex _ _ cH,jc];simp only[bu,ax,Bf,jm,rz,dx,pz];congr 1;rw[show i.toNat-min i.toNat row.length=0 by omega,mf br,Ht,gB h0 hi]
theorem bGa {i:Int} (h0:0<=i) (hi:i<row.length) (h:0<=rd (sS s row i) i/\smB s (rd (sS s row i) i)=true):upd (sS s row i) i (-1)=sS s row (i+1):=by
 rw[XD h0 (ni _) h0 G] at h;rw[VP h0 hi,noS,dm h]
theorem aTj {l:AH} {i:Int} (h0:0<=i) (hi:i<l.length):upd l i (rd l i)=l:=by
 unfold upd;rw[gB h0 hi,List.set_getElem_self]
theorem bLg {i:Int} (h0:0<=i) (hi:i<row.length) (h: ¬(0<=rd (sS s row i) i/\smB s (rd (sS s row i) i)=true)):sS s row i=sS s row (i+1):=by
 have e:=XD (s:=s) (row:=row) h0 (ni _) h0 (by omega:i<=(row.length:Int));rw[e] at h;rw[VP h0 hi,noS,df h];have:=aTj (l:=sS s row i) h0 (by rw[aDs];exact hi);rw[e] at this;exact this.symm
include hk hs in
theorem bGb (hp:l.Perm (bP s)) (hn:0<s.length) {q:Int} (q0:0<=q) (hq:q<s.length):rd (itL s k l s.length).1 q= -1\/(0<=rd (itL s k l s.length).1 q/\rd (itL s k l s.length).1 q<s.length):=
 (XV hk hs hp hn s.length (ed _)).entry hk hs (yH hk hs hp) q0 hq
include hk hs in
theorem LZ (hp:l.Perm (bP s)) (hn:0<s.length):(itL s k l s.length).1.length=s.length:=(XV hk hs hp hn s.length (ed _)).len
include hk hs in
theorem fSe (hp:l.Perm (bP s)) (hn:0<s.length) {m:Nat} (hm:m<s.length) {i:Int} (hi:i=s.length-1-(m:Int)) (hr:row=(itS s k l m).1) (hE:E=(itS s k l m).2):
  (rd row i= -1\/(0<=rd row i/\rd row i<s.length))/\(row.length=s.length/\E.length=k.toNat):=by
 have h:=aXt hk hs hp hn m G;have b:=(QX hk hs hp hn).1;subst hr;subst hE;exact⟨h.entry hk hs b G G,h.len,h.elen⟩
include hk hs in
theorem fS (hp:l.Perm (bP s)) (hn:0<s.length) {m:Nat} (hm:m<s.length) {i:Int} (hi:i=s.length-1-(m:Int)) (hr:row=(itS s k l m).1) (hE:E=(itS s k l m).2) (hc:0<rd row i/\smB s (rd row i-1)=true):
  rd row i<s.length/\(0<=rd s (rd row i-1)/\rd s (rd row i-1)<k)/\(0<=rd E (rd s (rd row i-1))-1/\rd E (rd s (rd row i-1))-1<s.length)/\
  upd row (rd E (rd s (rd row i-1))-1) (rd row i-1)=(itS s k l (m+1)).1/\upd E (rd s (rd row i-1)) (rd E (rd s (rd row i-1))-1)=(itS s k l (m+1)).2:=by
 have h:=aXt hk hs hp hn m G;have b:=(QX hk hs hp hn).1;subst hr;subst hE;have jp:CS s (itS s k l m).1 (s.length-(m:Int))=CS s (itS s k l m).1 (i+1):=by rw[hi];congr 1;omega
 rw[jp] at h;obtain⟨h1,h2,h3,_⟩:=TT hk hs h b G G hc;have hb:=oI hs h1.1;have hr:=h.room hk hs b h1 h2;have h4:=h.hE _ hb.1 hb.2;have h5:=gP (s:=s) (k:=k) (c:=rd s (rd (itS s k l m).1 i-1));have h6:=AA hk hs (c:=rd s (rd (itS s k l m).1 i-1)+1) G G;have h7:=lS (s:=s) hb.1 hb.2;refine⟨h3,hb,⟨G,G⟩,?_,?_⟩
 ·rw[itS,ZW,<-hi,dm hc];rfl
 ·rw[itS,ZW,<-hi,dm hc];rfl
theorem fSs {m:Nat} {i:Int} (hi:i=s.length-1-(m:Int)) (hr:row=(itS s k l m).1) (hE:E=(itS s k l m).2) (hc: ¬(0<rd row i/\smB s (rd row i-1)=true)):row=(itS s k l (m+1)).1/\E=(itS s k l (m+1)).2:=by
 subst hr;subst hE;rw[itS,ZW,<-hi,df hc];exact⟨rfl,rfl⟩
include hk hs in
theorem aYd (hp:l.Perm (bP s)):(sW s k l).length=s.length:=by
 rcases fo s.length with h|h
 ·have e:s=[]:=dw h;subst e;have hl:l=[]:=dw (by rw[hp.length_eq];rfl);subst hl;simp[sW,itS,FX,itL,bEx,itF,upd]
 ·rw[(aLg hk hs hp h).1.length_eq,bA]
theorem aCb (hl:l.Perm (bP [])):sW [] k l=[]:=by
 have hl:l=[]:=dw (by rw[hl.length_eq];rfl);subst hl;simp[sW,itS,FX,itL,bEx,itF,upd]
def smL (s:AH):List Bool:=(List.range s.length).map λi:Nat=>smB s (i:Int)
theorem bCp (s:AH):(smL s).length=s.length:=by simp[smL]
theorem oC {i:Int} (h0:0<=i) (hi:i<s.length):rdb (smL s) i=smB s i:=by
 unfold rdb smL;rw[ai,lq,zi G];simp only[kv,qd];congr 1;omega
theorem bJg {m:List Bool} (hl:m.length=s.length) (h: ∀j:Int,0<=j->j<s.length->rdb m j=smB s j):m=smL s:=
 aRz (by rw[hl,bCp]) λi h0 h1=>by rw[oC h0 G];exact h i h0 G
theorem WO {m:List Bool} {i:Int} {b:Bool} (h0:0<=i) (hi:i+1<s.length) (hl:m.length=s.length) (h: ∀j:Int,i<j->j<s.length->rdb m j=smB s j) (hb:b=true↔rd s i<rd s (i+1)\/rd s i=rd s (i+1)/\rdb m (i+1)=true): ∀j:Int,i-1<j->j<s.length->rdb (qW m i b) j=smB s j:=by
 intro j h1 h2;rw[zH h0 G G];split
 ·rename_i e;subst e;rw[h (j+1) G G,<-xH h0 hi] at hb;cases b<;>cases hh:smB s j<;>simp_all
 ·exact h j G h2
def QA (s:AH) (i:Int):AH:=(iota i.toNat).filter λi=>gZ s i
theorem PZ:QA s s.length=bP s:=by unfold QA bP;rw[dh]
theorem IW {i:Int} (h0:0<=i):QA s (i+1)=QA s i++(if gZ s i=true then [i] else []):=by
 unfold QA;rw[IV h0,uk];congr 1;by_cases h:gZ s i=true
 ·rw[dm h,pg h];rfl
 ·rw[df h,lh h];rfl
theorem aCe (i:Int):(QA s i).length<=i.toNat:=by
 unfold QA;refine qm (ym _ _) ?_;rw[bA];exact ed _
theorem QB:(bP s).length<=s.length:=by rw[<-PZ];have:=aCe (s:=s) s.length;omega
end
end Go.Pure
namespace Go.Pure
open Go Go.Eng
section
variable {s:AH} {k:Int}
theorem yD (n:Nat):(iota n).Pairwise (· < ·):=by
 unfold iota;refine ik.2 (List.Pairwise.imp (λh=> ?_) List.pairwise_lt_range);omega
def kk (s:AH) (p:Int):Int:=if p<s.length then 2*rd s p+(if smB s p=true then 1 else 0) else -1
theorem yA {p:Int} (h:(s.length:Int)<=p):kk s p= -1:=df G
theorem EX {p:Int} (h:p<s.length):kk s p=2*rd s p+(if smB s p=true then 1 else 0):=dm h
theorem XP {p:Int} (h:isL s p):kk s p=2*rd s p:=by rw[EX h.1.2,h.2];simp
theorem XO {p:Int} (h:isS s p):kk s p=2*rd s p+1:=by rw[EX h.1.2,h.2];simp
def Nn (s:AH):Prop:= ∀x∈s,0<=x
theorem aXn (hs:Nn s) {p:Int} (h0:0<=p) (h:p<s.length):0<=kk s p:=by
 have:=hs _ (bG h0 h);rw[EX h];split<;>omega
theorem bMt (hs:Nn s) {p:Int} (h0:0<=p): -1<=kk s p:=by
 rcases cz p s.length with h|h
 ·have:=aXn hs h0 h;omega
 ·rw[yA h];omega
theorem rA (hs:Nn s) {p q:Int} (p0:0<=p) (q0:0<=q) (e:kk s p=kk s q) (h:p<s.length):q<s.length/\rd s p=rd s q/\smB s p=smB s q:=by
 have hq:q<s.length:=by
  rcases cz q s.length with a|a
  ·exact a
  ·have:=aXn hs p0 h;rw[yA a] at e;omega
 rw[EX h,EX hq] at e;cases a:smB s p<;>cases b:smB s q<;>simp[a,b] at e<;>exact⟨hq,G,by first|rfl|omega⟩
theorem bEy (hs:Nn s) {p q:Int} (p0:0<=p) (q0:0<=q) (h:kk s p<kk s q) (hp:p<s.length):bV s p q:=by
 have hq:q<s.length:=by
  rcases cz q s.length with a|a
  ·exact a
  ·have:=aXn hs p0 hp;rw[yA a] at h;omega
 rcases sJ (s:=s) ⟨p0,hp⟩ with a|a<;>rcases sJ (s:=s) ⟨q0,hq⟩ with b|b
 ·rw[XP a,XP b] at h;exact uQ ⟨p0,hp⟩ ⟨q0,hq⟩ G
 ·rw [XP a,XO b] at h;by_cases e:rd s p=rd s q
  ·exact aGv a b e
  ·exact uQ ⟨p0,hp⟩ ⟨q0,hq⟩ G
 ·rw[XO a,XP b] at h;exact uQ ⟨p0,hp⟩ ⟨q0,hq⟩ G
 ·rw[XO a,XO b] at h;exact uQ ⟨p0,hp⟩ ⟨q0,hq⟩ G
theorem EI {q:Int} (q0:0<=q) (hq:q<s.length) {p:Int} (hp:(s.length:Int)<=p):bV s p q:=by
 rw[<-iI,yN hp,iO q0 hq];simp[cmpL]
theorem aXm (hs:Nn s): ∀(d:Nat) (x y:Int),0<=x->0<=y->(∀i:Nat,i<d->kk s (x+i)=kk s (y+i))->kk s (x+d)<kk s (y+d)->bV s x y
 | 0,x,y,x0,y0,_,h=>by
  simp only[Bz,yx] at h;rcases cz x s.length with a|a
  ·exact bEy hs x0 y0 h a
  ·have hy:y<s.length:=by
    rcases cz y s.length with b|b
    ·exact b
    ·rw[yA a,yA b] at h;omega
   exact EI y0 hy a
 | d+1,x,y,x0,y0,he,h=>by
  have e0:=he 0 G;simp only[Bz,yx] at e0
  have ih:=aXm hs d (x+1) (y+1) G G (λi hi=>by
   have:=he (i+1) G
   rwa[show x+((i+1:Nat):Int)=x+1+i by omega,show y+((i+1:Nat):Int)=y+1+i by omega] at this) (by rwa[show x+((d+1:Nat):Int)=x+1+d by omega,show y+((d+1:Nat):Int)=y+1+d by omega] at h)
  rcases cz x s.length with a|a
  ·obtain ⟨hy,e,_⟩:=rA hs x0 y0 e0 a;rw[oD x0 a y0 hy];exact .inr ⟨e,iI.2 ih⟩
  ·have b:(s.length:Int)<=y:=by
    rcases cz y s.length with b|b
    ·have:=(rA hs y0 x0 e0.symm b).1;omega
    ·exact b
   rw[yA (by omega:(s.length:Int)<=x+((d+1:Nat):Int)),yA (by omega:(s.length:Int)<=y+((d+1:Nat):Int))] at h;omega
theorem QZ: ∀(d:Nat) (x y:Int),0<=x->0<=y->x+d<s.length->y+d<s.length->(∀i:Nat,i<d->rd s (x+i)=rd s (y+i))->bV s (x+d) (y+d)->bV s x y
 |0,x,y,_,_,_,_,_,h=>by simpa using h
 | d+1,x,y,x0,y0,hx,hy,he,h=>by
  have e0:=he 0 G;simp only[Bz,yx] at e0;refine OZ x0 G y0 G e0 (QZ d (x+1) (y+1) G G G G (λi hi=> ?_) ?_)
  ·have:=he (i+1) G;rwa[show x+((i+1:Nat):Int)=x+1+i by omega,show y+((i+1:Nat):Int)=y+1+i by omega] at this
  ·rwa[show x+((d+1:Nat):Int)=x+1+d by omega,show y+((d+1:Nat):Int)=y+1+d by omega] at h
def pcL (s:AH) (x y:Int):Prop:= ∀d:Nat,(∀i:Nat,i<d->kk s (x+i)=kk s (y+i)/\gZ s (x+i)=false)->kk s (x+d)<=kk s (y+d)
def pcS (s:AH) (x y:Int):Prop:= ∀d:Nat,(∀i:Nat,i<d->kk s (x+i)=kk s (y+i)/\(0<i->gZ s (x+i)=false))->kk s (x+d)<=kk s (y+d)
def pcE (s:AH) (x y:Int):Prop:= ∀d:Nat,(∀i:Nat,0<i->i<d->gZ s (x+i)=false)->kk s (x+d)=kk s (y+d)
theorem pcS.toL {x y:Int} (h:pcS s x y):pcL s x y:=λd hd=>h d λi hi=>⟨(hd i hi).1,λ_=>(hd i hi).2⟩
theorem pcL.toS {x y:Int} (h:pcL s x y) (hx:gZ s x=false):pcS s x y:=λd hd=>h d λi hi=>⟨(hd i hi).1,by
 rcases fo i with e|e
 ·subst e;simpa using hx
 ·exact(hd i hi).2 e⟩
theorem aVy {x y:Int} (h:kk s x<kk s y):pcS s x y:=λd hd=>by
 rcases fo d with e|e
 ·subst e;simp;omega
 ·have:=(hd 0 e).1;simp at this;omega
theorem OW {x y:Int} (e:kk s x=kk s y) (h:pcL s (x+1) (y+1)):pcS s x y:=λd hd=>by
 match d with
 |0=>simp;omega
 | d+1=>
  have:=h d λi hi=>by
   have:=hd (i+1) G;rw[show x+((i+1:Nat):Int)=x+1+i by omega,show y+((i+1:Nat):Int)=y+1+i by omega] at this;exact⟨this.1,this.2 G⟩
  rwa[show x+((d+1:Nat):Int)=x+1+d by omega,show y+((d+1:Nat):Int)=y+1+d by omega]
theorem isL.not_fst {x:Int} (h:isL s x):gZ s x=false:=by
 cases e:gZ s x with
 |false=>rfl
 |true=>have:=(oF.1 e).2.1;rw[h.2] at this;cases this
theorem aBc {p q:Int} (hp:0<=p/\p<s.length) (hq:0<=q/\q<s.length) (h:rd s p<rd s q):pcS s p q:=by
 refine aVy ?_;rw[EX hp.2,EX hq.2];split<;>split<;>omega
theorem aVz {p q:Int} (hp:isL s p) (hq:isS s q) (e:rd s p=rd s q):pcS s p q:=aVy (by rw[XP hp,XO hq];omega)
theorem bDw (hs:Nn s):bBs s (pcL s):=⟨λhp hq h=>(aBc hp hq h).toL,λhp hq e=>(aVz hp hq e).toL,λ{q} hn q0 hq e hL=>by
  have hl:isL s (s.length-1):=⟨G,rY G G⟩;refine(OW (by rw[XP hl,XP hL,e]) λd hd=> ?_).toL;rw[yA (by omega:(s.length:Int)<=s.length-1+1+d)]
  exact bMt hs G,λhp hq _ _ e h=>(OW (by rw[XP hp,XP hq,e]) h).toL⟩
theorem bDv:bGs s (pcS s):=⟨aBc,aVz,λhp hq _ _ e h=>OW (by rw[XO hp,XO hq,e]) h.toL⟩
theorem bJv (l:AH) (ok:lF s l) (c:Int):(eH l s c).Pairwise (pcL s):=by
 refine dz.2 λi j hi hj _=> ?_;have hx:=ow.1 (lu hi);have hy:=ow.1 (lu hj);rw[jb] at hx hy;intro d hd
 match d with
 |0=>simp only[Bz,yx];rw[XO (ok.small hx.1),XO (ok.small hy.1)];omega
 |d+1=>
  have:=(hd 0 G).2;simp only[Bz,yx] at this;rw[(ok.2 _ hx.1).2] at this;cases this
theorem aHh (hk:0<=k) (hs: ∀x∈s,0<=x/\x<k) {l:AH} (hp:l.Perm (bP s)) (hn:0<s.length):(sW s k l).Perm (iota s.length)/\(sW s k l).Pairwise (pcS s):=by
 have h:=aCa hk hs (bDw λx hx=>(hs x hx).1) bDv (λp q hp _ h=>h.toS hp.not_fst) (bJv l (lM hp)) hp hn;exact⟨h.1,h.2.2⟩
theorem bKr (hs:Nn s) {x y:Int} (x0:0<=x) (y0:0<=y) (e:kk s x=kk s y) (e1:kk s (x+1)=kk s (y+1)):gZ s (x+1)=gZ s (y+1):=by
 unfold gZ;rw[show x+1-1=x by omega,show y+1-1=y by omega];rw[ky (by omega:0<x+1),ky (by omega:0<y+1)];rcases cz (x+1) s.length with a|a
 ·rw[(rA hs x0 y0 e G).2.2,(rA hs G G e1 a).2.2]
 ·have b:(s.length:Int)<=y+1:=by
   rcases cz (y+1) s.length with b|b
   ·have:=(rA hs G G e1.symm b).1;omega
   ·exact b
  rw[rY (i:=x+1) G G,rY (i:=y+1) G G];simp
theorem FC (hs:Nn s) {x y:Int} (x0:0<=x) (y0:0<=y) {i:Nat} (hi:0<i) (e: ∀j:Nat,j<=i->kk s (x+j)=kk s (y+j)):gZ s (x+i)=gZ s (y+i):=by
 have h1:=e (i-1) G;have h2:=e i (ed _);have:=bKr hs (x:=x+((i-1:Nat):Int)) (y:=y+((i-1:Nat):Int)) G G h1 (by rwa[show x+((i-1:Nat):Int)+1=x+i by omega,show y+((i-1:Nat):Int)+1=y+i by omega]);rwa[show x+((i-1:Nat):Int)+1=x+i by omega,show y+((i-1:Nat):Int)+1=y+i by omega] at this
theorem DT (hs:Nn s) {x u v y:Int} (x0:0<=x) (u0:0<=u) (v0:0<=v) (h1:pcS s x u) (h2:pcS s u v) (h3:pcS s v y) (he:pcE s x y): ∀d:Nat,(∀i:Nat,0<i->i<d->gZ s (u+i)=false)-> ∀i:Nat,i<=d->kk s (x+i)=kk s (u+i)/\kk s (u+i)=kk s (v+i)/\kk s (x+i)=kk s (y+i)
 |0,_,i,hi=>by
  obtain rfl:i=0:=G
  have a:=h1 0 (λi hi=>G);have b:=h2 0 (λi hi=>G);have c:=h3 0 (λi hi=>G);have d:=he 0 (λi _ hi=>G);omega
 | d+1,hd,i,hi=>by
  have ih:=DT hs x0 u0 v0 h1 h2 h3 he d λi h0 hi=>hd i h0 G;rcases gp d i with g|g
  ·obtain rfl:i=d+1:=G
   have fu: ∀i:Nat,i<d+1->0<i->gZ s (u+i)=false:=λi hi h0=>hd i h0 hi
   have fx: ∀i:Nat,i<d+1->0<i->gZ s (x+i)=false:=λi hi h0=>by
    rw[FC hs x0 u0 h0 λj hj=>(ih j G).1];exact fu i hi h0
   have vy: ∀i:Nat,i<d+1->kk s (v+i)=kk s (y+i):=λi hi=>by have:=ih i G;omega
   have a:=h1 (d+1) λi hi=>⟨(ih i G).1,fx i hi⟩;have b:=h2 (d+1) λi hi=>⟨(ih i G).2.1,fu i hi⟩;have e:=he (d+1) λi h0 hi=>fx i hi h0
   have c:kk s (v+((d+1:Nat):Int))<=kk s (y+((d+1:Nat):Int)):=by
    refine h3 (d+1) λi hi=>⟨vy i hi,λh0=> ?_⟩;rw[<-FC hs u0 v0 h0 λj hj=>(ih j G).2.1];exact fu i hi h0
   omega
  ·exact ih i g
theorem aFr (hs:Nn s) {x u v y:Int} (x0:0<=x) (u0:0<=u) (v0:0<=v) (h1:pcS s x u) (h2:pcS s u v) (h3:pcS s v y) (he:pcE s x y):pcE s x u/\pcE s u v:=by
 refine⟨λd hd=> ?_,λd hd=>(DT hs x0 u0 v0 h1 h2 h3 he d hd d (ed _)).2.1⟩
 suffices h: ∀d:Nat,(∀i:Nat,0<i->i<d->gZ s (x+i)=false)-> ∀i:Nat,i<=d->kk s (x+i)=kk s (u+i) from h d hd d (ed _)
 intro d
 induction d with
 |zero=>intro _ i hi;obtain rfl:i=0:=G;exact(DT hs x0 u0 v0 h1 h2 h3 he 0 (λi h0 hi=>G) 0 (ed _)).1
 |succ d ih=>
  intro hd i hi;have Zs:=ih λi h0 hi=>hd i h0 G;refine(DT hs x0 u0 v0 h1 h2 h3 he (d+1) (λj h0 hj=> ?_) i hi).1;rw[<-FC hs x0 u0 h0 λm hm=>Zs m G];exact hd j h0 hj
theorem pcE.symm (hs:Nn s) {x y:Int} (x0:0<=x) (y0:0<=y) (h:pcE s x y):pcE s y x:=by
 intro d hd
 suffices g: ∀d:Nat,(∀i:Nat,0<i->i<d->gZ s (y+i)=false)-> ∀i:Nat,i<=d->kk s (y+i)=kk s (x+i) from g d hd d (ed _)
 intro d
 induction d with
 |zero=>intro _ i hi;obtain rfl:i=0:=G;exact(h 0 λi h0 hi=>G).symm
 | succ d ih=>
  intro hd i hi;have Zs:=ih λi h0 hi=>hd i h0 G;rcases gp d i with g|g
  ·obtain rfl:i=d+1:=G
   refine(h (d+1) λj h0 hj=> ?_).symm;rw[<-FC hs y0 x0 h0 λm hm=>Zs m G];exact hd j h0 hj
  ·exact Zs i g
theorem bDx (hs:Nn s) {x y:Int} (x0:0<=x) (y0:0<=y) (h:pcS s x y) (cg: ¬pcE s x y):bV s x y:=by
 have key: ∀D:Nat,(∀i:Nat,0<i->i<D->gZ s (x+i)=false)-> ¬kk s (x+D)=kk s (y+D)-> ∃d:Nat,(∀i:Nat,i<d->kk s (x+i)=kk s (y+i))/\kk s (x+d)<kk s (y+d):=by
  intro D
  induction D using Nat.strongRecOn with
  | ind D ih=>
   intro hD cg;by_cases he: ∀i:Nat,i<D->kk s (x+i)=kk s (y+i)
   ·have:=h D λi hi=>⟨he i hi,λh0=>hD i h0 hi⟩;exact⟨D,he,G⟩
   ·obtain ⟨i,hi⟩:=Fv.1 he;obtain⟨ff,Ou⟩:=Classical.not_imp.1 hi;exact ih i ff (λj h0 hj=>hD j h0 G) Ou
 obtain⟨D,hD⟩:=Fv.1 cg;obtain⟨hD1,hD2⟩:=Classical.not_imp.1 hD;obtain⟨d,h1,h2⟩:=key D hD1 hD2;exact aXm hs d x y x0 y0 h1 h2
structure NxI (s:AH) (x z:Int):Prop where
 gt:x<z
 le:z<=s.length
 no: ∀q,x<q->q<z->gZ s q=false
 is:z<s.length->gZ s z=true
theorem NxI.one {x z w:Int} (h:NxI s x z) (g:NxI s x w):z=w:=by
 rcases jl z w with a|a|a
 ·have h1:=h.is (by have:=g.le;omega);rw[g.no z h.gt a] at h1;cases h1
 ·exact a
 ·have h1:=g.is (by have:=h.le;omega);rw[h.no w g.gt a] at h1;cases h1
def Peq (s nx:AH) (x y:Int):Prop:=rd nx x<s.length/\rd nx y<s.length/\rd nx x-x=rd nx y-y/\ ∀i:Int,0<=i->i<=rd nx x-x->rd s (x+i)=rd s (y+i)
theorem Peq.symm {nx:AH} {x y:Int} (h:Peq s nx x y):Peq s nx y x:=⟨h.2.1,h.1,h.2.2.1.symm,λi h0 h1=>(h.2.2.2 i h0 (by have:=h.2.2.1;omega)).symm⟩
theorem Peq.trans {nx:AH} {x y z:Int} (h:Peq s nx x y) (g:Peq s nx y z):Peq s nx x z:=⟨h.1,g.2.1,h.2.2.1.trans g.2.2.1,λi h0 h1=>(h.2.2.2 i h0 h1).trans (g.2.2.2 i h0 (by have:=h.2.2.1;omega))⟩
theorem Peq.E {nx:AH} {x y:Int} (x0:0<=x) (y0:0<=y) (hx:NxI s x (rd nx x)) (hy:NxI s y (rd nx y)) (h:Peq s nx x y):pcE s x y:=by
 obtain⟨h1,h2,h3,h4⟩:=h;have yv:=hx.gt;have fx:=oF.1 (hx.is h1);have fy:=oF.1 (hy.is h2)
 have kinds: ∀m:Nat,∀i:Int,0<=i->i<=rd nx x-x->rd nx x-x-i<=m->smB s (x+i)=smB s (y+i):=by
  intro m
  induction m with
  |zero=>
   intro i i0 i1 i2;obtain rfl:i=rd nx x-x:=G
   rw[show x+(rd nx x-x)=rd nx x by omega,show y+(rd nx x-x)=rd nx y by omega,fx.2.1,fy.2.1]
  | succ m ih=>
   intro i i0 i1 i2;rcases cz i (rd nx x-x) with g|g
   ·have e:=ih (i+1) G G G;have c0:=h4 i i0 i1;have c1:=h4 (i+1) G G;have a:=xH (s:=s) (i:=x+i) G G;have b:=xH (s:=s) (i:=y+i) G G;rw[show x+i+1=x+(i+1) by omega] at a;rw[show y+i+1=y+(i+1) by omega,<-c0,<-c1,<-e] at b;exact Bool.eq_iff_iff.2 (a.trans b.symm)
   ·exact ih i i0 i1 G
 intro d hd
 have hdL:(d:Int)<=rd nx x-x:=by
  rcases cz (rd nx x-x) d with g|g
  ·have:=hd (rd nx x-x).toNat G G;rw[show x+(((rd nx x-x).toNat:Nat):Int)=rd nx x by omega,hx.is h1] at this;cases this
  ·exact g
 rw[EX G,EX G,h4 d G hdL,kinds (rd nx x-x).toNat d G hdL G]
theorem Peq.of_E (hs:Nn s) {nx:AH} {x y:Int} (x0:0<=x) (y0:0<=y) (cg:x≠y) (hx:NxI s x (rd nx x)) (hy:NxI s y (rd nx y)) (h:pcE s x y):Peq s nx x y:=by
 have yv:=hx.gt;have hgty:=hy.gt;have nw:=hx.le;have hley:=hy.le
 have he: ∀i:Int,0<=i->i<=rd nx x-x->kk s (x+i)=kk s (y+i):=λi i0 i1=>by
  have:=h i.toNat λj j0 j1=>hx.no _ G G;rwa[show((i.toNat:Nat):Int)=i by omega] at this
 have hL:=he (rd nx x-x) G (ni _);have Li:=he (rd nx x-x-1) G G;rw[show x+(rd nx x-x)=rd nx x by omega] at hL;have hb:=(rA hs G G Li G).1
 have pv:rd nx x<s.length:=by
  rcases cz (rd nx x) s.length with g|g
  ·exact g
  ·have:(s.length:Int)<=y+(rd nx x-x):=by
    rcases cz (y+(rd nx x-x)) s.length with b|b
    ·have:=(rA hs G G hL.symm b).1;omega
    ·exact b
   omega
 have hyL:=(rA hs G G hL pv).1
 have Pr: ∀i:Int,0<i->i<=rd nx x-x->gZ s (x+i)=gZ s (y+i):=λi i0 i1=>by
  have:=FC hs x0 y0 (i:=i.toNat) G λj hj=>he j G G;rwa[show((i.toNat:Nat):Int)=i by omega] at this
 have hny:NxI s y (y+(rd nx x-x)):=⟨G,G,λq h1 h2=>by
  have:=Pr (q-y) G G;rw[show y+(q-y)=q by omega] at this;rw[<-this];exact hx.no _ G G,λ_=>by
  rw[<-Pr _ G (ni _),show x+(rd nx x-x)=rd nx x by omega]
  exact hx.is pv⟩
 have e:=hy.one hny;refine⟨pv,G,G,λi i0 i1=>(rA hs G G (he i i0 i1) G).2.1⟩
end
end Go.Pure
namespace Go.Pure
open Go Go.Eng
section
variable {s:AH} {k:Int}
theorem aYk (s:AH):(bP s).Pairwise (· < ·):=(yD _).sublist ut
theorem qB {a:Int} (h0:0<=a) (h:a<(bP s).length):(0<=rd (bP s) a/\rd (bP s) a<s.length)/\gZ s (rd (bP s) a)=true:=uU.1 (bG h0 h)
theorem XX {x:Int} (h0:0<=x) (h:x<s.length) (hf:gZ s x=true): ∃a:Int,0<=a/\a<(bP s).length/\rd (bP s) a=x:=by
 obtain⟨u,hu,e⟩:=ib.1 (uU.2 ⟨⟨h0,h⟩,hf⟩);exact⟨u,G,G,by rw[jK hu];exact e⟩
theorem FE {a b:Int} (h0:0<=a) (yr:a<b) (h:b<(bP s).length):rd (bP s) a<rd (bP s) b:=fP (aYk s) h0 yr h
theorem aQf (hn:0<s.length):(bP s).length<s.length:=by
 have:(bP s).length<=((iota s.length).erase 0).length:=pM (BR s) λx hx=>by
  have h:=uU.1 hx;have h0:=(oF.1 h.2).1;exact(Gb G).2 (aZ.2 h.1)
 rw[Cs (aZ.2 ⟨ni 0,G⟩),bA] at this;omega
structure vE (s nx:AH) (i:Int):Prop where
 len:nx.length=s.length
 at_: ∀a:Int,0<=a->a<i->rd nx (rd (bP s) a)=if a+1<(bP s).length then rd (bP s) (a+1) else s.length
 no: ∀j:Int,0<=j->j<s.length->gZ s j=false->rd nx j=0
theorem bEf:vE s (List.replicate s.length 0) 0:=⟨cD,λa h0 h=>G,λj _ _ _=>qY⟩
theorem vE.step {nx nx':AH} {i v:Int} (h:vE s nx i) (h0:0<=i) (hi:i<(bP s).length) (hv:v=if i+1<(bP s).length then rd (bP s) (i+1) else s.length) (hl:nx'.length=s.length)
  (he: ∀j:Int,0<=j->rd nx' j=if j=rd (bP s) i then v else rd nx j):vE s nx' (i+1):=by
 have hf:=qB h0 hi;refine⟨hl,λa a0 a1=> ?_,λj j0 j1 hj=> ?_⟩
 ·have ha:=qB (s:=s) a0 G;rw[he _ ha.1.1];by_cases e:a=i
  ·subst e;rw[dm rfl,hv]
  ·rw [df,h.at_ a a0 G];have:=FE (s:=s) a0 (by omega:a<i) hi;omega
 ·rw [he j j0,df,h.no j j0 j1 hj];intro e;rw[e,hf.2] at hj;cases hj
theorem vE.step1 {nx:AH} {i:Int} (h:vE s nx i) (h0:0<=i) (hi:i<(bP s).length) (hc: ¬i+1<(bP s).length):vE s (upd nx (rd (bP s) i) s.length) (i+1):=by
 have hf:=qB h0 hi;exact h.step h0 hi (by rw[df hc]) (by rw[aY];exact h.len) λj j0=>gV hf.1.1 j0 (by rw[h.len];exact hf.1.2)
theorem vE.step2 {nx:AH} {i:Int} {w:Int} (h:vE s nx i) (h0:0<=i) (hi:i<(bP s).length) (hc:i+1<(bP s).length):vE s (upd (upd nx (rd (bP s) i) w) (rd (bP s) i) (rd (bP s) (i+1))) (i+1):=by
 have hf:=qB h0 hi;refine h.step h0 hi (by rw[dm hc]) (by rw[aY,aY];exact h.len) λj j0=> ?_;rw[gV hf.1.1 j0 (by rw[aY,h.len];exact hf.1.2)];split
 ·rfl
 ·rename_i e;rw[gV hf.1.1 j0 (by rw[h.len];exact hf.1.2),df e]
theorem vE.nx {nx:AH} (h:vE s nx (bP s).length) {x:Int} (h0:0<=x) (hx:x<s.length) (hf:gZ s x=true):NxI s x (rd nx x):=by
 obtain⟨a,a0,a1,rfl⟩:=XX h0 hx hf;rw[h.at_ a a0 a1];split
 ·rename_i e;have g:=qB (s:=s) (a:=a+1) G e;refine⟨FE a0 G e,G,λq h1 h2=> ?_,λ_=>g.2⟩;cases hq:gZ s q with
  |false=>rfl
  | true=>
   obtain⟨b,b0,b1,rfl⟩:=XX (s:=s) (x:=q) G G hq;exfalso;rcases jl b a with d|d|d
   ·have:=FE (s:=s) b0 d a1;omega
   ·subst d;omega
   ·rcases cz (a+1) b with d2|d2
    ·have:=FE (s:=s) (a:=a+1) G d2 b1;omega
    ·obtain rfl:b=a+1:=G
     omega
 ·rename_i e;refine⟨hx,ni _,λq h1 h2=> ?_,λh=>G⟩;cases hq:gZ s q with
  |false=>rfl
  |true=>
   obtain⟨b,b0,b1,rfl⟩:=XX (s:=s) (x:=q) G G hq;exfalso;rcases jl b a with d|d|d
   ·have:=FE (s:=s) b0 d a1;omega
   ·subst d;omega
   ·omega
theorem vE.zero {nx:AH} (h:vE s nx (bP s).length) {x:Int} (h0:0<=x) (hx:x<s.length):rd nx x=0↔gZ s x=false:=by
 cases hf:gZ s x with
 |false=>exact⟨λ_=>rfl,λ_=>h.no x h0 hx hf⟩
 |true=>exact⟨λe=>by have:=(h.nx h0 hx hf).gt;omega,λe=>by cases e⟩
structure CE (s ord nx:AH) (t:Int) (nm:AH) (n last:Int):Prop where
 len:nm.length=s.length
 bd:0<=n/\n<=t
 start:last= -1->n=0/\ ∀q:Int,0<=q->q<t->gZ s (rd ord q)=false
 last_:last= -1\/ ∃q:Int,0<=q/\q<t/\rd ord q=last/\gZ s last=true/\rd nm last=n/\ ∀r:Int,q<r->r<t->gZ s (rd ord r)=false
 rng: ∀q:Int,0<=q->q<t->gZ s (rd ord q)=true->0<=rd nm (rd ord q)/\rd nm (rd ord q)<=n
 pair: ∀q r:Int,0<=q->q<r->r<t->gZ s (rd ord q)=true->gZ s (rd ord r)=true->rd nm (rd ord q)<=rd nm (rd ord r)/\(rd nm (rd ord q)=rd nm (rd ord r)->Peq s nx (rd ord q) (rd ord r))/\(rd nm (rd ord q)<rd nm (rd ord r)-> ¬pcE s (rd ord q) (rd ord r))
variable {ord nx nm:AH} {t n last:Int}
theorem aWu:CE s ord nx 0 (List.replicate s.length 0) 0 (-1):=⟨cD,G,λ_=>⟨rfl,λq h0 h=>G⟩, .inl rfl,λq h0 h=>G,λq r h0 h h'=>G⟩
theorem CE.skip (h:CE s ord nx t nm n last) (hf:gZ s (rd ord t)=false):CE s ord nx (t+1) nm n last:=by
 have vi: ∀ {q:Int},q<t+1->gZ s (rd ord q)=true->q<t:=λ{q} h1 h2=>by
  rcases cz q t with a|a
  ·exact a
  ·obtain rfl:q=t:=G
   rw[hf] at h2;cases h2
 refine⟨h.len,by have:=h.bd;omega,λe=>⟨(h.start e).1,λq h0 h1=> ?_⟩,?_,λq h0 h1 h2=>h.rng q h0 (vi h1 h2) h2,λq r h0 h1 h2 f1 f2=>h.pair q r h0 h1 (vi h2 f2) f1 f2⟩
 ·rcases cz q t with a|a
  ·exact(h.start e).2 q h0 a
  ·obtain rfl:q=t:=G
   exact hf
 ·rcases h.last_ with e|⟨q,h1,h2,h3,h4,h5,h6⟩
  ·exact .inl e
  ·refine .inr ⟨q,h1,G,h3,h4,h5,λr r0 r1=> ?_⟩;rcases cz r t with a|a
   ·exact h6 r r0 a
   ·obtain rfl:r=t:=G
    exact hf
theorem CE.last_in (h:CE s ord nx t nm n last) (hp:ord.Perm (iota s.length)) (ht:t<=s.length):last= -1\/((0<=last/\last<s.length)/\gZ s last=true):=by
 rcases h.last_ with e|⟨q,h1,h2,h3,h4,_⟩
 ·exact .inl e
 ·rw [<-h3];have hl:=hp.length_eq;rw[bA] at hl;exact .inr ⟨aZ.1 (hp.subset (bG h1 G)),by rw[h3];exact h4⟩
theorem CE.step (hs:Nn s) (h:CE s ord nx t nm n last) (hp:ord.Perm (iota s.length)) (ho:ord.Pairwise (pcS s)) (hx:vE s nx (bP s).length) (t0:0<=t) (ht:t<s.length) (hf:gZ s (rd ord t)=true) {n':Int}
  (hn:(last= -1/\n'=n)\/(0<=last/\Peq s nx last (rd ord t)/\n'=n)\/(0<=last/\ ¬Peq s nx last (rd ord t)/\n'=n+1)):CE s ord nx (t+1) (upd nm (rd ord t) n') n' (rd ord t):=by
 have hl:ord.length=s.length:=by rw[hp.length_eq,bA]
 have hnd:ord.Nodup:=hp.symm.nodup (fB _);have de: ∀q:Int,0<=q->q<s.length->0<=rd ord q/\rd ord q<s.length:=λq q0 q1=>aZ.1 (hp.subset (bG q0 G));have sr:=de t t0 ht
 have gg: ∀q:Int,0<=q->q<t->rd (upd nm (rd ord t) n') (rd ord q)=rd nm (rd ord q):=λq q0 q1=>by
  have hq:=de q q0 G;rw[gV sr.1 hq.1 (by rw[h.len];exact sr.2),df];intro e;have:=kM hnd q0 G t0 G e;omega
 have Gk:rd (upd nm (rd ord t) n') (rd ord t)=n':=by rw[gV sr.1 sr.1 (by rw[h.len];exact sr.2),dm rfl]
 have Lo:=h.bd;have t6:n<=n':=by rcases hn with a|a|a<;>omega
 refine⟨by rw[aY];exact h.len,by rcases hn with a|a|a<;>omega,λe=>G, .inr ⟨t,t0,G,rfl,hf,Gk,λr r0 r1=>G⟩,λq q0 q1 f=> ?_,λq r q0 qr r1 f1 f2=> ?_⟩
 ·rcases cz q t with a|a
  ·rw [gg q q0 a];have:=h.rng q q0 a f;omega
  ·obtain rfl:q=t:=G
   rw[Gk];omega
 ·rcases cz r t with a|a
  ·rw [gg q q0 G,gg r G a];exact h.pair q r q0 qr a f1 f2
  ·obtain rfl:r=t:=G
   rw[gg q q0 qr,Gk];have hq:=de q q0 G;have hg:=h.rng q q0 qr f1;rcases h.last_ with e|⟨z,z0,z1,z2,z3,z4,z5⟩
   ·have:=(h.start e).2 q q0 qr;rw[f1] at this;cases this
   ·have hqz:q<=z:=by
     rcases cz z q with b|b
     ·have:=z5 q b qr;rw[f1] at this;cases this
     ·exact b
    have hz:=de z z0 G;have hzr:pcS s (rd ord z) (rd ord r):=fP ho z0 z1 G;have hzx:=hx.nx hz.1 hz.2 (by rw[z2];exact z3);have hrx:=hx.nx sr.1 sr.2 hf;have hqx:=hx.nx hq.1 hq.2 f1;have cg:rd ord z≠rd ord r:=λe=>by have:=kM hnd z0 G t0 G e;omega
    have ot:(n'=n->Peq s nx (rd ord z) (rd ord r))/\(n<n'-> ¬Peq s nx (rd ord z) (rd ord r)):=by
     rw[z2];rcases hn with b|b|b
     ·omega
     ·exact⟨λ_=>b.2.1,λ_=>G⟩
     ·exact⟨λ_=>G,λ_=>b.2.1⟩
    have hE:pcE s (rd ord q) (rd ord r)->pcE s (rd ord z) (rd ord r)/\(q<z->pcE s (rd ord q) (rd ord z)):=λhe=>by
     rcases cz q z with b|b
     ·have:=aFr hs (u:=rd ord z) (v:=rd ord r) (y:=rd ord r) hq.1 hz.1 sr.1 (fP ho q0 b G) hzr (λd hd=>ni _) he;exact⟨this.2,λ_=>this.1⟩
     ·obtain rfl:q=z:=G
      exact⟨he,λh=>G⟩
    rcases cz q z with b|b
    ·have w5:=h.pair q z q0 b z1 f1 (by rw[z2];exact z3);have ez:rd nm (rd ord z)=n:=by rw[z2];exact z4
     rw[ez] at w5;refine⟨G,λe=>(w5.2.1 G).trans (ot.1 G),λe he=> ?_⟩;rcases cz n n' with g|g
     ·exact ot.2 g (Peq.of_E hs hz.1 sr.1 cg hzx hrx (hE he).1)
     ·exact w5.2.2 G ((hE he).2 b)
    ·obtain rfl:q=z:=G
     have ez:rd nm (rd ord q)=n:=by rw[z2];exact z4
     rw[ez];refine⟨t6,λe=>ot.1 e.symm,λe he=>ot.2 e (Peq.of_E hs hz.1 sr.1 cg hzx hrx he)⟩
theorem UM (hs:Nn s) (h:CE s ord nx s.length nm n last) (hp:ord.Perm (iota s.length)) (ho:ord.Pairwise (pcS s)) (hx:vE s nx (bP s).length): ∀(m:Nat) (a b:Int),(bP s).length-a<=m->0<=a->a<(bP s).length->0<=b->b<(bP s).length->
  bV ((bP s).map (rd nm)) a b->bV s (rd (bP s) a) (rd (bP s) b)
 |0,a,b,hm,a0,a1,_,_,_=>G
 | m +1,a,b,hm,a0,a1,b0,b1,yr=>by
  have hl:ord.length=s.length:=by rw[hp.length_eq,bA]
  have Zi:((bP s).map (rd nm)).length=(bP s).length:=by rw[bu]
  have hnm: ∀c:Int,0<=c->c<(bP s).length->rd ((bP s).map (rd nm)) c=rd nm (rd (bP s) c):=λc c0 c1=>by
   rw[gB c0 G,yt,<-gB c0 c1]
  have ti: ∀c:Int,0<=c->c<(bP s).length-> ∃q:Int,0<=q/\q<s.length/\rd ord q=rd (bP s) c:=λc c0 c1=>by
   have hc:=qB (s:=s) c0 c1;obtain⟨u,hu,e⟩:=ib.1 (hp.symm.subset (aZ.2 hc.1));exact⟨u,G,G,by rw[jK hu];exact e⟩
  have cg:a≠b:=λe=>by rw[e] at yr;exact gW _ _ yr yr
  have ha:=qB (s:=s) a0 a1;have hb:=qB (s:=s) b0 b1;have Pl:rd (bP s) a≠rd (bP s) b:=λe=>cg (kM (BR s) a0 a1 b0 b1 e);obtain⟨q,q0,q1,eq⟩:=ti a a0 a1;obtain⟨r,r0,r1,er⟩:=ti b b0 b1;have hqr:q≠r:=λe=>Pl (by rw[<-eq,<-er,e]);rw[oD a0 G b0 G,hnm a a0 a1,hnm b b0 b1] at yr;have Nm:gZ s (rd ord q)=true:=by rw[eq];exact ha.2
  have Lw:gZ s (rd ord r)=true:=by rw[er];exact hb.2
  rcases yr with br|⟨he,Xd⟩
  ·rcases cz q r with c|c
   ·have w5:=h.pair q r q0 c r1 Nm Lw;rw[eq,er] at w5;have:=fP ho q0 c G;rw[eq,er] at this;exact bDx hs ha.1.1 hb.1.1 this (w5.2.2 br)
   ·have w5:=h.pair r q r0 G q1 Lw Nm;rw[eq,er] at w5;omega
  ·have hpe:Peq s nx (rd (bP s) a) (rd (bP s) b):=by
    rcases cz q r with c|c
    ·have w5:=h.pair q r q0 c r1 Nm Lw;rw[eq,er] at w5;exact w5.2.1 he
    ·have w5:=h.pair r q r0 G q1 Lw Nm;rw[eq,er] at w5;exact(w5.2.1 he.symm).symm
   obtain⟨p1,p2,p3,p4⟩:=hpe;have gx:=(hx.nx ha.1.1 ha.1.2 ha.2).gt;have ea:=hx.at_ a a0 a1;have eb:=hx.at_ b b0 b1
   have Vj:a+1<(bP s).length:=by
    rcases cz (a+1) (bP s).length with c|c
    ·exact c
    ·rw[df G] at ea;omega
   have hbc:b+1<(bP s).length:=by
    rcases cz (b+1) (bP s).length with c|c
    ·exact c
    ·rw[df G] at eb;omega
   rw[dm Vj] at ea;rw[dm hbc] at eb;have ih:=UM hs h hp ho hx m (a+1) (b+1) G G Vj G hbc (iI.1 Xd);rw[<-ea,<-eb] at ih;refine QZ (rd nx (rd (bP s) a)-rd (bP s) a).toNat _ _ ha.1.1 hb.1.1 G G (λi hi=>p4 i G G) ?_;rwa[show rd (bP s) a+(((rd nx (rd (bP s) a)-rd (bP s) a).toNat:Nat):Int)=rd nx (rd (bP s) a) by omega,show rd (bP s) b+(((rd nx (rd (bP s) a)-rd (bP s) a).toNat:Nat):Int)=rd nx (rd (bP s) b) by omega]
theorem aWq (h:CE s ord nx s.length nm n last) (hp:ord.Perm (iota s.length)): ∀x∈(bP s).map (rd nm),0<=x/\x<n+1:=by
 intro x hx;obtain⟨y,hy,rfl⟩:=ii.1 hx;obtain⟨hy1,hy2⟩:=uU.1 hy;have hl:ord.length=s.length:=by rw[hp.length_eq,bA]
 obtain⟨u,hu,e⟩:=ib.1 (hp.symm.subset (aZ.2 hy1));have:=h.rng u G G (by rw[jK hu,e];exact hy2);rw[jK hu,e] at this;omega
theorem aUw (hs:Nn s) (h:CE s ord nx s.length nm n last) (hp:ord.Perm (iota s.length)) (ho:ord.Pairwise (pcS s)) (hx:vE s nx (bP s).length) {o:AH} (op:o.Perm (iota ((bP s).map (rd nm)).length)) (oo:o.Pairwise (bV ((bP s).map (rd nm)))):
  (o.map (rd (bP s))).Perm (bP s)/\(o.map (rd (bP s))).Pairwise (bV s):=by
 rw[bu] at op;refine⟨?_,?_⟩
 ·have:=op.map (rd (bP s));rwa[nG] at this
 ·refine ik.2 (lm (λ{a b} ha hb yr=> ?_) oo);have h1:=aZ.1 (op.subset ha);have h2:=aZ.1 (op.subset hb);exact UM hs h hp ho hx (bP s).length a b G h1.1 h1.2 h2.1 h2.2 yr
theorem aKl {l:AH} {x i:Int} {m:Nat} (x0:0<=x) (h0:0<=i) (h:i<m):rd ((l.drop x.toNat).take m) i=rd l (x+i):=by
 unfold rd;rw[ai,ai,qo G,sj,show x.toNat+i.toNat=(x+i).toNat by omega]
theorem aAw {x y:Int} (x0:0<=x) (y0:0<=y) (hx:x<rd nx x) (Pk:rd nx x<s.length) (hy:y<rd nx y) (Zq:rd nx y<s.length):
  (s.drop x.toNat).take ((min (rd nx x+1) ((s.length:Nat):Int)).toNat-x.toNat)=(s.drop y.toNat).take ((min (rd nx y+1) ((s.length:Nat):Int)).toNat-y.toNat)↔Peq s nx x y:=by
 have lx:((s.drop x.toNat).take ((min (rd nx x+1) ((s.length:Nat):Int)).toNat-x.toNat)).length=(rd nx x-x+1).toNat:=by rw[ax,bn];omega
 have ly:((s.drop y.toNat).take ((min (rd nx y+1) ((s.length:Nat):Int)).toNat-y.toNat)).length=(rd nx y-y+1).toNat:=by rw[ax,bn];omega
 constructor
 ·intro h;have hl:=bq List.length h;rw[lx,ly] at hl;refine⟨Pk,Zq,G,λi i0 i1=> ?_⟩;have:rd ((s.drop x.toNat).take ((min (rd nx x+1) ((s.length:Nat):Int)).toNat-x.toNat)) i=rd ((s.drop y.toNat).take ((min (rd nx y+1) ((s.length:Nat):Int)).toNat-y.toNat)) i:=by rw[h]
  rwa[aKl x0 i0 G,aKl y0 i0 G] at this
 ·rintro ⟨_,_,h3,h4⟩;refine bI (by rw[lx,ly];omega) λi i0 i1=> ?_;rw[lx] at i1;rw[aKl x0 i0 G,aKl y0 i0 G];exact h4 i i0 G
theorem aVp {r:Int->Int->Prop}: ∀ {l:AH},l.length<2->l.Pairwise r
 |[],_=> .nil
 |[_],_=>qi _ _
 |_::_::_,h=>by simp at h;omega
theorem aWt {x y:Int} (hl:0<=x->x<s.length/\x<rd nx x/\rd nx x<=s.length) (y0:0<=y) (hy:y<rd nx y) (Zq:rd nx y<=s.length)
  (h:0<=x/\((rd nx y=((s.length:Nat):Int)\/rd nx x=((s.length:Nat):Int))\/ ¬(s.drop x.toNat).take ((min (rd nx x+1) ((s.length:Nat):Int)).toNat-x.toNat)=(s.drop y.toNat).take ((min (rd nx y+1) ((s.length:Nat):Int)).toNat-y.toNat))):
  (x= -1/\n+1=n)\/(0<=x/\Peq s nx x y/\n+1=n)\/(0<=x/\ ¬Peq s nx x y/\n+1=n+1):=by
 refine .inr (.inr ⟨h.1,λhp=> ?_,rfl⟩);have a:=hl h.1;rcases h.2 with g|g
 ·have h1:=hp.1;have h2:=hp.2.1;omega
 ·exact g ((aAw h.1 y0 a.2.1 hp.1 hy hp.2.1).2 hp)
theorem aWs {x y:Int} (hx: -1<=x) (hl:0<=x->x<s.length/\x<rd nx x/\rd nx x<=s.length) (y0:0<=y) (hy:y<rd nx y) (Zq:rd nx y<=s.length)
  (h: ¬(0<=x/\((rd nx y=((s.length:Nat):Int)\/rd nx x=((s.length:Nat):Int))\/ ¬(s.drop x.toNat).take ((min (rd nx x+1) ((s.length:Nat):Int)).toNat-x.toNat)=(s.drop y.toNat).take ((min (rd nx y+1) ((s.length:Nat):Int)).toNat-y.toNat)))):
  (x= -1/\n=n)\/(0<=x/\Peq s nx x y/\n=n)\/(0<=x/\ ¬Peq s nx x y/\n=n+1):=by
 rcases cz x 0 with g|g
 ·exact .inl ⟨G,rfl⟩
 ·have a:=hl g;have h1: ¬rd nx y=((s.length:Nat):Int):=λe=>h ⟨g, .inl (.inl e)⟩;have h2: ¬rd nx x=((s.length:Nat):Int):=λe=>h ⟨g, .inl (.inr e)⟩;have h3:=uy.1 λe=>h ⟨g, .inr e⟩;exact .inr (.inl ⟨g,(aAw g y0 a.2.1 G hy G).1 h3,rfl⟩)
end
end Go.Pure

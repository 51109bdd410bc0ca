/- Own work. -/
import Derived.Lib.BytesEntry
import Derived.Lib.AppendZeros
import Derived.Lib.MakeNoZero
import Derived.Laws.Externs
import Derived.Stop.BytesEq
import Derived.LoopNIn
import Derived.Laws.CopyRow
import Derived.Laws.IdiomCopy
import Derived.Lib.BitFns
import Derived.Shelf.Small.Bits
import Derived.Test.YtdbebmmhdefgdaaGreatProg
import Derived.RangeFuncRecord
import Derived.RangeFuncSeq
import Derived.RangeFuncCalls
import Derived.RangeFuncKeeps
import Derived.RangeFuncBox
import Derived.RangeFuncNested
import Derived.Shelf.SlSortCmp.Kit1
import Derived.Test.YtdbebmmhdefgdaaGreatA2
set_option linter.unusedVariables false
set_option linter.unusedSimpArgs false
namespace Go.Pure
open Go Go.Eng
variable {l V b C U:List Int} {i v x x0 s t:Int}
def beL:Nat→Int→List Int
 |0,_=>[]
 |k+1,N=>beL k (N/256)++[N%256]
theorem kP: ∀(k:Nat) (N:Int),(beL k N).length=k
 |0,_=>rfl
 |k+1,N=>by rw[beL,List.length_append,kP k,List.length_singleton]
theorem BR: ∀(k:Nat) (N:Int),aO (beL k N)
 |0,_=>fun x h=>by cases h
 |k+1,N=>fun x h=>by
  rw[beL] at h
  rcases List.mem_append.1 h with h|h
  ·exact BR k _ x h
  ·rw[List.mem_singleton.1 h];omega
def aRo:List Int→Int→List Int
 |[],_=>[]
 |d::l,x=>(x+d)%256::aRo l ((x+d)/256)
def DT (l:List Int) (x:Int):List Int:=(aRo l.reverse x).reverse
theorem OB (l:List Int) (d x:Int):DT (l++[d]) x=DT l ((x+d)/256)++[(x+d)%256]:=by
 unfold DT
 rw[List.reverse_append,List.reverse_singleton,List.singleton_append,aRo,List.reverse_cons]
theorem OC: ∀l:List Int,aO l→aRo l 0=l
 |[],_=>rfl
 |d::l,h=>by
  have hd:=h d (by simp)
  rw[aRo,Int.zero_add,Int.emod_eq_of_lt hd.1 hd.2,Int.ediv_eq_zero_of_lt hd.1 hd.2,OC l fun x hx=>h x (List.mem_cons_of_mem _ hx)]
theorem aJq (h:aO l):DT l 0=l:=by
 unfold DT
 rw[OC _ fun x hx=>h x (List.mem_reverse.1 hx),List.reverse_reverse]
theorem QL: ∀(k:Nat) (N x:Int),DT (beL k N) x=beL k (N+x)
 |0,_,_=>rfl
 |k+1,N,x=>by
  rw[beL,OB,QL k,beL,show N/256+(x+N%256)/256=(N+x)/256 by omega,show(x+N%256)%256=(N+x)%256 by omega]
theorem aFh (i0:0≤i) (hi:i<V.length):upd V i v=V.take i.toNat++v::V.drop (i+1).toNat:=by
 unfold upd
 rw[List.set_eq_take_append_cons_drop,if_pos (by omega),show(i+1).toNat=i.toNat+1 by omega]
def aBs (b:List Int) (x0:Int) (V:List Int) (i x:Int):Prop:=V.length=b.length∧aO V∧DT (V.take (i+1).toNat) x++V.drop (i+1).toNat=DT b x0
theorem aJr (hb:aO b) (hi:i=b.length-1):aBs b x b i x:=by
 refine⟨rfl,hb,?_⟩
 rw[List.take_of_length_le (by omega),List.drop_eq_nil_of_le (by omega),List.append_nil]
theorem aBs.step {d y:Int} (h:aBs b x0 V i x) (i0:0≤i) (hi:i<b.length) (hd:d=(x+rd V i)%256) (hy:y=(x+rd V i)/256):aBs b x0 (upd V i d) (i-1) y:=by
 obtain⟨hl,hV,ha⟩:=h
 have hs:=aFh (V:=V) (v:=d) i0 (by omega)
 have h1:(upd V i d).take i.toNat=V.take i.toNat:=by
  unfold upd
  rw[List.take_set_of_le (Nat.le_refl _)]
 have h2:(upd V i d).drop i.toNat=d::V.drop (i+1).toNat:=by
  rw[hs,List.drop_append_of_le_length (by rw[List.length_take];omega),List.drop_eq_nil_of_le (by rw[List.length_take];omega),List.nil_append]
 refine⟨by rw[aV];exact hl,fun c hc=> ?_,?_⟩
 ·rw [hs] at hc
  rcases List.mem_append.1 hc with hc|hc
  ·exact hV c (List.mem_of_mem_take hc)
  ·rcases List.mem_cons.1 hc with rfl|hc
   ·omega
   ·exact hV c (List.mem_of_mem_drop hc)
 ·rw [Int.sub_add_cancel,h1,h2,←ha,dD i0 (by omega),OB,hd,hy,List.append_assoc]
  rfl
theorem aBs.stop (h:aBs b x0 V i x) (hx:x=0∨i<0):V=DT b x0:=by
 obtain⟨hl,hV,ha⟩:=h
 rw[←ha]
 rcases hx with rfl|hx
 ·rw[aJq (fun c hc=>hV c (List.mem_of_mem_take hc)),List.take_append_drop]
 ·rw [show(i+1).toNat=0 by omega]
  rfl
theorem aVy: ∀(k:Nat) (N:Int),beL (k+4) N=beL k (N/4294967296)++[N%4294967296/16777216,N%16777216/65536,N%65536/256,N%256]:=fun k N=>by
 rw[beL,beL,beL,beL,List.append_assoc,List.append_assoc,List.append_assoc]
 rw[show N/256/256/256/256=N/4294967296 by omega,show N/256/256/256%256=N%4294967296/16777216 by omega,show N/256/256%256=N%16777216/65536 by omega,show N/256%256=N%65536/256 by omega]
 rfl
theorem PC {k:Int} (h0:0≤i) (h:i<k):rd (l.take k.toNat) i=rd l i:=by
 unfold rd
 rw[List.getD_eq_getElem?_getD,List.getD_eq_getElem?_getD,List.getElem?_take_of_lt (by omega)]
def aU (l:List Int):Int:=l.sum
theorem qQ (x:Int) (l:List Int):aU (x::l)=x+aU l:=List.sum_cons
theorem CJ (x y:List Int):aU (x++y)=aU x+aU y:=List.sum_append
theorem aFo (l:List Int) (x:Int):aU (l++[x])=aU l+x:=by rw[CJ];simp[aU]
theorem qO (h0:0≤i) (h:i<l.length):aU (l.take (i+1).toNat)=aU (l.take i.toNat)+rd l i:=by rw[dD h0 h,aFo]
theorem aSg {l:List Int} (h: ∀c∈l,1≤c):(l.length:Int)≤aU l:=by
 induction l with
 |nil=>simp[aU]
 |cons x l ih=>
  have:=ih fun c hc=>h c (List.mem_cons_of_mem _ hc)
  have:=h x (by simp)
  rw[qQ,List.length_cons]
  omega
theorem tK {l:List Int} (h: ∀c∈l,1≤c):0≤aU l:=by have:=aSg h;omega
theorem wK (h0:0≤i) (h:i<l.length):aU l=aU (l.take i.toNat)+rd l i+aU (l.drop (i+1).toNat):=by
 conv=>lhs;rw[←List.take_append_drop i.toNat l,fM h0 h]
 rw[CJ,qQ]
 omega
theorem aKw {l:List Int} (h: ∀c∈l,1≤c) (k:Nat): ∀c∈l.take k,1≤c:=fun c hc=>h c (List.mem_of_mem_take hc)
theorem aPy {l:List Int} (h: ∀c∈l,1≤c) (k:Nat): ∀c∈l.drop k,1≤c:=fun c hc=>h c (List.mem_of_mem_drop hc)
theorem qP {l:List Int} (hp: ∀c∈l,1≤c) (h0:0≤i) (h:i<l.length):0≤aU (l.take i.toNat)∧1≤rd l i∧aU (l.take i.toNat)+rd l i≤aU l:=by
 have h1:=wK h0 h
 have h2:=tK (aPy hp (i+1).toNat)
 have h3:=tK (aKw hp i.toNat)
 have h4:=hp _ (bH h0 h)
 omega
theorem SA (h0:0≤i) (h:i<l.length):aU (upd l i v)=aU l-rd l i+v:=by
 have e1:=wK (l:=upd l i v) h0 (by rw[aV];exact h)
 have e2:=wK h0 h
 rw[eF h0 h] at e1
 have e3:(upd l i v).take i.toNat=l.take i.toNat:=by
  unfold upd
  rw[List.take_set_of_le (Nat.le_refl _)]
 have e4:(upd l i v).drop (i+1).toNat=l.drop (i+1).toNat:=by
  unfold upd
  rw[List.drop_set_of_lt (by omega)]
 rw[e3,e4] at e1
 omega
theorem LW {l:List Int} (h: ∀c∈l,1≤c):2*aU (l.map fun n=>(n+1)/2)≤aU l+l.length:=by
 induction l with
 |nil=>simp[aU]
 |cons x l ih=>
  have:=ih fun c hc=>h c (List.mem_cons_of_mem _ hc)
  rw[List.map_cons,qQ,qQ,List.length_cons]
  omega
def lJ (C:List Int):Prop:=C.length=258∧(∀c∈C,1≤c)∧aU C≤65504
def wT:List Int:=List.replicate 258 1
theorem FC (n:Nat) (x:Int):aU (List.replicate n x)=n*x:=by
 induction n with
 |zero=>simp[aU]
 |succ n ih=>rw[List.replicate_succ,qQ,ih];rw[Int.natCast_succ,Int.add_mul];omega
theorem PL:lJ wT:=⟨List.length_replicate,fun c hc=>by rw[List.eq_of_mem_replicate hc];omega,by unfold wT;rw[FC];omega⟩
def nS (C:List Int):List Int:=C.map fun n=>(n+1)/2
def lK (C:List Int) (s:Int):List Int:=if 65504<aU (upd C s (rd C s+32)) then nS (upd C s (rd C s+32)) else upd C s (rd C s+32)
theorem aCe {C:List Int} {s v:Int} (h: ∀c∈C,1≤c) (hv:1≤v): ∀c∈upd C s v,1≤c:=fun c hc=>by
 unfold upd at hc
 rcases List.mem_or_eq_of_mem_set hc with h1|h1
 ·exact h c h1
 ·omega
theorem aSp (h:lJ C) (h0:0≤s) (hs:s<258):lJ (lK C s):=by
 obtain⟨hl,hp,ht⟩:=h
 have h1:=hp _ (bH (L:=C) (k:=s) h0 (by omega))
 have hu:=SA (l:=C) (i:=s) (v:=rd C s+32) h0 (by omega)
 have hq:=aCe (C:=C) (s:=s) (v:=rd C s+32) hp (by omega)
 unfold lK
 split
 ·refine ⟨by unfold nS;rw[List.length_map,aV];exact hl,fun c hc=> ?_,?_⟩
  ·obtain ⟨x,hx,rfl⟩:=List.mem_map.1 hc
   have:=hq x hx
   omega
  ·have:=LW hq
   rw[aV,hl] at this
   unfold nS
   omega
 ·exact⟨by rw[aV];exact hl,hq,by omega⟩
theorem aMk (h0:0≤i) (h:i<C.length):rd (nS C) i=(rd C i+1)/2:=by
 unfold nS
 rw[eT h0 (by rw[List.length_map];exact h),eT h0 h,List.getElem_map]
theorem AV {n:Nat} (h0:0≤i) (h:i<n):rd (List.replicate n x) i=x:=by
 rw[eT h0 (by rw[List.length_replicate];exact h),List.getElem_replicate]
theorem aZq (hl:V.length=258) (h: ∀j:Int,0≤j→j<258→rd V j=1):V=wT:=
 bI (by rw[hl];exact List.length_replicate.symm) fun j j0 j1=>by
  unfold wT
  rw[h j j0 (by omega),AV j0 (by omega)]
def OG (C:List Int):Prop:=C.length=258∧(∀c∈C,1≤c)∧aU C≤65536
theorem lJ.le (h:lJ C):OG C:=⟨h.1,h.2.1,by have:=h.2.2;omega⟩
theorem OG.part (h:OG C) (h0:0≤i) (hi:i<258):(0≤aU (C.take i.toNat)∧aU (C.take i.toNat)≤65536)∧(1≤rd C i∧rd C i≤65536)∧aU (C.take i.toNat)+rd C i≤65536:=by
 have:=qP (i:=i) h.2.1 h0 (by rw[h.1];omega)
 have:=h.2.2
 omega
theorem lJ.up (h:lJ C) (h0:0≤s) (hs:s<258):OG (upd C s (rd C s+32))∧aU (upd C s (rd C s+32))=aU C+32:=by
 have hp:=h.le.part h0 hs
 have hu:=SA (l:=C) (i:=s) (v:=rd C s+32) h0 (by rw[h.1];omega)
 have:=h.2.2
 exact⟨⟨by rw[aV];exact h.1,aCe h.2.1 (by omega),by omega⟩,by omega⟩
theorem OG.half (h:OG C):lJ (nS C):=by
 have:=LW h.2.1
 rw[h.1] at this
 have hl:=h.2.2
 refine⟨by unfold nS;rw[List.length_map];exact h.1,fun c hc=> ?_,by unfold nS;omega⟩
 obtain⟨x,hx,rfl⟩:=List.mem_map.1 hc
 have:=h.2.1 x hx
 omega
structure KC (U V:List Int) (i:Int) (t:Int):Prop where
 len:V.length=258
 done: ∀j:Int,0≤j→j<i→rd V j=rd (nS U) j
 left: ∀j:Int,i≤j→j<258→rd V j=rd U j
 sum:t=aU ((nS U).take i.toNat)
theorem ZT (h:U.length=258):KC U U 0 0:=⟨h,fun j h1 h2=>by omega,fun j _ _=>rfl,rfl⟩
theorem KC.step (h:KC U V i t) (hU:U.length=258) (h0:0≤i) (hi:i<258):KC U (upd V i ((rd V i+1)/2)) (i+1) (t+rd (upd V i ((rd V i+1)/2)) i):=by
 have hl:=h.len
 have e:(rd V i+1)/2=rd (nS U) i:=by rw[h.left i (by omega) hi,aMk h0 (by omega)]
 refine⟨by rw[aV];exact hl,fun j j0 j1=> ?_,fun j j0 j1=> ?_,?_⟩
 ·rw [fI h0 j0 (by omega)]
  by_cases c:j=i
  ·rw[if_pos c,e,c]
  ·rw[if_neg c];exact h.done j j0 (by omega)
 ·rw[fI h0 (by omega) (by omega),if_neg (by omega)];exact h.left j (by omega) j1
 ·rw[qO h0 (by unfold nS;rw[List.length_map];omega),←h.sum,eF h0 (by omega),e]
theorem KC.done_all (h:KC U V 258 t) (hU:U.length=258):V=nS U∧t=aU (nS U):=by
 have hh:(nS U).length=258:=by unfold nS;rw[List.length_map];exact hU
 refine⟨bI (by rw[h.len,hh]) fun j j0 j1=>h.done j j0 (by have:=h.len;omega),?_⟩
 rw[h.sum,List.take_of_length_le (by rw[hh];decide)]
def shN (R:Int):Nat:=if 16777216≤R then 0 else if 65536≤R then 1 else if 256≤R then 2 else 3
theorem FJ (R:Int):shN R≤3:=by unfold shN;split<;>(try split)<;>(try split)<;>omega
theorem FI {R:Int} {j:Nat} (h1:1≤R) (hj:j≤shN R) (h:R*256^j<16777216):j+1≤shN R:=by
 have:=FJ R
 rcases(by omega:j=0∨j=1∨j=2∨j=3) with rfl|rfl|rfl|rfl<;>unfold shN at* <;>(split<;>(try split)<;>(try split)<;>omega)
variable {R low size total o x:Int} {j:Nat} {b:List Int}
theorem OW (h1:1≤R) (hj:j≤shN R) (h:16777216≤R*256^j):j=shN R:=by
 have:=FJ R
 rcases(by omega:j=0∨j=1∨j=2∨j=3) with rfl|rfl|rfl|rfl<;>unfold shN at* <;>(split at hj<;>(try split at hj)<;>(try split at hj)<;>split<;>(try split)<;>(try split)<;>omega)
theorem GJ (h:1≤R):1≤R*256^j:=by
 have h1:(0:Int)<256^j:=Int.pow_pos (by omega)
 have:=Int.mul_pos (show 0<R by omega) h1
 omega
theorem aFx (h:256≤R):shN R≤2:=by unfold shN;split<;>(try split)<;>(try split)<;>omega
theorem aFw (h:256≤R) (hl:R<4294967296):16777216≤R*256^shN R∧R*256^shN R<4294967296:=by
 unfold shN
 split
 ·omega
 ·split
  ·omega
  ·omega
structure CdS where
 N:Int
 R:Int
 k:Nat
def cd0:CdS:=⟨0,4294967295,0⟩
def gQ (s:CdS) (low size total:Int):CdS:=⟨(s.N+s.R/total*low)*256^shN (s.R/total*size),s.R/total*size*256^shN (s.R/total*size),s.k+shN (s.R/total*size)⟩
def XF (s:CdS):Prop:=16777216≤s.R∧s.R<4294967296∧0≤s.N∧s.N+s.R≤256^(s.k+4)
theorem bAo:XF cd0:=by unfold XF cd0;dsimp only;omega
def uS (low size total:Int):Prop:=0≤low∧1≤size∧low+size≤total∧total≤65536
theorem oV (h:uS low size total) (hR:16777216≤R∧R<4294967296):
  256≤R/total∧R/total≤R∧0≤R/total*low∧R/total≤R/total*size∧R/total*low+R/total*size≤R:=by
 obtain⟨h0,h1,h2,h3⟩:=h
 have hq:256≤R/total:=(Int.le_ediv_iff_mul_le (by omega)).2 (by omega)
 have hm:R/total*total≤R:=Int.ediv_mul_le R (by omega)
 have a1:0≤R/total*low:=Int.mul_nonneg (by omega) h0
 have a2:R/total*1≤R/total*size:=Int.mul_le_mul_of_nonneg_left h1 (by omega)
 have a3:R/total*(low+size)≤R/total*total:=Int.mul_le_mul_of_nonneg_left h2 (by omega)
 rw[Int.mul_add] at a3
 refine⟨hq,?_,a1,by omega,by omega⟩
 exact Int.ediv_le_self _ (by omega)
theorem aTk {s:CdS} (h:XF s) (hs:uS low size total):XF (gQ s low size total)∧(gQ s low size total).k≤s.k+2:=by
 obtain⟨r0,r1,n0,nr⟩:=h
 obtain⟨f1,f2,f3,f4,f5⟩:=oV hs ⟨r0,r1⟩
 have hw:=aFw (R:=s.R/total*size) (by omega) (by omega)
 have hj:=aFx (R:=s.R/total*size) (by omega)
 unfold gQ
 generalize hq:s.R/total*size=R1 at*
 generalize hl:s.R/total*low=x at*
 generalize shN R1=j at*
 refine⟨⟨hw.1,hw.2,Int.mul_nonneg (by omega) (Int.pow_nonneg (by omega)),?_⟩,by dsimp only;omega⟩
 show(s.N+x)*256^j+R1*256^j≤256^(s.k+j+4)
 rw[←Int.add_mul,show s.k+j+4=s.k+4+j by omega,Int.pow_add]
 exact Int.mul_le_mul_of_nonneg_right (by omega) (Int.pow_nonneg (by omega))
theorem WS (m:Nat) (M:Int):beL (m+1) (M*256/4294967296)=beL m (M/4294967296)++[M%4294967296/16777216%256]:=by
 rw[beL,show M*256/4294967296/256=M/4294967296 by omega,show M*256/4294967296%256=M%4294967296/16777216%256 by omega]
theorem aVz (m:Nat) (M x:Int) (hx:x=M%4294967296):beL m (M/4294967296)++[x/16777216%256]++[x/65536%256]++[x/256%256]++[x/1%256]=beL (m+4) M:=by
 rw[aVy,show x/16777216%256=M%4294967296/16777216 by omega,show x/65536%256=M%16777216/65536 by omega,show x/256%256=M%65536/256 by omega,show x/1%256=M%256 by omega]
 simp
structure PpS where
 c0:List Int
 c1:List Int
 c2:List Int
 cls:Int
 cd:CdS
def pp0:PpS:=⟨wT,wT,wT,0,cd0⟩
def lF (s:Int):Int:=if s<2 then 0 else if s<6 then 1 else 2
theorem aQq (s:Int):0≤lF s∧lF s≤2:=by unfold lF;split<;>(try split)<;>omega
def tO (o:Int) (s:PpS):List Int:=if s.cls*o=0 then s.c0 else if s.cls*o=1 then s.c1 else s.c2
def aFy (o:Int) (s:PpS) (C:List Int) (cls:Int) (cd:CdS):PpS:=if s.cls*o=0 then⟨C,s.c1,s.c2,cls,cd⟩ else if s.cls*o=1 then⟨s.c0,C,s.c2,cls,cd⟩ else⟨s.c0,s.c1,C,cls,cd⟩
def sN (c:CdS) (C:List Int) (x:Int):CdS:=gQ c (aU (C.take x.toNat)) (rd C x) (aU C)
def jY (o:Int) (s:PpS) (x:Int):PpS:=aFy o s (lK (tO o s) x) (lF x) (sN s.cd (tO o s) x)
def encP (o:Int) (l:List Int):PpS:=l.foldl (jY o) pp0
theorem aIg (o:Int) (l:List Int) (x:Int):encP o (l++[x])=jY o (encP o l) x:=by unfold encP;rw[List.foldl_append];rfl
def bK (b:List Int):List Int:=bD 0 (bB aR b)++[257]
def dK (b:List Int) (o:Int):List Int:=beL ((encP o (bK b)).cd.k+4) (encP o (bK b)).cd.N
def KZ (s:PpS):Prop:=(lJ s.c0∧lJ s.c1∧lJ s.c2)∧(0≤s.cls∧s.cls≤2)∧XF s.cd
theorem aZb:KZ pp0:=⟨⟨PL,PL,PL⟩,by unfold pp0;dsimp only;omega,bAo⟩
theorem EE {s:PpS} (h:KZ s):lJ (tO o s):=by
 unfold tO
 split
 ·exact h.1.1
 ·split
  ·exact h.1.2.1
  ·exact h.1.2.2
theorem lU {C:List Int} (h:lJ C) (h0:0≤x) (hx:x<258):uS (aU (C.take x.toNat)) (rd C x) (aU C):=by
 obtain⟨hl,hp,ht⟩:=h
 have:=qP (i:=x) hp h0 (by omega)
 exact⟨by omega,by omega,by omega,by omega⟩
theorem FE {s:PpS} (h:KZ s) (h0:0≤x) (hx:x<258):KZ (jY o s x)∧(jY o s x).cd.k≤s.cd.k+2:=by
 have hm:=aSp (EE (o:=o) h) h0 hx
 have hc:=aTk h.2.2 (lU (EE (o:=o) h) h0 hx)
 have hb:=aQq x
 unfold jY aFy
 split
 ·exact⟨⟨⟨hm,h.1.2.1,h.1.2.2⟩,hb,hc.1⟩,hc.2⟩
 ·split
  ·exact⟨⟨⟨h.1.1,hm,h.1.2.2⟩,hb,hc.1⟩,hc.2⟩
  ·exact⟨⟨⟨h.1.1,h.1.2.1,hm⟩,hb,hc.1⟩,hc.2⟩
def aBq (l:List Int):Prop:= ∀x∈l,0≤x∧x<258
theorem qN (h:aO b):aBq (bK b):=fun x hx=>by
 unfold bK at hx
 rcases List.mem_append.1 hx with hx|hx
 ·have:=DZ (bB aR b) 0 (jK h) x hx;omega
 ·rw[List.mem_singleton.1 hx];omega
theorem LU (b:List Int):(bK b).length≤b.length+1:=by
 unfold bK
 have:=oU (bB aR b) 0
 rw[gG] at this
 rw[List.length_append,List.length_singleton]
 omega
theorem aDw {o:Int}: ∀(l:List Int) (s:PpS),aBq l→KZ s→KZ (l.foldl (jY o) s)∧(l.foldl (jY o) s).cd.k≤s.cd.k+2*l.length
 |[],s,_,h=>⟨h,Nat.le_refl _⟩
 |x::l,s,hl,h=>by
  have hx:=hl x (by simp)
  have h1:=FE (o:=o) h hx.1 hx.2
  have h2:=aDw (o:=o) l (jY o s x) (fun y hy=>hl y (List.mem_cons_of_mem _ hy)) h1.1
  rw[List.foldl_cons,List.length_cons]
  exact⟨h2.1,by omega⟩
theorem zH {l:List Int} (h:aBq l):KZ (encP o l)∧(encP o l).cd.k≤2*l.length:=by
 have:=aDw (o:=o) l pp0 h aZb
 unfold encP
 have e:pp0.cd.k=0:=rfl
 rw[e] at this
 exact⟨this.1,by omega⟩
theorem oF (h:aO b):(dK b o).length≤2*b.length+6:=by
 unfold dK
 rw[kP]
 have:=(zH (o:=o) (qN h)).2
 have:=LU b
 omega
theorem gB (b:List Int) (o:Int):aO (dK b o):=BR _ _
variable {v:Int}
def GD:Nat→Int→List Int
 |0,v=>[v]
 |f+1,v=>if v<128 then [v] else(v%128+128)::GD f (v/128)
def bP (v:Int):List Int:=GD v.toNat v
theorem EH: ∀(f g:Nat) (v:Int),v.toNat≤f→v.toNat≤g→GD f v=GD g v
 |0,0,v,_,_=>rfl
 |0,g+1,v,h,_=>by rw[GD,GD,if_pos (by omega)]
 |f+1,0,v,_,h=>by rw[GD,GD,if_pos (by omega)]
 |f+1,g+1,v,h1,h2=>by
  simp only[GD]
  by_cases z:v<128
  ·rw[if_pos z,if_pos z]
  ·rw[if_neg z,if_neg z,EH f g _ (by omega) (by omega)]
theorem jJ (h:v<128):bP v=[v]:=by
 rw[bP,EH v.toNat (v.toNat+1) v (by omega) (by omega),GD,if_pos h]
theorem qV (h:128≤v):bP v=(v%128+128)::bP (v/128):=by
 rw[bP,EH v.toNat (v.toNat+1) v (by omega) (by omega),GD,if_neg (by omega),bP,EH v.toNat (v/128).toNat _ (by omega) (by omega)]
theorem aGn {v0:Int} {acc:List Int} (h:bP v0=acc++bP v) (hv:128≤v) {d q:Int} (hd:d=v%128+128) (hq:q=v/128):bP v0=(acc++[d])++bP q:=by
 rw[h,qV hv,←hd,←hq,List.append_assoc]
 rfl
theorem eG: ∀(k:Nat) (v:Int),v<128^(k+1)→(bP v).length≤k+1
 |0,v,h=>by rw[jJ (by omega)];exact Nat.le_refl _
 | k+1,v,h=>by
  by_cases z:v<128
  ·rw[jJ z];simp
  ·rw [qV (by omega),List.length_cons]
   have:v/128<128^(k+1):=by
    rw[Int.pow_succ] at h
    exact Int.ediv_lt_of_lt_mul (by omega) h
   have:=eG k (v/128) this
   omega
theorem GC: ∀(k:Nat) (v:Int),v.toNat≤k→0≤v→aO (bP v)
 |0,v,h,h0=>by
  rw[jJ (by omega)]
  intro x hx
  rw[List.mem_singleton.1 hx];omega
 | k+1,v,h,h0=>by
  by_cases z:v<128
  ·rw [jJ z]
   intro x hx
   rw[List.mem_singleton.1 hx];omega
  ·rw [qV (by omega)]
   intro x hx
   rcases List.mem_cons.1 hx with rfl|hx
   ·omega
   ·exact GC k (v/128) (by omega) (by omega) x hx
theorem eZ (h:0≤v):aO (bP v):=GC _ v (Nat.le_refl _) h
def iF (v:Int):List Int:=[v/1%256,v/256%256,v/65536%256,v/16777216%256]
theorem iR (v:Int):aO (iF v):=fun x hx=>by
 simp only[iF,List.mem_cons,List.not_mem_nil,or_false] at hx
 omega
end Go.Pure
namespace Go.Eng
open Go Go.RowKit Go.Pure
section
variable {P:Program} {n:Nd} {B:Nat} {w0:World} {L:Env} {R:List Row} {ty:TypeId}
theorem QO {f:FuncId} {asx:List Operand} {ts:Array TypeId} {vs:List Value} {Post:Value→List Row→Prop} (ha:evs L asx=some vs)
  (hx: ∀w,Hp B w0 w R→ ∃v w' R',(callFunc f vs.toArray).run P w= .ok (.value v) w'∧Hp B w0 w' R'∧Post v R'):
  Ac P n B w0 (.call {callee:= .value (.func f),args:=asx.toArray,argTypes:=ts}) ty L R Post:=by
 intro a w o K Q ho _ hs hp hk
 have e1:=hs.evs ha
 obtain⟨v,w',R',hr,hp',hv⟩:=hx w hp
 have hf:a.eval (.func f)= .func (.func f) #[] #[]:=hs.ev rfl
 unfold Oper.wp
 simp only[execOp,ho,resolve,hf,Deferred.ofValue,invoke,Sem.run_bind,Sem.run_pure,Result.andThen_ok,List.map_toArray,e1,List.append_toArray,List.nil_append,List.append_nil,hr,Oper.upon]
 exact hk v w' R' hp' hv
theorem WM (u:List Int):(Lib.bytesOf u).length=u.length:=by simp[Lib.bytesOf]
theorem NT: ∀ {u t:List Int},aO u→aO t→Lib.compareBytes (Lib.bytesOf u) (Lib.bytesOf t)=cmpL u t
 |[],[],_,_=>rfl
 |[],_::_,_,_=>rfl
 |_::_,[],_,_=>rfl
 | x::u,y::t,hu,ht=>by
  have ih:=NT (u:=u) (t:=t) (fun z hz=>hu z (List.mem_cons_of_mem _ hz)) fun z hz=>ht z (List.mem_cons_of_mem _ hz)
  have hx:=hu x (by simp)
  have hy:=ht y (by simp)
  have e: ∀z:Int,0≤z∧z<256→((z.toNat.toUInt8).toNat:Int)=z:=fun z hz=>by
   rw[Nat.toUInt8,UInt8.toNat_ofNat_of_lt' (by simp[UInt8.size];omega)]
   omega
  have hlt: ∀ {a b:Int},0≤a∧a<256→0≤b∧b<256→(a.toNat.toUInt8<b.toNat.toUInt8↔a<b):=fun {a b} ha hb=>by
   rw[UInt8.lt_iff_toNat_lt]
   have h1:=e a ha
   have h2:=e b hb
   omega
  show(if x.toNat.toUInt8<y.toNat.toUInt8 then -1 else if y.toNat.toUInt8<x.toNat.toUInt8 then 1 else Lib.compareBytes (Lib.bytesOf u) (Lib.bytesOf t))=cmpL (x::u) (y::t)
  rw[cmpL,ih]
  by_cases c:x<y
  ·rw[if_pos c,if_pos ((hlt hx hy).2 c)]
  ·rw [if_neg c,if_neg (fun h=>c ((hlt hx hy).1 h))]
   by_cases d:y<x
   ·rw[if_pos d,if_pos ((hlt hy hx).2 d)]
   ·rw[if_neg d,if_neg (fun h=>d ((hlt hy hx).1 h))]
theorem tQ {w:World} {A:Option Addr} {m c:Nat} {u:List Int} (h:Rd w A m c 1 (ints .u8 u)):(Extern.Bytes.bytesOf (.slice A m c)).run P w= .ok ⟨(Lib.bytesOf u).toArray⟩ w:=by
 have hl:=h.lenI
 rcases A with _|a
 ·have h0:u=[]:=by
   cases u with
   |nil=>rfl
   |cons y l'=>obtain⟨_,g,_⟩:=h.at_ 0 (.int .u8 y) (by simp[ints]);cases g
  subst h0
  rfl
 ·have:=Lib.run_loadBytesX (P:=P) w u a .empty fun j x hj=>by
   obtain⟨b,e,hc⟩:=h.at_ j (.int .u8 x) (by simp[ints,hj])
   obtain rfl:=Option.some.inj e
   exact hc
  rw[←hl] at this
  show(Extern.Bytes.loadBytes a m .empty).run P w=_
  rw[this]
  simp
theorem aSu {w:World} {A A2:Option Addr} {m c m2 c2:Nat} {u t:List Int} (h:Rd w A m c 1 (ints .u8 u)) (h2:Rd w A2 m2 c2 1 (ints .u8 t)) (hu:aO u) (ht:aO t):
  (Extern.BytealgCompare.compare #[.slice A m c, .slice A2 m2 c2]).run P w= .ok (.int .i64 (cmpL u t)) w:=by
 change Sem.run P (do pure (goInt (Extern.BytealgCompare.cmp (←Extern.Bytes.bytesOf (.slice A m c)) (←Extern.Bytes.bytesOf (.slice A2 m2 c2))))) w=_
 simp only[Sem.run_bind,tQ h,tQ h2,Result.andThen_ok,Sem.run_pure]
 rw[Lib.cmp_eq,NT hu ht]
 rfl
theorem bFc {f:FuncId} {fn:Func} {x y:Operand} {ts:Array TypeId} {A A2:Option Addr} {m c m2 c2:Nat} {u t:List Int} (hf:P.funcs[f]? =some fn) (hname:(fn.name== "runtime.NumGoroutine")=false) (hb:fn.body.isNone=true) (hn:Extern.findNext fn=none) (he:Extern.find fn=some Extern.BytealgCompare.compare)
  (hx:ev L x=some (.slice A m c)) (hy:ev L y=some (.slice A2 m2 c2)) (h:RdC B w0 R A m c 1 (ints .u8 u)) (h2:RdC B w0 R A2 m2 c2 1 (ints .u8 t)) (hu:aO u) (ht:aO t):
  Ac P n B w0 (.call {callee:= .value (.func f),args:=[x,y].toArray,argTypes:=ts}) ty L R (fun v R'=>v= .int .i64 (cmpL u t)∧R'=R):=
 QO (vs:=[.slice A m c, .slice A2 m2 c2]) (by simp[evs,hx,hy]) fun w hw=>⟨_,w,R,by
  rw[run_callFunc_extern hf hname hb hn he]
  rw[show [Value.slice A m c,Value.slice A2 m2 c2].toArray= #[.slice A m c, .slice A2 m2 c2] from rfl,aSu (h w hw) (h2 w hw) hu ht]
  rfl,hw,rfl,rfl⟩
theorem aWo {x:Operand} {t e:TypeId} {A:Option Addr} {m c:Nat} (ht:P.underlying t=some (.slice e)) (hx:ev L x=some (.slice A m c)):Yl P n B w0 (.call {callee:= .builtin .cap,args:= #[x],argTypes:= #[t]}) ty L R (.int .i64 (c:Int)):=by
 intro a w o ho _ hs _
 simp[execOp,ho,resolve,invoke,builtin,Builtin.cap_,run_underlying ht,hs.ev hx,goInt]
theorem QT {x z:Operand} {t e:TypeId} {A:Option Addr} {m c sz:Nat} {k2:IntKind} (ht:P.underlying t=some (.slice e)) (hi:(P.info? e).map (·.size)=some sz) (hx:ev L x=some (.slice A m c)) (hz:ev L z=some (.int k2 0)):
  Yl P n B w0 (.slice t x none (some z) none) ty L R (.slice A 0 c):=by
 intro a w o ho _ hs hp
 obtain⟨i0,hi0,hsz0⟩:=Option.map_eq_some_iff.1 hi
 have hel:P.elem t=e:=by simp[Program.elem,ht]
 have ht':P.underlying t=some (.slice (P.elem t)):=by rw[hel];exact ht
 simp only[execOp,ho,Option.map_some,Option.map_none,hs.ev hx,hs.ev hz,Sem.run_bind,run_sliceAt_slice w t _ _ _ _ ht',run_slice_h w t A m c ht' k2 0 (Int.le_refl 0) (by omega),hel]
 have:(if c=0 then A else Option.map (fun x=>x.add 0) A)=A:=by
  split
  ·rfl
  ·exact yJ A
 simp[sizeOf,typeInfo,hi0,hsz0,sliced,this]
theorem Row.lies_cut {w:World} {e sz m c:Nat} {A:Option Addr} {xs:List Value} (h:Row.lies B w ⟨e,sz,A,m,c,xs,false⟩) {k:Nat} (hk:k≤m) (hA:A≠none):Row.lies B w ⟨e,sz,A,k,c,xs.take (k*sz),false⟩:=by
 have h1:=Row.lies_w h rfl
 have hle:k*sz≤m*sz:=Nat.mul_le_mul_right _ hk
 unfold Row.lies
 simp only
 obtain⟨hl,h2⟩:=h1
 simp only at hl h2
 refine⟨by rw[List.length_take];omega,?_⟩
 rcases h2 with⟨hv,_⟩|⟨g,cap,cur,hv,hb,hg,hnc,hcm,hcs,ht⟩
 ·simp only[Value.slice.injEq] at hv
  exact absurd hv.1 hA
 ·simp only[Value.slice.injEq] at hv
  obtain⟨rfl,_,rfl⟩:=hv
  refine .inr ⟨g,c,cur,rfl,hb,hg,by omega,hcm,hcs,?_⟩
  rw[←ht,List.take_take]
  congr 1
  omega
theorem Hp.cut {w:World} {e sz m c:Nat} {A:Option Addr} {xs:List Value} (h:Hp B w0 w (⟨e,sz,A,m,c,xs,false⟩::R)) {k:Nat} (hk:k≤m) (hA:A≠none):Hp B w0 w (⟨e,sz,A,k,c,xs.take (k*sz),false⟩::R):=
 ⟨h.below,h.base,fun r hr=>by
  rcases List.mem_cons.1 hr with rfl|hr
  ·exact Row.lies_cut (h.own _ (.head _)) hk hA
  ·exact h.own r (.tail _ hr),by
  obtain⟨h1,h2⟩:=List.pairwise_cons.1 h.apart
  exact List.pairwise_cons.2 ⟨fun r hr=>h1 r hr,h2⟩,h.late⟩
theorem Hp.newC {w:World} (h:Hp B w0 w R) (cs:Array Value) (e m:Nat) (hm:m≤cs.size) (hc:cs.size≤maxLen):Hp B w0 (w.alloc (.cells cs e)) (⟨e,1,some ⟨w.heap.size,0,none⟩,m,cs.size,cs.toList.take m,false⟩::R):=by
 have h1:=h.new cs e cs.size 1 hc (by omega)
 have:=h1.cut (k:=m) hm (by simp)
 rwa[Nat.mul_one] at this
theorem aWd {x y:Operand} {t tn e:TypeId} {z:Value} {bytes:Nat} {kn:IntKind} {m:Nat} (ht:P.underlying t=some (.slice e)) (htn:P.underlying tn=some (.int kn)) (hinfo:(P.info? e).map (fun i=>(i.zero,i.size,i.bytes))=some (some z,1,bytes)) (hz:z.cells= #[z])
  (hx:ev L x=some (.slice none 0 0)) (hy:ev L y=some (.int .i64 (m:Int))) (h0:0<m) (hm:m≤9223372036854775807) (hb:m*bytes≤281474976710656):
  Ac P n B w0 (.call {callee:= .builtin .append,args:= #[x,y],argTypes:= #[t,tn]}) ty L R (fun v R'=> ∃g c,v= .slice (some ⟨g,0,none⟩) m c∧R'=⟨e,1,some ⟨g,0,none⟩,m,c,List.replicate m z,false⟩::R):=by
 intro a w o K Q ho _ hs hp hk
 obtain⟨i0,hi,hzz⟩:=Option.map_eq_some_iff.1 hinfo
 simp only[Prod.mk.injEq] at hzz
 obtain⟨hz0,hz1,hz2⟩:=hzz
 have hr:=Lib.run_append_nil_zeros (P:=P) w t tn o.type e i0 z .i64 kn ht htn hi hz0 m h0 (by omega) (by omega) (by rw[hz2];exact hb)
 have hzc: ∀q,(Builtin.zeroCells z.cells q).toList=List.replicate q z:=fun q=>by
  rw[hz]
  refine List.ext_getElem (by simp[Builtin.zeroCells]) fun i h1 h2=> ?_
  simp[Builtin.zeroCells,Nat.mod_one]
 unfold Oper.wp
 simp only[execOp,ho,resolve,invoke,builtin,Sem.run_bind,Sem.run_pure,Result.andThen_ok,List.map_toArray,List.map_cons,List.map_nil,hs.ev hx,hs.ev hy,hr,Oper.upon]
 have hge:=grownCap_ge w m 0 e
 have hle:=grownCap_le_maxLen w m 0 e (by unfold maxLen;omega)
 have hsz:(Builtin.zeroCells z.cells m++Builtin.zeroCells z.cells (grownCap w m 0 e-m)).size=grownCap w m 0 e:=by
  rw[←Array.length_toList,Array.toList_append,List.length_append,hzc,hzc,List.length_replicate,List.length_replicate];omega
 have hp2:=(hp.drawn (w.drawn+1) (by omega)).newC (Builtin.zeroCells z.cells m++Builtin.zeroCells z.cells (grownCap w m 0 e-m)) e m (by rw[hsz];exact hge) (by rw[hsz];exact hle)
 rw[Array.toList_append,hzc,hzc,List.take_left' (by rw[List.length_replicate]),hsz] at hp2
 exact hk _ _ _ hp2 ⟨_,_,rfl,rfl⟩
end
end Go.Eng
namespace Go.Eng
open Go Go.RowKit
section
variable {P:Program} {n:Nd} {B:Nat} {w0:World}
theorem DW {σ0 σ1 σ2 σ3 σ4 σ5 σ6 σ7:Type} {c:Code} {Q:eO} {L:Env} {R:List Row} (Lx:σ0→σ1→σ2→σ3→σ4→σ5→σ6→σ7→Env) (Rx:σ0→σ1→σ2→σ3→σ4→σ5→σ6→σ7→List Row) (J:σ0→σ1→σ2→σ3→σ4→σ5→σ6→σ7→Prop) (μ:σ0→σ1→σ2→σ3→σ4→σ5→σ6→σ7→Nat)
  (h0: ∃x0 x1 x2 x3 x4 x5 x6 x7,J x0 x1 x2 x3 x4 x5 x6 x7∧Sub (Lx x0 x1 x2 x3 x4 x5 x6 x7) L∧ ∀w,Hp B w0 w R→Hp B w0 w (Rx x0 x1 x2 x3 x4 x5 x6 x7))
  (round: ∀x0 x1 x2 x3 x4 x5 x6 x7,J x0 x1 x2 x3 x4 x5 x6 x7→W P n B w0 c {Q with nrm:=fun L' R'=> ∃y0 y1 y2 y3 y4 y5 y6 y7,J y0 y1 y2 y3 y4 y5 y6 y7∧μ y0 y1 y2 y3 y4 y5 y6 y7<μ x0 x1 x2 x3 x4 x5 x6 x7∧Sub (Lx y0 y1 y2 y3 y4 y5 y6 y7) L'∧ ∀w,Hp B w0 w R'→Hp B w0 w (Rx y0 y1 y2 y3 y4 y5 y6 y7)} (Lx x0 x1 x2 x3 x4 x5 x6 x7) (Rx x0 x1 x2 x3 x4 x5 x6 x7)):W P n B w0 (.loop c) Q L R:=by
 obtain⟨x0,x1,x2,x3,x4,x5,x6,x7,h1,h2,h3⟩:=h0
 refine oP (σ:=σ0 × σ1 × σ2 × σ3 × σ4 × σ5 × σ6 × σ7) (fun p=>Lx p.1 p.2.1 p.2.2.1 p.2.2.2.1 p.2.2.2.2.1 p.2.2.2.2.2.1 p.2.2.2.2.2.2.1 p.2.2.2.2.2.2.2) (fun p=>Rx p.1 p.2.1 p.2.2.1 p.2.2.2.1 p.2.2.2.2.1 p.2.2.2.2.2.1 p.2.2.2.2.2.2.1 p.2.2.2.2.2.2.2) (fun p=>J p.1 p.2.1 p.2.2.1 p.2.2.2.1 p.2.2.2.2.1 p.2.2.2.2.2.1 p.2.2.2.2.2.2.1 p.2.2.2.2.2.2.2) (fun p=>μ p.1 p.2.1 p.2.2.1 p.2.2.2.1 p.2.2.2.2.1 p.2.2.2.2.2.1 p.2.2.2.2.2.2.1 p.2.2.2.2.2.2.2) ⟨(x0,x1,x2,x3,x4,x5,x6,x7),h1,h2,h3⟩ fun p hp=>gN (round p.1 p.2.1 p.2.2.1 p.2.2.2.1 p.2.2.2.2.1 p.2.2.2.2.2.1 p.2.2.2.2.2.2.1 p.2.2.2.2.2.2.2 hp) ?_ (fun _ _ h=>h) (fun _ _ _ h=>h)
 rintro L' R' ⟨y0,y1,y2,y3,y4,y5,y6,y7,g1,g2,g3,g4⟩
 exact⟨(y0,y1,y2,y3,y4,y5,y6,y7),⟨g1,g2⟩,g3,g4⟩
theorem OO {σ0 σ1 σ2 σ3 σ4 σ5 σ6 σ7 σ8:Type} {c:Code} {Q:eO} {L:Env} {R:List Row} (Lx:σ0→σ1→σ2→σ3→σ4→σ5→σ6→σ7→σ8→Env) (Rx:σ0→σ1→σ2→σ3→σ4→σ5→σ6→σ7→σ8→List Row) (J:σ0→σ1→σ2→σ3→σ4→σ5→σ6→σ7→σ8→Prop) (μ:σ0→σ1→σ2→σ3→σ4→σ5→σ6→σ7→σ8→Nat)
  (h0: ∃x0 x1 x2 x3 x4 x5 x6 x7 x8,J x0 x1 x2 x3 x4 x5 x6 x7 x8∧Sub (Lx x0 x1 x2 x3 x4 x5 x6 x7 x8) L∧ ∀w,Hp B w0 w R→Hp B w0 w (Rx x0 x1 x2 x3 x4 x5 x6 x7 x8))
  (round: ∀x0 x1 x2 x3 x4 x5 x6 x7 x8,J x0 x1 x2 x3 x4 x5 x6 x7 x8→W P n B w0 c {Q with nrm:=fun L' R'=> ∃y0 y1 y2 y3 y4 y5 y6 y7 y8,J y0 y1 y2 y3 y4 y5 y6 y7 y8∧μ y0 y1 y2 y3 y4 y5 y6 y7 y8<μ x0 x1 x2 x3 x4 x5 x6 x7 x8∧Sub (Lx y0 y1 y2 y3 y4 y5 y6 y7 y8) L'∧ ∀w,Hp B w0 w R'→Hp B w0 w (Rx y0 y1 y2 y3 y4 y5 y6 y7 y8)} (Lx x0 x1 x2 x3 x4 x5 x6 x7 x8) (Rx x0 x1 x2 x3 x4 x5 x6 x7 x8)):W P n B w0 (.loop c) Q L R:=by
 obtain⟨x0,x1,x2,x3,x4,x5,x6,x7,x8,h1,h2,h3⟩:=h0
 refine oP (σ:=σ0 × σ1 × σ2 × σ3 × σ4 × σ5 × σ6 × σ7 × σ8) (fun p=>Lx p.1 p.2.1 p.2.2.1 p.2.2.2.1 p.2.2.2.2.1 p.2.2.2.2.2.1 p.2.2.2.2.2.2.1 p.2.2.2.2.2.2.2.1 p.2.2.2.2.2.2.2.2) (fun p=>Rx p.1 p.2.1 p.2.2.1 p.2.2.2.1 p.2.2.2.2.1 p.2.2.2.2.2.1 p.2.2.2.2.2.2.1 p.2.2.2.2.2.2.2.1 p.2.2.2.2.2.2.2.2) (fun p=>J p.1 p.2.1 p.2.2.1 p.2.2.2.1 p.2.2.2.2.1 p.2.2.2.2.2.1 p.2.2.2.2.2.2.1 p.2.2.2.2.2.2.2.1 p.2.2.2.2.2.2.2.2) (fun p=>μ p.1 p.2.1 p.2.2.1 p.2.2.2.1 p.2.2.2.2.1 p.2.2.2.2.2.1 p.2.2.2.2.2.2.1 p.2.2.2.2.2.2.2.1 p.2.2.2.2.2.2.2.2) ⟨(x0,x1,x2,x3,x4,x5,x6,x7,x8),h1,h2,h3⟩ fun p hp=>gN (round p.1 p.2.1 p.2.2.1 p.2.2.2.1 p.2.2.2.2.1 p.2.2.2.2.2.1 p.2.2.2.2.2.2.1 p.2.2.2.2.2.2.2.1 p.2.2.2.2.2.2.2.2 hp) ?_ (fun _ _ h=>h) (fun _ _ _ h=>h)
 rintro L' R' ⟨y0,y1,y2,y3,y4,y5,y6,y7,y8,g1,g2,g3,g4⟩
 exact⟨(y0,y1,y2,y3,y4,y5,y6,y7,y8),⟨g1,g2⟩,g3,g4⟩
theorem aKh {σ0 σ1 σ2 σ3 σ4 σ5 σ6 σ7 σ8 σ9:Type} {c:Code} {Q:eO} {L:Env} {R:List Row} (Lx:σ0→σ1→σ2→σ3→σ4→σ5→σ6→σ7→σ8→σ9→Env) (Rx:σ0→σ1→σ2→σ3→σ4→σ5→σ6→σ7→σ8→σ9→List Row) (J:σ0→σ1→σ2→σ3→σ4→σ5→σ6→σ7→σ8→σ9→Prop) (μ:σ0→σ1→σ2→σ3→σ4→σ5→σ6→σ7→σ8→σ9→Nat)
  (h0: ∃x0 x1 x2 x3 x4 x5 x6 x7 x8 x9,J x0 x1 x2 x3 x4 x5 x6 x7 x8 x9∧Sub (Lx x0 x1 x2 x3 x4 x5 x6 x7 x8 x9) L∧ ∀w,Hp B w0 w R→Hp B w0 w (Rx x0 x1 x2 x3 x4 x5 x6 x7 x8 x9))
  (round: ∀x0 x1 x2 x3 x4 x5 x6 x7 x8 x9,J x0 x1 x2 x3 x4 x5 x6 x7 x8 x9→W P n B w0 c {Q with nrm:=fun L' R'=> ∃y0 y1 y2 y3 y4 y5 y6 y7 y8 y9,J y0 y1 y2 y3 y4 y5 y6 y7 y8 y9∧μ y0 y1 y2 y3 y4 y5 y6 y7 y8 y9<μ x0 x1 x2 x3 x4 x5 x6 x7 x8 x9∧Sub (Lx y0 y1 y2 y3 y4 y5 y6 y7 y8 y9) L'∧ ∀w,Hp B w0 w R'→Hp B w0 w (Rx y0 y1 y2 y3 y4 y5 y6 y7 y8 y9)} (Lx x0 x1 x2 x3 x4 x5 x6 x7 x8 x9) (Rx x0 x1 x2 x3 x4 x5 x6 x7 x8 x9)):W P n B w0 (.loop c) Q L R:=by
 obtain⟨x0,x1,x2,x3,x4,x5,x6,x7,x8,x9,h1,h2,h3⟩:=h0
 refine oP (σ:=σ0 × σ1 × σ2 × σ3 × σ4 × σ5 × σ6 × σ7 × σ8 × σ9) (fun p=>Lx p.1 p.2.1 p.2.2.1 p.2.2.2.1 p.2.2.2.2.1 p.2.2.2.2.2.1 p.2.2.2.2.2.2.1 p.2.2.2.2.2.2.2.1 p.2.2.2.2.2.2.2.2.1 p.2.2.2.2.2.2.2.2.2) (fun p=>Rx p.1 p.2.1 p.2.2.1 p.2.2.2.1 p.2.2.2.2.1 p.2.2.2.2.2.1 p.2.2.2.2.2.2.1 p.2.2.2.2.2.2.2.1 p.2.2.2.2.2.2.2.2.1 p.2.2.2.2.2.2.2.2.2) (fun p=>J p.1 p.2.1 p.2.2.1 p.2.2.2.1 p.2.2.2.2.1 p.2.2.2.2.2.1 p.2.2.2.2.2.2.1 p.2.2.2.2.2.2.2.1 p.2.2.2.2.2.2.2.2.1 p.2.2.2.2.2.2.2.2.2) (fun p=>μ p.1 p.2.1 p.2.2.1 p.2.2.2.1 p.2.2.2.2.1 p.2.2.2.2.2.1 p.2.2.2.2.2.2.1 p.2.2.2.2.2.2.2.1 p.2.2.2.2.2.2.2.2.1 p.2.2.2.2.2.2.2.2.2) ⟨(x0,x1,x2,x3,x4,x5,x6,x7,x8,x9),h1,h2,h3⟩ fun p hp=>gN (round p.1 p.2.1 p.2.2.1 p.2.2.2.1 p.2.2.2.2.1 p.2.2.2.2.2.1 p.2.2.2.2.2.2.1 p.2.2.2.2.2.2.2.1 p.2.2.2.2.2.2.2.2.1 p.2.2.2.2.2.2.2.2.2 hp) ?_ (fun _ _ h=>h) (fun _ _ _ h=>h)
 rintro L' R' ⟨y0,y1,y2,y3,y4,y5,y6,y7,y8,y9,g1,g2,g3,g4⟩
 exact⟨(y0,y1,y2,y3,y4,y5,y6,y7,y8,y9),⟨g1,g2⟩,g3,g4⟩
theorem aKg {σ0 σ1 σ2 σ3 σ4 σ5 σ6 σ7 σ8 σ9 σ10 σ11 σ12 σ13:Type} {c:Code} {Q:eO} {L:Env} {R:List Row} (Lx:σ0→σ1→σ2→σ3→σ4→σ5→σ6→σ7→σ8→σ9→σ10→σ11→σ12→σ13→Env) (Rx:σ0→σ1→σ2→σ3→σ4→σ5→σ6→σ7→σ8→σ9→σ10→σ11→σ12→σ13→List Row) (J:σ0→σ1→σ2→σ3→σ4→σ5→σ6→σ7→σ8→σ9→σ10→σ11→σ12→σ13→Prop) (μ:σ0→σ1→σ2→σ3→σ4→σ5→σ6→σ7→σ8→σ9→σ10→σ11→σ12→σ13→Nat)
  (h0: ∃x0 x1 x2 x3 x4 x5 x6 x7 x8 x9 x10 x11 x12 x13,J x0 x1 x2 x3 x4 x5 x6 x7 x8 x9 x10 x11 x12 x13∧Sub (Lx x0 x1 x2 x3 x4 x5 x6 x7 x8 x9 x10 x11 x12 x13) L∧ ∀w,Hp B w0 w R→Hp B w0 w (Rx x0 x1 x2 x3 x4 x5 x6 x7 x8 x9 x10 x11 x12 x13))
  (round: ∀x0 x1 x2 x3 x4 x5 x6 x7 x8 x9 x10 x11 x12 x13,J x0 x1 x2 x3 x4 x5 x6 x7 x8 x9 x10 x11 x12 x13→W P n B w0 c {Q with nrm:=fun L' R'=> ∃y0 y1 y2 y3 y4 y5 y6 y7 y8 y9 y10 y11 y12 y13,J y0 y1 y2 y3 y4 y5 y6 y7 y8 y9 y10 y11 y12 y13∧μ y0 y1 y2 y3 y4 y5 y6 y7 y8 y9 y10 y11 y12 y13<μ x0 x1 x2 x3 x4 x5 x6 x7 x8 x9 x10 x11 x12 x13∧Sub (Lx y0 y1 y2 y3 y4 y5 y6 y7 y8 y9 y10 y11 y12 y13) L'∧ ∀w,Hp B w0 w R'→Hp B w0 w (Rx y0 y1 y2 y3 y4 y5 y6 y7 y8 y9 y10 y11 y12 y13)} (Lx x0 x1 x2 x3 x4 x5 x6 x7 x8 x9 x10 x11 x12 x13) (Rx x0 x1 x2 x3 x4 x5 x6 x7 x8 x9 x10 x11 x12 x13)):W P n B w0 (.loop c) Q L R:=by
 obtain⟨x0,x1,x2,x3,x4,x5,x6,x7,x8,x9,x10,x11,x12,x13,h1,h2,h3⟩:=h0
 refine oP (σ:=σ0 × σ1 × σ2 × σ3 × σ4 × σ5 × σ6 × σ7 × σ8 × σ9 × σ10 × σ11 × σ12 × σ13) (fun p=>Lx p.1 p.2.1 p.2.2.1 p.2.2.2.1 p.2.2.2.2.1 p.2.2.2.2.2.1 p.2.2.2.2.2.2.1 p.2.2.2.2.2.2.2.1 p.2.2.2.2.2.2.2.2.1 p.2.2.2.2.2.2.2.2.2.1 p.2.2.2.2.2.2.2.2.2.2.1 p.2.2.2.2.2.2.2.2.2.2.2.1 p.2.2.2.2.2.2.2.2.2.2.2.2.1 p.2.2.2.2.2.2.2.2.2.2.2.2.2) (fun p=>Rx p.1 p.2.1 p.2.2.1 p.2.2.2.1 p.2.2.2.2.1 p.2.2.2.2.2.1 p.2.2.2.2.2.2.1 p.2.2.2.2.2.2.2.1 p.2.2.2.2.2.2.2.2.1 p.2.2.2.2.2.2.2.2.2.1 p.2.2.2.2.2.2.2.2.2.2.1 p.2.2.2.2.2.2.2.2.2.2.2.1 p.2.2.2.2.2.2.2.2.2.2.2.2.1 p.2.2.2.2.2.2.2.2.2.2.2.2.2) (fun p=>J p.1 p.2.1 p.2.2.1 p.2.2.2.1 p.2.2.2.2.1 p.2.2.2.2.2.1 p.2.2.2.2.2.2.1 p.2.2.2.2.2.2.2.1 p.2.2.2.2.2.2.2.2.1 p.2.2.2.2.2.2.2.2.2.1 p.2.2.2.2.2.2.2.2.2.2.1 p.2.2.2.2.2.2.2.2.2.2.2.1 p.2.2.2.2.2.2.2.2.2.2.2.2.1 p.2.2.2.2.2.2.2.2.2.2.2.2.2) (fun p=>μ p.1 p.2.1 p.2.2.1 p.2.2.2.1 p.2.2.2.2.1 p.2.2.2.2.2.1 p.2.2.2.2.2.2.1 p.2.2.2.2.2.2.2.1 p.2.2.2.2.2.2.2.2.1 p.2.2.2.2.2.2.2.2.2.1 p.2.2.2.2.2.2.2.2.2.2.1 p.2.2.2.2.2.2.2.2.2.2.2.1 p.2.2.2.2.2.2.2.2.2.2.2.2.1 p.2.2.2.2.2.2.2.2.2.2.2.2.2) ⟨(x0,x1,x2,x3,x4,x5,x6,x7,x8,x9,x10,x11,x12,x13),h1,h2,h3⟩ fun p hp=>gN (round p.1 p.2.1 p.2.2.1 p.2.2.2.1 p.2.2.2.2.1 p.2.2.2.2.2.1 p.2.2.2.2.2.2.1 p.2.2.2.2.2.2.2.1 p.2.2.2.2.2.2.2.2.1 p.2.2.2.2.2.2.2.2.2.1 p.2.2.2.2.2.2.2.2.2.2.1 p.2.2.2.2.2.2.2.2.2.2.2.1 p.2.2.2.2.2.2.2.2.2.2.2.2.1 p.2.2.2.2.2.2.2.2.2.2.2.2.2 hp) ?_ (fun _ _ h=>h) (fun _ _ _ h=>h)
 rintro L' R' ⟨y0,y1,y2,y3,y4,y5,y6,y7,y8,y9,y10,y11,y12,y13,g1,g2,g3,g4⟩
 exact⟨(y0,y1,y2,y3,y4,y5,y6,y7,y8,y9,y10,y11,y12,y13),⟨g1,g2⟩,g3,g4⟩
end
section
variable {P:Program} {n:Nd} {B:Nat} {w0:World} {L:Env} {R:List Row} {ty:TypeId}
end
end Go.Eng
namespace Go.Eng
open Go Go.RowKit Go.Proofs
theorem SlW.elim {C:Prop} {k:IntKind} {w:World} {vals:List Value} {ls:List (List Int)} (h:SlW k w vals ls) {i:Int} (h0:0≤i) (h1:i<ls.length) (q: ∀(A:Option Addr) (c:Nat),vals[i.toNat]? =some (Value.slice A (rdl ls i).length c)→Rd w A (rdl ls i).length c 1 (ints k (rdl ls i))→(∀x∈rdl ls i,(Lit.int k x).wf=true)→(rdl ls i).length≤140737488355327→C):C:=by
 obtain⟨A,c,a,b,d,e⟩:=h.at h0 h1
 exact q A c a b d e
section
variable {P:Program} {n:Nd} {B:Nat} {w0:World} {L:Env} {R:List Row} {ty:TypeId}
theorem aDd {l:List (Int × Int)} {i:Int} (h0:0≤i) (h:i<l.length):(prs l)[i.toNat*2+0]? =some (.int .i64 (rdp l i).1):=by
 rw[PH _ _ (by omega)]
 rw[if_pos (by omega),show(i.toNat*2+0)/2=i.toNat by omega]
 rfl
theorem EP {x:Operand} {t:TypeId} {d:TypeDesc} {A:Option Addr} {m c:Nat} {l:List (Int × Int)} {i:Int} (hu:P.underlying t=some d) (hd:JW d=false) (hx:ev L x=some (.pointer (pat A (i.toNat*2+0)))) (hr:RdC B w0 R A m c 2 (prs l)) (h0:0≤i:=by omega) (h1:i<l.length:=by omega):
  Yl P n B w0 (.load t x) ty L R (.int .i64 (rdp l i).1):=DC hu hd hx rfl hr (aDd h0 h1)
end
section
variable {P:Program} {n:Nd} {B:Nat} {w0:World} {ops:Array Oper} {K:Env→List Row→Prop} {L:Env} {R:List Row} {op:Op} {ty:TypeId} {pos:String} {aft:Array Edge}
end
end Go.Eng
namespace Go.Eng
open Go Go.RowKit
variable {w:World} {A:Option Addr} {m c l h:Nat} {xs:List Int}
theorem Rd.cutI {k:IntKind} (hr:Rd w A m c 1 (ints k xs)) (h1:l≤h) (h2:h≤m):Rd w (iY A l c 1) (h-l) (c-l) 1 (ints k ((xs.drop l).take (h-l))):=
 RdC.cutI (hr.c []) h1 h2 w (Hp.refl _)
theorem Rd.fromI {k:IntKind} (hr:Rd w A m c 1 (ints k xs)) (h1:l≤m):Rd w (iY A l c 1) (m-l) (c-l) 1 (ints k (xs.drop l)):=
 RdC.fromI (hr.c []) h1 w (Hp.refl _)
theorem Rd.toI {k:IntKind} (hr:Rd w A m c 1 (ints k xs)) (h2:h≤m):Rd w A h c 1 (ints k (xs.take h)):=
 RdC.toI (hr.c []) h2 w (Hp.refl _)
theorem fH {x:Int} (h:0≤x∧x<256):(Lit.int .u8 x).wf=true:=by
 have h1:IntKind.u8.min≤x:=h.1
 have h2:x≤IntKind.u8.max:=by
  have:IntKind.u8.max=255:=by decide
  omega
 simp[Lit.wf,h1,h2]
theorem SlW.snoc {k:IntKind} {vals:List Value} {ls:List (List Int)} {l:List Int} (h:SlW k w vals ls) (hr:Rd w A m c 1 (ints k l)) (hwf: ∀x∈l,(Lit.int k x).wf=true) (hm:l.length≤140737488355327):SlW k w (vals++[.slice A m c]) (ls++[l]):=by
 obtain rfl:=hr.lenI
 refine⟨by rw[List.length_append,List.length_append,h.1];rfl,fun j hj=> ?_⟩
 rcases Nat.lt_or_ge j ls.length with a|a
 ·obtain ⟨A',c',h1,h2,h3,h4⟩:=h.2 j a
  have e:(ls++[l]).getD j []=ls.getD j []:=by
   rw[List.getD_eq_getElem?_getD,List.getD_eq_getElem?_getD,List.getElem?_append_left a]
  rw[e]
  exact⟨A',c',by rw[List.getElem?_append_left (by rw[h.1];exact a)];exact h1,h2,h3,h4⟩
 ·have hj':j=ls.length:=by rw[List.length_append] at hj;simp at hj;omega
  have e:(ls++[l]).getD j []=l:=by
   rw[List.getD_eq_getElem?_getD,hj',List.getElem?_append_right (Nat.le_refl _)]
   simp
  rw[e]
  refine⟨A,c,?_,hr,hwf,hm⟩
  rw[hj',←h.1,List.getElem?_append_right (Nat.le_refl _)]
  simp
section
variable {P:Program} {n:Nd} {B:Nat} {w0:World} {L:Env} {R:List Row} {ty:TypeId}
end
section
variable {P:Program} {n:Nd} {B:Nat} {w0:World} {L:Env} {R:List Row} {ty:TypeId}
def WRd (P:Program) (n:Nd) (B:Nat) (w0:World) (c:Code) (Q:eO):Nat→Env→List Row→Prop
 |0,_,_=>False
 |m+1,L,R=>W P n B w0 c {Q with nrm:=WRd P n B w0 c Q m} L R
theorem qM {c:Code} {Q:eO} (m:Nat) (h:WRd P n B w0 c Q m L R):W P n B w0 (.loop c) Q L R:=by
 intro a w hs hp
 refine wpIn_loop_rounds m ?_
 have key: ∀(m:Nat) (L:Env) (R:List Row) (a:Act) (w:World),Sat n L a→Hp B w0 w R→WRd P n B w0 c Q m L R→Code.roundsIn (NF n.rd) 0 P c (PQ n B w0 Q) m a w:=by
  intro m
  induction m with
  |zero=>intro L R a w _ _ h;exact h.elim
  |succ m ih=>
   intro L R a w hs hp h
   rw[roundsIn_succ]
   refine wpIn_mono (h a w hs hp) ?_
   intro e a' w' hq
   cases e with
   |normal=>obtain⟨L',R',hs',hp',hw⟩:=hq;exact ih _ _ _ _ hs' hp' hw
   |exit id=>exact hq
   |goto l=>exact hq
   |ret=>exact hq
   |panic ch=>exact hq
   |outgrown=>exact hq
 exact key m L R a w hs hp h
theorem dZ {c:Code} {Q:eO} {m:Nat} (h:W P n B w0 c {Q with nrm:=WRd P n B w0 c Q m} L R):WRd P n B w0 c Q (m+1) L R:=h
theorem aYi {t:TypeId} {x ix:Operand} {u i v:Value} (hx:ev L x=some u) (hi:ev L ix=some i) (h: ∀w,(Instr.index t u i).run P w= .ok v w):Yl P n B w0 (.index t x ix) ty L R v:=by
 intro a w o ho _ hs _
 simp[execOp,ho,hs.ev hx,hs.ev hi,h]
end
end Go.Eng
namespace Go.Eng
open Go Go.RowKit Go.Pure
section
variable {P:Program} {n:Nd} {B:Nat} {w0:World} {L:Env} {R:List Row} {ty:TypeId}
theorem aEq {x y:Int} (hx:0≤x∧x<256) (hy:0≤y∧y<256):(x.toNat.toUInt8==y.toNat.toUInt8)=decide (x=y):=by
 have e: ∀z:Int,0≤z∧z<256→((z.toNat.toUInt8).toNat:Int)=z:=fun z hz=>by
  rw[Nat.toUInt8,UInt8.toNat_ofNat_of_lt' (by simp[UInt8.size];omega)]
  omega
 by_cases h:x=y
 ·subst h
  simp
 ·rw [decide_eq_false h]
  refine beq_eq_false_iff_ne.2 fun g=>h ?_
  have:=e x hx
  have:=e y hy
  rw[g] at*
  omega
theorem aHz {u:List Int} {c:Int} (hu:aO u) (hc:0≤c∧c<256) (hm:c∈u):
  (List.range (⟨(Lib.bytesOf u).toArray⟩:ByteArray).size).find? (fun i=>(⟨(Lib.bytesOf u).toArray⟩:ByteArray)[i]! ==c.toNat.toUInt8)=some (idx u c).toNat:=by
 have hi:=sF hm
 have hsz:(⟨(Lib.bytesOf u).toArray⟩:ByteArray).size=u.length:=by
  show(Lib.bytesOf u).toArray.size=_
  rw[List.size_toArray,WM]
 have hat: ∀(i:Nat) (h:i<u.length),(⟨(Lib.bytesOf u).toArray⟩:ByteArray)[i]! =(u[i]).toNat.toUInt8:=fun i h=>by
  rw[getElem!_pos _ i (by rw[hsz];exact h)]
  show(Lib.bytesOf u).toArray[i]'_=_
  simp[Lib.bytesOf]
 refine List.find?_range_eq_some.2 ⟨?_,?_,?_⟩
 ·rw [hat _ (by omega),aEq (hu _ (List.getElem_mem _)) hc]
  have:=YO hm
  rw[eT hi.1 hi.2] at this
  rw[decide_eq_true this]
 ·rw[List.mem_range,hsz];omega
 ·intro j hj
  rw[hat _ (by omega),aEq (hu _ (List.getElem_mem _)) hc]
  have:u[j]≠c:=fun g=>by
   unfold idx at hj hi
   have:=List.not_of_lt_findIdx (xs:=u) (p:=fun x=>x==c) (i:=j) (by omega)
   simp[g] at this
  rw[decide_eq_false this]
  rfl
theorem XA {f:FuncId} {fn:Func} {x y:Operand} {ts:Array TypeId} {A:Option Addr} {m c':Nat} {u:List Int} {c:Int} (hf:P.funcs[f]? =some fn) (hname:(fn.name== "runtime.NumGoroutine")=false) (hb:fn.body.isNone=true) (hn:Extern.findNext fn=none) (he:Extern.find fn=some Extern.BytealgIndexByte.indexByte)
  (hx:ev L x=some (.slice A m c')) (hy:ev L y=some (.int .u8 c)) (h:RdC B w0 R A m c' 1 (ints .u8 u)) (hu:aO u) (hc:0≤c∧c<256) (hm:c∈u):
  Ac P n B w0 (.call {callee:= .value (.func f),args:=[x,y].toArray,argTypes:=ts}) ty L R (fun v R'=>v= .int .i64 (idx u c)∧R'=R):=
 QO (vs:=[.slice A m c', .int .u8 c]) (by simp[evs,hx,hy]) fun w hw=>⟨_,w,R,by
  rw[run_callFunc_extern hf hname hb hn he]
  rw[show [Value.slice A m c',Value.int .u8 c].toArray= #[.slice A m c', .int .u8 c] from rfl]
  change (Sem.run P (do
   let b←Extern.Bytes.bytesOf (.slice A m c')
   let c←Extern.Bytes.asByte (.int .u8 c)
   match (List.range b.size).find? fun i=>b[i]! ==c with
   |some i=>pure (goInt i)
   |none=>pure (goInt (-1))) w).andThen _=_
  simp only[Sem.run_bind,tQ (h w hw),Result.andThen_ok,Extern.Bytes.asByte,Sem.run_pure,aHz hu hc hm]
  rfl,hw,by
  show Value.int .i64 (((idx u c).toNat:Nat):Int)=_
  have:=sF hm
  rw[show(((idx u c).toNat:Nat):Int)=idx u c by omega],rfl⟩
theorem iQ {x:Int} (h0:0≤x) (h:x<18446744073709551616):IntKind.u64.wrap x=x:=by
 rw[IntKind.wrap_u64];omega
theorem rP {x:Int} (h0:0≤x) (h:x<256):IntKind.u8.wrap x=x:=by
 rw[IntKind.wrap_u8];omega
theorem aLg (x:Int) (h0:0≤x) (h1:x<18446744073709551616) (j:IntKind) (k:Nat) (hk:k≤64) (w:World):(Op.shift .shr .u64 x j (k:Int)).run P w= .ok (.int .u64 (x/2^k)) w:=by
 have hn: ¬((k:Int)<0):=by omega
 have hm:min (k:Int).toNat (IntKind.bits .u64)=k:=by
  have:IntKind.bits .u64=64:=rfl
  omega
 have he:Int.fdiv x (2^k)=x/2^k:=Int.fdiv_eq_ediv_of_nonneg _ (by exact Int.pow_nonneg (by omega))
 unfold Op.shift
 simp only[hn,hm,he,if_false]
 rfl
theorem aYg {x y:Operand} {t u:TypeId} {a:Int} {j:IntKind} {k:Nat} (hx:ev L x=some (.int .u64 a)) (hy:ev L y=some (.int j (k:Int))) (h0:0≤a) (h1:a<18446744073709551616) (hk:Nat.ble k 64=true):Yl P n B w0 (.binOp .shr t x y u) ty L R (.int .u64 (a/2^k)):=by
 intro a' w o ho _ hs _
 simp[execOp,ho,hs.ev hx,hs.ev hy,binOp,eqGuard,aLg a h0 h1 j k (Nat.le_of_ble_eq_true hk)]
end
section
variable {P:Program} {n:Nd} {B:Nat} {w0:World} {L:Env} {R:List Row} {ty:TypeId}
theorem aYj {x y:Operand} {t u:TypeId} {p q:Int} (hx:ev L x=some (.int .u64 p)) (hy:ev L y=some (.int .u64 q)) (h:0≤p+q∧p+q<18446744073709551616):Yl P n B w0 (.binOp .add t x y u) ty L R (.int .u64 (p+q)):=by
 have:=aKe (P:=P) (n:=n) (B:=B) (w0:=w0) (R:=R) (ty:=ty) (t:=t) (u:=u) hx hy
 rwa[iQ h.1 h.2] at this
theorem aYf {x y:Operand} {t u:TypeId} {p q:Int} (hx:ev L x=some (.int .u64 p)) (hy:ev L y=some (.int .u64 q)) (h:0≤p-q∧p-q<18446744073709551616):Yl P n B w0 (.binOp .sub t x y u) ty L R (.int .u64 (p-q)):=by
 have:=aWk (P:=P) (n:=n) (B:=B) (w0:=w0) (R:=R) (ty:=ty) (t:=t) (u:=u) hx hy
 rwa[iQ h.1 h.2] at this
theorem vY {x y:Operand} {t u:TypeId} {p q:Int} (hx:ev L x=some (.int .u64 p)) (hy:ev L y=some (.int .u64 q)) (h:0≤p*q∧p*q<18446744073709551616):Yl P n B w0 (.binOp .mul t x y u) ty L R (.int .u64 (p*q)):=by
 have:=aWn (P:=P) (n:=n) (B:=B) (w0:=w0) (R:=R) (ty:=ty) (t:=t) (u:=u) hx hy
 rwa[iQ h.1 h.2] at this
theorem EN {x y:Operand} {t u:TypeId} {p q:Int} (hx:ev L x=some (.int .u64 p)) (hy:ev L y=some (.int .u64 q)) (h:0≤p∧p<18446744073709551616) (h0:0<q):Yl P n B w0 (.binOp .quo t x y u) ty L R (.int .u64 (p/q)):=by
 have:=aWl (P:=P) (n:=n) (B:=B) (w0:=w0) (R:=R) (ty:=ty) (t:=t) (u:=u) hx hy h.1 h0
 have h1:p/q≤p:=Int.ediv_le_self q h.1
 have h2:0≤p/q:=Int.ediv_nonneg h.1 (by omega)
 rwa[iQ h2 (by omega)] at this
theorem iU {x:Operand} {s d:TypeId} {j:IntKind} {p:Int} {td:TypeDesc} (hs':P.underlying s=some td) (hd:P.underlying d=some (.int .u64)) (hx:ev L x=some (.int j p)) (h:0≤p∧p<18446744073709551616:=by omega):Yl P n B w0 (.convert s d x) ty L R (.int .u64 p):=by
 have:=oO (P:=P) (n:=n) (B:=B) (w0:=w0) (R:=R) (ty:=ty) hs' hd hx
 rwa[iQ h.1 h.2] at this
theorem iG {x:Operand} {s d:TypeId} {j:IntKind} {p:Int} {td:TypeDesc} (hs':P.underlying s=some td) (hd:P.underlying d=some (.int .u8)) (hx:ev L x=some (.int j p)):Yl P n B w0 (.convert s d x) ty L R (.int .u8 (p%256)):=by
 have:=oO (P:=P) (n:=n) (B:=B) (w0:=w0) (R:=R) (ty:=ty) hs' hd hx
 rwa[IntKind.wrap_u8] at this
theorem aYk {x y:Operand} {t u:TypeId} {p q:Int} (hx:ev L x=some (.int .u8 p)) (hy:ev L y=some (.int .u8 q)):Yl P n B w0 (.binOp .add t x y u) ty L R (.int .u8 ((p+q)%256)):=by
 have:=aKe (P:=P) (n:=n) (B:=B) (w0:=w0) (R:=R) (ty:=ty) (t:=t) (u:=u) hx hy
 rwa[IntKind.wrap_u8] at this
theorem aLh (x m:Int) (h:0≤x*m∧x*m<18446744073709551616) (j:IntKind) (k:Nat) (hk:k≤64) (hm:(2:Int)^k=m) (w:World):(Op.shift .shl .u64 x j (k:Int)).run P w= .ok (.int .u64 (x*m)) w:=by
 have hn: ¬((k:Int)<0):=by omega
 have hb:min (k:Int).toNat (IntKind.bits .u64)=k:=by
  have:IntKind.bits .u64=64:=rfl
  omega
 unfold Op.shift
 simp only[hn,hb,if_false,hm,iQ h.1 h.2]
 rfl
theorem vX {x y:Operand} {t u:TypeId} {a m:Int} {j:IntKind} {k:Nat} (hx:ev L x=some (.int .u64 a)) (hy:ev L y=some (.int j (k:Int))) (hm:(2:Int)^k=m) (h:0≤a*m∧a*m<18446744073709551616) (hk:Nat.ble k 64=true):Yl P n B w0 (.binOp .shl t x y u) ty L R (.int .u64 (a*m)):=by
 intro a' w o ho _ hs _
 simp[execOp,ho,hs.ev hx,hs.ev hy,binOp,eqGuard,aLh a m h j k (Nat.le_of_ble_eq_true hk) hm]
theorem pW {x y:Operand} {t u:TypeId} {a m:Int} {j:IntKind} {k:Nat} (hx:ev L x=some (.int .u64 a)) (hy:ev L y=some (.int j (k:Int))) (hm:(2:Int)^k=m) (h:0≤a∧a<18446744073709551616) (hk:Nat.ble k 64=true):Yl P n B w0 (.binOp .shr t x y u) ty L R (.int .u64 (a/m)):=by
 have:=aYg (P:=P) (n:=n) (B:=B) (w0:=w0) (R:=R) (ty:=ty) (t:=t) (u:=u) hx hy h.1 h.2 hk
 rwa[hm] at this
theorem qA {p:Int} (h:0≤p∧p<18446744073709551616):(BitVec.ofInt 64 p).toNat=p.toNat:=by
 rw[BitVec.toNat_ofInt]
 have e:((2^64:Nat):Int)=18446744073709551616:=rfl
 rw[e,Int.emod_eq_of_lt h.1 h.2]
theorem aGc (p:Int) (h:0≤p∧p<18446744073709551616) (k:Nat) (hk:k≤64) (m:Int) (hm:m=(2:Int)^k-1) (w:World):(Op.intBits .and .u64 p m).run P w= .ok (.int .u64 (p%2^k)) w:=by
 show Result.ok (Value.int .u64 (IntKind.u64.wrap ((BitVec.ofInt 64 p &&& BitVec.ofInt 64 m).toNat:Int))) w=_
 have hp:(0:Int)<2^k:=Int.pow_pos (by omega)
 have hle:(2:Int)^k≤2^64:=by
  have:(2:Nat)^k≤2^64:=Nat.pow_le_pow_right (by omega) hk
  exact_mod_cast this
 have e1:(BitVec.ofInt 64 m).toNat=2^k-1:=by
  rw[qA (by omega),hm]
  have:((2:Int)^k)=((2^k:Nat):Int):=by norm_cast
  rw[this]
  omega
 rw[BitVec.toNat_and,qA h,e1,Nat.and_two_pow_sub_one_eq_mod]
 have e2:((p.toNat%2^k:Nat):Int)=p%2^k:=by
  rw[Int.natCast_emod,Int.toNat_of_nonneg h.1]
  norm_cast
 rw[e2]
 have h1:0≤p%2^k:=Int.emod_nonneg _ (by omega)
 have h2:p%2^k<2^k:=Int.emod_lt_of_pos _ hp
 rw[iQ h1 (by omega)]
theorem OM {x y:Operand} {t u:TypeId} {p q m:Int} (k:Nat) (hx:ev L x=some (.int .u64 p)) (hy:ev L y=some (.int .u64 q)) (hm:(2:Int)^k=m) (hq:q=m-1) (h:0≤p∧p<18446744073709551616) (hk:Nat.ble k 64=true):Yl P n B w0 (.binOp .and t x y u) ty L R (.int .u64 (p%m)):=by
 subst hm
 intro a w o ho _ hs _
 simp[execOp,ho,binOp,eqGuard,hs.ev hx,hs.ev hy,aGc p h k (Nat.le_of_ble_eq_true hk) q hq]
theorem aZe: ∀n:Fin 256,(n.val|||128)=n.val%128+128:=by decide+kernel
theorem aSt (p:Int) (h:0≤p∧p<256) (w:World):(Op.intBits .or .u8 p 128).run P w= .ok (.int .u8 (p%128+128)) w:=by
 show Result.ok (Value.int .u8 (IntKind.u8.wrap ((BitVec.ofInt 8 p|||BitVec.ofInt 8 128).toNat:Int))) w=_
 have e1:(BitVec.ofInt 8 p).toNat=p.toNat:=by
  rw[BitVec.toNat_ofInt]
  have e:((2^8:Nat):Int)=256:=rfl
  rw[e,Int.emod_eq_of_lt h.1 h.2]
 have e2:(BitVec.ofInt 8 128).toNat=128:=by decide
 rw[BitVec.toNat_or,e1,e2]
 have:=aZe ⟨p.toNat,by omega⟩
 rw[show p.toNat|||128=p.toNat%128+128 from this,rP (by omega) (by omega)]
 rw[show((p.toNat%128+128:Nat):Int)=p%128+128 by omega]
theorem bBp {x y:Operand} {t u:TypeId} {p:Int} (hx:ev L x=some (.int .u8 p)) (hy:ev L y=some (.int .u8 128)) (h:0≤p∧p<256):Yl P n B w0 (.binOp .or t x y u) ty L R (.int .u8 (p%128+128)):=by
 intro a w o ho _ hs _
 simp[execOp,ho,binOp,eqGuard,hs.ev hx,hs.ev hy,aSt p h]
theorem aCo (p q:Int) (k:Nat) (m:Int) (hm:(2:Int)^k=m) (h:0≤p∧p*m+q<18446744073709551616) (hq:0≤q∧q<m) (w:World):(Op.intBits .or .u64 (p*m) q).run P w= .ok (.int .u64 (p*m+q)) w:=by
 show Result.ok (Value.int .u64 (IntKind.u64.wrap ((BitVec.ofInt 64 (p*m)|||BitVec.ofInt 64 q).toNat:Int))) w=_
 have hpm:0≤p*m:=Int.mul_nonneg h.1 (by omega)
 rw[BitVec.toNat_or,qA (by omega),qA (by omega)]
 have e1:(p*m).toNat=2^k*p.toNat:=by
  have:p*m=((2^k*p.toNat:Nat):Int):=by
   rw[Int.natCast_mul,Int.toNat_of_nonneg h.1,Int.natCast_pow,←hm,Int.mul_comm]
   rfl
  rw[this,Int.toNat_natCast]
 have e2:q.toNat<2^k:=by
  have:((2^k:Nat):Int)=m:=by rw[←hm,Int.natCast_pow];rfl
  omega
 rw[e1,←Nat.two_pow_add_eq_or_of_lt e2,←e1]
 rw[show(((p*m).toNat+q.toNat:Nat):Int)=p*m+q by omega,iQ (by omega) h.2]
theorem bBn {x y:Operand} {t u:TypeId} {p q m:Int} (k:Nat) (hx:ev L x=some (.int .u64 (p*m))) (hy:ev L y=some (.int .u64 q)) (hm:(2:Int)^k=m) (h:0≤p∧p*m+q<18446744073709551616) (hq:0≤q∧q<m):Yl P n B w0 (.binOp .or t x y u) ty L R (.int .u64 (p*m+q)):=by
 intro a w o ho _ hs _
 simp[execOp,ho,binOp,eqGuard,hs.ev hx,hs.ev hy,aCo p q k m hm h hq]
theorem aLf (k0:IntKind) (x m:Int) (h0:0≤x) (j:IntKind) (k:Nat) (hk:k≤k0.bits) (hm:(2:Int)^k=m) (w:World):(Op.shift .shr k0 x j (k:Int)).run P w= .ok (.int k0 (x/m)) w:=by
 have hn: ¬((k:Int)<0):=by omega
 have hb:min (k:Int).toNat k0.bits=k:=by omega
 have he:Int.fdiv x m=x/m:=Int.fdiv_eq_ediv_of_nonneg _ (by rw[←hm];exact Int.pow_nonneg (by omega))
 unfold Op.shift
 simp only[hn,hb,hm,he,if_false]
 rfl
theorem OI {x y:Operand} {t u:TypeId} {k0:IntKind} {a m:Int} {j:IntKind} {k:Nat} (hx:ev L x=some (.int k0 a)) (hy:ev L y=some (.int j (k:Int))) (hm:(2:Int)^k=m) (h:0≤a) (hk:Nat.ble k k0.bits=true):Yl P n B w0 (.binOp .shr t x y u) ty L R (.int k0 (a/m)):=by
 intro a' w o ho _ hs _
 simp[execOp,ho,hs.ev hx,hs.ev hy,binOp,eqGuard,aLf k0 a m h j k (Nat.le_of_ble_eq_true hk) hm]
theorem XB {x y:Operand} {t e:TypeId} {z:Value} {bytes m c k c2:Nat} {A A2:Option Addr} {l l2:List Int} {kk:IntKind} (ht:P.underlying t=some (.slice e)) (hinfo:(P.info? e).map (fun i=>(i.zero,i.size,i.bytes))=some (some z,1,bytes))
  (hx:ev L x=some (.slice A m c)) (hr:RdC B w0 R A m c 1 (ints kk l)) (hy:ev L y=some (.slice A2 k c2)) (hr2:RdC B w0 R A2 k c2 1 (ints kk l2)) (h0:0<m) (h1:0<k) (hg:c<m+k) (hb:m+k≤1000000) (hfit:Builtin.nextslicecap (m+k) c*bytes≤281474976710656) (hz:z.cells.size=1):
  Ac P n B w0 (.call {callee:= .builtin .append,args:= #[x,y],argTypes:= #[t,t]}) ty L R (fun v R'=> ∃g c',v= .slice (some ⟨g,0,none⟩) (m+k) c'∧R'=⟨e,1,some ⟨g,0,none⟩,m+k,c',ints kk (l++l2),false⟩::R):=by
 intro a w o K Q ho _ hs hp hk
 obtain⟨i0,hi,hzz⟩:=Option.map_eq_some_iff.1 hinfo
 simp only[Prod.mk.injEq] at hzz
 obtain⟨hz0,hz1,hz2⟩:=hzz
 have ha:=hr w hp
 have hb2:=hr2 w hp
 have hl1:(ints kk l).length=m:=by have:=ha.len;omega
 have hl2:(ints kk l2).length=k:=by have:=hb2.len;omega
 obtain⟨ad,rfl,_⟩:=ha.at_ 0 (ints kk l)[0] (by rw[List.getElem?_eq_getElem (by omega)])
 obtain⟨ae,rfl,_⟩:=hb2.at_ 0 (ints kk l2)[0] (by rw[List.getElem?_eq_getElem (by omega)])
 have hrun:=run_append_grow (P:=P) (w:=w) t o.type e i0 z ht hi hz0 ad m c (ints kk l) (by rw[hl1,hz1];omega) (fun j v hv=>by
   obtain⟨a',ha',hc⟩:=ha.at_ j v hv
   obtain rfl:=Option.some.inj ha'
   exact hc) ae k c2 (ints kk l2) (by rw[hl2,hz1];omega) (fun j v hv=>by
   obtain⟨a',ha',hc⟩:=hb2.at_ j v hv
   obtain rfl:=Option.some.inj ha'
   exact hc) hg (by omega) (by rw[hz2];exact hfit)
 unfold Oper.wp
 simp only[execOp,ho,resolve,invoke,builtin,Sem.run_bind,Sem.run_pure,Result.andThen_ok,List.map_toArray,List.map_cons,List.map_nil,hs.ev hx,hs.ev hy,hrun,Oper.upon]
 have hge:=grownCap_ge w (m+k) c e
 have hle:=grownCap_le_maxLen w (m+k) c e (by unfold maxLen;omega)
 have hcs:((ints kk l).toArray++(ints kk l2).toArray++Builtin.zeroCells z.cells (grownCap w (m+k) c e-(m+k))).size=m+k+(Builtin.zeroCells z.cells (grownCap w (m+k) c e-(m+k))).size:=by
  simp only[Array.size_append,List.size_toArray,hl1,hl2]
 have hzs:z.cells.size=1→(Builtin.zeroCells z.cells (grownCap w (m+k) c e-(m+k))).size=grownCap w (m+k) c e-(m+k):=fun h=>by
  simp[Builtin.zeroCells,h]
 have hsz:((ints kk l).toArray++(ints kk l2).toArray++Builtin.zeroCells z.cells (grownCap w (m+k) c e-(m+k))).size=grownCap w (m+k) c e:=by rw[hcs,hzs hz];omega
 have hp2:=(hp.drawn (w.drawn+1) (by omega)).newC ((ints kk l).toArray++(ints kk l2).toArray++Builtin.zeroCells z.cells (grownCap w (m+k) c e-(m+k))) e (m+k) (by rw[hsz];exact hge) (by rw[hsz];exact hle)
 have htk:((ints kk l).toArray++(ints kk l2).toArray++Builtin.zeroCells z.cells (grownCap w (m+k) c e-(m+k))).toList.take (m+k)=ints kk (l++l2):=by
  rw[Array.toList_append,Array.toList_append]
  show(ints kk l++ints kk l2++_).take (m+k)=_
  rw[List.take_left' (by rw[List.length_append,hl1,hl2])]
  simp[ints]
 rw[htk,hsz] at hp2
 exact hk _ _ _ hp2 ⟨_,_,rfl,rfl⟩
end
end Go.Eng
namespace Go.Eng
open Go Go.RowKit
section
variable {P:Program} {n:Nd} {B:Nat} {w0:World} {L:Env} {R:List Row} {ty:TypeId}
theorem VT {g lo c:Nat} (h:lo<c):iY (some ⟨g,0,none⟩) lo c 1=some ⟨g,lo,none⟩:=by
 unfold iY
 rw[if_neg (by omega),Nat.mul_one,Option.map_some]
 unfold Addr.add
 split<;>simp_all
theorem QP {x y:Operand} {t t2 e:TypeId} {p:Option Addr} {lo dl dc m c m2 c2:Nat} {A A2:Option Addr} {k:IntKind} {l src:List Int} (i:Nat) (hi:R[i]? =some ⟨e,1,A,m,c,ints k l,false⟩) (ht:P.underlying t=some (.slice e)) (hst:(P.info? e).map (·.size)=some 1)
  (hx:ev L x=some (.slice p dl dc)) (hy:ev L y=some (.slice A2 m2 c2)) (hp:p=iY A lo c 1) (hdl:dl=m-lo) (hlo:lo<m) (hrd:RdC B w0 R A2 m2 c2 1 (ints k src)):
  Ac P n B w0 (.call {callee:= .builtin .copy,args:= #[x,y],argTypes:= #[t,t2]}) ty L R (fun v R'=>v= .int .i64 ((min m2 (m-lo):Nat):Int)∧R'=R.set i ⟨e,1,A,m,c,ints k (l.take lo++src.take (min m2 (m-lo))++l.drop (lo+min m2 (m-lo))),false⟩):=by
 intro a w o K Q ho hty hs hw hk
 have hown:=Row.lies_w (hw.own _ (List.mem_of_getElem? hi)) rfl
 have hr2:=hrd w hw
 have hm2:m2=src.length:=hr2.lenI
 have hl:m=l.length:=by have:=hown.1;rw[bV] at this;simp only at this;omega
 rcases hown.2 with⟨_,hn⟩|⟨g,cap,cur,hv,hb,hg,hnc,hcm,hcs,htk⟩
 ·simp only at hn;omega
 simp only[Value.slice.injEq,true_and] at hv
 obtain⟨rfl,rfl⟩:=hv
 simp only at htk hcs hnc hg hb
 rw[Nat.mul_one] at htk hcs
 have hp':p=some ⟨g,lo,none⟩:=by rw[hp];exact VT (by omega)
 subst hp'
 subst hdl
 obtain⟨q,hq⟩: ∃q,min m2 (m-lo)=q:=⟨_,rfl⟩
 rw[hq] at hk
 have hq':Nat.min m2 (m-lo)=q:=hq
 have hcl:(ints k (src.take q)).length=q:=by rw[bV,List.length_take];omega
 have hlen:(ints k l).length=m:=by rw[bV];omega
 rcases Nat.eq_zero_or_pos m2 with hz|hpos
 ·have hq0:q=0:=by omega
  have hrun:=run_copy_none (P:=P) w t t2 o.type e (some ⟨g,lo,none⟩) A2 (m-lo) dc m2 c2 ht hst (by rw[hz];exact Nat.zero_min _)
  unfold Oper.wp execOp
  simp only[ho,resolve,invoke,builtin,Sem.run_bind,Sem.run_pure,Result.andThen_ok,List.map_toArray,List.map_cons,List.map_nil,hs.ev hx,hs.ev hy,hrun,Oper.upon]
  refine hk (.int .i64 ((0:Nat):Int)) w R hw ⟨by rw[hq0],?_⟩
  rw[hq0]
  simp only[List.take_zero,List.append_nil,Nat.add_zero,List.take_append_drop]
  exact(by
   apply List.ext_getElem?
   intro j
   rw[List.getElem?_set]
   split
   ·rename_i e;subst e;rw[if_pos (List.getElem?_eq_some_iff.1 hi).1,hi]
   ·rfl)
 ·obtain ⟨a2,rfl⟩: ∃a2,A2=some a2:=by
   obtain⟨a2,h,_⟩:=hr2.at_ 0 _ (List.getElem?_eq_getElem (by rw[bV];omega))
   exact⟨a2,h⟩
  have hrun:=run_copy_row P w t t2 o.type e g lo (m-lo) dc a2 m2 c2 cur e (ints k (src.take q)) ht hst hg (by rw[hcl];exact hq.symm) (fun j v hv=>by
   obtain⟨b,h1,h2⟩:=hr2.at_ j v (by
    rw[ints,List.map_take] at hv
    rw[List.getElem?_take] at hv
    split at hv
    ·exact hv
    ·cases hv)
   obtain rfl:=Option.some.inj h1
   exact h2) (by rw[hcl,hcs];omega) (zA k _)
  rw[hcl] at hrun
  unfold Oper.wp execOp
  simp only[ho,resolve,invoke,builtin,Sem.run_bind,Sem.run_pure,Result.andThen_ok,List.map_toArray,List.map_cons,List.map_nil,hs.ev hx,hs.ev hy,hrun,Oper.upon]
  refine hk (.int .i64 (q:Int)) _ _ ?_ ⟨rfl,rfl⟩
  refine hw.upd hi (row:=some g) ⟨rfl,rfl,rfl,by simp,fun j _ hj=>setRow_other w g j _ (fun e=>hj (by simp[e]))⟩ (Nat.le_refl _) (fun j hj=>by cases hj;exact⟨_,rfl,rfl⟩) ?_ (fun a' ha'=> .inl ⟨a',ha',rfl⟩)
  unfold Row.lies
  simp only
  refine⟨?_, .inr ⟨g,c,_,rfl,hb,setRow_heap w g cur _ e _ hg,hnc,hcm,?_,?_⟩⟩
  ·simp only[bV,List.length_append,List.length_take,List.length_drop];omega
  ·simp only[List.size_toArray,List.length_append,List.length_take,List.length_drop,Array.length_toList,bV];omega
  ·simp only[Nat.mul_one]
   rw[qC,qC]
   have e1:ints k (l.take lo)=cur.toList.take lo:=by
    rw[ints,List.map_take]
    show(ints k l).take lo=_
    rw[←htk,List.take_take,Nat.min_eq_left (by omega)]
   have e2:ints k (l.drop (lo+q))=(cur.toList.drop (lo+q)).take (m-(lo+q)):=by
    rw[ints,List.map_drop]
    show(ints k l).drop (lo+q)=_
    rw[←htk,List.drop_take]
   rw[e1,e2]
   have h1:(cur.toList.take lo++ints k (src.take q)).length=lo+q:=by
    rw[List.length_append,hcl,List.length_take,Array.length_toList];omega
   rw[List.take_append,h1,List.take_of_length_le (by omega)]
theorem aQk {A:Option Addr} {c:Nat}:A=iY A 0 c 1:=by
 unfold iY
 split
 ·rfl
 ·cases A with
  |none=>rfl
  |some a=>simp[Addr.add]
def yF (v:Int) (p N:Nat):List Int:=List.replicate p v++List.replicate (N-p) 0
theorem aGi (v:Int) (N:Nat):yF v 0 N=List.replicate N 0:=by simp[yF]
theorem aLz (v:Int) (N:Nat):yF v N N=List.replicate N v:=by simp[yF]
theorem MN {v:Int} {p N:Nat}:(yF v p N).take p=List.replicate p v:=by simp[yF]
theorem MO {v:Int} {p q N:Nat} {src:List Int} (h:p+q≤N) (hs:src=List.replicate q v):(yF v p N).take p++src++(yF v p N).drop (p+q)=yF v (p+q) N:=by
 subst hs
 rw[MN]
 unfold yF
 rw[List.drop_append]
 simp only[List.length_replicate,List.drop_replicate,show p-(p+q)=0 by omega,List.replicate_zero,List.nil_append,List.replicate_append_replicate]
 congr 2
 omega
end
end Go.Eng
namespace Go.Proofs.YtdbebmmhdefgdaaGreat
open Go Go.Eng Go.Pure
open Tryz
set_option maxRecDepth 100000
variable {w:World}
theorem aTl {x0:Int} (hv:0≤x0∧x0<18446744073709551616):
  Ct Tryz.prog 69 #[.int .u64 x0] w.heap.size w [] (fun v R'=> ∃A c,v= .slice A ((bP x0).length) c∧R'=[(ru 5 A ((bP x0).length) c (bP x0))]):=by
 refine fn1 Tryz.func69 Z Z Z ?_
 have hlen:=eG 9 x0 (by omega)
 refine wq<|wn Z<|wq<|dH (R1:=[(ru 5 none 0 0 ([]))]) (Sub.refl _) (fun _ h=>h.nil 5 1)<|wn Z<|aG<|aI ?_
 refine jP (fun(A1:Option Addr) (n1:Nat) (c1:Nat) (acc:List Int) (x:Int)=>[(0, .int .u64 x),(3, .slice A1 n1 c1)]) (fun A1 n1 c1 acc x=>[(ru 5 A1 n1 c1 acc)]) (fun A1 n1 c1 acc x=>(n1=acc.length)∧(0≤x∧x<18446744073709551616)∧(bP x0=acc++bP x)) (fun A1 n1 c1 acc x=>x.toNat) ?_ ?_
 ·exact⟨none,0,0,[],x0,⟨(Z),by omega,(Z)⟩,(G2 Z Z),fun _ h=>h⟩
 intro A1 n1 c1 acc x ⟨hn1,hv0,hT⟩
 have hpl:=congrArg List.length hT
 rw[List.length_append] at hpl
 refine aG<|wq<|wm Z<|wy (jG Z Z)<|aA<|bM Z (fun hc1=> ?_) (fun hc1=> ?_)
 ·refine aK<|aI<|wq<|wm Z<|wm Z<|wy (iG underlying112 underlying5 Z)<|wy (bBp Z Z (by omega))<|wa (bS .u8 [(x%256)%128+128] underlying22 zs5 Z Z Z) ?_
  rintro _ _ ⟨g_2,rfl,rfl⟩
  refine wa (bE 1 Z underlying22 zb5 Z Z Z (rdr 0 Z)) ?_
  rintro _ _ ⟨A_3,c_4,rfl,rfl⟩
  refine bN (v:= .slice A_3 (n1+1) c_4) Z<|wn Z<|aM<|wm Z<|wy (pW (k:=7) (m:=128) Z Z Z (by omega) Z)<|wn Z ?_
  exact⟨A_3,n1+1,c_4,acc++([(x%256)%128+128]),x/128,⟨(by rw[List.length_append,hn1];try rfl),by omega,(aGn hT (by omega) (by omega) (by omega))⟩,by omega,(G2 Z Z),fun _ h=>h.sel [1] (by decide) Z⟩
 ·refine aZ<|wq<|wm Z<|wm Z<|wy (iG underlying112 underlying5 Z)<|wa (bS .u8 [x%256] underlying22 zs5 Z Z Z) ?_
  rintro _ _ ⟨g_6,rfl,rfl⟩
  refine wa (bE 1 Z underlying22 zb5 Z Z Z (rdr 0 Z)) ?_
  rintro _ _ ⟨A_7,c_8,rfl,rfl⟩
  refine bN (v:= .slice A_7 (n1+1) c_8) Z<|wn Z<|aT [1] 99 (by decide) Z ?_
  refine⟨_,Z,?_⟩
  have e:acc++[x%256]=bP x0:=by rw[hT,jJ (by omega),Int.emod_eq_of_lt (by omega) (by omega)]
  have e2:n1+1=(bP x0).length:=by rw[←e,List.length_append,hn1];rfl
  rw[e,e2]
  exact⟨_,_,Z,Z⟩
theorem IR {x:Int} (hx:0≤x∧x<4294967296):
  Ct Tryz.prog 76 #[.int .u32 x] w.heap.size w [] (fun v R'=> ∃A c,v= .slice A 4 c∧R'=[(ru 5 A 4 c (iF x))]):=by
 refine fn1 Tryz.func76 Z Z Z ?_
 refine wq<|wn Z<|wq<|wa (dE underlying22 zb5 Z Z) ?_
 rintro _ _ ⟨g_1,rfl,rfl⟩
 refine bN (v:= .slice (GG g_1) 4 4) Z<|wn Z<|aG<|wq<|wm Z<|wy (aQ underlying22 Z)<|wm Z<|aA<|aI<|qM 5<|dZ<|wq ?_
 refine wy (Yl.t (eP Z Z) (by decide))<|aA<|aG<|bO Z<|aK<|aG<|aI<|wq<|wm Z<|wn Z<|aM<|wm Z<|wm Z ?_
 refine wm Z<|wm Z<|wy (Yl.is (iA Z Z) Z)<|wy (OI (k:=0) (m:=1) Z Z Z (by omega) Z)<|wy (iG underlying123 underlying5 Z)<|wy (aH underlying22 sz5 Z Z (rdr 0 Z))<|bY (bG 0 Z sz5 Z Z) ?_
 rintro _ _ rfl
 refine aA<|aM<|wy (Yl.is (dF Z Z) Z)<|wm Z<|aA<|dZ<|wq<|wy (Yl.t (eP Z Z) (by decide))<|aA<|aG<|bO Z<|aK<|aG<|aI ?_
 refine wq<|wm Z<|wn Z<|aM<|wm Z<|wm Z<|wm Z<|wm Z<|wy (Yl.is (iA Z Z) Z)<|wy (OI (k:=8) (m:=256) Z Z Z (by omega) Z)<|wy (iG underlying123 underlying5 Z)<|wy (aH underlying22 sz5 Z Z (rdr 0 Z))<|bY (bG 0 Z sz5 Z Z) ?_
 rintro _ _ rfl
 refine aA<|aM<|wy (Yl.is (dF Z Z) Z)<|wm Z<|aA<|dZ<|wq<|wy (Yl.t (eP Z Z) (by decide))<|aA<|aG<|bO Z<|aK<|aG<|aI ?_
 refine wq<|wm Z<|wn Z<|aM<|wm Z<|wm Z<|wm Z<|wm Z<|wy (Yl.is (iA Z Z) Z)<|wy (OI (k:=16) (m:=65536) Z Z Z (by omega) Z)<|wy (iG underlying123 underlying5 Z)<|wy (aH underlying22 sz5 Z Z (rdr 0 Z))<|bY (bG 0 Z sz5 Z Z) ?_
 rintro _ _ rfl
 refine aA<|aM<|wy (Yl.is (dF Z Z) Z)<|wm Z<|aA<|dZ<|wq<|wy (Yl.t (eP Z Z) (by decide))<|aA<|aG<|bO Z<|aK<|aG<|aI ?_
 refine wq<|wm Z<|wn Z<|aM<|wm Z<|wm Z<|wm Z<|wm Z<|wy (Yl.is (iA Z Z) Z)<|wy (OI (k:=24) (m:=16777216) Z Z Z (by omega) Z)<|wy (iG underlying123 underlying5 Z)<|wy (aH underlying22 sz5 Z Z (rdr 0 Z))<|bY (bG 0 Z sz5 Z Z) ?_
 rintro _ _ rfl
 refine aA<|aM<|wy (Yl.is (dF Z Z) Z)<|wm Z<|aA<|dZ<|wq<|wy (Yl.f (eP Z Z) (by decide))<|aA<|aG<|aL Z<|aZ<|wq ?_
 refine wm Z<|wn Z<|aT [0] 99 (by decide) Z ?_
 refine⟨_,Z,?_⟩
 exact⟨_,_,Z,Z⟩
theorem kJ {n:Int} (hv:0≤n∧n<9223372036854775808):
  Ct Tryz.prog 37 #[I n] w.heap.size w [] (fun v R'=> ∃A c,v= .slice A ((bP n).length) c∧R'=[(ru 5 A ((bP n).length) c (bP n))]):=by
 refine fn1 Tryz.func37 Z Z Z ?_
 refine wq<|wn Z<|wq<|wm Z<|wy (iU underlying3 underlying112 Z)<|wa (aF bFx Z (Ct.fresh (fun w hw=>aTl (by omega)))) ?_
 rintro _ _ ⟨_,rfl,A_1,c_2,rfl,rfl⟩
 refine wn Z<|aT [0] 99 (by decide) Z ?_
 refine⟨_,Z,?_⟩
 exact⟨_,_,Z,Z⟩
end Go.Proofs.YtdbebmmhdefgdaaGreat
namespace Go.Pure
open Go Go.Eng
variable {v:Int} {b:List Int} {k:Nat}
def gL:List Int→Int
 |[]=>0
 |d::l=>d%128+128*gL l
theorem sW: ∀l:List Int,0≤gL l
 |[]=>Int.le_refl _
 |d::l=>by have:=sW l;rw[gL];omega
def XE:List Int→Prop
 |[]=>False
 |d::l=>(l=[]∧0≤d∧d<128)∨(128≤d∧d<256∧XE l∧0<gL l)
theorem OQ: ∀(k:Nat) (v:Int),v.toNat≤k→0≤v→gL (bP v)=v∧XE (bP v)
 |0,v,h,h0=>by
  rw[jJ (by omega)]
  exact⟨by rw[gL,gL];omega, .inl ⟨rfl,by omega,by omega⟩⟩
 | k+1,v,h,h0=>by
  by_cases z:v<128
  ·rw [jJ z]
   exact⟨by rw[gL,gL];omega, .inl ⟨rfl,by omega,by omega⟩⟩
  ·rw [qV (by omega)]
   obtain⟨h1,h2⟩:=OQ k (v/128) (by omega) (by omega)
   exact⟨by rw[gL,h1];omega, .inr ⟨by omega,by omega,h2,by rw[h1];omega⟩⟩
theorem EY (h:0≤v):gL (bP v)=v:=(OQ _ v (Nat.le_refl _) h).1
theorem PG (h:0≤v):XE (bP v):=(OQ _ v (Nat.le_refl _) h).2
theorem aDb: ∀l:List Int,XE l→bP (gL l)=l
 |[],h=>h.elim
 | d::l,h=>by
  rcases h with⟨rfl,h0,h1⟩|⟨h0,h1,h2,h3⟩
  ·rw [gL,gL,jJ (by omega)]
   congr 1
   omega
  ·rw [gL,qV (by omega)]
   have e1:(d%128+128*gL l)%128+128=d:=by omega
   have e2:(d%128+128*gL l)/128=gL l:=by omega
   rw[e1,e2,aDb l h2]
theorem aEc: ∀l m s t:List Int,XE l→XE m→l++s=m++t→l=m
 |[],_,_,_,h,_,_=>h.elim
 |_::_,[],_,_,_,h,_=>h.elim
 |d::l,e::m,s,t,h,g,q=>by
  rw[List.cons_append,List.cons_append] at q
  obtain⟨rfl,q2⟩:=List.cons.inj q
  rcases h with⟨rfl,h0,h1⟩|⟨h0,h1,h2,h3⟩<;>rcases g with⟨rfl,g0,g1⟩|⟨g0,g1,g2,g3⟩
  ·rfl
  ·omega
  ·omega
  ·rw[aEc l m s t h2 g2 q2]
def sQ (b:List Int) (v:Int) (k:Nat):Prop:=(0≤v∧v<18446744073709551616)∧k=(bP v).length∧ ∃t,b=bP v++t
theorem sQ.one {w:Int} {m:Nat} (h:sQ b v k) (g:sQ b w m):v=w∧k=m:=by
 obtain⟨h1,rfl,s,hs⟩:=h
 obtain⟨g1,rfl,t,ht⟩:=g
 have e:=aEc _ _ s t (PG h1.1) (PG g1.1) (hs.symm.trans ht)
 have e2:=congrArg gL e
 rw[EY h1.1,EY g1.1] at e2
 subst e2
 exact⟨rfl,rfl⟩
theorem sQ.drop (h:sQ b v k):b=bP v++b.drop k:=by
 obtain⟨_,rfl,t,rfl⟩:=h
 rw[List.drop_left]
theorem sQ.of (h:0≤v∧v<18446744073709551616) (t:List Int):sQ (bP v++t) v (bP v).length:=⟨h,rfl,t,rfl⟩
def gU (b:List Int):Int:=if b.findIdx (fun x=>decide (x<128))<b.length then(b.findIdx (fun x=>decide (x<128)):Nat) else -1
theorem aVc {i:Int} (i0:0≤i) (hi:i<b.length) (h:rd b i<128) (hn: ∀j:Int,0≤j→j<i→ ¬rd b j<128):gU b=i:=by
 have e:b.findIdx (fun x=>decide (x<128))=i.toNat:=by
  rw[List.findIdx_eq (by omega)]
  refine⟨by rw[eT i0 hi] at h;simpa using h,fun j hj=> ?_⟩
  have:=hn j (by omega) (by omega)
  rw[eT (by omega) (by omega)] at this
  simpa using this
 unfold gU
 rw[e,if_pos (by omega)]
 omega
theorem aIe (hn: ∀j:Int,0≤j→j<b.length→ ¬rd b j<128):gU b= -1:=by
 unfold gU
 rw[if_neg]
 intro h
 have hp:=List.findIdx_getElem (w:=h)
 have:=hn (b.findIdx fun x=>decide (x<128):Nat) (by omega) (by omega)
 rw[eT (by omega) (by omega)] at this
 simp only[Int.toNat_natCast] at this
 simp only[decide_eq_true_eq] at hp
 exact this hp
variable {b:List Int} {d V:Int} {e:Nat}
theorem aPc: ∀(e:Nat) (b:List Int),aO b→e<b.length→(∀j:Nat,j<e→128≤rd b j)→rd b (e:Int)<128→(e=0∨rd b (e:Int)≠0)→XE (b.take (e+1))∧(rd b (e:Int)≠0→0<gL (b.take (e+1)))
 |0,d::b,hb,h,_,h1,_=>by
  have hd:=hb d (by simp)
  have e0:rd (d::b) ((0:Nat):Int)=d:=rfl
  rw[e0] at h1 ⊢
  refine⟨.inl ⟨rfl,hd.1,h1⟩,fun hne=> ?_⟩
  show 0<d%128+128*gL []
  rw[gL]
  omega
 | e+1,d::b,hb,h,hn,h1,h2=>by
  have hd:=hb d (by simp)
  have hd1:128≤d:=hn 0 (by omega)
  have er: ∀j:Nat,rd (d::b) ((j+1:Nat):Int)=rd b (j:Int):=fun j=>by
   unfold rd
   rw[show((j+1:Nat):Int).toNat=j+1 by omega,Int.toNat_natCast]
   rfl
  rw[er] at h1 h2 ⊢
  have hz:rd b (e:Int)≠0:=h2.resolve_left (by omega)
  have ih:=aPc e b (fun x hx=>hb x (List.mem_cons_of_mem _ hx)) (by rw[List.length_cons] at h;omega) (fun j hj=>by have:=hn (j+1) (by omega);rwa[er] at this) h1 (.inr hz)
  refine⟨.inr ⟨hd1,hd.2,ih.1,ih.2 hz⟩,fun _=> ?_⟩
  show 0<d%128+128*gL (b.take (e+1))
  have:=ih.2 hz
  omega
 |0,[],_,h,_,_,_=>by simp at h
 |_+1,[],_,h,_,_,_=>by simp at h
theorem EX: ∀(e:Nat) (b:List Int),aO b→e<b.length→rd b (e:Int)<128→rd b (e:Int)*128^e≤gL (b.take (e+1))∧gL (b.take (e+1))<(rd b (e:Int)+1)*128^e
 |0,d::b,hb,h,h1=>by
  have hd:=hb d (by simp)
  have e0:rd (d::b) ((0:Nat):Int)=d:=rfl
  rw[e0] at h1 ⊢
  show d*128^0≤d%128+128*gL []∧d%128+128*gL []<(d+1)*128^0
  rw[gL,Int.pow_zero]
  omega
 | e+1,d::b,hb,h,h1=>by
  have er:rd (d::b) ((e+1:Nat):Int)=rd b (e:Int):=by
   unfold rd
   rw[show((e+1:Nat):Int).toNat=e+1 by omega,Int.toNat_natCast]
   rfl
  rw[er] at h1 ⊢
  have ih:=EX e b (fun x hx=>hb x (List.mem_cons_of_mem _ hx)) (by rw[List.length_cons] at h;omega) h1
  show rd b (e:Int)*128^(e+1)≤d%128+128*gL (b.take (e+1))∧d%128+128*gL (b.take (e+1))<(rd b (e:Int)+1)*128^(e+1)
  rw[Int.pow_succ,←Int.mul_assoc,←Int.mul_assoc]
  omega
 |0,[],_,h,_=>by simp at h
 |_+1,[],_,h,_=>by simp at h
theorem wY (h:0≤gU b):gU b<b.length∧rd b (gU b)<128∧ ∀j:Int,0≤j→j<gU b→ ¬rd b j<128:=by
 have hlt:b.findIdx (fun x=>decide (x<128))<b.length:=by
  unfold gU at h
  split at h
  ·assumption
  ·omega
 have e:gU b=(b.findIdx (fun x=>decide (x<128)):Nat):=by unfold gU;rw[if_pos hlt]
 have hp:=List.findIdx_getElem (w:=hlt)
 refine⟨by omega,?_,fun j j0 hj=> ?_⟩
 ·rw [e,eT (by omega) (by omega)]
  simpa using hp
 ·have:=List.not_of_lt_findIdx (xs:=b) (p:=fun x=>decide (x<128)) (i:=j.toNat) (by omega)
  rw[eT j0 (by omega)]
  simpa using this
theorem aJm: ∀n:Fin 256,n.val<2^Lib.bitLen n.val∧(n.val≠0→2^(Lib.bitLen n.val-1)≤n.val∧1≤Lib.bitLen n.val)∧(n.val=0→Lib.bitLen n.val=0):=by decide+kernel
theorem aEv (h0:0≤d) (h1:d<256):d+1≤(2:Int)^Lib.bitLen d.toNat∧(d≠0→(2:Int)^(Lib.bitLen d.toNat-1)≤d∧1≤Lib.bitLen d.toNat)∧(d=0→Lib.bitLen d.toNat=0):=by
 obtain⟨a,b,c⟩:=aJm ⟨d.toNat,by omega⟩
 have e: ∀k:Nat,(2:Int)^k=((2^k:Nat):Int):=fun k=>by norm_cast
 refine⟨by rw[e];simp only at a;omega,fun h=> ?_,fun h=>c (by simp only;omega)⟩
 have:=b (by simp only;omega)
 rw[e]
 simp only at this
 omega
theorem aTo (e:Nat):(128:Int)^e=2^(7*e):=by
 rw[Int.pow_mul]
 rfl
theorem aOr (h0:0≤d) (h1:d<256) (hV:V<(d+1)*128^e) (h:7*e+Lib.bitLen d.toNat≤64):V<18446744073709551616:=by
 have hb:=(aEv h0 h1).1
 have hp:(0:Int)≤128^e:=Int.pow_nonneg (by omega)
 have h2:(d+1)*128^e≤2^Lib.bitLen d.toNat*128^e:=Int.mul_le_mul_of_nonneg_right hb hp
 rw[aTo,←Int.pow_add] at h2
 have h3:(2:Int)^(Lib.bitLen d.toNat+7*e)≤2^64:=by
  have:(2:Nat)^(Lib.bitLen d.toNat+7*e)≤2^64:=Nat.pow_le_pow_right (by omega) (by omega)
  exact_mod_cast this
 rw[aTo] at hV
 have:(2:Int)^64=18446744073709551616:=rfl
 omega
theorem aUu (h0:0≤d) (h1:d<256) (he:e≤9) (hV:d*128^e≤V) (h:64<7*e+Lib.bitLen d.toNat):18446744073709551616≤V:=by
 obtain⟨_,hb,hz⟩:=aEv h0 h1
 have hd:d≠0:=fun c=>by have:=hz c;omega
 obtain⟨h2,h3⟩:=hb hd
 have hp:(0:Int)≤128^e:=Int.pow_nonneg (by omega)
 have h4:2^(Lib.bitLen d.toNat-1)*128^e≤d*128^e:=Int.mul_le_mul_of_nonneg_right h2 hp
 rw[aTo,←Int.pow_add] at h4
 have h5:(2:Int)^64≤2^(Lib.bitLen d.toNat-1+7*e):=by
  have:(2:Nat)^64≤2^(Lib.bitLen d.toNat-1+7*e):=Nat.pow_le_pow_right (by omega) (by omega)
  exact_mod_cast this
 rw[aTo] at hV
 have:(2:Int)^64=18446744073709551616:=rfl
 omega
theorem aUt (hb:aO b) (he:gU b=(e:Int)) (h0:e=0∨rd b (e:Int)≠0) (h7:7*e+Lib.bitLen (rd b (e:Int)).toNat≤64):sQ b (gL (b.take (e+1))) (e+1):=by
 obtain⟨f1,f2,f3⟩:=wY (b:=b) (by omega)
 rw[he] at f1 f2 f3
 have hd:=hb.rd (e:Int)
 have h1:=(aPc e b hb (by omega) (fun j hj=>by have:=f3 j (by omega) (by omega);omega) f2 h0).1
 have h2:=EX e b hb (by omega) f2
 have h3:=aDb _ h1
 refine⟨⟨sW _,aOr hd.1 hd.2 h2.2 h7⟩,?_,b.drop (e+1),?_⟩
 ·rw[h3,List.length_take];omega
 ·rw[h3,List.take_append_drop]
theorem aEd: ∀l t:List Int,XE l→(l++t).findIdx (fun x=>decide (x<128))=l.length-1∧0<l.length∧(l.length=1∨rd (l++t) ((l.length-1:Nat):Int)≠0)
 |[],_,h=>h.elim
 | d ::l,t,h=>by
  rcases h with⟨rfl,h0,h1⟩|⟨h0,h1,h2,h3⟩
  ·refine ⟨?_,by simp, .inl rfl⟩
   rw[List.cons_append,List.findIdx_cons,show decide (d<128)=true from decide_eq_true h1]
   rfl
  ·obtain ⟨i1,i2,i3⟩:=aEd l t h2
   refine⟨?_,by simp, .inr ?_⟩
   ·rw [List.cons_append,List.findIdx_cons,show decide (d<128)=false from decide_eq_false (by omega),i1]
    simp only[List.length_cons,cond_false]
    omega
   ·have er:rd (d::(l++t)) (((l.length-1)+1:Nat):Int)=rd (l++t) ((l.length-1:Nat):Int):=by
     unfold rd
     rw[show(((l.length-1)+1:Nat):Int).toNat=(l.length-1)+1 by omega,Int.toNat_natCast]
     rfl
    rw[List.cons_append,List.length_cons,show l.length+1-1=(l.length-1)+1 by omega,er]
    rcases i3 with i3|i3
    ·intro hz
     match l,i3,h2,h3,hz with
     |[x],_,h2,h3,hz=>
      rw[gL,gL] at h3
      have:x=0:=hz
      omega
    ·exact i3
theorem aOq (hb:aO b) (h:gU b<0∨9<gU b∨(0<gU b∧rd b (gU b)=0)∨64<7*(gU b).toNat+Lib.bitLen (rd b (gU b)).toNat): ¬ ∃v k,sQ b v k:=by
 rintro⟨v,k,⟨hv0,hv1⟩,rfl,t,ht⟩
 have hE:=PG hv0
 obtain⟨i1,i2,i3⟩:=aEd _ t hE
 rw[←ht] at i1 i3
 have hlen:(bP v).length≤b.length:=by rw[ht,List.length_append];omega
 have he:gU b=(((bP v).length-1:Nat):Int):=by
  unfold gU
  rw[i1,if_pos (by omega)]
 have h10:=eG 9 v (by omega)
 rw[he] at h
 rcases h with h|h|⟨h,hz⟩|h
 ·omega
 ·omega
 ·rcases i3 with i3|i3
  ·omega
  ·exact i3 hz
 ·obtain ⟨f1,f2,_⟩:=wY (b:=b) (by omega)
  rw[he] at f1 f2
  have hd:=hb.rd (((bP v).length-1:Nat):Int)
  have h2:=EX ((bP v).length-1) b hb (by omega) f2
  have e1:b.take ((bP v).length-1+1)=bP v:=by
   rw[show(bP v).length-1+1=(bP v).length by omega]
   conv=>lhs;rw[ht]
   exact List.take_left
  rw[e1,EY hv0] at h2
  rw[Int.toNat_natCast] at h
  have:=aUu hd.1 hd.2 (by omega) h2.1 h
  omega
theorem QX: ∀(l:List Int) (d:Int),gL (l++[d])=d%128*2^(7*l.length)+gL l
 |[],d=>by simp[gL]
 |x::l,d=>by
  rw[List.cons_append,gL,gL,QX l d,List.length_cons,show 7*(l.length+1)=7*l.length+7 by omega,Int.pow_add,←Int.mul_assoc]
  rw[show(2:Int)^7=128 by rfl]
  omega
theorem xO {q:Nat} (h:q<b.length):gL (b.take (q+1))=rd b (q:Int)%128*2^(7*q)+gL (b.take q):=by
 have e:=dD (j:=(q:Int)) (show(0:Int)≤q by omega) (show(q:Int)<b.length by omega)
 rw[show((q:Int)+1).toNat=q+1 by omega,Int.toNat_natCast] at e
 rw[e,QX,List.length_take,Nat.min_eq_left (by omega)]
theorem QZ {b:List Int}: ∀q:Nat,q≤b.length→gL (b.take q)<2^(7*q)
 |0,_=>by simp[gL]
 |q+1,h=>by
  have ih:=QZ (b:=b) q (by omega)
  rw[xO (by omega),show 7*(q+1)=7*q+7 by omega,Int.pow_add]
  have hp:(0:Int)<2^(7*q):=Int.pow_pos (by omega)
  have h1:rd b (q:Int)%128*2^(7*q)≤127*2^(7*q):=Int.mul_le_mul_of_nonneg_right (by omega) (by omega)
  rw[show(2:Int)^7=128 by rfl]
  omega
theorem QY {b:List Int} {q:Nat}: ∀e:Nat,q≤e→e≤b.length→gL (b.take q)≤gL (b.take e)
 |0,h,_=>by rw[show q=0 by omega];exact Int.le_refl _
 | e+1,h,hl=>by
  rcases Nat.lt_or_ge e q with c|c
  ·rw[show q=e+1 by omega];exact Int.le_refl _
  ·have ih:=QY (b:=b) (q:=q) e c (by omega)
   have hp:(0:Int)<2^(7*e):=Int.pow_pos (by omega)
   have h1:0≤rd b (e:Int)%128*2^(7*e):=Int.mul_nonneg (by omega) (by omega)
   rw[xO (by omega)]
   omega
end Go.Pure
namespace Go.Eng
open Go Go.RowKit Go.Pure
section
variable {P:Program} {n:Nd} {B:Nat} {w0:World} {L:Env} {R:List Row} {ty:TypeId}
theorem aRm: ∀n:Fin 256,(BitVec.ofInt 8 (n.val:Int) &&& ~~~ BitVec.ofInt 8 128).toNat=n.val%128:=by decide+kernel
theorem SS (p:Int) (h:0≤p∧p<256) (w:World):(Op.intBits .andNot .u8 p 128).run P w= .ok (.int .u8 (p%128)) w:=by
 have e:=aRm ⟨p.toNat,by omega⟩
 simp only at e
 rw[show((p.toNat:Nat):Int)=p by omega] at e
 show Result.ok (Value.int .u8 (IntKind.u8.wrap ((BitVec.ofInt 8 p &&& ~~~ BitVec.ofInt 8 128).toNat:Int))) w=_
 rw[e,rP (by omega) (by omega)]
 rw[show((p.toNat%128:Nat):Int)=p%128 by omega]
theorem aFd {x y:Operand} {t u:TypeId} {p:Int} (hx:ev L x=some (.int .u8 p)) (hy:ev L y=some (.int .u8 128)) (h:0≤p∧p<256):Yl P n B w0 (.binOp .andNot t x y u) ty L R (.int .u8 (p%128)):=by
 intro a w o ho _ hs _
 simp[execOp,ho,binOp,eqGuard,hs.ev hx,hs.ev hy,SS p h]
theorem bBo {x y:Operand} {t u:TypeId} {p q m:Int} (k:Nat) (hx:ev L x=some (.int .u64 q)) (hy:ev L y=some (.int .u64 (p*m))) (hm:(2:Int)^k=m) (h:0≤p∧p*m+q<18446744073709551616) (hq:0≤q∧q<m):Yl P n B w0 (.binOp .or t x y u) ty L R (.int .u64 (p*m+q)):=by
 intro a w o ho _ hs _
 have e:=aCo (P:=P) p q k m hm h hq w
 have e2:(Op.intBits .or .u64 q (p*m)).run P w= .ok (.int .u64 (p*m+q)) w:=by
  have c:Op.intBits .or .u64 q (p*m)=Op.intBits .or .u64 (p*m) q:=by
   unfold Op.intBits
   simp only[BitVec.or_comm]
  rw[c,e]
 simp[execOp,ho,binOp,eqGuard,hs.ev hx,hs.ev hy,e2]
end
end Go.Eng
namespace Go.Proofs
open Go.Shelf
def Tryz.lays126_ren:Go.Shelf.Ren:=⟨fun|126=>271|n=>n,fun|5=>5|3=>3|9=>9|n=>n,fun|n=>n⟩
theorem Tryz.lays126:Go.Proofs.Lays.n126 Tryz.prog Tryz.lays126_ren:= {
 mixed:=by kernel_rfl
 f126:=Tryz.func271.trans (congrArg some (by kernel_rfl))
 t3:=Tryz.underlying3
 a3:=Tryz.isAgg3
 z3:=Tryz.sizeOf3
 v3:=Tryz.zeroValue3
 t5:=Tryz.underlying5
 a5:=Tryz.isAgg5
 z5:=Tryz.sizeOf5
 v5:=Tryz.zeroValue5
 t9:=Tryz.underlying9
 a9:=Tryz.isAgg9
 z9:=Tryz.sizeOf9
 v9:=Tryz.zeroValue9}
theorem Tryz.bits_Len8 (x:Int) (w:World) (h0:0≤x) (h1:x≤255):
  Calls Tryz.prog 271 #[.int .u8 x] w fun e w'=>e= .returned (.int .i64 (Lib.bitLen x.toNat))∧w'=w:=Any.bits_Len8 Tryz.lays126 x w h0 h1
end Go.Proofs
namespace Go.Proofs.YtdbebmmhdefgdaaGreat
open Go Go.Eng Go.Pure
open Tryz
set_option maxRecDepth 100000
variable {w:World} {A_b:Option Addr} {n_b c_b:Nat} {b:List Int}
theorem aFv {c:Int}:
  Ct Tryz.prog 270 #[.int .u8 c] w.heap.size w [] (fun v R'=>v= .bool (decide (c<128))):=by
 refine fn1 Tryz.func270 Z Z Z ?_
 refine wq<|wn Z<|wq<|wm Z<|wL Z Z<|wn Z<|dJ ?_
 refine⟨_,Z,?_⟩
 rfl
theorem aPd {w:World} (h_b:Rd w A_b n_b c_b 1 (ints .u8 b)) (bh_b:aO b) (hN:b.length≤1000000):
  Ct Tryz.prog 269 #[.slice A_b n_b c_b, .func (.func 270) #[] #[]] w.heap.size w [] (fun v R'=>v=I (gU b)):=by
 obtain rfl:=h_b.lenI
 refine fn1 Tryz.func269 Z Z Z ?_
 have m_b:=h_b.max
 refine wq<|wn Z<|aG<|wq<|wm Z<|wy (aQ underlying22 Z)<|wm Z<|aA<|aI ?_
 refine rT (fun(i:Int)=>[(0, .slice A_b b.length c_b),(1, .func (.func 270) #[] #[]),(7,I ((b.length:Nat):Int)),(8,I i)]) (fun i=>[]) (fun i=>(0≤i)∧(i≤b.length)∧(∀j:Int,0≤j→j<i→ ¬rd b j<128)) (fun i=>(b.length-i).toNat) ?_ ?_
 ·exact⟨0,⟨by omega,by omega,(fun j h1 h2=>by omega)⟩,(G4 rfl rfl rfl rfl),fun _ h=>h⟩
 intro i ⟨hi0,hi1,hn⟩
 refine wq<|wL Z Z<|aA<|aG<|bM Z (fun hc1=> ?_) (fun hc1=> ?_)
 ·have hbi:=bh_b.rd i
  refine aK<|aG<|aI<|wq<|wm Z<|wn Z<|wq<|wm Z<|wm Z<|wm Z<|wy (aH underlying22 sz5 Z Z (h_b.c _))<|wy (aX underlying5 Z Z (h_b.c _)) ?_
  refine wa (JY bDi Z Z (Ct.quiet (fun w hw=>aFv))) ?_
  rintro _ _ ⟨rfl,rfl⟩
  refine aA<|bM Z (fun hc2=> ?_) (fun hc2=> ?_)
  ·refine wq<|wm Z<|wn Z<|dJ ?_
   refine⟨_,Z,?_⟩
   exact congrArg (Value.int .i64) (aVc hi0 (by omega) (by assumption) hn).symm
  ·refine aK<|aM<|wA Z Z<|wm Z<|aA ?_
   exact⟨i+1,⟨by omega,by omega,(fun j h1 h2=>by
     rcases Int.lt_or_le j i with h|h
     ·exact hn j h1 h
     ·obtain rfl:j=i:=by omega
      assumption)⟩,by omega,(G4 rfl rfl rfl rfl),fun _ h=>h⟩
 ·refine aZ<|wq<|wn Z<|dJ ?_
  refine⟨_,Z,?_⟩
  exact congrArg (Value.int .i64) (aIe fun j h1 h2=>hn j h1 (by omega)).symm
theorem aVm {x:Int} (h:0≤x∧x<256):Ct Tryz.prog 271 #[.int .u8 x] w.heap.size w [] (fun v R'=>v=I ((Lib.bitLen x.toNat:Nat):Int)):=fun w' hw'=>(Tryz.bits_Len8 x w' h.1 (by omega)).mono (by rintro e w'' ⟨he,rfl⟩;exact⟨_,[],he,hw',rfl⟩)
theorem aUv (h_b:Rd w A_b n_b c_b 1 (ints .u8 b)) (bh_b:aO b) (hN:b.length≤1000000):
  Ct Tryz.prog 227 #[.slice A_b n_b c_b] w.heap.size w [] (fun v R'=>(∃(V:Int) (k:Nat),sQ b V k∧v= .tuple #[.int .u64 V,I (k:Int), .bool true])∨((¬ ∃V k,sQ b V k)∧v= .tuple #[.int .u64 0,I 0, .bool false])):=by
 obtain rfl:=h_b.lenI
 refine fn3 Tryz.func227 Z Z Z ?_
 have m_b:=h_b.max
 refine wq<|wg Z<|wg Z<|wn Z<|wq<|wm Z<|wa (aF bDj Z (Ct.quiet (fun w hw=>aPd ((h_b.c _) w hw) bh_b hN))) ?_
 rintro _ _ ⟨rfl,rfl⟩
 refine wn Z<|aG<|wq<|wm Z<|wL Z Z<|wm Z<|dS 3 [(0, .slice A_b b.length c_b),(2, .int .u64 0),(5,I (gU b)),(15, .bool (decide (((gU b)<0)∨(9<(gU b)))))] [] ?_ ?_
 ·refine dC 12 Z (fun hc1=> ?_) (fun hc1=> ?_)
  ·refine aP Z Z Z Z<|aP Z Z Z Z<|wy (bA Z Z)<|aA ?_
   exact⟨(sc Z (sc Z (sc Z (Sub.to Z mtA Sub.nil)))),fun _ h=>h⟩
  ·refine aC Z Z<|wm Z<|aC Z Z<|wy (dV Z Z)<|wy (aS Z Z)<|aA ?_
   exact⟨(sc Z (sc Z (sc Z (Sub.to Z mbA Sub.nil)))),fun _ h=>h⟩
 refine aA<|bM Z (fun hc2=> ?_) (fun hc2=> ?_)
 ·refine wq<|wg Z<|wg Z<|wn Z<|dJ ?_
  refine⟨_,_,_,Z,Z,Z,?_⟩
  exact .inr ⟨aOq bh_b (by omega),Z⟩
 ·obtain ⟨e,he⟩: ∃e:Nat,gU b=(e:Int):=⟨(gU b).toNat,by omega⟩
  have hef:=wY (b:=b) (by omega)
  have hbe:=bh_b.rd (gU b)
  have hbl:Lib.bitLen (rd b (gU b)).toNat≤8:=Lib.bitLen_le8 ⟨(rd b (gU b)).toNat,by omega⟩
  refine aK<|aG<|wq<|wm Z<|wy (dV Z Z)<|wm Z<|dS 6 [(0, .slice A_b b.length c_b),(2, .int .u64 0),(5,I (gU b)),(24, .bool (decide ((0<(gU b))∧((rd b (gU b))=0))))] [] ?_ ?_
  ·refine dC 18 Z (fun hc3=> ?_) (fun hc3=> ?_)
   ·refine aC Z Z<|wm Z<|aC Z Z<|wm Z<|aC Z Z<|wy (aH underlying22 sz5 Z Z (h_b.c _))<|aC Z Z<|wy (aX underlying5 Z Z (h_b.c _))<|aC Z Z<|wy (bC Z Z)<|wy (bA Z Z)<|aA ?_
    exact⟨(sc Z (sc Z (sc Z (Sub.to Z mbA Sub.nil)))),fun _ h=>h⟩
   ·refine aP Z Z Z Z<|aP Z Z Z Z<|aP Z Z Z Z<|aP Z Z Z Z<|aP Z Z Z Z<|wy (aS Z Z)<|aA ?_
    exact⟨(sc Z (sc Z (sc Z (Sub.to Z mfA Sub.nil)))),fun _ h=>h⟩
  refine wm Z<|dS 10 [(0, .slice A_b b.length c_b),(2, .int .u64 0),(5,I (gU b)),(35, .bool (decide (((0<(gU b))∧((rd b (gU b))=0))∨(64<((7*(gU b))+((Lib.bitLen (rd b (gU b)).toNat:Nat):Int))))))] [] ?_ ?_
  ·refine dC 25 Z (fun hc4=> ?_) (fun hc4=> ?_)
   ·refine aP Z Z Z Z<|aP Z Z Z Z<|aP Z Z Z Z<|aP Z Z Z Z<|aP Z Z Z Z<|aP Z Z Z Z<|aP Z Z Z Z<|aP Z Z Z Z<|aP Z Z Z Z<|wy (bA Z Z)<|aA ?_
    exact⟨(sc Z (sc Z (sc Z (Sub.to Z mtA Sub.nil)))),fun _ h=>h⟩
   ·refine aC Z Z<|wm Z<|aC Z Z<|wy (iA Z Z)<|aC Z Z<|wm Z<|aC Z Z<|wm Z<|aC Z Z<|wy (aH underlying22 sz5 Z Z (h_b.c _))<|aC Z Z<|wy (aX underlying5 Z Z (h_b.c _))<|aC Z Z<|wa (aF bDh Z (Ct.quiet (fun w hw=>aVm (bh_b.rd _)))) ?_
    rintro _ _ ⟨rfl,rfl⟩
    refine aC Z Z<|wA Z Z<|aC Z Z<|wy (dV Z Z)<|wy (aS Z Z)<|aA ?_
    exact⟨(sc Z (sc Z (sc Z (Sub.to Z mbA Sub.nil)))),fun _ h=>h⟩
  refine aA<|bM Z (fun hc5=> ?_) (fun hc5=> ?_)
  ·refine wq<|wg Z<|wg Z<|wn Z<|dJ ?_
   refine⟨_,_,_,Z,Z,Z,?_⟩
   exact .inr ⟨aOq bh_b (by first|exact .inr (.inr (hc5.imp id fun h=>by omega))|omega),Z⟩
  ·have hfit:sQ b (gL (b.take (e+1))) (e+1):=by
    rw[he] at hc5
    refine aUt bh_b he ?_ (by omega)
    rcases Nat.eq_zero_or_pos e with z|z
    ·exact .inl z
    ·exact .inr fun c=>hc5 (.inl ⟨by omega,c⟩)
   refine aK<|aG<|wq<|wm Z<|wm Z<|wA Z Z<|wy (gD underlying22 sz5 Z Z (h_b.c _))<|wy (aQ underlying22 Z)<|wm Z<|aA<|aI ?_
   refine dR (fun(q:Nat) (x:Int)=>[(2, .int .u64 x),(5,I (gU b)),(39, .slice A_b (((gU b)+1).toNat) c_b),(40,I ((((gU b)+1).toNat:Nat):Int)),(41,I (q:Int))]) (fun q x=>[]) (fun q x=>(q≤e+1)∧(x=gL (b.take q))) (fun q x=>(e+1-q)) ?_ ?_
   ·exact⟨0,0,⟨by omega,(Z)⟩,(G5 Z Z Z Z Z),fun _ h=>h⟩
   intro q x ⟨hq,hx⟩
   refine wq<|wL Z Z<|aA<|aG<|bM Z (fun hc6=> ?_) (fun hc6=> ?_)
   ·have hbq:=bh_b.rd (q:Int)
    have hrt:rd ((b).take ((gU b)+1).toNat) (q:Int)=rd b (q:Int):=PC (by omega) (by omega)
    have hstp:=xO (b:=b) (q:=q) (by omega)
    have hmn:=QY (b:=b) (q:=q+1) (e+1) (by omega) (by omega)
    have hvb:=hfit.1.2
    have hx0:=sW (b.take q)
    have hxl:x<2^(7*q):=by rw[hx];exact QZ q (by omega)
    have hp0:0≤rd b (q:Int)%128*2^(7*q):=Int.mul_nonneg (by omega) (Int.pow_nonneg (by omega))
    have hsh:0≤rd b (q:Int)%128*2^(7*q)∧rd b (q:Int)%128*2^(7*q)<18446744073709551616:=⟨hp0,by omega⟩
    refine aK<|aG<|aI<|wq<|wm Z<|wy (aH underlying22 sz5 Z Z (RdC.toI (h:=((gU b)+1).toNat) (h_b.c _) (by omega)))<|wy (aX underlying5 Z Z (RdC.toI (h:=((gU b)+1).toNat) (h_b.c _) (by omega)))<|wg Z<|wn Z<|aM<|wm Z<|wm Z<|wy (aFd Z Z (by rw[hrt];exact hbq)) ?_
    refine wy (iU underlying5 underlying112 Z)<|wm Z<|wy (Yl.is (iA Z Z) (show Value.int .i64 (7*(q:Int))=Value.int .i64 ((7*q:Nat):Int) by simp))<|wy (vX (k:=7*q) (m:=2^(7*q)) rfl rfl rfl (by rw[hrt];exact hsh) (Nat.ble_eq_true_of_le (by omega))) ?_
    refine wy (bBo (p:=(rd ((b).take ((gU b)+1).toNat) (q:Int))%128) (m:=2^(7*q)) (7*q) Z Z Z (by rw[hrt];exact⟨by omega,by omega⟩) ⟨by omega,hxl⟩) ?_
    refine wn Z<|aM<|wA Z Z<|wm Z<|aA ?_
    exact⟨(q+1),(rd ((b).take ((gU b)+1).toNat) (q:Int))%128*2^(7*q)+x,⟨by omega,(by rw[hrt,xO (by omega),←hx])⟩,by omega,(G5 Z Z Z Z Z),fun _ h=>h⟩
   ·refine aZ<|wq<|wm Z<|wm Z<|wA Z Z<|wg Z<|wg Z<|wn Z<|dJ ?_
    refine⟨_,_,_,Z,Z,Z,?_⟩
    have eq:q=e+1:=by omega
    subst eq
    subst hx
    exact .inl ⟨_,e+1,hfit,by rw[he];rfl⟩
end Go.Proofs.YtdbebmmhdefgdaaGreat
namespace Go.Pure
open Go Go.Eng
theorem NU: ∀ {a b:List Int},a.length=b.length→(cmpL a b<0↔ ∃d,d<a.length∧(∀e,e<d→lt a e=lt b e)∧lt a d<lt b d)
 |[],[],_=>by simp[cmpL]
 | x::a,y::b,h=>by
  have ih:=NU (a:=a) (b:=b) (by simpa using h)
  rw[cmpL]
  rcases Int.lt_trichotomy x y with c|c|c
  ·rw [if_pos c]
   exact⟨fun _=>⟨0,by simp,fun e he=>by omega,c⟩,fun _=>by omega⟩
  ·subst c
   rw[if_neg (by omega),if_neg (by omega),ih]
   constructor
   ·rintro ⟨d,h1,h2,h3⟩
    refine⟨d+1,by simpa using h1,fun e he=> ?_,h3⟩
    cases e with
    |zero=>rfl
    |succ e=>exact h2 e (by omega)
   ·rintro ⟨d,h1,h2,h3⟩
    cases d with
    |zero=>exact absurd h3 (by simp[lt])
    |succ d=>exact⟨d,by simpa using h1,fun e he=>h2 (e+1) (by omega),h3⟩
  ·rw [if_neg (by omega),if_pos c]
   refine⟨fun h=>by omega,?_⟩
   rintro⟨d,h1,h2,h3⟩
   cases d with
   |zero=>have:x<y:=h3;omega
   |succ d=>have:x=y:=h2 0 (by omega);omega
section
variable {s:List Int}
def rot (s:List Int) (r d:Nat):Int:=om s (r+d)
def vR (s:List Int) (r:Int):List Int:=s.drop r.toNat++s.take r.toNat
theorem uZ (s:List Int) (r:Int):(vR s r).length=s.length:=by unfold vR;rw[List.length_append,List.length_drop,List.length_take];omega
theorem nE {r d:Nat} (hr:r≤s.length) (hd:d<s.length):lt (vR s r) d=rot s r d:=by
 unfold vR lt rot om
 rw[Int.toNat_natCast]
 rcases Nat.lt_or_ge (r+d) s.length with g|g
 ·rw[List.getD_eq_getElem?_getD,List.getElem?_append_left (by rw[List.length_drop];omega),List.getElem?_drop,Nat.mod_eq_of_lt g,←List.getD_eq_getElem?_getD]
 ·rw[List.getD_eq_getElem?_getD,List.getElem?_append_right (by rw[List.length_drop];omega),List.length_drop,List.getElem?_take_of_lt (by omega),show(r+d)%s.length=d-(s.length-r) by rw[Nat.mod_eq_sub_mod g,Nat.mod_eq_of_lt (by omega)];omega,←List.getD_eq_getElem?_getD]
theorem aCq (r:Nat):Per (rot s r) s.length:=fun d=>by
 unfold rot
 rw[←Nat.add_assoc]
 exact uA s _
theorem aSw (r:Nat):rot s (r%s.length)=rot s r:=by
 funext d
 unfold rot om
 rw[Nat.mod_add_mod]
theorem SX {r q:Nat} (hn:0<s.length) (h: ∀d,d<s.length→rot s r d=rot s q d):rot s r=rot s q:=by
 funext d
 rw[←(aCq r).mod d,←(aCq q).mod d]
 exact h _ (Nat.mod_lt _ hn)
theorem aLn {r q:Nat} (hr:r≤s.length) (hq:q≤s.length):cmpL (vR s r) (vR s q)<0↔Lt (rot s r) (rot s q):=by
 rw[NU (by rw[uZ,uZ]),uZ]
 constructor
 ·rintro ⟨d,h1,h2,h3⟩
  refine⟨d,fun e he=> ?_,?_⟩
  ·rw[←nE hr (by omega),←nE hq (by omega)];exact h2 e he
  ·rw[←nE hr h1,←nE hq h1];exact h3
 ·rintro ⟨d,h2,h3⟩
  rcases Nat.lt_or_ge d s.length with g|g
  ·refine ⟨d,g,fun e he=> ?_,?_⟩
   ·rw[nE hr (by omega),nE hq (by omega)];exact h2 e he
   ·rw[nE hr g,nE hq g];exact h3
  ·exfalso
   rcases Nat.eq_zero_or_pos s.length with z|z
   ·have: ∀r d,rot s r d=0:=fun r d=>by
     unfold rot om
     rw[List.eq_nil_of_length_eq_zero z];rfl
    rw[this,this] at h3;omega
   ·have:=SX z fun e he=>h2 e (by omega)
    rw[this] at h3;omega
structure FL (s:List Int) (b:Nat):Prop where
 lt:b<s.length
 le: ∀r,r<s.length→ ¬Lt (rot s r) (rot s b)
 first: ∀r,r<b→Lt (rot s b) (rot s r)
theorem FL.any {b:Nat} (h:FL s b) (r:Nat): ¬Lt (rot s r) (rot s b):=by
 rw[←aSw r]
 exact h.le _ (Nat.mod_lt _ (by have:=h.lt;omega))
theorem FL.one {b c:Nat} (h:FL s b) (g:FL s c):b=c:=by
 rcases Nat.lt_trichotomy b c with a|a|a
 ·exact absurd (g.first b a) (h.any c)
 ·exact a
 ·exact absurd (h.first c a) (g.any b)
def qB (s:List Int):Nat→Nat
 |0=>0
 |r+1=>if cmpL (vR s r) (vR s (qB s r))<0 then r else qB s r
theorem UC: ∀n:Nat,0<n→n≤s.length→qB s n<n∧(∀r,r<n→ ¬Lt (rot s r) (rot s (qB s n)))∧ ∀r,r<qB s n→Lt (rot s (qB s n)) (rot s r)
 | 1,_,h=>by
  have e:qB s 1=0:=by
   rw[qB,qB]
   split<;>rfl
  rw[e]
  exact⟨by omega,fun r hr=>by obtain rfl:r=0:=(by omega);exact fun h=>h.asymm h,fun r hr=>by omega⟩
 | n +2,_,h=>by
  have ih:=UC (n+1) (by omega) (by omega)
  rw[qB]
  split
  ·rename_i c
   rw[aLn (by omega) (by omega)] at c
   refine⟨by omega,fun r hr=> ?_,fun r hr=> ?_⟩
   ·rcases Nat.lt_or_ge r (n+1) with g|g
    ·exact fun hlt=>ih.2.1 r g (hlt.trans c)
    ·obtain rfl:r=n+1:=by omega
     exact fun h=>h.asymm h
   ·rcases II (rot s (n+1)) (rot s r) with a|a|a
    ·exact a
    ·exact absurd (by rw[←funext a];exact c) (ih.2.1 r hr)
    ·exact absurd (a.trans c) (ih.2.1 r hr)
  ·rename_i c
   rw[aLn (by omega) (by omega)] at c
   refine⟨by omega,fun r hr=> ?_,ih.2.2⟩
   rcases Nat.lt_or_ge r (n+1) with g|g
   ·exact ih.2.1 r g
   ·obtain rfl:r=n+1:=by omega
    exact c
def qI (s:List Int):Int:=qB s s.length
theorem PM (hn:0<s.length):FL s (qB s s.length):=by
 have h:=UC (s:=s) s.length hn (Nat.le_refl _)
 exact⟨h.1,h.2.1,h.2.2⟩
theorem aUm (s:List Int):0≤qI s∧qI s≤s.length∧(0<s.length→qI s<s.length):=by
 unfold qI
 rcases Nat.eq_zero_or_pos s.length with z|z
 ·rw[z];exact⟨by omega,by show((0:Nat):Int)≤_;omega,fun h=>by omega⟩
 ·have:=(PM z).lt
  omega
structure LA (s:List Int) (b:Nat) (i j k:Int):Prop where
 i0:0≤i
 j0:0≤j
 k0:0≤k
 ne:i≠j
 agr: ∀e:Nat,(e:Int)<k→rot s i.toNat e=rot s j.toNat e
 hb:(b:Int)=i∨(b:Int)=j∨(i<b∧j<b)
theorem LA.init (b:Nat):LA s b 0 1 0:=⟨by omega,by omega,by omega,by omega,fun e he=>by omega,by omega⟩
variable {b:Nat} {i j k:Int}
theorem LA.swap (h:LA s b i j k):LA s b j i k:=⟨h.j0,h.i0,h.k0,h.ne.symm,fun e he=>(h.agr e he).symm,by have:=h.hb;omega⟩
theorem LA.eq (h:LA s b i j k) (he:rot s i.toNat k.toNat=rot s j.toNat k.toNat):LA s b i j (k+1):=
 ⟨h.i0,h.j0,by have:=h.k0;omega,h.ne,fun e he'=>by
  rcases Int.lt_or_le e k with g|g
  ·exact h.agr e g
  ·have:=h.k0
   obtain rfl:e=k.toNat:=by omega
   exact he,h.hb⟩
theorem LA.out (h:LA s b i j k) (fl:FL s b) (hgt:rot s j.toNat k.toNat<rot s i.toNat k.toNat): ¬(i≤b∧(b:Int)≤i+k):=fun hc=>by
 have i0:=h.i0
 have k0:=h.k0
 obtain⟨t,ht⟩: ∃t:Nat,b=i.toNat+t:=⟨b-i.toNat,by omega⟩
 refine fl.any (j.toNat+t) ⟨k.toNat-t,fun e he=> ?_,?_⟩
 ·have:=h.agr (t+e) (by omega)
  unfold rot at this ⊢
  rw[ht,Nat.add_assoc,Nat.add_assoc]
  exact this.symm
 ·unfold rot at hgt ⊢
  rw[ht,Nat.add_assoc,Nat.add_assoc,show t+(k.toNat-t)=k.toNat by omega]
  exact hgt
theorem LA.gt (h:LA s b i j k) (fl:FL s b) (hgt:rot s j.toNat k.toNat<rot s i.toNat k.toNat):(i+(k+1)≠j→LA s b (i+(k+1)) j 0)∧(i+(k+1)=j→LA s b (i+(k+1)) (j+1) 0):=by
 have ho:=h.out fl hgt
 have hb:=h.hb
 have i0:=h.i0
 have j0:=h.j0
 have k0:=h.k0
 exact⟨fun hne=>⟨by omega,j0,by omega,hne,fun e he=>by omega,by omega⟩,fun he=>⟨by omega,by omega,by omega,by omega,fun e he=>by omega,by omega⟩⟩
theorem LA.lt (h:LA s b i j k) (fl:FL s b) (hlt:rot s i.toNat k.toNat<rot s j.toNat k.toNat):(i≠j+(k+1)→LA s b i (j+(k+1)) 0)∧(i=j+(k+1)→LA s b i (j+(k+1)+1) 0):=by
 have ho:=h.swap.out fl hlt
 have hb:=h.hb
 have i0:=h.i0
 have j0:=h.j0
 have k0:=h.k0
 exact⟨fun hne=>⟨i0,by omega,by omega,hne,fun e he=>by omega,by omega⟩,fun he=>⟨by omega,by omega,by omega,by omega,fun e he=>by omega,by omega⟩⟩
theorem LA.same (h:LA s b i j k) (fl:FL s b) (hn:(s.length:Int)≤k):min i j=b:=by
 have i0:=h.i0
 have j0:=h.j0
 have hlt:=fl.lt
 have he:rot s i.toNat=rot s j.toNat:=SX (by omega) fun d hd=>h.agr d (by omega)
 have hne:=h.ne
 have no: ∀x:Nat,x<b→rot s x≠rot s b:=fun x hx e=>(fl.first x hx).not_eq fun d=>by rw[e]
 rcases h.hb with e|e|⟨e1,e2⟩
 ·rcases Int.lt_or_le j i with g|g
  ·exact absurd (by rw[show b=i.toNat by omega];exact he.symm) (no j.toNat (by omega))
  ·omega
 ·rcases Int.lt_or_le i j with g|g
  ·exact absurd (by rw[show b=j.toNat by omega];exact he) (no i.toNat (by omega))
  ·omega
 ·exfalso
  have key: ∀lo hi:Nat,lo<hi→hi<b→rot s lo=rot s hi→False:=fun lo hi h1 h2 e=>by
   refine no (lo+(b-hi)) (by omega) ?_
   funext d
   have:=congrFun e ((b-hi)+d)
   unfold rot at this ⊢
   rw[Nat.add_assoc,this]
   congr 1
   omega
  rcases Int.lt_or_le i j with g|g
  ·exact key i.toNat j.toNat (by omega) (by omega) he
  ·exact key j.toNat i.toNat (by omega) (by omega) he.symm
theorem LA.done (h:LA s b i j k) (fl:FL s b) (hc: ¬(i<s.length∧j<s.length∧k<s.length)):min i j=b:=by
 have hb:=h.hb
 have hlt:=fl.lt
 have hne:=h.ne
 by_cases hk:(s.length:Int)≤k
 ·exact h.same fl hk
 ·omega
theorem aLm {i k:Int} (i0:0≤i) (k0:0≤k):rd s ((i+k)%s.length)=rot s i.toNat k.toNat:=by
 have:=bCc s (i.toNat+k.toNat)
 rw[show((i.toNat+k.toNat:Nat):Int)=i+k by omega] at this
 exact this
end
end Go.Pure
namespace Go.Proofs.YtdbebmmhdefgdaaGreat
open Go Go.Eng Go.Pure
open Tryz
set_option maxRecDepth 100000
variable {u:List Int} {w:World} {ws:List (List Int)}
theorem LA.init0:LA u (qB u u.length) 0 1 0:=LA.init _
set_option maxHeartbeats 800000 in
theorem bAu {A_u:Option Addr} {n_u c_u:Nat} (h_u:Rd w A_u n_u c_u 1 (ints .u8 u)) (hN:u.length≤1000000):
  Ct Tryz.prog 190 #[.slice A_u n_u c_u] w.heap.size w [] (fun v R'=>v=I (qI u)):=by
 obtain rfl:=h_u.lenI
 refine fn1 Tryz.func190 Z Z Z ?_
 have m_u:=h_u.max
 refine wq<|wn Z<|wq<|wm Z<|wy (aQ underlying22 Z)<|wn Z<|wq<|wg Z<|wg Z<|wg Z ?_
 refine aA<|aG<|aI ?_
 refine fU (fun(i:Int) (j:Int) (k:Int)=>[(0, .slice A_u u.length c_u),(3,I ((u.length:Nat):Int)),(4,I i),(5,I j),(6,I k)]) (fun i j k=>[]) (fun i j k=>(LA u (qB u u.length) i j k)∧(i≤2*u.length+2)∧(j≤2*u.length+3)∧(k≤u.length)∧(u.length=0→i=0∧j=1)) (fun i j k=>(3*u.length+3-(i+j+k)).toNat) ?_ ?_
 ·exact⟨0,1,0,⟨(LA.init0),by omega,by omega,by omega,by omega⟩,(G5 Z Z Z Z Z),fun _ h=>h⟩
 intro i j k ⟨hLA,hib,hjb,hkb,hz⟩
 have hi0:=hLA.i0
 have hj0:=hLA.j0
 have hk0:=hLA.k0
 refine aG<|wq<|wm Z<|wm Z<|wL Z Z<|wm Z<|dS 4 [(0, .slice A_u u.length c_u),(3,I ((u.length:Nat):Int)),(4,I i),(5,I j),(6,I k),(18, .bool (decide ((i<((u.length:Nat):Int))∧(j<((u.length:Nat):Int)))))] [] ?_ ?_
 ·refine dC 14 Z (fun hc1=> ?_) (fun hc1=> ?_)
  ·refine aC Z Z<|wm Z<|aC Z Z<|wm Z<|aC Z Z<|wL Z Z<|wy (bA Z Z)<|aA ?_
   exact⟨(sc Z (sc Z (sc Z (sc Z (sc Z (Sub.to Z mbA Sub.nil)))))),fun _ h=>h⟩
  ·refine aP Z Z Z Z<|aP Z Z Z Z<|aP Z Z Z Z<|wy (aS Z Z)<|aA ?_
   exact⟨(sc Z (sc Z (sc Z (sc Z (sc Z (Sub.to Z mfA Sub.nil)))))),fun _ h=>h⟩
 refine wm Z<|dS 4 [(0, .slice A_u u.length c_u),(3,I ((u.length:Nat):Int)),(4,I i),(5,I j),(6,I k),(23, .bool (decide (((i<((u.length:Nat):Int))∧(j<((u.length:Nat):Int)))∧(k<((u.length:Nat):Int)))))] [] ?_ ?_
 ·refine dC 19 Z (fun hc2=> ?_) (fun hc2=> ?_)
  ·refine aC Z Z<|wm Z<|aC Z Z<|wm Z<|aC Z Z<|wL Z Z<|wy (bA Z Z)<|aA ?_
   exact⟨(sc Z (sc Z (sc Z (sc Z (sc Z (Sub.to Z mbA Sub.nil)))))),fun _ h=>h⟩
  ·refine aP Z Z Z Z<|aP Z Z Z Z<|aP Z Z Z Z<|wy (aS Z Z)<|aA ?_
   exact⟨(sc Z (sc Z (sc Z (sc Z (sc Z (Sub.to Z mfA Sub.nil)))))),fun _ h=>h⟩
 refine aA<|bM Z (fun hc3=> ?_) (fun hc3=> ?_)
 ·have hm1:=Int.emod_nonneg (i+k) (show(u.length:Int)≠0 by omega)
  have hm2:=Int.emod_lt_of_pos (i+k) (show(0:Int)<u.length by omega)
  have hm3:=Int.emod_nonneg (j+k) (show(u.length:Int)≠0 by omega)
  have hm4:=Int.emod_lt_of_pos (j+k) (show(0:Int)<u.length by omega)
  have fl:=PM (s:=u) (by omega)
  have ei:=aLm (s:=u) hLA.i0 hLA.k0
  have ej:=aLm (s:=u) hLA.j0 hLA.k0
  refine aK<|aI<|aG<|bT mixed<|wD 0 Z (aN Z)<|wD 1 Z (aN Z)<|wD 2 Z (aN Z)<|wD 3 Z (dF Z Z)<|wD 4 Z (aN Z)<|wD 5 Z (BU Z Z)<|wD 6 Z (aH underlying22 sz5 Z Z (h_u.c _))<|wD 7 Z (aX underlying5 Z Z (h_u.c _))<|wD 8 Z (aN Z)<|wD 9 Z (aN Z)<|wD 10 Z (aN Z) ?_
  refine wD 11 Z (dF Z Z)<|wD 12 Z (aN Z)<|wD 13 Z (BU Z Z)<|wD 14 Z (aH underlying22 sz5 Z Z (h_u.c _))<|wD 15 Z (aX underlying5 Z Z (h_u.c _))<|wD 16 Z (bQ Z)<|wD 17 Z (bQ Z)<|wN<|aG<|aI<|wq<|wm Z<|wm Z<|wy (bC Z Z) ?_
  refine wn Z<|bM Z (fun hc4=> ?_) (fun hc4=> ?_)
  ·have hst:=hLA.eq (by rw[←ei,←ej];exact hc4)
   refine wq<|wm Z<|wA Z Z<|wn Z<|aZ ?_
   exact⟨i,j,k+1,⟨(hst),by omega,by omega,by omega,by omega⟩,by omega,(G5 Z Z Z Z Z),fun _ h=>h⟩
  ·refine wq<|wm Z<|wm Z<|wy (dV Z Z)<|wn Z<|bM Z (fun hc5=> ?_) (fun hc5=> ?_)
   ·have hst:=hLA.gt fl (by rw[←ei,←ej];exact hc5)
    refine aM<|wm Z<|wm Z<|wA Z Z<|wA Z Z<|wn Z<|wq<|wn Z<|wq<|wm Z<|wm Z ?_
    refine wy (bC Z Z)<|aA<|bM Z (fun hc6=> ?_) (fun hc6=> ?_)
    ·refine aM<|wm Z<|wA Z Z<|wn Z ?_
     exact⟨i+(k+1),j+1,0,⟨(hst.2 (by omega)),by omega,by omega,by omega,by omega⟩,by omega,(G5 Z Z Z Z Z),fun _ h=>h⟩
    ·refine aK ?_
     exact⟨i+(k+1),j,0,⟨(hst.1 (by omega)),by omega,by omega,by omega,by omega⟩,by omega,(G5 Z Z Z Z Z),fun _ h=>h⟩
   ·have hst:=hLA.lt fl (by rw[←ei,←ej];omega)
    refine aM<|wm Z<|wm Z<|wA Z Z<|wA Z Z<|wn Z<|wq<|wn Z<|wq<|wm Z<|wm Z ?_
    refine wy (bC Z Z)<|aA<|bM Z (fun hc7=> ?_) (fun hc7=> ?_)
    ·refine aM<|wm Z<|wA Z Z<|wn Z ?_
     exact⟨i,(j+(k+1))+1,0,⟨(hst.2 (by omega)),by omega,by omega,by omega,by omega⟩,by omega,(G5 Z Z Z Z Z),fun _ h=>h⟩
    ·refine aK ?_
     exact⟨i,j+(k+1),0,⟨(hst.1 (by omega)),by omega,by omega,by omega,by omega⟩,by omega,(G5 Z Z Z Z Z),fun _ h=>h⟩
 ·refine aZ<|wq<|wm Z<|wm Z<|wy (vQ Z Z)<|wn Z<|dJ ?_
  refine⟨_,Z,?_⟩
  rcases Nat.eq_zero_or_pos u.length with z|z
  ·obtain ⟨rfl,rfl⟩:=hz z
   have e:qI u=0:=by unfold qI;rw[z];rfl
   rw[e];rfl
  ·exact congrArg (Value.int .i64) (hLA.done (PM z) (by omega))
theorem aOp {m:Int} (h0:0≤m) (hN:m≤1000000):
  Ct Tryz.prog 70 #[.slice none 0 0,I m] w.heap.size w [] (fun v R'=> ∃A c,v= .slice A 0 c∧R'=[(ru 5 A 0 c ([]))]):=by
 refine fn1 Tryz.func70 Z Z Z ?_
 refine wq<|dH (R1:=[(ru 5 none 0 0 ([]))]) (Sub.refl _) (fun _ h=>h.nil 5 1)<|wn Z<|aG<|wq<|wm Z<|wy (Yl.f (eP Z Z))<|aA<|aL Z<|aK<|aG<|aG ?_
 refine aM<|wm Z<|wm Z<|wy (aWo underlying22 Z)<|wm Z<|wy (aQ underlying22 Z)<|wS Z Z<|wS Z Z<|wn Z<|wq<|wm Z<|wy (dV Z Z)<|aA ?_
 refine bM Z (fun hc1=> ?_) (fun hc1=> ?_)
 ·refine aM<|wm Z<|wm Z<|wy (aWo underlying22 Z)<|wy (QT underlying22 sz5 Z Z)<|wy (Yl.is (aN Z) (by rw[show m-(((0:Nat):Int)-((0:Nat):Int))=((m.toNat:Nat):Int) by omega])) ?_
  refine wa (aWd underlying22 underlying3 zb5 Z Z Z (by omega) (by omega) (by omega)) ?_
  rintro _ _ ⟨g_1,c_2,rfl,rfl⟩
  refine dH (R1:=[(ru 5 (GG g_1) 0 c_2 ([])),(ru 5 none 0 0 ([]))]) (Sub.refl _) (fun _ h=>h.cut (k:=0) (Nat.zero_le _) (by simp)) ?_
  refine wm Z<|wy (aQ underlying22 Z)<|wy (QT underlying22 sz5 Z Z)<|wn Z<|wq<|wm Z<|wn Z<|aT [0] 99 (by decide) Z ?_
  refine⟨_,Z,?_⟩
  exact⟨_,_,Z,Z⟩
 ·refine aK<|wq<|wm Z<|wn Z<|aT [0] 99 (by decide) Z ?_
  refine⟨_,Z,?_⟩
  exact⟨_,_,Z,Z⟩
theorem EM (i:Nat):((ws.take i).flatten).length≤ws.flatten.length:=by
 conv=>rhs;rw[←List.take_append_drop i ws]
 rw[List.flatten_append,List.length_append]
 omega
set_option maxHeartbeats 800000 in
theorem jN {A_ws:Option Addr} {n_ws c_ws:Nat} {vals_ws:List Value} (h_ws:Rd w A_ws n_ws c_ws 1 vals_ws) (s_ws:SlW .u8 w vals_ws ws) (hN:ws.flatten.length≤1000000∧ws.length≤1000000):
  Ct Tryz.prog 38 #[.slice A_ws n_ws c_ws] w.heap.size w [] (fun v R'=> ∃A c,v= .slice A (ws.flatten).length c∧R'=[(ru 5 A ((ws.flatten).length) c (ws.flatten))]):=by
 obtain rfl:n_ws=ws.length:=by have:=h_ws.len;have:=s_ws.1;omega
 refine fn1 Tryz.func38 Z Z Z ?_
 have m_ws:=h_ws.max
 refine wq<|wn Z<|wq<|wn Z<|aG<|wq<|wm Z<|wy (aQ underlying23 Z)<|wm Z<|aA ?_
 refine aI ?_
 refine dR (fun(i:Int) (z:Int)=>[(0, .slice A_ws ws.length c_ws),(3,I z),(9, .slice A_ws ws.length c_ws),(10,I ((ws.length:Nat):Int)),(11,I i)]) (fun i z=>[]) (fun i z=>(0≤i)∧(i≤ws.length)∧(z=((ws.take i.toNat).flatten.length:Int))) (fun i z=>(ws.length-i).toNat) ?_ ?_
 ·exact⟨0,0,⟨by omega,by omega,(Z)⟩,(G5 Z Z Z Z Z),fun _ h=>h⟩
 intro i z ⟨hi0,hi1,hz⟩
 have hfl:=EM (ws:=ws) i.toNat
 refine wq<|wL Z Z<|aA<|aG<|bM Z (fun hc1=> ?_) (fun hc1=> ?_)
 ·have hfl2:=EM (ws:=ws) (i+1).toNat
  rw[iM hi0 (by omega),List.length_append] at hfl2
  refine aK<|aG<|aI<|wq<|wy (aH underlying23 dO Z Z (h_ws.c _)) ?_
  refine s_ws.elim (i:=i) (by omega) (by omega) (fun A_1 c_2 hv_3 hr_4 hb_5 mhr_4=> ?_)
  refine wy (DC underlying22 Z Z Z (h_ws.c _) hv_3)<|wn Z<|wq<|wm Z<|wm Z<|wy (aQ underlying22 Z)<|wA Z Z<|wn Z<|wq<|wm Z<|wy (Yl.f (eP Z Z)) ?_
  refine aA<|aL Z<|aK<|aM<|wA Z Z<|wm Z<|aA ?_
  exact⟨i+1,z+(((rdl ws i).length:Nat):Int),⟨by omega,by omega,(by rw[iM hi0 (by omega),List.length_append,hz];omega)⟩,by omega,(G5 Z Z Z Z Z),fun _ h=>h⟩
 ·refine aZ<|wq<|wm Z<|wa (aF bFw Z (Ct.fresh (fun w hw=>aOp (by omega) (by omega)))) ?_
  rintro _ _ ⟨_,rfl,A_6,c_7,rfl,rfl⟩
  refine wn Z<|aG<|wq<|wm Z<|wy (aQ underlying23 Z)<|wm Z<|aA<|aI ?_
  refine jP (fun(q:Int) (A1:Option Addr) (n1:Nat) (c1:Nat) (acc:List Int)=>[(6, .slice A1 n1 c1),(25, .slice A_ws ws.length c_ws),(26,I ((ws.length:Nat):Int)),(27,I q)]) (fun q A1 n1 c1 acc=>[(ru 5 A1 n1 c1 acc)]) (fun q A1 n1 c1 acc=>(0≤q)∧(q≤ws.length)∧(n1=acc.length)∧(acc=(ws.take q.toNat).flatten)) (fun q A1 n1 c1 acc=>(ws.length-q).toNat) ?_ ?_
  ·exact⟨0,A_6,0,c_7,[],⟨by omega,by omega,(Z),(Z)⟩,(G4 Z Z Z Z),fun _ h=>h⟩
  intro q A1 n1 c1 acc ⟨hq0,hq1,hn1,hacc⟩
  have hal:acc.length≤ws.flatten.length:=by rw[hacc];exact EM _
  refine wq<|wL Z Z<|aA<|aG<|bM Z (fun hc2=> ?_) (fun hc2=> ?_)
  ·have hfl2:=EM (ws:=ws) (q+1).toNat
   rw[iM hq0 (by omega),List.length_append] at hfl2
   refine aK<|aG<|aI<|wq<|wy (aH underlying23 dO Z Z (h_ws.c _)) ?_
   refine s_ws.elim (i:=q) (by omega) (by omega) (fun A_8 c_9 hv_10 hr_11 hb_12 mhr_11=> ?_)
   refine wy (DC underlying22 Z Z Z (h_ws.c _) hv_10)<|wn Z<|aM<|wm Z<|wm Z<|wa (bE 0 Z underlying22 zb5 Z Z Z (hr_11.c _)) ?_
   rintro _ _ ⟨A_13,c_14,rfl,rfl⟩
   refine bN (v:= .slice A_13 (n1+((rdl ws q).length)) c_14) Z<|wn Z<|aM<|wA Z Z<|wm Z<|aA ?_
   exact⟨q+1,A_13,n1+((rdl ws q).length),c_14,acc++(rdl ws q),⟨by omega,by omega,(by rw[List.length_append,hn1]),(by rw[iM hq0 (by omega),hacc])⟩,by omega,(G4 Z Z Z Z),fun _ h=>h⟩
  ·refine aZ<|wq<|wm Z<|wn Z<|aT [0] 99 (by decide) Z ?_
   refine⟨_,Z,?_⟩
   rw[List.take_of_length_le (by omega)] at hacc
   subst hacc
   obtain rfl:=hn1
   exact⟨_,_,Z,Z⟩
end Go.Proofs.YtdbebmmhdefgdaaGreat
namespace Go.Eng
open Go Go.RowKit Go.Proofs Go.Sort
theorem UM {W w':World} (hb:Below W.heap.size W w') (hd:W.drawn≤w'.drawn): ∃q os,w'=grow (W.drewN q) os:=by
 refine⟨w'.drawn-W.drawn,w'.heap.extract W.heap.size w'.heap.size,?_⟩
 have hh:W.heap++w'.heap.extract W.heap.size w'.heap.size=w'.heap:=by
  apply Array.ext_getElem?
  intro k
  rw[Array.getElem?_append]
  split
  ·rename_i hk
   exact(hb.block k hk).symm
  ·rename_i hk
   have:=hb.size
   rw[Array.getElem?_extract]
   split
   ·congr 1;omega
   ·rename_i h2
    rw[Array.getElem?_eq_none (by omega)]
 obtain⟨h1,h2,h3,h4,h5⟩:=w'
 obtain⟨g1,g2,g3,g4,g5⟩:=W
 have b1:=hb.os
 have b2:=hb.tape
 have b3:=hb.output
 simp only at b1 b2 b3 hh hd
 subst b1;subst b2;subst b3
 simp only[grow,World.drewN,hh,World.mk.injEq,true_and,and_true]
 omega
section
variable {P:Program} {B:Nat} {w0:World} {R:List Row}
def aFa (P:Program) (f g:Nat) (cb:Array Value):Prop:=
 ∀(α:Type) [Inhabited α] (enc:α→List Value) (_: ∀x,(enc x).length=2) (_: ∀x,∀v∈enc x,v.oneCell'=true) (cf:α→α→Int) (_:SWO (ltOf cf)) (blk off cap:Nat) (d:Array α) (w:World)
  (_:CmpLays P g cb enc 2 cf blk off d.size w) (_:HoldsK enc 2 w blk off d) (_:blk<w.heap.size) (_:d.size<4611686018427387904),
  Calls P f #[.slice (some ⟨blk,off,none⟩) d.size cap, .func (.func g) #[] cb] w fun e w'=>e= .returned (.tuple #[])∧ ∃d' n os,PermIn 0 d.size d d'∧SortedIn (ltOf cf) 0 d.size d'∧w'=sortWorldK enc 2 w blk off n d' os
theorem Hp.but {w W:World} (h:Hp B w0 w R) {i:Nat} {r:Row} (hi:R[i]? =some r) (ho:W.os=w.os) (ht:W.tape=w.tape) (hu:W.output=w.output) (hd:w.drawn≤W.drawn) (hs:w.heap.size≤W.heap.size)
  (hk: ∀k,k<w.heap.size→(∀a,r.A=some a→a.block≠k)→W.heap[k]? =w.heap[k]?):Hp B w0 W (R.eraseIdx i):=by
 have hr:r∈R:=List.mem_of_getElem? hi
 refine⟨⟨ho.trans h.below.os,ht.trans h.below.tape,hu.trans h.below.output,Nat.le_trans h.below.size hs,fun k hkB=> ?_⟩,Nat.le_trans h.base hs,fun q hq=> ?_,h.apart.sublist (List.eraseIdx_sublist _ _),h.late.trans ⟨hd,fun k o hk' hc=> ?_⟩⟩
 ·rw[hk k (Nat.lt_of_lt_of_le hkB h.base) (fun a ha=>by have:=(Row.lies_lt (h.own r hr) a ha).1;omega),h.below.block k hkB]
 ·obtain ⟨j,hj⟩:=List.mem_iff_getElem?.1 hq
  obtain⟨j',hj',hne⟩: ∃j',R[j']? =some q∧j'≠i:=by
   rw[List.getElem?_eraseIdx] at hj
   split at hj
   ·exact⟨j,hj,by omega⟩
   ·exact⟨j+1,hj,by omega⟩
  refine Row.lies_of_block (h.own q (List.mem_of_getElem? hj')) fun a ha=>hk a.block (Row.lies_lt (h.own q (List.mem_of_getElem? hj')) a ha).2 fun a' ha'=> ?_
  have hjl:=(List.getElem?_eq_some_iff.1 hj').1
  have hjv:=(List.getElem?_eq_some_iff.1 hj').2
  have hil:=(List.getElem?_eq_some_iff.1 hi).1
  have hiv:=(List.getElem?_eq_some_iff.1 hi).2
  rcases Nat.lt_or_gt_of_ne hne with hlt|hlt
  ·have:=List.pairwise_iff_getElem.1 h.apart j' i hjl hil hlt
   rw[hjv,hiv] at this
   exact fun e=>this a a' ha ha' e.symm
  ·have:=List.pairwise_iff_getElem.1 h.apart i j' hil hjl hlt
   rw[hjv,hiv] at this
   exact this a' a ha' ha
 ·rw [hk k (Array.getElem?_eq_some_iff.1 hk').1 fun a ha e=> ?_]
  ·exact hk'
  ·subst e
   obtain⟨cs,e',fr,hc2⟩:=Row.lies_cells (h.own r hr) ha
   rw[hc2] at hk'
   cases hk'
   cases hc
theorem YB {f g:Nat} {cb:Array Value} (hSF:aFa P f g cb) {T m c:Nat} {A:Option Addr} {l:List (Int × Int)} (i:Nat) (hi:R[i]? =some ⟨T,2,A,m,c,prs l,false⟩) (hne:l≠[]) (hsz:l.length<4611686018427387904) (cmp:Int × Int→Int × Int→Int) (hO:SWO (ltOf cmp))
  (hclo: ∀W,Hp B w0 W (R.eraseIdx i)→ ∀x∈l,∀y∈l,
   Ct P g (#[.agg #[.int .i64 x.1, .int .i64 x.2], .agg #[.int .i64 y.1, .int .i64 y.2]]++cb) W.heap.size W [] (fun v _=>v= .int .i64 (cmp x y))):
  Ct P f #[.slice A m c, .func (.func g) #[] cb] B w0 R (fun v R'=>v= .tuple #[]∧ ∃l',l'.Perm l∧l'.Pairwise (fun x y=> ¬cmp y x<0)∧R'=R.set i ⟨T,2,A,m,c,prs l',false⟩):=by
 intro w hw
 have hown:=Row.lies_w (hw.own _ (List.mem_of_getElem? hi)) rfl
 have hrd:=Row.rd (hw.own _ (List.mem_of_getElem? hi))
 have hm:m=l.length:=by
  have:=hrd.len
  rw[kS] at this
  simp only at this
  omega
 have hpos:0<l.length:=List.length_pos_iff.2 hne
 rcases hown.2 with⟨_,hn⟩|⟨blk,cap,cur,hv,hb,hg,hnc,hcm,hcs,ht⟩
 ·simp only at hn;omega
 simp only[Value.slice.injEq,true_and] at hv
 obtain⟨rfl,rfl⟩:=hv
 simp only at ht hcs hg hnc
 haveI:Inhabited {p:Int × Int//p∈l}:=⟨⟨l[0],List.getElem_mem _⟩⟩
 let d:Array {p:Int × Int//p∈l}:=l.attach.toArray
 have hds:d.size=l.length:=by simp[d]
 have hdv:d.toList.map Subtype.val=l:=List.attach_map_subtype_val l
 have hlt:blk<w.heap.size:=(Array.getElem?_eq_some_iff.1 hg).1
 have hH:HoldsK encP 2 w blk 0 d:=by
  intro j hj
  have hj':j<l.length*2:=by
   have:j<(flatK encP 2 d).size:=hj
   rw[size_flatK,hds] at this
   exact this
  have hf:=NJ d
  rw[hdv] at hf
  have e:(prs l)[j]? =some ((flatK encP 2 d)[j]!):=by
   rw[←hf,Array.getElem?_toList,Array.getElem?_eq_getElem hj,getElem!_pos _ j hj]
  refine⟨?_,?_⟩
  ·rw [Nat.zero_add]
   exact hw.cellAt i hi rfl e
  ·exact hw.openAt i (0+j) hi rfl rfl
 have hcmp:CmpLays P g cb (encP (l:=l)) 2 (fun x y=>cmp x.1 y.1) blk 0 d.size w:=by
  intro m' os dk hdk x y
  have hW:w.heap.size≤(sortWorldK (encP (l:=l)) 2 w blk 0 m' dk os).heap.size:=by
   unfold sortWorldK
   rw[size_grow]
   unfold putRowK
   rw[Go.Sort.size_putRow]
   exact Nat.le_add_right _ _
  have hk: ∀k,k<w.heap.size→(∀a:Addr,some (⟨blk,0,none⟩:Addr)=some a→a.block≠k)→(sortWorldK (encP (l:=l)) 2 w blk 0 m' dk os).heap[k]? =w.heap[k]? :=by
   intro k hk hne
   have hbk:blk≠k:=hne _ rfl
   unfold sortWorldK
   rw[heap_grow_old _ _ (by unfold putRowK;rw[Go.Sort.size_putRow];exact hk)]
   simp[putRowK,putRow,mapBlock,Array.getElem?_modify,hbk,Sort.ahead]
  refine(hclo _ (hw.but (W:=sortWorldK (encP (l:=l)) 2 w blk 0 m' dk os) hi rfl rfl rfl (by show w.drawn≤w.drawn+m';omega) hW hk) x.1 x.2 y.1 y.2 _ (Hp.refl _)).mono ?_
  rintro e w' ⟨v,R',rfl,hh,rfl⟩
  exact⟨rfl,UM hh.below hh.late.1⟩
 have hO':SWO (ltOf fun(x y: {p:Int × Int//p∈l})=>cmp x.1 y.1):=⟨fun x=>hO.irrefl x.1,fun x y z=>hO.trans x.1 y.1 z.1,fun x y z=>hO.ntrans x.1 y.1 z.1⟩
 have hcall:=hSF _ encP (fun _=>rfl) (fun x v hv=>by simp[encP] at hv;rcases hv with rfl|rfl<;>rfl) _ hO' blk 0 c d w hcmp hH hlt (by rw[hds];exact hsz)
 rw[hds,←hm] at hcall
 refine hcall.mono ?_
 rintro e w' ⟨rfl,d',n,os,⟨hs',_,hperm⟩,hsort,rfl⟩
 have hd's:d'.size=l.length:=by rw[hs',hds]
 refine⟨_,_,rfl,?_,rfl,d'.toList.map Subtype.val,?_,?_,rfl⟩
 ·have hheap:(sortWorldK encP 2 w blk 0 n d' os).heap[blk]? =some (.cells (putCells id 0 (flatK encP 2 d') cur) T (0,0)):=by
   unfold sortWorldK
   rw[heap_grow_old _ _ (by unfold putRowK;rw[Go.Sort.size_putRow];exact hlt)]
   simp[putRowK,putRow,mapBlock,Array.getElem?_modify,Sort.ahead,hg,onCells]
  refine hw.upd hi (row:=some blk) ⟨rfl,rfl,rfl,?_,fun k hk hne=> ?_⟩ ?_ (fun k hk=> ?_) ?_ (fun a' ha'=> .inl ⟨a',ha',rfl⟩)
  ·unfold sortWorldK
   rw[size_grow]
   unfold putRowK
   rw[Go.Sort.size_putRow]
   exact Nat.le_add_right _ _
  ·have hbk:blk≠k:=fun e=>hne (by rw[e])
   unfold sortWorldK
   rw[heap_grow_old _ _ (by unfold putRowK;rw[Go.Sort.size_putRow];exact hk)]
   simp[putRowK,putRow,mapBlock,Array.getElem?_modify,hbk,Sort.ahead]
  ·show w.drawn≤w.drawn+n
   omega
  ·obtain rfl:=Option.some.inj hk
   exact⟨_,rfl,rfl⟩
  ·unfold Row.lies
   simp only
   refine⟨by rw[kS,List.length_map,Array.length_toList,hd's,hm], .inr ⟨blk,c,_,rfl,hb,hheap,hnc,hcm,?_,?_⟩⟩
   ·simp only[putCells,Array.size_mapIdx]
    exact hcs
   ·have hf:=NJ d'
    rw[←hf]
    have hfs:(flatK encP 2 d').size=m*2:=by rw[size_flatK,hd's,hm]
    apply List.ext_getElem?
    intro t
    rw[List.getElem?_take]
    split
    ·rename_i htm
     have htc:t<cur.size:=by
      have:m*2≤c*2:=Nat.mul_le_mul_right _ hnc
      omega
     rw[Array.getElem?_toList,Array.getElem?_toList,Array.getElem?_eq_getElem (by simp[putCells];exact htc),Array.getElem?_eq_getElem (by rw[hfs];exact htm)]
     simp only[putCells,Array.getElem_mapIdx,id]
     rw[if_pos ⟨Nat.zero_le _,by rw[Nat.zero_add,hfs];exact htm⟩,Nat.sub_zero,getElem!_pos _ t (by rw[hfs];exact htm)]
    ·rename_i htm
     rw[List.getElem?_eq_none (by rw[Array.length_toList,hfs];omega)]
 ·have e1:(d'.extract 0 m).toList=d'.toList:=by rw[show m=d'.size by omega];simp
  have e2:(d.extract 0 m).toList=d.toList:=by rw[show m=d.size by omega];simp
  rw[e1,e2] at hperm
  have:=hperm.map Subtype.val
  rwa[hdv] at this
 ·refine List.pairwise_map.2 (List.pairwise_iff_getElem.2 fun a b ha hb' hab=> ?_)
  rw[Array.length_toList] at ha hb'
  have h1:=hsort a b (Nat.zero_le _) hab (by omega)
  rw[getElem!_pos d' a ha,getElem!_pos d' b hb'] at h1
  simp only[ltOf,decide_eq_false_iff_not] at h1
  simpa using h1
end
end Go.Eng
namespace Go.Eng
open Go Go.RowKit
section
variable {B:Nat} {w0 w w':World} {R R':List Row}
theorem Hp.allocObj (h:Hp B w0 w R) (o:Obj):Hp B w0 (w.alloc o) R:=
 h.join (Rn:=[]) ⟨(Below.refl _ _).alloc (Nat.le_refl _) _,by simp,fun _ hr=>(by cases hr), .nil,Late.alloc _ _⟩
theorem Hp.putObj (h:Hp B w0 w R) {l:Nat} {o:Obj} (ho:w.heap[l]? =some o) (hn:TY o=true) (o':Obj) (hB:B≤l) (h0:w0.heap.size≤l):Hp B w0 (w.putObj l o') R:=by
 refine⟨h.below.trans ((Below.refl _ _).grown (grownBy_putObj' w l o') h.base fun k e=>by cases e;exact hB),by rw[World.putObj_size];exact h.base,fun r hr=> ?_,h.apart,⟨h.late.1,fun k q hk hc=> ?_⟩⟩
 ·refine Row.lies_of_block (h.own r hr) fun a ha=>World.putObj_heap_other fun e=> ?_
  obtain⟨cs,e',fr,hc⟩:=Row.lies_cells (h.own r hr) ha
  rw[e,ho] at hc
  cases hc
  cases hn
 ·rw [World.putObj_heap_other (fun e=>by have:=(Array.getElem?_eq_some_iff.1 hk).1;omega)]
  exact h.late.2 k q hk hc
theorem Hp.rebase (h:Hp B w0 w R):Hp B w w R:=⟨Below.refl _ _,h.base,h.own,h.apart,Late.refl _⟩
theorem Hp.comp (h:Hp B w0 w R) (h':Hp B w w' R'):Hp B w0 w' R':=⟨h.below.trans h'.below,h'.base,h'.own,h'.apart,h.late.trans h'.late⟩
theorem Rd.cb {W:World} {A:Option Addr} {n c sz:Nat} {xs:List Value} (h:Rd w A n c sz xs) (hb:Below w.heap.size w W) (R:List Row):RdC w.heap.size W R A n c sz xs:=
 fun _ hw=>h.below (hb.trans hw.below)
end
def mark (D:Nat):Deferred:= {target:= .collected D,args:= #[]}
section
variable {P:Program} {n:Nd} {B:Nat} {w0 w00:World} {F:Exit→Act→World→Prop} {L:Env} {R:List Row}
def V (P:Program) (n:Nd) (B:Nat) (w0:World) (c:Code) (F:Exit→Act→World→Prop) (L:Env) (R:List Row):Prop:=
 ∀a w,Sat n L a→Hp B w0 w R→c.wpIn (NF n.rd) 0 P F a w
def FQ (F:Exit→Act→World→Prop) (n:Nd) (B:Nat) (w0:World):eO:=
 ⟨fun L R=> ∀a w,Sat n L a→Hp B w0 w R→F .normal a w,fun L R=> ∀a w,Sat n L a→Hp B w0 w R→F .ret a w,fun i L R=> ∀a w,Sat n L a→Hp B w0 w R→F (.exit i) a w⟩
theorem v_w {c:Code} (h:W P n B w0 c (FQ F n B w0) L R):V P n B w0 c F L R:=fun a w hs hp=>by
 refine wpIn_mono (h a w hs hp) fun e a' w' hq=> ?_
 cases e with
 |normal=>obtain⟨L',R',hs',hp',hf⟩:=hq;exact hf a' w' hs' hp'
 |ret=>obtain⟨L',R',hs',hp',hf⟩:=hq;exact hf a' w' hs' hp'
 |exit i=>obtain⟨L',R',hs',hp',hf⟩:=hq;exact hf a' w' hs' hp'
 |goto l=>exact hq.elim
 |panic ch=>exact hq.elim
 |outgrown=>exact hq.elim
theorem fP {x y:Code} (h:W P n B w0 x {FQ F n B w0 with nrm:=fun L R=>V P n B w0 y F L R} L R):V P n B w0 (.seq x y) F L R:=fun a w hs hp=>by
 refine wpIn_seq (wpIn_mono (h a w hs hp) fun e a' w' hq=> ?_)
 cases e with
 |normal=>obtain⟨L',R',hs',hp',hf⟩:=hq;exact hf a' w' hs' hp'
 |ret=>obtain⟨L',R',hs',hp',hf⟩:=hq;exact hf a' w' hs' hp'
 |exit i=>obtain⟨L',R',hs',hp',hf⟩:=hq;exact hf a' w' hs' hp'
 |goto l=>exact hq.elim
 |panic ch=>exact hq.elim
 |outgrown=>exact hq.elim
theorem aCb {x y:Code} (h:V P n B w0 x (Exit.then (y.wpIn (NF n.rd) 0 P F) F) L R):V P n B w0 (.seq x y) F L R:=fun a w hs hp=>wpIn_seq (h a w hs hp)
def VN (n:Nd) (B:Nat) (w0:World) (F:Exit→Act→World→Prop) (L:Env) (R:List Row):Prop:= ∀a w,Sat n L a→Hp B w0 w R→F .normal a w
theorem aSb {y:Code} {rd:Option Nat} (h:V P n B w0 y F L R) (hrd:n.rd=rd:=by exact rfl):VN n B w0 (Exit.then (y.wpIn (NF rd) 0 P F) F) L R:=fun a w hs hp=>by subst hrd;exact h a w hs hp
theorem aCd {id:Nat} (h:VN n B w0 F L R):VN n B w0 (Exit.inBlock id F) L R:=h
theorem DY {id:Nat} {c:Code} (h:V P n B w0 c (Exit.inBlock id F) L R):V P n B w0 (.block id c) F L R:=fun a w hs hp=>wpIn_block (h a w hs hp)
def prm:List Nat→List Value→Env→Env
 |p::ps,v::vs,L=>prm ps vs ((p,v)::L)
 |_,_,L=>L
theorem Sat.prm: ∀(pl:List Nat) (vs:List Value) {m:Nat} {ds:List Deferred} {rd:Option Nat} {L:Env} {t:Array Value},pl.all (fun p=>Nat.blt p m)=true→Sat ⟨m,ds,rd⟩ L {tmps:=t,defers:=ds}→
  Sat ⟨m,ds,rd⟩ (prm pl vs L) {tmps:=(pl.zip vs).foldl (fun t (p,v)=>t.setIfInBounds p v) t,defers:=ds}
 |[],_,_,_,_,_,_,_,h=>h
 |_::_,[],_,_,_,_,_,_,h=>h
 |p::pl,v::vs,m,ds,rd,L,t,hp,h=>by
  simp only[List.all_cons,Bool.and_eq_true] at hp
  have h1:Sat ⟨m,ds,rd⟩ ((p,v)::L) {tmps:=t.setIfInBounds p v,defers:=ds}:=h.put (d:=p) hp.1 v
  exact Sat.prm pl vs hp.2 h1
def Iter (P:Program) (gf:Nat) (lb:Array Value) (Rdy:World→Prop) (N:Nat) (f:Nat→List Value):Prop:=
 ∀(l:Nat) (J:Nat→World→Prop) (W:World),(∀k W,J k W→Rdy W)→(∀k W (d:Nat),J k W→W.drawn≤d→J k {W with drawn:=d})→
  (∀k W,k<N→J k W→YieldAt Fence.wide 0 P l (f k).toArray W fun e W'=>e= .returned (.bool true)∧J (k+1) W')→
  J 0 W→CallsIn Fence.wide 0 P gf (#[.func (.yield l) #[] #[]]++lb) W fun e W'=>(∃v,e= .returned v)∧J N W'
structure Gd (B:Nat) (w00:World) (n:Nd) (w0:World):Prop where
 below:Below B w00 w0
 late:Late w00 w0
 nodup:n.ds.Nodup
 marks: ∀d∈n.ds,∃D,d=mark D∧B≤D∧w00.heap.size≤D∧w0.heap[D]? =some (.deferred (some []))
theorem Gd.refl {m:Nat}:Gd B w00 (m:Nd) w00:=⟨Below.refl _ _,Late.refl _, .nil,fun _ h=>(by cases h)⟩
theorem rounds {σ:Type} {m:Nat} {pl:List Nat} {assign body:Code} {gf:Nat} {lb:Array Value} {Rdy:World→Prop} {N:Nat} {f:Nat→List Value} (it:Iter P gf lb Rdy N f)
  (hpl:pl.all (fun p=>Nat.blt p m)=true) (hfl: ∀k,(f k).length=pl.length) (Rx:Nat→σ→List Row) (J:Nat→σ→Prop) (hrdy: ∀k s w,J k s→Hp B w0 w (Rx k s)→Rdy w)
  (round: ∀l k s W2,k<N→J k s→Below B w0 W2→W P ⟨m,[],some l⟩ B W2 assign ⟨fun L' R'=> ∀W3,Below B w0 W3→W P ⟨m,[],some l⟩ B W3 body ⟨fun _ R''=> ∃s',J (k+1) s'∧ ∀W4 w,Hp B W4 w R''→Hp B W4 w (Rx (k+1) s'),fun _ _=>False,fun _ _ _=>False⟩ L' R',fun _ _=>False,fun _ _ _=>False⟩ (prm pl (f k) L) (Rx k s))
  {l:Nat} {rec:LoopState→Loop} {fn:FuncId} {t:Array Value} {Df:Nat} (hrec:rec=fun st=> {state:=st,pending:=none,fn,tmps:=t,params:=pl.toArray,assign,body,defers:=Df}) (ht:Sat ⟨m,[],some l⟩ L {tmps:=t,defers:=[]}) (hlB:B≤l) (hl0:w0.heap.size≤l) (X:World→Prop)
  (hX: ∀W W' R R',X W→Hp B w0 W R→Hp B W W' R'→X W') (hXp: ∀W o,X W→X (W.putObj l o)) {W1:World} (hL1:W1.heap[l]? =some (.loop (rec .ready))) (hX1:X W1) {s0:σ} (hJ0:J 0 s0) (hp1:Hp B w0 W1 (Rx 0 s0)):
  CallsIn Fence.wide 0 P gf (#[.func (.yield l) #[] #[]]++lb) W1 fun e W'=>(∃v,e= .returned v)∧ ∃s,J N s∧Hp B w0 W' (Rx N s)∧W'.heap[l]? =some (.loop (rec .ready))∧X W':=by
 refine it l (fun k W=> ∃s,J k s∧Hp B w0 W (Rx k s)∧W.heap[l]? =some (.loop (rec .ready))∧X W) W1 (fun k W ⟨s,hJ,hp,_⟩=>hrdy k s W hJ hp) (fun k W d ⟨s,hJ,hp,hl,hx⟩ hd=>⟨s,hJ,hp.drawn d hd,hl,hX _ _ _ _ hx hp (hp.rebase.drawn d hd)⟩) ?_ ⟨s0,hJ0,hp1,hL1,hX1⟩
 rintro k W hk ⟨s,hJ,hp,hl,hx⟩
 have hy:=run_yield (P:=P) (args:=(f k).toArray) hl (by rw[hrec];simp[hfl k])
 have hs1:Sat ⟨m,[],some l⟩ (prm pl (f k) L) {tmps:=(rec .ready).params.zip (f k).toArray|>.foldl (fun t (p,v)=>t.setIfInBounds p v) (rec .ready).tmps,defers:=[]}:=by
  rw[hrec]
  simpa using Sat.prm pl (f k) hpl ht
 refine⟨fn,_,assign,body,by rw[hy,hrec],roundIn_of_wpIn trivial ?_⟩
 refine wpIn_mono ((round l k s W hk hJ hp.below) _ _ (by rw[hrec] at hs1;exact hs1) hp.rebase) ?_
 rintro e a1 Wa hq
 cases e with
 | normal=>
  obtain⟨L',R',hs',hp',hb⟩:=hq
  have hla:=hp'.late.2 _ _ hl rfl
  have hpa:=hp.comp hp'
  have hlt:=(Array.getElem?_eq_some_iff.1 hla).1
  have hbr:=run_beginRound (P:=P) hla (by rw[hrec])
  refine⟨_,hbr,?_⟩
  have hp2:Hp B w0 (Wa.putObj l (.loop {rec .ready with state:= .busy})) R':=hpa.putObj hla rfl _ hlB hl0
  have hl2:(Wa.putObj l (.loop {rec .ready with state:= .busy})).heap[l]? =some (.loop {rec .ready with state:= .busy}):=World.putObj_heap_same hlt
  have hx2:=hXp _ (.loop {rec .ready with state:= .busy}) (hX _ _ _ _ hx hp hp')
  refine wpIn_mono (hb _ hp2.below a1 _ hs' hp2.rebase) ?_
  rintro e a3 W3 hq
  cases e with
  | normal=>
   obtain⟨L3,R3,_,hp3,s',hJ',hR'⟩:=hq
   have hl3:=hp3.late.2 _ _ hl2 rfl
   have her:=run_endRound (P:=P) none hl3
   refine⟨_,_,her,rfl,s',hJ',?_,?_,?_⟩
   ·exact(hp2.comp (hR' _ _ hp3)).putObj hl3 rfl _ hlB hl0
   ·rw [World.putObj_heap_same (Array.getElem?_eq_some_iff.1 hl3).1,hrec]
    rfl
   ·exact hXp _ _ (hX _ _ _ _ hx2 hp2 hp3)
  |ret=>obtain⟨_,_,_,_,h⟩:=hq;exact h.elim
  |exit id=>obtain⟨_,_,_,_,h⟩:=hq;exact h.elim
  |goto t=>exact hq.elim
  |panic ch=>exact hq.elim
  |outgrown=>exact hq.elim
 |ret=>obtain⟨_,_,_,_,h⟩:=hq;exact h.elim
 |exit id=>obtain⟨_,_,_,_,h⟩:=hq;exact h.elim
 |goto t=>exact hq.elim
 |panic ch=>exact hq.elim
 |outgrown=>exact hq.elim
theorem aCc {σ:Type} {m:Nat} {ds:List Deferred} {g:Operand} {pl:List Nat} {assign body:Code} {gf:Nat} {lb:Array Value} {Rdy:World→Prop} {N:Nat} {f:Nat→List Value} (hg:ev L g=some (.func (.func gf) #[] lb))
  (hen: ∀args w,(callFunc gf args).run P w= .ok (.enter gf args) w) (it:Iter P gf lb Rdy N f)
  (hpl:pl.all (fun p=>Nat.blt p m)=true) (hfl: ∀k,(f k).length=pl.length) (hG:Gd B w00 ⟨m,ds,none⟩ w0) (Rx:Nat→σ→List Row) (J:Nat→σ→Prop) (h0: ∃s,J 0 s∧ ∀w,Hp B w0 w R→Hp B w0 w (Rx 0 s)) (hrdy: ∀k s w,J k s→Hp B w0 w (Rx k s)→Rdy w)
  (round: ∀l k s W2,k<N→J k s→Below B w0 W2→W P ⟨m,[],some l⟩ B W2 assign ⟨fun L' R'=> ∀W3,Below B w0 W3→W P ⟨m,[],some l⟩ B W3 body ⟨fun _ R''=> ∃s',J (k+1) s'∧ ∀W4 w,Hp B W4 w R''→Hp B W4 w (Rx (k+1) s'),fun _ _=>False,fun _ _ _=>False⟩ L' R',fun _ _=>False,fun _ _ _=>False⟩ (prm pl (f k) L) (Rx k s))
  (after: ∀W5 D s,J N s→Below B w0 W5→Gd B w00 ⟨m,mark D::ds,none⟩ W5→VN ⟨m,mark D::ds,none⟩ B W5 F L (Rx N s)):
  V P ⟨m,ds,none⟩ B w0 (.rangeFunc g pl.toArray assign body) F L R:=by
 intro a w hs hp
 refine wpIn_rangeFunc ?_
 intro fn _
 obtain⟨rec,hrec⟩: ∃rec:LoopState→Loop,rec=fun st=> {state:=st,pending:=none,fn,tmps:=a.tmps,params:=pl.toArray,assign,body,defers:=w.heap.size}:=⟨_,rfl⟩
 obtain⟨W1,hW1⟩: ∃W1,(w.alloc (.deferred (some []))).alloc (.loop (rec .ready))=W1:=⟨_,rfl⟩
 have hL1:W1.heap[w.heap.size+1]? =some (.loop (rec .ready)):=by
  rw[←hW1];have:=World.alloc_heap_new (w.alloc (.deferred (some []))) (.loop (rec .ready));rwa[World.size_alloc] at this
 have hK1:W1.heap[w.heap.size]? =some (.deferred (some [])):=by
  rw[←hW1];exact(Below.heap_alloc _ _ _ (by simp)).trans (World.alloc_heap_new w _)
 obtain⟨s0,hJ0,hR0⟩:=h0
 have hp1:Hp B w0 W1 (Rx 0 s0):=by rw[←hW1];exact((hR0 w hp).allocObj _).allocObj _
 have hle0:w0.heap.size≤w.heap.size:=hp.below.size
 have hleB:=hp.base
 refine⟨w.heap.size+1,[mark w.heap.size],W1,{target:= .fn (.func gf) lb,args:= #[.func (.yield (w.heap.size+1)) #[] #[]]},W1,gf,#[.func (.yield (w.heap.size+1)) #[] #[]]++lb,W1,?_,?_,fun _ _=>trivial,?_,fun h=>(by cases h),?_⟩
 ·rw[←hW1,hrec];exact run_enterLoop_outer _ _ _ _ _
 ·simp only[resolve,hs.ev hg]
  simp[go_sem]
 ·simp[invoke,go_sem,hen]
 ·refine CallsIn.mono (rounds (w0:=w0) (m:=m) (L:=L) it hpl hfl Rx J hrdy round (l:=w.heap.size+1) (rec:=rec) hrec ⟨hs.size,rfl,hs.val⟩ (by omega) (by omega) (fun W=>W.heap[w.heap.size]? =some (.deferred (some []))∧Late w W) ?_ ?_ hL1 ⟨hK1,?_⟩ hJ0 hp1) ?_
  ·rintro W W' R R' ⟨hk,hl⟩ _ h2
   exact⟨h2.late.2 _ _ hk rfl,hl.trans h2.late⟩
  ·rintro W o ⟨hk,hl⟩
   refine⟨(World.putObj_heap_other (by omega)).trans hk,hl.1,fun k q hk' hc=> ?_⟩
   rw[World.putObj_heap_other (fun e=>by have:=(Array.getElem?_eq_some_iff.1 hk').1;omega)]
   exact hl.2 k q hk' hc
  ·rw [←hW1]
   exact(Late.alloc _ _).trans (Late.alloc _ _)
  ·rintro e W2 ⟨⟨v,rfl⟩,s,hJ,hp2,hl2,hk2,hlate⟩
   have hel:=run_endLoop (P:=P) hl2 (by rw[hrec];simp)
   have hpn:(rec .ready).pending=none:=by rw[hrec]
   refine⟨none,W2.putObj (w.heap.size+1) (.loop {rec .ready with state:= .exhausted}),hel.trans (congrArg (fun p=>Result.ok p _) hpn),?_⟩
   have hp3:Hp B w0 (W2.putObj (w.heap.size+1) (.loop {rec .ready with state:= .exhausted})) (Rx N s):=hp2.putObj hl2 rfl _ (by omega) (by omega)
   have hk3:(W2.putObj (w.heap.size+1) (.loop {rec .ready with state:= .exhausted})).heap[w.heap.size]? =some (.deferred (some [])):=(World.putObj_heap_other (by omega)).trans hk2
   have hlate3:Late w (W2.putObj (w.heap.size+1) (.loop {rec .ready with state:= .exhausted})):=⟨hlate.1,fun k q hk' hc=>by
    rw[World.putObj_heap_other (fun e=>by have:=(Array.getElem?_eq_some_iff.1 hk').1;omega)]
    exact hlate.2 k q hk' hc⟩
   have hds:=hs.defers
   refine after _ w.heap.size s hJ hp3.below ⟨hG.below.trans hp3.below,hG.late.trans hp3.late,List.nodup_cons.2 ⟨fun hmem=> ?_,hG.nodup⟩,fun d hd=> ?_⟩ _ _ ⟨hs.size,by simp only[List.singleton_append,hds],hs.val⟩ hp3.rebase
   ·obtain ⟨D,he,_,_,hD⟩:=hG.marks _ hmem
    have h1:=(Array.getElem?_eq_some_iff.1 hD).1
    simp only[mark,Deferred.mk.injEq,Target.collected.injEq,and_true] at he
    omega
   ·rcases List.mem_cons.1 hd with rfl|hd
    ·exact⟨_,rfl,by omega,by have:=hG.below.size;omega,hk3⟩
    ·obtain ⟨D,he,h1,h2,hD⟩:=hG.marks _ hd
     exact⟨D,he,h1,h2,hp3.late.2 _ _ hD rfl⟩
theorem aKk {σ0 σ1:Type} {m:Nat} {ds:List Deferred} {g:Operand} {pl:List Nat} {assign body:Code} {gf:Nat} {lb:Array Value} {Rdy:World→Prop} {N:Nat} {f:Nat→List Value} (hg:ev L g=some (.func (.func gf) #[] lb))
  (hen: ∀args w,(callFunc gf args).run P w= .ok (.enter gf args) w) (it:Iter P gf lb Rdy N f)
  (hpl:pl.all (fun p=>Nat.blt p m)=true) (hfl: ∀k,(f k).length=pl.length) (hG:Gd B w00 ⟨m,ds,none⟩ w0) (Rx:Nat→σ0→σ1→List Row) (J:Nat→σ0→σ1→Prop)
  (h0: ∃x0 x1,J 0 x0 x1∧ ∀w,Hp B w0 w R→Hp B w0 w (Rx 0 x0 x1)) (hrdy: ∀k x0 x1 w,J k x0 x1→Hp B w0 w (Rx k x0 x1)→Rdy w)
  (round: ∀l k x0 x1 W2,k<N→J k x0 x1→Below B w0 W2→W P ⟨m,[],some l⟩ B W2 assign ⟨fun L' R'=> ∀W3,Below B w0 W3→W P ⟨m,[],some l⟩ B W3 body ⟨fun _ R''=> ∃y0 y1,J (k+1) y0 y1∧ ∀W4 w,Hp B W4 w R''→Hp B W4 w (Rx (k+1) y0 y1),fun _ _=>False,fun _ _ _=>False⟩ L' R',fun _ _=>False,fun _ _ _=>False⟩ (prm pl (f k) L) (Rx k x0 x1))
  (after: ∀W5 D x0 x1,J N x0 x1→Below B w0 W5→Gd B w00 ⟨m,mark D::ds,none⟩ W5→VN ⟨m,mark D::ds,none⟩ B W5 F L (Rx N x0 x1)):
  V P ⟨m,ds,none⟩ B w0 (.rangeFunc g pl.toArray assign body) F L R:=by
 obtain⟨x0,x1,h1,h2⟩:=h0
 refine aCc (σ:=σ0 × σ1) hg hen it hpl hfl hG (fun k p=>Rx k p.1 p.2) (fun k p=>J k p.1 p.2) ⟨(x0,x1),h1,h2⟩ (fun k p=>hrdy k p.1 p.2) (fun l k p W2 hk hp hb=>gN (round l k p.1 p.2 W2 hk hp hb) ?_ (fun _ _ h=>h) (fun _ _ _ h=>h)) (fun W5 D p=>after W5 D p.1 p.2)
 intro L' R' h W3 hb3
 refine gN (h W3 hb3) ?_ (fun _ _ h=>h) (fun _ _ _ h=>h)
 rintro _ R'' ⟨y0,y1,g1,g2⟩
 exact⟨(y0,y1),g1,g2⟩
theorem RA {σ0 σ1 σ2 σ3:Type} {m:Nat} {ds:List Deferred} {g:Operand} {pl:List Nat} {assign body:Code} {gf:Nat} {lb:Array Value} {Rdy:World→Prop} {N:Nat} {f:Nat→List Value} (hg:ev L g=some (.func (.func gf) #[] lb))
  (hen: ∀args w,(callFunc gf args).run P w= .ok (.enter gf args) w) (it:Iter P gf lb Rdy N f)
  (hpl:pl.all (fun p=>Nat.blt p m)=true) (hfl: ∀k,(f k).length=pl.length) (hG:Gd B w00 ⟨m,ds,none⟩ w0) (Rx:Nat→σ0→σ1→σ2→σ3→List Row) (J:Nat→σ0→σ1→σ2→σ3→Prop)
  (h0: ∃x0 x1 x2 x3,J 0 x0 x1 x2 x3∧ ∀w,Hp B w0 w R→Hp B w0 w (Rx 0 x0 x1 x2 x3)) (hrdy: ∀k x0 x1 x2 x3 w,J k x0 x1 x2 x3→Hp B w0 w (Rx k x0 x1 x2 x3)→Rdy w)
  (round: ∀l k x0 x1 x2 x3 W2,k<N→J k x0 x1 x2 x3→Below B w0 W2→W P ⟨m,[],some l⟩ B W2 assign ⟨fun L' R'=> ∀W3,Below B w0 W3→W P ⟨m,[],some l⟩ B W3 body ⟨fun _ R''=> ∃y0 y1 y2 y3,J (k+1) y0 y1 y2 y3∧ ∀W4 w,Hp B W4 w R''→Hp B W4 w (Rx (k+1) y0 y1 y2 y3),fun _ _=>False,fun _ _ _=>False⟩ L' R',fun _ _=>False,fun _ _ _=>False⟩ (prm pl (f k) L) (Rx k x0 x1 x2 x3))
  (after: ∀W5 D x0 x1 x2 x3,J N x0 x1 x2 x3→Below B w0 W5→Gd B w00 ⟨m,mark D::ds,none⟩ W5→VN ⟨m,mark D::ds,none⟩ B W5 F L (Rx N x0 x1 x2 x3)):
  V P ⟨m,ds,none⟩ B w0 (.rangeFunc g pl.toArray assign body) F L R:=by
 obtain⟨x0,x1,x2,x3,h1,h2⟩:=h0
 refine aCc (σ:=σ0 × σ1 × σ2 × σ3) hg hen it hpl hfl hG (fun k p=>Rx k p.1 p.2.1 p.2.2.1 p.2.2.2) (fun k p=>J k p.1 p.2.1 p.2.2.1 p.2.2.2) ⟨(x0,x1,x2,x3),h1,h2⟩ (fun k p=>hrdy k p.1 p.2.1 p.2.2.1 p.2.2.2) (fun l k p W2 hk hp hb=>gN (round l k p.1 p.2.1 p.2.2.1 p.2.2.2 W2 hk hp hb) ?_ (fun _ _ h=>h) (fun _ _ _ h=>h)) (fun W5 D p=>after W5 D p.1 p.2.1 p.2.2.1 p.2.2.2)
 intro L' R' h W3 hb3
 refine gN (h W3 hb3) ?_ (fun _ _ h=>h) (fun _ _ _ h=>h)
 rintro _ R'' ⟨y0,y1,y2,y3,g1,g2⟩
 exact⟨(y0,y1,y2,y3),g1,g2⟩
def Fin (P:Program) (fn:Func) (B:Nat) (w00:World) (Post:Value→List Row→Prop):Exit→Act→World→Prop:=
 bodyPostM Fence.wide 0 P fn fun e w'=> ∃v R',e= .returned v∧Hp B w00 w' R'∧Post v R'
theorem yV {fn:Func} {Post:Value→List Row→Prop} {tmps:Array Value} {v:Value} {w0:World} (hB:Below B w00 w0) (hL:Late w00 w0): ∀(ds:List Deferred) (w:World),ds.Nodup→(∀d∈ds,∃D,d=mark D∧B≤D∧w00.heap.size≤D∧w.heap[D]? =some (.deferred (some [])))→Hp B w00 w R→(∀w,(results fn tmps).run P w= .ok v w)→Post v R→
  LeavesInM Fence.wide 0 P fn tmps (fun e w'=> ∃v R',e= .returned v∧Hp B w00 w' R'∧Post v R') ds .returning w
 |[],w,_,_,hp,hr,hv=>⟨v,hr w,v,R,rfl,hp,hv⟩
 |d::ds,w,hn,hm,hp,hr,hv=>by
  obtain⟨D,rfl,h1,h2,hD⟩:=hm _ (.head _)
  refine⟨by simp, .inl ⟨D,_,rfl,run_takeDeferred hD,yV hB hL ds _ (List.nodup_cons.1 hn).2 (fun d hd=> ?_) (hp.putObj hD rfl _ h1 h2) hr hv⟩⟩
  obtain⟨D',he,h1',h2',hD'⟩:=hm d (.tail _ hd)
  refine⟨D',he,h1',h2',(World.putObj_heap_other fun e=> ?_).trans hD'⟩
  subst e
  subst he
  exact(List.nodup_cons.1 hn).1 hd
theorem aOy {fn:Func} {Post:Value→List Row→Prop} {v:Value} (hG:Gd B w00 n w0) (hres: ∀a w,Sat n L a→(results fn a.tmps).run P w= .ok v w) (hv:Post v R): ∀a w,Sat n L a→Hp B w0 w R→Fin P fn B w00 Post .ret a w∧Fin P fn B w00 Post .normal a w:=by
 intro a w hs hp
 have hp':Hp B w00 w R:=⟨hG.below.trans hp.below,hp.base,hp.own,hp.apart,hG.late.trans hp.late⟩
 have h:=yV (P:=P) (fn:=fn) (Post:=Post) (tmps:=a.tmps) (v:=v) hG.below hG.late n.ds w hG.nodup (fun d hd=>by
  obtain⟨D,he,h1,h2,hD⟩:=hG.marks d hd
  exact⟨D,he,h1,h2,hp.late.2 _ _ hD rfl⟩) hp' (fun w=>hres a w hs) hv
 rw[←hs.defers] at h
 exact⟨h,h⟩
theorem bFm {fn:Func} {Post:Value→List Row→Prop} {r:Nat} (hr:fn.results= #[.tmp r]) (hG:Gd B w00 n w0) (h: ∃v,lk L r=some v∧Post v R): ∀a w,Sat n L a→Hp B w0 w R→Fin P fn B w00 Post .ret a w:=by
 obtain⟨v,hv,hpost⟩:=h
 exact fun a w hs hp=>(aOy hG (fun a w hs=>by rw[results_tmp hr,hs.getD hv]) hpost a w hs hp).1
theorem aOz {fn:Func} {Post:Value→List Row→Prop} {r s:Nat} (hr:fn.results= #[.tmp r, .tmp s]) (hG:Gd B w00 n w0) (h: ∃v u,lk L r=some v∧lk L s=some u∧Post (.tuple #[v,u]) R): ∀a w,Sat n L a→Hp B w0 w R→Fin P fn B w00 Post .ret a w:=by
 obtain⟨v,u,hv,hu,hpost⟩:=h
 exact fun a w hs hp=>(aOy hG (fun a w hs=>by rw[results_tmp2 hr,hs.getD hv,hs.getD hu]) hpost a w hs hp).1
theorem fnV {f:FuncId} {fn:Func} {c:Code} {args:List Value} {Post:Value→List Row→Prop} (hf:P.funcs[f]? =some fn) (hb:fn.body=some c) (hl:Nat.ble args.length fn.ntmps=true)
  (h:V P (fn.ntmps:Nd) B w00 c (Fin P fn B w00 Post) (ini 0 args) R):Ct P f args.toArray B w00 R Post:=by
 intro w hw
 have hl':args.length≤fn.ntmps:=Nat.le_of_ble_eq_true hl
 refine callsIn_wide.1 (callsIn_of_wp_marks (F:=Fence.wide) (n:=0) hf hb trivial (h _ w ⟨by simp;omega,rfl,fun t v ht=> ?_⟩ hw))
 obtain⟨_,h2⟩:=ZE args 0 t v ht
 simp only[Nat.sub_zero] at h2
 have hlt:=(List.getElem?_eq_some_iff.1 h2).1
 rw[←h2]
 simp[Array.getElem?_append,hlt]
end
section
variable {P:Program} {n:Nd} {B:Nat} {w0 w00:World} {F:Exit→Act→World→Prop} {L:Env} {R:List Row}
theorem aCp {σ:Type} {m:Nat} {pl:List Nat} {assign body:Code} {gf:Nat} {lb:Array Value} {Rdy:World→Prop} {N:Nat} {f:Nat→List Value} (it:Iter P gf lb Rdy N f)
  (hpl:pl.all (fun p=>Nat.blt p m)=true) (hfl: ∀k,(f k).length=pl.length) (Rx:Nat→σ→List Row) (J:Nat→σ→Prop) (hrdy: ∀k s w,J k s→Hp B w0 w (Rx k s)→Rdy w)
  (round: ∀l k s W2,k<N→J k s→Below B w0 W2→W P ⟨m,[],some l⟩ B W2 assign ⟨fun L' R'=> ∀W3,Below B w0 W3→(∃rc,W3.heap[l]? =some (.loop rc))→W P ⟨m,[],some l⟩ B W3 body ⟨fun _ R''=> ∃s',J (k+1) s'∧ ∀W4 w,Hp B W4 w R''→Hp B W4 w (Rx (k+1) s'),fun _ _=>False,fun _ _ _=>False⟩ L' R',fun _ _=>False,fun _ _ _=>False⟩ (prm pl (f k) L) (Rx k s))
  {l:Nat} {rec:LoopState→Loop} {fn:FuncId} {t:Array Value} {Df:Nat} (hrec:rec=fun st=> {state:=st,pending:=none,fn,tmps:=t,params:=pl.toArray,assign,body,defers:=Df}) (ht:Sat ⟨m,[],some l⟩ L {tmps:=t,defers:=[]}) (hlB:B≤l) (hl0:w0.heap.size≤l) (X:World→Prop)
  (hX: ∀W W' R R',X W→Hp B w0 W R→Hp B W W' R'→X W') (hXp: ∀W o,X W→X (W.putObj l o)) {W1:World} (hL1:W1.heap[l]? =some (.loop (rec .ready))) (hX1:X W1) {s0:σ} (hJ0:J 0 s0) (hp1:Hp B w0 W1 (Rx 0 s0)):
  CallsIn Fence.wide 0 P gf (#[.func (.yield l) #[] #[]]++lb) W1 fun e W'=>(∃v,e= .returned v)∧ ∃s,J N s∧Hp B w0 W' (Rx N s)∧W'.heap[l]? =some (.loop (rec .ready))∧X W':=by
 refine it l (fun k W=> ∃s,J k s∧Hp B w0 W (Rx k s)∧W.heap[l]? =some (.loop (rec .ready))∧X W) W1 (fun k W ⟨s,hJ,hp,_⟩=>hrdy k s W hJ hp) (fun k W d ⟨s,hJ,hp,hl,hx⟩ hd=>⟨s,hJ,hp.drawn d hd,hl,hX _ _ _ _ hx hp (hp.rebase.drawn d hd)⟩) ?_ ⟨s0,hJ0,hp1,hL1,hX1⟩
 rintro k W hk ⟨s,hJ,hp,hl,hx⟩
 have hy:=run_yield (P:=P) (args:=(f k).toArray) hl (by rw[hrec];simp[hfl k])
 have hs1:Sat ⟨m,[],some l⟩ (prm pl (f k) L) {tmps:=(rec .ready).params.zip (f k).toArray|>.foldl (fun t (p,v)=>t.setIfInBounds p v) (rec .ready).tmps,defers:=[]}:=by
  rw[hrec]
  simpa using Sat.prm pl (f k) hpl ht
 refine⟨fn,_,assign,body,by rw[hy,hrec],roundIn_of_wpIn trivial ?_⟩
 refine wpIn_mono ((round l k s W hk hJ hp.below) _ _ (by rw[hrec] at hs1;exact hs1) hp.rebase) ?_
 rintro e a1 Wa hq
 cases e with
 | normal=>
  obtain⟨L',R',hs',hp',hb⟩:=hq
  have hla:=hp'.late.2 _ _ hl rfl
  have hpa:=hp.comp hp'
  have hlt:=(Array.getElem?_eq_some_iff.1 hla).1
  have hbr:=run_beginRound (P:=P) hla (by rw[hrec])
  refine⟨_,hbr,?_⟩
  have hp2:Hp B w0 (Wa.putObj l (.loop {rec .ready with state:= .busy})) R':=hpa.putObj hla rfl _ hlB hl0
  have hl2:(Wa.putObj l (.loop {rec .ready with state:= .busy})).heap[l]? =some (.loop {rec .ready with state:= .busy}):=World.putObj_heap_same hlt
  have hx2:=hXp _ (.loop {rec .ready with state:= .busy}) (hX _ _ _ _ hx hp hp')
  refine wpIn_mono (hb _ hp2.below ⟨_,hl2⟩ a1 _ hs' hp2.rebase) ?_
  rintro e a3 W3 hq
  cases e with
  | normal=>
   obtain⟨L3,R3,_,hp3,s',hJ',hR'⟩:=hq
   have hl3:=hp3.late.2 _ _ hl2 rfl
   have her:=run_endRound (P:=P) none hl3
   refine⟨_,_,her,rfl,s',hJ',?_,?_,?_⟩
   ·exact(hp2.comp (hR' _ _ hp3)).putObj hl3 rfl _ hlB hl0
   ·rw [World.putObj_heap_same (Array.getElem?_eq_some_iff.1 hl3).1,hrec]
    rfl
   ·exact hXp _ _ (hX _ _ _ _ hx2 hp2 hp3)
  |ret=>obtain⟨_,_,_,_,h⟩:=hq;exact h.elim
  |exit id=>obtain⟨_,_,_,_,h⟩:=hq;exact h.elim
  |goto t=>exact hq.elim
  |panic ch=>exact hq.elim
  |outgrown=>exact hq.elim
 |ret=>obtain⟨_,_,_,_,h⟩:=hq;exact h.elim
 |exit id=>obtain⟨_,_,_,_,h⟩:=hq;exact h.elim
 |goto t=>exact hq.elim
 |panic ch=>exact hq.elim
 |outgrown=>exact hq.elim
theorem aKj {σ:Type} {m:Nat} {ds:List Deferred} {g:Operand} {pl:List Nat} {assign body:Code} {gf:Nat} {lb:Array Value} {Rdy:World→Prop} {N:Nat} {f:Nat→List Value} (hg:ev L g=some (.func (.func gf) #[] lb))
  (hen: ∀args w,(callFunc gf args).run P w= .ok (.enter gf args) w) (it:Iter P gf lb Rdy N f)
  (hpl:pl.all (fun p=>Nat.blt p m)=true) (hfl: ∀k,(f k).length=pl.length) (hG:Gd B w00 ⟨m,ds,none⟩ w0) (Rx:Nat→σ→List Row) (J:Nat→σ→Prop) (h0: ∃s,J 0 s∧ ∀w,Hp B w0 w R→Hp B w0 w (Rx 0 s)) (hrdy: ∀k s w,J k s→Hp B w0 w (Rx k s)→Rdy w)
  (round: ∀l k s W2,k<N→J k s→Below B w0 W2→W P ⟨m,[],some l⟩ B W2 assign ⟨fun L' R'=> ∀W3,Below B w0 W3→(∃rc,W3.heap[l]? =some (.loop rc))→W P ⟨m,[],some l⟩ B W3 body ⟨fun _ R''=> ∃s',J (k+1) s'∧ ∀W4 w,Hp B W4 w R''→Hp B W4 w (Rx (k+1) s'),fun _ _=>False,fun _ _ _=>False⟩ L' R',fun _ _=>False,fun _ _ _=>False⟩ (prm pl (f k) L) (Rx k s))
  (after: ∀W5 D s,J N s→Below B w0 W5→Gd B w00 ⟨m,mark D::ds,none⟩ W5→VN ⟨m,mark D::ds,none⟩ B W5 F L (Rx N s)):
  V P ⟨m,ds,none⟩ B w0 (.rangeFunc g pl.toArray assign body) F L R:=by
 intro a w hs hp
 refine wpIn_rangeFunc ?_
 intro fn _
 obtain⟨rec,hrec⟩: ∃rec:LoopState→Loop,rec=fun st=> {state:=st,pending:=none,fn,tmps:=a.tmps,params:=pl.toArray,assign,body,defers:=w.heap.size}:=⟨_,rfl⟩
 obtain⟨W1,hW1⟩: ∃W1,(w.alloc (.deferred (some []))).alloc (.loop (rec .ready))=W1:=⟨_,rfl⟩
 have hL1:W1.heap[w.heap.size+1]? =some (.loop (rec .ready)):=by
  rw[←hW1];have:=World.alloc_heap_new (w.alloc (.deferred (some []))) (.loop (rec .ready));rwa[World.size_alloc] at this
 have hK1:W1.heap[w.heap.size]? =some (.deferred (some [])):=by
  rw[←hW1];exact(Below.heap_alloc _ _ _ (by simp)).trans (World.alloc_heap_new w _)
 obtain⟨s0,hJ0,hR0⟩:=h0
 have hp1:Hp B w0 W1 (Rx 0 s0):=by rw[←hW1];exact((hR0 w hp).allocObj _).allocObj _
 have hle0:w0.heap.size≤w.heap.size:=hp.below.size
 have hleB:=hp.base
 refine⟨w.heap.size+1,[mark w.heap.size],W1,{target:= .fn (.func gf) lb,args:= #[.func (.yield (w.heap.size+1)) #[] #[]]},W1,gf,#[.func (.yield (w.heap.size+1)) #[] #[]]++lb,W1,?_,?_,fun _ _=>trivial,?_,fun h=>(by cases h),?_⟩
 ·rw[←hW1,hrec];exact run_enterLoop_outer _ _ _ _ _
 ·simp only[resolve,hs.ev hg]
  simp[go_sem]
 ·simp[invoke,go_sem,hen]
 ·refine CallsIn.mono (aCp (w0:=w0) (m:=m) (L:=L) it hpl hfl Rx J hrdy round (l:=w.heap.size+1) (rec:=rec) hrec ⟨hs.size,rfl,hs.val⟩ (by omega) (by omega) (fun W=>W.heap[w.heap.size]? =some (.deferred (some []))∧Late w W) ?_ ?_ hL1 ⟨hK1,?_⟩ hJ0 hp1) ?_
  ·rintro W W' R R' ⟨hk,hl⟩ _ h2
   exact⟨h2.late.2 _ _ hk rfl,hl.trans h2.late⟩
  ·rintro W o ⟨hk,hl⟩
   refine⟨(World.putObj_heap_other (by omega)).trans hk,hl.1,fun k q hk' hc=> ?_⟩
   rw[World.putObj_heap_other (fun e=>by have:=(Array.getElem?_eq_some_iff.1 hk').1;omega)]
   exact hl.2 k q hk' hc
  ·rw [←hW1]
   exact(Late.alloc _ _).trans (Late.alloc _ _)
  ·rintro e W2 ⟨⟨v,rfl⟩,s,hJ,hp2,hl2,hk2,hlate⟩
   have hel:=run_endLoop (P:=P) hl2 (by rw[hrec];simp)
   have hpn:(rec .ready).pending=none:=by rw[hrec]
   refine⟨none,W2.putObj (w.heap.size+1) (.loop {rec .ready with state:= .exhausted}),hel.trans (congrArg (fun p=>Result.ok p _) hpn),?_⟩
   have hp3:Hp B w0 (W2.putObj (w.heap.size+1) (.loop {rec .ready with state:= .exhausted})) (Rx N s):=hp2.putObj hl2 rfl _ (by omega) (by omega)
   have hk3:(W2.putObj (w.heap.size+1) (.loop {rec .ready with state:= .exhausted})).heap[w.heap.size]? =some (.deferred (some [])):=(World.putObj_heap_other (by omega)).trans hk2
   have hlate3:Late w (W2.putObj (w.heap.size+1) (.loop {rec .ready with state:= .exhausted})):=⟨hlate.1,fun k q hk' hc=>by
    rw[World.putObj_heap_other (fun e=>by have:=(Array.getElem?_eq_some_iff.1 hk').1;omega)]
    exact hlate.2 k q hk' hc⟩
   have hds:=hs.defers
   refine after _ w.heap.size s hJ hp3.below ⟨hG.below.trans hp3.below,hG.late.trans hp3.late,List.nodup_cons.2 ⟨fun hmem=> ?_,hG.nodup⟩,fun d hd=> ?_⟩ _ _ ⟨hs.size,by simp only[List.singleton_append,hds],hs.val⟩ hp3.rebase
   ·obtain ⟨D,he,_,_,hD⟩:=hG.marks _ hmem
    have h1:=(Array.getElem?_eq_some_iff.1 hD).1
    simp only[mark,Deferred.mk.injEq,Target.collected.injEq,and_true] at he
    omega
   ·rcases List.mem_cons.1 hd with rfl|hd
    ·exact⟨_,rfl,by omega,by have:=hG.below.size;omega,hk3⟩
    ·obtain ⟨D,he,h1,h2,hD⟩:=hG.marks _ hd
     exact⟨D,he,h1,h2,hp3.late.2 _ _ hD rfl⟩
theorem aFg {σ0 σ1 σ2 σ3:Type} {m:Nat} {ds:List Deferred} {g:Operand} {pl:List Nat} {assign body:Code} {gf:Nat} {lb:Array Value} {Rdy:World→Prop} {N:Nat} {f:Nat→List Value} (hg:ev L g=some (.func (.func gf) #[] lb))
  (hen: ∀args w,(callFunc gf args).run P w= .ok (.enter gf args) w) (it:Iter P gf lb Rdy N f)
  (hpl:pl.all (fun p=>Nat.blt p m)=true) (hfl: ∀k,(f k).length=pl.length) (hG:Gd B w00 ⟨m,ds,none⟩ w0) (Rx:Nat→σ0→σ1→σ2→σ3→List Row) (J:Nat→σ0→σ1→σ2→σ3→Prop)
  (h0: ∃x0 x1 x2 x3,J 0 x0 x1 x2 x3∧ ∀w,Hp B w0 w R→Hp B w0 w (Rx 0 x0 x1 x2 x3)) (hrdy: ∀k x0 x1 x2 x3 w,J k x0 x1 x2 x3→Hp B w0 w (Rx k x0 x1 x2 x3)→Rdy w)
  (round: ∀l k x0 x1 x2 x3 W2,k<N→J k x0 x1 x2 x3→Below B w0 W2→W P ⟨m,[],some l⟩ B W2 assign ⟨fun L' R'=> ∀W3,Below B w0 W3→(∃rc,W3.heap[l]? =some (.loop rc))→W P ⟨m,[],some l⟩ B W3 body ⟨fun _ R''=> ∃y0 y1 y2 y3,J (k+1) y0 y1 y2 y3∧ ∀W4 w,Hp B W4 w R''→Hp B W4 w (Rx (k+1) y0 y1 y2 y3),fun _ _=>False,fun _ _ _=>False⟩ L' R',fun _ _=>False,fun _ _ _=>False⟩ (prm pl (f k) L) (Rx k x0 x1 x2 x3))
  (after: ∀W5 D x0 x1 x2 x3,J N x0 x1 x2 x3→Below B w0 W5→Gd B w00 ⟨m,mark D::ds,none⟩ W5→VN ⟨m,mark D::ds,none⟩ B W5 F L (Rx N x0 x1 x2 x3)):
  V P ⟨m,ds,none⟩ B w0 (.rangeFunc g pl.toArray assign body) F L R:=by
 obtain⟨x0,x1,x2,x3,h1,h2⟩:=h0
 refine aKj (σ:=σ0 × σ1 × σ2 × σ3) hg hen it hpl hfl hG (fun k p=>Rx k p.1 p.2.1 p.2.2.1 p.2.2.2) (fun k p=>J k p.1 p.2.1 p.2.2.1 p.2.2.2) ⟨(x0,x1,x2,x3),h1,h2⟩ (fun k p=>hrdy k p.1 p.2.1 p.2.2.1 p.2.2.2) (fun l k p W2 hk hp hb=>gN (round l k p.1 p.2.1 p.2.2.1 p.2.2.2 W2 hk hp hb) ?_ (fun _ _ h=>h) (fun _ _ _ h=>h)) (fun W5 D p=>after W5 D p.1 p.2.1 p.2.2.1 p.2.2.2)
 intro L' R' h W3 hb3 hl3
 refine gN (h W3 hb3 hl3) ?_ (fun _ _ h=>h) (fun _ _ _ h=>h)
 rintro _ R'' ⟨y0,y1,y2,y3,g1,g2⟩
 exact⟨(y0,y1,y2,y3),g1,g2⟩
theorem aSa {σ:Type} {m l0:Nat} {g:Operand} {pl:List Nat} {assign body:Code} {gf:Nat} {lb:Array Value} {Rdy:World→Prop} {N:Nat} {f:Nat→List Value} {Q:eO} (hg:ev L g=some (.func (.func gf) #[] lb))
  (hen: ∀args w,(callFunc gf args).run P w= .ok (.enter gf args) w) (it:Iter P gf lb Rdy N f)
  (hpl:pl.all (fun p=>Nat.blt p m)=true) (hfl: ∀k,(f k).length=pl.length) (hl0: ∃rc,w0.heap[l0]? =some (.loop rc)) (Rx:Nat→σ→List Row) (J:Nat→σ→Prop) (h0: ∃s,J 0 s∧ ∀w,Hp B w0 w R→Hp B w0 w (Rx 0 s)) (hrdy: ∀k s w,J k s→Hp B w0 w (Rx k s)→Rdy w)
  (round: ∀l k s W2,k<N→J k s→Below B w0 W2→W P ⟨m,[],some l⟩ B W2 assign ⟨fun L' R'=> ∀W3,Below B w0 W3→(∃rc,W3.heap[l]? =some (.loop rc))→W P ⟨m,[],some l⟩ B W3 body ⟨fun _ R''=> ∃s',J (k+1) s'∧ ∀W4 w,Hp B W4 w R''→Hp B W4 w (Rx (k+1) s'),fun _ _=>False,fun _ _ _=>False⟩ L' R',fun _ _=>False,fun _ _ _=>False⟩ (prm pl (f k) L) (Rx k s))
  (after: ∀s,J N s→Q.nrm L (Rx N s)):
  W P ⟨m,[],some l0⟩ B w0 (.rangeFunc g pl.toArray assign body) Q L R:=by
 obtain⟨r0,hr0⟩:=hl0
 intro a w hs hp
 have hl0w:=hp.late.2 _ _ hr0 rfl
 refine wpIn_rangeFunc ?_
 intro fn _
 obtain⟨rec,hrec⟩: ∃rec:LoopState→Loop,rec=fun st=> {state:=st,pending:=none,fn,tmps:=a.tmps,params:=pl.toArray,assign,body,defers:=r0.defers}:=⟨_,rfl⟩
 obtain⟨W1,hW1⟩: ∃W1,w.alloc (.loop (rec .ready))=W1:=⟨_,rfl⟩
 have hL1:W1.heap[w.heap.size]? =some (.loop (rec .ready)):=by rw[←hW1];exact World.alloc_heap_new w _
 obtain⟨s0,hJ0,hR0⟩:=h0
 have hp1:Hp B w0 W1 (Rx 0 s0):=by rw[←hW1];exact(hR0 w hp).allocObj _
 have hle0:w0.heap.size≤w.heap.size:=hp.below.size
 have hleB:=hp.base
 refine⟨w.heap.size,[],W1,{target:= .fn (.func gf) lb,args:= #[.func (.yield w.heap.size) #[] #[]]},W1,gf,#[.func (.yield w.heap.size) #[] #[]]++lb,W1,?_,?_,fun _ _=>trivial,?_,fun h=>(by cases h),?_⟩
 ·rw[←hW1,hrec];exact run_enterLoop_inner hl0w _ _ _ _ _
 ·simp only[resolve,hs.ev hg]
  simp[go_sem]
 ·simp[invoke,go_sem,hen]
 ·refine CallsIn.mono (aCp (w0:=w0) (m:=m) (L:=L) it hpl hfl Rx J hrdy round (l:=w.heap.size) (rec:=rec) hrec ⟨hs.size,rfl,hs.val⟩ (by omega) (by omega) (fun _=>True) (fun _ _ _ _ _ _ _=>trivial) (fun _ _ _=>trivial) hL1 trivial hJ0 hp1) ?_
  rintro e W2 ⟨⟨v,rfl⟩,s,hJ,hp2,hl2,_⟩
  have hel:=run_endLoop (P:=P) hl2 (by rw[hrec];simp)
  have hpn:(rec .ready).pending=none:=by rw[hrec]
  refine⟨none,W2.putObj w.heap.size (.loop {rec .ready with state:= .exhausted}),hel.trans (congrArg (fun p=>Result.ok p _) hpn),?_⟩
  have hds:=hs.defers
  exact⟨L,Rx N s,⟨hs.size,by simp only[List.nil_append,hds],hs.val⟩,hp2.putObj hl2 rfl _ (by omega) (by omega),after s hJ⟩
theorem aKf {σ0 σ1 σ2 σ3:Type} {m l0:Nat} {g:Operand} {pl:List Nat} {assign body:Code} {gf:Nat} {lb:Array Value} {Rdy:World→Prop} {N:Nat} {f:Nat→List Value} {Q:eO} (hg:ev L g=some (.func (.func gf) #[] lb))
  (hen: ∀args w,(callFunc gf args).run P w= .ok (.enter gf args) w) (it:Iter P gf lb Rdy N f)
  (hpl:pl.all (fun p=>Nat.blt p m)=true) (hfl: ∀k,(f k).length=pl.length) (hl0: ∃rc,w0.heap[l0]? =some (.loop rc)) (Rx:Nat→σ0→σ1→σ2→σ3→List Row) (J:Nat→σ0→σ1→σ2→σ3→Prop)
  (h0: ∃x0 x1 x2 x3,J 0 x0 x1 x2 x3∧ ∀w,Hp B w0 w R→Hp B w0 w (Rx 0 x0 x1 x2 x3)) (hrdy: ∀k x0 x1 x2 x3 w,J k x0 x1 x2 x3→Hp B w0 w (Rx k x0 x1 x2 x3)→Rdy w)
  (round: ∀l k x0 x1 x2 x3 W2,k<N→J k x0 x1 x2 x3→Below B w0 W2→W P ⟨m,[],some l⟩ B W2 assign ⟨fun L' R'=> ∀W3,Below B w0 W3→(∃rc,W3.heap[l]? =some (.loop rc))→W P ⟨m,[],some l⟩ B W3 body ⟨fun _ R''=> ∃y0 y1 y2 y3,J (k+1) y0 y1 y2 y3∧ ∀W4 w,Hp B W4 w R''→Hp B W4 w (Rx (k+1) y0 y1 y2 y3),fun _ _=>False,fun _ _ _=>False⟩ L' R',fun _ _=>False,fun _ _ _=>False⟩ (prm pl (f k) L) (Rx k x0 x1 x2 x3))
  (after: ∀x0 x1 x2 x3,J N x0 x1 x2 x3→Q.nrm L (Rx N x0 x1 x2 x3)):
  W P ⟨m,[],some l0⟩ B w0 (.rangeFunc g pl.toArray assign body) Q L R:=by
 obtain⟨x0,x1,x2,x3,h1,h2⟩:=h0
 refine aSa (σ:=σ0 × σ1 × σ2 × σ3) hg hen it hpl hfl hl0 (fun k p=>Rx k p.1 p.2.1 p.2.2.1 p.2.2.2) (fun k p=>J k p.1 p.2.1 p.2.2.1 p.2.2.2) ⟨(x0,x1,x2,x3),h1,h2⟩ (fun k p=>hrdy k p.1 p.2.1 p.2.2.1 p.2.2.2) (fun l k p W2 hk hp hb=>gN (round l k p.1 p.2.1 p.2.2.1 p.2.2.2 W2 hk hp hb) ?_ (fun _ _ h=>h) (fun _ _ _ h=>h)) (fun p=>after p.1 p.2.1 p.2.2.1 p.2.2.2)
 intro L' R' h W3 hb3 hl3
 refine gN (h W3 hb3 hl3) ?_ (fun _ _ h=>h) (fun _ _ _ h=>h)
 rintro _ R'' ⟨y0,y1,y2,y3,g1,g2⟩
 exact⟨(y0,y1,y2,y3),g1,g2⟩
def SlR (k:IntKind) (Rs:List Row) (vals:List Value) (ls:List (List Int)):Prop:=vals.length=ls.length∧ ∀j:Nat,j<ls.length→ ∃(A:Option Addr) (c:Nat),vals[j]? =some (.slice A (ls.getD j []).length c)∧ ∀(B:Nat) (w0 w:World),Hp B w0 w Rs→Rd w A (ls.getD j []).length c 1 (ints k (ls.getD j []))
theorem SlR.nil (k:IntKind):SlR k [] [] []:=⟨rfl,fun j hj=>by simp at hj⟩
theorem SlR.snoc {k:IntKind} {Rs:List Row} {vals:List Value} {ls:List (List Int)} {A:Option Addr} {n c e:Nat} {l:List Int} {ro:Bool} (h:SlR k Rs vals ls) (hn:n=l.length):SlR k (⟨e,1,A,n,c,ints k l,ro⟩::Rs) (vals++[.slice A n c]) (ls++[l]):=by
 subst hn
 refine⟨by simp[h.1],fun j hj=> ?_⟩
 rcases Nat.lt_or_ge j ls.length with g|g
 ·obtain ⟨A',c',h1,h2⟩:=h.2 j g
  have e1:(ls++[l]).getD j []=ls.getD j []:=by
   rw[List.getD_eq_getElem?_getD,List.getD_eq_getElem?_getD,List.getElem?_append_left g]
  rw[e1]
  exact⟨A',c',by rw[List.getElem?_append_left (by rw[h.1];exact g)];exact h1,fun B w0 w hw=>h2 B w0 w hw.tail⟩
 ·have hjl:j=ls.length:=by simp at hj;omega
  subst hjl
  have e1:(ls++[l]).getD ls.length []=l:=by simp[List.getD_eq_getElem?_getD]
  rw[e1]
  refine⟨A,c,by rw[←h.1];simp,fun B w0 w hw=> ?_⟩
  exact rdr (R:=⟨e,1,A,l.length,c,ints k l,ro⟩::Rs) 0 rfl w hw
theorem SlR.at {k:IntKind} {Rs:List Row} {vals:List Value} {ls:List (List Int)} (h:SlR k Rs vals ls) {i:Int} (h0:0≤i) (h1:i<ls.length): ∃(A:Option Addr) (c:Nat),vals[i.toNat]? =some (.slice A (rdl ls i).length c)∧ ∀(B:Nat) (w0 w:World),Hp B w0 w Rs→Rd w A (rdl ls i).length c 1 (ints k (rdl ls i)):=h.2 i.toNat (by omega)
theorem Hp.left {w:World} {X T:List Row} (h:Hp B w0 w (X++T)):Hp B w0 w X:=h.sublist (List.sublist_append_left X T)
theorem Hp.toTail0 {w:World} {X Rs Y:List Row} (h:Hp B w0 w ((X++Rs)++Y)):Hp B w0 w (X++(Y++Rs)):=by
 refine h.perm ?_
 rw[List.append_assoc]
 exact List.Perm.append_left X List.perm_append_comm
theorem bFi {Q:eO} {c:Code} {d:Nat} {v:Value} (h:lk L d=some v) (k:W P n B w0 c Q ((d,v)::L) R):W P n B w0 c Q L R:=fun a w hs hp=>k a w ⟨hs.size,hs.defers,fun t u ht=>by
 unfold lk at ht
 cases e:Nat.beq d t with
 |true=>rw[e] at ht;simp only[cond_true] at ht;obtain rfl:=Nat.eq_of_beq_eq_true e;exact hs.val _ _ (h.trans ht)
 |false=>rw[e] at ht;simp only[cond_false] at ht;exact hs.val _ _ ht⟩ hp
end
end Go.Eng
namespace Go.Eng
open Go Go.RowKit Go.Proofs Go.Sort
section
variable {P:Program} {B:Nat} {w0:World} {R:List Row}
def aRu (P:Program) (f g:Nat) (cb:Array Value) (k:Nat):Prop:=
 ∀(α:Type) [Inhabited α] (enc:α→List Value) (_: ∀x,(enc x).length=k) (_: ∀x,∀v∈enc x,v.oneCell'=true) (cf:α→α→Int) (_:SWO (ltOf cf)) (blk off cap:Nat) (d:Array α) (w:World)
  (_:CmpLays P g cb enc k cf blk off d.size w) (_:HoldsK enc k w blk off d) (_:blk<w.heap.size) (_:d.size<4611686018427387904),
  Calls P f #[.slice (some ⟨blk,off,none⟩) d.size cap, .func (.func g) #[] cb] w fun e w'=>e= .returned (.tuple #[])∧ ∃d' n os,PermIn 0 d.size d d'∧SortedIn (ltOf cf) 0 d.size d'∧w'=sortWorldK enc k w blk off n d' os
def OE (P:Program) (f:Nat):Prop:= ∀(p:Option Addr) (cap:Nat) (fv:Value) (w:World),Calls P f #[.slice p 0 cap,fv] w fun e w'=>e= .returned (.tuple #[])∧w'=w
theorem Hp.putRow {w:World} (hw:Hp B w0 w R) {i T k m c blk:Nat} {vs:List Value} (hi:R[i]? =some ⟨T,k,some ⟨blk,0,none⟩,m,c,vs,false⟩) (xs:Array Value) (hxs:xs.size=m*k) (n:Nat) (os:Array Obj):
  Hp B w0 (grow (putRow id (Sort.ahead w n) blk 0 xs) os) (R.set i ⟨T,k,some ⟨blk,0,none⟩,m,c,xs.toList,false⟩)∧Hp B w0 (grow (putRow id (Sort.ahead w n) blk 0 xs) os) (R.eraseIdx i):=by
 have hown:=Row.lies_w (hw.own _ (List.mem_of_getElem? hi)) rfl
 rcases hown.2 with⟨hv,hn⟩|⟨g,cap,cur,hv,hb,hg,hnc,hcm,hcs,ht⟩
 ·simp at hv
 simp only[Value.slice.injEq,Option.some.injEq,Addr.mk.injEq,and_true,true_and] at hv
 obtain⟨rfl,rfl⟩:=hv
 simp only at ht hcs hg hnc hb
 have hlt:blk<w.heap.size:=(Array.getElem?_eq_some_iff.1 hg).1
 have hsz:w.heap.size≤(grow (Go.Sort.putRow id (Sort.ahead w n) blk 0 xs) os).heap.size:=by
  rw[size_grow,Go.Sort.size_putRow]
  exact Nat.le_add_right _ _
 have hk: ∀k,k<w.heap.size→blk≠k→(grow (Go.Sort.putRow id (Sort.ahead w n) blk 0 xs) os).heap[k]? =w.heap[k]? :=by
  intro k hk hbk
  rw[heap_grow_old _ _ (by rw[Go.Sort.size_putRow];exact hk)]
  simp[Go.Sort.putRow,mapBlock,Array.getElem?_modify,hbk,Sort.ahead]
 have hheap:(grow (Go.Sort.putRow id (Sort.ahead w n) blk 0 xs) os).heap[blk]? =some (.cells (putCells id 0 xs cur) T (0,0)):=by
  rw[heap_grow_old _ _ (by rw[Go.Sort.size_putRow];exact hlt)]
  simp[Go.Sort.putRow,mapBlock,Array.getElem?_modify,Sort.ahead,hg,onCells]
 refine⟨?_,hw.but hi rfl rfl rfl (by show w.drawn≤w.drawn+n;omega) hsz fun k h1 h2=>hk k h1 (h2 _ rfl)⟩
 refine hw.upd hi (row:=some blk) ⟨rfl,rfl,rfl,hsz,fun k h1 hne=>hk k h1 fun e=>hne (by rw[e])⟩ ?_ (fun k hk=> ?_) ?_ (fun a' ha'=> .inl ⟨a',ha',rfl⟩)
 ·show w.drawn≤w.drawn+n
  omega
 ·obtain rfl:=Option.some.inj hk
  exact⟨_,rfl,rfl⟩
 ·unfold Row.lies
  simp only
  refine⟨by rw[Array.length_toList,hxs], .inr ⟨blk,c,_,rfl,hb,hheap,hnc,hcm,?_,?_⟩⟩
  ·simp only[putCells,Array.size_mapIdx]
   exact hcs
  ·apply List.ext_getElem?
   intro t
   rw[List.getElem?_take]
   split
   ·rename_i htm
    have htc:t<cur.size:=by
     have:m*k≤c*k:=Nat.mul_le_mul_right _ hnc
     omega
    rw[Array.getElem?_toList,Array.getElem?_toList,Array.getElem?_eq_getElem (by simp[putCells];exact htc),Array.getElem?_eq_getElem (by rw[hxs];exact htm)]
    simp only[putCells,Array.getElem_mapIdx,id]
    rw[if_pos ⟨Nat.zero_le _,by rw[Nat.zero_add,hxs];exact htm⟩,Nat.sub_zero,getElem!_pos _ t (by rw[hxs];exact htm)]
   ·rename_i htm
    rw[List.getElem?_eq_none (by rw[Array.length_toList,hxs];omega)]
theorem IU {α:Type} [Inhabited α] {enc:α→List Value} {k:Nat} (hk: ∀x,(enc x).length=k) (d:Array α):(flatK enc k d).toList=d.toList.flatMap enc:=by
 have hlen: ∀l:List α,(l.flatMap enc).length=l.length*k:=fun l=>by
  induction l with
  |nil=>simp
  |cons x l ih=>rw[List.flatMap_cons,List.length_append,ih,hk,List.length_cons,Nat.add_mul];omega
 have hget: ∀(l:List α) (t:Nat) (x:α),0<k→l[t/k]? =some x→(l.flatMap enc)[t]? =(enc x)[t%k]? :=fun l=>by
  induction l with
  |nil=>intro t x _ h;simp at h
  | cons y l ih=>
   intro t x k0 h
   rw[List.flatMap_cons]
   rcases Nat.lt_or_ge t k with g|g
   ·rw [Nat.div_eq_of_lt g] at h
    simp only[List.getElem?_cons_zero,Option.some.injEq] at h
    subst h
    rw[List.getElem?_append_left (by rw[hk];exact g),Nat.mod_eq_of_lt g]
   ·have e:t/k=(t-k)/k+1:=by
     rw[←Nat.sub_add_cancel g,Nat.add_div_right _ k0]
     simp
    rw[e,List.getElem?_cons_succ] at h
    rw[List.getElem?_append_right (by rw[hk];exact g),hk,ih (t-k) x k0 h,←Nat.mod_eq_sub_mod g]
 apply List.ext_getElem?
 intro t
 have hs:(flatK enc k d).size=d.size*k:=size_flatK _ _ _
 rcases Nat.lt_or_ge t (d.size*k) with h|h
 ·have k0:0<k:=Nat.pos_of_ne_zero fun e=>by subst e;simp at h
  have hdk:t/k<d.size:=Nat.div_lt_of_lt_mul (by rw[Nat.mul_comm];exact h)
  have e1:(flatK enc k d)[t]? =some ((flatK enc k d)[t]!):=by
   rw[Array.getElem?_eq_getElem (by rw[hs];exact h),getElem!_pos _ t (by rw[hs];exact h)]
  rw[Array.getElem?_toList,e1,get_flatK enc k d t h,hget d.toList t d[t/k] k0 (by rw[Array.getElem?_toList,Array.getElem?_eq_getElem hdk]),getElem!_pos d _ hdk]
  have hm:t%k<(enc d[t/k]).length:=by rw[hk];exact Nat.mod_lt _ k0
  rw[List.getElem?_eq_getElem hm,getElem!_pos (enc d[t/k]) (t%k) hm]
 ·rw[List.getElem?_eq_none (by rw[Array.length_toList,hs];exact h),List.getElem?_eq_none (by rw[hlen,Array.length_toList];exact h)]
theorem aOx {α:Type} {enc:α→List Value} {k:Nat} (hk: ∀x,(enc x).length=k) (l:List α):(l.flatMap enc).length=l.length*k:=by
 induction l with
 |nil=>simp
 |cons x l ih=>rw[List.flatMap_cons,List.length_append,ih,hk,List.length_cons,Nat.add_mul];omega
theorem GQ {α:Type} [Inhabited α] {d d':Array α} (h:PermIn 0 d.size d d'):d'.toList.Perm d.toList:=by
 obtain⟨hs,_,hp⟩:=h
 have e1:(d'.extract 0 d.size).toList=d'.toList:=by rw[←hs];simp
 have e2:(d.extract 0 d.size).toList=d.toList:=by simp
 rw[e1,e2] at hp
 exact hp
theorem KH {α:Type} [Inhabited α] {cf:α→α→Int} {d':Array α} {n:Nat} (h:SortedIn (ltOf cf) 0 n d') (hn:d'.size=n):d'.toList.Pairwise fun x y=> ¬cf y x<0:=by
 refine List.pairwise_iff_getElem.2 fun a b ha hb' hab=> ?_
 rw[Array.length_toList] at ha hb'
 have h1:=h a b (Nat.zero_le _) hab (by omega)
 rw[getElem!_pos d' a ha,getElem!_pos d' b hb'] at h1
 simp only[ltOf,decide_eq_false_iff_not] at h1
 simpa using h1
theorem aTz {w:World} (hw:Hp B w0 w R) {i T k c:Nat} {A:Option Addr} {vs:List Value} (hi:R[i]? =some ⟨T,k,A,0,c,vs,false⟩):R.set i ⟨T,k,A,0,c,[],false⟩=R∧vs=[]:=by
 have hown:=Row.lies_w (hw.own _ (List.mem_of_getElem? hi)) rfl
 have hl:=hown.1
 simp only[Nat.zero_mul] at hl
 obtain rfl:=List.eq_nil_of_length_eq_zero hl
 refine⟨?_,rfl⟩
 apply List.ext_getElem?
 intro j
 rw[List.getElem?_set]
 split
 ·rename_i h
  subst h
  split
  ·exact hi.symm
  ·rename_i h2
   rw[List.getElem?_eq_none (by omega)]
 ·rfl
theorem YC {α:Type} {f g k:Nat} {cb:Array Value} {enc:α→List Value} (hSF:aRu P f g cb k) (hS0:OE P f) (hk: ∀x,(enc x).length=k) (h1: ∀x,∀v∈enc x,v.oneCell'=true) {T c:Nat} {A:Option Addr} {l:List α} (i:Nat) (hi:R[i]? =some ⟨T,k,A,l.length,c,l.flatMap enc,false⟩) (hsz:l.length<4611686018427387904) (cmp:α→α→Int) (hO:SWO (ltOf cmp))
  (hclo: ∀W,Hp B w0 W (R.eraseIdx i)→ ∀x∈l,∀y∈l,
   Ct P g (#[.agg (enc x).toArray, .agg (enc y).toArray]++cb) W.heap.size W [] (fun v _=>v= .int .i64 (cmp x y))):
  Ct P f #[.slice A l.length c, .func (.func g) #[] cb] B w0 R (fun v R'=>v= .tuple #[]∧ ∃l':List α,l'.Perm l∧l'.Pairwise (fun x y=> ¬cmp y x<0)∧R'=R.set i ⟨T,k,A,l'.length,c,l'.flatMap enc,false⟩):=by
 intro w hw
 rcases l with _|⟨x0,l0⟩
 ·refine (hS0 A c _ w).mono ?_
  rintro e w' ⟨rfl,rfl⟩
  obtain⟨h1,h2⟩:=aTz hw hi
  exact⟨_,_,rfl,hw,rfl,[], .refl _, .nil,h1.symm⟩
 generalize hl:x0::l0=l at*
 have hpos:0<l.length:=by rw[←hl];simp
 have hown:=Row.lies_w (hw.own _ (List.mem_of_getElem? hi)) rfl
 rcases hown.2 with⟨_,hn⟩|⟨blk,cap,cur,hv,hb,hg,hnc,hcm,hcs,ht⟩
 ·simp only at hn;omega
 simp only[Value.slice.injEq,true_and] at hv
 obtain⟨rfl,rfl⟩:=hv
 simp only at ht hcs hg hnc
 haveI:Inhabited {p:α//p∈l}:=⟨⟨l[0],List.getElem_mem _⟩⟩
 obtain⟨d,hd⟩: ∃d:Array {p:α//p∈l},d=l.attach.toArray:=⟨_,rfl⟩
 have hds:d.size=l.length:=by rw[hd];simp
 have hdv:d.toList.map Subtype.val=l:=by rw[hd];exact List.attach_map_subtype_val l
 have hk2: ∀x: {p:α//p∈l},(enc x.1).length=k:=fun x=>hk x.1
 have hfm: ∀e:List {p:α//p∈l},e.flatMap (fun x=>enc x.1)=(e.map Subtype.val).flatMap enc:=fun e=>by rw[List.flatMap_map]
 have hlt:blk<w.heap.size:=(Array.getElem?_eq_some_iff.1 hg).1
 have hH:HoldsK (fun x: {p:α//p∈l}=>enc x.1) k w blk 0 d:=by
  intro j hj
  have hj':j<l.length*k:=by
   have:j<(flatK (fun x: {p:α//p∈l}=>enc x.1) k d).size:=hj
   rw[size_flatK,hds] at this
   exact this
  have hf:=IU hk2 d
  rw[hfm,hdv] at hf
  have e:(l.flatMap enc)[j]? =some ((flatK (fun x: {p:α//p∈l}=>enc x.1) k d)[j]!):=by
   rw[←hf,Array.getElem?_toList,Array.getElem?_eq_getElem hj,getElem!_pos _ j hj]
  refine⟨?_,?_⟩
  ·rw [Nat.zero_add]
   exact hw.cellAt i hi rfl e
  ·exact hw.openAt i (0+j) hi rfl rfl
 have hcmp:CmpLays P g cb (fun x: {p:α//p∈l}=>enc x.1) k (fun x y=>cmp x.1 y.1) blk 0 d.size w:=by
  intro m' os dk hdk x y
  have hW:=(hw.putRow hi (flatK (fun x: {p:α//p∈l}=>enc x.1) k dk) (by rw[size_flatK,hdk,hds]) m' os).2
  refine(hclo (sortWorldK (fun x: {p:α//p∈l}=>enc x.1) k w blk 0 m' dk os) hW x.1 x.2 y.1 y.2 _ (Hp.refl _)).mono ?_
  rintro e w' ⟨v,R',rfl,hh,rfl⟩
  exact⟨rfl,UM hh.below hh.late.1⟩
 have hO':SWO (ltOf fun(x y: {p:α//p∈l})=>cmp x.1 y.1):=⟨fun x=>hO.irrefl x.1,fun x y z=>hO.trans x.1 y.1 z.1,fun x y z=>hO.ntrans x.1 y.1 z.1⟩
 have hcall:=hSF _ (fun x: {p:α//p∈l}=>enc x.1) hk2 (fun x=>h1 x.1) _ hO' blk 0 c d w hcmp hH hlt (by rw[hds];exact hsz)
 rw[hds] at hcall
 refine hcall.mono ?_
 rintro e w' ⟨rfl,d',n,os,hperm,hsort,rfl⟩
 rw[←hds] at hperm
 have hd's:d'.size=l.length:=by rw[hperm.1,hds]
 have hW:=(hw.putRow hi (flatK (fun x: {p:α//p∈l}=>enc x.1) k d') (by rw[size_flatK,hd's]) n os).1
 rw[IU hk2,hfm] at hW
 have hp':(d'.toList.map Subtype.val).Perm l:=by
  have:=(GQ hperm).map Subtype.val
  rwa[hdv] at this
 refine⟨_,_,rfl,hW,rfl,d'.toList.map Subtype.val,hp',?_,?_⟩
 ·exact List.pairwise_map.2 (KH hsort hd's)
 ·rw[hp'.length_eq]
end
end Go.Eng
namespace Go.Pure
open Go Go.Eng
def Bd (u:List Int) (n k:Nat):Prop:=k<n∧ ∀e,e<k→lt u e=lt u (n-k+e)
def MB (u:List Int) (n:Nat) (k:Int):Prop:=0≤k∧Bd u n k.toNat∧ ∀q:Nat,Bd u n q→(q:Int)≤k
def KI (u:List Int) (i:Nat) (n:Int):Prop:=0≤n∧Bd u i n.toNat∧ ∀q:Nat,Bd u i q→n<q→lt u q≠lt u i
variable {u:List Int}
theorem MB.one:MB u 1 0:=⟨by omega,⟨by omega,fun e he=>by simp at he⟩,fun q h=>by have:=h.1;omega⟩
theorem MB.bd {n:Nat} {k:Int} (h:MB u n k):0≤k∧k<n:=⟨h.1,by have:=h.2.1.1;have:=h.1;omega⟩
theorem KI.bd {n:Nat} {k:Int} (h:KI u n k):0≤k∧k<n:=⟨h.1,by have:=h.2.1.1;have:=h.1;omega⟩
theorem KI.init {i:Nat} {n:Int} (h:MB u i n):KI u i n:=⟨h.1,h.2.1,fun q hq hn=>by have:=h.2.2 q hq;omega⟩
theorem KI.step {i:Nat} {n m:Int} (h:KI u i n) (hne:lt u n.toNat≠lt u i) (hb:MB u n.toNat m):KI u i m:=by
 obtain⟨h0,⟨h1,h2⟩,h3⟩:=h
 obtain⟨g0,⟨g1,g2⟩,g3⟩:=hb
 refine⟨g0,⟨by omega,fun e he=> ?_⟩,fun q hq hmq=> ?_⟩
 ·rw [g2 e he,h2 (n.toNat-m.toNat+e) (by omega)]
  congr 1
  omega
 ·rcases Nat.lt_trichotomy q n.toNat with a|a|a
  ·have:Bd u n.toNat q:=⟨a,fun e he=>by
    rw[hq.2 e he,h2 (n.toNat-q+e) (by omega)]
    congr 1
    omega⟩
   have:=g3 q this
   omega
  ·subst a;exact hne
  ·exact h3 q hq (by omega)
theorem KI.hit {i:Nat} {n:Int} (h:KI u i n) (he:lt u n.toNat=lt u i):MB u (i+1) (n+1):=by
 obtain⟨h0,⟨h1,h2⟩,h3⟩:=h
 refine⟨by omega,⟨by omega,fun e hE=> ?_⟩,fun q hq=> ?_⟩
 ·rcases Nat.lt_or_ge e n.toNat with a|a
  ·rw[h2 e a];congr 1;omega
  ·obtain rfl:e=n.toNat:=by omega
   rw[he];congr 1;omega
 ·rcases q with _|q
  ·omega
  ·have hb:Bd u i q:=⟨by have:=hq.1;omega,fun e hE=>by rw[hq.2 e (by omega)];congr 1;omega⟩
   have hl:=hq.2 q (by omega)
   have:=hq.1
   rw[show i+1-(q+1)+q=i by omega] at hl
   rcases Int.lt_or_le n q with a|a
   ·exact absurd hl (h3 q hb a)
   ·omega
theorem KI.miss {i:Nat} {n:Int} (h:KI u i n) (hn:n≤0) (he:lt u n.toNat≠lt u i):MB u (i+1) n:=by
 obtain⟨h0,⟨h1,h2⟩,h3⟩:=h
 obtain rfl:n=0:=by omega
 refine⟨by omega,⟨by omega,fun e hE=>by simp at hE⟩,fun q hq=> ?_⟩
 rcases q with _|q
 ·omega
 ·have hb:Bd u i q:=⟨by have:=hq.1;omega,fun e hE=>by rw[hq.2 e (by omega)];congr 1;omega⟩
  have hl:=hq.2 q (by omega)
  have:=hq.1
  rw[show i+1-(q+1)+q=i by omega] at hl
  rcases Nat.eq_zero_or_pos q with a|a
  ·subst a;exact absurd hl he
  ·exact absurd hl (h3 q hb (by omega))
theorem aEx {n k:Nat} (hn:n=u.length) (hk:k<n):Bd u n k↔KA u (n-k):=by
 subst hn
 rw[GR]
 constructor
 ·intro h i hi
  have:=h.2 i (by omega)
  unfold lt at this
  rw[this];congr 1;omega
 ·intro h
  refine⟨hk,fun e he=> ?_⟩
  have:=h e (by omega)
  unfold lt
  rw[←this];congr 1;omega
theorem MB.least {k:Int} (hn:0<u.length) (h:MB u u.length k):(u.length:Int)-k=lp u:=by
 obtain⟨r,e,r1,r2,hp,hmin⟩:=EJ hn
 obtain⟨k0,hb,hmax⟩:=h
 have hb1:=hb.1
 have h1:=hmax (u.length-r) ((aEx rfl (by omega)).2 (by rw[show u.length-(u.length-r)=r by omega];exact hp))
 have h2:=(aEx rfl hb.1).1 hb
 rcases Nat.lt_or_ge (u.length-k.toNat) r with a|a
 ·exact absurd h2 (hmin _ (by omega) a)
 ·omega
theorem BP: ∀a b:List Int,cmpL b a= -cmpL a b
 |[],[]=>rfl
 |[],_::_=>rfl
 |_::_,[]=>rfl
 |x::a,y::b=>by
  rw[cmpL,cmpL,BP a b]
  split<;>split<;>omega
theorem cmpL_eq: ∀a b:List Int,cmpL a b=0↔a=b
 |[],[]=>by simp[cmpL]
 |[],_::_=>by simp[cmpL]
 |_::_,[]=>by simp[cmpL]
 | x::a,y::b=>by
  have ih:=cmpL_eq a b
  rw[cmpL]
  split
  ·simp;omega
  ·split
   ·simp;omega
   ·rw[ih];simp;omega
theorem aEp: ∀a b c:List Int,cmpL a b≤0→cmpL b c≤0→cmpL a c≤0
 |[],[],_,_,h=>h
 |[],_::_,[],_,h=>by simp[cmpL] at h
 |[],_::_,_::_,_,_=>by simp[cmpL]
 |_::_,[],_,h,_=>by simp[cmpL] at h
 |_::_,_::_,[],_,h=>by simp[cmpL] at h
 | x ::a,y::b,z::c,h1,h2=>by
  have ih:=aEp a b c
  rw[cmpL] at h1 h2 ⊢
  split at h1
  ·split at h2
   ·rw[if_pos (by omega)];omega
   ·split at h2
    ·omega
    ·rw[if_pos (by omega)];omega
  ·split at h1
   ·omega
   ·split at h2
    ·rw[if_pos (by omega)];omega
    ·split at h2
     ·omega
     ·rw[if_neg (by omega),if_neg (by omega)];exact ih h1 h2
abbrev RT:=List Int × Int
def kT (a b:RT):Int:=if cmpL a.1 b.1≠0 then cmpL a.1 b.1 else kE a.2 b.2
theorem oH (a b:RT):kT b a= -kT a b:=by
 unfold kT
 rw[BP a.1 b.1,aIx a.2 b.2]
 split<;>split<;>omega
theorem PP (a b:RT):kT a b=0↔a=b:=by
 unfold kT
 have h1:=cmpL_eq a.1 b.1
 have h2:= @jU a.2 b.2
 rw[Prod.ext_iff]
 split
 ·rename_i c
  constructor
  ·intro h;exact absurd h c
  ·intro h;exact absurd (h1.2 h.1) c
 ·rename_i c
  rw[h2]
  constructor
  ·intro h;exact⟨h1.1 (by omega),h⟩
  ·intro h;exact h.2
theorem aVo {a b:Int}:kE a b≤0↔a≤b:=by unfold kE;split<;>(try split)<;>omega
theorem UJ {a b:RT}:kT a b≤0↔cmpL a.1 b.1<0∨a.1=b.1∧a.2≤b.2:=by
 unfold kT
 have h1:=cmpL_eq a.1 b.1
 have h2:= @aVo a.2 b.2
 split
 ·rename_i c
  constructor
  ·intro h;left;omega
  ·rintro (h|h)
   ·omega
   ·exact absurd (h1.2 h.1) c
 ·rename_i c
  rw[h2]
  constructor
  ·intro h;exact .inr ⟨h1.1 (by omega),h⟩
  ·rintro (h|h)
   ·omega
   ·exact h.2
theorem EK (a b c:RT) (h1:kT a b≤0) (h2:kT b c≤0):kT a c≤0:=by
 rw[UJ] at h1 h2 ⊢
 have h:=aEp a.1 b.1 c.1
 have e1:=cmpL_eq a.1 b.1
 have e2:=cmpL_eq b.1 c.1
 have e3:=cmpL_eq a.1 c.1
 rcases h1 with h1|h1
 ·rcases h2 with h2|h2
  ·have a1:=h (by omega) (by omega)
   rcases Int.lt_or_eq_of_le a1 with g|g
   ·exact .inl g
   ·have e:=e3.1 g
    rw[e,BP b.1 c.1] at h1
    omega
  ·exact .inl (by rw[←h2.1];exact h1)
 ·rcases h2 with h2|h2
  ·exact .inl (by rw[h1.1];exact h2)
  ·exact .inr ⟨h1.1.trans h2.1,by omega⟩
theorem DL {l m:List RT} (hp:l.Perm m) (hl:l.Pairwise fun a b=>kT a b≤0) (hm:m.Pairwise fun a b=>kT a b≤0):l=m:=
 hp.eq_of_pairwise (fun a b _ _ h1 h2=>(PP a b).1 (by rw[oH a b] at h2;omega)) hl hm
def lw (u:List Int):List Int:=vR u (qI u)
def kI (c:List Int):List Int:=c.take (rl c).toNat
def iB (c:List Int):Int:=(c.length:Int)/rl c
def AU (u:List Int):RT:=(kI (lw u),iB (lw u))
def eB (ws:List (List Int)):List RT:=(ws.filter fun w=>decide (0<w.length)).map AU
def vT (ws:List (List Int)):List RT:=(eB ws).mergeSort fun a b=>decide (kT a b≤0)
def aYl (r:RT):List Int:=rep r.1 r.2
def canon (ws:List (List Int)):List (List Int):=(vT ws).map aYl
theorem rU (ws:List (List Int)):(vT ws).Perm (eB ws):=List.mergeSort_perm _ _
theorem OZ (ws:List (List Int)):(vT ws).Pairwise fun a b=>kT a b≤0:=by
 have:=List.pairwise_mergeSort (le:=fun a b:RT=>decide (kT a b≤0)) (fun a b c h1 h2=>decide_eq_true (EK a b c (of_decide_eq_true h1) (of_decide_eq_true h2))) (fun a b=>by
  rw[Bool.or_eq_true,decide_eq_true_eq,decide_eq_true_eq,oH a b];omega) (eB ws)
 exact this.imp fun h=>of_decide_eq_true h
theorem MM {ws:List (List Int)} {l:List RT} (hp:l.Perm (eB ws)) (hs:l.Pairwise fun a b=>kT a b≤0):l=vT ws:=DL (hp.trans (rU ws).symm) hs (OZ ws)
theorem IG (u:List Int):(lw u).length=u.length:=uZ u _
theorem aZr:lw []=[]:=rfl
theorem aZk {a b:List Int} (hl:a.length=b.length) (h:om a=om b):a=b:=by
 refine bI hl fun j h0 h1=> ?_
 have:=congrFun h j.toNat
 rw[CQ (by omega),CQ (by omega)] at this
 exact this
theorem aYr {c:List Int} (h:0<c.length):(c.length:Int)%rl c=0:=by
 obtain⟨r,e,r1,r2,_,_⟩:=EJ h
 unfold rl
 split
 ·exact Int.emod_self
 ·omega
theorem SY {c:List Int} (h:0<c.length):((kI c).length:Int)=rl c:=by
 have:=yA h
 unfold kI
 rw[List.length_take]
 omega
theorem LP {c:List Int} (h:0<c.length):iB c*rl c=c.length:=Int.ediv_mul_cancel (Int.dvd_of_emod_eq_zero (aYr h))
theorem AA {c:List Int} (h:0<c.length):0<iB c:=by
 have h1:=LP h
 have h2:=yA h
 rcases Int.lt_or_le 0 (iB c) with a|a
 ·exact a
 ·have:=Int.mul_nonneg_of_nonpos_of_nonpos a (show -(rl c)≤0 by omega)
  rw[Int.mul_neg] at this
  omega
theorem aSx {c:List Int} (h:0<c.length):om (kI c)=om c:=by
 obtain⟨r,e,r1,r2,ho,_⟩:=aCr h
 funext i
 rw[ho i]
 unfold kI
 rw[e]
 rfl
theorem CF {c:List Int} (h:0<c.length):rep (kI c) (iB c)=c:=by
 have hr:=SY h
 have hp:=yA h
 have ht:=AA h
 have hl:(rep (kI c) (iB c)).length=c.length:=by
  rw[oZ]
  have h1:=LP h
  have:((iB c).toNat*(kI c).length:Int)=c.length:=by
   rw[Int.toNat_of_nonneg (by omega),hr,h1]
  exact_mod_cast this
 refine aZk hl ?_
 rw[show iB c=((iB c).toNat:Int) by omega]
 funext i
 rw[aZj (by omega) (by omega),aSx h]
theorem aGv {ws:List (List Int)} {r:RT} (h:r∈eB ws): ∃w∈ws,0<w.length∧r=AU w:=by
 unfold eB at h
 obtain⟨w,hw,e⟩:=List.mem_map.1 h
 obtain⟨h1,h2⟩:=List.mem_filter.1 hw
 exact⟨w,h1,of_decide_eq_true h2,e.symm⟩
theorem aGw {ws:List (List Int)} {r:RT} (h:r∈vT ws): ∃w∈ws,0<w.length∧r=AU w:=aGv ((rU ws).subset h)
theorem lL (a b:List (List Int)):eB (a++b)=eB a++eB b:=by unfold eB;rw[List.filter_append,List.map_append]
theorem aJb (ws:List (List Int)):(canon ws).length=(eB ws).length:=by
 unfold canon
 rw[List.length_map,(rU ws).length_eq]
end Go.Pure
namespace Go.Eng
open Go Go.RowKit Go.Pure
section
variable {P:Program} {n:Nd} {B:Nat} {w0:World} {L:Env} {R:List Row} {ty:TypeId}
theorem aGl {w:World} {A:Option Addr} {m c:Nat} {k:IntKind} {u:List Int} (h:Rd w A m c 1 (ints k u)) (hA:A.isNone=true):u=[]:=by
 cases u with
 |nil=>rfl
 |cons y l=>
  obtain⟨b,g,_⟩:=h.at_ 0 (.int k y) (by simp[ints])
  rw[g] at hA
  cases hA
theorem SlR.weak {k:IntKind} {Rs Rs':List Row} {vals:List Value} {ls:List (List Int)} (h:SlR k Rs vals ls) (hr: ∀B w0 w,Hp B w0 w Rs'→Hp B w0 w Rs):SlR k Rs' vals ls:=
 ⟨h.1,fun j hj=>by
  obtain⟨A,c,h1,h2⟩:=h.2 j hj
  exact⟨A,c,h1,fun B w0 w hw=>h2 B w0 w (hr B w0 w hw)⟩⟩
theorem SlR.right {k:IntKind} {Rs:List Row} {vals:List Value} {ls:List (List Int)} (h:SlR k Rs vals ls) (X:List Row):SlR k (X++Rs) vals ls:=h.weak fun _ _ _ hw=>hw.right
theorem SlR.left {k:IntKind} {Rs:List Row} {vals:List Value} {ls:List (List Int)} (h:SlR k Rs vals ls) (T:List Row):SlR k (Rs++T) vals ls:=h.weak fun _ _ _ hw=>hw.left
theorem UN {l m:List (List Int)} {j:Nat} (h:j<l.length):(l++m).getD j []=l.getD j []:=by
 rw[List.getD_eq_getElem?_getD,List.getD_eq_getElem?_getD,List.getElem?_append_left h]
theorem SlR.app {k:IntKind} {Rs:List Row} {v1 v2:List Value} {l1 l2:List (List Int)} (h:SlR k Rs v1 l1) (g:SlR k Rs v2 l2):SlR k Rs (v1++v2) (l1++l2):=by
 refine⟨by simp[h.1,g.1],fun j hj=> ?_⟩
 rcases Nat.lt_or_ge j l1.length with q|q
 ·obtain ⟨A,c,h1,h2⟩:=h.2 j q
  rw[UN q,List.getElem?_append_left (by rw[h.1];exact q)]
  exact⟨A,c,h1,h2⟩
 ·rw [List.length_append] at hj
  obtain⟨A,c,h1,h2⟩:=g.2 (j-l1.length) (by omega)
  have e:(l1++l2).getD j []=l2.getD (j-l1.length) []:=by
   rw[List.getD_eq_getElem?_getD,List.getD_eq_getElem?_getD,List.getElem?_append_right q]
  rw[e,List.getElem?_append_right (by rw[h.1];exact q),h.1]
  exact⟨A,c,h1,h2⟩
theorem SlR.take {k:IntKind} {Rs:List Row} {vals:List Value} {ls:List (List Int)} (h:SlR k Rs vals ls) (i:Nat):SlR k Rs (vals.take i) (ls.take i):=by
 refine⟨by simp[h.1],fun j hj=> ?_⟩
 rw[List.length_take] at hj
 obtain⟨A,c,h1,h2⟩:=h.2 j (by omega)
 have e:(ls.take i).getD j []=ls.getD j []:=by
  rw[List.getD_eq_getElem?_getD,List.getD_eq_getElem?_getD,List.getElem?_take_of_lt (by omega)]
 rw[e,List.getElem?_take_of_lt (by omega)]
 exact⟨A,c,h1,h2⟩
theorem SlR.drop {k:IntKind} {Rs:List Row} {vals:List Value} {ls:List (List Int)} (h:SlR k Rs vals ls) (i:Nat):SlR k Rs (vals.drop i) (ls.drop i):=by
 refine⟨by simp[h.1],fun j hj=> ?_⟩
 rw[List.length_drop] at hj
 obtain⟨A,c,h1,h2⟩:=h.2 (i+j) (by omega)
 have e:(ls.drop i).getD j []=ls.getD (i+j) []:=by
  rw[List.getD_eq_getElem?_getD,List.getD_eq_getElem?_getD,List.getElem?_drop]
 rw[e,List.getElem?_drop]
 exact⟨A,c,h1,h2⟩
theorem SlR.single {k:IntKind} {Rs:List Row} {A:Option Addr} {m c:Nat} {l:List Int} (hm:m=l.length) (h: ∀B w0 w,Hp B w0 w Rs→Rd w A m c 1 (ints k l)):SlR k Rs [.slice A m c] [l]:=by
 subst hm
 refine⟨rfl,fun j hj=> ?_⟩
 simp only[List.length_singleton] at hj
 obtain rfl:j=0:=by omega
 exact⟨A,c,rfl,h⟩
theorem SlR.push {k:IntKind} {Rs:List Row} {vals:List Value} {ls:List (List Int)} {A:Option Addr} {m c:Nat} {l:List Int} (h:SlR k Rs vals ls) (hm:m=l.length) (hr: ∀B w0 w,Hp B w0 w Rs→Rd w A m c 1 (ints k l)):SlR k Rs (vals++[.slice A m c]) (ls++[l]):=h.app (SlR.single hm hr)
theorem SlR.one {k:IntKind} {Rs:List Row} {vals:List Value} {ls:List (List Int)} (h:SlR k Rs vals ls): ∀v∈vals,v.oneCell'=true:=fun v hv=>by
 obtain⟨j,hj,e⟩:=List.mem_iff_getElem.1 hv
 obtain⟨A,c,h1,_⟩:=h.2 j (by rw[←h.1];exact hj)
 rw[List.getElem?_eq_getElem hj,e] at h1
 obtain rfl:=Option.some.inj h1
 simp[Value.oneCell']
def OkB (ls:List (List Int)):Prop:= ∀l∈ls,aO l∧l.length≤140737488355327
theorem SlW.take {k:IntKind} {w:World} {vals:List Value} {ls:List (List Int)} (h:SlW k w vals ls) (i:Nat):SlW k w (vals.take i) (ls.take i):=by
 refine⟨by simp[h.1],fun j hj=> ?_⟩
 rw[List.length_take] at hj
 have e:(ls.take i).getD j []=ls.getD j []:=by
  rw[List.getD_eq_getElem?_getD,List.getD_eq_getElem?_getD,List.getElem?_take_of_lt (by omega)]
 rw[e,List.getElem?_take_of_lt (by omega)]
 exact h.2 j (by omega)
theorem SlW.one {k:IntKind} {w:World} {vals:List Value} {ls:List (List Int)} (h:SlW k w vals ls): ∀v∈vals,v.oneCell'=true:=fun v hv=>by
 obtain⟨j,hj,e⟩:=List.mem_iff_getElem.1 hv
 obtain⟨A,c,h1,_⟩:=h.2 j (by rw[←h.1];exact hj)
 rw[List.getElem?_eq_getElem hj,e] at h1
 obtain rfl:=Option.some.inj h1
 simp[Value.oneCell']
theorem SlW.app {k:IntKind} {w:World} {v1 v2:List Value} {l1 l2:List (List Int)} (h:SlW k w v1 l1) (g:SlW k w v2 l2):SlW k w (v1++v2) (l1++l2):=by
 refine⟨by simp[h.1,g.1],fun j hj=> ?_⟩
 rcases Nat.lt_or_ge j l1.length with q|q
 ·rw [UN q,List.getElem?_append_left (by rw[h.1];exact q)]
  exact h.2 j q
 ·rw [List.length_append] at hj
  have e:(l1++l2).getD j []=l2.getD (j-l1.length) []:=by
   rw[List.getD_eq_getElem?_getD,List.getD_eq_getElem?_getD,List.getElem?_append_right q]
  rw[e,List.getElem?_append_right (by rw[h.1];exact q),h.1]
  exact g.2 (j-l1.length) (by omega)
theorem SlW.okB {w:World} {vals:List Value} {ls:List (List Int)} (h:SlW .u8 w vals ls):OkB ls:=fun l hl=>by
 obtain⟨j,hj,e⟩:=List.mem_iff_getElem.1 hl
 obtain⟨A,c,_,_,h3,h4⟩:=h.2 j hj
 have e2:ls.getD j []=l:=by rw[List.getD_eq_getElem?_getD,List.getElem?_eq_getElem hj,e];rfl
 rw[e2] at h3 h4
 exact⟨byteL_wf h3,h4⟩
structure RC where
 A:Option Addr
 c:Nat
 root:List Int
 times:Int
def encR (r:RC):List Value:=[.slice r.A r.root.length r.c, .int .i64 r.times]
def RC.rt (r:RC):RT:=(r.root,r.times)
def rdG (l:List RC) (i:Int):RC:=l.getD i.toNat ⟨none,0,[],0⟩
def rgs (l:List RC):List Value:=l.flatMap encR
def RgR (Rs:List Row) (l:List RC):Prop:= ∀r∈l,aO r.root∧ ∀(B:Nat) (w0 w:World),Hp B w0 w Rs→Rd w r.A r.root.length r.c 1 (ints .u8 r.root)
theorem RgR.nil (Rs:List Row):RgR Rs []:=fun r h=>by cases h
theorem RgR.weak {Rs Rs':List Row} {l:List RC} (h:RgR Rs l) (hr: ∀B w0 w,Hp B w0 w Rs'→Hp B w0 w Rs):RgR Rs' l:=fun r h'=>⟨(h r h').1,fun B w0 w hw=>(h r h').2 B w0 w (hr B w0 w hw)⟩
theorem RgR.right {Rs:List Row} {l:List RC} (h:RgR Rs l) (X:List Row):RgR (X++Rs) l:=h.weak fun _ _ _ hw=>hw.right
theorem RgR.snoc {Rs:List Row} {l:List RC} {e m:Nat} {A:Option Addr} {c:Nat} {u:List Int} {t:Int} {ro:Bool} (h:RgR Rs l) (hm:m=u.length) (hb:aO u):RgR (⟨e,1,A,m,c,ints .u8 u,ro⟩::Rs) (l++[⟨A,c,u,t⟩]):=fun r hr=>by
 subst hm
 rcases List.mem_append.1 hr with hr|hr
 ·exact⟨(h r hr).1,fun B w0 w hw=>(h r hr).2 B w0 w hw.tail⟩
 ·obtain rfl:=List.mem_singleton.1 hr
  exact⟨hb,fun B w0 w hw=>rdr (R:=⟨e,1,A,u.length,c,ints .u8 u,ro⟩::Rs) 0 rfl w hw⟩
theorem RgR.perm {Rs:List Row} {l m:List RC} (h:RgR Rs l) (hp:m.Perm l):RgR Rs m:=fun r hr=>h r (hp.subset hr)
theorem aCv (l:List RC):(rgs l).length=l.length*2:=aOx (enc:=encR) (fun _=>rfl) l
theorem aCw (l m:List RC):rgs (l++m)=rgs l++rgs m:=List.flatMap_append
theorem aTd (l:List RC): ∀v∈rgs l,v.oneCell'=true:=fun v hv=>by
 obtain⟨r,_,h⟩:=List.mem_flatMap.1 hv
 simp only[encR,List.mem_cons,List.not_mem_nil,or_false] at h
 rcases h with rfl|rfl<;>rfl
theorem aPg (x:RC): ∀v∈encR x,v.oneCell'=true:=fun v hv=>by
 simp only[encR,List.mem_cons,List.not_mem_nil,or_false] at hv
 rcases hv with rfl|rfl<;>rfl
theorem aCz {l:List RC} {i:Int} (h0:0≤i) (h1:i<l.length):rdG l i∈l:=by
 unfold rdG
 rw[List.getD_eq_getElem?_getD,List.getElem?_eq_getElem (by omega)]
 exact List.getElem_mem _
theorem aYw {l:List RC} {i:Int} (h0:0≤i) (h1:i<l.length):((rgs l).drop (i.toNat*2)).take 2=encR (rdG l i):=by
 have e:l=l.take i.toNat++rdG l i::l.drop (i.toNat+1):=by
  conv=>lhs;rw[←List.take_append_drop i.toNat l]
  congr 1
  rw[List.drop_eq_getElem_cons (by omega)]
  congr 1
  unfold rdG
  rw[List.getD_eq_getElem?_getD,List.getElem?_eq_getElem (by omega)]
  rfl
 have hl:(rgs (l.take i.toNat)).length=i.toNat*2:=by rw[aCv,List.length_take,Nat.min_eq_left (by omega)]
 have e2:rgs l=rgs (l.take i.toNat)++(encR (rdG l i)++rgs (l.drop (i.toNat+1))):=by
  conv=>lhs;rw[e]
  rw[aCw]
  rfl
 rw[e2,List.drop_left' hl]
 rfl
theorem bBq {x:Operand} {t:TypeId} {d:TypeDesc} {A:Option Addr} {m c:Nat} {l:List RC} {i:Int} (hu:P.underlying t=some d) (hd:JW d=true) (hst:(P.info? t).map (·.size)=some 2) (hx:ev L x=some (.pointer (pat A (i.toNat*2)))) (hr:RdC B w0 R A m c 2 (rgs l)) (h0:0≤i) (h1:i<l.length):
  Yl P n B w0 (.load t x) ty L R (.agg #[.slice (rdG l i).A (rdG l i).root.length (rdG l i).c, .int .i64 (rdG l i).times]):=by
 have:=aKb (P:=P) (n:=n) (B:=B) (w0:=w0) (R:=R) (ty:=ty) hu hd hst hx rfl hr (by rw[aCv];omega) (by omega)
 rwa[aYw h0 h1] at this
theorem aJs {s x:Operand} {t e:TypeId} {z:Value} {bytes m p c c2:Nat} {A A2:Option Addr} {l news:List RC} (i:Nat) (hi:R[i]? =some ⟨e,2,A,p,c,rgs l,false⟩) (ht:P.underlying t=some (.slice e)) (hinfo:(P.info? e).map (fun i=>(i.zero,i.size,i.bytes))=some (some z,2,bytes)) (hz:z.cells.size=2) (hb0:Nat.blt 0 bytes=true)
  (hs:ev L s=some (.slice A p c)) (hx:ev L x=some (.slice A2 m c2)) (hrd:RdC B w0 R A2 m c2 2 (rgs news)) (hbytes:(p+m)*bytes≤140737488355328):
  Ac P n B w0 (.call {callee:= .builtin .append,args:= #[s,x],argTypes:= #[t,t]}) ty L R (fun v R'=> ∃A' c',v= .slice A' (p+m) c'∧R'=R.set i ⟨e,2,A',p+m,c',rgs (l++news),false⟩):=by
 have:=rG (P:=P) (n:=n) (B:=B) (w0:=w0) (ty:=ty) i hi rfl ht hinfo hz rfl hb0 hs hx hrd (aTd news) hbytes
 simp only[←aCw] at this
 exact this
theorem bAx {t e:TypeId} {x:Operand} (r:RC) (ht:P.underlying t=some (.slice e)) (hinfo:(P.info? e).map (fun i=>(i.zero,i.size))=some (some (.agg #[.slice none 0 0, .int .i64 0]),2)) (hx:ev L x=some (.agg #[.slice r.A r.root.length r.c, .int .i64 r.times])):
  Ac P n B w0 (.buildSlice t 1 #[(0,x)]) ty L R (fun v R'=> ∃g,v= .slice (some ⟨g,0,none⟩) 1 1∧R'=⟨e,2,some ⟨g,0,none⟩,1,1,rgs [r],false⟩::R):=by
 have hv:evp L [(0,x)]=some [(0, .agg #[.slice r.A r.root.length r.c, .int .i64 r.times])]:=by simp[evp,hx]
 exact nZ (P:=P) (n:=n) (B:=B) (w0:=w0) (L:=L) (R:=R) (ty:=ty) (len:=1) (ps:=[(0,x)]) (cells:= #[.slice r.A r.root.length r.c, .int .i64 r.times]) ht hinfo hv (by decide) (by decide) (by kernel_rfl) (by rfl)
end
end Go.Eng
namespace Go.Proofs.YtdbebmmhdefgdaaGreat
open Go Go.Eng Go.Pure
set_option maxRecDepth 100000
variable {w:World} {x:Int}
theorem NE:
  Ct Tryz.prog 194 #[I x] w.heap.size w [] (fun v R'=>v= .bool false):=by
 refine fn1 Tryz.func194 Z Z Z ?_
 refine wq<|wn Z<|wq<|wm Z<|wm Z<|wy (Yl.f (jA Z Z))<|wn Z<|dJ ?_
 refine⟨_,Z,?_⟩
 rfl
theorem nJ {y:Int}:
  Ct Tryz.prog 121 #[I x,I y] w.heap.size w [] (fun v R'=>v=I (kE x y)):=by
 refine fn1 Tryz.func121 Z Z Z ?_
 refine wq<|wn Z<|wq<|wm Z<|wa (aF aXp Z (Ct.quiet (fun w hw=>NE))) ?_
 rintro _ _ ⟨rfl,rfl⟩
 refine wn Z<|wq<|wm Z<|wa (aF aXp Z (Ct.quiet (fun w hw=>NE))) ?_
 rintro _ _ ⟨rfl,rfl⟩
 refine wn Z<|aG<|wq<|wm Z<|aA<|aL Z<|aK<|aG<|wq<|wm Z<|aA<|aL Z ?_
 refine aK<|aG<|wq<|wm Z<|wm Z<|wL Z Z<|aA<|bM Z (fun hc1=> ?_) (fun hc1=> ?_)
 ·refine wq<|wn Z<|dJ ?_
  refine⟨_,Z,?_⟩
  exact congrArg (Value.int .i64) (by unfold kE;rw[if_pos (by omega)])
 ·refine aK<|aG<|wq<|wm Z<|wm Z<|wy (dV Z Z)<|aA<|bM Z (fun hc2=> ?_) (fun hc2=> ?_)
  ·refine wq<|wn Z<|dJ ?_
   refine⟨_,Z,?_⟩
   exact congrArg (Value.int .i64) (by unfold kE;rw[if_neg (by omega),if_pos (by omega)])
  ·refine aK<|wq<|wn Z<|dJ ?_
   refine⟨_,Z,?_⟩
   exact congrArg (Value.int .i64) (by unfold kE;rw[if_neg (by omega),if_neg (by omega)])
open Tryz
variable {w:World} {A_u:Option Addr} {n_u c_u:Nat} {u:List Int}
theorem aZm (h_u:Rd w A_u n_u c_u 1 (ints .u8 u)) (bh_u:aO u) (hN:u.length≤1000000):
  Ct Tryz.prog 116 #[.slice A_u n_u c_u] w.heap.size w [] (fun v R'=> ∃A c,v= .slice A (lw u).length c∧R'=[(ru 5 A ((lw u).length) c (lw u))]):=by
 obtain rfl:=h_u.lenI
 refine fn1 Tryz.func116 Z Z Z ?_
 have m_u:=h_u.max
 have hlr:=aUm u
 have hfe:([u.drop (qI u).toNat,u.take (qI u).toNat]:List (List Int)).flatten=lw u:=by simp[lw,vR]
 have hlw:=IG u
 refine wq<|wn Z<|wq<|wm Z<|wa (aF bDy Z (Ct.quiet (fun w hw=>bAu ((h_u.c _) w hw) (by first|assumption|omega|decide)))) ?_
 rintro _ _ ⟨rfl,rfl⟩
 refine wn Z<|aG<|bT mixed<|wD 0 Z (aN Z)<|wD 1 Z (aN Z)<|wD 2 Z (iP underlying22 sz5 Z Z)<|wD 3 Z (aN Z)<|wD 4 Z (aN Z)<|wD 5 Z (gD underlying22 sz5 Z Z (h_u.c _)) ?_
 have hsw:SlW .u8 w [.slice (iY A_u (qI u).toNat c_u 1) (u.length-(qI u).toNat) (c_u-(qI u).toNat), .slice A_u ((qI u).toNat) c_u] [u.drop (qI u).toNat,u.take (qI u).toNat]:=((iZ _ _).snoc (h_u.fromI (l:=(qI u).toNat) (by omega)) (fun x hx=>fH (bh_u x (List.mem_of_mem_drop hx))) (by rw[List.length_drop];omega)).snoc (h_u.toI (by omega)) (fun x hx=>fH (bh_u x (List.mem_of_mem_take hx))) (by rw[List.length_take];omega)
 refine wC 6 Z (nN [Value.slice (iY A_u (qI u).toNat c_u 1) (u.length-(qI u).toNat) (c_u-(qI u).toNat),Value.slice A_u ((qI u).toNat) c_u] underlying23 xG Z Z Z Z) ?_
 rintro _ _ ⟨g_2,rfl,rfl⟩
 refine⟨.inr fun _ h=>h.right (R':=[_]),?_⟩
 refine wC 7 Z (aF KT Z (Ct.fresh (fun w hw=>jN ((rdr 0 Z) w hw) (hsw.c hw) (by rw[hfe];exact⟨by omega,by simp⟩)))) ?_
 rintro _ _ ⟨_,rfl,A_3,c_4,rfl,rfl⟩
 refine⟨.inr fun _ h=>h.right (R':=[_]),?_⟩
 refine wD 8 Z (bQ Z)<|wN<|aT [0] 99 (by decide) Z ?_
 refine⟨_,Z,?_⟩
 rw[hfe]
 exact⟨_,_,Z,Z⟩
theorem lG (h_u:Rd w A_u n_u c_u 1 (ints .u8 u)) (hN:u.length≤1000000):
  Ct Tryz.prog 57 #[.slice A_u n_u c_u] w.heap.size w [] (fun v R'=> ∃A c,v= .slice A (u).length c∧R'=[(ru 5 A ((u).length) c (u))]):=by
 obtain rfl:=h_u.lenI
 refine fn1 Tryz.func57 Z Z Z ?_
 have m_u:=h_u.max
 refine wq<|dH (R1:=[(ru 5 none 0 0 ([]))]) (Sub.refl _) (fun _ h=>h.nil 5 1)<|wn Z<|aG<|wq<|wm Z<|wy (aBw underlying22 Z Z)<|aA<|EW Z (fun hc1=> ?_) (fun hc1=> ?_)
 ·refine wq<|wn Z<|aT [0] 99 (by decide) Z ?_
  refine⟨_,Z,?_⟩
  obtain rfl:=aGl h_u hc1
  exact⟨_,_,Z,Z⟩
 ·refine aK<|wq<|wa (bS .u8 [] underlying22 zs5 Z Z Z) ?_
  rintro _ _ ⟨g_2,rfl,rfl⟩
  refine wm Z<|wa (bE 0 Z underlying22 zb5 Z Z Z (h_u.c _)) ?_
  rintro _ _ ⟨A_3,c_4,rfl,rfl⟩
  refine bN (v:= .slice A_3 (0+u.length) c_4) Z<|wn Z<|aT [0] 99 (by decide) Z ?_
  refine⟨_,Z,?_⟩
  simp only[List.nil_append,Nat.zero_add]
  exact⟨_,_,Z,Z⟩
theorem QA {A_t:Option Addr} {n_t c_t:Nat} {t:List Int} (h_u:Rd w A_u n_u c_u 1 (ints .u8 u)) (h_t:Rd w A_t n_t c_t 1 (ints .u8 t)) (bh_u:aO u) (bh_t:aO t):
  Ct Tryz.prog 120 #[.slice A_u n_u c_u, .slice A_t n_t c_t] w.heap.size w [] (fun v R'=>v=I (cmpL u t)):=by
 obtain rfl:=h_u.lenI
 obtain rfl:=h_t.lenI
 refine fn1 Tryz.func120 Z Z Z ?_
 have m_u:=h_u.max
 have m_t:=h_t.max
 refine wq<|wn Z<|wq<|wm Z<|wm Z<|wa (bFc Tryz.func193 (by kernel_rfl) (by kernel_rfl) (by kernel_rfl) (by kernel_rfl) Z Z (h_u.c _) (h_t.c _) bh_u bh_t) ?_
 rintro _ _ ⟨rfl,rfl⟩
 refine wn Z<|dJ ?_
 refine⟨_,Z,?_⟩
 rfl
theorem NW {L:List Int} {i z:Int} (i1:1≤i) (hi:i<u.length) (hl:L.length=u.length) (hM: ∀j:Int,0≤j→j<i→j<u.length→MB u (j+1).toNat (rd L j)) (h:MB u (i.toNat+1) z): ∀j:Int,0≤j→j<i+1→j<u.length→MB u (j+1).toNat (rd (upd L i z) j):=fun j h0 h1 h2=>by
 by_cases e:j=i
 ·subst e
  rw[eF (by omega) (by omega),show(j+1).toNat=j.toNat+1 by omega]
  exact h
 ·rw [eQ (by omega) h0 (fun q=>e q.symm)]
  exact hM j h0 (by omega) h2
set_option maxHeartbeats 800000 in
theorem aBd (h_u:Rd w A_u n_u c_u 1 (ints .u8 u)) (hN:u.length≤1000000):
  Ct Tryz.prog 242 #[.slice A_u n_u c_u] w.heap.size w [] (fun v R'=> ∃(A:Option Addr) (c:Nat) (L:List Int),v= .slice A L.length c∧L.length=u.length∧(∀j:Int,0≤j→j<u.length→j<u.length→MB u (j+1).toNat (rd L j))∧R'=[(ri 3 A L.length c L)]):=by
 obtain rfl:=h_u.lenI
 refine fn1 Tryz.func242 Z Z Z ?_
 have m_u:=h_u.max
 refine wq<|wn Z<|wq<|wm Z<|wy (aQ underlying22 Z)<|wa (dE underlying52 zb3 Z Z) ?_
 rintro _ _ ⟨g_1,rfl,rfl⟩
 refine iW (R1:=[(ri 3 (GG g_1) u.length u.length (List.replicate u.length (0:Int)))]) Z<|bN (v:= .slice (GG g_1) u.length u.length) Z<|wn Z<|wq<|wn Z<|aG<|wq<|wn Z<|aI ?_
 refine fU (fun(i:Int) (z:Int) (L:List Int)=>[(0, .slice A_u u.length c_u),(3, .slice (GG g_1) u.length u.length),(4,I z),(5,I i)]) (fun i z L=>[(ri 3 (GG g_1) u.length u.length L)]) (fun i z L=>(1≤i)∧(i≤u.length∨i=1)∧(L.length=u.length)∧(∀j:Int,0≤j→j<i→j<u.length→MB u (j+1).toNat (rd L j))∧(MB u i.toNat z)) (fun i z L=>(u.length-i).toNat) ?_ ?_
 ·exact⟨1,0,List.replicate u.length (0:Int),⟨by omega,by omega,(by rw[List.length_replicate]),(fun j h0 h1 h2=>by obtain rfl:j=0:=(by omega);have e:rd (List.replicate u.length (0:Int)) 0=0:=(by unfold rd;rw[List.getD_eq_getElem?_getD,List.getElem?_replicate];split<;>rfl);rw[e];exact MB.one),(MB.one)⟩,(G4 rfl rfl rfl rfl),fun _ h=>h⟩
 intro i z L ⟨hi1,hi2,hLl,hM,hn⟩
 refine aG<|wq<|wm Z<|wm Z<|wy (aQ underlying22 Z)<|wL Z Z<|aA<|bM Z (fun hc1=> ?_) (fun hc1=> ?_)
 ·refine aK<|aG<|aI<|aG<|aI ?_
  refine rT (fun(m:Int)=>[(0, .slice A_u u.length c_u),(3, .slice (GG g_1) u.length u.length),(4,I m),(5,I i)]) (fun m=>[(ri 3 (GG g_1) u.length u.length L)]) (fun m=>(KI u i.toNat m)) (fun m=>m.toNat) ?_ ?_
  ·exact⟨z,(KI.init hn),(G4 Z Z Z Z),fun _ h=>h⟩
  intro m hK
  have hKb:=hK.bd
  refine aG ?_
  refine xN [(0, .slice A_u u.length c_u),(3, .slice (GG g_1) u.length u.length),(4,I m),(5,I i),(27, .bool (decide ((0<m)∧((rd u i)≠(rd u m)))))] [(ri 3 (GG g_1) u.length u.length L)] ?_ ?_
  ·refine bT mixed<|wD 0 Z (aN Z)<|wD 1 Z (dV Z Z)<|wD 2 Z (aN Z)<|pX 17 Z (fun hc2=> ?_) (fun hc2=> ?_)
   ·refine wG 3 Z Z Z (aN Z)<|wG 4 Z Z Z (aN Z)<|wG 5 Z Z Z (aH underlying22 sz5 Z Z (h_u.c _))<|wG 6 Z Z Z (aX underlying5 Z Z (h_u.c _))<|wG 7 Z Z Z (aN Z)<|wG 8 Z Z Z (aN Z)<|wG 9 Z Z Z (aH underlying22 sz5 Z Z (h_u.c _))<|wG 10 Z Z Z (aX underlying5 Z Z (h_u.c _))<|wG 11 Z Z Z (jA Z Z)<|wD 12 Z (bA Z Z)<|wN ?_
    exact⟨(sc Z (sc Z (sc Z (sc Z (Sub.to Z mbA Sub.nil))))),fun _ h=>h⟩
   ·refine wO 3 Z Z Z<|wO 4 Z Z Z<|wO 5 Z Z Z<|wO 6 Z Z Z<|wO 7 Z Z Z<|wO 8 Z Z Z<|wO 9 Z Z Z<|wO 10 Z Z Z<|wO 11 Z Z Z<|wD 12 Z (aS Z Z)<|wN ?_
    exact⟨(sc Z (sc Z (sc Z (sc Z (Sub.to Z mfA Sub.nil))))),fun _ h=>h⟩
  refine bM Z (fun hc3=> ?_) (fun hc3=> ?_)
  ·have hst:rd u m≠rd u i:=fun e=>hc3.2 e.symm
   have hMm:=hM (m-1) (by omega) (by omega) (by omega)
   rw[show(m-1+1).toNat=m.toNat by omega] at hMm
   refine aK<|aI<|aM<|wm Z<|wm Z<|wS Z Z<|wy (aH underlying52 sz3 Z Z (rdr 0 Z))<|wy (aX underlying3 Z Z (rdr 0 Z))<|wn Z ?_
   exact⟨rd L (m-1),(hK.step (by rw[←IJ,←IJ];exact hst) hMm),(by have:=hMm.bd;omega),(G4 Z Z Z Z),fun _ h=>h⟩
  ·refine aZ<|aG<|aG<|bT mixed<|wD 0 Z (aN Z)<|wD 1 Z (aN Z)<|wD 2 Z (aH underlying22 sz5 Z Z (h_u.c _))<|wD 3 Z (aX underlying5 Z Z (h_u.c _))<|wD 4 Z (aN Z)<|wD 5 Z (aN Z)<|wD 6 Z (aH underlying22 sz5 Z Z (h_u.c _))<|wD 7 Z (aX underlying5 Z Z (h_u.c _))<|wD 8 Z (bC Z Z)<|wN<|bM Z (fun hc4=> ?_) (fun hc4=> ?_)
   ·have hmb:=hK.hit (by rw[←IJ,←IJ];exact hc4.symm)
    refine aM<|wm Z<|wA Z Z<|wn Z<|aM<|wm Z<|wm Z<|wm Z<|wy (aH underlying52 sz3 Z Z (rdr 0 Z))<|bY (bG 0 Z sz3 Z Z) ?_
    rintro _ _ rfl
    refine iW (R1:=[(ri 3 (GG g_1) u.length u.length (upd L i (m+1)))]) Z<|aA<|aM<|wm Z<|wA Z Z<|wn Z ?_
    exact⟨i+1,m+1,upd L i (m+1),⟨by omega,by omega,(by rw[aV];exact hLl),(NW hi1 (by omega) hLl hM hmb),(by rw[show(i+1).toNat=i.toNat+1 by omega];exact hmb)⟩,by omega,(G4 Z Z Z Z),fun _ h=>h⟩
   ·have hmb:=hK.miss (by omega) (by rw[←IJ,←IJ];exact fun e=>hc4 e.symm)
    refine aK<|aM<|wm Z<|wm Z<|wm Z<|wy (aH underlying52 sz3 Z Z (rdr 0 Z))<|bY (bG 0 Z sz3 Z Z) ?_
    rintro _ _ rfl
    refine iW (R1:=[(ri 3 (GG g_1) u.length u.length (upd L i m))]) Z<|aA<|aM<|wm Z<|wA Z Z<|wn Z ?_
    exact⟨i+1,m,upd L i m,⟨by omega,by omega,(by rw[aV];exact hLl),(NW hi1 (by omega) hLl hM hmb),(by rw[show(i+1).toNat=i.toNat+1 by omega];exact hmb)⟩,by omega,(G4 Z Z Z Z),fun _ h=>h⟩
 ·refine aZ<|wq<|wm Z<|wn Z<|bR (R1:=[(ri 3 (GG g_1) u.length u.length L)]) (fun _ h=>h.sel [0] (by decide) Z) ?_
  refine⟨_,Z,?_⟩
  exact⟨_,_,L,by rw[hLl],hLl,fun j h0 h1 _=>hM j h0 (by omega) h1,by rw[hLl]⟩
theorem aHg (h_u:Rd w A_u n_u c_u 1 (ints .u8 u)) (hN:u.length≤1000000):
  Ct Tryz.prog 189 #[.slice A_u n_u c_u] w.heap.size w [] (fun v R'=>v=I (lp u)):=by
 obtain rfl:=h_u.lenI
 refine fn1 Tryz.func189 Z Z Z ?_
 have m_u:=h_u.max
 refine wq<|wn Z<|aG<|wq<|wm Z<|wy (aQ underlying22 Z)<|wy (bC Z Z)<|aA<|bM Z (fun hc1=> ?_) (fun hc1=> ?_)
 ·refine wq<|wn Z<|dJ ?_
  refine⟨_,Z,?_⟩
  exact congrArg (Value.int .i64) (by rw[List.eq_nil_of_length_eq_zero (show u.length=0 by omega)];rfl)
 ·refine aK<|wq<|wm Z<|wy (aQ underlying22 Z)<|wm Z<|wa (aF bDm Z (Ct.fresh (fun w hw=>aBd ((h_u.c _) w hw) (by first|assumption|omega|decide)))) ?_
  rintro _ _ ⟨_,rfl,A_1,c_2,L_3,rfl,hLl,hLM,rfl⟩
  refine wm Z<|wy (aQ underlying22 Z)<|wS Z Z<|wy (aH underlying52 sz3 Z Z (rdr 0 Z))<|wy (aX underlying3 Z Z (rdr 0 Z))<|wy (jF Z Z (by have hq:=(hLM (u.length-1) (by omega) (by omega) (by omega)).bd;omega)) ?_
  refine wn Z<|aT [] 99 (by decide) Z ?_
  refine⟨_,Z,?_⟩
  exact congrArg (Value.int .i64) (MB.least (by omega) (by have:=hLM (u.length-1) (by omega) (by omega) (by omega);rw[show((u.length:Int)-1+1).toNat=u.length by omega] at this;exact this))
theorem aLo (h_u:Rd w A_u n_u c_u 1 (ints .u8 u)) (hN:u.length≤1000000):
  Ct Tryz.prog 115 #[.slice A_u n_u c_u] w.heap.size w [] (fun v R'=> ∃(A:Option Addr) (c:Nat),v= .tuple #[.slice A (kI u).length c,I (iB u)]∧R'=[(ru 5 A ((kI u).length) c (kI u))]):=by
 obtain rfl:=h_u.lenI
 refine fn2 Tryz.func115 Z Z Z ?_
 have m_u:=h_u.max
 refine wq<|dH (R1:=[(ru 5 none 0 0 ([]))]) (Sub.refl _) (fun _ h=>h.nil 5 1)<|wg Z<|wn Z<|aG<|wq<|wm Z<|wy (aQ underlying22 Z)<|wy (bC Z Z)<|aA<|bM Z (fun hc1=> ?_) (fun hc1=> ?_)
 ·refine wq<|wg Z<|wn Z<|aT [0] 99 (by decide) Z ?_
  refine⟨_,_,Z,Z,?_⟩
  obtain rfl:=List.eq_nil_of_length_eq_zero (show u.length=0 by omega)
  exact⟨_,_,Z,Z⟩
 ·have hlp:=aNt (u:=u) (by omega)
  refine aK<|wq<|wm Z<|wa (aF bDz Z (Ct.quiet (fun w hw=>aHg ((h_u.c _) w hw) (by first|assumption|omega|decide)))) ?_
  rintro _ _ ⟨rfl,rfl⟩
  refine wn Z<|aG<|wq<|wm Z<|wy (aQ underlying22 Z)<|wm Z<|wy (BU Z Z)<|wy (jA Z Z)<|aA<|bM Z (fun hc2=> ?_) (fun hc2=> ?_)
  ·refine aM<|wm Z<|wy (aQ underlying22 Z)<|wn Z<|aG<|bT mixed<|wD 0 Z (aN Z)<|wD 1 Z (aN Z)<|wD 2 Z (gD underlying22 sz5 Z Z (h_u.c _))<|wD 4 Z (aN Z)<|wD 5 Z (aQ underlying22 Z)<|wD 6 Z (aN Z)<|wD 7 Z (OJ Z Z (by omega) (by omega) (by omega))<|wC 3 Z (aF VD Z (Ct.fresh (fun w hw=>lG ((RdC.toI (h_u.c _) (by omega)) w hw) (by rw[List.length_take];omega)))) ?_
   rintro _ _ ⟨_,rfl,A_1,c_2,rfl,rfl⟩
   refine⟨.inr fun _ h=>h.right (R':=[_]),?_⟩
   refine wD 8 Z (bQ Z)<|wD 9 Z (bQ Z)<|wN<|aT [0] 99 (by decide) Z ?_
   refine⟨_,_,Z,Z,?_⟩
   have e:rl u=u.length:=by unfold rl;rw[if_pos (by assumption)]
   unfold kI iB
   rw[e]
   exact⟨_,_,Z,Z⟩
  ·refine aK<|aG<|bT mixed<|wD 0 Z (aN Z)<|wD 1 Z (aN Z)<|wD 2 Z (gD underlying22 sz5 Z Z (h_u.c _))<|wD 4 Z (aN Z)<|wD 5 Z (aQ underlying22 Z)<|wD 6 Z (aN Z)<|wD 7 Z (OJ Z Z (by omega) (by omega) (by omega))<|wC 3 Z (aF VD Z (Ct.fresh (fun w hw=>lG ((RdC.toI (h_u.c _) (by omega)) w hw) (by rw[List.length_take];omega)))) ?_
   rintro _ _ ⟨_,rfl,A_4,c_5,rfl,rfl⟩
   refine⟨.inr fun _ h=>h.right (R':=[_]),?_⟩
   refine wD 8 Z (bQ Z)<|wD 9 Z (bQ Z)<|wN<|aT [0] 99 (by decide) Z ?_
   refine⟨_,_,Z,Z,?_⟩
   have e:rl u=lp u:=by unfold rl;rw[if_neg (by assumption)]
   unfold kI iB
   rw[e]
   exact⟨_,_,Z,Z⟩
variable {w w0:World} {A_u:Option Addr} {n_u c_u B g:Nat} {u:List Int} {R:List Row} {V:Int}
theorem PZ (h_u:Rd w A_u n_u c_u 1 (ints .u8 u)) (hN:u.length≤1000000):
  Ct Tryz.prog 50 #[.slice A_u n_u c_u] w.heap.size w [] (fun v R'=> ∃g A c,v= .pointer (GG g)∧R'=[(rc 146 1 g [.slice A u.length c]),(ru 5 A u.length c u)]):=by
 obtain rfl:=h_u.lenI
 refine fn1 Tryz.func50 Z Z Z ?_
 have m_u:=h_u.max
 refine wq<|wn Z<|wq<|wm Z<|wa (aF VD Z (Ct.fresh (fun w hw=>lG ((h_u.c _) w hw) hN))) ?_
 rintro _ _ ⟨_,rfl,A_1,c_2,rfl,rfl⟩
 refine wy (dY (v:= .agg #[.slice A_1 u.length c_2]) Z (fun w=>by kernel_rfl))<|wa (bX (sz:=1) rfl rfl) ?_
 rintro _ _ ⟨g_3,rfl,rfl⟩
 refine wn Z<|bR (R1:=[(rc 146 1 g_3 [.slice A_1 u.length c_2]),(ru 5 A_1 u.length c_2 u)]) (fun _ h=>h) ?_
 refine⟨_,Z,?_⟩
 exact⟨_,_,_,Z,Z⟩
theorem wH {k:Int} (h_u:RdC B w0 R A_u n_u c_u 1 (ints .u8 u)) (hn_u:n_u=u.length) (hN:u.length≤1000000) (hk:0≤k∧k≤u.length):
  Ct Tryz.prog 156 #[.pointer (GG g),I k] B w0 ((rc 146 1 g [.slice A_u n_u c_u])::R) (fun v R'=> ∃A1 c1,v= .tuple #[.slice A1 k.toNat c1, .bool true]∧R'=(ru 5 A1 k.toNat c1 (u.take k.toNat))::(rc 146 1 g [.slice ((iY A_u k.toNat c_u 1)) (n_u-k.toNat) (c_u-k.toNat)])::R):=by
 subst hn_u
 refine fn2 Tryz.func156 Z Z Z ?_
 refine wq<|wg Z<|wn Z<|aG<|wq<|wm Z<|wy (cZ underlying84 Z Z)<|wm Z<|aC Z Z<|wm Z<|aC Z Z<|wy (Yl.f (eP Z Z)) ?_
 refine wy (aS Z Z)<|wm Z<|aC Z Z<|wm Z<|aC Z Z<|wm Z<|aC Z Z<|wy (aD Z)<|aC Z Z<|wy (aB (off:=0) (m:=0) underlying146 Z dO Z Z Z)<|aC Z Z<|wy (aJ (rdr 0 Z) underlying22 Z Z Z)<|aC Z Z<|wy (aQ underlying22 Z)<|aC Z Z ?_
 refine wy (Yl.f (dV Z Z))<|wy (aS Z Z)<|aA<|aL Z<|aK<|wq<|wm Z<|wy (aD Z)<|wy (aB (off:=0) (m:=0) underlying146 Z dO Z Z Z)<|wy (aJ (rdr 0 Z) underlying22 Z Z Z)<|wm Z<|wy (gD underlying22 sz5 Z Z (RdC.right h_u [_]))<|wa (aF VD Z (Ct.fresh (fun w hw=>lG ((RdC.toI (RdC.right h_u [_]) (by omega)) w hw) (by rw[List.length_take];omega)))) ?_
 rintro _ _ ⟨_,rfl,A_1,c_2,rfl,rfl⟩
 refine wn Z<|wq<|wm Z<|wm Z<|wy (aD Z)<|wy (aB (off:=0) (m:=0) underlying146 Z dO Z Z Z)<|wy (aJ (rdr 1 Z) underlying22 Z Z Z)<|wm Z<|wy (iP underlying22 sz5 Z Z)<|wy (aD Z)<|wy (aB (off:=0) (m:=0) underlying146 Z dO Z Z Z)<|bY (aY 1 Z Z Z dO Z Z Z Z (Nat.le_of_ble_eq_true Z)) ?_
 rintro _ _ rfl
 refine aA<|wq<|wm Z<|wg Z<|wn Z<|bR (R1:=((ru 5 A_1 (((u).take (k).toNat).length) c_2 ((u).take (k).toNat))::(rc 146 1 g [.slice (iY A_u (k).toNat c_u 1) (u.length-(k).toNat) (c_u-(k).toNat)])::R)) (fun _ h=>h) ?_
 refine⟨_,_,Z,Z,?_⟩
 have e:(u.take k.toNat).length=k.toNat:=by rw[List.length_take];omega
 rw[e]
 exact⟨_,_,Z,Z⟩
theorem aHs {A_b:Option Addr} {n_b c_b:Nat} {b:List Int} {k:Nat} (h_b:Rd w A_b n_b c_b 1 (ints .u8 b)) (bh_b:aO b) (hN:b.length≤1000000) (h:sQ b V k):Ct Tryz.prog 227 #[.slice A_b n_b c_b] w.heap.size w [] (fun v R'=>v= .tuple #[.int .u64 V,I (k:Int), .bool true]):=
 (aUv h_b bh_b hN).mono fun v R' hv=>by
  rcases hv with⟨V',k',g,rfl⟩|⟨g,rfl⟩
  ·obtain ⟨rfl,rfl⟩:=g.one h
   rfl
  ·exact(g ⟨V,k,h⟩).elim
theorem OP {most:Int} {m:Nat} (h_u:RdC B w0 R A_u n_u c_u 1 (ints .u8 u)) (hn_u:n_u=u.length) (hN:u.length≤1000000) (bh_u:aO u) (hG:sQ u V m) (hm:V≤most) (hb:most≤9223372036854775807):
  Ct Tryz.prog 157 #[.pointer (GG g),I most] B w0 ((rc 146 1 g [.slice A_u n_u c_u])::R) (fun v R'=>v= .tuple #[I V, .bool true]∧R'=(rc 146 1 g [.slice (iY A_u m c_u 1) (n_u-m) (c_u-m)])::R):=by
 subst hn_u
 have hg1:=hG.1
 have hgm:m≤u.length:=by obtain⟨_,h2,t,h3⟩:=hG;have h4:=congrArg List.length h3;rw[List.length_append] at h4;omega
 refine fn2 Tryz.func157 Z Z Z ?_
 refine wq<|wg Z<|wn Z<|aG<|wq<|wm Z<|wy (cZ underlying84 Z Z)<|wm Z<|aC Z Z<|wm Z<|aC Z Z<|wy (Yl.f (eP Z Z)) ?_
 refine wy (aS Z Z)<|aA<|aL Z<|aK<|wq<|wm Z<|wy (aD Z)<|wy (aB (off:=0) (m:=0) underlying146 Z dO Z Z Z)<|wy (aJ (rdr 0 Z) underlying22 Z Z Z)<|wa (aF bDs Z (Ct.quiet (fun w hw=>aHs ((RdC.right h_u [_]) w hw) bh_u hN hG))) ?_
 rintro _ _ ⟨rfl,rfl⟩
 refine wm Z<|wX Z Z<|wX Z Z<|wX Z Z<|wg Z<|wg Z<|wn Z<|aG<|wq<|wm Z<|wy (dI Z)<|wm Z<|aC Z Z ?_
 refine wm Z<|aC Z Z<|wm Z<|aC Z Z<|wy (iU underlying3 underlying112 Z)<|aC Z Z<|wy (Yl.f (dV Z Z))<|wy (aS Z Z)<|aA<|aL Z<|aK<|wq<|wm Z<|wm Z ?_
 refine wy (aD Z)<|wy (aB (off:=0) (m:=0) underlying146 Z dO Z Z Z)<|wy (aJ (rdr 0 Z) underlying22 Z Z Z)<|wm Z<|wy (iP underlying22 sz5 Z Z)<|wy (aD Z)<|wy (aB (off:=0) (m:=0) underlying146 Z dO Z Z Z)<|bY (aY 0 Z Z Z dO Z Z Z Z (Nat.le_of_ble_eq_true Z)) ?_
 rintro _ _ rfl
 refine aA<|wq<|wm Z<|wy (iV underlying112 underlying3 Z)<|wg Z<|wn Z<|bR (R1:=((rc 146 1 g [.slice (iY A_u ((m:Int)).toNat c_u 1) (u.length-((m:Int)).toNat) (c_u-((m:Int)).toNat)])::R)) (fun _ h=>h) ?_
 refine⟨_,_,Z,Z,?_⟩
 exact⟨Z,Z⟩
variable {w:World} {k:Int}
theorem nI {A_ks:Option Addr} {n_ks c_ks:Nat} {ks:List Int} (h_ks:Rd w A_ks n_ks c_ks 1 (ints .i64 ks)) (hok:(0≤k∧k≤1048576)∧ ∀x∈ks,0≤x∧x<k):
  Ct Tryz.prog 264 #[.slice A_ks n_ks c_ks,I k] w.heap.size w [] (fun v R'=> ∃A c,v= .tuple #[.slice A k.toNat c, .bool true]∧R'=[(ri 3 A k.toNat c (dQ ks k))]):=by
 obtain rfl:=h_ks.lenI
 refine fn2 Tryz.func264 Z Z Z ?_
 have m_ks:=h_ks.max
 have hk:=hok.1
 refine wq<|wg Z<|wn Z<|aG<|wq<|wm Z<|wL Z Z<|wm Z<|dS 3 [(0, .slice A_ks ks.length c_ks),(1,I k),(14, .bool (decide ((k<0)∨(1048576<k))))] [] ?_ ?_
 ·refine dC 11 Z (fun hc1=> ?_) (fun hc1=> ?_)
  ·refine aP Z Z Z Z<|aP Z Z Z Z<|wy (bA Z Z)<|aA ?_
   exact⟨(sc Z (sc Z (Sub.to Z mtA Sub.nil))),fun _ h=>h⟩
  ·refine aC Z Z<|wm Z<|aC Z Z<|wy (dV Z Z)<|wy (aS Z Z)<|aA ?_
   exact⟨(sc Z (sc Z (Sub.to Z mbA Sub.nil))),fun _ h=>h⟩
 refine uX 14 Z (by omega)<|aA<|aL Z<|aK<|wq<|wm Z<|wa (dE underlying52 zb3 Z Z) ?_
 rintro _ _ ⟨g_1,rfl,rfl⟩
 refine bN (v:= .slice (GG g_1) ((k).toNat) ((k).toNat)) Z<|wn Z<|aG<|wq<|wm Z<|wy (aQ underlying52 Z)<|wm Z<|aA<|aI ?_
 refine dR (fun(m:Int) (V:List Int)=>[(1,I k),(6, .slice (GG g_1) ((k).toNat) ((k).toNat)),(17, .slice A_ks ks.length c_ks),(18,I ((ks.length:Nat):Int)),(19,I m)]) (fun m V=>[(ri 3 (GG g_1) ((k).toNat) ((k).toNat) V)]) (fun m V=>(0≤m)∧(m≤ks.length)∧(V=dQ (ks.take m.toNat) k)) (fun m V=>(ks.length-m).toNat) ?_ ?_
 ·exact⟨0,List.replicate ((k).toNat) (0:Int),⟨by omega,by omega,((WF k).symm)⟩,(G5 Z Z Z Z Z),fun _ h=>h⟩
 intro m V ⟨hm0,hm1,hV⟩
 refine wq<|wL Z Z<|aA<|aG<|bM Z (fun hc2=> ?_) (fun hc2=> ?_)
 ·have hx:=hok.2 _ (bH (L:=ks) hm0 (by omega))
  have hb:0≤rd V (rd ks m)∧rd V (rd ks m)≤m:=by
   have a:=JF (ks:=ks.take m.toNat) (k:=k) (x:=rd ks m)
   rw[←hV,List.length_take] at a
   omega
  refine aK<|aG<|aI<|wq<|wy (aH underlying52 sz3 Z Z (h_ks.c _))<|wy (aX underlying3 Z Z (h_ks.c _))<|wn Z<|aG<|wq<|wm Z<|wL Z Z<|wm Z ?_
  refine dS 4 [(1,I k),(6, .slice (GG g_1) ((k).toNat) ((k).toNat)),(8,I (rd ks m)),(17, .slice A_ks ks.length c_ks),(18,I ((ks.length:Nat):Int)),(19,I m),(29, .bool (decide (((rd ks m)<0)∨(k≤(rd ks m)))))] [(ri 3 (GG g_1) ((k).toNat) ((k).toNat) V)] ?_ ?_
  ·refine dC 25 Z (fun hc3=> ?_) (fun hc3=> ?_)
   ·refine aP Z Z Z Z<|aP Z Z Z Z<|aP Z Z Z Z<|wy (bA Z Z)<|aA ?_
    exact⟨(sc Z (sc Z (sc Z (sc Z (sc Z (sc Z (Sub.to Z mtA Sub.nil))))))),fun _ h=>h⟩
   ·refine aC Z Z<|wm Z<|aC Z Z<|wm Z<|aC Z Z<|wy (jG Z Z)<|wy (aS Z Z)<|aA ?_
    exact⟨(sc Z (sc Z (sc Z (sc Z (sc Z (sc Z (Sub.to Z mbA Sub.nil))))))),fun _ h=>h⟩
  refine uX 29 Z (by omega)<|aA<|aL Z<|aK<|aM<|wm Z<|wm Z<|wy (aH underlying52 sz3 Z Z (rdr 0 Z))<|wy (aX underlying3 Z Z (rdr 0 Z))<|wA Z Z<|wy (aH underlying52 sz3 Z Z (rdr 0 Z))<|bY (bG 0 Z sz3 Z Z) ?_
  rintro _ _ rfl
  refine aA<|aM<|wA Z Z<|wm Z<|aA ?_
  exact⟨m+1,upd V (rd ks m) ((rd V (rd ks m))+1),⟨by omega,by omega,(by rw[dD hm0 (by omega),←NS hx.1 hx.2,←hV])⟩,by omega,(G5 Z Z Z Z Z),fun _ h=>h⟩
 ·refine aZ<|wq<|wm Z<|wg Z<|wn Z<|aT [0] 99 (by decide) Z ?_
  refine⟨_,_,Z,Z,?_⟩
  have e:ks.take m.toNat=ks:=List.take_of_length_le (by omega)
  rw[e] at hV
  subst hV
  exact⟨_,_,Z,Z⟩
theorem vB {A_cs:Option Addr} {n_cs c_cs:Nat} {cs:List Int} (h_cs:Rd w A_cs n_cs c_cs 1 (ints .i64 cs)) (hcs: ∀x∈cs,0≤x) (hsum:cs.sum≤1000000000) (hcl:cs.length≤1048576):
  Ct Tryz.prog 280 #[.slice A_cs n_cs c_cs] w.heap.size w [] (fun v R'=> ∃A c,v= .slice A (bZ cs).length c∧R'=[(ri 3 A ((bZ cs).length) c (bZ cs))]):=by
 obtain rfl:=h_cs.lenI
 refine fn1 Tryz.func280 Z Z Z ?_
 have m_cs:=h_cs.max
 refine wq<|wn Z<|wq<|wm Z<|wy (aQ underlying52 Z)<|wa (dE underlying52 zb3 Z Z) ?_
 rintro _ _ ⟨g_1,rfl,rfl⟩
 refine bN (v:= .slice (GG g_1) cs.length cs.length) Z<|wn Z<|wq<|wn Z<|aG<|wq<|wm Z<|wy (aQ underlying52 Z)<|wm Z<|aA<|aI ?_
 refine fU (fun(i:Int) (n:Int) (V:List Int)=>[(3, .slice (GG g_1) cs.length cs.length),(4,I n),(10, .slice A_cs cs.length c_cs),(11,I ((cs.length:Nat):Int)),(12,I i)]) (fun i n V=>[(ri 3 (GG g_1) cs.length cs.length V)]) (fun i n V=>(0≤i)∧(i≤cs.length)∧(n=ps cs i)∧(V.length=cs.length)∧(∀j:Int,0≤j→j<i→rd V j=ps cs j)) (fun i n V=>(cs.length-i).toNat) ?_ ?_
 ·exact⟨0,0,List.replicate cs.length (0:Int),⟨by omega,by omega,(Z),(by rw[List.length_replicate]),(fun j h1 h2=>by omega)⟩,(G5 rfl rfl rfl rfl rfl),fun _ h=>h⟩
 intro i n V ⟨hi0,hi1,hn,hl,hV⟩
 refine wq<|wL Z Z<|aA<|aG<|bM Z (fun hc1=> ?_) (fun hc1=> ?_)
 ·have hb1:=tZ hcs i
  have hb2:=tZ hcs (i+1)
  rw[lS hi0 (by omega)] at hb2
  refine aK<|aG<|aI<|wq<|wm Z<|wy (aH underlying52 sz3 Z Z (h_cs.c _))<|wy (aX underlying3 Z Z (h_cs.c _))<|wg Z<|wn Z<|wq<|wm Z<|wm Z ?_
  refine wm Z<|wy (aH underlying52 sz3 Z Z (rdr 0 Z))<|bY (bG 0 Z sz3 Z Z) ?_
  rintro _ _ rfl
  refine aA<|aM<|wm Z<|wm Z<|wA Z Z<|wn Z<|aM<|wA Z Z<|wm Z<|aA ?_
  exact⟨i+1,n+(rd cs i),upd V i n,⟨by omega,by omega,(by rw[lS hi0 (by omega),hn]),(by rw[aV];exact hl),(eH hi0 (by omega) hV hn)⟩,by omega,(G5 Z Z Z Z Z),fun _ h=>h⟩
 ·refine aZ<|wq<|wm Z<|wn Z<|aT [0] 99 (by decide) Z ?_
  refine⟨_,Z,?_⟩
  obtain rfl:V=bZ cs:=bI (hl.trans (eD cs).symm) fun j h1 h2=>by rw[mM h1 (by omega)];exact hV j h1 (by omega)
  rw[eD]
  exact⟨_,_,Z,Z⟩
set_option maxHeartbeats 800000 in
theorem rY {A_order:Option Addr} {n_order c_order:Nat} {order:List Int} {A_keys:Option Addr} {n_keys c_keys:Nat} {keys:List Int} (h_order:Rd w A_order n_order c_order 1 (ints .i64 order)) (h_keys:Rd w A_keys n_keys c_keys 1 (ints .i64 keys)) (hk:0≤k∧k≤1048576) (hkeys: ∀x∈keys,0≤x∧x<k) (ho: ∀i∈order,0≤i∧i<keys.length) (hlen:order.length≤1000000):
  Ct Tryz.prog 239 #[.slice A_order n_order c_order, .slice A_keys n_keys c_keys,I k] w.heap.size w [] (fun v R'=> ∃A c,v= .tuple #[.slice A order.length c, .bool true]∧R'=[(ri 3 A order.length c (bW order keys k.toNat))]):=by
 obtain rfl:=h_order.lenI
 obtain rfl:=h_keys.lenI
 refine fn2 Tryz.func239 Z Z Z ?_
 have m_order:=h_order.max
 have m_keys:=h_keys.max
 have hko: ∀i∈order,0≤rd keys i∧rd keys i<k:=fun i hi=>hkeys _ (bH (ho i hi).1 (ho i hi).2)
 refine wq<|wg Z<|wn Z<|aG<|wq<|wm Z<|wm Z<|wa (aF VH Z (Ct.fresh (fun w hw=>nI ((h_keys.c _) w hw) ⟨hk,hkeys⟩))) ?_
 rintro _ _ ⟨_,rfl,A_1,c_2,rfl,rfl⟩
 refine wm Z<|wX Z Z<|wX Z Z<|wg Z<|wn Z<|wq<|wm Z<|wy (dI Z)<|aA<|aL Z<|aK<|wq ?_
 refine wm Z<|wa (dE underlying52 zb3 Z Z) ?_
 rintro _ _ ⟨g_4,rfl,rfl⟩
 refine bN (v:= .slice (GG g_4) ((k).toNat) ((k).toNat)) Z<|wn Z<|aG<|wq<|wm Z<|wy (aQ underlying52 Z)<|wm Z<|aA<|aI ?_
 refine dR (fun(m:Int) (V:List Int)=>[(0, .slice A_order order.length c_order),(1, .slice A_keys keys.length c_keys),(10, .slice (GG g_4) ((k).toNat) ((k).toNat)),(27, .slice A_order order.length c_order),(28,I ((order.length:Nat):Int)),(29,I m)]) (fun m V=>[(ri 3 (GG g_4) ((k).toNat) ((k).toNat) V),(ri 3 A_1 ((k).toNat) c_2 (dQ keys k))]) (fun m V=>(0≤m)∧(m≤order.length)∧(V=dQ ((order.take m.toNat).map (rd keys)) k)) (fun m V=>(order.length-m).toNat) ?_ ?_
 ·exact⟨0,List.replicate ((k).toNat) (0:Int),⟨by omega,by omega,((WF k).symm)⟩,(G6 Z Z Z Z Z Z),fun _ h=>h⟩
 intro m V ⟨hm0,hm1,hV⟩
 refine wq<|wL Z Z<|aA<|aG<|bM Z (fun hc1=> ?_) (fun hc1=> ?_)
 ·have hi:=ho _ (bH (L:=order) hm0 (by omega))
  have hx:=hko _ (bH (L:=order) hm0 (by omega))
  have hb:0≤rd V (rd keys (rd order m))∧rd V (rd keys (rd order m))≤m:=by
   have a:=JF (ks:=(order.take m.toNat).map (rd keys)) (k:=k) (x:=rd keys (rd order m))
   rw[←hV,List.length_map,List.length_take] at a
   omega
  have hVl:V.length=k.toNat:=by rw[hV,dM]
  refine aK<|aG<|aI<|wq<|wy (aH underlying52 sz3 Z Z (h_order.c _))<|wy (aX underlying3 Z Z (h_order.c _))<|wn Z<|aG<|wq<|wm Z<|wL Z Z<|wm Z ?_
  refine dS 5 [(0, .slice A_order order.length c_order),(1, .slice A_keys keys.length c_keys),(10, .slice (GG g_4) ((k).toNat) ((k).toNat)),(12,I (rd order m)),(27, .slice A_order order.length c_order),(28,I ((order.length:Nat):Int)),(29,I m),(40, .bool (decide (((rd order m)<0)∨(((keys.length:Nat):Int)≤(rd order m)))))] [(ri 3 (GG g_4) ((k).toNat) ((k).toNat) V),(ri 3 A_1 ((k).toNat) c_2 (dQ keys k))] ?_ ?_
  ·refine dC 35 Z (fun hc2=> ?_) (fun hc2=> ?_)
   ·refine aP Z Z Z Z<|aP Z Z Z Z<|aP Z Z Z Z<|aP Z Z Z Z<|wy (bA Z Z)<|aA ?_
    exact⟨(sc Z (sc Z (sc Z (sc Z (sc Z (sc Z (sc Z (Sub.to Z mtA Sub.nil)))))))),fun _ h=>h⟩
   ·refine aC Z Z<|wm Z<|aC Z Z<|wm Z<|aC Z Z<|wy (aQ underlying52 Z)<|aC Z Z<|wy (jG Z Z)<|wy (aS Z Z)<|aA ?_
    exact⟨(sc Z (sc Z (sc Z (sc Z (sc Z (sc Z (sc Z (Sub.to Z mbA Sub.nil)))))))),fun _ h=>h⟩
  refine uX 40 Z (by omega)<|aA<|aL Z<|aK<|aM<|wm Z<|wm Z<|wm Z<|wy (aH underlying52 sz3 Z Z (h_keys.c _))<|wy (aX underlying3 Z Z (h_keys.c _))<|wy (aH underlying52 sz3 Z Z (rdr 0 Z))<|wy (aX underlying3 Z Z (rdr 0 Z))<|wA Z Z<|wy (aH underlying52 sz3 Z Z (rdr 0 Z))<|bY (bG 0 Z sz3 Z Z) ?_
  rintro _ _ rfl
  refine aA<|aM<|wA Z Z<|wm Z<|aA ?_
  exact⟨m+1,upd V (rd keys (rd order m)) ((rd V (rd keys (rd order m)))+1),⟨by omega,by omega,(by rw[dD hm0 (by omega),List.map_append,List.map_singleton,←NS hx.1 hx.2,←hV])⟩,by omega,(G6 Z Z Z Z Z Z),fun _ h=>h⟩
 ·have hV2:V=(dQ (order.map (rd keys)) k):=by rw[hV,List.take_of_length_le (by omega)]
  have hSl:(bZ V).length=k.toNat:=by rw[eD,hV,dM]
  refine aZ<|wq<|wm Z<|wa (aF aEg Z (Ct.fresh (fun w hw=>vB ((rdr 0 Z) w hw) (by rw[hV2];exact lD _ _) (by rw[hV2,JE (by omega) hko];omega) (by rw[hV2,dM];omega)))) ?_
  rintro _ _ ⟨_,rfl,A_5,c_6,rfl,rfl⟩
  refine wn Z<|wq<|wm Z<|wy (aQ underlying52 Z)<|wa (dE underlying52 zb3 Z Z) ?_
  rintro _ _ ⟨g_7,rfl,rfl⟩
  refine bN (v:= .slice (GG g_7) order.length order.length) Z<|wn Z<|aG<|wq<|wm Z<|wy (aQ underlying52 Z)<|wm Z<|aA<|aI ?_
  refine fU (fun(q:Int) (S:List Int) (Lr:List Int)=>[(1, .slice A_keys keys.length c_keys),(13, .slice A_5 ((bZ V).length) c_6),(14, .slice (GG g_7) order.length order.length),(56, .slice A_order order.length c_order),(57,I ((order.length:Nat):Int)),(58,I q)]) (fun q S Lr=>[(ri 3 (GG g_7) order.length order.length Lr),(ri 3 A_5 ((bZ V).length) c_6 S),(ri 3 (GG g_4) ((k).toNat) ((k).toNat) V),(ri 3 A_1 ((k).toNat) c_2 (dQ keys k))]) (fun q S Lr=>(0≤q)∧(q≤order.length)∧(zW order keys S Lr k q)) (fun q S Lr=>(order.length-q).toNat) ?_ ?_
  ·exact⟨0,bZ V,List.replicate order.length (0:Int),⟨by omega,by omega,(by rw[hV2];exact YV)⟩,(G6 Z Z Z Z Z Z),fun _ h=>h⟩
  intro q S Lr ⟨hq0,hq1,hP⟩
  refine wq<|wL Z Z<|aA<|aG<|bM Z (fun hc3=> ?_) (fun hc3=> ?_)
  ·have hi:=ho _ (bH (L:=order) hq0 (by omega))
   have hx:=hko _ (bH (L:=order) hq0 (by omega))
   have hlt:=hP.lt hko hq0 (by omega)
   have hl1:=hP.len
   have hl2:=hP.alen
   refine aK<|aG<|aI<|wq<|wy (aH underlying52 sz3 Z Z (h_order.c _))<|wy (aX underlying3 Z Z (h_order.c _))<|wn Z<|wq<|wm Z<|wm Z<|wm Z<|wm Z ?_
   refine wy (aH underlying52 sz3 Z Z (h_keys.c _))<|wy (aX underlying3 Z Z (h_keys.c _))<|wy (aH underlying52 sz3 Z Z (rdr 1 Z))<|wy (aX underlying3 Z Z (rdr 1 Z))<|wm Z<|wy (aH underlying52 sz3 Z Z (rdr 0 Z))<|bY (bG 0 Z sz3 Z Z) ?_
   rintro _ _ rfl
   refine aA<|aM<|wm Z<|wm Z<|wm Z<|wy (aH underlying52 sz3 Z Z (h_keys.c _))<|wy (aX underlying3 Z Z (h_keys.c _))<|wy (aH underlying52 sz3 Z Z (rdr 1 Z))<|wy (aX underlying3 Z Z (rdr 1 Z))<|wA Z Z<|wy (aH underlying52 sz3 Z Z (rdr 1 Z))<|bY (bG 1 Z sz3 Z Z) ?_
   rintro _ _ rfl
   refine aA<|aM<|wA Z Z<|wm Z<|aA ?_
   exact⟨q+1,upd S (rd keys (rd order q)) ((rd S (rd keys (rd order q)))+1),upd Lr (rd S (rd keys (rd order q))) (rd order q),⟨by omega,by omega,(hP.step hko hq0 (by omega))⟩,by omega,(G6 Z Z Z Z Z Z),fun _ h=>h⟩
  ·refine aZ<|wq<|wm Z<|wg Z<|wn Z<|aT [0] 99 (by decide) Z ?_
   refine⟨_,_,Z,Z,?_⟩
   have e:=hP.done hko (by omega)
   subst e
   exact⟨_,_,Z,Z⟩
end Go.Proofs.YtdbebmmhdefgdaaGreat

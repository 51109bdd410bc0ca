/- Several texts of our own in one: E20, Q25, Q27, Q29, Q40, Q41, Q42, Q43, Q44, Q45, E25, E13, E14, E15, E16, E17, E32, E33, E34, E22, P6, Q47, Q48, E35, S5, P8, F8, Q36, N1, E18, E21. -/
import Derived.Lib.BytesEntry
import Derived.Lib.AppendZeros
import Derived.Lib.MakeNoZero
import Derived.Laws.Externs
import Derived.Stop.BytesEq
import Derived.LoopNIn
import Derived.Laws.CopyRow
import Derived.Laws.IdiomCopy
import Derived.Lib.BitFns
import Derived.Shelf.Small.Bits
import Derived.Test.YtdbebmmhdefgdaaGreatProg
import Derived.RangeFuncRecord
import Derived.RangeFuncSeq
import Derived.RangeFuncCalls
import Derived.RangeFuncKeeps
import Derived.RangeFuncBox
import Derived.Test.YtdbebmmhdefgdaaGreatM1
namespace Go.Eng
open Go Go.RowKit
def bools (l:List Bool):List Value:=l.map Value.bool
def rdb (l:List Bool) (i:Int):Bool:=l.getD i.toNat false
def jS (l:List Bool) (i:Int) (v:Bool):List Bool:=l.set i.toNat v
theorem AA (l:List Bool):(bools l).length=l.length:=by simp[bools]
theorem PV (l:List Bool) (i:Int) (v:Bool):(bools l).set i.toNat (.bool v)=bools (jS l i v):=by simp[bools,jS,List.map_set]
theorem VW {l:List Bool} {i:Int} (h0:0≤i) (h:i<l.length):(bools l)[i.toNat]? =some (.bool (rdb l i)):=by
 have hl:i.toNat<l.length:=by omega
 simp[bools,rdb,List.getD_eq_getElem?_getD,List.getElem?_eq_getElem hl]
theorem OC (m:Nat) (x:Bool):List.replicate m (Value.bool x)=bools (List.replicate m x):=by simp[bools]
theorem gB (l:List Bool) (i:Int) (v:Bool):(jS l i v).length=l.length:=by simp[jS]
theorem nT {l:List Bool} {i j:Int} {v:Bool} (h0:0≤i) (h:i<l.length) (j0:0≤j):rdb (jS l i v) j=if j=i then v else rdb l j:=by
 unfold rdb jS
 rw[List.getD_eq_getElem?_getD,List.getElem?_set,List.getD_eq_getElem?_getD]
 by_cases e:j=i
 ·subst e
  rw[if_pos rfl,if_pos (by omega),if_pos rfl]
  rfl
 ·rw[if_neg (by omega),if_neg e]
theorem tY (m:Nat) (i:Int):rdb (List.replicate m false) i=false:=by
 unfold rdb
 rw[List.getD_eq_getElem?_getD,List.getElem?_replicate]
 split<;>rfl
theorem PW {l m:List Bool} (hl:l.length=m.length) (h: ∀i:Int,0≤i→i<l.length→rdb l i=rdb m i):l=m:=by
 apply List.ext_getElem hl
 intro i h1 h2
 have:=h i (by omega) (by omega)
 simpa [rdb,List.getD_eq_getElem?_getD,List.getElem?_eq_getElem h1,List.getElem?_eq_getElem h2] using this
section
variable {P:Program} {n:Nd} {B:Nat} {w0:World} {L:Env} {R:List Row} {ty:TypeId}
theorem Rd.lenB {w:World} {A:Option Addr} {m c:Nat} {l:List Bool} (h:Rd w A m c 1 (bools l)):m=l.length:=by
 have:=h.len
 rw[AA] at this
 omega
theorem rX {x:Operand} {t:TypeId} {d:TypeDesc} {A:Option Addr} {m c:Nat} {l:List Bool} {i:Int} (hu:P.underlying t=some d) (hd:AL d=false) (hx:ev L x=some (.pointer (pat A i.toNat))) (hr:RdC B w0 R A m c 1 (bools l)) (h0:0≤i) (h1:i<m):
  Yl P n B w0 (.load t x) ty L R (.bool (decide (rdb l i=true))):=by
 intro a w o ho hty hs hw
 have hl:=(hr w hw).lenB
 rw[show decide (rdb l i=true)=rdb l i by cases rdb l i<;>rfl]
 exact FT hu hd hx rfl hr (VW h0 (by omega)) a w o ho hty hs hw
theorem nH {x y:Operand} {t e:TypeId} {j:Int} {v:Bool} {A:Option Addr} {m c:Nat} {l:List Bool} (i:Nat) (hi:R[i]? =some ⟨e,1,A,m,c,bools l,false⟩) (hst:(P.info? t).map (·.size)=some 1) (hx:ev L x=some (.pointer (pat A j.toNat))) (hy:ev L y=some (.bool v)) (h0:0≤j) (h1:j<m):
  Ac P n B w0 (.store t x y) ty L R (fun _ R'=>R'=R.set i ⟨e,1,A,m,c,bools (jS l j v),false⟩):=by
 intro a w o K Q ho hty hs hp hk
 have hown:=Row.lies_w (hp.own _ (List.mem_of_getElem? hi)) rfl
 have hrd:=Row.rd (hp.own _ (List.mem_of_getElem? hi))
 have hl:=hrd.len
 obtain⟨g,hA⟩: ∃g,A=some ⟨g,0,none⟩:=by
  rcases hown.2 with⟨_,hn⟩|⟨g,cap,cur,hv,_⟩
  ·simp only at hn;omega
  ·simp only[Value.slice.injEq] at hv
   exact⟨g,hv.1⟩
 have:=AO (P:=P) (n:=n) (B:=B) (w0:=w0) (ty:=ty) i hi rfl hA hst hx rfl hy rfl rfl (by rw[hl];simp only;omega)
 simp only[PV] at this
 exact this a w o K Q ho hty hs hp hk
theorem AP {x y:Operand} {t e:TypeId} {bytes:Nat} {m:Int} (ht:P.underlying t=some (.slice e)) (hinfo:(P.info? e).map (fun i=>(i.zero,i.size,i.bytes))=some (some (.bool false),1,bytes))
  (hx:ev L x=some (.int .i64 m)) (hy:ev L y=some (.int .i64 m)) (h0:0≤m) (hm:m*bytes≤281474976710656) (hm':m≤9223372036854775807):
  Ac P n B w0 (.makeSlice t x y) ty L R (fun v R'=> ∃g,v= .slice (some ⟨g,0,none⟩) m.toNat m.toNat∧R'=⟨e,1,some ⟨g,0,none⟩,m.toNat,m.toNat,bools (List.replicate m.toNat false),false⟩::R):=by
 have:=MW (P:=P) (n:=n) (B:=B) (w0:=w0) (L:=L) (R:=R) (ty:=ty) ht hinfo rfl hx hy h0 hm hm'
 simpa only[OC] using this
end
end Go.Eng

namespace Go.Pure
open Go Go.Eng
def smB (s:List Int) (i:Int):Bool:=decide (cmpL (s.drop i.toNat) (s.drop (i+1).toNat)<0)
theorem oG {a b:Int} {u v:List Int}:cmpL (a::u) (b::v)<0↔a<b∨a=b∧cmpL u v<0:=by
 rw[cmpL]
 rcases Int.lt_trichotomy a b with c|c|c
 ·rw[if_pos c];exact⟨fun _=> .inl c,fun _=>by omega⟩
 ·subst c
  rw[if_neg (by omega),if_neg (by omega)]
  exact⟨fun h=> .inr ⟨rfl,h⟩,fun h=>h.elim (fun h=>by omega) fun h=>h.2⟩
 ·rw [if_neg (by omega),if_pos c]
  exact⟨fun h=>by omega,fun h=>h.elim (fun h=>by omega) fun h=>by omega⟩
theorem eF {s:List Int} {i:Int} (h0:0≤i) (h:i<s.length):s.drop i.toNat=rd s i::s.drop (i+1).toNat:=lJ h0 h
theorem nD {s:List Int} {i:Int} (h:(s.length:Int)≤i):s.drop i.toNat=[]:=List.drop_of_length_le (by omega)
theorem gY {s:List Int} {p q:Int} (p0:0≤p) (hp:p<s.length) (q0:0≤q) (hq:q<s.length):bI s p q↔rd s p<rd s q∨rd s p=rd s q∧cmpL (s.drop (p+1).toNat) (s.drop (q+1).toNat)<0:=by
 rw[←iX,eF p0 hp,eF q0 hq,oG]
theorem jU {s:List Int} {i:Int} (h0:0≤i) (h:(s.length:Int)≤i+1):smB s i=false:=by
 unfold smB
 rw[nD h,decide_eq_false_iff_not]
 by_cases a:i<s.length
 ·rw[eF h0 a];simp[cmpL]
 ·rw[nD (by omega)];simp[cmpL]
theorem mK {s:List Int} {i:Int} (h0:0≤i) (h:i+1<s.length):smB s i=true↔rd s i<rd s (i+1)∨rd s i=rd s (i+1)∧smB s (i+1)=true:=by
 unfold smB
 rw[decide_eq_true_iff,decide_eq_true_iff,eF h0 (by omega),eF (s:=s) (i:=i+1) (by omega) h,oG]
def isL (s:List Int) (p:Int):Prop:=(0≤p∧p<s.length)∧smB s p=false
def isS (s:List Int) (p:Int):Prop:=(0≤p∧p<s.length)∧smB s p=true
theorem jZ {s:List Int} {p:Int} (h:0≤p∧p<s.length):isL s p∨isS s p:=by
 cases e:smB s p with
 |false=>exact .inl ⟨h,e⟩
 |true=>exact .inr ⟨h,e⟩
theorem isL.not_S {s:List Int} {p:Int} (h:isL s p): ¬isS s p:=fun h'=>by
 have a:=h'.2
 rw[h.2] at a
 cases a
theorem isL.next {s:List Int} {p:Int} (h:isL s p) (hp:p+1<s.length):rd s (p+1)≤rd s p∧(rd s p=rd s (p+1)→isL s (p+1)):=by
 have hn: ¬smB s p=true:=by rw[h.2];simp
 rw[mK h.1.1 hp] at hn
 refine⟨Int.not_lt.1 fun hlt=>hn (.inl hlt),fun e=>⟨⟨by have:=h.1.1;omega,hp⟩,?_⟩⟩
 cases e2:smB s (p+1) with
 |false=>rfl
 |true=>exact absurd (.inr ⟨e,e2⟩) hn
theorem isS.next {s:List Int} {p:Int} (h:isS s p):p+1<s.length∧rd s p≤rd s (p+1)∧(rd s p=rd s (p+1)→isS s (p+1)):=by
 have hp:p+1<s.length:=by
  rcases Int.lt_or_le (p+1) s.length with a|a
  ·exact a
  ·have:=jU h.1.1 a
   rw[h.2] at this
   cases this
 have hs:=(mK h.1.1 hp).1 h.2
 have h0:=h.1.1
 refine⟨hp,by omega,fun e=>⟨⟨by omega,hp⟩,?_⟩⟩
 rcases hs with a|a
 ·omega
 ·exact a.2
theorem sP {s:List Int}: ∀(m:Nat) (p q:Int),s.length-p≤m→isL s p→isS s q→rd s p=rd s q→bI s p q
 |0,p,q,hm,hp,_,_=>by have:=hp.1;omega
 | m+1,p,q,hm,hp,hq,e=>by
  rw[gY hp.1.1 hp.1.2 hq.1.1 hq.1.2]
  refine .inr ⟨e,?_⟩
  obtain⟨hq1,hq2,hq3⟩:=hq.next
  have q0:=hq.1.1
  have p0:=hp.1.1
  rcases Int.lt_or_le (p+1) s.length with a|a
  ·obtain ⟨hp2,hp3⟩:=hp.next a
   rw[iX (s:=s),gY (by omega) a (by omega) hq1]
   rcases Int.lt_or_le (rd s (p+1)) (rd s (q+1)) with b|b
   ·exact .inl b
   ·have e1:rd s p=rd s (p+1):=by omega
    have e2:rd s q=rd s (q+1):=by omega
    have:=sP m (p+1) (q+1) (by omega) (hp3 e1) (hq3 e2) (by omega)
    rw[gY (by omega) a (by omega) hq1] at this
    exact this
  ·rw [nD a,eF (by omega) hq1]
   simp[cmpL]
theorem IR {s:List Int} {p q:Int} (hp:isL s p) (hq:isS s q) (e:rd s p=rd s q):bI s p q:=sP (s.length-p).toNat p q (by omega) hp hq e
theorem vD {s:List Int} {p q:Int} (p0:0≤p) (hp:p+1<s.length) (q0:0≤q) (hq:q+1<s.length) (e:rd s p=rd s q) (h:bI s (p+1) (q+1)):bI s p q:=by
 rw[gY p0 (by omega) q0 (by omega)]
 exact .inr ⟨e,iX.2 h⟩
theorem kV {s:List Int} {p q:Int} (hp:0≤p∧p<s.length) (hq:0≤q∧q<s.length) (h:rd s p<rd s q):bI s p q:=by
 rw[gY hp.1 hp.2 hq.1 hq.2]
 exact .inl h
theorem TJ {s:List Int} {q:Int} (hn:0<s.length) (q0:0≤q) (hq:q+1<s.length) (e:rd s (s.length-1)=rd s q):bI s (s.length-1) q:=by
 rw[gY (by omega) (by omega) q0 (by omega)]
 refine .inr ⟨e,?_⟩
 rw[nD (by omega),eF (by omega) hq]
 simp[cmpL]
def cZ (s:List Int) (i:Int):Bool:=decide (0<i) && smB s i && !smB s (i-1)
theorem iB {s:List Int} {i:Int}:cZ s i=true↔0<i∧smB s i=true∧smB s (i-1)=false:=by
 unfold cZ
 rw[Bool.and_eq_true,Bool.and_eq_true,decide_eq_true_iff]
 simp only[Bool.not_eq_true',and_assoc]
def aS (s:List Int):List Int:=(iota s.length).filter fun i=>cZ s i
theorem kZ {s:List Int} {i:Int}:i∈aS s↔(0≤i∧i<s.length)∧cZ s i=true:=by
 unfold aS
 rw[List.mem_filter,aO]
theorem oQ (s:List Int):(aS s).Nodup:=(cO _).sublist List.filter_sublist
theorem jL {α:Type} [DecidableEq α]: ∀ {l m:List α},l.Nodup→(∀x∈l,x∈m)→l.length≤m.length
 |[],_,_,_=>Nat.zero_le _
 | a::l,m,hd,h=>by
  obtain⟨h1,h2⟩:=List.nodup_cons.1 hd
  have ha:=h a (by simp)
  have:=jL (l:=l) (m:=m.erase a) h2 fun x hx=>by
   have hxa:x≠a:=fun e=>h1 (e▸hx)
   exact(List.mem_erase_of_ne hxa).2 (h x (List.mem_cons_of_mem _ hx))
  rw[List.length_erase_of_mem ha] at this
  have hp:=List.length_pos_of_mem ha
  simp only[List.length_cons]
  omega
theorem jX {α:Type} [DecidableEq α]: ∀ {l m:List α},l.Nodup→(∀x∈l,x∈m)→m.length≤l.length→l.Perm m
 |[],m,_,_,h=>by
  have:m=[]:=List.eq_nil_of_length_eq_zero (by simpa using h)
  rw[this]
 | a::l,m,hd,h,hl=>by
  obtain⟨h1,h2⟩:=List.nodup_cons.1 hd
  have ha:=h a (by simp)
  have hp:=List.length_pos_of_mem ha
  have:=jX (l:=l) (m:=m.erase a) h2 (fun x hx=>by
   have hxa:x≠a:=fun e=>h1 (e▸hx)
   exact(List.mem_erase_of_ne hxa).2 (h x (List.mem_cons_of_mem _ hx))) (by
   rw[List.length_erase_of_mem ha]
   simp only[List.length_cons] at hl
   omega)
  exact(this.cons a).trans (List.perm_cons_erase ha).symm
def seg (row:List Int) (a b:Int):List Int:=(List.range (b-a).toNat).map fun t:Nat=>rd row (a+t)
theorem KL (row:List Int) (a b:Int):(seg row a b).length=(b-a).toNat:=by simp[seg]
theorem uA {row:List Int} {a b x:Int}:x∈seg row a b↔ ∃q,a≤q∧q<b∧rd row q=x:=by
 unfold seg
 rw[List.mem_map]
 constructor
 ·rintro ⟨t,ht,rfl⟩
  have:=List.mem_range.1 ht
  exact⟨a+t,by omega,by omega,rfl⟩
 ·rintro ⟨q,h1,h2,rfl⟩
  exact⟨(q-a).toNat,List.mem_range.2 (by omega),by rw[show a+((q-a).toNat:Int)=q by omega]⟩
def Once (row:List Int):Prop:= ∀q r:Int,0≤q→q<row.length→0≤r→r<row.length→0≤rd row q→rd row q=rd row r→q=r
theorem xI {row:List Int} (h:Once row) {a b:Int} (ha:0≤a) (hb:b≤row.length) (hp: ∀q,a≤q→q<b→0≤rd row q):(seg row a b).Nodup:=by
 unfold seg
 refine List.pairwise_map.2 (List.Pairwise.imp_of_mem (fun {x y} hx hy hne he=> ?_) List.nodup_range)
 have hx':=List.mem_range.1 hx
 have hy':=List.mem_range.1 hy
 have:=h (a+x) (a+y) (by omega) (by omega) (by omega) (by omega) (hp _ (by omega) (by omega)) he
 exact hne (by omega)
section
variable (s:List Int) (k:Int)
def st (c:Int):Int:=ps (bM s k) c
def tC (c:Int):List Int:=(iota s.length).filter fun p=>decide (rd s p=c) && !smB s p
def sZ (c:Int):List Int:=(iota s.length).filter fun p=>decide (rd s p=c) && smB s p
end
section
variable {s:List Int} {k:Int}
theorem vJ {c p:Int}:p∈tC s c↔isL s p∧rd s p=c:=by
 unfold tC isL
 rw[List.mem_filter,aO,Bool.and_eq_true,decide_eq_true_iff]
 simp only[Bool.not_eq_true']
 exact⟨fun⟨a,b,c⟩=>⟨⟨a,c⟩,b⟩,fun⟨⟨a,c⟩,b⟩=>⟨a,b,c⟩⟩
theorem vI {c p:Int}:p∈sZ s c↔isS s p∧rd s p=c:=by
 unfold sZ isS
 rw[List.mem_filter,aO,Bool.and_eq_true,decide_eq_true_iff]
 exact⟨fun⟨a,b,c⟩=>⟨⟨a,c⟩,b⟩,fun⟨⟨a,c⟩,b⟩=>⟨a,b,c⟩⟩
theorem XA:st s k 0=0:=rfl
theorem gP (s:List Int):(iota s.length).map (rd s)=s:=by
 refine bB (by rw[List.length_map,aW]) fun j h0 h1=> ?_
 rw[List.length_map,aW] at h1
 have:(iota s.length).map (rd s)=(List.range s.length).map fun i:Nat=>rd s i:=by unfold iota;rw[List.map_map];rfl
 rw[this,fG h0 h1,show((j.toNat:Nat):Int)=j by omega]
theorem fK {c:Int} (h0:0≤c) (h:c<k):st s k (c+1)=st s k c+(tC s c).length+(sZ s c).length:=by
 unfold st
 rw[kI h0 (by rw[bL];omega),pQ h0 h]
 have e:(s.filter fun x=>decide (x=c)).length=((iota s.length).filter fun p=>decide (rd s p=c)).length:=by
  conv=>lhs;rw[←gP s]
  rw[List.filter_map,List.length_map]
  rfl
 have e2:((iota s.length).filter fun p=>decide (rd s p=c)).length=(tC s c).length+(sZ s c).length:=by
  unfold tC sZ
  generalize iota s.length=l
  induction l with
  |nil=>rfl
  | cons a l ih=>
   by_cases h:rd s a=c
   ·cases hb:smB s a with
    |true=>rw[List.filter_cons_of_pos (by simpa using h),List.filter_cons_of_neg (by simp[hb]),List.filter_cons_of_pos (by simp[h,hb])];simp only[List.length_cons];omega
    |false=>rw[List.filter_cons_of_pos (by simpa using h),List.filter_cons_of_pos (by simp[h,hb]),List.filter_cons_of_neg (by simp[hb])];simp only[List.length_cons];omega
   ·rw [List.filter_cons_of_neg (by simpa using h),List.filter_cons_of_neg (by simp[h]),List.filter_cons_of_neg (by simp[h])]
    exact ih
 rw[e,e2]
 omega
theorem fM {c d:Int} (h0:0≤c) (hcd:c<d) (hd:d≤k):st s k (c+1)≤st s k d:=by
 obtain⟨m,rfl⟩: ∃m:Nat,d=c+1+m:=⟨(d-c-1).toNat,by omega⟩
 induction m with
 |zero=>simp
 |succ m ih=>
  have:=ih (by omega) (by omega)
  have e:=fK (s:=s) (k:=k) (c:=c+1+m) (by omega) (by omega)
  rw[show c+1+((m+1:Nat):Int)=c+1+m+1 by omega]
  omega
theorem bW {c:Int}:0≤st s k c:=(mP (gT s k) c).1
theorem GM (hk:0≤k) (hs: ∀x∈s,0≤x∧x<k):st s k k=s.length:=by
 unfold st
 rw[II (by rw[bL];omega)]
 have:=vV (order:=iota s.length) (keys:=s) (k:=k) hk fun i hi=>by
  have:=aO.1 hi
  exact hs _ (bA this.1 this.2)
 rw[gP,aW] at this
 exact this
theorem oD (hk:0≤k) (hs: ∀x∈s,0≤x∧x<k) {c:Int} (h0:0≤c) (h:c≤k):st s k c≤s.length:=by
 rcases Int.lt_or_le c k with a|a
 ·have h1:=fK (s:=s) h0 a
  have h2:=fM (s:=s) h0 a (Int.le_refl k)
  rw[GM hk hs] at h2
  omega
 ·rw [show c=k by omega,GM hk hs]
  omega
theorem dH (hk:0≤k) (hs: ∀x∈s,0≤x∧x<k) {q:Int} (q0:0≤q) (hq:q<s.length): ∃c,(0≤c∧c<k)∧st s k c≤q∧q<st s k (c+1):=by
 have gen: ∀m:Nat,(m:Int)≤k→q<st s k m→ ∃c,(0≤c∧c<k)∧st s k c≤q∧q<st s k (c+1):=by
  intro m
  induction m with
  |zero=>intro _ h;rw[show((0:Nat):Int)=0 from rfl,XA] at h;omega
  |succ m ih=>
   intro hm h
   rcases Int.lt_or_le q (st s k m) with a|a
   ·exact ih (by omega) a
   ·exact⟨m,by omega,a,by rw[show((m:Int)+1)=((m+1:Nat):Int) by omega];exact h⟩
 have:=gen k.toNat (by omega)
 rw[show((k.toNat:Nat):Int)=k by omega,GM hk hs] at this
 exact this hq
theorem iM {c d q:Int} (c0:0≤c) (ck:c<k) (d0:0≤d) (dk:d<k) (h1:st s k c≤q) (h2:q<st s k (c+1)) (h3:st s k d≤q) (h4:q<st s k (d+1)):c=d:=by
 rcases Int.lt_trichotomy c d with a|a|a
 ·have:=fM (s:=s) c0 a (by omega:d≤k);omega
 ·exact a
 ·have:=fM (s:=s) d0 a (by omega:c≤k);omega
end
end Go.Pure
namespace Go.Pure
open Go Go.Eng
section
variable {s:List Int} {k:Int} {R:Int→Int→Prop}
structure WI (s:List Int) (R:Int→Int→Prop):Prop where
 char: ∀ {p q:Int},0≤p∧p<s.length→0≤q∧q<s.length→rd s p<rd s q→R p q
 ls: ∀ {p q:Int},isL s p→isS s q→rd s p=rd s q→R p q
 last: ∀ {q:Int},0<s.length→0≤q→q+1<s.length→rd s (s.length-1)=rd s q→isL s q→R (s.length-1) q
 backL: ∀ {p q:Int},isL s p→isL s q→p+1<s.length→q+1<s.length→rd s p=rd s q→R (p+1) (q+1)→R p q
structure lZ (s:List Int) (k:Int) (R:Int→Int→Prop) (mF:Int→Int) (row:List Int):Prop where
 len:row.length=s.length
 m0: ∀c,0≤c→c<k→0≤mF c∧mF c≤(sZ s c).length
 some_: ∀c q,0≤c→c<k→st s k (c+1)-mF c≤q→q<st s k (c+1)→isS s (rd row q)∧rd s (rd row q)=c
 none_: ∀c q,0≤c→c<k→st s k c≤q→q<st s k (c+1)-mF c→rd row q= -1
 once:Once row
 all: ∀p:Int,0≤p→p<s.length→cZ s p=true→ ∃q:Int,0≤q∧q<s.length∧rd row q=p
 sorted: ∀a b:Int,0≤a→a<b→b<s.length→0≤rd row a→0≤rd row b→R (rd row a) (rd row b)
structure eQ (s:List Int) (k:Int) (R:Int→Int→Prop) (mF:Int→Int) (row0 row H:List Int) (C:Int→Prop):Prop where
 len:row.length=s.length
 hlen:H.length=k.toNat
 hH: ∀c,0≤c→c<k→st s k c≤rd H c∧rd H c≤st s k c+(tC s c).length
 placed: ∀c q,0≤c→c<k→st s k c≤q→q<rd H c→isL s (rd row q)∧rd s (rd row q)=c
 rest: ∀c q,0≤c→c<k→rd H c≤q→q<st s k (c+1)→rd row q=rd row0 q
 once:Once row
 closed: ∀p,isL s p→((∃q:Int,0≤q∧q<s.length∧rd row q=p)↔C p)
 sorted: ∀a b:Int,0≤a→a<b→b<s.length→0≤rd row a→0≤rd row b→R (rd row a) (rd row b)
variable (hk:0≤k) (hs: ∀x∈s,0≤x∧x<k) (hR:WI s R)
theorem iD (hs: ∀x∈s,0≤x∧x<k) {p:Int} (h:0≤p∧p<s.length):0≤rd s p∧rd s p<k:=hs _ (bA h.1 h.2)
variable {mF:Int→Int} {row0 row H:List Int} {C:Int→Prop}
theorem eQ.at_ (h:eQ s k R mF row0 row H C) (b:lZ s k R mF row0) {c q:Int} (c0:0≤c) (ck:c<k) (h1:st s k c≤q) (h2:q<st s k (c+1)):
  (q<rd H c∧isL s (rd row q)∧rd s (rd row q)=c)∨(rd H c≤q∧isS s (rd row q)∧rd s (rd row q)=c)∨(rd H c≤q∧rd row q= -1):=by
 rcases Int.lt_or_le q (rd H c) with a|a
 ·exact .inl ⟨a,h.placed c q c0 ck h1 a⟩
 ·rw [h.rest c q c0 ck a h2]
  rcases Int.lt_or_le q (st s k (c+1)-mF c) with d|d
  ·exact .inr (.inr ⟨a,b.none_ c q c0 ck h1 d⟩)
  ·exact .inr (.inl ⟨a,b.some_ c q c0 ck d h2⟩)
include hk hs in
theorem eQ.entry (h:eQ s k R mF row0 row H C) (b:lZ s k R mF row0) {q:Int} (q0:0≤q) (hq:q<s.length):rd row q= -1∨(0≤rd row q∧rd row q<s.length):=by
 obtain⟨c,⟨c0,ck⟩,h1,h2⟩:=dH hk hs q0 hq
 rcases h.at_ b c0 ck h1 h2 with a|a|a
 ·exact .inr a.2.1.1
 ·exact .inr a.2.1.1
 ·exact .inl a.2
theorem tV {b:lZ s k R mF row0} {c:Int} (c0:0≤c) (ck:c<k):st s k c+(tC s c).length≤st s k (c+1)-mF c:=by
 have:=fK (s:=s) c0 ck
 have:=b.m0 c c0 ck
 omega
include hk hs in
theorem eQ.room (h:eQ s k R mF row0 row H C) (b:lZ s k R mF row0) {p:Int} (hp:isL s p) (hn: ¬ ∃q:Int,0≤q∧q<s.length∧rd row q=p):
  (st s k (rd s p)≤rd H (rd s p)∧rd H (rd s p)<st s k (rd s p)+(tC s (rd s p)).length)∧rd row (rd H (rd s p))= -1∧(0≤rd H (rd s p)∧rd H (rd s p)<s.length)∧rd H (rd s p)<st s k (rd s p+1):=by
 obtain⟨c0,ck⟩:=iD hs hp.1
 have hH:=h.hH _ c0 ck
 have hroom:=tV (b:=b) c0 ck
 have hle:=oD hk hs (c:=rd s p+1) (by omega) (by omega)
 have hnn:=bW (s:=s) (k:=k) (c:=rd s p)
 have hm:=b.m0 _ c0 ck
 have hlt:rd H (rd s p)<st s k (rd s p)+(tC s (rd s p)).length:=by
  have hmem: ∀x∈p::seg row (st s k (rd s p)) (rd H (rd s p)),x∈tC s (rd s p):=by
   intro x hx
   rcases List.mem_cons.1 hx with rfl|hx
   ·exact vJ.2 ⟨hp,rfl⟩
   ·obtain ⟨q,q1,q2,rfl⟩:=uA.1 hx
    exact vJ.2 (h.placed _ q c0 ck q1 q2)
  have hnd:(p::seg row (st s k (rd s p)) (rd H (rd s p))).Nodup:=by
   refine List.nodup_cons.2 ⟨fun hx=> ?_,xI h.once hnn (by rw[h.len];omega) fun q q1 q2=>(h.placed _ q c0 ck q1 q2).1.1.1⟩
   obtain⟨q,q1,q2,e⟩:=uA.1 hx
   exact hn ⟨q,by omega,by omega,e⟩
  have:=jL hnd hmem
  rw[List.length_cons,KL] at this
  omega
 refine⟨⟨hH.1,hlt⟩,?_,⟨by omega,by omega⟩,by omega⟩
 rw[h.rest _ _ c0 ck (Int.le_refl _) (by omega),b.none_ _ _ c0 ck hH.1 (by omega)]
include hk hs hR in
theorem eQ.lay (h:eQ s k R mF row0 row H C) (b:lZ s k R mF row0) {p:Int} {C':Int→Prop} (hp:isL s p) (hn: ¬ ∃q:Int,0≤q∧q<s.length∧rd row q=p) (hcl: ∀p',isL s p'→(C' p'↔C p'∨p'=p))
  (hord: ∀p',isL s p'→rd s p'=rd s p→(∃q:Int,0≤q∧q<s.length∧rd row q=p')→R p' p):
  eQ s k R mF row0 (upd row (rd H (rd s p)) p) (upd H (rd s p) (rd H (rd s p)+1)) C':=by
 obtain⟨c0,ck⟩:=iD hs hp.1
 obtain⟨⟨r1,r2⟩,r3,⟨r4,r5⟩,r6⟩:=h.room hk hs b hp hn
 have hrow: ∀q,0≤q→rd (upd row (rd H (rd s p)) p) q=if q=rd H (rd s p) then p else rd row q:=fun q q0=>dR r4 q0 (by rw[h.len];omega)
 have hHu: ∀c,0≤c→rd (upd H (rd s p) (rd H (rd s p)+1)) c=if c=rd s p then rd H (rd s p)+1 else rd H c:=fun c c0'=>dR c0 c0' (by rw[h.hlen];omega)
 have hex: ∀x:Int,0≤x→((∃q:Int,0≤q∧q<s.length∧rd (upd row (rd H (rd s p)) p) q=x)↔((∃q:Int,0≤q∧q<s.length∧rd row q=x)∨x=p)):=by
  intro x hx
  constructor
  ·rintro ⟨q,q0,q1,e⟩
   rw[hrow q q0] at e
   split at e
   ·exact .inr e.symm
   ·exact .inl ⟨q,q0,q1,e⟩
  ·rintro (⟨q,q0,q1,e⟩|rfl)
   ·refine ⟨q,q0,q1,?_⟩
    rw[hrow q q0,if_neg,e]
    intro e2
    rw[e2,r3] at e
    omega
   ·exact⟨_,r4,r5,by rw[hrow _ r4,if_pos rfl]⟩
 refine⟨by rw[aQ];exact h.len,by rw[aQ];exact h.hlen,fun c d0 dk=> ?_,fun c q d0 dk q1 q2=> ?_,fun c q d0 dk q1 q2=> ?_,fun q r q0 q1 t0 t1 hq e=> ?_,fun p' hp'=> ?_,fun x y x0 xy y1 hx hy=> ?_⟩
 ·have:=h.hH c d0 dk
  rw[hHu c d0]
  split
  ·rename_i e;subst e;omega
  ·exact this
 ·have hq0:0≤q:=by have:=bW (s:=s) (k:=k) (c:=c);omega
  rw[hHu c d0] at q2
  rw[hrow q hq0]
  by_cases e:q=rd H (rd s p)
  ·rw [if_pos e]
   have hc:c=rd s p:=by
    by_cases e2:c=rd s p
    ·exact e2
    ·rw [if_neg e2] at q2
     have:=h.hH c d0 dk
     have hr:=tV (b:=b) d0 dk
     have:=b.m0 c d0 dk
     exact iM (s:=s) d0 dk c0 ck q1 (by omega) (by omega) (by omega)
   exact⟨hp,hc.symm⟩
  ·rw [if_neg e]
   refine h.placed c q d0 dk q1 ?_
   by_cases e2:c=rd s p
   ·rw[if_pos e2] at q2;subst e2;omega
   ·rw[if_neg e2] at q2;exact q2
 ·rw [hHu c d0] at q1
  have hHc:=h.hH c d0 dk
  have hq0:0≤q:=by
   have:=bW (s:=s) (k:=k) (c:=c)
   by_cases e2:c=rd s p
   ·rw[if_pos e2] at q1;subst e2;omega
   ·rw[if_neg e2] at q1;omega
  rw[hrow q hq0]
  by_cases e2:c=rd s p
  ·rw [if_pos e2] at q1
   rw[if_neg (by omega)]
   subst e2
   exact h.rest _ q d0 dk (by omega) q2
  ·rw [if_neg e2] at q1
   rw[if_neg,h.rest c q d0 dk q1 q2]
   intro e
   exact e2 (iM (s:=s) d0 dk c0 ck (by omega) q2 (by omega) (by omega))
 ·rw [aQ,h.len] at q1 t1
  rw[hrow q q0] at hq e
  rw[hrow r t0] at e
  by_cases e1:q=rd H (rd s p)
  ·rw [if_pos e1] at e
   by_cases e2:r=rd H (rd s p)
   ·omega
   ·rw [if_neg e2] at e
    exact absurd ⟨r,t0,t1,e.symm⟩ hn
  ·rw [if_neg e1] at e hq
   by_cases e2:r=rd H (rd s p)
   ·rw [if_pos e2] at e
    exact absurd ⟨q,q0,q1,e⟩ hn
   ·rw [if_neg e2] at e
    exact h.once q r q0 (by rw[h.len];exact q1) t0 (by rw[h.len];exact t1) hq e
 ·rw[hex p' hp'.1.1,h.closed p' hp',hcl p' hp']
 ·have key: ∀z:Int,0≤z→z<s.length→0≤rd row z→(z<rd H (rd s p)→R (rd row z) p)∧(rd H (rd s p)<z→R p (rd row z)):=by
   intro z z0 z1 hz
   obtain⟨c,⟨d0,dk⟩,h1,h2⟩:=dH hk hs z0 z1
   have hat:=h.at_ b d0 dk h1 h2
   have hpos:0≤rd row z∧rd row z<s.length:=by
    rcases hat with a|a|a
    ·exact a.2.1.1
    ·exact a.2.1.1
    ·rw[a.2] at hz;omega
   have hchar:rd s (rd row z)=c:=by
    rcases hat with a|a|a
    ·exact a.2.2
    ·exact a.2.2
    ·rw[a.2] at hz;omega
   refine⟨fun hlt=> ?_,fun hlt=> ?_⟩
   ·rcases Int.lt_trichotomy c (rd s p) with e|e|e
    ·exact hR.char hpos hp.1 (by omega)
    ·subst e
     rcases hat with a|a|a
     ·exact hord _ a.2.1 a.2.2 ⟨z,z0,z1,rfl⟩
     ·omega
     ·omega
    ·have:=fM (s:=s) c0 e (by omega:c≤k)
     omega
   ·rcases Int.lt_trichotomy c (rd s p) with e|e|e
    ·have:=fM (s:=s) d0 e (by omega:rd s p≤k)
     omega
    ·subst e
     rcases hat with a|a|a
     ·omega
     ·exact hR.ls hp a.2.1 a.2.2.symm
     ·rw[a.2] at hz;omega
    ·exact hR.char hp.1 hpos (by omega)
  rw[hrow x x0] at hx ⊢
  rw[hrow y (by omega)] at hy ⊢
  by_cases e1:x=rd H (rd s p)
  ·rw [if_pos e1,if_neg (by omega)]
   rw[if_neg (by omega)] at hy
   exact(key y (by omega) y1 hy).2 (by omega)
  ·rw [if_neg e1]
   rw[if_neg e1] at hx
   by_cases e2:y=rd H (rd s p)
   ·rw [if_pos e2]
    exact(key x x0 (by omega) hx).1 (by omega)
   ·rw [if_neg e2]
    rw[if_neg e2] at hy
    exact h.sorted x y x0 xy y1 hx hy
def CL (s row:List Int) (i p:Int):Prop:=p=s.length-1∨ ∃q:Int,0≤q∧q<i∧rd row q=p+1
include hk hs hR in
theorem DI (b:lZ s k R mF row0) (hn:0<s.length) (hH:H.length=k.toNat) (hH2: ∀c,0≤c→c<k→rd H c=st s k c):
  eQ s k R mF row0 (upd row0 (rd H (rd s (s.length-1))) (s.length-1)) (upd H (rd s (s.length-1)) (rd H (rd s (s.length-1))+1)) (CL s (upd row0 (rd H (rd s (s.length-1))) (s.length-1)) 0):=by
 have hnone: ∀p,isL s p→ ¬ ∃q:Int,0≤q∧q<s.length∧rd row0 q=p:=by
  rintro p hp ⟨q,q0,q1,e⟩
  obtain⟨c,⟨c0,ck⟩,h1,h2⟩:=dH hk hs q0 q1
  rcases Int.lt_or_le q (st s k (c+1)-mF c) with d|d
  ·have:=b.none_ c q c0 ck h1 d
   have:=hp.1.1
   omega
  ·have:=(b.some_ c q c0 ck d h2).1
   rw[e] at this
   exact hp.not_S this
 have h0:eQ s k R mF row0 row0 H fun _=>False:=
  ⟨b.len,hH,fun c c0 ck=>by rw[hH2 c c0 ck];omega,fun c q c0 ck q1 q2=>by rw[hH2 c c0 ck] at q2;omega,fun c q _ _ _ _=>rfl,b.once,fun p hp=>iff_false_intro (hnone p hp),b.sorted⟩
 have hp:isL s (s.length-1):=⟨by omega,jU (by omega) (by omega)⟩
 refine h0.lay hk hs hR b hp (hnone _ hp) (fun p' hp'=> ?_) fun p' hp' _ hex=>absurd hex (hnone p' hp')
 unfold CL
 constructor
 ·rintro (e|⟨q,q0,q1,_⟩)
  ·exact .inr e
  ·omega
 ·rintro (h|e)
  ·exact h.elim
  ·exact .inl e
theorem IW {i:Int} (h:eQ s k R mF row0 row H (CL s row i)) (hc: ¬(0<rd row i∧smB s (rd row i-1)=false)):eQ s k R mF row0 row H (CL s row (i+1)):=by
 refine⟨h.len,h.hlen,h.hH,h.placed,h.rest,h.once,fun p hp=> ?_,h.sorted⟩
 rw[h.closed p hp]
 unfold CL
 refine or_congr_right ⟨fun⟨q,q0,q1,e⟩=>⟨q,q0,by omega,e⟩,?_⟩
 rintro⟨q,q0,q1,e⟩
 rcases Int.lt_or_le q i with a|a
 ·exact⟨q,q0,a,e⟩
 ·exfalso
  have:q=i:=by omega
  subst this
  rw[e] at hc
  have:=hp.1.1
  exact hc ⟨by omega,by rw[show p+1-1=p by omega];exact hp.2⟩
include hk hs in
theorem xZ {i:Int} (h:eQ s k R mF row0 row H (CL s row i)) (b:lZ s k R mF row0) (i0:0≤i) (hi:i<s.length) (hc:0<rd row i∧smB s (rd row i-1)=false):
  isL s (rd row i-1)∧(¬ ∃q:Int,0≤q∧q<s.length∧rd row q=rd row i-1)∧rd row i<s.length∧i<rd H (rd s (rd row i-1)):=by
 have hent:=h.entry hk hs b i0 hi
 have hj:0≤rd row i∧rd row i<s.length:=by omega
 have hp:isL s (rd row i-1):=⟨by omega,hc.2⟩
 have hn: ¬ ∃q:Int,0≤q∧q<s.length∧rd row q=rd row i-1:=by
  intro hex
  rcases(h.closed _ hp).1 hex with e|⟨q,q0,q1,e⟩
  ·omega
  ·have:=h.once q i q0 (by rw[h.len];omega) i0 (by rw[h.len];exact hi) (by omega) (by omega)
   omega
 refine⟨hp,hn,hj.2,?_⟩
 obtain⟨c,⟨c0,ck⟩,h1,h2⟩:=dH hk hs i0 hi
 obtain⟨d0,dk⟩:=iD hs hp.1
 have hnx:=hp.next (by omega)
 rw[show rd row i-1+1=rd row i by omega] at hnx
 have hHp:=h.hH _ d0 dk
 rcases h.at_ b c0 ck h1 h2 with a|a|a
 ·rcases Int.lt_or_le c (rd s (rd row i-1)) with e|e
  ·have:=fM (s:=s) c0 e (by omega:rd s (rd row i-1)≤k)
   omega
  ·have:rd s (rd row i-1)=c:=by omega
   rw[this]
   exact a.1
 ·rcases Int.lt_or_le c (rd s (rd row i-1)) with e|e
  ·have:=fM (s:=s) c0 e (by omega:rd s (rd row i-1)≤k)
   omega
  ·exact absurd a.2.1 (hnx.2 (by omega)).not_S
 ·omega
include hk hs hR in
theorem IV {i:Int} (h:eQ s k R mF row0 row H (CL s row i)) (b:lZ s k R mF row0) (i0:0≤i) (hi:i<s.length) (hc:0<rd row i∧smB s (rd row i-1)=false):
  eQ s k R mF row0 (upd row (rd H (rd s (rd row i-1))) (rd row i-1)) (upd H (rd s (rd row i-1)) (rd H (rd s (rd row i-1))+1)) (CL s (upd row (rd H (rd s (rd row i-1))) (rd row i-1)) (i+1)):=by
 obtain⟨hp,hn,hj,hlt⟩:=xZ hk hs h b i0 hi hc
 have hroom:=h.room hk hs b hp hn
 have hrow: ∀q,0≤q→rd (upd row (rd H (rd s (rd row i-1))) (rd row i-1)) q=if q=rd H (rd s (rd row i-1)) then rd row i-1 else rd row q:=fun q q0=>dR hroom.2.2.1.1 q0 (by rw[h.len];exact hroom.2.2.1.2)
 refine h.lay hk hs hR b hp hn (fun p' hp'=> ?_) fun p' hp' he hex=> ?_
 ·unfold CL
  constructor
  ·rintro (e|⟨q,q0,q1,e⟩)
   ·exact .inl (.inl e)
   ·rw [hrow q q0,if_neg (by omega)] at e
    rcases Int.lt_or_le q i with a|a
    ·exact .inl (.inr ⟨q,q0,a,e⟩)
    ·have:q=i:=by omega
     subst this
     exact .inr (by omega)
  ·rintro ((e|⟨q,q0,q1,e⟩)|e)
   ·exact .inl e
   ·exact .inr ⟨q,q0,by omega,by rw[hrow q q0,if_neg (by omega)];exact e⟩
   ·exact .inr ⟨i,i0,by omega,by rw[hrow i i0,if_neg (by omega)];omega⟩
 ·have hpb:=hp.1
  rcases(h.closed _ hp').1 hex with e|⟨q,q0,q1,e⟩
  ·subst e
   exact hR.last (by omega) (by omega) (by omega) he hp
  ·have h1:=h.entry hk hs b q0 (by omega)
   have h2:=hp'.1
   have:=h.sorted q i q0 q1 hi (by omega) (by omega)
   rw[e] at this
   refine hR.backL hp' hp (by omega) (by omega) he ?_
   rwa[show rd row i-1+1=rd row i by omega]
include hk hs in
theorem yA (h:eQ s k R mF row0 row H (CL s row s.length)) (b:lZ s k R mF row0): ∀(m:Nat) (p:Int),s.length-p≤m→isL s p→ ∃q:Int,0≤q∧q<s.length∧rd row q=p
 |0,p,hm,hp=>by have:=hp.1;omega
 | m +1,p,hm,hp=>by
  have hb:=hp.1
  rw[h.closed p hp]
  rcases Int.lt_or_le (p+1) s.length with a|a
  ·refine .inr ?_
   rcases jZ (s:=s) (p:=p+1) (by omega) with l|l
   ·exact yA h b m (p+1) (by omega) l
   ·obtain ⟨q,q0,q1,e⟩:=b.all (p+1) (by omega) a (iB.2 ⟨by omega,l.2,by rw[show p+1-1=p by omega];exact hp.2⟩)
    refine⟨q,q0,q1,?_⟩
    obtain⟨c,⟨c0,ck⟩,h1,h2⟩:=dH hk hs q0 q1
    have hH:=h.hH c c0 ck
    have hr:=tV (b:=b) c0 ck
    rw[h.rest c q c0 ck ?_ h2,e]
    rcases Int.lt_or_le q (st s k (c+1)-mF c) with d|d
    ·have:=b.none_ c q c0 ck h1 d
     omega
    ·omega
  ·exact .inl (by omega)
end
end Go.Pure
namespace Go.Pure
open Go Go.Eng
section
variable {s:List Int} {k:Int} {R:Int→Int→Prop}
structure ZI (s:List Int) (R:Int→Int→Prop):Prop where
 char: ∀ {p q:Int},0≤p∧p<s.length→0≤q∧q<s.length→rd s p<rd s q→R p q
 ls: ∀ {p q:Int},isL s p→isS s q→rd s p=rd s q→R p q
 backS: ∀ {p q:Int},isS s p→isS s q→p+1<s.length→q+1<s.length→rd s p=rd s q→R (p+1) (q+1)→R p q
structure kN (s:List Int) (k:Int) (R:Int→Int→Prop) (T:Int→Int) (row:List Int):Prop where
 len:row.length=s.length
 t0: ∀c,0≤c→c<k→st s k c≤T c∧T c≤st s k c+(tC s c).length
 some_: ∀c q,0≤c→c<k→st s k c≤q→q<T c→isL s (rd row q)∧rd s (rd row q)=c
 none_: ∀c q,0≤c→c<k→T c≤q→q<st s k (c+1)→rd row q= -1
 once:Once row
 all: ∀p:Int,isL s p→ ∃q:Int,0≤q∧q<s.length∧rd row q=p
 sorted: ∀a b:Int,0≤a→a<b→b<s.length→0≤rd row a→0≤rd row b→R (rd row a) (rd row b)
structure eP (s:List Int) (k:Int) (R:Int→Int→Prop) (T:Int→Int) (row3 row E:List Int) (C:Int→Prop):Prop where
 len:row.length=s.length
 elen:E.length=k.toNat
 hE: ∀c,0≤c→c<k→st s k (c+1)-(sZ s c).length≤rd E c∧rd E c≤st s k (c+1)
 placed: ∀c q,0≤c→c<k→rd E c≤q→q<st s k (c+1)→isS s (rd row q)∧rd s (rd row q)=c
 rest: ∀c q,0≤c→c<k→st s k c≤q→q<rd E c→rd row q=rd row3 q
 once:Once row
 closed: ∀p,isS s p→((∃q:Int,0≤q∧q<s.length∧rd row q=p)↔C p)
 sorted: ∀a b:Int,0≤a→a<b→b<s.length→0≤rd row a→0≤rd row b→R (rd row a) (rd row b)
variable (hk:0≤k) (hs: ∀x∈s,0≤x∧x<k) (hR:ZI s R)
variable {T:Int→Int} {row3 row E:List Int} {C:Int→Prop}
theorem eP.at_ (h:eP s k R T row3 row E C) (b:kN s k R T row3) {c q:Int} (c0:0≤c) (ck:c<k) (h1:st s k c≤q) (h2:q<st s k (c+1)):
  (rd E c≤q∧isS s (rd row q)∧rd s (rd row q)=c)∨(q<rd E c∧isL s (rd row q)∧rd s (rd row q)=c)∨(q<rd E c∧rd row q= -1):=by
 rcases Int.lt_or_le q (rd E c) with a|a
 ·rw [h.rest c q c0 ck h1 a]
  rcases Int.lt_or_le q (T c) with d|d
  ·exact .inr (.inl ⟨a,b.some_ c q c0 ck h1 d⟩)
  ·exact .inr (.inr ⟨a,b.none_ c q c0 ck d h2⟩)
 ·exact .inl ⟨a,h.placed c q c0 ck a h2⟩
include hk hs in
theorem eP.entry (h:eP s k R T row3 row E C) (b:kN s k R T row3) {q:Int} (q0:0≤q) (hq:q<s.length):rd row q= -1∨(0≤rd row q∧rd row q<s.length):=by
 obtain⟨c,⟨c0,ck⟩,h1,h2⟩:=dH hk hs q0 hq
 rcases h.at_ b c0 ck h1 h2 with a|a|a
 ·exact .inr a.2.1.1
 ·exact .inr a.2.1.1
 ·exact .inl a.2
theorem uK {b:kN s k R T row3} {c:Int} (c0:0≤c) (ck:c<k):T c≤st s k (c+1)-(sZ s c).length:=by
 have:=fK (s:=s) c0 ck
 have:=b.t0 c c0 ck
 omega
include hk hs in
theorem eP.room (h:eP s k R T row3 row E C) (b:kN s k R T row3) {p:Int} (hp:isS s p) (hn: ¬ ∃q:Int,0≤q∧q<s.length∧rd row q=p):
  (st s k (rd s p+1)-(sZ s (rd s p)).length≤rd E (rd s p)-1∧rd E (rd s p)≤st s k (rd s p+1))∧rd row (rd E (rd s p)-1)= -1∧(0≤rd E (rd s p)-1∧rd E (rd s p)-1<s.length)∧st s k (rd s p)≤rd E (rd s p)-1:=by
 obtain⟨c0,ck⟩:=iD hs hp.1
 have hE:=h.hE _ c0 ck
 have hroom:=uK (b:=b) c0 ck
 have hle:=oD hk hs (c:=rd s p+1) (by omega) (by omega)
 have hnn:=bW (s:=s) (k:=k) (c:=rd s p)
 have ht:=b.t0 _ c0 ck
 have hsu:=fK (s:=s) c0 ck
 have hlt:st s k (rd s p+1)-(sZ s (rd s p)).length≤rd E (rd s p)-1:=by
  have hmem: ∀x∈p::seg row (rd E (rd s p)) (st s k (rd s p+1)),x∈sZ s (rd s p):=by
   intro x hx
   rcases List.mem_cons.1 hx with rfl|hx
   ·exact vI.2 ⟨hp,rfl⟩
   ·obtain ⟨q,q1,q2,rfl⟩:=uA.1 hx
    exact vI.2 (h.placed _ q c0 ck q1 q2)
  have hnd:(p::seg row (rd E (rd s p)) (st s k (rd s p+1))).Nodup:=by
   refine List.nodup_cons.2 ⟨fun hx=> ?_,xI h.once (by omega) (by rw[h.len];omega) fun q q1 q2=>(h.placed _ q c0 ck q1 q2).1.1.1⟩
   obtain⟨q,q1,q2,e⟩:=uA.1 hx
   exact hn ⟨q,by omega,by omega,e⟩
  have:=jL hnd hmem
  rw[List.length_cons,KL] at this
  omega
 refine⟨⟨hlt,hE.2⟩,?_,⟨by omega,by omega⟩,by omega⟩
 rw[h.rest _ _ c0 ck (by omega) (by omega),b.none_ _ _ c0 ck (by omega) (by omega)]
include hk hs hR in
theorem eP.lay (h:eP s k R T row3 row E C) (b:kN s k R T row3) {p:Int} {C':Int→Prop} (hp:isS s p) (hn: ¬ ∃q:Int,0≤q∧q<s.length∧rd row q=p) (hcl: ∀p',isS s p'→(C' p'↔C p'∨p'=p))
  (hord: ∀p',isS s p'→rd s p'=rd s p→(∃q:Int,0≤q∧q<s.length∧rd row q=p')→R p p'):
  eP s k R T row3 (upd row (rd E (rd s p)-1) p) (upd E (rd s p) (rd E (rd s p)-1)) C':=by
 obtain⟨c0,ck⟩:=iD hs hp.1
 obtain⟨⟨r1,r2⟩,r3,⟨r4,r5⟩,r6⟩:=h.room hk hs b hp hn
 have hrow: ∀q,0≤q→rd (upd row (rd E (rd s p)-1) p) q=if q=rd E (rd s p)-1 then p else rd row q:=fun q q0=>dR r4 q0 (by rw[h.len];omega)
 have hEu: ∀c,0≤c→rd (upd E (rd s p) (rd E (rd s p)-1)) c=if c=rd s p then rd E (rd s p)-1 else rd E c:=fun c c0'=>dR c0 c0' (by rw[h.elen];omega)
 have hex: ∀x:Int,0≤x→((∃q:Int,0≤q∧q<s.length∧rd (upd row (rd E (rd s p)-1) p) q=x)↔((∃q:Int,0≤q∧q<s.length∧rd row q=x)∨x=p)):=by
  intro x hx
  constructor
  ·rintro ⟨q,q0,q1,e⟩
   rw[hrow q q0] at e
   split at e
   ·exact .inr e.symm
   ·exact .inl ⟨q,q0,q1,e⟩
  ·rintro (⟨q,q0,q1,e⟩|rfl)
   ·refine ⟨q,q0,q1,?_⟩
    rw[hrow q q0,if_neg,e]
    intro e2
    rw[e2,r3] at e
    omega
   ·exact⟨_,r4,r5,by rw[hrow _ r4,if_pos rfl]⟩
 refine⟨by rw[aQ];exact h.len,by rw[aQ];exact h.elen,fun c d0 dk=> ?_,fun c q d0 dk q1 q2=> ?_,fun c q d0 dk q1 q2=> ?_,fun q r q0 q1 t0 t1 hq e=> ?_,fun p' hp'=> ?_,fun x y x0 xy y1 hx hy=> ?_⟩
 ·have:=h.hE c d0 dk
  rw[hEu c d0]
  split
  ·rename_i e;subst e;omega
  ·exact this
 ·rw [hEu c d0] at q1
  have hEc:=h.hE c d0 dk
  have hsc:=fK (s:=s) d0 dk
  have hq0:0≤q:=by
   have:=bW (s:=s) (k:=k) (c:=c)
   by_cases e2:c=rd s p
   ·rw[if_pos e2] at q1;omega
   ·rw[if_neg e2] at q1;omega
  rw[hrow q hq0]
  by_cases e:q=rd E (rd s p)-1
  ·rw [if_pos e]
   have hc:c=rd s p:=by
    by_cases e2:c=rd s p
    ·exact e2
    ·rw [if_neg e2] at q1
     exact iM (s:=s) d0 dk c0 ck (by omega) q2 (by omega) (by omega)
   exact⟨hp,hc.symm⟩
  ·rw [if_neg e]
   refine h.placed c q d0 dk ?_ q2
   by_cases e2:c=rd s p
   ·rw[if_pos e2] at q1;subst e2;omega
   ·rw[if_neg e2] at q1;exact q1
 ·rw [hEu c d0] at q2
  have hEc:=h.hE c d0 dk
  have hq0:0≤q:=by have:=bW (s:=s) (k:=k) (c:=c);omega
  rw[hrow q hq0]
  by_cases e2:c=rd s p
  ·rw [if_pos e2] at q2
   rw[if_neg (by omega)]
   subst e2
   exact h.rest _ q d0 dk q1 (by omega)
  ·rw [if_neg e2] at q2
   rw[if_neg,h.rest c q d0 dk q1 q2]
   intro e
   exact e2 (iM (s:=s) d0 dk c0 ck q1 (by omega) (by omega) (by omega))
 ·rw [aQ,h.len] at q1 t1
  rw[hrow q q0] at hq e
  rw[hrow r t0] at e
  by_cases e1:q=rd E (rd s p)-1
  ·rw [if_pos e1] at e
   by_cases e2:r=rd E (rd s p)-1
   ·omega
   ·rw [if_neg e2] at e
    exact absurd ⟨r,t0,t1,e.symm⟩ hn
  ·rw [if_neg e1] at e hq
   by_cases e2:r=rd E (rd s p)-1
   ·rw [if_pos e2] at e
    exact absurd ⟨q,q0,q1,e⟩ hn
   ·rw [if_neg e2] at e
    exact h.once q r q0 (by rw[h.len];exact q1) t0 (by rw[h.len];exact t1) hq e
 ·rw[hex p' hp'.1.1,h.closed p' hp',hcl p' hp']
 ·have key: ∀z:Int,0≤z→z<s.length→0≤rd row z→(z<rd E (rd s p)-1→R (rd row z) p)∧(rd E (rd s p)-1<z→R p (rd row z)):=by
   intro z z0 z1 hz
   obtain⟨c,⟨d0,dk⟩,h1,h2⟩:=dH hk hs z0 z1
   have hat:=h.at_ b d0 dk h1 h2
   have hpos:0≤rd row z∧rd row z<s.length:=by
    rcases hat with a|a|a
    ·exact a.2.1.1
    ·exact a.2.1.1
    ·rw[a.2] at hz;omega
   have hchar:rd s (rd row z)=c:=by
    rcases hat with a|a|a
    ·exact a.2.2
    ·exact a.2.2
    ·rw[a.2] at hz;omega
   refine⟨fun hlt=> ?_,fun hlt=> ?_⟩
   ·rcases Int.lt_trichotomy c (rd s p) with e|e|e
    ·exact hR.char hpos hp.1 (by omega)
    ·subst e
     rcases hat with a|a|a
     ·omega
     ·exact hR.ls a.2.1 hp a.2.2
     ·rw[a.2] at hz;omega
    ·have:=fM (s:=s) c0 e (by omega:c≤k)
     omega
   ·rcases Int.lt_trichotomy c (rd s p) with e|e|e
    ·have:=fM (s:=s) d0 e (by omega:rd s p≤k)
     omega
    ·subst e
     rcases hat with a|a|a
     ·exact hord _ a.2.1 a.2.2 ⟨z,z0,z1,rfl⟩
     ·omega
     ·omega
    ·exact hR.char hp.1 hpos (by omega)
  rw[hrow x x0] at hx ⊢
  rw[hrow y (by omega)] at hy ⊢
  by_cases e1:x=rd E (rd s p)-1
  ·rw [if_pos e1,if_neg (by omega)]
   rw[if_neg (by omega)] at hy
   exact(key y (by omega) y1 hy).2 (by omega)
  ·rw [if_neg e1]
   rw[if_neg e1] at hx
   by_cases e2:y=rd E (rd s p)-1
   ·rw [if_pos e2]
    exact(key x x0 (by omega) hx).1 (by omega)
   ·rw [if_neg e2]
    rw[if_neg e2] at hy
    exact h.sorted x y x0 xy y1 hx hy
def CS (s row:List Int) (i p:Int):Prop:= ∃q:Int,i≤q∧q<s.length∧rd row q=p+1
theorem BL (b:kN s k R T row3) (hE:E.length=k.toNat) (hE2: ∀c,0≤c→c<k→rd E c=st s k (c+1)) (hno: ∀q:Int,0≤q→q<s.length→ ¬isS s (rd row3 q)):eP s k R T row3 row3 E (CS s row3 s.length):=
 ⟨b.len,hE,fun c c0 ck=>by rw[hE2 c c0 ck];omega,fun c q c0 ck q1 q2=>by rw[hE2 c c0 ck] at q1;omega,fun c q _ _ _ _=>rfl,b.once,fun p hp=>⟨fun⟨q,q0,q1,e⟩=>absurd (by rw[e];exact hp) (hno q q0 q1),fun⟨q,q0,q1,_⟩=>by omega⟩,b.sorted⟩
theorem GU {i:Int} (h:eP s k R T row3 row E (CS s row (i+1))) (hc: ¬(0<rd row i∧smB s (rd row i-1)=true)):eP s k R T row3 row E (CS s row i):=by
 refine⟨h.len,h.elen,h.hE,h.placed,h.rest,h.once,fun p hp=> ?_,h.sorted⟩
 rw[h.closed p hp]
 unfold CS
 refine⟨fun⟨q,q0,q1,e⟩=>⟨q,by omega,q1,e⟩,?_⟩
 rintro⟨q,q0,q1,e⟩
 rcases Int.lt_or_le i q with a|a
 ·exact⟨q,by omega,q1,e⟩
 ·exfalso
  have:q=i:=by omega
  subst this
  rw[e] at hc
  have:=hp.1.1
  exact hc ⟨by omega,by rw[show p+1-1=p by omega];exact hp.2⟩
include hk hs in
theorem xG {i:Int} (h:eP s k R T row3 row E (CS s row (i+1))) (b:kN s k R T row3) (i0:0≤i) (hi:i<s.length) (hc:0<rd row i∧smB s (rd row i-1)=true):
  isS s (rd row i-1)∧(¬ ∃q:Int,0≤q∧q<s.length∧rd row q=rd row i-1)∧rd row i<s.length∧rd E (rd s (rd row i-1))-1<i:=by
 have hent:=h.entry hk hs b i0 hi
 have hj:0≤rd row i∧rd row i<s.length:=by omega
 have hp:isS s (rd row i-1):=⟨by omega,hc.2⟩
 have hn: ¬ ∃q:Int,0≤q∧q<s.length∧rd row q=rd row i-1:=by
  intro hex
  obtain⟨q,q0,q1,e⟩:=(h.closed _ hp).1 hex
  have:=h.once q i (by omega) (by rw[h.len];omega) i0 (by rw[h.len];exact hi) (by omega) (by omega)
  omega
 refine⟨hp,hn,hj.2,?_⟩
 obtain⟨c,⟨c0,ck⟩,h1,h2⟩:=dH hk hs i0 hi
 obtain⟨d0,dk⟩:=iD hs hp.1
 obtain⟨_,hn2,hn3⟩:=hp.next
 rw[show rd row i-1+1=rd row i by omega] at hn2 hn3
 have hEp:=h.hE _ d0 dk
 rcases h.at_ b c0 ck h1 h2 with a|a|a
 ·rcases Int.lt_or_le (rd s (rd row i-1)) c with e|e
  ·have:=fM (s:=s) d0 e (by omega:c≤k)
   omega
  ·have:rd s (rd row i-1)=c:=by omega
   rw[this]
   omega
 ·rcases Int.lt_or_le (rd s (rd row i-1)) c with e|e
  ·have:=fM (s:=s) d0 e (by omega:c≤k)
   omega
  ·exact absurd (hn3 (by omega)) a.2.1.not_S
 ·omega
include hk hs hR in
theorem GR {i:Int} (h:eP s k R T row3 row E (CS s row (i+1))) (b:kN s k R T row3) (i0:0≤i) (hi:i<s.length) (hc:0<rd row i∧smB s (rd row i-1)=true):
  eP s k R T row3 (upd row (rd E (rd s (rd row i-1))-1) (rd row i-1)) (upd E (rd s (rd row i-1)) (rd E (rd s (rd row i-1))-1)) (CS s (upd row (rd E (rd s (rd row i-1))-1) (rd row i-1)) i):=by
 obtain⟨hp,hn,hj,hlt⟩:=xG hk hs h b i0 hi hc
 have hroom:=h.room hk hs b hp hn
 have hrow: ∀q,0≤q→rd (upd row (rd E (rd s (rd row i-1))-1) (rd row i-1)) q=if q=rd E (rd s (rd row i-1))-1 then rd row i-1 else rd row q:=fun q q0=>dR hroom.2.2.1.1 q0 (by rw[h.len];exact hroom.2.2.1.2)
 refine h.lay hk hs hR b hp hn (fun p' hp'=> ?_) fun p' hp' he hex=> ?_
 ·unfold CS
  constructor
  ·rintro ⟨q,q0,q1,e⟩
   rw[hrow q (by omega),if_neg (by omega)] at e
   rcases Int.lt_or_le i q with a|a
   ·exact .inl ⟨q,by omega,q1,e⟩
   ·have:q=i:=by omega
    subst this
    exact .inr (by omega)
  ·rintro (⟨q,q0,q1,e⟩|e)
   ·exact⟨q,by omega,q1,by rw[hrow q (by omega),if_neg (by omega)];exact e⟩
   ·exact⟨i,by omega,hi,by rw[hrow i i0,if_neg (by omega)];omega⟩
 ·have hpb:=hp.1
  obtain⟨q,q0,q1,e⟩:=(h.closed _ hp').1 hex
  have h1:=h.entry hk hs b (q:=q) (by omega) q1
  have h2:=hp'.1
  have:=h.sorted i q i0 (by omega) q1 (by omega) (by omega)
  rw[e] at this
  refine hR.backS hp hp' (by omega) (by omega) he.symm ?_
  rwa[show rd row i-1+1=rd row i by omega]
include hk hs in
theorem xH (h:eP s k R T row3 row E (CS s row 0)) (b:kN s k R T row3): ∀(m:Nat) (p:Int),s.length-p≤m→isS s p→ ∃q:Int,0≤q∧q<s.length∧rd row q=p
 |0,p,hm,hp=>by have:=hp.1;omega
 | m+1,p,hm,hp=>by
  have hb:=hp.1
  rw[h.closed p hp]
  obtain⟨a,_,_⟩:=hp.next
  rcases jZ (s:=s) (p:=p+1) (by omega) with l|l
  ·obtain ⟨q,q0,q1,e⟩:=b.all (p+1) l
   refine⟨q,q0,q1,?_⟩
   obtain⟨c,⟨c0,ck⟩,h1,h2⟩:=dH hk hs q0 q1
   have hE:=h.hE c c0 ck
   have hr:=uK (b:=b) c0 ck
   rw[h.rest c q c0 ck h1 ?_,e]
   rcases Int.lt_or_le q (T c) with d|d
   ·omega
   ·have:=b.none_ c q c0 ck d h2
    omega
  ·exact xH h b m (p+1) (by omega) l
include hk hs in
theorem DF (h:eP s k R T row3 row E C) (b:kN s k R T row3) {p:Int} (hp:isL s p): ∃q:Int,0≤q∧q<s.length∧rd row q=p:=by
 obtain⟨q,q0,q1,e⟩:=b.all p hp
 refine⟨q,q0,q1,?_⟩
 obtain⟨c,⟨c0,ck⟩,h1,h2⟩:=dH hk hs q0 q1
 have hE:=h.hE c c0 ck
 have hr:=uK (b:=b) c0 ck
 have hb:=hp.1
 rw[h.rest c q c0 ck h1 ?_,e]
 rcases Int.lt_or_le q (T c) with d|d
 ·omega
 ·have:=b.none_ c q c0 ck d h2
  omega
include hk hs in
theorem qF (h:eP s k R T row3 row E (CS s row 0)) (b:kN s k R T row3):row.Perm (iota s.length)∧(∀q:Int,0≤q→q+1<s.length→rd s (rd row q)≤rd s (rd row (q+1)))∧row.Pairwise R:=by
 have hall: ∀p:Int,0≤p∧p<s.length→ ∃q:Int,0≤q∧q<s.length∧rd row q=p:=fun p hp=>by
  rcases jZ hp with l|l
  ·exact DF hk hs h b l
  ·exact xH hk hs h b (s.length-p).toNat p (by omega) l
 have hperm:(iota s.length).Perm row:=jX (cO _) (fun x hx=>by
  obtain⟨q,q0,q1,rfl⟩:=hall x (aO.1 hx)
  exact bA q0 (by rw[h.len];exact q1)) (by rw[h.len,aW];exact Nat.le_refl _)
 have hpos: ∀q:Int,0≤q→q<s.length→0≤rd row q∧rd row q<s.length:=fun q q0 q1=>aO.1 (hperm.symm.subset (bA q0 (by rw[h.len];exact q1)))
 have hchar: ∀c q:Int,0≤c→c<k→st s k c≤q→q<st s k (c+1)→0≤q→q<s.length→rd s (rd row q)=c:=fun c q c0 ck h1 h2 q0 q1=>by
  have hp:=hpos q q0 q1
  rcases h.at_ b c0 ck h1 h2 with a|a|a
  ·exact a.2.2
  ·exact a.2.2
  ·omega
 refine⟨hperm.symm,fun q q0 q1=> ?_,?_⟩
 ·obtain ⟨c,⟨c0,ck⟩,h1,h2⟩:=dH hk hs q0 (by omega)
  obtain⟨d,⟨d0,dk⟩,h3,h4⟩:=dH hk hs (q:=q+1) (by omega) q1
  rw[hchar c q c0 ck h1 h2 q0 (by omega),hchar d (q+1) d0 dk h3 h4 (by omega) q1]
  rcases Int.lt_or_le d c with e|e
  ·have:=fM (s:=s) d0 e (by omega:c≤k)
   omega
  ·exact e
 ·refine List.pairwise_iff_getElem.2 fun x y hx hy hxy=> ?_
  have e: ∀z (hz:z<row.length),rd row z=row[z]:=fun z hz=>by
   unfold rd
   rw[Int.toNat_natCast,List.getD_eq_getElem?_getD,List.getElem?_eq_getElem hz]
   rfl
  rw[h.len] at hx hy
  have:=h.sorted x y (by omega) (by omega) (by omega) (hpos x (by omega) (by omega)).1 (hpos y (by omega) (by omega)).1
  rwa[e x (by rw[h.len];exact hx),e y (by rw[h.len];exact hy)] at this
end
end Go.Pure
namespace Go.Pure
open Go Go.Eng
section
variable {s:List Int} {k:Int}
structure nN (s:List Int) (k:Int) (l:List Int) (row E:List Int):Prop where
 len:row.length=s.length
 elen:E.length=k.toNat
 hE: ∀c,0≤c→c<k→rd E c=st s k (c+1)-(bK l s c).length
 vals: ∀c u:Int,0≤c→c<k→0≤u→u<(bK l s c).length→rd row (rd E c+u)=rd (bK l s c) u
 none_: ∀c q,0≤c→c<k→st s k c≤q→q<rd E c→rd row q= -1
def fE (s l:List Int):Prop:=l.Nodup∧ ∀j∈l,(0≤j∧j<s.length)∧cZ s j=true
theorem fJ {l:List Int} (h:l.Perm (aS s)):fE s l:=⟨h.symm.nodup (oQ s),fun j hj=>kZ.1 (h.subset hj)⟩
theorem fE.tail {l:List Int} {j:Int} (h:fE s (j::l)):fE s l:=⟨(List.nodup_cons.1 h.1).2,fun x hx=>h.2 x (List.mem_cons_of_mem _ hx)⟩
theorem fE.small {l:List Int} (h:fE s l) {j:Int} (hj:j∈l):isS s j:=⟨(h.2 j hj).1,(iB.1 (h.2 j hj).2).2.1⟩
theorem mR {l:List Int} (h:fE s l) (c:Int):(bK l s c).length≤(sZ s c).length:=
 jL (h.1.sublist List.filter_sublist) fun x hx=>by
  obtain⟨h1,h2⟩:=List.mem_filter.1 hx
  rw[decide_eq_true_iff] at h2
  exact vI.2 ⟨h.small h1,h2⟩
theorem iZ {l keys:List Int} {j c:Int} (h:rd keys j=c):bK (j::l) keys c=j::bK l keys c:=by
 unfold bK
 rw[List.filter_cons_of_pos (by simpa using h)]
theorem kX {l keys:List Int} {j c:Int} (h:rd keys j≠c):bK (j::l) keys c=bK l keys c:=by
 unfold bK
 rw[List.filter_cons_of_neg (by simpa using h)]
theorem JE (hk:0≤k) (hs: ∀x∈s,0≤x∧x<k) {E:List Int} (hE:E.length=k.toNat) (hE2: ∀c,0≤c→c<k→rd E c=st s k (c+1)):nN s k [] (List.replicate s.length (-1)) E:=by
 refine⟨by simp,hE,fun c c0 ck=>by rw[hE2 c c0 ck];simp[bK],fun c u _ _ _ hu=>by simp[bK] at hu;omega,fun c q c0 ck h1 h2=> ?_⟩
 rw[hE2 c c0 ck] at h2
 have h0:=bW (s:=s) (k:=k) (c:=c)
 have h3:=oD hk hs (c:=c+1) (by omega) (by omega)
 unfold rd
 rw[List.getD_eq_getElem?_getD,List.getElem?_replicate,if_pos (by omega)]
 rfl
variable {row E:List Int} {l:List Int} {j:Int}
theorem nN.room (hk:0≤k) (hs: ∀x∈s,0≤x∧x<k) (h:nN s k l row E) (ok:fE s (j::l)):st s k (rd s j)≤rd E (rd s j)-1∧(0≤rd E (rd s j)-1∧rd E (rd s j)-1<s.length)∧(0≤rd s j∧rd s j<k)∧rd E (rd s j)≤st s k (rd s j+1):=by
 have hj:=ok.2 j (by simp)
 obtain⟨c0,ck⟩:=iD hs hj.1
 have h1:=mR ok (rd s j)
 rw[iZ rfl,List.length_cons] at h1
 have h2:=fK (s:=s) c0 ck
 have h3:=h.hE _ c0 ck
 have h4:=bW (s:=s) (k:=k) (c:=rd s j)
 have h5:=oD hk hs (c:=rd s j+1) (by omega) (by omega)
 omega
theorem nN.step (hk:0≤k) (hs: ∀x∈s,0≤x∧x<k) (h:nN s k l row E) (ok:fE s (j::l)):nN s k (j::l) (upd row (rd E (rd s j)-1) j) (upd E (rd s j) (rd E (rd s j)-1)):=by
 obtain⟨r1,⟨r2,r3⟩,⟨c0,ck⟩,r4⟩:=h.room hk hs ok
 have hrow: ∀q,0≤q→rd (upd row (rd E (rd s j)-1) j) q=if q=rd E (rd s j)-1 then j else rd row q:=fun q q0=>dR r2 q0 (by rw[h.len];omega)
 have hEu: ∀c,0≤c→rd (upd E (rd s j) (rd E (rd s j)-1)) c=if c=rd s j then rd E (rd s j)-1 else rd E c:=fun c c0'=>dR c0 c0' (by rw[h.elen];omega)
 refine⟨by rw[aQ];exact h.len,by rw[aQ];exact h.elen,fun c d0 dk=> ?_,fun c u d0 dk u0 hu=> ?_,fun c q d0 dk q1 q2=> ?_⟩
 ·rw [hEu c d0]
  by_cases e:c=rd s j
  ·rw[if_pos e,e,iZ rfl,h.hE _ c0 ck,List.length_cons];omega
  ·rw[if_neg e,kX fun h=>e h.symm];exact h.hE c d0 dk
 ·rw [hEu c d0]
  have hEc:=h.hE c d0 dk
  have hsc:=fK (s:=s) d0 dk
  have hbd:=mR ok c
  have hnn:=bW (s:=s) (k:=k) (c:=c)
  by_cases e:c=rd s j
  ·subst e
   rw[if_pos rfl]
   rw[iZ rfl] at hu hbd ⊢
   rw[List.length_cons] at hu hbd
   rw[hrow _ (by omega)]
   by_cases e2:u=0
   ·subst e2
    rw[if_pos (by omega)]
    rfl
   ·rw [if_neg (by omega)]
    have:=h.vals _ (u-1) c0 ck (by omega) (by omega)
    rw[show rd E (rd s j)-1+u=rd E (rd s j)+(u-1) by omega,this]
    unfold rd
    rw[show u.toNat=(u-1).toNat+1 by omega]
    rfl
  ·rw [if_neg e]
   rw[kX fun h=>e h.symm] at hu hbd ⊢
   rw[hrow _ (by omega),if_neg,h.vals c u d0 dk u0 hu]
   intro e2
   exact e (iM (s:=s) d0 dk c0 ck (q:=rd E c+u) (by omega) (by omega) (by omega) (by omega))
 ·rw [hEu c d0] at q2
  have hEc:=h.hE c d0 dk
  have hnn:=bW (s:=s) (k:=k) (c:=c)
  rw[hrow q (by omega)]
  by_cases e:c=rd s j
  ·rw [if_pos e] at q2
   rw[if_neg (by omega)]
   subst e
   exact h.none_ _ q d0 dk q1 (by omega)
  ·rw [if_neg e] at q2
   rw[if_neg,h.none_ c q d0 dk q1 q2]
   intro e2
   exact e (iM (s:=s) d0 dk c0 ck (q:=q) q1 (by omega) (by omega) (by omega))
theorem dS {l:List Int} {u:Nat} (h:u<l.length):rd l (u:Int)=l[u]:=by
 unfold rd
 rw[Int.toNat_natCast,List.getD_eq_getElem?_getD,List.getElem?_eq_getElem h]
 rfl
theorem dW {l:List Int} {i:Int} (h0:0≤i) (h:i<l.length):rd l i=l[i.toNat]'(by omega):=by
 unfold rd
 rw[List.getD_eq_getElem?_getD,List.getElem?_eq_getElem (by omega)]
 rfl
theorem bU {l:List Int} {r:Int→Int→Prop} (h:l.Pairwise r) {i j:Int} (h0:0≤i) (hij:i<j) (hj:j<l.length):r (rd l i) (rd l j):=by
 rw[dW h0 (by omega),dW (by omega) hj]
 exact List.pairwise_iff_getElem.1 h i.toNat j.toNat (by omega) (by omega) (by omega)
theorem fH {l:List Int} (hd:l.Nodup) {i j:Int} (h0:0≤i) (h:i<l.length) (g0:0≤j) (g:j<l.length) (e:rd l i=rd l j):i=j:=by
 have hi:i.toNat<l.length:=by omega
 have hj:j.toNat<l.length:=by omega
 unfold rd at e
 rw[List.getD_eq_getElem?_getD,List.getD_eq_getElem?_getD,List.getElem?_eq_getElem hi,List.getElem?_eq_getElem hj] at e
 simp only[Option.getD_some] at e
 rcases Int.lt_trichotomy i j with a|a|a
 ·exact absurd e (List.pairwise_iff_getElem.1 hd i.toNat j.toNat hi hj (by omega))
 ·exact a
 ·exact absurd e.symm (List.pairwise_iff_getElem.1 hd j.toNat i.toNat hj hi (by omega))
theorem lT {R:Int→Int→Prop} (hR:WI s R) (hk:0≤k) (hs: ∀x∈s,0≤x∧x<k) (h:nN s k l row E) (hp:l.Perm (aS s)) (hσ: ∀c,(bK l s c).Pairwise R):lZ s k R (fun c=>(bK l s c).length) row:=by
 have ok:=fJ hp
 have hat: ∀c q,0≤c→c<k→st s k c≤q→q<st s k (c+1)→(q<rd E c∧rd row q= -1)∨(rd E c≤q∧rd row q=rd (bK l s c) (q-rd E c)∧rd row q∈bK l s c):=by
  intro c q c0 ck h1 h2
  have hEc:=h.hE c c0 ck
  rcases Int.lt_or_le q (rd E c) with a|a
  ·exact .inl ⟨a,h.none_ c q c0 ck h1 a⟩
  ·have:=h.vals c (q-rd E c) c0 ck (by omega) (by omega)
   rw[show rd E c+(q-rd E c)=q by omega] at this
   refine .inr ⟨a,this,?_⟩
   rw[this]
   exact bA (by omega) (by omega)
 have hmem: ∀ {c x},x∈bK l s c→isS s x∧rd s x=c∧x∈l:=fun {c x} hx=>by
  obtain⟨h1,h2⟩:=List.mem_filter.1 hx
  rw[decide_eq_true_iff] at h2
  exact⟨ok.small h1,h2,h1⟩
 have hpos: ∀q:Int,0≤q→q<s.length→0≤rd row q→ ∃c,(0≤c∧c<k)∧st s k c≤q∧q<st s k (c+1)∧rd E c≤q∧rd row q=rd (bK l s c) (q-rd E c)∧rd row q∈bK l s c:=by
  intro q q0 q1 hq
  obtain⟨c,⟨c0,ck⟩,h1,h2⟩:=dH hk hs q0 q1
  rcases hat c q c0 ck h1 h2 with a|a
  ·omega
  ·exact⟨c,⟨c0,ck⟩,h1,h2,a⟩
 refine⟨h.len,fun c c0 ck=>⟨by omega,by have:=mR ok c;omega⟩,fun c q c0 ck h1 h2=> ?_,fun c q c0 ck h1 h2=> ?_,fun q r q0 q1 r0 r1 hq e=> ?_,fun p p0 p1 hf=> ?_,fun x y x0 xy y1 hx hy=> ?_⟩
 ·have hEc:=h.hE c c0 ck
  have hst:=fK (s:=s) c0 ck
  have:=mR ok c
  rcases hat c q c0 ck (by omega) h2 with a|a
  ·omega
  ·have:=hmem a.2.2
   exact⟨this.1,this.2.1⟩
 ·have hEc:=h.hE c c0 ck
  exact h.none_ c q c0 ck h1 (by omega)
 ·rw [h.len] at q1 r1
  obtain⟨c,⟨c0,ck⟩,h1,h2,h3,h4,h5⟩:=hpos q q0 q1 hq
  obtain⟨d,⟨d0,dk⟩,g1,g2,g3,g4,g5⟩:=hpos r r0 r1 (by omega)
  have hcd:c=d:=by
   have a:=(hmem h5).2.1
   have b:=(hmem g5).2.1
   rw[e] at a
   omega
  subst hcd
  have hEc:=h.hE c c0 ck
  rw[h4,g4] at e
  have:=fH (ok.1.sublist List.filter_sublist:(bK l s c).Nodup) (by omega) (by omega) (by omega) (by omega) e
  omega
 ·have hpl:=hp.symm.subset (kZ.2 ⟨⟨p0,p1⟩,hf⟩)
  obtain⟨c0,ck⟩:=iD hs ⟨p0,p1⟩
  have hpk:p∈bK l s (rd s p):=List.mem_filter.2 ⟨hpl,by simp⟩
  obtain⟨u,hu,e⟩:=List.mem_iff_getElem.1 hpk
  have hEc:=h.hE _ c0 ck
  have hst:=fK (s:=s) c0 ck
  have hbd:=mR ok (rd s p)
  have hnn:=bW (s:=s) (k:=k) (c:=rd s p)
  have hle:=oD hk hs (c:=rd s p+1) (by omega) (by omega)
  refine⟨rd E (rd s p)+u,by omega,by omega,?_⟩
  rw[h.vals _ u c0 ck (by omega) (by omega),dS hu]
  exact e
 ·obtain ⟨c,⟨c0,ck⟩,h1,h2,h3,h4,h5⟩:=hpos x x0 (by omega) hx
  obtain⟨d,⟨d0,dk⟩,g1,g2,g3,g4,g5⟩:=hpos y (by omega) y1 hy
  have a:=hmem h5
  have b:=hmem g5
  rcases Int.lt_trichotomy c d with hcd|hcd|hcd
  ·exact hR.char a.1.1 b.1.1 (by omega)
  ·subst hcd
   have hEc:=h.hE c c0 ck
   rw[h4,g4]
   exact bU (hσ c) (by omega) (by omega) (by omega)
  ·have:=fM (s:=s) d0 hcd (by omega:c≤k)
   omega
def noS (s:List Int) (x:Int):Int:=if 0≤x∧smB s x=true then -1 else x
theorem cleared (hk:0≤k) (hs: ∀x∈s,0≤x∧x<k) {R R':Int→Int→Prop} (hLL: ∀p q,isL s p→isL s q→R p q→R' p q) {mF:Int→Int} {row0 H V:List Int} (h:eQ s k R mF row0 row H (CL s row s.length)) (b:lZ s k R mF row0) (hl:V.length=s.length) (hV: ∀q:Int,0≤q→q<s.length→rd V q=noS s (rd row q)):
  kN s k R' (fun c=>rd H c) V∧ ∀q:Int,0≤q→q<s.length→ ¬isS s (rd V q):=by
 have hnn: ∀q:Int,0≤q→q<s.length→0≤rd V q→rd V q=rd row q:=fun q q0 q1 hq=>by
  rw[hV q q0 q1] at hq ⊢
  unfold noS at hq ⊢
  split
  ·rename_i e;rw[if_pos e] at hq;omega
  ·rfl
 have hL: ∀q:Int,0≤q→q<s.length→isL s (rd row q)→rd V q=rd row q:=fun q q0 q1 hq=>by
  rw[hV q q0 q1]
  unfold noS
  rw[if_neg]
  rintro⟨_,e⟩
  exact hq.not_S ⟨hq.1,e⟩
 refine⟨⟨hl,h.hH,fun c q c0 ck h1 h2=> ?_,fun c q c0 ck h1 h2=> ?_,fun q r q0 q1 r0 r1 hq e=> ?_,fun p hp=> ?_,fun x y x0 xy y1 hx hy=> ?_⟩,fun q q0 q1 hq=> ?_⟩
 ·have h0:=bW (s:=s) (k:=k) (c:=c)
  have hH:=h.hH c c0 ck
  have hr:=tV (b:=b) c0 ck
  have hm:=b.m0 c c0 ck
  have hle:=oD hk hs (c:=c+1) (by omega) (by omega)
  have:=h.placed c q c0 ck h1 h2
  rw[hL q (by omega) (by omega) this.1]
  exact this
 ·have h0:=bW (s:=s) (k:=k) (c:=c)
  have hH:=h.hH c c0 ck
  have hle:=oD hk hs (c:=c+1) (by omega) (by omega)
  rw[hV q (by omega) (by omega)]
  unfold noS
  rcases h.at_ b c0 ck (by omega) h2 with a|a|a
  ·omega
  ·rw[if_pos ⟨a.2.1.1.1,a.2.1.2⟩]
  ·rw[a.2,if_neg (by omega)]
 ·rw [hl] at q1 r1
  have e1:=hnn q q0 q1 hq
  have e2:=hnn r r0 r1 (by omega)
  exact h.once q r q0 (by rw[h.len];exact q1) r0 (by rw[h.len];exact r1) (by omega) (by omega)
 ·obtain ⟨q,q0,q1,e⟩:=yA hk hs h b (s.length-p).toNat p (by omega) hp
  exact⟨q,q0,q1,by rw[hL q q0 q1 (by rw[e];exact hp)];exact e⟩
 ·have ex:=hnn x x0 (by omega) hx
  have ey:=hnn y (by omega) y1 hy
  rw[ex,ey]
  rw[ex] at hx
  rw[ey] at hy
  have hLV: ∀q:Int,0≤q→q<s.length→0≤rd row q→rd V q=rd row q→isL s (rd row q):=fun q q0 q1 hq eV=>by
   obtain⟨c,⟨c0,ck⟩,h1,h2⟩:=dH hk hs q0 q1
   rcases h.at_ b c0 ck h1 h2 with a|a|a
   ·exact a.2.1
   ·rw [hV q q0 q1] at eV
    unfold noS at eV
    rw[if_pos ⟨a.2.1.1.1,a.2.1.2⟩] at eV
    omega
   ·omega
  exact hLL _ _ (hLV x x0 (by omega) hx ex) (hLV y (by omega) y1 hy ey) (h.sorted x y x0 xy y1 hx hy)
 ·have e:=hnn q q0 q1 hq.1.1
  rw[e] at hq
  rw[hV q q0 q1] at e
  unfold noS at e
  rw[if_pos ⟨hq.1.1,hq.2⟩] at e
  have:=hq.1.1
  omega
def aBl (s:List Int) (j:Int) (z:List Int × List Int):List Int × List Int:=(upd z.1 (rd z.2 (rd s j)-1) j,upd z.2 (rd s j) (rd z.2 (rd s j)-1))
def YJ (s:List Int) (j:Int) (z:List Int × List Int):List Int × List Int:=(upd z.1 (rd z.2 (rd s j)) j,upd z.2 (rd s j) (rd z.2 (rd s j)+1))
def BK (s:List Int) (i:Int) (z:List Int × List Int):List Int × List Int:=if 0<rd z.1 i∧smB s (rd z.1 i-1)=false then YJ s (rd z.1 i-1) z else z
def BJ (s:List Int) (i:Int) (z:List Int × List Int):List Int × List Int:=if 0<rd z.1 i∧smB s (rd z.1 i-1)=true then aBl s (rd z.1 i-1) z else z
def kD (cs:List Int):List Int:=(List.range cs.length).map fun i:Nat=>ps cs ((i:Int)+1)
def itF (s:List Int) (k:Int) (l:List Int):List Int × List Int:=l.foldr (aBl s) (List.replicate s.length (-1),kD (bM s k))
def itL (s:List Int) (k:Int) (l:List Int):Nat→List Int × List Int
 |0=>YJ s (s.length-1) ((itF s k l).1,bJ (bM s k))
 |i+1=>BK s i (itL s k l i)
def qM (s row:List Int):List Int:=row.map (noS s)
def itS (s:List Int) (k:Int) (l:List Int):Nat→List Int × List Int
 |0=>(qM s (itL s k l s.length).1,kD (bM s k))
 |m+1=>BJ s (s.length-1-m) (itS s k l m)
def kC (s:List Int) (k:Int) (l:List Int):List Int:=(itS s k l s.length).1
theorem rQ (cs:List Int):(kD cs).length=cs.length:=by simp[kD]
theorem uR {cs:List Int} {i:Int} (h0:0≤i) (h:i<cs.length):rd (kD cs) i=ps cs (i+1):=by
 unfold kD
 rw[fG h0 h]
 rw[show((i.toNat:Nat):Int)=i by omega]
variable (hk:0≤k) (hs: ∀x∈s,0≤x∧x<k)
include hk hs in
theorem oP: ∀ {l:List Int},fE s l→nN s k l (itF s k l).1 (itF s k l).2
 |[],_=>JE hk hs (by show(kD _).length=_;rw[rQ,bL]) fun c c0 ck=>by
  show rd (kD _) c=_
  rw[uR c0 (by rw[bL];omega)]
  rfl
 |j::l,ok=>(oP (l:=l) ok.tail).step hk hs ok
section
variable {R R':Int→Int→Prop} (hR:WI s R) (hR':ZI s R') (hLL: ∀p q,isL s p→isL s q→R p q→R' p q) (hσ: ∀c,(bK l s c).Pairwise R)
include hk hs hR hσ in
theorem zR (hp:l.Perm (aS s)) (hn:0<s.length): ∀i:Nat,i≤s.length→eQ s k R (fun c=>(bK l s c).length) (itF s k l).1 (itL s k l i).1 (itL s k l i).2 (CL s (itL s k l i).1 i)
 |0,_=>DI hk hs hR (lT hR hk hs (oP hk hs (fJ hp)) hp hσ) hn (by rw[bZ,bL]) fun c c0 ck=>jW c0 (by rw[bL];omega)
 | i+1,hi=>by
  have ih:=zR hp hn i (by omega)
  have b:=lT hR hk hs (oP hk hs (fJ hp)) hp hσ
  rw[show((i+1:Nat):Int)=(i:Int)+1 by omega]
  rw[itL]
  unfold BK
  split
  ·rename_i hc
   exact IV hk hs hR ih b (by omega) (by omega) hc
  ·rename_i hc
   exact IW ih hc
theorem XQ {row:List Int} {q:Int} (h0:0≤q) (h:q<row.length):rd (qM s row) q=noS s (rd row q):=by
 unfold qM rd
 rw[List.getD_eq_getElem?_getD,List.getD_eq_getElem?_getD,List.getElem?_map,List.getElem?_eq_getElem (by omega)]
 rfl
include hk hs hR hσ hLL in
theorem kL (hp:l.Perm (aS s)) (hn:0<s.length):kN s k R' (fun c=>rd (itL s k l s.length).2 c) (qM s (itL s k l s.length).1)∧ ∀q:Int,0≤q→q<s.length→ ¬isS s (rd (qM s (itL s k l s.length).1) q):=by
 have h:=zR hk hs hR hσ hp hn s.length (Nat.le_refl _)
 exact cleared hk hs hLL h (lT hR hk hs (oP hk hs (fJ hp)) hp hσ) (by unfold qM;rw[List.length_map];exact h.len) fun q q0 q1=>XQ q0 (by rw[h.len];exact q1)
include hk hs hR hR' hσ hLL in
theorem zQ (hp:l.Perm (aS s)) (hn:0<s.length): ∀m:Nat,m≤s.length→eP s k R' (fun c=>rd (itL s k l s.length).2 c) (qM s (itL s k l s.length).1) (itS s k l m).1 (itS s k l m).2 (CS s (itS s k l m).1 (s.length-m))
 | 0,_=>by
  have b:=kL hk hs hR hLL hσ hp hn
  exact BL b.1 (by show(kD _).length=_;rw[rQ,bL]) (fun c c0 ck=>by
   show rd (kD _) c=_
   rw[uR c0 (by rw[bL];omega)]
   rfl) b.2
 | m+1,hm=>by
  have ih:=zQ hp hn m (by omega)
  have b:=(kL hk hs hR hLL hσ hp hn).1
  rw[show(s.length:Int)-(m:Nat)=(s.length-1-(m:Int))+1 by omega] at ih
  rw[show(s.length:Int)-((m+1:Nat):Int)=s.length-1-(m:Int) by omega]
  rw[itS]
  unfold BJ
  split
  ·rename_i hc
   exact GR hk hs hR' ih b (by omega) (by omega) hc
  ·rename_i hc
   exact GU ih hc
include hk hs hR hR' hσ hLL in
theorem DN (hp:l.Perm (aS s)) (hn:0<s.length):(kC s k l).Perm (iota s.length)∧(∀q:Int,0≤q→q+1<s.length→rd s (rd (kC s k l) q)≤rd s (rd (kC s k l) (q+1)))∧(kC s k l).Pairwise R':=by
 have h:=zQ hk hs hR hR' hLL hσ hp hn s.length (Nat.le_refl _)
 rw[show(s.length:Int)-(s.length:Nat)=0 by omega] at h
 exact qF hk hs h (kL hk hs hR hLL hσ hp hn).1
end
def RO (s l:List Int) (x y:Int):Prop:=l.Pairwise (bI s)→bI s x y
theorem WJ:WI s (RO s l):=⟨fun hp hq h _=>kV hp hq h,fun hp hq h _=>IR hp hq h,fun hn q0 hq e _ _=>TJ hn q0 hq e,fun hp hq p1 q1 e h hσ=>vD hp.1.1 p1 hq.1.1 q1 e (h hσ)⟩
theorem aEw:ZI s (RO s l):=⟨fun hp hq h _=>kV hp hq h,fun hp hq h _=>IR hp hq h,fun hp hq p1 q1 e h hσ=>vD hp.1.1 p1 hq.1.1 q1 e (h hσ)⟩
theorem wK (c:Int):(bK l s c).Pairwise (RO s l):=by
 by_cases h:l.Pairwise (bI s)
 ·exact(h.sublist List.filter_sublist:(bK l s c).Pairwise (bI s)).imp fun h _=>h
 ·exact List.pairwise_of_forall fun _ _ hσ=>absurd hσ h
include hk hs in
theorem mZ (hp:l.Perm (aS s)):lZ s k (RO s l) (fun c=>(bK l s c).length) (itF s k l).1:=lT WJ hk hs (oP hk hs (fJ hp)) hp wK
include hk hs in
theorem zS (hp:l.Perm (aS s)) (hn:0<s.length): ∀i:Nat,i≤s.length→eQ s k (RO s l) (fun c=>(bK l s c).length) (itF s k l).1 (itL s k l i).1 (itL s k l i).2 (CL s (itL s k l i).1 i):=zR hk hs WJ wK hp hn
include hk hs in
theorem wB (hp:l.Perm (aS s)) (hn:0<s.length):kN s k (RO s l) (fun c=>rd (itL s k l s.length).2 c) (qM s (itL s k l s.length).1)∧ ∀q:Int,0≤q→q<s.length→ ¬isS s (rd (qM s (itL s k l s.length).1) q):=kL hk hs WJ (fun _ _ _ _ h=>h) wK hp hn
include hk hs in
theorem UK (hp:l.Perm (aS s)) (hn:0<s.length): ∀m:Nat,m≤s.length→eP s k (RO s l) (fun c=>rd (itL s k l s.length).2 c) (qM s (itL s k l s.length).1) (itS s k l m).1 (itS s k l m).2 (CS s (itS s k l m).1 (s.length-m)):=zQ hk hs WJ aEw (fun _ _ _ _ h=>h) wK hp hn
include hk hs in
theorem LW (hp:l.Perm (aS s)) (hn:0<s.length):(kC s k l).Perm (iota s.length)∧(∀q:Int,0≤q→q+1<s.length→rd s (rd (kC s k l) q)≤rd s (rd (kC s k l) (q+1)))∧(l.Pairwise (bI s)→(kC s k l).Pairwise (bI s)):=by
 have h:=DN hk hs (l:=l) WJ aEw (fun _ _ _ _ h=>h) wK hp hn
 exact⟨h.1,h.2.1,fun hσ=>h.2.2.imp fun h=>h hσ⟩
end
end Go.Pure
namespace Go.Pure
open Go Go.Eng
section
variable {s:List Int} {k:Int} {l row E H V:List Int}
theorem UL {m:Nat} (hm:m<l.length):itF s k (l.drop m)=aBl s (rd l (m:Int)) (itF s k (l.drop (m+1))):=by
 unfold itF
 rw[dS hm,List.drop_eq_getElem_cons hm,List.foldr_cons]
theorem qI (h:fE s l) (m:Nat):fE s (l.drop m):=⟨h.1.sublist (List.drop_sublist _ _),fun j hj=>h.2 j (List.mem_of_mem_drop hj)⟩
variable (hk:0≤k) (hs: ∀x∈s,0≤x∧x<k)
include hk hs in
include hk hs in
theorem fF (hp:l.Perm (aS s)) {m:Nat} (hm:m<l.length) (hr:row=(itF s k (l.drop (m+1))).1) (hE:E=(itF s k (l.drop (m+1))).2):
  (0≤rd l (m:Int)∧rd l (m:Int)<s.length)∧(0≤rd s (rd l (m:Int))∧rd s (rd l (m:Int))<k)∧(0≤rd E (rd s (rd l (m:Int)))-1∧rd E (rd s (rd l (m:Int)))-1<s.length)∧(row.length=s.length∧E.length=k.toNat)∧
  upd row (rd E (rd s (rd l (m:Int)))-1) (rd l (m:Int))=(itF s k (l.drop m)).1∧upd E (rd s (rd l (m:Int))) (rd E (rd s (rd l (m:Int)))-1)=(itF s k (l.drop m)).2:=by
 have ok:=fJ hp
 have h:=oP hk hs (qI ok (m+1))
 have ok2:fE s (rd l (m:Int)::l.drop (m+1)):=by
  have:=qI ok m
  rwa[List.drop_eq_getElem_cons hm,←dS hm] at this
 have r:=h.room hk hs ok2
 rw[UL hm]
 subst hr
 subst hE
 exact⟨(ok2.2 _ (by simp)).1,r.2.2.1,r.2.1,⟨h.len,h.elen⟩,rfl,rfl⟩
include hk hs in
theorem fL0 (hp:l.Perm (aS s)) (hn:0<s.length) (hr:row=(itF s k l).1) (hH:H=bJ (bM s k)):
  (0≤rd s ((s.length:Int)-1)∧rd s ((s.length:Int)-1)<k)∧(0≤rd H (rd s ((s.length:Int)-1))∧rd H (rd s ((s.length:Int)-1))<s.length)∧(row.length=s.length∧H.length=k.toNat)∧
  upd row (rd H (rd s ((s.length:Int)-1))) ((s.length:Int)-1)=(itL s k l 0).1∧upd H (rd s ((s.length:Int)-1)) (rd H (rd s ((s.length:Int)-1))+1)=(itL s k l 0).2∧smB s ((s.length:Int)-1)=false:=by
 have h:=oP hk hs (fJ hp)
 have hc:=iD hs (p:=(s.length:Int)-1) (by omega)
 have hst:rd H (rd s ((s.length:Int)-1))=st s k (rd s ((s.length:Int)-1)):=by rw[hH,jW hc.1 (by rw[bL];omega)];rfl
 have h1:=bW (s:=s) (k:=k) (c:=rd s ((s.length:Int)-1))
 have h2:=fK (s:=s) hc.1 hc.2
 have h3:=oD hk hs (c:=rd s ((s.length:Int)-1)+1) (by omega) (by omega)
 have hl:isL s ((s.length:Int)-1):=⟨by omega,jU (by omega) (by omega)⟩
 have h4:0<(tC s (rd s ((s.length:Int)-1))).length:=List.length_pos_of_mem (vJ.2 ⟨hl,rfl⟩)
 have hsm:=hl.2
 subst hr
 subst hH
 exact⟨hc,by omega,⟨h.len,by rw[bZ,bL]⟩,rfl,rfl,hsm⟩
include hk hs in
theorem fLe (hp:l.Perm (aS s)) (hn:0<s.length) {i:Nat} (hi:i<s.length) (hr:row=(itL s k l i).1) (hH:H=(itL s k l i).2):
  (rd row (i:Int)= -1∨(0≤rd row (i:Int)∧rd row (i:Int)<s.length))∧(row.length=s.length∧H.length=k.toNat):=by
 have h:=zS hk hs hp hn i (by omega)
 have b:=mZ hk hs hp
 subst hr
 subst hH
 exact⟨h.entry hk hs b (by omega) (by omega),h.len,h.hlen⟩
include hk hs in
theorem fL (hp:l.Perm (aS s)) (hn:0<s.length) {i:Nat} (hi:i<s.length) (hr:row=(itL s k l i).1) (hH:H=(itL s k l i).2) (hc:0<rd row (i:Int)∧smB s (rd row (i:Int)-1)=false):
  rd row (i:Int)<s.length∧(0≤rd s (rd row (i:Int)-1)∧rd s (rd row (i:Int)-1)<k)∧(0≤rd H (rd s (rd row (i:Int)-1))∧rd H (rd s (rd row (i:Int)-1))<s.length)∧
  upd row (rd H (rd s (rd row (i:Int)-1))) (rd row (i:Int)-1)=(itL s k l (i+1)).1∧upd H (rd s (rd row (i:Int)-1)) (rd H (rd s (rd row (i:Int)-1))+1)=(itL s k l (i+1)).2:=by
 have h:=zS hk hs hp hn i (by omega)
 have b:=mZ hk hs hp
 subst hr
 subst hH
 obtain⟨h1,h2,h3,_⟩:=xZ hk hs h b (by omega) (by omega) hc
 have hb:=iD hs h1.1
 have hr:=h.room hk hs b h1 h2
 have h4:=(h.hH _ hb.1 hb.2).1
 have h5:=bW (s:=s) (k:=k) (c:=rd s (rd (itL s k l i).1 (i:Int)-1))
 have h6:=oD hk hs (c:=rd s (rd (itL s k l i).1 (i:Int)-1)+1) (by omega) (by omega)
 have h7:=fK (s:=s) hb.1 hb.2
 refine⟨h3,hb,⟨by omega,by omega⟩,?_,?_⟩
 ·rw[itL,BK,if_pos hc];rfl
 ·rw[itL,BK,if_pos hc];rfl
theorem fLs {i:Nat} (hr:row=(itL s k l i).1) (hH:H=(itL s k l i).2) (hc: ¬(0<rd row (i:Int)∧smB s (rd row (i:Int)-1)=false)):row=(itL s k l (i+1)).1∧H=(itL s k l (i+1)).2:=by
 subst hr
 subst hH
 rw[itL,BK,if_neg hc]
 exact⟨rfl,rfl⟩
def kE (s row:List Int) (i:Int):List Int:=(row.take i.toNat).map (noS s)++row.drop i.toNat
theorem PS:kE s row 0=row:=by simp[kE]
theorem EY (i:Int):(kE s row i).length=row.length:=by simp[kE];omega
theorem VU {i:Int} (h:(row.length:Int)≤i):kE s row i=qM s row:=by
 unfold kE qM
 rw[List.take_of_length_le (by omega),List.drop_of_length_le (by omega),List.append_nil]
theorem zF {i q:Int} (q0:0≤q) (hq:i≤q) (h0:0≤i) (hl:i≤row.length):rd (kE s row i) q=rd row q:=by
 unfold kE rd
 rw[List.getD_eq_getElem?_getD,List.getD_eq_getElem?_getD,List.getElem?_append_right (by simp;omega),List.getElem?_drop]
 simp only[List.length_map,List.length_take]
 congr 2
 omega
theorem yK {i:Int} (h0:0≤i) (hi:i<row.length):kE s row (i+1)=upd (kE s row i) i (noS s (rd row i)):=by
 unfold kE upd
 have hlt:i.toNat<row.length:=by omega
 rw[show(i+1).toNat=i.toNat+1 by omega,List.take_add_one,List.getElem?_eq_getElem hlt,List.set_append_right _ _ (by simp;omega),List.map_append]
 simp only[List.length_map,List.length_take,Option.toList_some,List.map_cons,List.map_nil,List.append_assoc,List.singleton_append]
 congr 1
 rw[show i.toNat-min i.toNat row.length=0 by omega,List.drop_eq_getElem_cons hlt,List.set_cons_zero,dW h0 hi]
theorem YW {i:Int} (h0:0≤i) (hi:i<row.length) (h:0≤rd (kE s row i) i∧smB s (rd (kE s row i) i)=true):upd (kE s row i) i (-1)=kE s row (i+1):=by
 rw[zF h0 (Int.le_refl _) h0 (by omega)] at h
 rw[yK h0 hi,noS,if_pos h]
theorem QS {l:List Int} {i:Int} (h0:0≤i) (hi:i<l.length):upd l i (rd l i)=l:=by
 unfold upd
 rw[dW h0 hi,List.set_getElem_self]
theorem aBy {i:Int} (h0:0≤i) (hi:i<row.length) (h: ¬(0≤rd (kE s row i) i∧smB s (rd (kE s row i) i)=true)):kE s row i=kE s row (i+1):=by
 have e:=zF (s:=s) (row:=row) h0 (Int.le_refl _) h0 (by omega:i≤(row.length:Int))
 rw[e] at h
 rw[yK h0 hi,noS,if_neg h]
 have:=QS (l:=kE s row i) h0 (by rw[EY];exact hi)
 rw[e] at this
 exact this.symm
include hk hs in
theorem YX (hp:l.Perm (aS s)) (hn:0<s.length) {q:Int} (q0:0≤q) (hq:q<s.length):rd (itL s k l s.length).1 q= -1∨(0≤rd (itL s k l s.length).1 q∧rd (itL s k l s.length).1 q<s.length):=
 (zS hk hs hp hn s.length (Nat.le_refl _)).entry hk hs (mZ hk hs hp) q0 hq
include hk hs in
theorem uC (hp:l.Perm (aS s)) (hn:0<s.length):(itL s k l s.length).1.length=s.length:=(zS hk hs hp hn s.length (Nat.le_refl _)).len
include hk hs in
theorem fSe (hp:l.Perm (aS s)) (hn:0<s.length) {m:Nat} (hm:m<s.length) {i:Int} (hi:i=s.length-1-(m:Int)) (hr:row=(itS s k l m).1) (hE:E=(itS s k l m).2):
  (rd row i= -1∨(0≤rd row i∧rd row i<s.length))∧(row.length=s.length∧E.length=k.toNat):=by
 have h:=UK hk hs hp hn m (by omega)
 have b:=(wB hk hs hp hn).1
 subst hr
 subst hE
 exact⟨h.entry hk hs b (by omega) (by omega),h.len,h.elen⟩
include hk hs in
theorem fS (hp:l.Perm (aS s)) (hn:0<s.length) {m:Nat} (hm:m<s.length) {i:Int} (hi:i=s.length-1-(m:Int)) (hr:row=(itS s k l m).1) (hE:E=(itS s k l m).2) (hc:0<rd row i∧smB s (rd row i-1)=true):
  rd row i<s.length∧(0≤rd s (rd row i-1)∧rd s (rd row i-1)<k)∧(0≤rd E (rd s (rd row i-1))-1∧rd E (rd s (rd row i-1))-1<s.length)∧
  upd row (rd E (rd s (rd row i-1))-1) (rd row i-1)=(itS s k l (m+1)).1∧upd E (rd s (rd row i-1)) (rd E (rd s (rd row i-1))-1)=(itS s k l (m+1)).2:=by
 have h:=UK hk hs hp hn m (by omega)
 have b:=(wB hk hs hp hn).1
 subst hr
 subst hE
 have hcs:CS s (itS s k l m).1 (s.length-(m:Int))=CS s (itS s k l m).1 (i+1):=by rw[hi];congr 1;omega
 rw[hcs] at h
 obtain⟨h1,h2,h3,_⟩:=xG hk hs h b (by omega) (by omega) hc
 have hb:=iD hs h1.1
 have hr:=h.room hk hs b h1 h2
 have h4:=h.hE _ hb.1 hb.2
 have h5:=bW (s:=s) (k:=k) (c:=rd s (rd (itS s k l m).1 i-1))
 have h6:=oD hk hs (c:=rd s (rd (itS s k l m).1 i-1)+1) (by omega) (by omega)
 have h7:=fK (s:=s) hb.1 hb.2
 refine⟨h3,hb,⟨by omega,by omega⟩,?_,?_⟩
 ·rw[itS,BJ,←hi,if_pos hc];rfl
 ·rw[itS,BJ,←hi,if_pos hc];rfl
theorem fSs {m:Nat} {i:Int} (hi:i=s.length-1-(m:Int)) (hr:row=(itS s k l m).1) (hE:E=(itS s k l m).2) (hc: ¬(0<rd row i∧smB s (rd row i-1)=true)):row=(itS s k l (m+1)).1∧E=(itS s k l (m+1)).2:=by
 subst hr
 subst hE
 rw[itS,BJ,←hi,if_neg hc]
 exact⟨rfl,rfl⟩
include hk hs in
theorem UQ (hp:l.Perm (aS s)):(kC s k l).length=s.length:=by
 rcases Nat.eq_zero_or_pos s.length with h|h
 ·have e:s=[]:=List.eq_nil_of_length_eq_zero h
  subst e
  have hl:l=[]:=List.eq_nil_of_length_eq_zero (by rw[hp.length_eq];rfl)
  subst hl
  simp[kC,itS,qM,itL,YJ,itF,upd]
 ·rw[(LW hk hs hp h).1.length_eq,aW]
theorem DR (hl:l.Perm (aS [])):kC [] k l=[]:=by
 have hl:l=[]:=List.eq_nil_of_length_eq_zero (by rw[hl.length_eq];rfl)
 subst hl
 simp[kC,itS,qM,itL,YJ,itF,upd]
def smL (s:List Int):List Bool:=(List.range s.length).map fun i:Nat=>smB s (i:Int)
theorem XF (s:List Int):(smL s).length=s.length:=by simp[smL]
theorem gX {i:Int} (h0:0≤i) (hi:i<s.length):rdb (smL s) i=smB s i:=by
 unfold rdb smL
 rw[List.getD_eq_getElem?_getD,List.getElem?_map,List.getElem?_range (by omega)]
 simp only[Option.map_some,Option.getD_some]
 congr 1
 omega
theorem aAt {m:List Bool} (hl:m.length=s.length) (h: ∀j:Int,0≤j→j<s.length→rdb m j=smB s j):m=smL s:=
 PW (by rw[hl,XF]) fun i h0 h1=>by rw[gX h0 (by omega)];exact h i h0 (by omega)
theorem yY {m:List Bool} {i:Int} {b:Bool} (h0:0≤i) (hi:i+1<s.length) (hl:m.length=s.length) (h: ∀j:Int,i<j→j<s.length→rdb m j=smB s j) (hb:b=true↔rd s i<rd s (i+1)∨rd s i=rd s (i+1)∧rdb m (i+1)=true): ∀j:Int,i-1<j→j<s.length→rdb (jS m i b) j=smB s j:=by
 intro j h1 h2
 rw[nT h0 (by omega) (by omega)]
 split
 ·rename_i e
  subst e
  rw[h (j+1) (by omega) (by omega),←mK h0 hi] at hb
  cases b<;>cases hh:smB s j<;>simp_all
 ·exact h j (by omega) h2
def vP (s:List Int) (i:Int):List Int:=(iota i.toNat).filter fun i=>cZ s i
theorem vO:vP s s.length=aS s:=by unfold vP aS;rw[Int.toNat_natCast]
theorem rO {i:Int} (h0:0≤i):vP s (i+1)=vP s i++(if cZ s i=true then [i] else []):=by
 unfold vP
 rw[OT h0,List.filter_append]
 congr 1
 by_cases h:cZ s i=true
 ·rw[if_pos h,List.filter_cons_of_pos h];rfl
 ·rw[if_neg h,List.filter_cons_of_neg h];rfl
theorem DU (i:Int):(vP s i).length≤i.toNat:=by
 unfold vP
 refine Nat.le_trans (List.length_filter_le _ _) ?_
 rw[aW]
 exact Nat.le_refl _
theorem vQ:(aS s).length≤s.length:=by rw[←vO];have:=DU (s:=s) s.length;omega
end
end Go.Pure

namespace Go.Pure
open Go Go.Eng
section
variable {s:List Int} {k:Int}
theorem qE (n:Nat):(iota n).Pairwise (· < ·):=by
 unfold iota
 refine List.pairwise_map.2 (List.Pairwise.imp (fun h=> ?_) List.pairwise_lt_range)
 omega
def kk (s:List Int) (p:Int):Int:=if p<s.length then 2*rd s p+(if smB s p=true then 1 else 0) else -1
theorem mV {p:Int} (h:(s.length:Int)≤p):kk s p= -1:=if_neg (by omega)
theorem qD {p:Int} (h:p<s.length):kk s p=2*rd s p+(if smB s p=true then 1 else 0):=if_pos h
theorem zO {p:Int} (h:isL s p):kk s p=2*rd s p:=by rw[qD h.1.2,h.2];simp
theorem zN {p:Int} (h:isS s p):kk s p=2*rd s p+1:=by rw[qD h.1.2,h.2];simp
def Nn (s:List Int):Prop:= ∀x∈s,0≤x
theorem UI (hs:Nn s) {p:Int} (h0:0≤p) (h:p<s.length):0≤kk s p:=by
 have:=hs _ (bA h0 h)
 rw[qD h]
 split<;>omega
theorem aCy (hs:Nn s) {p:Int} (h0:0≤p): -1≤kk s p:=by
 rcases Int.lt_or_le p s.length with h|h
 ·have:=UI hs h0 h;omega
 ·rw[mV h];omega
theorem jG (hs:Nn s) {p q:Int} (p0:0≤p) (q0:0≤q) (e:kk s p=kk s q) (h:p<s.length):q<s.length∧rd s p=rd s q∧smB s p=smB s q:=by
 have hq:q<s.length:=by
  rcases Int.lt_or_le q s.length with a|a
  ·exact a
  ·have:=UI hs p0 h
   rw[mV a] at e
   omega
 rw[qD h,qD hq] at e
 cases a:smB s p<;>cases b:smB s q<;>simp[a,b] at e<;>exact⟨hq,by omega,by first|rfl|omega⟩
theorem YK (hs:Nn s) {p q:Int} (p0:0≤p) (q0:0≤q) (h:kk s p<kk s q) (hp:p<s.length):bI s p q:=by
 have hq:q<s.length:=by
  rcases Int.lt_or_le q s.length with a|a
  ·exact a
  ·have:=UI hs p0 hp
   rw[mV a] at h
   omega
 rcases jZ (s:=s) ⟨p0,hp⟩ with a|a<;>rcases jZ (s:=s) ⟨q0,hq⟩ with b|b
 ·rw[zO a,zO b] at h;exact kV ⟨p0,hp⟩ ⟨q0,hq⟩ (by omega)
 ·rw [zO a,zN b] at h
  by_cases e:rd s p=rd s q
  ·exact IR a b e
  ·exact kV ⟨p0,hp⟩ ⟨q0,hq⟩ (by omega)
 ·rw[zN a,zO b] at h;exact kV ⟨p0,hp⟩ ⟨q0,hq⟩ (by omega)
 ·rw[zN a,zN b] at h;exact kV ⟨p0,hp⟩ ⟨q0,hq⟩ (by omega)
theorem pV {q:Int} (q0:0≤q) (hq:q<s.length) {p:Int} (hp:(s.length:Int)≤p):bI s p q:=by
 rw[←iX,nD hp,eF q0 hq]
 simp[cmpL]
theorem UH (hs:Nn s): ∀(d:Nat) (x y:Int),0≤x→0≤y→(∀i:Nat,i<d→kk s (x+i)=kk s (y+i))→kk s (x+d)<kk s (y+d)→bI s x y
 | 0,x,y,x0,y0,_,h=>by
  simp only[Int.natCast_zero,Int.add_zero] at h
  rcases Int.lt_or_le x s.length with a|a
  ·exact YK hs x0 y0 h a
  ·have hy:y<s.length:=by
    rcases Int.lt_or_le y s.length with b|b
    ·exact b
    ·rw[mV a,mV b] at h;omega
   exact pV y0 hy a
 | d+1,x,y,x0,y0,he,h=>by
  have e0:=he 0 (by omega)
  simp only[Int.natCast_zero,Int.add_zero] at e0
  have ih:=UH hs d (x+1) (y+1) (by omega) (by omega) (fun i hi=>by
   have:=he (i+1) (by omega)
   rwa[show x+((i+1:Nat):Int)=x+1+i by omega,show y+((i+1:Nat):Int)=y+1+i by omega] at this) (by rwa[show x+((d+1:Nat):Int)=x+1+d by omega,show y+((d+1:Nat):Int)=y+1+d by omega] at h)
  rcases Int.lt_or_le x s.length with a|a
  ·obtain ⟨hy,e,_⟩:=jG hs x0 y0 e0 a
   rw[gY x0 a y0 hy]
   exact .inr ⟨e,iX.2 ih⟩
  ·have b:(s.length:Int)≤y:=by
    rcases Int.lt_or_le y s.length with b|b
    ·have:=(jG hs y0 x0 e0.symm b).1;omega
    ·exact b
   rw[mV (by omega:(s.length:Int)≤x+((d+1:Nat):Int)),mV (by omega:(s.length:Int)≤y+((d+1:Nat):Int))] at h
   omega
theorem wC: ∀(d:Nat) (x y:Int),0≤x→0≤y→x+d<s.length→y+d<s.length→(∀i:Nat,i<d→rd s (x+i)=rd s (y+i))→bI s (x+d) (y+d)→bI s x y
 |0,x,y,_,_,_,_,_,h=>by simpa using h
 | d+1,x,y,x0,y0,hx,hy,he,h=>by
  have e0:=he 0 (by omega)
  simp only[Int.natCast_zero,Int.add_zero] at e0
  refine vD x0 (by omega) y0 (by omega) e0 (wC d (x+1) (y+1) (by omega) (by omega) (by omega) (by omega) (fun i hi=> ?_) ?_)
  ·have:=he (i+1) (by omega)
   rwa[show x+((i+1:Nat):Int)=x+1+i by omega,show y+((i+1:Nat):Int)=y+1+i by omega] at this
  ·rwa[show x+((d+1:Nat):Int)=x+1+d by omega,show y+((d+1:Nat):Int)=y+1+d by omega] at h
def pcL (s:List Int) (x y:Int):Prop:= ∀d:Nat,(∀i:Nat,i<d→kk s (x+i)=kk s (y+i)∧cZ s (x+i)=false)→kk s (x+d)≤kk s (y+d)
def pcS (s:List Int) (x y:Int):Prop:= ∀d:Nat,(∀i:Nat,i<d→kk s (x+i)=kk s (y+i)∧(0<i→cZ s (x+i)=false))→kk s (x+d)≤kk s (y+d)
def pcE (s:List Int) (x y:Int):Prop:= ∀d:Nat,(∀i:Nat,0<i→i<d→cZ s (x+i)=false)→kk s (x+d)=kk s (y+d)
theorem pcS.toL {x y:Int} (h:pcS s x y):pcL s x y:=fun d hd=>h d fun i hi=>⟨(hd i hi).1,fun _=>(hd i hi).2⟩
theorem pcL.toS {x y:Int} (h:pcL s x y) (hx:cZ s x=false):pcS s x y:=fun d hd=>h d fun i hi=>⟨(hd i hi).1,by
 rcases Nat.eq_zero_or_pos i with e|e
 ·subst e;simpa using hx
 ·exact(hd i hi).2 e⟩
theorem TE {x y:Int} (h:kk s x<kk s y):pcS s x y:=fun d hd=>by
 rcases Nat.eq_zero_or_pos d with e|e
 ·subst e;simp;omega
 ·have:=(hd 0 e).1
  simp at this
  omega
theorem vC {x y:Int} (e:kk s x=kk s y) (h:pcL s (x+1) (y+1)):pcS s x y:=fun d hd=>by
 match d with
 |0=>simp;omega
 | d+1=>
  have:=h d fun i hi=>by
   have:=hd (i+1) (by omega)
   rw[show x+((i+1:Nat):Int)=x+1+i by omega,show y+((i+1:Nat):Int)=y+1+i by omega] at this
   exact⟨this.1,this.2 (by omega)⟩
  rwa[show x+((d+1:Nat):Int)=x+1+d by omega,show y+((d+1:Nat):Int)=y+1+d by omega]
theorem isL.not_fst {x:Int} (h:isL s x):cZ s x=false:=by
 cases e:cZ s x with
 |false=>rfl
 |true=>have:=(iB.1 e).2.1;rw[h.2] at this;cases this
theorem CK {p q:Int} (hp:0≤p∧p<s.length) (hq:0≤q∧q<s.length) (h:rd s p<rd s q):pcS s p q:=by
 refine TE ?_
 rw[qD hp.2,qD hq.2]
 split<;>split<;>omega
theorem TF {p q:Int} (hp:isL s p) (hq:isS s q) (e:rd s p=rd s q):pcS s p q:=TE (by rw[zO hp,zN hq];omega)
theorem XU (hs:Nn s):WI s (pcL s):=⟨fun hp hq h=>(CK hp hq h).toL,fun hp hq e=>(TF hp hq e).toL,fun {q} hn q0 hq e hL=>by
  have hl:isL s (s.length-1):=⟨by omega,jU (by omega) (by omega)⟩
  refine(vC (by rw[zO hl,zO hL,e]) fun d hd=> ?_).toL
  rw[mV (by omega:(s.length:Int)≤s.length-1+1+d)]
  exact aCy hs (by omega),fun hp hq _ _ e h=>(vC (by rw[zO hp,zO hq,e]) h).toL⟩
theorem XT:ZI s (pcS s):=⟨CK,TF,fun hp hq _ _ e h=>vC (by rw[zN hp,zN hq,e]) h.toL⟩
theorem aBa (l:List Int) (ok:fE s l) (c:Int):(bK l s c).Pairwise (pcL s):=by
 refine List.pairwise_iff_getElem.2 fun i j hi hj _=> ?_
 have hx:=List.mem_filter.1 (List.getElem_mem hi)
 have hy:=List.mem_filter.1 (List.getElem_mem hj)
 rw[decide_eq_true_iff] at hx hy
 intro d hd
 match d with
 |0=>simp only[Int.natCast_zero,Int.add_zero];rw[zN (ok.small hx.1),zN (ok.small hy.1)];omega
 |d+1=>
  have:=(hd 0 (by omega)).2
  simp only[Int.natCast_zero,Int.add_zero] at this
  rw[(ok.2 _ hx.1).2] at this
  cases this
theorem IZ (hk:0≤k) (hs: ∀x∈s,0≤x∧x<k) {l:List Int} (hp:l.Perm (aS s)) (hn:0<s.length):(kC s k l).Perm (iota s.length)∧(kC s k l).Pairwise (pcS s):=by
 have h:=DN hk hs (XU fun x hx=>(hs x hx).1) XT (fun p q hp _ h=>h.toS hp.not_fst) (aBa l (fJ hp)) hp hn
 exact⟨h.1,h.2.2⟩
theorem aBo (hs:Nn s) {x y:Int} (x0:0≤x) (y0:0≤y) (e:kk s x=kk s y) (e1:kk s (x+1)=kk s (y+1)):cZ s (x+1)=cZ s (y+1):=by
 unfold cZ
 rw[show x+1-1=x by omega,show y+1-1=y by omega]
 rw[decide_eq_true (by omega:0<x+1),decide_eq_true (by omega:0<y+1)]
 rcases Int.lt_or_le (x+1) s.length with a|a
 ·rw[(jG hs x0 y0 e (by omega)).2.2,(jG hs (by omega) (by omega) e1 a).2.2]
 ·have b:(s.length:Int)≤y+1:=by
   rcases Int.lt_or_le (y+1) s.length with b|b
   ·have:=(jG hs (by omega) (by omega) e1.symm b).1;omega
   ·exact b
  rw[jU (i:=x+1) (by omega) (by omega),jU (i:=y+1) (by omega) (by omega)]
  simp
theorem qG (hs:Nn s) {x y:Int} (x0:0≤x) (y0:0≤y) {i:Nat} (hi:0<i) (e: ∀j:Nat,j≤i→kk s (x+j)=kk s (y+j)):cZ s (x+i)=cZ s (y+i):=by
 have h1:=e (i-1) (by omega)
 have h2:=e i (Nat.le_refl _)
 have:=aBo hs (x:=x+((i-1:Nat):Int)) (y:=y+((i-1:Nat):Int)) (by omega) (by omega) h1 (by rwa[show x+((i-1:Nat):Int)+1=x+i by omega,show y+((i-1:Nat):Int)+1=y+i by omega])
 rwa[show x+((i-1:Nat):Int)+1=x+i by omega,show y+((i-1:Nat):Int)+1=y+i by omega] at this
theorem pI (hs:Nn s) {x u v y:Int} (x0:0≤x) (u0:0≤u) (v0:0≤v) (h1:pcS s x u) (h2:pcS s u v) (h3:pcS s v y) (he:pcE s x y): ∀d:Nat,(∀i:Nat,0<i→i<d→cZ s (u+i)=false)→ ∀i:Nat,i≤d→kk s (x+i)=kk s (u+i)∧kk s (u+i)=kk s (v+i)∧kk s (x+i)=kk s (y+i)
 |0,_,i,hi=>by
  obtain rfl:i=0:=by omega
  have a:=h1 0 (fun i hi=>by omega)
  have b:=h2 0 (fun i hi=>by omega)
  have c:=h3 0 (fun i hi=>by omega)
  have d:=he 0 (fun i _ hi=>by omega)
  omega
 | d+1,hd,i,hi=>by
  have ih:=pI hs x0 u0 v0 h1 h2 h3 he d fun i h0 hi=>hd i h0 (by omega)
  rcases Nat.lt_or_ge d i with g|g
  ·obtain rfl:i=d+1:=by omega
   have fu: ∀i:Nat,i<d+1→0<i→cZ s (u+i)=false:=fun i hi h0=>hd i h0 hi
   have fx: ∀i:Nat,i<d+1→0<i→cZ s (x+i)=false:=fun i hi h0=>by
    rw[qG hs x0 u0 h0 fun j hj=>(ih j (by omega)).1]
    exact fu i hi h0
   have vy: ∀i:Nat,i<d+1→kk s (v+i)=kk s (y+i):=fun i hi=>by have:=ih i (by omega);omega
   have a:=h1 (d+1) fun i hi=>⟨(ih i (by omega)).1,fx i hi⟩
   have b:=h2 (d+1) fun i hi=>⟨(ih i (by omega)).2.1,fu i hi⟩
   have e:=he (d+1) fun i h0 hi=>fx i hi h0
   have c:kk s (v+((d+1:Nat):Int))≤kk s (y+((d+1:Nat):Int)):=by
    refine h3 (d+1) fun i hi=>⟨vy i hi,fun h0=> ?_⟩
    rw[←qG hs u0 v0 h0 fun j hj=>(ih j (by omega)).2.1]
    exact fu i hi h0
   omega
  ·exact ih i g
theorem GV (hs:Nn s) {x u v y:Int} (x0:0≤x) (u0:0≤u) (v0:0≤v) (h1:pcS s x u) (h2:pcS s u v) (h3:pcS s v y) (he:pcE s x y):pcE s x u∧pcE s u v:=by
 refine⟨fun d hd=> ?_,fun d hd=>(pI hs x0 u0 v0 h1 h2 h3 he d hd d (Nat.le_refl _)).2.1⟩
 suffices h: ∀d:Nat,(∀i:Nat,0<i→i<d→cZ s (x+i)=false)→ ∀i:Nat,i≤d→kk s (x+i)=kk s (u+i) from h d hd d (Nat.le_refl _)
 intro d
 induction d with
 |zero=>intro _ i hi;obtain rfl:i=0:=(by omega);exact(pI hs x0 u0 v0 h1 h2 h3 he 0 (fun i h0 hi=>by omega) 0 (Nat.le_refl _)).1
 |succ d ih=>
  intro hd i hi
  have ih':=ih fun i h0 hi=>hd i h0 (by omega)
  refine(pI hs x0 u0 v0 h1 h2 h3 he (d+1) (fun j h0 hj=> ?_) i hi).1
  rw[←qG hs x0 u0 h0 fun m hm=>ih' m (by omega)]
  exact hd j h0 hj
theorem pcE.symm (hs:Nn s) {x y:Int} (x0:0≤x) (y0:0≤y) (h:pcE s x y):pcE s y x:=by
 intro d hd
 suffices g: ∀d:Nat,(∀i:Nat,0<i→i<d→cZ s (y+i)=false)→ ∀i:Nat,i≤d→kk s (y+i)=kk s (x+i) from g d hd d (Nat.le_refl _)
 intro d
 induction d with
 |zero=>intro _ i hi;obtain rfl:i=0:=(by omega);exact(h 0 fun i h0 hi=>by omega).symm
 | succ d ih=>
  intro hd i hi
  have ih':=ih fun i h0 hi=>hd i h0 (by omega)
  rcases Nat.lt_or_ge d i with g|g
  ·obtain rfl:i=d+1:=by omega
   refine(h (d+1) fun j h0 hj=> ?_).symm
   rw[←qG hs y0 x0 h0 fun m hm=>ih' m (by omega)]
   exact hd j h0 hj
  ·exact ih' i g
theorem XV (hs:Nn s) {x y:Int} (x0:0≤x) (y0:0≤y) (h:pcS s x y) (hne: ¬pcE s x y):bI s x y:=by
 have key: ∀D:Nat,(∀i:Nat,0<i→i<D→cZ s (x+i)=false)→ ¬kk s (x+D)=kk s (y+D)→ ∃d:Nat,(∀i:Nat,i<d→kk s (x+i)=kk s (y+i))∧kk s (x+d)<kk s (y+d):=by
  intro D
  induction D using Nat.strongRecOn with
  | ind D ih=>
   intro hD hne
   by_cases he: ∀i:Nat,i<D→kk s (x+i)=kk s (y+i)
   ·have:=h D fun i hi=>⟨he i hi,fun h0=>hD i h0 hi⟩
    exact⟨D,he,by omega⟩
   ·obtain ⟨i,hi⟩:=Classical.not_forall.1 he
    obtain⟨hi1,hi2⟩:=Classical.not_imp.1 hi
    exact ih i hi1 (fun j h0 hj=>hD j h0 (by omega)) hi2
 obtain⟨D,hD⟩:=Classical.not_forall.1 hne
 obtain⟨hD1,hD2⟩:=Classical.not_imp.1 hD
 obtain⟨d,h1,h2⟩:=key D hD1 hD2
 exact UH hs d x y x0 y0 h1 h2
structure NxI (s:List Int) (x z:Int):Prop where
 gt:x<z
 le:z≤s.length
 no: ∀q,x<q→q<z→cZ s q=false
 is:z<s.length→cZ s z=true
theorem NxI.one {x z w:Int} (h:NxI s x z) (g:NxI s x w):z=w:=by
 rcases Int.lt_trichotomy z w with a|a|a
 ·have h1:=h.is (by have:=g.le;omega)
  rw[g.no z h.gt a] at h1
  cases h1
 ·exact a
 ·have h1:=g.is (by have:=h.le;omega)
  rw[h.no w g.gt a] at h1
  cases h1
def Peq (s nx:List Int) (x y:Int):Prop:=rd nx x<s.length∧rd nx y<s.length∧rd nx x-x=rd nx y-y∧ ∀i:Int,0≤i→i≤rd nx x-x→rd s (x+i)=rd s (y+i)
theorem Peq.symm {nx:List Int} {x y:Int} (h:Peq s nx x y):Peq s nx y x:=⟨h.2.1,h.1,h.2.2.1.symm,fun i h0 h1=>(h.2.2.2 i h0 (by have:=h.2.2.1;omega)).symm⟩
theorem Peq.trans {nx:List Int} {x y z:Int} (h:Peq s nx x y) (g:Peq s nx y z):Peq s nx x z:=⟨h.1,g.2.1,h.2.2.1.trans g.2.2.1,fun i h0 h1=>(h.2.2.2 i h0 h1).trans (g.2.2.2 i h0 (by have:=h.2.2.1;omega))⟩
theorem Peq.E {nx:List Int} {x y:Int} (x0:0≤x) (y0:0≤y) (hx:NxI s x (rd nx x)) (hy:NxI s y (rd nx y)) (h:Peq s nx x y):pcE s x y:=by
 obtain⟨h1,h2,h3,h4⟩:=h
 have hgt:=hx.gt
 have fx:=iB.1 (hx.is h1)
 have fy:=iB.1 (hy.is h2)
 have kinds: ∀m:Nat,∀i:Int,0≤i→i≤rd nx x-x→rd nx x-x-i≤m→smB s (x+i)=smB s (y+i):=by
  intro m
  induction m with
  |zero=>
   intro i i0 i1 i2
   obtain rfl:i=rd nx x-x:=by omega
   rw[show x+(rd nx x-x)=rd nx x by omega,show y+(rd nx x-x)=rd nx y by omega,fx.2.1,fy.2.1]
  | succ m ih=>
   intro i i0 i1 i2
   rcases Int.lt_or_le i (rd nx x-x) with g|g
   ·have e:=ih (i+1) (by omega) (by omega) (by omega)
    have c0:=h4 i i0 i1
    have c1:=h4 (i+1) (by omega) (by omega)
    have a:=mK (s:=s) (i:=x+i) (by omega) (by omega)
    have b:=mK (s:=s) (i:=y+i) (by omega) (by omega)
    rw[show x+i+1=x+(i+1) by omega] at a
    rw[show y+i+1=y+(i+1) by omega,←c0,←c1,←e] at b
    exact Bool.eq_iff_iff.2 (a.trans b.symm)
   ·exact ih i i0 i1 (by omega)
 intro d hd
 have hdL:(d:Int)≤rd nx x-x:=by
  rcases Int.lt_or_le (rd nx x-x) d with g|g
  ·have:=hd (rd nx x-x).toNat (by omega) (by omega)
   rw[show x+(((rd nx x-x).toNat:Nat):Int)=rd nx x by omega,hx.is h1] at this
   cases this
  ·exact g
 rw[qD (by omega),qD (by omega),h4 d (by omega) hdL,kinds (rd nx x-x).toNat d (by omega) hdL (by omega)]
theorem Peq.of_E (hs:Nn s) {nx:List Int} {x y:Int} (x0:0≤x) (y0:0≤y) (hne:x≠y) (hx:NxI s x (rd nx x)) (hy:NxI s y (rd nx y)) (h:pcE s x y):Peq s nx x y:=by
 have hgt:=hx.gt
 have hgty:=hy.gt
 have hle:=hx.le
 have hley:=hy.le
 have he: ∀i:Int,0≤i→i≤rd nx x-x→kk s (x+i)=kk s (y+i):=fun i i0 i1=>by
  have:=h i.toNat fun j j0 j1=>hx.no _ (by omega) (by omega)
  rwa[show((i.toNat:Nat):Int)=i by omega] at this
 have hL:=he (rd nx x-x) (by omega) (Int.le_refl _)
 have hL1:=he (rd nx x-x-1) (by omega) (by omega)
 rw[show x+(rd nx x-x)=rd nx x by omega] at hL
 have hb:=(jG hs (by omega) (by omega) hL1 (by omega)).1
 have hnx:rd nx x<s.length:=by
  rcases Int.lt_or_le (rd nx x) s.length with g|g
  ·exact g
  ·have:(s.length:Int)≤y+(rd nx x-x):=by
    rcases Int.lt_or_le (y+(rd nx x-x)) s.length with b|b
    ·have:=(jG hs (by omega) (by omega) hL.symm b).1;omega
    ·exact b
   omega
 have hyL:=(jG hs (by omega) (by omega) hL hnx).1
 have fsame: ∀i:Int,0<i→i≤rd nx x-x→cZ s (x+i)=cZ s (y+i):=fun i i0 i1=>by
  have:=qG hs x0 y0 (i:=i.toNat) (by omega) fun j hj=>he j (by omega) (by omega)
  rwa[show((i.toNat:Nat):Int)=i by omega] at this
 have hny:NxI s y (y+(rd nx x-x)):=⟨by omega,by omega,fun q h1 h2=>by
  have:=fsame (q-y) (by omega) (by omega)
  rw[show y+(q-y)=q by omega] at this
  rw[←this]
  exact hx.no _ (by omega) (by omega),fun _=>by
  rw[←fsame _ (by omega) (Int.le_refl _),show x+(rd nx x-x)=rd nx x by omega]
  exact hx.is hnx⟩
 have e:=hy.one hny
 refine⟨hnx,by omega,by omega,fun i i0 i1=>(jG hs (by omega) (by omega) (he i i0 i1) (by omega)).2.1⟩
end
end Go.Pure
namespace Go.Pure
open Go Go.Eng
section
variable {s:List Int} {k:Int}
theorem UV (s:List Int):(aS s).Pairwise (· < ·):=(qE _).sublist List.filter_sublist
theorem iT {a:Int} (h0:0≤a) (h:a<(aS s).length):(0≤rd (aS s) a∧rd (aS s) a<s.length)∧cZ s (rd (aS s) a)=true:=kZ.1 (bA h0 h)
theorem zU {x:Int} (h0:0≤x) (h:x<s.length) (hf:cZ s x=true): ∃a:Int,0≤a∧a<(aS s).length∧rd (aS s) a=x:=by
 obtain⟨u,hu,e⟩:=List.mem_iff_getElem.1 (kZ.2 ⟨⟨h0,h⟩,hf⟩)
 exact⟨u,by omega,by omega,by rw[dS hu];exact e⟩
theorem qH {a b:Int} (h0:0≤a) (hab:a<b) (h:b<(aS s).length):rd (aS s) a<rd (aS s) b:=bU (UV s) h0 hab h
theorem OV (hn:0<s.length):(aS s).length<s.length:=by
 have:(aS s).length≤((iota s.length).erase 0).length:=jL (oQ s) fun x hx=>by
  have h:=kZ.1 hx
  have h0:=(iB.1 h.2).1
  exact(List.mem_erase_of_ne (by omega)).2 (aO.2 h.1)
 rw[List.length_erase_of_mem (aO.2 ⟨Int.le_refl 0,by omega⟩),aW] at this
 omega
structure lD (s nx:List Int) (i:Int):Prop where
 len:nx.length=s.length
 at_: ∀a:Int,0≤a→a<i→rd nx (rd (aS s) a)=if a+1<(aS s).length then rd (aS s) (a+1) else s.length
 no: ∀j:Int,0≤j→j<s.length→cZ s j=false→rd nx j=0
theorem XZ:lD s (List.replicate s.length 0) 0:=⟨by simp,fun a h0 h=>by omega,fun j _ _ _=>zD⟩
theorem lD.step {nx nx':List Int} {i v:Int} (h:lD s nx i) (h0:0≤i) (hi:i<(aS s).length) (hv:v=if i+1<(aS s).length then rd (aS s) (i+1) else s.length) (hl:nx'.length=s.length)
  (he: ∀j:Int,0≤j→rd nx' j=if j=rd (aS s) i then v else rd nx j):lD s nx' (i+1):=by
 have hf:=iT h0 hi
 refine⟨hl,fun a a0 a1=> ?_,fun j j0 j1 hj=> ?_⟩
 ·have ha:=iT (s:=s) a0 (by omega)
  rw[he _ ha.1.1]
  by_cases e:a=i
  ·subst e;rw[if_pos rfl,hv]
  ·rw [if_neg,h.at_ a a0 (by omega)]
   have:=qH (s:=s) a0 (by omega:a<i) hi
   omega
 ·rw [he j j0,if_neg,h.no j j0 j1 hj]
  intro e
  rw[e,hf.2] at hj
  cases hj
theorem lD.step1 {nx:List Int} {i:Int} (h:lD s nx i) (h0:0≤i) (hi:i<(aS s).length) (hc: ¬i+1<(aS s).length):lD s (upd nx (rd (aS s) i) s.length) (i+1):=by
 have hf:=iT h0 hi
 exact h.step h0 hi (by rw[if_neg hc]) (by rw[aQ];exact h.len) fun j j0=>dR hf.1.1 j0 (by rw[h.len];exact hf.1.2)
theorem lD.step2 {nx:List Int} {i:Int} {w:Int} (h:lD s nx i) (h0:0≤i) (hi:i<(aS s).length) (hc:i+1<(aS s).length):lD s (upd (upd nx (rd (aS s) i) w) (rd (aS s) i) (rd (aS s) (i+1))) (i+1):=by
 have hf:=iT h0 hi
 refine h.step h0 hi (by rw[if_pos hc]) (by rw[aQ,aQ];exact h.len) fun j j0=> ?_
 rw[dR hf.1.1 j0 (by rw[aQ,h.len];exact hf.1.2)]
 split
 ·rfl
 ·rename_i e
  rw[dR hf.1.1 j0 (by rw[h.len];exact hf.1.2),if_neg e]
theorem lD.nx {nx:List Int} (h:lD s nx (aS s).length) {x:Int} (h0:0≤x) (hx:x<s.length) (hf:cZ s x=true):NxI s x (rd nx x):=by
 obtain⟨a,a0,a1,rfl⟩:=zU h0 hx hf
 rw[h.at_ a a0 a1]
 split
 ·rename_i e
  have g:=iT (s:=s) (a:=a+1) (by omega) e
  refine⟨qH a0 (by omega) e,by omega,fun q h1 h2=> ?_,fun _=>g.2⟩
  cases hq:cZ s q with
  |false=>rfl
  | true=>
   obtain⟨b,b0,b1,rfl⟩:=zU (s:=s) (x:=q) (by omega) (by omega) hq
   exfalso
   rcases Int.lt_trichotomy b a with d|d|d
   ·have:=qH (s:=s) b0 d a1;omega
   ·subst d;omega
   ·rcases Int.lt_or_le (a+1) b with d2|d2
    ·have:=qH (s:=s) (a:=a+1) (by omega) d2 b1;omega
    ·obtain rfl:b=a+1:=by omega
     omega
 ·rename_i e
  refine⟨hx,Int.le_refl _,fun q h1 h2=> ?_,fun h=>by omega⟩
  cases hq:cZ s q with
  |false=>rfl
  |true=>
   obtain⟨b,b0,b1,rfl⟩:=zU (s:=s) (x:=q) (by omega) (by omega) hq
   exfalso
   rcases Int.lt_trichotomy b a with d|d|d
   ·have:=qH (s:=s) b0 d a1;omega
   ·subst d;omega
   ·omega
theorem lD.zero {nx:List Int} (h:lD s nx (aS s).length) {x:Int} (h0:0≤x) (hx:x<s.length):rd nx x=0↔cZ s x=false:=by
 cases hf:cZ s x with
 |false=>exact⟨fun _=>rfl,fun _=>h.no x h0 hx hf⟩
 |true=>exact⟨fun e=>by have:=(h.nx h0 hx hf).gt;omega,fun e=>by cases e⟩
structure oW (s ord nx:List Int) (t:Int) (nm:List Int) (n last:Int):Prop where
 len:nm.length=s.length
 bd:0≤n∧n≤t
 start:last= -1→n=0∧ ∀q:Int,0≤q→q<t→cZ s (rd ord q)=false
 last_:last= -1∨ ∃q:Int,0≤q∧q<t∧rd ord q=last∧cZ s last=true∧rd nm last=n∧ ∀r:Int,q<r→r<t→cZ s (rd ord r)=false
 rng: ∀q:Int,0≤q→q<t→cZ s (rd ord q)=true→0≤rd nm (rd ord q)∧rd nm (rd ord q)≤n
 pair: ∀q r:Int,0≤q→q<r→r<t→cZ s (rd ord q)=true→cZ s (rd ord r)=true→rd nm (rd ord q)≤rd nm (rd ord r)∧(rd nm (rd ord q)=rd nm (rd ord r)→Peq s nx (rd ord q) (rd ord r))∧(rd nm (rd ord q)<rd nm (rd ord r)→ ¬pcE s (rd ord q) (rd ord r))
variable {ord nx nm:List Int} {t n last:Int}
theorem TU:oW s ord nx 0 (List.replicate s.length 0) 0 (-1):=⟨by simp,by omega,fun _=>⟨rfl,fun q h0 h=>by omega⟩, .inl rfl,fun q h0 h=>by omega,fun q r h0 h h'=>by omega⟩
theorem oW.skip (h:oW s ord nx t nm n last) (hf:cZ s (rd ord t)=false):oW s ord nx (t+1) nm n last:=by
 have hno: ∀ {q:Int},q<t+1→cZ s (rd ord q)=true→q<t:=fun {q} h1 h2=>by
  rcases Int.lt_or_le q t with a|a
  ·exact a
  ·obtain rfl:q=t:=by omega
   rw[hf] at h2;cases h2
 refine⟨h.len,by have:=h.bd;omega,fun e=>⟨(h.start e).1,fun q h0 h1=> ?_⟩,?_,fun q h0 h1 h2=>h.rng q h0 (hno h1 h2) h2,fun q r h0 h1 h2 f1 f2=>h.pair q r h0 h1 (hno h2 f2) f1 f2⟩
 ·rcases Int.lt_or_le q t with a|a
  ·exact(h.start e).2 q h0 a
  ·obtain rfl:q=t:=by omega
   exact hf
 ·rcases h.last_ with e|⟨q,h1,h2,h3,h4,h5,h6⟩
  ·exact .inl e
  ·refine .inr ⟨q,h1,by omega,h3,h4,h5,fun r r0 r1=> ?_⟩
   rcases Int.lt_or_le r t with a|a
   ·exact h6 r r0 a
   ·obtain rfl:r=t:=by omega
    exact hf
theorem oW.last_in (h:oW s ord nx t nm n last) (hp:ord.Perm (iota s.length)) (ht:t≤s.length):last= -1∨((0≤last∧last<s.length)∧cZ s last=true):=by
 rcases h.last_ with e|⟨q,h1,h2,h3,h4,_⟩
 ·exact .inl e
 ·rw [←h3]
  have hl:=hp.length_eq
  rw[aW] at hl
  exact .inr ⟨aO.1 (hp.subset (bA h1 (by omega))),by rw[h3];exact h4⟩
theorem oW.step (hs:Nn s) (h:oW s ord nx t nm n last) (hp:ord.Perm (iota s.length)) (ho:ord.Pairwise (pcS s)) (hx:lD s nx (aS s).length) (t0:0≤t) (ht:t<s.length) (hf:cZ s (rd ord t)=true) {n':Int}
  (hn:(last= -1∧n'=n)∨(0≤last∧Peq s nx last (rd ord t)∧n'=n)∨(0≤last∧ ¬Peq s nx last (rd ord t)∧n'=n+1)):oW s ord nx (t+1) (upd nm (rd ord t) n') n' (rd ord t):=by
 have hl:ord.length=s.length:=by rw[hp.length_eq,aW]
 have hnd:ord.Nodup:=hp.symm.nodup (cO _)
 have hin: ∀q:Int,0≤q→q<s.length→0≤rd ord q∧rd ord q<s.length:=fun q q0 q1=>aO.1 (hp.subset (bA q0 (by omega)))
 have ht':=hin t t0 ht
 have hrd: ∀q:Int,0≤q→q<t→rd (upd nm (rd ord t) n') (rd ord q)=rd nm (rd ord q):=fun q q0 q1=>by
  have hq:=hin q q0 (by omega)
  rw[dR ht'.1 hq.1 (by rw[h.len];exact ht'.2),if_neg]
  intro e
  have:=fH hnd q0 (by omega) t0 (by omega) e
  omega
 have hrt:rd (upd nm (rd ord t) n') (rd ord t)=n':=by rw[dR ht'.1 ht'.1 (by rw[h.len];exact ht'.2),if_pos rfl]
 have hbd:=h.bd
 have hnn:n≤n':=by rcases hn with a|a|a<;>omega
 refine⟨by rw[aQ];exact h.len,by rcases hn with a|a|a<;>omega,fun e=>by omega, .inr ⟨t,t0,by omega,rfl,hf,hrt,fun r r0 r1=>by omega⟩,fun q q0 q1 f=> ?_,fun q r q0 qr r1 f1 f2=> ?_⟩
 ·rcases Int.lt_or_le q t with a|a
  ·rw [hrd q q0 a]
   have:=h.rng q q0 a f
   omega
  ·obtain rfl:q=t:=by omega
   rw[hrt];omega
 ·rcases Int.lt_or_le r t with a|a
  ·rw [hrd q q0 (by omega),hrd r (by omega) a]
   exact h.pair q r q0 qr a f1 f2
  ·obtain rfl:r=t:=by omega
   rw[hrd q q0 qr,hrt]
   have hq:=hin q q0 (by omega)
   have hg:=h.rng q q0 qr f1
   rcases h.last_ with e|⟨z,z0,z1,z2,z3,z4,z5⟩
   ·have:=(h.start e).2 q q0 qr
    rw[f1] at this;cases this
   ·have hqz:q≤z:=by
     rcases Int.lt_or_le z q with b|b
     ·have:=z5 q b qr
      rw[f1] at this;cases this
     ·exact b
    have hz:=hin z z0 (by omega)
    have hzr:pcS s (rd ord z) (rd ord r):=bU ho z0 z1 (by omega)
    have hzx:=hx.nx hz.1 hz.2 (by rw[z2];exact z3)
    have hrx:=hx.nx ht'.1 ht'.2 hf
    have hqx:=hx.nx hq.1 hq.2 f1
    have hne:rd ord z≠rd ord r:=fun e=>by have:=fH hnd z0 (by omega) t0 (by omega) e;omega
    have hlast:(n'=n→Peq s nx (rd ord z) (rd ord r))∧(n<n'→ ¬Peq s nx (rd ord z) (rd ord r)):=by
     rw[z2]
     rcases hn with b|b|b
     ·omega
     ·exact⟨fun _=>b.2.1,fun _=>by omega⟩
     ·exact⟨fun _=>by omega,fun _=>b.2.1⟩
    have hE:pcE s (rd ord q) (rd ord r)→pcE s (rd ord z) (rd ord r)∧(q<z→pcE s (rd ord q) (rd ord z)):=fun he=>by
     rcases Int.lt_or_le q z with b|b
     ·have:=GV hs (u:=rd ord z) (v:=rd ord r) (y:=rd ord r) hq.1 hz.1 ht'.1 (bU ho q0 b (by omega)) hzr (fun d hd=>Int.le_refl _) he
      exact⟨this.2,fun _=>this.1⟩
     ·obtain rfl:q=z:=by omega
      exact⟨he,fun h=>by omega⟩
    rcases Int.lt_or_le q z with b|b
    ·have hpr:=h.pair q z q0 b z1 f1 (by rw[z2];exact z3)
     have ez:rd nm (rd ord z)=n:=by rw[z2];exact z4
     rw[ez] at hpr
     refine⟨by omega,fun e=>(hpr.2.1 (by omega)).trans (hlast.1 (by omega)),fun e he=> ?_⟩
     rcases Int.lt_or_le n n' with g|g
     ·exact hlast.2 g (Peq.of_E hs hz.1 ht'.1 hne hzx hrx (hE he).1)
     ·exact hpr.2.2 (by omega) ((hE he).2 b)
    ·obtain rfl:q=z:=by omega
     have ez:rd nm (rd ord q)=n:=by rw[z2];exact z4
     rw[ez]
     refine⟨hnn,fun e=>hlast.1 e.symm,fun e he=>hlast.2 e (Peq.of_E hs hz.1 ht'.1 hne hzx hrx he)⟩
theorem xV (hs:Nn s) (h:oW s ord nx s.length nm n last) (hp:ord.Perm (iota s.length)) (ho:ord.Pairwise (pcS s)) (hx:lD s nx (aS s).length): ∀(m:Nat) (a b:Int),(aS s).length-a≤m→0≤a→a<(aS s).length→0≤b→b<(aS s).length→
  bI ((aS s).map (rd nm)) a b→bI s (rd (aS s) a) (rd (aS s) b)
 |0,a,b,hm,a0,a1,_,_,_=>by omega
 | m +1,a,b,hm,a0,a1,b0,b1,hab=>by
  have hl:ord.length=s.length:=by rw[hp.length_eq,aW]
  have hml:((aS s).map (rd nm)).length=(aS s).length:=by rw[List.length_map]
  have hnm: ∀c:Int,0≤c→c<(aS s).length→rd ((aS s).map (rd nm)) c=rd nm (rd (aS s) c):=fun c c0 c1=>by
   rw[dW c0 (by omega),List.getElem_map,←dW c0 c1]
  have hix: ∀c:Int,0≤c→c<(aS s).length→ ∃q:Int,0≤q∧q<s.length∧rd ord q=rd (aS s) c:=fun c c0 c1=>by
   have hc:=iT (s:=s) c0 c1
   obtain⟨u,hu,e⟩:=List.mem_iff_getElem.1 (hp.symm.subset (aO.2 hc.1))
   exact⟨u,by omega,by omega,by rw[dS hu];exact e⟩
  have hne:a≠b:=fun e=>by rw[e] at hab;exact dI _ _ hab hab
  have ha:=iT (s:=s) a0 a1
  have hb:=iT (s:=s) b0 b1
  have hxy:rd (aS s) a≠rd (aS s) b:=fun e=>hne (fH (oQ s) a0 a1 b0 b1 e)
  obtain⟨q,q0,q1,eq⟩:=hix a a0 a1
  obtain⟨r,r0,r1,er⟩:=hix b b0 b1
  have hqr:q≠r:=fun e=>hxy (by rw[←eq,←er,e])
  rw[gY a0 (by omega) b0 (by omega),hnm a a0 a1,hnm b b0 b1] at hab
  have hfq:cZ s (rd ord q)=true:=by rw[eq];exact ha.2
  have hfr:cZ s (rd ord r)=true:=by rw[er];exact hb.2
  rcases hab with hlt|⟨he,hrest⟩
  ·rcases Int.lt_or_le q r with c|c
   ·have hpr:=h.pair q r q0 c r1 hfq hfr
    rw[eq,er] at hpr
    have:=bU ho q0 c (by omega)
    rw[eq,er] at this
    exact XV hs ha.1.1 hb.1.1 this (hpr.2.2 hlt)
   ·have hpr:=h.pair r q r0 (by omega) q1 hfr hfq
    rw[eq,er] at hpr
    omega
  ·have hpe:Peq s nx (rd (aS s) a) (rd (aS s) b):=by
    rcases Int.lt_or_le q r with c|c
    ·have hpr:=h.pair q r q0 c r1 hfq hfr
     rw[eq,er] at hpr
     exact hpr.2.1 he
    ·have hpr:=h.pair r q r0 (by omega) q1 hfr hfq
     rw[eq,er] at hpr
     exact(hpr.2.1 he.symm).symm
   obtain⟨p1,p2,p3,p4⟩:=hpe
   have gx:=(hx.nx ha.1.1 ha.1.2 ha.2).gt
   have ea:=hx.at_ a a0 a1
   have eb:=hx.at_ b b0 b1
   have hac:a+1<(aS s).length:=by
    rcases Int.lt_or_le (a+1) (aS s).length with c|c
    ·exact c
    ·rw[if_neg (by omega)] at ea;omega
   have hbc:b+1<(aS s).length:=by
    rcases Int.lt_or_le (b+1) (aS s).length with c|c
    ·exact c
    ·rw[if_neg (by omega)] at eb;omega
   rw[if_pos hac] at ea
   rw[if_pos hbc] at eb
   have ih:=xV hs h hp ho hx m (a+1) (b+1) (by omega) (by omega) hac (by omega) hbc (iX.1 hrest)
   rw[←ea,←eb] at ih
   refine wC (rd nx (rd (aS s) a)-rd (aS s) a).toNat _ _ ha.1.1 hb.1.1 (by omega) (by omega) (fun i hi=>p4 i (by omega) (by omega)) ?_
   rwa[show rd (aS s) a+(((rd nx (rd (aS s) a)-rd (aS s) a).toNat:Nat):Int)=rd nx (rd (aS s) a) by omega,show rd (aS s) b+(((rd nx (rd (aS s) a)-rd (aS s) a).toNat:Nat):Int)=rd nx (rd (aS s) b) by omega]
theorem TQ (h:oW s ord nx s.length nm n last) (hp:ord.Perm (iota s.length)): ∀x∈(aS s).map (rd nm),0≤x∧x<n+1:=by
 intro x hx
 obtain⟨y,hy,rfl⟩:=List.mem_map.1 hx
 obtain⟨hy1,hy2⟩:=kZ.1 hy
 have hl:ord.length=s.length:=by rw[hp.length_eq,aW]
 obtain⟨u,hu,e⟩:=List.mem_iff_getElem.1 (hp.symm.subset (aO.2 hy1))
 have:=h.rng u (by omega) (by omega) (by rw[dS hu,e];exact hy2)
 rw[dS hu,e] at this
 omega
theorem SA (hs:Nn s) (h:oW s ord nx s.length nm n last) (hp:ord.Perm (iota s.length)) (ho:ord.Pairwise (pcS s)) (hx:lD s nx (aS s).length) {o:List Int} (op:o.Perm (iota ((aS s).map (rd nm)).length)) (oo:o.Pairwise (bI ((aS s).map (rd nm)))):
  (o.map (rd (aS s))).Perm (aS s)∧(o.map (rd (aS s))).Pairwise (bI s):=by
 rw[List.length_map] at op
 refine⟨?_,?_⟩
 ·have:=op.map (rd (aS s))
  rwa[gP] at this
 ·refine List.pairwise_map.2 (List.Pairwise.imp_of_mem (fun {a b} ha hb hab=> ?_) oo)
  have h1:=aO.1 (op.subset ha)
  have h2:=aO.1 (op.subset hb)
  exact xV hs h hp ho hx (aS s).length a b (by omega) h1.1 h1.2 h2.1 h2.2 hab
theorem KR {l:List Int} {x i:Int} {m:Nat} (x0:0≤x) (h0:0≤i) (h:i<m):rd ((l.drop x.toNat).take m) i=rd l (x+i):=by
 unfold rd
 rw[List.getD_eq_getElem?_getD,List.getD_eq_getElem?_getD,List.getElem?_take_of_lt (by omega),List.getElem?_drop,show x.toNat+i.toNat=(x+i).toNat by omega]
theorem CB {x y:Int} (x0:0≤x) (y0:0≤y) (hx:x<rd nx x) (hxl:rd nx x<s.length) (hy:y<rd nx y) (hyl:rd nx y<s.length):
  (s.drop x.toNat).take ((min (rd nx x+1) ((s.length:Nat):Int)).toNat-x.toNat)=(s.drop y.toNat).take ((min (rd nx y+1) ((s.length:Nat):Int)).toNat-y.toNat)↔Peq s nx x y:=by
 have lx:((s.drop x.toNat).take ((min (rd nx x+1) ((s.length:Nat):Int)).toNat-x.toNat)).length=(rd nx x-x+1).toNat:=by rw[List.length_take,List.length_drop];omega
 have ly:((s.drop y.toNat).take ((min (rd nx y+1) ((s.length:Nat):Int)).toNat-y.toNat)).length=(rd nx y-y+1).toNat:=by rw[List.length_take,List.length_drop];omega
 constructor
 ·intro h
  have hl:=congrArg List.length h
  rw[lx,ly] at hl
  refine⟨hxl,hyl,by omega,fun i i0 i1=> ?_⟩
  have:rd ((s.drop x.toNat).take ((min (rd nx x+1) ((s.length:Nat):Int)).toNat-x.toNat)) i=rd ((s.drop y.toNat).take ((min (rd nx y+1) ((s.length:Nat):Int)).toNat-y.toNat)) i:=by rw[h]
  rwa[KR x0 i0 (by omega),KR y0 i0 (by omega)] at this
 ·rintro ⟨_,_,h3,h4⟩
  refine bB (by rw[lx,ly];omega) fun i i0 i1=> ?_
  rw[lx] at i1
  rw[KR x0 i0 (by omega),KR y0 i0 (by omega)]
  exact h4 i i0 (by omega)
theorem SQ {r:Int→Int→Prop}: ∀ {l:List Int},l.length<2→l.Pairwise r
 |[],_=> .nil
 |[_],_=>List.pairwise_singleton _ _
 |_::_::_,h=>by simp at h;omega
theorem TT {x y:Int} (hl:0≤x→x<s.length∧x<rd nx x∧rd nx x≤s.length) (y0:0≤y) (hy:y<rd nx y) (hyl:rd nx y≤s.length)
  (h:0≤x∧((rd nx y=((s.length:Nat):Int)∨rd nx x=((s.length:Nat):Int))∨ ¬(s.drop x.toNat).take ((min (rd nx x+1) ((s.length:Nat):Int)).toNat-x.toNat)=(s.drop y.toNat).take ((min (rd nx y+1) ((s.length:Nat):Int)).toNat-y.toNat))):
  (x= -1∧n+1=n)∨(0≤x∧Peq s nx x y∧n+1=n)∨(0≤x∧ ¬Peq s nx x y∧n+1=n+1):=by
 refine .inr (.inr ⟨h.1,fun hp=> ?_,rfl⟩)
 have a:=hl h.1
 rcases h.2 with g|g
 ·have h1:=hp.1
  have h2:=hp.2.1
  omega
 ·exact g ((CB h.1 y0 a.2.1 hp.1 hy hp.2.1).2 hp)
theorem TS {x y:Int} (hx: -1≤x) (hl:0≤x→x<s.length∧x<rd nx x∧rd nx x≤s.length) (y0:0≤y) (hy:y<rd nx y) (hyl:rd nx y≤s.length)
  (h: ¬(0≤x∧((rd nx y=((s.length:Nat):Int)∨rd nx x=((s.length:Nat):Int))∨ ¬(s.drop x.toNat).take ((min (rd nx x+1) ((s.length:Nat):Int)).toNat-x.toNat)=(s.drop y.toNat).take ((min (rd nx y+1) ((s.length:Nat):Int)).toNat-y.toNat)))):
  (x= -1∧n=n)∨(0≤x∧Peq s nx x y∧n=n)∨(0≤x∧ ¬Peq s nx x y∧n=n+1):=by
 rcases Int.lt_or_le x 0 with g|g
 ·exact .inl ⟨by omega,rfl⟩
 ·have a:=hl g
  have h1: ¬rd nx y=((s.length:Nat):Int):=fun e=>h ⟨g, .inl (.inl e)⟩
  have h2: ¬rd nx x=((s.length:Nat):Int):=fun e=>h ⟨g, .inl (.inr e)⟩
  have h3:=Decidable.not_not.1 fun e=>h ⟨g, .inr e⟩
  exact .inr (.inl ⟨g,(CB g y0 a.2.1 (by omega) hy (by omega)).1 h3,rfl⟩)
end
end Go.Pure

namespace Go.Pure
open Go Go.Eng
theorem sM {T:Int→Int→Prop} [DecidableRel T] (asy: ∀x y,T x y→ ¬T y x): ∀ {o:List Int} {q:Nat},o.Pairwise T→(h:q<o.length)→o.countP (fun x=>decide (T x o[q]))=q
 |[],q,_,h=>by simp at h
 |a::o,0,hs,h=>by
  rw[List.countP_eq_zero]
  intro x hx
  simp only[List.getElem_cons_zero,decide_eq_true_iff]
  rcases List.mem_cons.1 hx with rfl|hx
  ·exact fun h=>asy _ _ h h
  ·exact asy _ _ ((List.pairwise_cons.1 hs).1 x hx)
 |a::o,q+1,hs,h=>by
  obtain⟨h1,h2⟩:=List.pairwise_cons.1 hs
  have hq:q<o.length:=by simp only[List.length_cons] at h;omega
  simp only[List.getElem_cons_succ]
  rw[List.countP_cons_of_pos (by simpa using h1 _ (List.getElem_mem hq)),sM asy h2 hq]
theorem KS {T:Int→Int→Prop} [DecidableRel T] (asy: ∀x y,T x y→ ¬T y x) {o:List Int} {n:Nat} (hp:o.Perm (iota n)) (hs:o.Pairwise T) {q:Int} (q0:0≤q) (hq:q<n):(((iota n).countP fun x=>decide (T x (rd o q)):Nat):Int)=q:=by
 have hl:o.length=n:=by rw[hp.length_eq,aW]
 rw[←hp.countP_eq,dW q0 (by omega),sM asy hs (by omega)]
 omega
theorem nU {n:Nat} {q:Int} (q0:0≤q) (hq:q<n):rd (iota n) q=q:=by
 unfold iota
 rw[fG q0 hq]
 omega
theorem qO {n:Nat} {f:Int→Int} (hf: ∀x:Int,0≤x→x<n→0≤f x∧f x<n) (hi: ∀x y:Int,0≤x→x<n→0≤y→y<n→f x=f y→x=y):((iota n).map f).Perm (iota n):=by
 refine jX ?_ (fun x hx=> ?_) (by simp)
 ·refine List.pairwise_map.2 (List.Pairwise.imp_of_mem (fun {a b} ha hb hab e=> ?_) (cO n))
  have h1:=aO.1 ha
  have h2:=aO.1 hb
  exact hab (hi a b h1.1 h1.2 h2.1 h2.2 e)
 ·obtain ⟨y,hy,rfl⟩:=List.mem_map.1 hx
  have h:=aO.1 hy
  exact aO.2 (hf y h.1 h.2)
def tl (l:List Int) (i k:Int):Prop:=rd l i<rd l k∨rd l i=rd l k∧i<k
instance (l:List Int):DecidableRel (tl l):=fun i k=>by unfold tl;infer_instance
theorem QW {l:List Int} (x y:Int) (h:tl l x y): ¬tl l y x:=by unfold tl at*;omega
def lfC (l:List Int) (k:Int):Int:=((iota l.length).countP fun j=>decide (tl l j k):Nat)
def Byt (l:List Int):Prop:= ∀x∈l,0≤x∧x<256
section
variable {l:List Int}
theorem fI (hl:Byt l):(bN (iota l.length) l 256).Perm (iota l.length)∧(bN (iota l.length) l 256).Pairwise (tl l):=
 ⟨lM fun i hi=>by have h:=aO.1 hi;exact hl _ (bA h.1 h.2),jE (qE _) 256⟩
theorem aCx (hl:Byt l) {q:Int} (q0:0≤q) (hq:q<l.length):lfC l (rd (bN (iota l.length) l 256) q)=q:=KS QW (fI hl).1 (fI hl).2 q0 hq
theorem CZ (hl:Byt l) {i:Int} (i0:0≤i) (hi:i<l.length): ∃q:Int,0≤q∧q<l.length∧rd (bN (iota l.length) l 256) q=i∧lfC l i=q:=by
 obtain⟨u,hu,e⟩:=List.mem_iff_getElem.1 ((fI hl).1.symm.subset (aO.2 ⟨i0,hi⟩))
 have hlen:=(fI hl).1.length_eq
 rw[aW] at hlen
 have e2:rd (bN (iota l.length) l 256) (u:Int)=i:=by rw[dS hu];exact e
 refine⟨u,by omega,by omega,e2,?_⟩
 rw[←e2]
 exact aCx hl (by omega) (by omega)
theorem DC (hl:Byt l) {i:Int} (i0:0≤i) (hi:i<l.length):0≤lfC l i∧lfC l i<l.length:=by
 obtain⟨q,q0,q1,_,e⟩:=CZ hl i0 hi
 omega
theorem ZW (hl:Byt l) {i k:Int} (i0:0≤i) (hi:i<l.length) (k0:0≤k) (hk:k<l.length):lfC l i<lfC l k↔tl l i k:=by
 obtain⟨p,p0,p1,ep,fp⟩:=CZ hl i0 hi
 obtain⟨q,q0,q1,eq,fq⟩:=CZ hl k0 hk
 have hlen:=(fI hl).1.length_eq
 rw[aW] at hlen
 have hs:=(fI hl).2
 rw[fp,fq]
 constructor
 ·intro h
  have:=bU hs p0 h (by omega)
  rwa[ep,eq] at this
 ·intro h
  rcases Int.lt_trichotomy p q with a|a|a
  ·exact a
  ·subst a
   rw[←ep,←eq] at h
   exact absurd h (QW _ _ h)
  ·have:=bU hs q0 a (by omega)
   rw[ep,eq] at this
   exact absurd h (QW _ _ this)
theorem UD (hl:Byt l) {i k:Int} (i0:0≤i) (hi:i<l.length) (k0:0≤k) (hk:k<l.length) (e:lfC l i=lfC l k):i=k:=by
 have h1:=ZW hl i0 hi k0 hk
 have h2:=ZW hl k0 hk i0 hi
 unfold tl at h1 h2
 rcases Int.lt_trichotomy (rd l i) (rd l k) with a|a|a
 ·have:=h1.2 (.inl a);omega
 ·rcases Int.lt_trichotomy i k with b|b|b
  ·have:=h1.2 (.inr ⟨a,b⟩);omega
  ·exact b
  ·have:=h2.2 (.inr ⟨a.symm,b⟩);omega
 ·have:=h2.2 (.inl a);omega
def zat (a:List Int):Int:=if (0:Int)∈a then(a.idxOf 0:Int)+1 else 0
def ofT (s a:List Int):List Int:=(a.filter fun x=>decide (x≠0)).map fun x=>rd s (x-1)
def ofL (s a:List Int):List Int:=(if 0<s.length then [rd s (s.length-1)] else [])++ofT s a
theorem AU {a:List Int} (hd:a.Nodup) {i:Int} (i0:0≤i) (hi:i<a.length):zat (a.take (i+1).toNat)=if rd a i=0 then i+1 else zat (a.take i.toNat):=by
 rw[dG i0 hi]
 split
 ·rename_i e
  have hno:(0:Int)∉a.take i.toNat:=by
   intro h
   obtain⟨q,hq,e2⟩:=List.mem_iff_getElem.1 h
   rw[List.length_take] at hq
   have:=fH hd (i:=(q:Int)) (j:=i) (by omega) (by omega) i0 hi (by rw[List.getElem_take] at e2;rw[e,dW (by omega) (by omega)];simp only[Int.toNat_natCast];exact e2)
   omega
  unfold zat
  rw[if_pos (by simp[e]),List.idxOf_append,if_neg hno,e]
  simp only[List.length_take,List.idxOf_cons_self]
  omega
 ·rename_i e
  have hno:(0:Int)∉[rd a i]:=by simp;exact fun h=>e h.symm
  unfold zat
  by_cases h:(0:Int)∈a.take i.toNat
  ·rw[if_pos h,if_pos (List.mem_append_left _ h),List.idxOf_append,if_pos h]
  ·rw[if_neg h,if_neg (by rw[List.mem_append];exact fun g=>g.elim h hno)]
theorem CR {s a:List Int} {i:Int} (i0:0≤i) (hi:i<a.length):ofT s (a.take (i+1).toNat)=ofT s (a.take i.toNat)++if rd a i=0 then [] else [rd s (rd a i-1)]:=by
 unfold ofT
 rw[dG i0 hi,List.filter_append,List.map_append]
 congr 1
 by_cases h:rd a i=0
 ·rw[if_pos h,List.filter_cons_of_neg (by simpa using h)];rfl
 ·rw[if_neg h,List.filter_cons_of_pos (by simpa using h)];rfl
variable {s a:List Int}
theorem mO {u v:List Int} {j:Int} (h0:0≤j) (h:j<u.length):rd (u++v) j=rd u j:=by
 unfold rd
 rw[List.getD_eq_getElem?_getD,List.getD_eq_getElem?_getD,List.getElem?_append_left (by omega)]
theorem gM {u v:List Int} {j:Int} (h:(u.length:Int)≤j):rd (u++v) j=rd v (j-u.length):=by
 unfold rd
 rw[List.getD_eq_getElem?_getD,List.getD_eq_getElem?_getD,List.getElem?_append_right (by omega),show j.toNat-u.length=(j-u.length).toNat by omega]
theorem uQ {u:List Int} {f:Int→Int} {j:Int} (h0:0≤j) (h:j<u.length):rd (u.map f) j=f (rd u j):=by
 rw[dW h0 (by rw[List.length_map];exact h),List.getElem_map,←dW h0 h]
theorem kW (hp:a.Perm (iota s.length)):(ofL s a).length=s.length∧(0<s.length→1≤zat a∧zat a≤s.length∧rd a (zat a-1)=0)∧(s.length=0→zat a=0)∧
  ∀j:Int,0≤j→j<s.length→rd (ofL s a) j=if j=0 then rd s (s.length-1) else if j<zat a then rd s (rd a (j-1)-1) else rd s (rd a j-1):=by
 have hl:a.length=s.length:=by rw[hp.length_eq,aW]
 rcases Nat.eq_zero_or_pos s.length with hz|hn
 ·have e:a=[]:=List.eq_nil_of_length_eq_zero (by omega)
  subst e
  refine⟨by unfold ofL ofT;rw[if_neg (by omega)];simp;omega,fun h=>by omega,fun _=>rfl,fun j h0 h=>by omega⟩
 have hnd:a.Nodup:=hp.symm.nodup (cO _)
 have hmem:(0:Int)∈a:=hp.symm.subset (aO.2 ⟨Int.le_refl 0,by omega⟩)
 obtain⟨a1,a2,e⟩:=List.append_of_mem hmem
 have hd1:(0:Int)∉a1:=fun h=>by
  rw[e] at hnd
  exact(List.nodup_append.1 hnd).2.2 0 h 0 (by simp) rfl
 have hd2:(0:Int)∉a2:=fun h=>by
  rw[e] at hnd
  exact(List.nodup_cons.1 (List.nodup_append.1 hnd).2.1).1 h
 have hzat:zat a=(a1.length:Int)+1:=by
  unfold zat
  rw[if_pos hmem,e,List.idxOf_append,if_neg hd1]
  simp
 have hT:ofT s a=(a1.map fun x=>rd s (x-1))++a2.map fun x=>rd s (x-1):=by
  unfold ofT
  have f1:a1.filter (fun x=>decide (x≠0))=a1:=List.filter_eq_self.2 fun x hx=>decide_eq_true fun h=>hd1 (by rw[←h];exact hx)
  have f2:a2.filter (fun x=>decide (x≠0))=a2:=List.filter_eq_self.2 fun x hx=>decide_eq_true fun h=>hd2 (by rw[←h];exact hx)
  rw[e,List.filter_append,List.filter_cons_of_neg (by simp),f1,f2,List.map_append]
 have hlen:a1.length+a2.length+1=s.length:=by rw[←hl,e];simp;omega
 have hL:ofL s a=rd s (s.length-1)::((a1.map fun x=>rd s (x-1))++a2.map fun x=>rd s (x-1)):=by
  unfold ofL
  rw[if_pos hn,hT]
  rfl
 refine⟨by rw[hL];simp;omega,fun _=>⟨by omega,by omega,?_⟩,fun h=>by omega,fun j j0 j1=> ?_⟩
 ·rw [hzat,e,gM (by omega),show(a1.length:Int)+1-1-a1.length=0 by omega]
  rfl
 ·rw [hL]
  by_cases hj:j=0
  ·subst hj;rw[if_pos rfl];rfl
  ·rw [if_neg hj]
   have ec:rd (rd s (s.length-1)::((a1.map fun x=>rd s (x-1))++a2.map fun x=>rd s (x-1))) j=rd ((a1.map fun x=>rd s (x-1))++a2.map fun x=>rd s (x-1)) (j-1):=by
    unfold rd
    rw[show j.toNat=(j-1).toNat+1 by omega]
    rfl
   rw[ec]
   split
   ·rename_i h
    rw[mO (by omega) (by rw[List.length_map];omega),uQ (by omega) (by omega),e,mO (by omega) (by omega)]
   ·rename_i h
    rw[gM (by rw[List.length_map];omega),uQ (by rw[List.length_map];omega) (by rw[List.length_map];omega),e,gM (by omega)]
    rw[List.length_map]
    have:rd ((0:Int)::a2) (j-a1.length)=rd a2 (j-1-a1.length):=by
     unfold rd
     rw[show(j-a1.length).toNat=(j-1-a1.length).toNat+1 by omega]
     rfl
    rw[this]
def ixr (m r:Int):Int:=if m<r then r-1 else r
def eX (l:List Int) (m:Int):Nat→Int
 |0=>0
 |t+1=>lfC l (ixr m (eX l m t))+1
def jA (l:List Int) (m:Int):List Int:=(List.range l.length).map fun i:Nat=>rd l (ixr m (eX l m (l.length-1-i)))
def WN (l:List Int) (m:Int):Prop:=min (l.length:Int) 1≤m∧m≤l.length
def aGb (l:List Int) (m:Int):Prop:= ∀t:Nat,t<l.length→eX l m t≠m
def ZJ (l:List Int) (m:Int):Prop:=WN l m∧aGb l m∧eX l m l.length=m
theorem nZ (l:List Int) (m:Int):(jA l m).length=l.length:=by simp[jA]
theorem BX {m i:Int} (i0:0≤i) (hi:i<l.length):rd (jA l m) i=rd l (ixr m (eX l m (l.length-1-i).toNat)):=by
 unfold jA
 rw[fG i0 hi,show l.length-1-i.toNat=((l.length:Int)-1-i).toNat by omega]
theorem zP {m r:Int} {n:Nat} (h0:0≤r) (h1:r≤n) (hne:r≠m) (hm0:0≤m) (hm:m≤n) (hn:0<n):0≤ixr m r∧ixr m r<n:=by
 unfold ixr
 split<;>omega
theorem aBm {m r q:Int} (hr:r≠m) (hq:q≠m):ixr m r<ixr m q↔r<q:=by
 unfold ixr
 split<;>split<;>omega
theorem LQ {m r q:Int} (hr:r≠m) (hq:q≠m) (h:ixr m r=ixr m q):r=q:=by
 unfold ixr at h
 split at h<;>split at h<;>omega
theorem FE (hl:Byt l) {m:Int} (hm:WN l m): ∀t:Nat,(∀u:Nat,u<t→eX l m u≠m)→t≤l.length→0≤eX l m t∧eX l m t≤l.length
 |0,_,_=>by unfold eX;omega
 |t+1,h,ht=>by
  have ih:=FE hl hm t (fun u hu=>h u (by omega)) (by omega)
  have hb:=zP (n:=l.length) ih.1 ih.2 (h t (by omega)) (by have:=hm.1;omega) hm.2 (by omega)
  have:=DC hl hb.1 hb.2
  rw[eX]
  omega
theorem CP {x:Int} (x0:0≤x) (hx:x<s.length) {y:Int} (hy:(s.length:Int)≤y): ¬bI s x y:=dI _ _ (pV x0 hx hy)
theorem TH {j k:Int} (j0:0≤j) (hj:j<s.length) (k0:0≤k) (hk:k<s.length):bI s j k↔rd s j<rd s k∨rd s j=rd s k∧bI s (j+1) (k+1):=by
 rw[gY j0 hj k0 hk,iX]
end
end Go.Pure
namespace Go.Pure
open Go Go.Eng
section
variable {l s a:List Int}
def cT (s:List Int) (x y:Int):Prop:=cmpL (s.drop x.toNat) (s.drop y.toNat)<0
instance (s:List Int):DecidableRel (cT s):=fun x y=>by unfold cT;infer_instance
theorem zZ {x y:Int}:cT s x y↔bI s x y:=iX
theorem aEt (x y:Int) (h:cT s x y): ¬cT s y x:=fun h'=>dI _ _ (zZ.1 h) (zZ.1 h')
def pR (s:List Int) (k:Int):Int:=((iota s.length).countP fun j=>decide (cT s j k):Nat)
def gD (s:List Int) (k:Int):Int:=if k<s.length then pR s k+1 else 0
theorem SX (hp:a.Perm (iota s.length)) (ho:a.Pairwise (bI s)) {q:Int} (q0:0≤q) (hq:q<s.length):pR s (rd a q)=q:=KS aEt hp (ho.imp fun h=>zZ.2 h) q0 hq
theorem uW (hp:a.Perm (iota s.length)) (ho:a.Pairwise (bI s)) {k:Int} (k0:0≤k) (hk:k<s.length):(0≤pR s k∧pR s k<s.length)∧rd a (pR s k)=k:=by
 obtain⟨u,hu,e⟩:=List.mem_iff_getElem.1 (hp.symm.subset (aO.2 ⟨k0,hk⟩))
 have hlen:=hp.length_eq
 rw[aW] at hlen
 have e2:rd a (u:Int)=k:=by rw[dS hu];exact e
 have e3:=SX hp ho (q:=(u:Int)) (by omega) (by omega)
 rw[e2] at e3
 rw[e3]
 exact⟨by omega,e2⟩
theorem GX {j k:Int} (j0:0≤j) (hj:j≤s.length) (k0:0≤k) (hk:k≤s.length):gD s j<gD s k↔bI s j k:=by
 obtain⟨a,hp,ho⟩:=pU s
 have hlen:=hp.length_eq
 rw[aW] at hlen
 unfold gD
 rcases Int.lt_or_le j s.length with a1|a1
 ·rw [if_pos a1]
  have hj':=uW hp ho j0 a1
  rcases Int.lt_or_le k s.length with b1|b1
  ·rw [if_pos b1]
   have hk':=uW hp ho k0 b1
   constructor
   ·intro h
    have:=bU ho hj'.1.1 (by omega:pR s j<pR s k) (by omega)
    rwa[hj'.2,hk'.2] at this
   ·intro h
    rcases Int.lt_trichotomy (pR s j) (pR s k) with c|c|c
    ·omega
    ·rw [c,hk'.2] at hj'
     rw[←hj'.2] at h
     exact absurd h (dI _ _ h)
    ·have:=bU ho hk'.1.1 c (by omega)
     rw[hj'.2,hk'.2] at this
     exact absurd h (dI _ _ this)
  ·rw [if_neg (by omega)]
   exact⟨fun h=>by omega,fun h=>absurd h (CP j0 a1 b1)⟩
 ·rw [if_neg (by omega)]
  rcases Int.lt_or_le k s.length with b1|b1
  ·rw [if_pos b1]
   have hk':=uW hp ho k0 b1
   exact⟨fun _=>pV k0 b1 a1,fun _=>by omega⟩
  ·rw [if_neg (by omega)]
   obtain rfl:j=k:=by omega
   exact⟨fun h=>by omega,fun h=>absurd h (dI _ _ h)⟩
theorem aAu {k:Int} (k0:0≤k):0≤gD s k∧gD s k≤s.length∧(k<s.length→1≤gD s k):=by
 obtain⟨a,hp,ho⟩:=pU s
 unfold gD
 split
 ·rename_i h
  have:=uW hp ho k0 h
  omega
 ·omega
theorem nR {j k:Int} (j0:0≤j) (hj:j≤s.length) (k0:0≤k) (hk:k≤s.length) (e:gD s j=gD s k):j=k:=by
 have h1:=GX j0 hj k0 hk
 have h2:=GX k0 hk j0 hj
 rcases Int.lt_or_le j s.length with a1|a1
 ·rcases Int.lt_or_le k s.length with b1|b1
  ·by_cases h:j=k
   ·exact h
   ·rcases CQ ⟨j0,a1⟩ ⟨k0,b1⟩ h with c|c
    ·have:=h1.2 c;omega
    ·have:=h2.2 c;omega
  ·have:=h2.2 (pV j0 a1 b1);omega
 ·rcases Int.lt_or_le k s.length with b1|b1
  ·have:=h1.2 (pV k0 b1 a1);omega
  ·omega
theorem oZ (hp:a.Perm (iota s.length)) (ho:a.Pairwise (bI s)):zat a=gD s 0:=by
 obtain⟨_,h1,h2,_⟩:=kW hp
 unfold gD
 rcases Nat.eq_zero_or_pos s.length with hz|hn
 ·rw[if_neg (by omega),h2 hz]
 ·have h:=h1 hn
  rw[if_pos (by omega)]
  have:=SX hp ho (q:=zat a-1) (by omega) (by omega)
  rw[h.2.2] at this
  omega
theorem letter (hp:a.Perm (iota s.length)) (ho:a.Pairwise (bI s)) {k:Int} (k0:0≤k) (hk:k<s.length):(0≤ixr (zat a) (gD s (k+1))∧ixr (zat a) (gD s (k+1))<s.length)∧rd (ofL s a) (ixr (zat a) (gD s (k+1)))=rd s k:=by
 obtain⟨_,h1,_,h3⟩:=kW hp
 have hz:=h1 (by omega)
 have hb:=aAu (s:=s) (k:=k+1) (by omega)
 have hne:gD s (k+1)≠zat a:=by
  rw[oZ hp ho]
  intro e
  have:=nR (s:=s) (by omega) (by omega) (Int.le_refl 0) (by omega) e
  omega
 have hix:=zP hb.1 hb.2.1 hne (by omega) hz.2.1 (by omega)
 refine⟨hix,?_⟩
 rw[h3 _ hix.1 hix.2]
 rcases Int.lt_or_le (k+1) s.length with c|c
 ·have hpk:=uW hp ho (k:=k+1) (by omega) c
  have er:gD s (k+1)=pR s (k+1)+1:=by unfold gD;rw[if_pos c]
  unfold ixr at hix ⊢
  by_cases d:zat a<gD s (k+1)
  ·rw [if_pos d]
   rw[if_neg (by omega),if_neg (by omega),show gD s (k+1)-1=pR s (k+1) by omega,hpk.2]
   congr 1;omega
  ·rw [if_neg d]
   rw[if_neg (by omega),if_pos (by omega),show gD s (k+1)-1=pR s (k+1) by omega,hpk.2]
   congr 1;omega
 ·have er:gD s (k+1)=0:=by unfold gD;rw[if_neg (by omega)]
  have e0:ixr (zat a) 0=0:=by unfold ixr;rw[if_neg (by omega)]
  rw[er,e0,if_pos rfl]
  congr 1;omega
theorem XY (hs:Byt s) (hp:a.Perm (iota s.length)):Byt (ofL s a):=by
 intro x hx
 obtain⟨h0,_,_,h3⟩:=kW hp
 obtain⟨u,hu,rfl⟩:=List.mem_iff_getElem.1 hx
 have hla:=hp.length_eq
 rw[aW] at hla
 have e:=h3 u (by omega) (by omega)
 rw[dS hu] at e
 have hm: ∀j:Int,0≤j→j<s.length→0≤rd s j∧rd s j<256:=fun j j0 j1=>hs _ (bA j0 j1)
 have ha: ∀j:Int,0≤j→j<s.length→0≤rd a j∧rd a j<s.length:=fun j j0 j1=>aO.1 (hp.subset (bA j0 (by omega)))
 have hneg: ∀j:Int,j<0→rd s j=rd s 0:=fun j h=>by unfold rd;rw[show j.toNat=(0:Int).toNat by omega]
 have hm2: ∀j:Int,j<s.length→0≤rd s j∧rd s j<256:=fun j h=>by
  rcases Int.lt_or_le j 0 with c|c
  ·rw[hneg j c];exact hm 0 (Int.le_refl 0) (by omega)
  ·exact hm j c h
 rw[e]
 split
 ·exact hm2 _ (by omega)
 ·split
  ·have:=ha ((u:Int)-1) (by omega) (by omega)
   exact hm2 _ (by omega)
  ·have:=ha u (by omega) (by omega)
   exact hm2 _ (by omega)
theorem YH (hs:Byt s) (hp:a.Perm (iota s.length)) (ho:a.Pairwise (bI s)) {k:Int} (k0:0≤k) (hk:k<s.length):lfC (ofL s a) (ixr (zat a) (gD s (k+1)))=pR s k:=by
 obtain⟨h0,h1,_,_⟩:=kW hp
 have hne: ∀j:Int,0≤j→j<s.length→gD s (j+1)≠zat a:=fun j j0 j1 e=>by
  rw[oZ hp ho] at e
  have:=nR (s:=s) (by omega) (by omega) (Int.le_refl 0) (by omega) e
  omega
 have hb:=qO (n:=s.length) (f:=fun k=>ixr (zat a) (gD s (k+1))) (fun j j0 j1=>(letter hp ho j0 j1).1) fun x y x0 x1 y0 y1 e=>by
  have e2:=LQ (hne x x0 x1) (hne y y0 y1) e
  have:=nR (s:=s) (by omega) (by omega) (by omega) (by omega) e2
  omega
 unfold lfC pR
 rw[h0,←hb.countP_eq,List.countP_map]
 congr 1
 refine List.countP_congr fun j hj=> ?_
 have hj:=aO.1 hj
 simp only[Function.comp_apply,decide_eq_true_iff]
 rw[zZ,TH hj.1 hj.2 k0 hk,←GX (by omega) (by omega) (by omega) (by omega)]
 unfold tl
 rw[(letter hp ho hj.1 hj.2).2,(letter hp ho k0 hk).2,aBm (hne j hj.1 hj.2) (hne k k0 hk)]
theorem qP (hs:Byt s) (hp:a.Perm (iota s.length)) (ho:a.Pairwise (bI s)): ∀t:Nat,t≤s.length→eX (ofL s a) (zat a) t=gD s (s.length-t)
 |0,_=>by unfold eX gD;rw[if_neg (by omega)]
 |t+1,ht=>by
  rw[eX,qP hs hp ho t (by omega)]
  have:=YH hs hp ho (k:=(s.length:Int)-((t+1:Nat):Int)) (by omega) (by omega)
  rw[show(s.length:Int)-((t+1:Nat):Int)+1=s.length-(t:Int) by omega] at this
  rw[this]
  unfold gD
  rw[if_pos (by omega)]
theorem sG (hs:Byt s) (hp:a.Perm (iota s.length)) (ho:a.Pairwise (bI s)):ZJ (ofL s a) (zat a)∧jA (ofL s a) (zat a)=s:=by
 obtain⟨h0,h1,h2,_⟩:=kW hp
 refine⟨⟨?_,fun t ht=> ?_,?_⟩,?_⟩
 ·unfold WN
  rw[h0]
  rcases Nat.eq_zero_or_pos s.length with hz|hn
  ·have:=h2 hz;omega
  ·have:=h1 hn;omega
 ·rw [h0] at ht
  rw[qP hs hp ho t (by omega),oZ hp ho]
  intro e
  have:=nR (s:=s) (by omega) (by omega) (Int.le_refl 0) (by omega) e
  omega
 ·rw [h0,qP hs hp ho _ (Nat.le_refl _),oZ hp ho]
  congr 1;omega
 ·refine bB (by rw[nZ,h0]) fun i i0 i1=> ?_
  rw[nZ,h0] at i1
  rw[BX i0 (by rw[h0];exact i1),h0,qP hs hp ho _ (by omega)]
  have:=(letter hp ho i0 i1).2
  rwa[show(s.length:Int)-(((s.length:Int)-1-i).toNat:Int)=i+1 by omega]
theorem TP (hp:a.Perm (iota s.length)) (ho:a.Pairwise (bI s)):((iota s.length).map fun k=>ixr (zat a) (gD s (k+1))).Perm (iota s.length):=by
 have hne: ∀j:Int,0≤j→j<s.length→gD s (j+1)≠zat a:=fun j j0 j1 e=>by
  rw[oZ hp ho] at e
  have:=nR (s:=s) (by omega) (by omega) (Int.le_refl 0) (by omega) e
  omega
 exact qO (n:=s.length) (f:=fun k=>ixr (zat a) (gD s (k+1))) (fun j j0 j1=>(letter hp ho j0 j1).1) fun x y x0 x1 y0 y1 e=>by
  have e2:=LQ (hne x x0 x1) (hne y y0 y1) e
  have:=nR (s:=s) (by omega) (by omega) (by omega) (by omega) e2
  omega
theorem TN (hp:a.Perm (iota s.length)) (ho:a.Pairwise (bI s)):(ofL s a).Perm s:=by
 have h0:=(kW hp).1
 have h1:=(TP hp ho).map (rd (ofL s a))
 rw[List.map_map] at h1
 have e1:(iota s.length).map (rd (ofL s a) ∘ fun k=>ixr (zat a) (gD s (k+1)))=s:=by
  conv=>rhs;rw[←gP s]
  refine List.map_congr_left fun k hk=> ?_
  have hk:=aO.1 hk
  exact(letter hp ho hk.1 hk.2).2
 have e2:(iota s.length).map (rd (ofL s a))=ofL s a:=by
  have:=gP (ofL s a)
  rwa[h0] at this
 rw[e1,e2] at h1
 exact h1.symm
end
end Go.Pure

namespace Go.Pure
open Go Go.Eng
theorem TC {l m:List Int} (hl:l.Nodup) (hm:m.Nodup) (e: ∀x,x∈l↔x∈m):l.Perm m:=
 jX hl (fun x h=>(e x).1 h) (jL hm fun x h=>(e x).2 h)
def TB (r k:Nat):List Int:=(List.range k).map fun t:Nat=>(r+3*t:Int)
theorem TA (r k:Nat):(TB r k).length=k:=by simp[TB]
def plc (n r:Nat):List Int:=TB r ((n+2-r)/3)
theorem KV (n r:Nat):(plc n r).length=(n+2-r)/3:=TA _ _
theorem qA {n r:Nat} {x:Int} (hr:r≤2):x∈plc n r↔0≤x∧x<n∧x%3=r:=by
 unfold plc TB
 rw[List.mem_map]
 constructor
 ·rintro ⟨t,ht,rfl⟩
  have:=List.mem_range.1 ht
  omega
 ·rintro ⟨h0,h1,h2⟩
  exact⟨((x-r)/3).toNat,List.mem_range.2 (by omega),by omega⟩
theorem rC (n r:Nat):(plc n r).Nodup:=by
 unfold plc TB
 exact List.pairwise_map.2 (List.nodup_range.imp fun {x y} h hh=>h (by omega))
def smp (n:Nat):List Int:=plc n 1++plc n 2
theorem jF {n:Nat} {x:Int}:x∈smp n↔0≤x∧x<n∧x%3≠0:=by
 unfold smp
 rw[List.mem_append,qA (by omega),qA (by omega)]
 omega
theorem XC (n:Nat):(smp n).length=(n+1)/3+n/3:=by
 unfold smp
 rw[List.length_append,KV,KV]
 omega
theorem nQ (n:Nat):(smp n).Nodup:=by
 unfold smp
 refine List.nodup_append.2 ⟨rC _ _,rC _ _,fun a ha b hb e=> ?_⟩
 rw[qA (by omega)] at ha hb
 omega
theorem XD (n:Nat):(smp n++plc n 0).Perm (iota n):=by
 refine TC (List.nodup_append.2 ⟨nQ _,rC _ _,fun a ha b hb e=> ?_⟩) (cO n) fun x=> ?_
 ·rw [jF] at ha
  rw[qA (by omega)] at hb
  omega
 ·rw [List.mem_append,jF,qA (by omega),aO]
  omega
def IX (s:List Int) (i:Int):Int:=if (s.length:Int)≤i then 0 else rd s i+1
def DJ (s:List Int) (b:Int):List Int:=(List.range s.length).map fun i:Nat=>IX s ((i:Int)+b)
theorem UZ (s:List Int) (i d:Nat):0≤eu s i d:=by
 rcases Nat.lt_or_ge (i+d) s.length with h|h
 ·exact Int.le_of_lt (nC h)
 ·rw[fD h];exact Int.le_refl 0
def LtO (U V:Nat→Int):Prop:= ∃k,(∀i,i<k→U i=V i)∧U k<V k
theorem zK {m:Nat} {U V:Nat→Int}:LtH m U V→LtO U V:=fun⟨k,_,h1,h2⟩=>⟨k,h1,h2⟩
theorem YD {s:List Int} {x y:Nat}:LtO (eu s x) (eu s y)↔LtH s.length (eu s x) (eu s y):=by
 refine⟨fun⟨k,h1,h2⟩=>⟨k,?_,h1,h2⟩,zK⟩
 have:=UZ s x k
 rcases Nat.lt_or_ge (y+k) s.length with h|h
 ·omega
 ·rw[fD h] at h2;omega
theorem lN {s:List Int} {x y:Int}:bI s x y↔LtO (eu s x.toNat) (eu s y.toNat):=YD.symm
theorem OO {U V:Nat→Int} (h:LtO U V): ¬LtO V U:=by
 rintro⟨k',h1',h2'⟩
 obtain⟨k,h1,h2⟩:=h
 rcases Nat.lt_trichotomy k k' with a|a|a
 ·have:=h1' k a;omega
 ·subst a;omega
 ·have:=h1 k' a;omega
theorem OM {U V:Nat→Int} {m:Nat} (e:EqH m U V):LtO (fun d=>U (m+d)) (fun d=>V (m+d))↔LtO U V:=by
 constructor
 ·rintro ⟨k,h1,h2⟩
  refine⟨m+k,fun i hi=> ?_,h2⟩
  rcases Nat.lt_or_ge i m with a|a
  ·exact e i a
  ·have:=h1 (i-m) (by omega)
   simp only[show m+(i-m)=i by omega] at this
   exact this
 ·rintro ⟨k,h1,h2⟩
  have hk:m≤k:=by
   rcases Nat.lt_or_ge k m with a|a
   ·have:=e k a;omega
   ·exact a
  refine⟨k-m,fun i hi=>h1 (m+i) (by omega),?_⟩
  simp only[show m+(k-m)=k by omega]
  exact h2
theorem ED (s:List Int) (i m:Nat):(fun d=>eu s i (m+d))=eu s (i+m):=funext fun d=>(zX s i m d).symm
theorem TY {s:List Int} {i j m:Nat} (e:EqH m (eu s i) (eu s j)):LtO (eu s (i+m)) (eu s (j+m))↔LtO (eu s i) (eu s j):=by
 rw[←ED,←ED]
 exact OM e
theorem zY {s:List Int} {m i j:Nat} (hi:i<s.length) (hj:j<s.length) (hij:i≠j) (e:EqH m (eu s i) (eu s j)):j+m≤s.length:=by
 refine Nat.not_lt.1 fun h=> ?_
 have e1:=e (s.length-j) (by omega)
 rw[fD (s:=s) (i:=j) (by omega)] at e1
 have h1:s.length≤i+(s.length-j):=Nat.not_lt.1 fun hh=>by have:=nC hh;omega
 have e2:=e (s.length-i) (by omega)
 rw[fD (s:=s) (i:=i) (by omega)] at e2
 have:=nC (s:=s) (i:=j) (d:=s.length-i) (by omega)
 omega
def tri3 (s:List Int) (k:Int):List Int:=bN (bN (bN (smp s.length) (DJ s 2) (k+1).toNat) (DJ s 1) (k+1).toNat) (DJ s 0) (k+1).toNat
section
variable {s:List Int} {k:Int}
theorem aAs {x:Int} (h:x∈smp s.length):0≤x∧x<s.length:=by rw[jF] at h;omega
end
structure RkI (s o V:List Int) (q n:Int):Prop where
 len:V.length=s.length+3
 n0:0≤n
 nq:n≤q
 bd: ∀p,0≤p→p<q→1≤rd V (rd o p)∧rd V (rd o p)≤n
 last:0<q→rd V (rd o (q-1))=n
 lt: ∀p p',0≤p→p<p'→p'<q→(EqH 3 (eu s (rd o p).toNat) (eu s (rd o p').toNat)∧rd V (rd o p)=rd V (rd o p'))∨(LtH 3 (eu s (rd o p).toNat) (eu s (rd o p').toNat)∧rd V (rd o p)<rd V (rd o p'))
 full:n=q→ ∀p,0≤p→p<q→rd V (rd o p)=p+1
 out: ∀j:Int,0≤j→j<s.length+3→(∀p:Int,0≤p→p<q→rd o p≠j)→rd V j=0
theorem EqH.trans' {m:Nat} {U V W:Nat→Int} (h:EqH m U V) (g:EqH m V W):EqH m U W:=fun i hi=>(h i hi).trans (g i hi)
theorem EqH.ltH {m:Nat} {U V W:Nat→Int} (h:EqH m U V) (g:LtH m V W):LtH m U W:=by
 obtain⟨k,hk,a,b⟩:=g
 exact⟨k,hk,fun i hi=>(h i (by omega)).trans (a i hi),by rw[h k hk];exact b⟩
theorem LtH.eqH {m:Nat} {U V W:Nat→Int} (h:LtH m U V) (g:EqH m V W):LtH m U W:=by
 obtain⟨k,hk,a,b⟩:=h
 exact⟨k,hk,fun i hi=>(a i hi).trans (g i (by omega)),by rw[←g k hk];exact b⟩
section
variable {s o V:List Int} {q n:Int}
theorem RkI.step (h:RkI s o V q n) (hp:o.Perm (smp s.length)) (q0:0≤q) (hq:q<o.length) {m:Int}
  (hm:(m=n+1∧(q=0∨LtH 3 (eu s (rd o (q-1)).toNat) (eu s (rd o q).toNat)))∨(m=n∧0<q∧EqH 3 (eu s (rd o (q-1)).toNat) (eu s (rd o q).toNat))):
  RkI s o (upd V (rd o q) m) (q+1) m:=by
 have hin: ∀p:Int,0≤p→p<o.length→0≤rd o p∧rd o p<s.length:=fun p p0 p1=>aAs (hp.subset (bA p0 p1))
 have hnd:o.Nodup:=hp.symm.nodup (nQ _)
 have hV:=h.len
 have iq:=hin q q0 hq
 have same:rd (upd V (rd o q) m) (rd o q)=m:=dL iq.1 (by omega)
 have other: ∀p,0≤p→p<q→rd (upd V (rd o q) m) (rd o p)=rd V (rd o p):=fun p p0 p1=>by
  have ip:=hin p p0 (by omega)
  exact dB iq.1 ip.1 fun e=>by have:=fH hnd q0 hq p0 (by omega) e;omega
 have hn0:=h.n0
 have hnq:=h.nq
 refine⟨by rw[aQ];exact hV,by omega,by omega,fun p p0 p1=> ?_,fun _=>by rw[show q+1-1=q by omega];exact same,fun p p' p0 pp p1=> ?_,fun e p p0 p1=> ?_,fun j j0 j1 hj=> ?_⟩
 ·rcases Int.lt_or_le p q with a|a
  ·rw [other p p0 a]
   have:=h.bd p p0 a
   omega
  ·rw [show p=q by omega,same]
   rcases hm with⟨a,_⟩|⟨a,b,_⟩
   ·omega
   ·have:=h.bd (q-1) (by omega) (by omega)
    have:=h.last b
    omega
 ·rcases Int.lt_or_le p' q with a|a
  ·rw [other p p0 (by omega),other p' (by omega) a]
   exact h.lt p p' p0 pp a
  ·obtain rfl:p'=q:=by omega
   rw[other p p0 pp,same]
   have hl:=h.last (by omega)
   have hb:=h.bd p p0 pp
   rcases Int.lt_or_le p (p'-1) with c|c
   ·have h1:=h.lt p (p'-1) p0 c (by omega)
    rcases hm with⟨rfl,z|g⟩|⟨rfl,_,g⟩
    ·omega
    ·refine .inr ⟨?_,by omega⟩
     rcases h1 with⟨e,_⟩|⟨e,_⟩
     ·exact e.ltH g
     ·exact e.trans g
    ·rcases h1 with⟨e,v⟩|⟨e,v⟩
     ·exact .inl ⟨e.trans' g,by omega⟩
     ·exact .inr ⟨e.eqH g,by omega⟩
   ·obtain rfl:p=p'-1:=by omega
    rcases hm with⟨rfl,z|g⟩|⟨rfl,_,g⟩
    ·omega
    ·exact .inr ⟨g,by omega⟩
    ·exact .inl ⟨g,hl⟩
 ·rcases hm with⟨a,_⟩|⟨a,_,_⟩
  ·rcases Int.lt_or_le p q with c|c
   ·rw [other p p0 c]
    exact h.full (by omega) p p0 c
   ·rw [show p=q by omega,same]
    omega
  ·omega
 ·rw [dB iq.1 j0 (hj q q0 (by omega))]
  exact h.out j j0 j1 fun p p0 p1=>hj p p0 (by omega)
theorem JA {l:List Int} {x:Int} (h:x∈l): ∃p:Int,0≤p∧p<l.length∧rd l p=x:=by
 obtain⟨i,hi,rfl⟩:=List.mem_iff_getElem.1 h
 exact⟨i,by omega,by omega,dS hi⟩
structure RkF (s V:List Int) (n:Int):Prop where
 len:V.length=s.length+3
 bd: ∀i:Nat,i<s.length→i%3≠0→1≤rd V i∧rd V i≤n
 lt: ∀i j:Nat,i<s.length→i%3≠0→j<s.length→j%3≠0→(rd V i<rd V j↔LtH 3 (eu s i) (eu s j))
 eq: ∀i j:Nat,i<s.length→i%3≠0→j<s.length→j%3≠0→(rd V i=rd V j↔EqH 3 (eu s i) (eu s j))
 out: ∀j:Int,0≤j→j<s.length+3→(j%3=0∨s.length≤j)→rd V j=0
theorem RkI.done (h:RkI s o V o.length n) (hp:o.Perm (smp s.length)):RkF s V n:=by
 have at_: ∀i:Nat,i<s.length→i%3≠0→ ∃p:Int,0≤p∧p<o.length∧rd o p=i:=fun i h1 h2=>JA (hp.symm.subset (jF.2 ⟨by omega,by omega,by omega⟩))
 have key: ∀i j:Nat,i<s.length→i%3≠0→j<s.length→j%3≠0→(EqH 3 (eu s i) (eu s j)∧rd V i=rd V j)∨(LtH 3 (eu s i) (eu s j)∧rd V i<rd V j)∨(LtH 3 (eu s j) (eu s i)∧rd V j<rd V i):=by
  intro i j i1 i2 j1 j2
  obtain⟨p,p0,p1,ep⟩:=at_ i i1 i2
  obtain⟨r,r0,r1,er⟩:=at_ j j1 j2
  rcases Int.lt_trichotomy p r with a|a|a
  ·have:=h.lt p r p0 a r1
   rw[ep,er,Int.toNat_natCast,Int.toNat_natCast] at this
   exact this.elim .inl fun h=> .inr (.inl h)
  ·subst a
   have e:(i:Int)=j:=ep.symm.trans er
   have e:i=j:=by omega
   subst e
   exact .inl ⟨fun _ _=>rfl,rfl⟩
  ·have:=h.lt r p r0 a p1
   rw[ep,er,Int.toNat_natCast,Int.toNat_natCast] at this
   exact this.elim (fun h=> .inl ⟨h.1.symm,h.2.symm⟩) fun h=> .inr (.inr h)
 refine⟨h.len,fun i i1 i2=> ?_,fun i j i1 i2 j1 j2=> ?_,fun i j i1 i2 j1 j2=> ?_,fun j j0 j1 hj=>h.out j j0 j1 fun p p0 p1 e=> ?_⟩
 ·obtain ⟨p,p0,p1,ep⟩:=at_ i i1 i2
  have:=h.bd p p0 p1
  rwa[ep] at this
 ·rcases key i j i1 i2 j1 j2 with⟨e,v⟩|⟨e,v⟩|⟨e,v⟩
  ·exact⟨fun h=>by omega,fun h=>absurd e h.not_eq⟩
  ·exact⟨fun _=>e,fun _=>v⟩
  ·exact⟨fun h=>by omega,fun h=>absurd h e.asymm⟩
 ·rcases key i j i1 i2 j1 j2 with⟨e,v⟩|⟨e,v⟩|⟨e,v⟩
  ·exact⟨fun _=>e,fun _=>v⟩
  ·exact⟨fun h=>by omega,fun h=>absurd h e.not_eq⟩
  ·exact⟨fun h=>by omega,fun h=>absurd h.symm e.not_eq⟩
 ·have:=jF.1 (hp.subset (e▸bA (L:=o) p0 p1))
  omega
structure RkO (s o V:List Int):Prop where
 perm:o.Perm (smp s.length)
 sorted:o.Pairwise (bI s)
 len:V.length=s.length+3
 rk: ∀p:Int,0≤p→p<o.length→rd V (rd o p)=p+1
 out: ∀j:Int,0≤j→j<s.length+3→(j%3=0∨s.length≤j)→rd V j=0
theorem RkI.all (h:RkI s o V o.length n) (hp:o.Perm (smp s.length)) (hn:n=o.length):RkO s o V:=by
 have hf:=h.full hn
 refine⟨hp,?_,h.len,hf,(h.done hp).out⟩
 refine List.pairwise_iff_getElem.2 fun i j hi hj hij=> ?_
 have:=h.lt i j (by omega) (by omega) (by omega)
 have e1:=hf i (by omega) (by omega)
 have e2:=hf j (by omega) (by omega)
 rw[dS hi,dS hj] at this
 rw[dS hi] at e1
 rw[dS hj] at e2
 rcases this with⟨_,v⟩|⟨v,_⟩
 ·omega
 ·exact lN.2 (zK v)
def blw (s V:List Int):List Int:=(plc s.length 1).map (rd V)++[0]++(plc s.length 2).map (rd V)
def bpos (s:List Int) (i:Nat):Nat:=if i%3=1 then i/3 else(s.length+1)/3+1+i/3
def bk (s:List Int) (t:Int):Int:=if t<(plc s.length 1).length then 1+3*t else 2+3*(t-(plc s.length 1).length-1)
def ofB (s sb:List Int):List Int:=(sb.filter fun t:Int=>decide (t≠(plc s.length 1).length)).map (bk s)
variable {sb:List Int}
structure RkN (s o V:List Int) (q:Int):Prop where
 len:V.length=s.length+3
 rk: ∀p,0≤p→p<q→rd V (rd o p)=p+1
 out: ∀j:Int,0≤j→j<s.length+3→(j%3=0∨s.length≤j)→rd V j=0
theorem RkF.zero (h:RkF s V n) (o:List Int):RkN s o V 0:=⟨h.len,fun p h1 h2=>by omega,h.out⟩
theorem RkN.step (h:RkN s o V q) (hp:o.Perm (smp s.length)) (q0:0≤q) (hq:q<o.length):RkN s o (upd V (rd o q) (q+1)) (q+1):=by
 have hin: ∀p:Int,0≤p→p<o.length→rd o p∈smp s.length:=fun p p0 p1=>hp.subset (bA p0 p1)
 have hnd:o.Nodup:=hp.symm.nodup (nQ _)
 have iq:=jF.1 (hin q q0 hq)
 have hl:=h.len
 refine⟨by rw[aQ];exact hl,fun p p0 p1=> ?_,fun j j0 j1 hj=> ?_⟩
 ·rcases Int.lt_or_le p q with a|a
  ·have ip:=jF.1 (hin p p0 (by omega))
   rw[dB iq.1 ip.1 fun e=>by have:=fH hnd q0 hq p0 (by omega) e;omega]
   exact h.rk p p0 a
  ·rw[show p=q by omega,dL iq.1 (by omega)]
 ·rw [dB iq.1 j0 (by omega)]
  exact h.out j j0 j1 hj
theorem RkN.done (h:RkN s o V o.length) (hp:o.Perm (smp s.length)) (hs:o.Pairwise (bI s)):RkO s o V:=⟨hp,hs,h.len,h.rk,h.out⟩
def XE (s:List Int) (a:Int):Prop:=0≤a∧(a<s.length∧a%3≠0∨a=s.length)
theorem RkO.at_ (h:RkO s o V) {a:Int} (ha:XE s a) (hl:a<s.length): ∃p:Int,(0≤p∧p<o.length)∧rd o p=a∧rd V a=p+1:=by
 obtain⟨p,p0,p1,e⟩:=JA (h.perm.symm.subset (jF.2 ⟨ha.1,hl,ha.2.elim (·.2) fun h=>by omega⟩))
 exact⟨p,⟨p0,p1⟩,e,by rw[←e];exact h.rk p p0 p1⟩
theorem RkO.end_ (h:RkO s o V):rd V (s.length:Int)=0:=h.out _ (by omega) (by omega) (.inr (by omega))
theorem RkO.bd (h:RkO s o V) {a:Int} (ha:XE s a):0≤rd V a∧rd V a≤o.length:=by
 rcases Int.lt_or_le a s.length with c|c
 ·obtain ⟨p,hp,_,e⟩:=h.at_ ha c
  omega
 ·have e:a=s.length:=ha.2.elim (fun h=>by omega) id
  rw[e,h.end_]
  omega
theorem RkO.cmp (h:RkO s o V) {a b:Int} (ha:XE s a) (hb:XE s b) (hne:a≠b):rd V a<rd V b↔LtO (eu s a.toNat) (eu s b.toNat):=by
 rcases Int.lt_or_le a s.length with ca|ca
 ·obtain ⟨p,hp,ep,vp⟩:=h.at_ ha ca
  rcases Int.lt_or_le b s.length with cb|cb
  ·obtain ⟨r,hr,er,vr⟩:=h.at_ hb cb
   rw[vp,vr]
   constructor
   ·intro hlt
    have:=bU h.sorted hp.1 (show p<r by omega) hr.2
    rw[ep,er] at this
    exact lN.1 this
   ·intro hlt
    rcases Int.lt_trichotomy p r with c|c|c
    ·omega
    ·subst c
     exact absurd (ep.symm.trans er) hne
    ·have:=bU h.sorted hr.1 c hp.2
     rw[ep,er] at this
     exact absurd hlt (OO (lN.1 this))
  ·have e:b=s.length:=hb.2.elim (fun h=>by omega) id
   rw[e,h.end_,vp]
   refine⟨fun h=>by omega,fun⟨k,_,h2⟩=> ?_⟩
   rw[fD (s:=s) (i:=(s.length:Int).toNat) (by omega)] at h2
   have:=UZ s a.toNat k
   omega
 ·have e:a=s.length:=ha.2.elim (fun h=>by omega) id
  rw[e,h.end_]
  have cb:b<s.length:=hb.2.elim (·.1) fun h=>by omega
  obtain⟨r,hr,er,vr⟩:=h.at_ hb cb
  rw[vr]
  refine⟨fun _=>⟨0,fun i hi=>by omega,?_⟩,fun _=>by omega⟩
  rw[fD (by omega)]
  exact nC (by have:=hb.1;omega)
def bhd (s V:List Int):List Int:=(List.range s.length).map fun i:Nat=>rd V ((i:Int)+1)
def oth (s V:List Int) (k:Int):List Int:=bN (bN (plc s.length 0) (bhd s V) ((s.length:Int)+1).toNat) (DJ s 0) (k+1).toNat
structure MgI (s o t acc:List Int) (a q:Int):Prop where
 perm:acc.Perm (o.take a.toNat++t.take q.toNat)
 sorted:acc.Pairwise (bI s)
 ahead: ∀x∈acc,∀y,y∈o.drop a.toNat∨y∈t.drop q.toNat→bI s x y
variable {t acc:List Int} {a:Int}
theorem MgI.len (h:MgI s o t acc a q) (a0:0≤a) (ha:a≤o.length) (q0:0≤q) (hq:q≤t.length):(acc.length:Int)=a+q:=by
 rw[h.perm.length_eq,List.length_append,List.length_take,List.length_take]
 omega
theorem KH {r:Int→Int→Prop} {l:List Int} {x:Int} (h:l.Pairwise r) (hx: ∀y∈l,r y x):(l++[x]).Pairwise r:=by
 rw[List.pairwise_append]
 exact⟨h,List.pairwise_singleton _ _,fun y hy z hz=>by rw[List.mem_singleton.1 hz];exact hx y hy⟩
theorem MgI.left (h:MgI s o t acc a q) (ho:o.Pairwise (bI s)) (ht:t.Pairwise (bI s)) (a0:0≤a) (ha:a<o.length) (q0:0≤q) (hq:q<t.length) (hl:bI s (rd o a) (rd t q)):MgI s o t (acc++[rd o a]) (a+1) q:=by
 have eo:=eF (s:=o) a0 ha
 have et:=eF (s:=t) q0 hq
 refine⟨?_,KH h.sorted fun y hy=>h.ahead y hy _ (.inl (by rw[eo];simp)),fun x hx y hy=> ?_⟩
 ·rw [dG a0 ha]
  refine(h.perm.append_right _).trans ?_
  rw[List.append_assoc,List.append_assoc]
  exact List.Perm.append_left _ List.perm_append_comm
 ·rcases List.mem_append.1 hx with hx|hx
  ·exact h.ahead x hx y (hy.imp_left fun hy=>by rw[eo];exact List.mem_cons_of_mem _ hy)
  ·rw [List.mem_singleton.1 hx]
   have so:(o.drop a.toNat).Pairwise (bI s):=ho.sublist (List.drop_sublist _ _)
   have st:(t.drop q.toNat).Pairwise (bI s):=ht.sublist (List.drop_sublist _ _)
   rw[eo,List.pairwise_cons] at so
   rw[et,List.pairwise_cons] at st
   rcases hy with hy|hy
   ·exact so.1 y hy
   ·rw [et] at hy
    rcases List.mem_cons.1 hy with rfl|hy
    ·exact hl
    ·exact vE _ _ _ hl (st.1 y hy)
theorem MgI.right (h:MgI s o t acc a q) (ho:o.Pairwise (bI s)) (ht:t.Pairwise (bI s)) (a0:0≤a) (q0:0≤q) (hq:q<t.length) (hl:a<o.length→bI s (rd t q) (rd o a)):MgI s o t (acc++[rd t q]) a (q+1):=by
 have et:=eF (s:=t) q0 hq
 refine⟨?_,KH h.sorted fun y hy=>h.ahead y hy _ (.inr (by rw[et];simp)),fun x hx y hy=> ?_⟩
 ·rw [dG q0 hq,←List.append_assoc]
  exact h.perm.append_right _
 ·rcases List.mem_append.1 hx with hx|hx
  ·exact h.ahead x hx y (hy.imp_right fun hy=>by rw[et];exact List.mem_cons_of_mem _ hy)
  ·rw [List.mem_singleton.1 hx]
   have st:(t.drop q.toNat).Pairwise (bI s):=ht.sublist (List.drop_sublist _ _)
   rw[et,List.pairwise_cons] at st
   rcases hy with hy|hy
   ·rcases Int.lt_or_le a o.length with c|c
    ·have eo:=eF (s:=o) a0 c
     have so:(o.drop a.toNat).Pairwise (bI s):=ho.sublist (List.drop_sublist _ _)
     rw[eo,List.pairwise_cons] at so
     rw[eo] at hy
     rcases List.mem_cons.1 hy with rfl|hy
     ·exact hl c
     ·exact vE _ _ _ (hl c) (so.1 y hy)
    ·rw [List.drop_of_length_le (by omega)] at hy
     cases hy
   ·exact st.1 y hy
theorem MgI.done (h:MgI s o t acc a q) (ho:o.Pairwise (bI s)) (hq:(t.length:Int)≤q) (hp:o.Perm (smp s.length)) (tp:t.Perm (plc s.length 0)):(acc++o.drop a.toNat).Perm (iota s.length)∧(acc++o.drop a.toNat).Pairwise (bI s):=by
 refine⟨?_,?_⟩
 ·have h1:=h.perm
  rw[List.take_of_length_le (l:=t) (by omega)] at h1
  refine((h1.append_right _).trans ?_).trans (((hp.append_right _).trans (tp.append_left _)).trans (XD _))
  refine(List.perm_append_comm.append_right _).trans ?_
  rw[List.append_assoc,List.take_append_drop]
  exact List.perm_append_comm
 ·rw [List.pairwise_append]
  exact⟨h.sorted,ho.sublist (List.drop_sublist _ _),fun x hx y hy=>h.ahead x hx y (.inl hy)⟩
end
def thr (s:List Int) (m:Int):List Int:=(List.range (m+1).toNat).map fun c:Nat=>if (c:Int)∈s then 1 else 0
def sqz (s:List Int) (m:Int):List Int:=s.map fun x=>ps (thr s m) x
def aFg (s:List Int) (k:Int):Nat→List Int
 |0=>smp s.length
 |j+1=>bN (aFg s k j) (DJ s (2-(j:Int))) (k+1).toNat
def aEu (s:List Int) (i j:Int):Prop:=IX s (i+0)=IX s (j+0)∧IX s (i+1)=IX s (j+1)∧IX s (i+2)=IX s (j+2)
instance (s:List Int) (i j:Int):Decidable (aEu s i j):=by unfold aEu;exact inferInstance
section
variable {s o V:List Int} {q n:Int}
theorem RkI.short (h:RkI s o V o.length n) (hp:o.Perm (smp s.length)) (h2:2≤s.length) (h3:s.length≤3):n=o.length:=by
 have hl:o.length=(s.length+1)/3+s.length/3:=by rw[hp.length_eq,XC]
 have hin: ∀p:Int,0≤p→p<o.length→(0≤rd o p∧rd o p<s.length∧rd o p%3≠0):=fun p a b=>jF.1 (hp.subset (bA a b))
 have hnq:=h.nq
 have b0:=h.bd 0 (by omega) (by omega)
 rcases(by omega:o.length=1∨o.length=2) with e|e
 ·omega
 ·have b1:=h.bd 1 (by omega) (by omega)
  have i0:=hin 0 (by omega) (by omega)
  have i1:=hin 1 (by omega) (by omega)
  rcases h.lt 0 1 (by omega) (by omega) (by omega) with⟨a,_⟩|⟨_,a⟩
  ·exfalso
   have hne:rd o 0≠rd o 1:=fun g=>by have:=fH (hp.symm.nodup (nQ _)) (i:=0) (j:=1) (by omega) (by omega) (by omega) (by omega) g;omega
   have:=zY (s:=s) (i:=(rd o 0).toNat) (j:=(rd o 1).toNat) (by omega) (by omega) (by omega) a
   omega
  ·omega
end
end Go.Pure

namespace Go.Pure
open Go Go.Eng
def rP (s:List Int) (i j:Nat) (d:Nat):Prop:=(i+d<s.length∧j+d<s.length)∧lt s (i+d)=lt s (j+d)
instance (s:List Int) (i j d:Nat):Decidable (rP s i j d):=by unfold rP;exact inferInstance
def EU (s:List Int):Nat→Nat→Nat→Nat
 |0,_,_=>0
 |f+1,i,j=>if rP s i j 0 then EU s f (i+1) (j+1)+1 else 0
def com (s:List Int) (i j:Int):Nat:=EU s s.length i.toNat j.toNat
theorem EG {s:List Int} {i j m d:Nat}:rP s (i+m) (j+m) d↔rP s i j (m+d):=by
 unfold rP
 rw[Nat.add_assoc,Nat.add_assoc]
theorem ET {s:List Int}: ∀(f i j:Nat),∀d,d<EU s f i j→rP s i j d
 |0,i,j,d,h=>by simp[EU] at h
 | f+1,i,j,d,h=>by
  unfold EU at h
  split at h
  ·rename_i c
   cases d with
   |zero=>exact c
   |succ d=>
    have:=ET (s:=s) f (i+1) (j+1) d (by omega)
    rwa[EG,Nat.add_comm] at this
  ·omega
theorem ES {s:List Int}: ∀(f i j:Nat),s.length≤i+f→ ¬rP s i j (EU s f i j)
 |0,i,j,h=>by
  unfold EU rP
  omega
 | f+1,i,j,h=>by
  unfold EU
  by_cases c:rP s i j 0
  ·rw [if_pos c]
   have:=ES (s:=s) f (i+1) (j+1) (by omega)
   rwa[EG,Nat.add_comm] at this
  ·rw[if_neg c];exact c
theorem ML {s:List Int} {i j:Int}: ∀d,d<com s i j→rP s i.toNat j.toNat d:=ET _ _ _
theorem YU {s:List Int} {i j:Int}: ¬rP s i.toNat j.toNat (com s i j):=ES _ _ _ (by omega)
theorem aBw {s:List Int} {i j:Int} {n:Nat}:n≤com s i j↔ ∀d,d<n→rP s i.toNat j.toNat d:=by
 refine⟨fun h d hd=>ML d (by omega),fun h=>Nat.not_lt.1 fun c=> ?_⟩
 exact YU (h _ c)
theorem aBx {s:List Int} {i j:Int} (i0:0≤i) (hi:i≤s.length) (j0:0≤j) (hj:j≤s.length):i+com s i j≤s.length∧j+com s i j≤s.length:=by
 rcases Nat.eq_zero_or_pos (com s i j) with z|z
 ·omega
 ·have:=(ML (s:=s) (i:=i) (j:=j) (com s i j-1) (by omega)).1
  omega
theorem MK {s:List Int} {i j:Int} {n:Nat} (hi:0≤i∧i<s.length) (hj:0≤j∧j<s.length) (hij:i≠j):n≤com s i j↔EqH n (eu s i.toNat) (eu s j.toNat):=by
 rw[aBw]
 constructor
 ·intro h d hd
  obtain⟨⟨a,b⟩,c⟩:=h d hd
  unfold eu
  rw[if_pos a,if_pos b,c]
 ·intro h d hd
  have r1:=zY (s:=s) (i:=i.toNat) (j:=j.toNat) (by omega) (by omega) (by omega) h
  have r2:=zY (s:=s) (i:=j.toNat) (j:=i.toNat) (by omega) (by omega) (by omega) h.symm
  refine⟨⟨by omega,by omega⟩,?_⟩
  have:=h d hd
  unfold eu at this
  rw[if_pos (by omega),if_pos (by omega)] at this
  omega
theorem eq_between {n:Nat} {U V W:Nat→Int} (e:EqH n U W) (h1: ¬LtO V U) (h2: ¬LtO W V):EqH n U V:=by
 rcases tri n U V with a|a|a
 ·exact absurd (zK (e.symm.ltH a)) h2
 ·exact a
 ·exact absurd (zK a) h1
structure lY (s a R:List Int):Prop where
 perm:a.Perm (iota s.length)
 sorted:a.Pairwise (bI s)
 len:R.length=s.length
 inv: ∀r:Int,0≤r→r<s.length→rd R (rd a r)=r
section
variable {s a R:List Int}
theorem lY.alen (h:lY s a R):a.length=s.length:=by rw[h.perm.length_eq,aW]
theorem lY.ain (h:lY s a R) {r:Int} (r0:0≤r) (hr:r<s.length):0≤rd a r∧rd a r<s.length:=aO.1 (h.perm.subset (bA r0 (by rw[h.alen];exact hr)))
theorem lY.at_ (h:lY s a R) {i:Int} (i0:0≤i) (hi:i<s.length):(0≤rd R i∧rd R i<s.length)∧rd a (rd R i)=i:=by
 obtain⟨p,p0,p1,e⟩:=JA (h.perm.symm.subset (aO.2 ⟨i0,hi⟩))
 rw[h.alen] at p1
 have:=h.inv p p0 p1
 rw[e] at this
 rw[this]
 exact⟨⟨p0,p1⟩,e⟩
theorem lY.ord (h:lY s a R) {p q:Int} (p0:0≤p) (hpq:p<q) (hq:q<s.length):bI s (rd a p) (rd a q):=bU h.sorted p0 hpq (by rw[h.alen];exact hq)
theorem lY.rank (h:lY s a R) {i j:Int} (hi:0≤i∧i<s.length) (hj:0≤j∧j<s.length):rd R i<rd R j↔bI s i j:=by
 obtain⟨a1,a2⟩:=h.at_ hi.1 hi.2
 obtain⟨b1,b2⟩:=h.at_ hj.1 hj.2
 constructor
 ·intro c
  have:=h.ord a1.1 c b1.2
  rwa[a2,b2] at this
 ·intro c
  rcases Int.lt_trichotomy (rd R i) (rd R j) with d|d|d
  ·exact d
  ·rw [d,b2] at a2
   rw[a2] at c
   exact absurd c (dI _ _ c)
  ·have:=h.ord b1.1 d a1.2
   rw[a2,b2] at this
   exact absurd c (dI _ _ this)
theorem IY (h:lY s a R) {i:Int} (i0:0≤i) (hi:i+1<s.length) (h1:0<rd R i) (h2:0<rd R (i+1)):
  com s i (rd a (rd R i-1))-1≤com s (i+1) (rd a (rd R (i+1)-1)):=by
 rcases Nat.lt_or_ge 1 (com s i (rd a (rd R i-1))) with c|c
 ·obtain ⟨ra,rb⟩:=h.at_ i0 (by omega)
  obtain⟨sa,sb⟩:=h.at_ (i:=i+1) (by omega) hi
  generalize hj:rd a (rd R i-1)=j at c ⊢
  generalize hp:rd a (rd R (i+1)-1)=p
  have jin:=h.ain (r:=rd R i-1) (by omega) (by omega)
  have pin:=h.ain (r:=rd R (i+1)-1) (by omega) (by omega)
  rw[hj] at jin
  rw[hp] at pin
  have oji:=h.ord (p:=rd R i-1) (q:=rd R i) (by omega) (by omega) ra.2
  rw[hj,rb] at oji
  have opi:=h.ord (p:=rd R (i+1)-1) (q:=rd R (i+1)) (by omega) (by omega) sa.2
  rw[hp,sb] at opi
  have hji:j≠i:=fun e=>by rw[e] at oji;exact dI _ _ oji oji
  have hpi:p≠i+1:=fun e=>by rw[e] at opi;exact dI _ _ opi opi
  have bj:=aBx (s:=s) (i:=i) (j:=j) (by omega) (by omega) (by omega) (by omega)
  have hj1:j+1<s.length:=by omega
  have e:=(MK (n:=com s i j) ⟨i0,by omega⟩ jin (Ne.symm hji)).1 (Nat.le_refl _)
  have e1:EqH 1 (eu s j.toNat) (eu s i.toNat):=(e.mono (by omega)).symm
  have o1:LtO (eu s (j+1).toNat) (eu s (i+1).toNat):=by
   rw[show(j+1).toNat=j.toNat+1 by omega,show(i+1).toNat=i.toNat+1 by omega,TY e1]
   exact lN.1 oji
  have r1:=(h.rank (i:=j+1) (j:=i+1) ⟨by omega,hj1⟩ ⟨by omega,hi⟩).2 (lN.2 o1)
  obtain⟨ta,tb⟩:=h.at_ (i:=j+1) (by omega) hj1
  have e2:EqH (com s i j-1) (eu s (i+1).toNat) (eu s (j+1).toNat):=fun d hd=>by
   have:=e (d+1) (by omega)
   rw[show(j+1).toNat=j.toNat+1 by omega,show(i+1).toNat=i.toNat+1 by omega,zX,zX,Nat.add_comm 1 d]
   exact this
  refine(MK ⟨by omega,hi⟩ pin (Ne.symm hpi)).2 ?_
  have hle:j+1=p∨bI s (j+1) p:=by
   rcases Int.lt_or_le (rd R (j+1)) (rd R (i+1)-1) with d|d
   ·have:=h.ord ta.1 d (by omega)
    rw[tb,hp] at this
    exact .inr this
   ·refine .inl ?_
    rw[←tb,←hp]
    congr 1
    omega
  rcases hle with rfl|hle
  ·exact e2
  ·refine e2.trans' (eq_between e2.symm (fun g=> ?_) fun g=> ?_)
   ·exact dI _ _ hle (lN.2 g)
   ·exact dI _ _ opi (lN.2 g)
 ·omega
def OQ (s a:List Int):List Int:=(List.range a.length).map fun r:Nat=>if r=0 then 0 else(com s (rd a r) (rd a ((r:Int)-1)):Int)
theorem UE (s a:List Int):(OQ s a).length=a.length:=by simp[OQ]
theorem KQ {r:Int} (h0:0≤r) (h:r<a.length):rd (OQ s a) r=if r=0 then 0 else(com s (rd a r) (rd a (r-1)):Int):=by
 unfold OQ
 rw[fG h0 (by omega),show((r.toNat:Nat):Int)=r by omega]
 by_cases c:r=0
 ·rw[if_pos c,if_pos (by omega)]
 ·rw[if_neg c,if_neg (by omega)]
structure FR (s a R V:List Int) (i n:Int):Prop where
 len:V.length=s.length
 n0:0≤n
 nl:i<s.length→0<rd R i→n.toNat≤com s i (rd a (rd R i-1))
 val: ∀p:Int,0≤p→p<i→rd V (rd R p)=rd (OQ s a) (rd R p)
 zero:0<s.length→rd V 0=0
variable {V:List Int} {i n:Int}
theorem FR.skip (k:FR s a R V i n) (h:lY s a R) (i0:0≤i) (hi:i<s.length) (hr:rd R i=0):FR s a R V (i+1) 0:=by
 refine⟨k.len,by omega,fun _ _=>Nat.zero_le _,fun p p0 p1=> ?_,k.zero⟩
 rcases Int.lt_or_le p i with c|c
 ·exact k.val p p0 c
 ·rw [show p=i by omega,hr,KQ (by omega) (by rw[h.alen];omega),if_pos rfl]
  exact k.zero (by omega)
theorem FR.put (k:FR s a R V i n) (h:lY s a R) (i0:0≤i) (hi:i<s.length) (hr:rd R i≠0) {m:Int} (hm:m=com s i (rd a (rd R i-1))):FR s a R (upd V (rd R i) m) (i+1) (max (m-1) 0):=by
 obtain⟨ra,rb⟩:=h.at_ i0 hi
 have hl:=k.len
 refine⟨by rw[aQ];exact hl,by omega,fun h1 h2=> ?_,fun p p0 p1=> ?_,fun hs=> ?_⟩
 ·have:=IY h i0 h1 (by omega) h2
  omega
 ·obtain ⟨pa,pb⟩:=h.at_ p0 (show p<s.length by omega)
  rcases Int.lt_or_le p i with c|c
  ·rw [dB ra.1 pa.1 fun e=>by rw[←e,rb] at pb;omega]
   exact k.val p p0 c
  ·rw[show p=i by omega,dL ra.1 (by omega),KQ ra.1 (by rw[h.alen];exact ra.2),if_neg hr,rb,hm]
 ·rw [dB ra.1 (by omega) hr]
  exact k.zero hs
theorem FR.done (k:FR s a R V s.length n) (h:lY s a R):V=OQ s a:=by
 refine bB (by rw[k.len,UE,h.alen]) fun j j0 j1=> ?_
 rw[k.len] at j1
 have e:=k.val (rd a j) (h.ain j0 j1).1 (h.ain j0 j1).2
 rwa[h.inv j j0 j1] at e
def aFv (s a R:List Int):List Int:=(List.range s.length).map fun i:Nat=>if rd R i=0 then -1 else rd a (rd R i-1)
def uX (s a R:List Int):List Int:=(List.range s.length).map fun i:Nat=>if rd R i=0 then 0 else(com s i (rd a (rd R i-1)):Int)
theorem OG:(uX s a R).length=s.length:=by simp[uX]
theorem SK (h0:0≤i) (h:i<s.length):rd (uX s a R) i=if rd R i=0 then 0 else(com s i (rd a (rd R i-1)):Int):=by
 unfold uX
 rw[fG h0 (by omega),show((i.toNat:Nat):Int)=i by omega]
theorem lY.next (h:lY s a R) {r:Int} (r0:1≤r) (hr:r<s.length):rd s (rd a (r-1))<rd s (rd a r)∨rd s (rd a (r-1))=rd s (rd a r)∧
  ((rd a (r-1)+1=s.length∧rd a r+1<s.length)∨(rd a (r-1)+1<s.length∧rd a r+1<s.length∧rd R (rd a (r-1)+1)<rd R (rd a r+1))):=by
 have o:=h.ord (p:=r-1) (q:=r) (by omega) (by omega) hr
 have x:=h.ain (r:=r-1) (by omega) (by omega)
 have y:=h.ain (r:=r) (by omega) hr
 generalize rd a (r-1)=p at o x ⊢
 generalize rd a r=q at o y ⊢
 rw[lN] at o
 have e0: ∀z:Int,0≤z→z<s.length→eu s z.toNat 0=rd s z-lo s+1:=fun z z0 z1=>by
  unfold eu
  rw[if_pos (by omega)]
  rfl
 obtain⟨k,h1,h2⟩:=o
 cases k with
 |zero=>rw[e0 p x.1 x.2,e0 q y.1 y.2] at h2;exact .inl (by omega)
 | succ k=>
  have e:=h1 0 (by omega)
  rw[e0 p x.1 x.2,e0 q y.1 y.2] at e
  refine .inr ⟨by omega,?_⟩
  have hq:q+1<s.length:=by
   rcases Nat.lt_or_ge (q.toNat+(k+1)) s.length with c|c
   ·omega
   ·rw [fD c] at h2
    have:=UZ s p.toNat (k+1)
    omega
  rcases Int.lt_or_le (p+1) s.length with c|c
  ·refine .inr ⟨c,hq,(h.rank ⟨by omega,c⟩ ⟨by omega,hq⟩).2 (lN.2 ?_)⟩
   rw[show(p+1).toNat=p.toNat+1 by omega,show(q+1).toNat=q.toNat+1 by omega,TY (fun d hd=>by rw[show d=0 by omega];exact h1 0 (by omega))]
   exact⟨k+1,h1,h2⟩
  ·exact .inl ⟨by omega,hq⟩
end
structure AR (a V:List Int) (B:List Bool) (q:Int):Prop where
 len:V.length=a.length
 blen:B.length=a.length
 val: ∀p:Int,0≤p→p<q→rd V (rd a p)=p
 seen: ∀x:Int,0≤x→x<a.length→(rdb B x=true↔ ∃p:Int,0≤p∧p<q∧rd a p=x)
theorem AR.fresh {a V:List Int} {B:List Bool} {q:Int} (h:AR a V B q) (hp:a.Perm (iota a.length)) (q0:0≤q) (hq:q<a.length):(0≤rd a q∧rd a q<a.length)∧ ¬rdb B (rd a q)=true:=by
 have hin:=aO.1 (hp.subset (bA q0 hq))
 refine⟨hin,fun hs=> ?_⟩
 obtain⟨p,p0,p1,e⟩:=(h.seen _ hin.1 hin.2).1 hs
 have:=fH (hp.symm.nodup (cO _)) p0 (by omega) q0 hq e
 omega
theorem AR.step {a V:List Int} {B:List Bool} {q:Int} (h:AR a V B q) (hp:a.Perm (iota a.length)) (q0:0≤q) (hq:q<a.length):AR a (upd V (rd a q) q) (jS B (rd a q) true) (q+1):=by
 obtain⟨⟨x0,x1⟩,_⟩:=h.fresh hp q0 hq
 have hl:=h.len
 have hb:=h.blen
 have hnd:=hp.symm.nodup (cO a.length)
 refine⟨by rw[aQ];exact hl,by rw[gB];exact hb,fun p p0 p1=> ?_,fun x h0 h1=> ?_⟩
 ·rcases Int.lt_or_le p q with c|c
  ·have hin:=aO.1 (hp.subset (bA (L:=a) p0 (by omega)))
   rw[dB x0 hin.1 fun e=>by have:=fH hnd q0 hq p0 (by omega) e;omega]
   exact h.val p p0 c
  ·rw[show p=q by omega,dL x0 (by omega)]
 ·rw [nT x0 (by omega) h0]
  by_cases c:x=rd a q
  ·rw [if_pos c]
   exact⟨fun _=>⟨q,q0,by omega,c.symm⟩,fun _=>rfl⟩
  ·rw [if_neg c,h.seen x h0 h1]
   exact⟨fun⟨p,p0,p1,e⟩=>⟨p,p0,by omega,e⟩,fun⟨p,p0,p1,e⟩=>⟨p,p0,(Int.lt_or_le p q).elim id fun d=>absurd (by rw[←e,show p=q by omega]) c,e⟩⟩
theorem AR.done {s a V:List Int} {B:List Bool} (h:AR a V B a.length) (hp:a.Perm (iota s.length)) (hs:a.Pairwise (bI s)):lY s a V:=by
 have hl:a.length=s.length:=by rw[hp.length_eq,aW]
 exact⟨hp,hs,by rw[h.len,hl],fun r r0 hr=>h.val r r0 (by omega)⟩
def aCf (a V:List Int):Prop:=V.length=a.length∧ ∀r:Int,0≤r→r<a.length→rd V (rd a r)=r
theorem AR.all {a V:List Int} {B:List Bool} (h:AR a V B a.length):aCf a V:=⟨h.len,h.val⟩
theorem aCf.ord {s a V:List Int} (h:aCf a V) (hp:a.Perm (iota s.length)) (hs:a.Pairwise (bI s)):lY s a V:=by
 have hl:a.length=s.length:=by rw[hp.length_eq,aW]
 exact⟨hp,hs,by rw[h.1,hl],fun r r0 hr=>h.2 r r0 (by omega)⟩
def bhF (R:List Int) (i:Int):Int:=if i+1=R.length then -1 else rd R (i+1)
section
variable {s a R:List Int}
structure AhI (a V:List Int) (q l:Int):Prop where
 len:V.length=a.length
 last:l=if q=0 then -1 else rd a (q-1)
 val: ∀p:Int,0≤p→p<q→rd V (rd a p)=if p=0 then -1 else rd a (p-1)
def AhF (a V:List Int):Prop:=V.length=a.length∧ ∀p:Int,0≤p→p<a.length→rd V (rd a p)=if p=0 then -1 else rd a (p-1)
variable {V:List Int} {q l:Int}
theorem AhI.step (h:AhI a V q l) (hp:a.Perm (iota a.length)) (q0:0≤q) (hq:q<a.length):AhI a (upd V (rd a q) l) (q+1) (rd a q):=by
 have hin:=aO.1 (hp.subset (bA q0 hq))
 have hnd:=hp.symm.nodup (cO a.length)
 have hl:=h.len
 refine⟨by rw[aQ];exact hl,by rw[if_neg (by omega),show q+1-1=q by omega],fun p p0 p1=> ?_⟩
 rcases Int.lt_or_le p q with c|c
 ·have ip:=aO.1 (hp.subset (bA (L:=a) p0 (by omega)))
  rw[dB hin.1 ip.1 fun e=>by have:=fH hnd q0 hq p0 (by omega) e;omega]
  exact h.val p p0 c
 ·rw [show p=q by omega,dL hin.1 (by omega)]
  exact h.last
theorem AhI.done (h:AhI a V a.length l):AhF a V:=⟨h.len,h.val⟩
theorem AhF.at_ (h:AhF a V) (o:lY s a R) {i:Int} (h0:0≤i) (hi:i<s.length):rd V i=if rd R i=0 then -1 else rd a (rd R i-1):=by
 obtain⟨x,y⟩:=o.at_ h0 hi
 have:=h.2 (rd R i) x.1 (by rw[o.alen];exact x.2)
 rwa[y] at this
structure PlI (s a R V:List Int) (i n:Int):Prop where
 len:V.length=s.length
 n0:0≤n
 nl:i<s.length→0<rd R i→(n-1).toNat≤com s i (rd a (rd R i-1))
 val: ∀p:Int,0≤p→p<i→rd V p=rd (uX s a R) p
variable {i n:Int}
theorem PlI.put (k:PlI s a R V i n) (i0:0≤i) (hi:i<s.length) {m:Int} (hm:m=rd (uX s a R) i) (h0:0≤m) (hn:i+1<s.length→0<rd R (i+1)→(m-1).toNat≤com s (i+1) (rd a (rd R (i+1)-1))):PlI s a R (upd V i m) (i+1) m:=by
 have hl:=k.len
 refine⟨by rw[aQ];exact hl,h0,hn,fun p p0 p1=> ?_⟩
 rcases Int.lt_or_le p i with c|c
 ·rw [dB i0 p0 (by omega)]
  exact k.val p p0 c
 ·rw [show p=i by omega,dL i0 (by omega)]
  exact hm
theorem PlI.zero (k:PlI s a R V i n) (i0:0≤i) (hi:i<s.length) (hr:rd R i=0):PlI s a R (upd V i 0) (i+1) 0:=
 k.put i0 hi (by rw[SK i0 hi,if_pos hr]) (by omega) fun _ _=>Nat.zero_le _
theorem PlI.done (k:PlI s a R V s.length n):V=uX s a R:=
 bB (by rw[k.len,OG]) fun j j0 j1=>k.val j j0 (by have:=k.len;omega)
end
end Go.Pure

namespace Go.Pure
open Go Go.Eng
def mtf (l:List Int) (k:Int):List Int:=rd l k::(l.take k.toNat++l.drop (k.toNat+1))
def idx (l:List Int) (c:Int):Int:=(l.findIdx (fun x=>x==c):Nat)
def fT (l:List Int):List Int→List Int
 |[]=>[]
 |c::b=>idx l c::fT (mtf l (idx l c)) b
def pJ (l:List Int):List Int→List Int
 |[]=>l
 |c::b=>pJ (mtf l (idx l c)) b
def gL (l:List Int):List Int→List Int
 |[]=>[]
 |k::b=>rd l k::gL (mtf l k) b
def sW (l:List Int):List Int→List Int
 |[]=>l
 |k::b=>sW (mtf l k) b
theorem xN (c:Int): ∀(b l:List Int),pJ l (b++[c])=mtf (pJ l b) (idx (pJ l b) c)
 |[],l=>rfl
 |x::b,l=>by simp only[List.cons_append,pJ,xN c b]
theorem xL (k:Int): ∀(b l:List Int),sW l (b++[k])=mtf (sW l b) k
 |[],l=>rfl
 |x::b,l=>by simp only[List.cons_append,sW,xL k b]
theorem kY: ∀(b l:List Int),(fT l b).length=b.length
 |[],_=>rfl
 |x::b,l=>by simp only[fT,List.length_cons,kY b]
theorem nP: ∀(b l:List Int),(gL l b).length=b.length
 |[],_=>rfl
 |x::b,l=>by simp only[gL,List.length_cons,nP b]
theorem pY {l:List Int} {k:Int} (h0:0≤k) (h:k<l.length):(mtf l k).Perm l:=by
 have e:=eF (s:=l) h0 h
 rw[show(k+1).toNat=k.toNat+1 by omega] at e
 unfold mtf
 conv=>rhs;rw[←List.take_append_drop k.toNat l,e]
 exact List.perm_middle.symm
theorem lS {l:List Int} {c:Int} (h:c∈l):0≤idx l c∧idx l c<l.length:=by
 unfold idx
 have:=List.findIdx_lt_length_of_exists (xs:=l) (p:=fun x=>x==c) ⟨c,h,by simp⟩
 omega
theorem IC {l:List Int} {c:Int} (h:c∈l):rd l (idx l c)=c:=by
 have hi:=lS h
 have hlt:l.findIdx (fun x=>x==c)<l.length:=by unfold idx at hi;omega
 have:=List.findIdx_getElem (xs:=l) (p:=fun x=>x==c) (w:=hlt)
 unfold idx
 rw[dS hlt]
 simpa using this
theorem xO: ∀(b l:List Int),(∀c∈b,c∈l)→(pJ l b).Perm l
 |[],l,_=> .refl _
 |c::b,l,h=>by
  have hc:=lS (h c (by simp))
  have hp:=pY hc.1 hc.2
  exact(xO b _ fun x hx=>hp.symm.subset (h x (List.mem_cons_of_mem _ hx))).trans hp
theorem xM: ∀(b l:List Int),(∀k∈b,0≤k∧k<l.length)→(sW l b).Perm l
 |[],l,_=> .refl _
 |k::b,l,h=>by
  have hk:=h k (by simp)
  have hp:=pY hk.1 hk.2
  exact(xM b _ fun x hx=>by rw[hp.length_eq];exact h x (List.mem_cons_of_mem _ hx)).trans hp
theorem CW: ∀(b l:List Int),(∀c∈b,c∈l)→ ∀k∈fT l b,0≤k∧k<l.length
 |[],l,_=>fun k hk=>by cases hk
 | c::b,l,h=>by
  have hc:=lS (h c (by simp))
  have hp:=pY hc.1 hc.2
  intro k hk
  rcases List.mem_cons.1 hk with rfl|hk
  ·exact hc
  ·have:=CW b _ (fun x hx=>hp.symm.subset (h x (List.mem_cons_of_mem _ hx))) k hk
   rwa[hp.length_eq] at this
theorem wZ: ∀(b l:List Int),(∀c∈b,c∈l)→gL l (fT l b)=b
 |[],_,_=>rfl
 |c::b,l,h=>by
  have hc:=lS (h c (by simp))
  have hp:=pY hc.1 hc.2
  simp only[fT,gL]
  rw[IC (h c (by simp)),wZ b _ fun x hx=>hp.symm.subset (h x (List.mem_cons_of_mem _ hx))]
def bO:List Int:=iota 256
theorem oL:bO.length=256:=aW _
theorem oK {b:List Int} (h:aP b): ∀c∈b,c∈bO:=fun c hc=>by
 have:=h c hc
 exact aO.2 (by omega)
theorem IP {b:List Int} (h:aP b):aP (fT bO b):=fun k hk=>by
 have:=CW b _ (oK h) k hk
 rw[oL] at this
 omega
theorem GD {b:List Int} (h:aP b):gL bO (fT bO b)=b:=wZ b _ (oK h)
theorem xW: ∀(x y l:List Int),fT l (x++y)=fT l x++fT (pJ l x) y
 |[],_,_=>rfl
 |c::x,y,l=>by simp only[List.cons_append,fT,pJ,xW x y]
theorem xA: ∀(x y l:List Int),gL l (x++y)=gL l x++gL (sW l x) y
 |[],_,_=>rfl
 |c::x,y,l=>by simp only[List.cons_append,gL,sW,xA x y]
theorem SL {l b:List Int} {i:Int} (h0:0≤i) (h:i<b.length):rd (fT l b) i=idx (pJ l (b.take i.toNat)) (rd b i):=by
 have e:b=b.take i.toNat++(rd b i::b.drop (i+1).toNat):=by rw[←eF h0 h,List.take_append_drop]
 have hl:((fT l (b.take i.toNat)).length:Int)=i:=by rw[kY,List.length_take];omega
 conv=>lhs;rw[e,xW]
 rw[gM (by omega),hl,Int.sub_self]
 rfl
theorem SI {l b:List Int} {i:Int} (h0:0≤i) (h:i<b.length):rd (gL l b) i=rd (sW l (b.take i.toNat)) (rd b i):=by
 have e:b=b.take i.toNat++(rd b i::b.drop (i+1).toNat):=by rw[←eF h0 h,List.take_append_drop]
 have hl:((gL l (b.take i.toNat)).length:Int)=i:=by rw[nP,List.length_take];omega
 conv=>lhs;rw[e,xA]
 rw[gM (by omega),hl,Int.sub_self]
 rfl
theorem NY {l b:List Int} {i:Int} (h0:0≤i) (h:i<b.length):pJ l (b.take (i+1).toNat)=mtf (pJ l (b.take i.toNat)) (idx (pJ l (b.take i.toNat)) (rd b i)):=by
 rw[dG h0 h,xN]
theorem NW {l b:List Int} {i:Int} (h0:0≤i) (h:i<b.length):sW l (b.take (i+1).toNat)=mtf (sW l (b.take i.toNat)) (rd b i):=by
 rw[dG h0 h,xL]
theorem aBg {l:List Int} {k:Int} (h0:0≤k) (h:k<l.length):upd (l.take 1++(l.take k.toNat).take (min k.toNat (l.length-1))++l.drop (1+min k.toNat (l.length-1))) 0 (rd l k)=mtf l k:=by
 have e:min k.toNat (l.length-1)=k.toNat:=by omega
 rw[e,List.take_take,Nat.min_self,Nat.add_comm 1]
 unfold mtf upd
 cases l with
 |nil=>simp at h;omega
 |cons x l=>simp
theorem RS {b:List Int} (hb:aP b) (k:Nat):(pJ bO (b.take k)).Perm bO:=xO _ _ fun c hc=>oK hb c (List.mem_of_mem_take hc)
theorem RQ {b:List Int} (hb:aP b) (k:Nat):(sW bO (b.take k)).Perm bO:=xM _ _ fun c hc=>by
 have:=hb c (List.mem_of_mem_take hc)
 rw[oL]
 omega
theorem xK {V:List Int} (h:V.Perm bO):V.length=256∧aP V∧ ∀c:Int,0≤c→c<256→c∈V∧0≤idx V c∧idx V c<256:=by
 have hl:V.length=256:=by rw[h.length_eq,oL]
 refine⟨hl,fun x hx=>by have:=aO.1 (h.subset hx);omega,fun c c0 c1=> ?_⟩
 have hm:c∈V:=h.symm.subset (aO.2 ⟨c0,c1⟩)
 have:=lS hm
 exact⟨hm,this.1,by omega⟩
def ZR:Nat→Nat→List Int
 |0,_=>[]
 |f+1,n=>if n=0 then [] else(((n-1)%2:Nat):Int)::ZR f ((n-1)/2)
def ZQ (n:Nat):List Int:=ZR n n
def QX:Nat→List Int→List Int
 |n,[]=>ZQ n
 |n,c::b=>if c=0 then QX (n+1) b else ZQ n++((c+1)::QX 0 b)
def bkL (most:Int):List Int→List Int→Int→Option (List Int)
 |[],out,_=>some out
 |x::l,out,p=>if x<0∨257≤x then none else
  if 2≤x then(if most<out.length+1 then none else bkL most l (out++[x-1]) 1)
  else if most<p∨most-out.length<(x+1)*p then none else bkL most l (out++List.replicate ((x+1)*p).toNat 0) (p*2)
end Go.Pure

namespace Go.Pure
open Go Go.Eng
def beL:Nat→Int→List Int
 |0,_=>[]
 |k+1,N=>beL k (N/256)++[N%256]
def aCa:List Int→Int→List Int
 |[],_=>[]
 |d::l,x=>(x+d)%256::aCa l ((x+d)/256)
def WC (l:List Int) (x:Int):List Int:=(aCa l.reverse x).reverse
theorem QC (l:List Int) (d x:Int):WC (l++[d]) x=WC l ((x+d)/256)++[(x+d)%256]:=by
 unfold WC
 rw[List.reverse_append,List.reverse_singleton,List.singleton_append,aCa,List.reverse_cons]
theorem NH {V:List Int} {i v:Int} (i0:0≤i) (hi:i<V.length):upd V i v=V.take i.toNat++v::V.drop (i+1).toNat:=by
 unfold upd
 rw[List.set_eq_take_append_cons_drop,if_pos (by omega),show(i+1).toNat=i.toNat+1 by omega]
def aCg (b:List Int) (x0:Int) (V:List Int) (i x:Int):Prop:=V.length=b.length∧aP V∧WC (V.take (i+1).toNat) x++V.drop (i+1).toNat=WC b x0
theorem aCg.step {b V:List Int} {x0 i x d y:Int} (h:aCg b x0 V i x) (i0:0≤i) (hi:i<b.length) (hd:d=(x+rd V i)%256) (hy:y=(x+rd V i)/256):aCg b x0 (upd V i d) (i-1) y:=by
 obtain⟨hl,hV,ha⟩:=h
 have hs:=NH (V:=V) (v:=d) i0 (by omega)
 have h1:(upd V i d).take i.toNat=V.take i.toNat:=by
  unfold upd
  rw[List.take_set_of_le (Nat.le_refl _)]
 have h2:(upd V i d).drop i.toNat=d::V.drop (i+1).toNat:=by
  rw[hs,List.drop_append_of_le_length (by rw[List.length_take];omega),List.drop_eq_nil_of_le (by rw[List.length_take];omega),List.nil_append]
 refine⟨by rw[aQ];exact hl,fun c hc=> ?_,?_⟩
 ·rw [hs] at hc
  rcases List.mem_append.1 hc with hc|hc
  ·exact hV c (List.mem_of_mem_take hc)
  ·rcases List.mem_cons.1 hc with rfl|hc
   ·omega
   ·exact hV c (List.mem_of_mem_drop hc)
 ·rw [Int.sub_add_cancel,h1,h2,←ha,dG i0 (by omega),QC,hd,hy,List.append_assoc]
  rfl
def eT (l:List Int):Int:=l.sum
theorem xE (x:Int) (l:List Int):eT (x::l)=x+eT l:=List.sum_cons
theorem sJ (x y:List Int):eT (x++y)=eT x+eT y:=List.sum_append
theorem NL (l:List Int) (x:Int):eT (l++[x])=eT l+x:=by rw[sJ];simp[eT]
theorem NK {l:List Int} {i:Int} (h0:0≤i) (h:i<l.length):eT (l.take (i+1).toNat)=eT (l.take i.toNat)+rd l i:=by rw[dG h0 h,NL]
theorem WZ {l:List Int} (h: ∀c∈l,1≤c):(l.length:Int)≤eT l:=by
 induction l with
 |nil=>simp[eT]
 |cons x l ih=>
  have:=ih fun c hc=>h c (List.mem_cons_of_mem _ hc)
  have:=h x (by simp)
  rw[xE,List.length_cons]
  omega
theorem sI {l:List Int} (h: ∀c∈l,1≤c):0≤eT l:=by have:=WZ h;omega
theorem oJ {l:List Int} {i:Int} (h0:0≤i) (h:i<l.length):eT l=eT (l.take i.toNat)+rd l i+eT (l.drop (i+1).toNat):=by
 conv=>lhs;rw[←List.take_append_drop i.toNat l,eF h0 h]
 rw[sJ,xE]
 omega
theorem RD {l:List Int} (h: ∀c∈l,1≤c) (k:Nat): ∀c∈l.take k,1≤c:=fun c hc=>h c (List.mem_of_mem_take hc)
theorem VF {l:List Int} (h: ∀c∈l,1≤c) (k:Nat): ∀c∈l.drop k,1≤c:=fun c hc=>h c (List.mem_of_mem_drop hc)
theorem NM {l:List Int} {i:Int} (hp: ∀c∈l,1≤c) (h0:0≤i) (h:i<l.length):0≤eT (l.take i.toNat)∧1≤rd l i∧eT (l.take i.toNat)+rd l i≤eT l:=by
 have h1:=oJ h0 h
 have h2:=sI (VF hp (i+1).toNat)
 have h3:=sI (RD hp i.toNat)
 have h4:=hp _ (bA h0 h)
 omega
theorem RI {l:List Int} {i v:Int} (h0:0≤i) (h:i<l.length):eT (upd l i v)=eT l-rd l i+v:=by
 have e1:=oJ (l:=upd l i v) h0 (by rw[aQ];exact h)
 have e2:=oJ h0 h
 rw[dL h0 h] at e1
 have e3:(upd l i v).take i.toNat=l.take i.toNat:=by
  unfold upd
  rw[List.take_set_of_le (Nat.le_refl _)]
 have e4:(upd l i v).drop (i+1).toNat=l.drop (i+1).toNat:=by
  unfold upd
  rw[List.drop_set_of_lt (by omega)]
 rw[e3,e4] at e1
 omega
def wN (C:List Int):Prop:=C.length=258∧(∀c∈C,1≤c)∧eT C≤65504
def aBh:List Int:=List.replicate 258 1
def vN (C:List Int):List Int:=C.map fun n=>(n+1)/2
def aFj (C:List Int) (s:Int):List Int:=if 65504<eT (upd C s (rd C s+32)) then vN (upd C s (rd C s+32)) else upd C s (rd C s+32)
theorem WY {C:List Int} {s v:Int} (h: ∀c∈C,1≤c) (hv:1≤v): ∀c∈upd C s v,1≤c:=fun c hc=>by
 unfold upd at hc
 rcases List.mem_or_eq_of_mem_set hc with h1|h1
 ·exact h c h1
 ·omega
theorem SN {C:List Int} {i:Int} (h0:0≤i) (h:i<C.length):rd (vN C) i=(rd C i+1)/2:=by
 unfold vN
 rw[dW h0 (by rw[List.length_map];exact h),dW h0 h,List.getElem_map]
def NA (C:List Int):Prop:=C.length=258∧(∀c∈C,1≤c)∧eT C≤65536
theorem wN.le {C:List Int} (h:wN C):NA C:=⟨h.1,h.2.1,by have:=h.2.2;omega⟩
theorem NA.part {C:List Int} (h:NA C) {i:Int} (h0:0≤i) (hi:i<258):(0≤eT (C.take i.toNat)∧eT (C.take i.toNat)≤65536)∧(1≤rd C i∧rd C i≤65536)∧eT (C.take i.toNat)+rd C i≤65536:=by
 have:=NM (i:=i) h.2.1 h0 (by rw[h.1];omega)
 have:=h.2.2
 omega
theorem wN.up {C:List Int} (h:wN C) {s:Int} (h0:0≤s) (hs:s<258):NA (upd C s (rd C s+32))∧eT (upd C s (rd C s+32))=eT C+32:=by
 have hp:=h.le.part h0 hs
 have hu:=RI (l:=C) (i:=s) (v:=rd C s+32) h0 (by rw[h.1];omega)
 have:=h.2.2
 exact⟨⟨by rw[aQ];exact h.1,WY h.2.1 (by omega),by omega⟩,by omega⟩
structure WL (U V:List Int) (i:Int) (t:Int):Prop where
 len:V.length=258
 done: ∀j:Int,0≤j→j<i→rd V j=rd (vN U) j
 left: ∀j:Int,i≤j→j<258→rd V j=rd U j
 sum:t=eT ((vN U).take i.toNat)
theorem WL.step {U V:List Int} {i t:Int} (h:WL U V i t) (hU:U.length=258) (h0:0≤i) (hi:i<258):WL U (upd V i ((rd V i+1)/2)) (i+1) (t+rd (upd V i ((rd V i+1)/2)) i):=by
 have hl:=h.len
 have e:(rd V i+1)/2=rd (vN U) i:=by rw[h.left i (by omega) hi,SN h0 (by omega)]
 refine⟨by rw[aQ];exact hl,fun j j0 j1=> ?_,fun j j0 j1=> ?_,?_⟩
 ·rw [dR h0 j0 (by omega)]
  by_cases c:j=i
  ·rw[if_pos c,e,c]
  ·rw[if_neg c];exact h.done j j0 (by omega)
 ·rw[dR h0 (by omega) (by omega),if_neg (by omega)];exact h.left j (by omega) j1
 ·rw[NK h0 (by unfold vN;rw[List.length_map];omega),←h.sum,dL h0 (by omega),e]
def shN (R:Int):Nat:=if 16777216≤R then 0 else if 65536≤R then 1 else if 256≤R then 2 else 3
end Go.Pure

namespace Go.Pure
open Go Go.Eng
structure CdS where
 N:Int
 R:Int
 k:Nat
def cd0:CdS:=⟨0,4294967295,0⟩
def aFk (s:CdS) (low size total:Int):CdS:=⟨(s.N+s.R/total*low)*256^shN (s.R/total*size),s.R/total*size*256^shN (s.R/total*size),s.k+shN (s.R/total*size)⟩
def aGa (s:CdS):Prop:=16777216≤s.R∧s.R<4294967296∧0≤s.N∧s.N+s.R≤256^(s.k+4)
def aFw (low size total:Int):Prop:=0≤low∧1≤size∧low+size≤total∧total≤65536
structure PpS where
 c0:List Int
 c1:List Int
 c2:List Int
 cls:Int
 cd:CdS
def pp0:PpS:=⟨aBh,aBh,aBh,0,cd0⟩
def aEq (s:Int):Int:=if s<2 then 0 else if s<6 then 1 else 2
def BN (o:Int) (s:PpS):List Int:=if s.cls*o=0 then s.c0 else if s.cls*o=1 then s.c1 else s.c2
def aFi (o:Int) (s:PpS) (C:List Int) (cls:Int) (cd:CdS):PpS:=if s.cls*o=0 then⟨C,s.c1,s.c2,cls,cd⟩ else if s.cls*o=1 then⟨s.c0,C,s.c2,cls,cd⟩ else⟨s.c0,s.c1,C,cls,cd⟩
def ZU (c:CdS) (C:List Int) (x:Int):CdS:=aFk c (eT (C.take x.toNat)) (rd C x) (eT C)
def aCt (o:Int) (s:PpS) (x:Int):PpS:=aFi o s (aFj (BN o s) x) (aEq x) (ZU s.cd (BN o s) x)
def encP (o:Int) (l:List Int):PpS:=l.foldl (aCt o) pp0
def ZT (b:List Int):List Int:=QX 0 (fT bO b)++[257]
def LB (b:List Int) (o:Int):List Int:=beL ((encP o (ZT b)).cd.k+4) (encP o (ZT b)).cd.N
def PpOk (s:PpS):Prop:=(wN s.c0∧wN s.c1∧wN s.c2)∧(0≤s.cls∧s.cls≤2)∧aGa s.cd
def SymL (l:List Int):Prop:= ∀x∈l,0≤x∧x<258
end Go.Pure

namespace Go.Pure
open Go Go.Eng
def uU:Nat→Int→List Int
 |0,v=>[v]
 |f+1,v=>if v<128 then [v] else(v%128+128)::uU f (v/128)
def jD (v:Int):List Int:=uU v.toNat v
theorem tZ: ∀(f g:Nat) (v:Int),v.toNat≤f→v.toNat≤g→uU f v=uU g v
 |0,0,v,_,_=>rfl
 |0,g+1,v,h,_=>by rw[uU,uU,if_pos (by omega)]
 |f+1,0,v,_,h=>by rw[uU,uU,if_pos (by omega)]
 |f+1,g+1,v,h1,h2=>by
  simp only[uU]
  by_cases z:v<128
  ·rw[if_pos z,if_pos z]
  ·rw[if_neg z,if_neg z,tZ f g _ (by omega) (by omega)]
theorem uT {v:Int} (h:v<128):jD v=[v]:=by
 rw[jD,tZ v.toNat (v.toNat+1) v (by omega) (by omega),uU,if_pos h]
theorem OE {v:Int} (h:128≤v):jD v=(v%128+128)::jD (v/128):=by
 rw[jD,tZ v.toNat (v.toNat+1) v (by omega) (by omega),uU,if_neg (by omega),jD,tZ v.toNat (v/128).toNat _ (by omega) (by omega)]
def ZY (v:Int):List Int:=[v/1%256,v/256%256,v/65536%256,v/16777216%256]
end Go.Pure

namespace Go.Eng
open Go Go.RowKit Go.Pure
section
variable {P:Program} {n:Nd} {B:Nat} {w0:World} {L:Env} {R:List Row} {ty:TypeId}
theorem ZG {f:FuncId} {asx:List Operand} {ts:Array TypeId} {vs:List Value} {Post:Value→List Row→Prop} (ha:evs L asx=some vs)
  (hx: ∀w,Hp B w0 w R→ ∃v w' R',(callFunc f vs.toArray).run P w= .ok (.value v) w'∧Hp B w0 w' R'∧Post v R'):
  Ac P n B w0 (.call {callee:= .value (.func f),args:=asx.toArray,argTypes:=ts}) ty L R Post:=by
 intro a w o K Q ho _ hs hp hk
 have e1:=hs.evs ha
 obtain⟨v,w',R',hr,hp',hv⟩:=hx w hp
 have hf:a.eval (.func f)= .func (.func f) #[] #[]:=hs.ev rfl
 unfold Oper.wp
 simp only[execOp,ho,resolve,hf,Deferred.ofValue,invoke,Sem.run_bind,Sem.run_pure,Result.andThen_ok,List.map_toArray,e1,List.append_toArray,List.nil_append,List.append_nil,hr,Oper.upon]
 exact hk v w' R' hp' hv
theorem FB (u:List Int):(Lib.bytesOf u).length=u.length:=by simp[Lib.bytesOf]
theorem BQ {w:World} {A:Option Addr} {m c:Nat} {u:List Int} (h:Rd w A m c 1 (ints .u8 u)):(Extern.Bytes.bytesOf (.slice A m c)).run P w= .ok ⟨(Lib.bytesOf u).toArray⟩ w:=by
 have hl:=h.lenI
 rcases A with _|a
 ·have h0:u=[]:=by
   cases u with
   |nil=>rfl
   |cons y l'=>obtain⟨_,g,_⟩:=h.at_ 0 (.int .u8 y) (by simp[ints]);cases g
  subst h0
  rfl
 ·have:=Lib.run_loadBytesX (P:=P) w u a .empty fun j x hj=>by
   obtain⟨b,e,hc⟩:=h.at_ j (.int .u8 x) (by simp[ints,hj])
   obtain rfl:=Option.some.inj e
   exact hc
  rw[←hl] at this
  show(Extern.Bytes.loadBytes a m .empty).run P w=_
  rw[this]
  simp
theorem Row.lies_cut {w:World} {e sz m c:Nat} {A:Option Addr} {xs:List Value} (h:Row.lies B w ⟨e,sz,A,m,c,xs,false⟩) {k:Nat} (hk:k≤m) (hA:A≠none):Row.lies B w ⟨e,sz,A,k,c,xs.take (k*sz),false⟩:=by
 have h1:=Row.lies_w h rfl
 have hle:k*sz≤m*sz:=Nat.mul_le_mul_right _ hk
 unfold Row.lies
 simp only
 obtain⟨hl,h2⟩:=h1
 simp only at hl h2
 refine⟨by rw[List.length_take];omega,?_⟩
 rcases h2 with⟨hv,_⟩|⟨g,cap,cur,hv,hb,hg,hnc,hcm,hcs,ht⟩
 ·simp only[Value.slice.injEq] at hv
  exact absurd hv.1 hA
 ·simp only[Value.slice.injEq] at hv
  obtain⟨rfl,_,rfl⟩:=hv
  refine .inr ⟨g,c,cur,rfl,hb,hg,by omega,hcm,hcs,?_⟩
  rw[←ht,List.take_take]
  congr 1
  omega
theorem Hp.cut {w:World} {e sz m c:Nat} {A:Option Addr} {xs:List Value} (h:Hp B w0 w (⟨e,sz,A,m,c,xs,false⟩::R)) {k:Nat} (hk:k≤m) (hA:A≠none):Hp B w0 w (⟨e,sz,A,k,c,xs.take (k*sz),false⟩::R):=
 ⟨h.below,h.base,fun r hr=>by
  rcases List.mem_cons.1 hr with rfl|hr
  ·exact Row.lies_cut (h.own _ (.head _)) hk hA
  ·exact h.own r (.tail _ hr),by
  obtain⟨h1,h2⟩:=List.pairwise_cons.1 h.apart
  exact List.pairwise_cons.2 ⟨fun r hr=>h1 r hr,h2⟩,h.late⟩
end
end Go.Eng

namespace Go.Eng
open Go Go.RowKit
section
variable {P:Program} {n:Nd} {B:Nat} {w0:World}
theorem WV {σ0 σ1 σ2 σ3 σ4 σ5 σ6 σ7:Type} {c:Code} {Q:dA} {L:Env} {R:List Row} (Lx:σ0→σ1→σ2→σ3→σ4→σ5→σ6→σ7→Env) (Rx:σ0→σ1→σ2→σ3→σ4→σ5→σ6→σ7→List Row) (J:σ0→σ1→σ2→σ3→σ4→σ5→σ6→σ7→Prop) (μ:σ0→σ1→σ2→σ3→σ4→σ5→σ6→σ7→Nat)
  (h0: ∃x0 x1 x2 x3 x4 x5 x6 x7,J x0 x1 x2 x3 x4 x5 x6 x7∧Sub (Lx x0 x1 x2 x3 x4 x5 x6 x7) L∧ ∀w,Hp B w0 w R→Hp B w0 w (Rx x0 x1 x2 x3 x4 x5 x6 x7))
  (round: ∀x0 x1 x2 x3 x4 x5 x6 x7,J x0 x1 x2 x3 x4 x5 x6 x7→W P n B w0 c {Q with nrm:=fun L' R'=> ∃y0 y1 y2 y3 y4 y5 y6 y7,J y0 y1 y2 y3 y4 y5 y6 y7∧μ y0 y1 y2 y3 y4 y5 y6 y7<μ x0 x1 x2 x3 x4 x5 x6 x7∧Sub (Lx y0 y1 y2 y3 y4 y5 y6 y7) L'∧ ∀w,Hp B w0 w R'→Hp B w0 w (Rx y0 y1 y2 y3 y4 y5 y6 y7)} (Lx x0 x1 x2 x3 x4 x5 x6 x7) (Rx x0 x1 x2 x3 x4 x5 x6 x7)):W P n B w0 (.loop c) Q L R:=by
 obtain⟨x0,x1,x2,x3,x4,x5,x6,x7,h1,h2,h3⟩:=h0
 refine kP (σ:=σ0 × σ1 × σ2 × σ3 × σ4 × σ5 × σ6 × σ7) (fun p=>Lx p.1 p.2.1 p.2.2.1 p.2.2.2.1 p.2.2.2.2.1 p.2.2.2.2.2.1 p.2.2.2.2.2.2.1 p.2.2.2.2.2.2.2) (fun p=>Rx p.1 p.2.1 p.2.2.1 p.2.2.2.1 p.2.2.2.2.1 p.2.2.2.2.2.1 p.2.2.2.2.2.2.1 p.2.2.2.2.2.2.2) (fun p=>J p.1 p.2.1 p.2.2.1 p.2.2.2.1 p.2.2.2.2.1 p.2.2.2.2.2.1 p.2.2.2.2.2.2.1 p.2.2.2.2.2.2.2) (fun p=>μ p.1 p.2.1 p.2.2.1 p.2.2.2.1 p.2.2.2.2.1 p.2.2.2.2.2.1 p.2.2.2.2.2.2.1 p.2.2.2.2.2.2.2) ⟨(x0,x1,x2,x3,x4,x5,x6,x7),h1,h2,h3⟩ fun p hp=>eB (round p.1 p.2.1 p.2.2.1 p.2.2.2.1 p.2.2.2.2.1 p.2.2.2.2.2.1 p.2.2.2.2.2.2.1 p.2.2.2.2.2.2.2 hp) ?_ (fun _ _ h=>h) (fun _ _ _ h=>h)
 rintro L' R' ⟨y0,y1,y2,y3,y4,y5,y6,y7,g1,g2,g3,g4⟩
 exact⟨(y0,y1,y2,y3,y4,y5,y6,y7),⟨g1,g2⟩,g3,g4⟩
theorem WU {σ0 σ1 σ2 σ3 σ4 σ5 σ6 σ7 σ8:Type} {c:Code} {Q:dA} {L:Env} {R:List Row} (Lx:σ0→σ1→σ2→σ3→σ4→σ5→σ6→σ7→σ8→Env) (Rx:σ0→σ1→σ2→σ3→σ4→σ5→σ6→σ7→σ8→List Row) (J:σ0→σ1→σ2→σ3→σ4→σ5→σ6→σ7→σ8→Prop) (μ:σ0→σ1→σ2→σ3→σ4→σ5→σ6→σ7→σ8→Nat)
  (h0: ∃x0 x1 x2 x3 x4 x5 x6 x7 x8,J x0 x1 x2 x3 x4 x5 x6 x7 x8∧Sub (Lx x0 x1 x2 x3 x4 x5 x6 x7 x8) L∧ ∀w,Hp B w0 w R→Hp B w0 w (Rx x0 x1 x2 x3 x4 x5 x6 x7 x8))
  (round: ∀x0 x1 x2 x3 x4 x5 x6 x7 x8,J x0 x1 x2 x3 x4 x5 x6 x7 x8→W P n B w0 c {Q with nrm:=fun L' R'=> ∃y0 y1 y2 y3 y4 y5 y6 y7 y8,J y0 y1 y2 y3 y4 y5 y6 y7 y8∧μ y0 y1 y2 y3 y4 y5 y6 y7 y8<μ x0 x1 x2 x3 x4 x5 x6 x7 x8∧Sub (Lx y0 y1 y2 y3 y4 y5 y6 y7 y8) L'∧ ∀w,Hp B w0 w R'→Hp B w0 w (Rx y0 y1 y2 y3 y4 y5 y6 y7 y8)} (Lx x0 x1 x2 x3 x4 x5 x6 x7 x8) (Rx x0 x1 x2 x3 x4 x5 x6 x7 x8)):W P n B w0 (.loop c) Q L R:=by
 obtain⟨x0,x1,x2,x3,x4,x5,x6,x7,x8,h1,h2,h3⟩:=h0
 refine kP (σ:=σ0 × σ1 × σ2 × σ3 × σ4 × σ5 × σ6 × σ7 × σ8) (fun p=>Lx p.1 p.2.1 p.2.2.1 p.2.2.2.1 p.2.2.2.2.1 p.2.2.2.2.2.1 p.2.2.2.2.2.2.1 p.2.2.2.2.2.2.2.1 p.2.2.2.2.2.2.2.2) (fun p=>Rx p.1 p.2.1 p.2.2.1 p.2.2.2.1 p.2.2.2.2.1 p.2.2.2.2.2.1 p.2.2.2.2.2.2.1 p.2.2.2.2.2.2.2.1 p.2.2.2.2.2.2.2.2) (fun p=>J p.1 p.2.1 p.2.2.1 p.2.2.2.1 p.2.2.2.2.1 p.2.2.2.2.2.1 p.2.2.2.2.2.2.1 p.2.2.2.2.2.2.2.1 p.2.2.2.2.2.2.2.2) (fun p=>μ p.1 p.2.1 p.2.2.1 p.2.2.2.1 p.2.2.2.2.1 p.2.2.2.2.2.1 p.2.2.2.2.2.2.1 p.2.2.2.2.2.2.2.1 p.2.2.2.2.2.2.2.2) ⟨(x0,x1,x2,x3,x4,x5,x6,x7,x8),h1,h2,h3⟩ fun p hp=>eB (round p.1 p.2.1 p.2.2.1 p.2.2.2.1 p.2.2.2.2.1 p.2.2.2.2.2.1 p.2.2.2.2.2.2.1 p.2.2.2.2.2.2.2.1 p.2.2.2.2.2.2.2.2 hp) ?_ (fun _ _ h=>h) (fun _ _ _ h=>h)
 rintro L' R' ⟨y0,y1,y2,y3,y4,y5,y6,y7,y8,g1,g2,g3,g4⟩
 exact⟨(y0,y1,y2,y3,y4,y5,y6,y7,y8),⟨g1,g2⟩,g3,g4⟩
theorem QL {σ0 σ1 σ2 σ3 σ4 σ5 σ6 σ7 σ8 σ9 σ10 σ11 σ12 σ13:Type} {c:Code} {Q:dA} {L:Env} {R:List Row} (Lx:σ0→σ1→σ2→σ3→σ4→σ5→σ6→σ7→σ8→σ9→σ10→σ11→σ12→σ13→Env) (Rx:σ0→σ1→σ2→σ3→σ4→σ5→σ6→σ7→σ8→σ9→σ10→σ11→σ12→σ13→List Row) (J:σ0→σ1→σ2→σ3→σ4→σ5→σ6→σ7→σ8→σ9→σ10→σ11→σ12→σ13→Prop) (μ:σ0→σ1→σ2→σ3→σ4→σ5→σ6→σ7→σ8→σ9→σ10→σ11→σ12→σ13→Nat)
  (h0: ∃x0 x1 x2 x3 x4 x5 x6 x7 x8 x9 x10 x11 x12 x13,J x0 x1 x2 x3 x4 x5 x6 x7 x8 x9 x10 x11 x12 x13∧Sub (Lx x0 x1 x2 x3 x4 x5 x6 x7 x8 x9 x10 x11 x12 x13) L∧ ∀w,Hp B w0 w R→Hp B w0 w (Rx x0 x1 x2 x3 x4 x5 x6 x7 x8 x9 x10 x11 x12 x13))
  (round: ∀x0 x1 x2 x3 x4 x5 x6 x7 x8 x9 x10 x11 x12 x13,J x0 x1 x2 x3 x4 x5 x6 x7 x8 x9 x10 x11 x12 x13→W P n B w0 c {Q with nrm:=fun L' R'=> ∃y0 y1 y2 y3 y4 y5 y6 y7 y8 y9 y10 y11 y12 y13,J y0 y1 y2 y3 y4 y5 y6 y7 y8 y9 y10 y11 y12 y13∧μ y0 y1 y2 y3 y4 y5 y6 y7 y8 y9 y10 y11 y12 y13<μ x0 x1 x2 x3 x4 x5 x6 x7 x8 x9 x10 x11 x12 x13∧Sub (Lx y0 y1 y2 y3 y4 y5 y6 y7 y8 y9 y10 y11 y12 y13) L'∧ ∀w,Hp B w0 w R'→Hp B w0 w (Rx y0 y1 y2 y3 y4 y5 y6 y7 y8 y9 y10 y11 y12 y13)} (Lx x0 x1 x2 x3 x4 x5 x6 x7 x8 x9 x10 x11 x12 x13) (Rx x0 x1 x2 x3 x4 x5 x6 x7 x8 x9 x10 x11 x12 x13)):W P n B w0 (.loop c) Q L R:=by
 obtain⟨x0,x1,x2,x3,x4,x5,x6,x7,x8,x9,x10,x11,x12,x13,h1,h2,h3⟩:=h0
 refine kP (σ:=σ0 × σ1 × σ2 × σ3 × σ4 × σ5 × σ6 × σ7 × σ8 × σ9 × σ10 × σ11 × σ12 × σ13) (fun p=>Lx p.1 p.2.1 p.2.2.1 p.2.2.2.1 p.2.2.2.2.1 p.2.2.2.2.2.1 p.2.2.2.2.2.2.1 p.2.2.2.2.2.2.2.1 p.2.2.2.2.2.2.2.2.1 p.2.2.2.2.2.2.2.2.2.1 p.2.2.2.2.2.2.2.2.2.2.1 p.2.2.2.2.2.2.2.2.2.2.2.1 p.2.2.2.2.2.2.2.2.2.2.2.2.1 p.2.2.2.2.2.2.2.2.2.2.2.2.2) (fun p=>Rx p.1 p.2.1 p.2.2.1 p.2.2.2.1 p.2.2.2.2.1 p.2.2.2.2.2.1 p.2.2.2.2.2.2.1 p.2.2.2.2.2.2.2.1 p.2.2.2.2.2.2.2.2.1 p.2.2.2.2.2.2.2.2.2.1 p.2.2.2.2.2.2.2.2.2.2.1 p.2.2.2.2.2.2.2.2.2.2.2.1 p.2.2.2.2.2.2.2.2.2.2.2.2.1 p.2.2.2.2.2.2.2.2.2.2.2.2.2) (fun p=>J p.1 p.2.1 p.2.2.1 p.2.2.2.1 p.2.2.2.2.1 p.2.2.2.2.2.1 p.2.2.2.2.2.2.1 p.2.2.2.2.2.2.2.1 p.2.2.2.2.2.2.2.2.1 p.2.2.2.2.2.2.2.2.2.1 p.2.2.2.2.2.2.2.2.2.2.1 p.2.2.2.2.2.2.2.2.2.2.2.1 p.2.2.2.2.2.2.2.2.2.2.2.2.1 p.2.2.2.2.2.2.2.2.2.2.2.2.2) (fun p=>μ p.1 p.2.1 p.2.2.1 p.2.2.2.1 p.2.2.2.2.1 p.2.2.2.2.2.1 p.2.2.2.2.2.2.1 p.2.2.2.2.2.2.2.1 p.2.2.2.2.2.2.2.2.1 p.2.2.2.2.2.2.2.2.2.1 p.2.2.2.2.2.2.2.2.2.2.1 p.2.2.2.2.2.2.2.2.2.2.2.1 p.2.2.2.2.2.2.2.2.2.2.2.2.1 p.2.2.2.2.2.2.2.2.2.2.2.2.2) ⟨(x0,x1,x2,x3,x4,x5,x6,x7,x8,x9,x10,x11,x12,x13),h1,h2,h3⟩ fun p hp=>eB (round p.1 p.2.1 p.2.2.1 p.2.2.2.1 p.2.2.2.2.1 p.2.2.2.2.2.1 p.2.2.2.2.2.2.1 p.2.2.2.2.2.2.2.1 p.2.2.2.2.2.2.2.2.1 p.2.2.2.2.2.2.2.2.2.1 p.2.2.2.2.2.2.2.2.2.2.1 p.2.2.2.2.2.2.2.2.2.2.2.1 p.2.2.2.2.2.2.2.2.2.2.2.2.1 p.2.2.2.2.2.2.2.2.2.2.2.2.2 hp) ?_ (fun _ _ h=>h) (fun _ _ _ h=>h)
 rintro L' R' ⟨y0,y1,y2,y3,y4,y5,y6,y7,y8,y9,y10,y11,y12,y13,g1,g2,g3,g4⟩
 exact⟨(y0,y1,y2,y3,y4,y5,y6,y7,y8,y9,y10,y11,y12,y13),⟨g1,g2⟩,g3,g4⟩
end
end Go.Eng

namespace Go.Eng
open Go Go.RowKit
section
variable {P:Program} {n:Nd} {B:Nat} {w0:World} {L:Env} {R:List Row} {ty:TypeId}
end
end Go.Eng

namespace Go.Eng
open Go Go.RowKit Go.Proofs
theorem SlW.elim {C:Prop} {k:IntKind} {w:World} {vals:List Value} {ls:List (List Int)} (h:SlW k w vals ls) {i:Int} (h0:0≤i) (h1:i<ls.length) (q: ∀(A:Option Addr) (c:Nat),vals[i.toNat]? =some (Value.slice A (rdl ls i).length c)→Rd w A (rdl ls i).length c 1 (ints k (rdl ls i))→(∀x∈rdl ls i,(Lit.int k x).wf=true)→(rdl ls i).length≤140737488355327→C):C:=by
 obtain⟨A,c,a,b,d,e⟩:=h.at h0 h1
 exact q A c a b d e
section
variable {P:Program} {n:Nd} {B:Nat} {w0:World} {L:Env} {R:List Row} {ty:TypeId}
theorem KU {l:List (Int × Int)} {i:Int} (h0:0≤i) (h:i<l.length):(prs l)[i.toNat*2+0]? =some (.int .i64 (rdp l i).1):=by
 rw[zG _ _ (by omega)]
 rw[if_pos (by omega),show(i.toNat*2+0)/2=i.toNat by omega]
 rfl
theorem yP {x:Operand} {t:TypeId} {d:TypeDesc} {A:Option Addr} {m c:Nat} {l:List (Int × Int)} {i:Int} (hu:P.underlying t=some d) (hd:AL d=false) (hx:ev L x=some (.pointer (pat A (i.toNat*2+0)))) (hr:RdC B w0 R A m c 2 (prs l)) (h0:0≤i) (h1:i<l.length):
  Yl P n B w0 (.load t x) ty L R (.int .i64 (rdp l i).1):=FT hu hd hx rfl hr (KU h0 h1)
end
section
variable {P:Program} {n:Nd} {B:Nat} {w0:World} {ops:Array Oper} {K:Env→List Row→Prop} {L:Env} {R:List Row} {op:Op} {ty:TypeId} {pos:String} {aft:Array Edge}
def Turn1 (P:Program) (n:Nd) (B:Nat) (w0:World) (ops:Array Oper) (K:Env→List Row→Prop) (fuel:Nat) (listed:Array Bool) (L:Env) (R:List Row) (i:Nat):Prop:=
 ∀a w (Q:Exit→Act→World→Prop),Sat n L a→Hp B w0 w R→(∀c a w,¬Q (.panic c) a w)→(∀a' w' L' R',Sat n L' a'→Hp B w0 w' R'→K L' R'→Q .normal a' w')→
  wpOp P ops Q i (fun a' w'=> ∃S':World→Prop,S' w'∧(FH ops listed i=true∨ ∀x,S' x→Hp B w0 x R)∧mG P ops Q fuel S' (listed.setIfInBounds i true) a' w') a w
end
end Go.Eng

namespace Go.Eng
open Go Go.RowKit
theorem Rd.cutI {w:World} {A:Option Addr} {m c l h:Nat} {k:IntKind} {xs:List Int} (hr:Rd w A m c 1 (ints k xs)) (h1:l≤h) (h2:h≤m):Rd w (mD A l c 1) (h-l) (c-l) 1 (ints k ((xs.drop l).take (h-l))):=
 RdC.cutI (hr.c []) h1 h2 w (Hp.refl _)
theorem Rd.toI {w:World} {A:Option Addr} {m c h:Nat} {k:IntKind} {xs:List Int} (hr:Rd w A m c 1 (ints k xs)) (h2:h≤m):Rd w A h c 1 (ints k (xs.take h)):=
 RdC.toI (hr.c []) h2 w (Hp.refl _)
theorem WQ {x:Int} (h:0≤x∧x<256):(Lit.int .u8 x).wf=true:=by
 have h1:IntKind.u8.min≤x:=h.1
 have h2:x≤IntKind.u8.max:=by
  have:IntKind.u8.max=255:=by decide
  omega
 simp[Lit.wf,h1,h2]
theorem SlW.snoc {k:IntKind} {w:World} {vals:List Value} {ls:List (List Int)} {A:Option Addr} {m c:Nat} {l:List Int} (h:SlW k w vals ls) (hr:Rd w A m c 1 (ints k l)) (hwf: ∀x∈l,(Lit.int k x).wf=true) (hm:l.length≤140737488355327):SlW k w (vals++[.slice A m c]) (ls++[l]):=by
 obtain rfl:=hr.lenI
 refine⟨by rw[List.length_append,List.length_append,h.1];rfl,fun j hj=> ?_⟩
 rcases Nat.lt_or_ge j ls.length with a|a
 ·obtain ⟨A',c',h1,h2,h3,h4⟩:=h.2 j a
  have e:(ls++[l]).getD j []=ls.getD j []:=by
   rw[List.getD_eq_getElem?_getD,List.getD_eq_getElem?_getD,List.getElem?_append_left a]
  rw[e]
  exact⟨A',c',by rw[List.getElem?_append_left (by rw[h.1];exact a)];exact h1,h2,h3,h4⟩
 ·have hj':j=ls.length:=by rw[List.length_append] at hj;simp at hj;omega
  have e:(ls++[l]).getD j []=l:=by
   rw[List.getD_eq_getElem?_getD,hj',List.getElem?_append_right (Nat.le_refl _)]
   simp
  rw[e]
  refine⟨A,c,?_,hr,hwf,hm⟩
  rw[hj',←h.1,List.getElem?_append_right (Nat.le_refl _)]
  simp
end Go.Eng

namespace Go.Eng
open Go Go.RowKit
section
variable {P:Program} {n:Nd} {B:Nat} {w0:World} {L:Env} {R:List Row} {ty:TypeId}
end
end Go.Eng

namespace Go.Eng
open Go Go.RowKit
section
variable {P:Program} {n:Nd} {B:Nat} {w0:World} {L:Env} {R:List Row} {ty:TypeId}
def WRd (P:Program) (n:Nd) (B:Nat) (w0:World) (c:Code) (Q:dA):Nat→Env→List Row→Prop
 |0,_,_=>False
 |m+1,L,R=>W P n B w0 c {Q with nrm:=WRd P n B w0 c Q m} L R
end
end Go.Eng

namespace Go.Eng
open Go Go.RowKit Go.Pure
section
variable {P:Program} {n:Nd} {B:Nat} {w0:World} {L:Env} {R:List Row} {ty:TypeId}
theorem MO {x y:Int} (hx:0≤x∧x<256) (hy:0≤y∧y<256):(x.toNat.toUInt8==y.toNat.toUInt8)=decide (x=y):=by
 have e: ∀z:Int,0≤z∧z<256→((z.toNat.toUInt8).toNat:Int)=z:=fun z hz=>by
  rw[Nat.toUInt8,UInt8.toNat_ofNat_of_lt' (by simp[UInt8.size];omega)]
  omega
 by_cases h:x=y
 ·subst h
  simp
 ·rw [decide_eq_false h]
  refine beq_eq_false_iff_ne.2 fun g=>h ?_
  have:=e x hx
  have:=e y hy
  rw[g] at*
  omega
theorem PC {u:List Int} {c:Int} (hu:aP u) (hc:0≤c∧c<256) (hm:c∈u):
  (List.range (⟨(Lib.bytesOf u).toArray⟩:ByteArray).size).find? (fun i=>(⟨(Lib.bytesOf u).toArray⟩:ByteArray)[i]! ==c.toNat.toUInt8)=some (idx u c).toNat:=by
 have hi:=lS hm
 have hsz:(⟨(Lib.bytesOf u).toArray⟩:ByteArray).size=u.length:=by
  show(Lib.bytesOf u).toArray.size=_
  rw[List.size_toArray,FB]
 have hat: ∀(i:Nat) (h:i<u.length),(⟨(Lib.bytesOf u).toArray⟩:ByteArray)[i]! =(u[i]).toNat.toUInt8:=fun i h=>by
  rw[getElem!_pos _ i (by rw[hsz];exact h)]
  show(Lib.bytesOf u).toArray[i]'_=_
  simp[Lib.bytesOf]
 refine List.find?_range_eq_some.2 ⟨?_,?_,?_⟩
 ·rw [hat _ (by omega),MO (hu _ (List.getElem_mem _)) hc]
  have:=IC hm
  rw[dW hi.1 hi.2] at this
  rw[decide_eq_true this]
 ·rw[List.mem_range,hsz];omega
 ·intro j hj
  rw[hat _ (by omega),MO (hu _ (List.getElem_mem _)) hc]
  have:u[j]≠c:=fun g=>by
   unfold idx at hj hi
   have:=List.not_of_lt_findIdx (xs:=u) (p:=fun x=>x==c) (i:=j) (by omega)
   simp[g] at this
  rw[decide_eq_false this]
  rfl
theorem FN {f:FuncId} {fn:Func} {x y:Operand} {ts:Array TypeId} {A:Option Addr} {m c':Nat} {u:List Int} {c:Int} (hf:P.funcs[f]? =some fn) (hname:(fn.name== "runtime.NumGoroutine")=false) (hb:fn.body.isNone=true) (hn:Extern.findNext fn=none) (he:Extern.find fn=some Extern.BytealgIndexByte.indexByte)
  (hx:ev L x=some (.slice A m c')) (hy:ev L y=some (.int .u8 c)) (h:RdC B w0 R A m c' 1 (ints .u8 u)) (hu:aP u) (hc:0≤c∧c<256) (hm:c∈u):
  Ac P n B w0 (.call {callee:= .value (.func f),args:=[x,y].toArray,argTypes:=ts}) ty L R (fun v R'=>v= .int .i64 (idx u c)∧R'=R):=
 ZG (vs:=[.slice A m c', .int .u8 c]) (by simp[evs,hx,hy]) fun w hw=>⟨_,w,R,by
  rw[run_callFunc_extern hf hname hb hn he]
  rw[show [Value.slice A m c',Value.int .u8 c].toArray= #[.slice A m c', .int .u8 c] from rfl]
  change (Sem.run P (do
   let b←Extern.Bytes.bytesOf (.slice A m c')
   let c←Extern.Bytes.asByte (.int .u8 c)
   match (List.range b.size).find? fun i=>b[i]! ==c with
   |some i=>pure (goInt i)
   |none=>pure (goInt (-1))) w).andThen _=_
  simp only[Sem.run_bind,BQ (h w hw),Result.andThen_ok,Extern.Bytes.asByte,Sem.run_pure,PC hu hc hm]
  rfl,hw,by
  show Value.int .i64 (((idx u c).toNat:Nat):Int)=_
  have:=lS hm
  rw[show(((idx u c).toNat:Nat):Int)=idx u c by omega],rfl⟩
theorem uE {x:Int} (h0:0≤x) (h:x<256):IntKind.u8.wrap x=x:=by
 rw[IntKind.wrap_u8];omega
end
end Go.Eng

namespace Go.Eng
open Go Go.RowKit Go.Pure
section
variable {P:Program} {n:Nd} {B:Nat} {w0:World} {L:Env} {R:List Row} {ty:TypeId}
end
end Go.Eng

namespace Go.Eng
open Go Go.RowKit
section
variable {P:Program} {n:Nd} {B:Nat} {w0:World} {L:Env} {R:List Row} {ty:TypeId}
theorem VP {g lo c:Nat} (h:lo<c):mD (some ⟨g,0,none⟩) lo c 1=some ⟨g,lo,none⟩:=by
 unfold mD
 rw[if_neg (by omega),Nat.mul_one,Option.map_some]
 unfold Addr.add
 split<;>simp_all
theorem AQ {x y:Operand} {t t2 e:TypeId} {p:Option Addr} {lo dl dc m c m2 c2:Nat} {A A2:Option Addr} {k:IntKind} {l src:List Int} (i:Nat) (hi:R[i]? =some ⟨e,1,A,m,c,ints k l,false⟩) (ht:P.underlying t=some (.slice e)) (hst:(P.info? e).map (·.size)=some 1)
  (hx:ev L x=some (.slice p dl dc)) (hy:ev L y=some (.slice A2 m2 c2)) (hp:p=mD A lo c 1) (hdl:dl=m-lo) (hlo:lo<m) (hrd:RdC B w0 R A2 m2 c2 1 (ints k src)):
  Ac P n B w0 (.call {callee:= .builtin .copy,args:= #[x,y],argTypes:= #[t,t2]}) ty L R (fun v R'=>v= .int .i64 ((min m2 (m-lo):Nat):Int)∧R'=R.set i ⟨e,1,A,m,c,ints k (l.take lo++src.take (min m2 (m-lo))++l.drop (lo+min m2 (m-lo))),false⟩):=by
 intro a w o K Q ho hty hs hw hk
 have hown:=Row.lies_w (hw.own _ (List.mem_of_getElem? hi)) rfl
 have hr2:=hrd w hw
 have hm2:m2=src.length:=hr2.lenI
 have hl:m=l.length:=by have:=hown.1;rw[bP] at this;simp only at this;omega
 rcases hown.2 with⟨_,hn⟩|⟨g,cap,cur,hv,hb,hg,hnc,hcm,hcs,htk⟩
 ·simp only at hn;omega
 simp only[Value.slice.injEq,true_and] at hv
 obtain⟨rfl,rfl⟩:=hv
 simp only at htk hcs hnc hg hb
 rw[Nat.mul_one] at htk hcs
 have hp':p=some ⟨g,lo,none⟩:=by rw[hp];exact VP (by omega)
 subst hp'
 subst hdl
 obtain⟨q,hq⟩: ∃q,min m2 (m-lo)=q:=⟨_,rfl⟩
 rw[hq] at hk
 have hq':Nat.min m2 (m-lo)=q:=hq
 have hcl:(ints k (src.take q)).length=q:=by rw[bP,List.length_take];omega
 have hlen:(ints k l).length=m:=by rw[bP];omega
 rcases Nat.eq_zero_or_pos m2 with hz|hpos
 ·have hq0:q=0:=by omega
  have hrun:=run_copy_none (P:=P) w t t2 o.type e (some ⟨g,lo,none⟩) A2 (m-lo) dc m2 c2 ht hst (by rw[hz];exact Nat.zero_min _)
  unfold Oper.wp execOp
  simp only[ho,resolve,invoke,builtin,Sem.run_bind,Sem.run_pure,Result.andThen_ok,List.map_toArray,List.map_cons,List.map_nil,hs.ev hx,hs.ev hy,hrun,Oper.upon]
  refine hk (.int .i64 ((0:Nat):Int)) w R hw ⟨by rw[hq0],?_⟩
  rw[hq0]
  simp only[List.take_zero,List.append_nil,Nat.add_zero,List.take_append_drop]
  exact(by
   apply List.ext_getElem?
   intro j
   rw[List.getElem?_set]
   split
   ·rename_i e;subst e;rw[if_pos (List.getElem?_eq_some_iff.1 hi).1,hi]
   ·rfl)
 ·obtain ⟨a2,rfl⟩: ∃a2,A2=some a2:=by
   obtain⟨a2,h,_⟩:=hr2.at_ 0 _ (List.getElem?_eq_getElem (by rw[bP];omega))
   exact⟨a2,h⟩
  have hrun:=run_copy_row P w t t2 o.type e g lo (m-lo) dc a2 m2 c2 cur e (ints k (src.take q)) ht hst hg (by rw[hcl];exact hq.symm) (fun j v hv=>by
   obtain⟨b,h1,h2⟩:=hr2.at_ j v (by
    rw[ints,List.map_take] at hv
    rw[List.getElem?_take] at hv
    split at hv
    ·exact hv
    ·cases hv)
   obtain rfl:=Option.some.inj h1
   exact h2) (by rw[hcl,hcs];omega) (vM k _)
  rw[hcl] at hrun
  unfold Oper.wp execOp
  simp only[ho,resolve,invoke,builtin,Sem.run_bind,Sem.run_pure,Result.andThen_ok,List.map_toArray,List.map_cons,List.map_nil,hs.ev hx,hs.ev hy,hrun,Oper.upon]
  refine hk (.int .i64 (q:Int)) _ _ ?_ ⟨rfl,rfl⟩
  refine hw.upd hi (row:=some g) ⟨rfl,rfl,rfl,by simp,fun j _ hj=>setRow_other w g j _ (fun e=>hj (by simp[e]))⟩ (Nat.le_refl _) (fun j hj=>by cases hj;exact⟨_,rfl,rfl⟩) ?_ (fun a' ha'=> .inl ⟨a',ha',rfl⟩)
  unfold Row.lies
  simp only
  refine⟨?_, .inr ⟨g,c,_,rfl,hb,setRow_heap w g cur _ e _ hg,hnc,hcm,?_,?_⟩⟩
  ·simp only[bP,List.length_append,List.length_take,List.length_drop];omega
  ·simp only[List.size_toArray,List.length_append,List.length_take,List.length_drop,Array.length_toList,bP];omega
  ·simp only[Nat.mul_one]
   rw[mW,mW]
   have e1:ints k (l.take lo)=cur.toList.take lo:=by
    rw[ints,List.map_take]
    show(ints k l).take lo=_
    rw[←htk,List.take_take,Nat.min_eq_left (by omega)]
   have e2:ints k (l.drop (lo+q))=(cur.toList.drop (lo+q)).take (m-(lo+q)):=by
    rw[ints,List.map_drop]
    show(ints k l).drop (lo+q)=_
    rw[←htk,List.drop_take]
   rw[e1,e2]
   have h1:(cur.toList.take lo++ints k (src.take q)).length=lo+q:=by
    rw[List.length_append,hcl,List.length_take,Array.length_toList];omega
   rw[List.take_append,h1,List.take_of_length_le (by omega)]
theorem VO {A:Option Addr} {c:Nat}:A=mD A 0 c 1:=by
 unfold mD
 split
 ·rfl
 ·cases A with
  |none=>rfl
  |some a=>simp[Addr.add]
def pO (v:Int) (p N:Nat):List Int:=List.replicate p v++List.replicate (N-p) 0
theorem OB (v:Int) (N:Nat):pO v 0 N=List.replicate N 0:=by simp[pO]
theorem SB (v:Int) (N:Nat):pO v N N=List.replicate N v:=by simp[pO]
theorem xQ {v:Int} {p N:Nat}:(pO v p N).take p=List.replicate p v:=by simp[pO]
theorem xR {v:Int} {p q N:Nat} {src:List Int} (h:p+q≤N) (hs:src=List.replicate q v):(pO v p N).take p++src++(pO v p N).drop (p+q)=pO v (p+q) N:=by
 subst hs
 rw[xQ]
 unfold pO
 rw[List.drop_append]
 simp only[List.length_replicate,List.drop_replicate,show p-(p+q)=0 by omega,List.replicate_zero,List.nil_append,List.replicate_append_replicate]
 congr 2
 omega
end
end Go.Eng

namespace Go.Proofs.YtdbebmmhdefgdaaGreat
open Go Go.Eng Go.Pure
set_option linter.unusedVariables false
set_option maxRecDepth 100000
end Go.Proofs.YtdbebmmhdefgdaaGreat

namespace Go.Pure
open Go Go.Eng
def wO:List Int→Int
 |[]=>0
 |d::l=>d%128+128*wO l
def WM:List Int→Prop
 |[]=>False
 |d::l=>(l=[]∧0≤d∧d<128)∨(128≤d∧d<256∧WM l∧0<wO l)
theorem yT: ∀(k:Nat) (v:Int),v.toNat≤k→0≤v→wO (jD v)=v∧WM (jD v)
 |0,v,h,h0=>by
  rw[uT (by omega)]
  exact⟨by rw[wO,wO];omega, .inl ⟨rfl,by omega,by omega⟩⟩
 | k+1,v,h,h0=>by
  by_cases z:v<128
  ·rw [uT z]
   exact⟨by rw[wO,wO];omega, .inl ⟨rfl,by omega,by omega⟩⟩
  ·rw [OE (by omega)]
   obtain⟨h1,h2⟩:=yT k (v/128) (by omega) (by omega)
   exact⟨by rw[wO,h1];omega, .inr ⟨by omega,by omega,h2,by rw[h1];omega⟩⟩
theorem AY {v:Int} (h:0≤v):wO (jD v)=v:=(yT _ v (Nat.le_refl _) h).1
theorem KT {v:Int} (h:0≤v):WM (jD v):=(yT _ v (Nat.le_refl _) h).2
theorem MF: ∀l m s t:List Int,WM l→WM m→l++s=m++t→l=m
 |[],_,_,_,h,_,_=>h.elim
 |_::_,[],_,_,_,h,_=>h.elim
 |d::l,e::m,s,t,h,g,q=>by
  rw[List.cons_append,List.cons_append] at q
  obtain⟨rfl,q2⟩:=List.cons.inj q
  rcases h with⟨rfl,h0,h1⟩|⟨h0,h1,h2,h3⟩<;>rcases g with⟨rfl,g0,g1⟩|⟨g0,g1,g2,g3⟩
  ·rfl
  ·omega
  ·omega
  ·rw[MF l m s t h2 g2 q2]
def JW (b:List Int) (v:Int) (k:Nat):Prop:=(0≤v∧v<18446744073709551616)∧k=(jD v).length∧ ∃t,b=jD v++t
theorem JW.one {b:List Int} {v w:Int} {k m:Nat} (h:JW b v k) (g:JW b w m):v=w∧k=m:=by
 obtain⟨h1,rfl,s,hs⟩:=h
 obtain⟨g1,rfl,t,ht⟩:=g
 have e:=MF _ _ s t (KT h1.1) (KT g1.1) (hs.symm.trans ht)
 have e2:=congrArg wO e
 rw[AY h1.1,AY g1.1] at e2
 subst e2
 exact⟨rfl,rfl⟩
theorem JW.drop {b:List Int} {v:Int} {k:Nat} (h:JW b v k):b=jD v++b.drop k:=by
 obtain⟨_,rfl,t,rfl⟩:=h
 rw[List.drop_left]
theorem JW.of {v:Int} (h:0≤v∧v<18446744073709551616) (t:List Int):JW (jD v++t) v (jD v).length:=⟨h,rfl,t,rfl⟩
def endI (b:List Int):Int:=if b.findIdx (fun x=>decide (x<128))<b.length then(b.findIdx (fun x=>decide (x<128)):Nat) else -1
end Go.Pure

namespace Go.Pure
open Go Go.Eng
end Go.Pure

namespace Go.Eng
open Go Go.RowKit Go.Pure
section
variable {P:Program} {n:Nd} {B:Nat} {w0:World} {L:Env} {R:List Row} {ty:TypeId}
end
end Go.Eng

namespace Go.Proofs
open Go.Shelf
def Tryz.lays126_ren:Go.Shelf.Ren:=⟨fun|126=>271|n=>n,fun|5=>5|3=>3|9=>9|n=>n,fun|n=>n⟩
end Go.Proofs

namespace Go.Proofs.YtdbebmmhdefgdaaGreat
open Go Go.Eng Go.Pure
set_option linter.unusedVariables false
set_option maxRecDepth 100000
end Go.Proofs.YtdbebmmhdefgdaaGreat

namespace Go.Pure
open Go Go.Eng
section
variable {s:List Int}
def rot (s:List Int) (r d:Nat):Int:=om s (r+d)
def QV (s:List Int) (r:Int):List Int:=s.drop r.toNat++s.take r.toNat
theorem KN (r:Nat):Per (rot s r) s.length:=fun d=>by
 unfold rot
 rw[←Nat.add_assoc]
 exact mQ s _
theorem XH (r:Nat):rot s (r%s.length)=rot s r:=by
 funext d
 unfold rot om
 rw[Nat.mod_add_mod]
theorem RU {r q:Nat} (hn:0<s.length) (h: ∀d,d<s.length→rot s r d=rot s q d):rot s r=rot s q:=by
 funext d
 rw[←(KN r).mod d,←(KN q).mod d]
 exact h _ (Nat.mod_lt _ hn)
structure FL (s:List Int) (b:Nat):Prop where
 lt:b<s.length
 le: ∀r,r<s.length→ ¬Lt (rot s r) (rot s b)
 first: ∀r,r<b→Lt (rot s b) (rot s r)
theorem FL.any {b:Nat} (h:FL s b) (r:Nat): ¬Lt (rot s r) (rot s b):=by
 rw[←XH r]
 exact h.le _ (Nat.mod_lt _ (by have:=h.lt;omega))
theorem FL.one {b c:Nat} (h:FL s b) (g:FL s c):b=c:=by
 rcases Nat.lt_trichotomy b c with a|a|a
 ·exact absurd (g.first b a) (h.any c)
 ·exact a
 ·exact absurd (h.first c a) (g.any b)
def UA (s:List Int):Nat→Nat
 |0=>0
 |r+1=>if cmpL (QV s r) (QV s (UA s r))<0 then r else UA s r
def aFm (s:List Int):Int:=UA s s.length
structure LA (s:List Int) (b:Nat) (i j k:Int):Prop where
 i0:0≤i
 j0:0≤j
 k0:0≤k
 ne:i≠j
 agr: ∀e:Nat,(e:Int)<k→rot s i.toNat e=rot s j.toNat e
 hb:(b:Int)=i∨(b:Int)=j∨(i<b∧j<b)
variable {b:Nat} {i j k:Int}
theorem LA.swap (h:LA s b i j k):LA s b j i k:=⟨h.j0,h.i0,h.k0,h.ne.symm,fun e he=>(h.agr e he).symm,by have:=h.hb;omega⟩
theorem LA.eq (h:LA s b i j k) (he:rot s i.toNat k.toNat=rot s j.toNat k.toNat):LA s b i j (k+1):=
 ⟨h.i0,h.j0,by have:=h.k0;omega,h.ne,fun e he'=>by
  rcases Int.lt_or_le e k with g|g
  ·exact h.agr e g
  ·have:=h.k0
   obtain rfl:e=k.toNat:=by omega
   exact he,h.hb⟩
theorem LA.out (h:LA s b i j k) (fl:FL s b) (hgt:rot s j.toNat k.toNat<rot s i.toNat k.toNat): ¬(i≤b∧(b:Int)≤i+k):=fun hc=>by
 have i0:=h.i0
 have k0:=h.k0
 obtain⟨t,ht⟩: ∃t:Nat,b=i.toNat+t:=⟨b-i.toNat,by omega⟩
 refine fl.any (j.toNat+t) ⟨k.toNat-t,fun e he=> ?_,?_⟩
 ·have:=h.agr (t+e) (by omega)
  unfold rot at this ⊢
  rw[ht,Nat.add_assoc,Nat.add_assoc]
  exact this.symm
 ·unfold rot at hgt ⊢
  rw[ht,Nat.add_assoc,Nat.add_assoc,show t+(k.toNat-t)=k.toNat by omega]
  exact hgt
theorem LA.gt (h:LA s b i j k) (fl:FL s b) (hgt:rot s j.toNat k.toNat<rot s i.toNat k.toNat):(i+(k+1)≠j→LA s b (i+(k+1)) j 0)∧(i+(k+1)=j→LA s b (i+(k+1)) (j+1) 0):=by
 have ho:=h.out fl hgt
 have hb:=h.hb
 have i0:=h.i0
 have j0:=h.j0
 have k0:=h.k0
 exact⟨fun hne=>⟨by omega,j0,by omega,hne,fun e he=>by omega,by omega⟩,fun he=>⟨by omega,by omega,by omega,by omega,fun e he=>by omega,by omega⟩⟩
theorem LA.lt (h:LA s b i j k) (fl:FL s b) (hlt:rot s i.toNat k.toNat<rot s j.toNat k.toNat):(i≠j+(k+1)→LA s b i (j+(k+1)) 0)∧(i=j+(k+1)→LA s b i (j+(k+1)+1) 0):=by
 have ho:=h.swap.out fl hlt
 have hb:=h.hb
 have i0:=h.i0
 have j0:=h.j0
 have k0:=h.k0
 exact⟨fun hne=>⟨i0,by omega,by omega,hne,fun e he=>by omega,by omega⟩,fun he=>⟨by omega,by omega,by omega,by omega,fun e he=>by omega,by omega⟩⟩
theorem LA.same (h:LA s b i j k) (fl:FL s b) (hn:(s.length:Int)≤k):min i j=b:=by
 have i0:=h.i0
 have j0:=h.j0
 have hlt:=fl.lt
 have he:rot s i.toNat=rot s j.toNat:=RU (by omega) fun d hd=>h.agr d (by omega)
 have hne:=h.ne
 have no: ∀x:Nat,x<b→rot s x≠rot s b:=fun x hx e=>(fl.first x hx).not_eq fun d=>by rw[e]
 rcases h.hb with e|e|⟨e1,e2⟩
 ·rcases Int.lt_or_le j i with g|g
  ·exact absurd (by rw[show b=i.toNat by omega];exact he.symm) (no j.toNat (by omega))
  ·omega
 ·rcases Int.lt_or_le i j with g|g
  ·exact absurd (by rw[show b=j.toNat by omega];exact he) (no i.toNat (by omega))
  ·omega
 ·exfalso
  have key: ∀lo hi:Nat,lo<hi→hi<b→rot s lo=rot s hi→False:=fun lo hi h1 h2 e=>by
   refine no (lo+(b-hi)) (by omega) ?_
   funext d
   have:=congrFun e ((b-hi)+d)
   unfold rot at this ⊢
   rw[Nat.add_assoc,this]
   congr 1
   omega
  rcases Int.lt_or_le i j with g|g
  ·exact key i.toNat j.toNat (by omega) (by omega) he
  ·exact key j.toNat i.toNat (by omega) (by omega) he.symm
theorem LA.done (h:LA s b i j k) (fl:FL s b) (hc: ¬(i<s.length∧j<s.length∧k<s.length)):min i j=b:=by
 have hb:=h.hb
 have hlt:=fl.lt
 have hne:=h.ne
 by_cases hk:(s.length:Int)≤k
 ·exact h.same fl hk
 ·omega
end
end Go.Pure

namespace Go.Proofs.YtdbebmmhdefgdaaGreat
open Go Go.Eng Go.Pure
set_option linter.unusedVariables false
set_option maxRecDepth 100000
end Go.Proofs.YtdbebmmhdefgdaaGreat

namespace Go.Eng
open Go Go.RowKit Go.Proofs Go.Sort
theorem UR {W w':World} (hb:Below W.heap.size W w') (hd:W.drawn≤w'.drawn): ∃q os,w'=grow (W.drewN q) os:=by
 refine⟨w'.drawn-W.drawn,w'.heap.extract W.heap.size w'.heap.size,?_⟩
 have hh:W.heap++w'.heap.extract W.heap.size w'.heap.size=w'.heap:=by
  apply Array.ext_getElem?
  intro k
  rw[Array.getElem?_append]
  split
  ·rename_i hk
   exact(hb.block k hk).symm
  ·rename_i hk
   have:=hb.size
   rw[Array.getElem?_extract]
   split
   ·congr 1;omega
   ·rename_i h2
    rw[Array.getElem?_eq_none (by omega)]
 obtain⟨h1,h2,h3,h4,h5⟩:=w'
 obtain⟨g1,g2,g3,g4,g5⟩:=W
 have b1:=hb.os
 have b2:=hb.tape
 have b3:=hb.output
 simp only at b1 b2 b3 hh hd
 subst b1;subst b2;subst b3
 simp only[grow,World.drewN,hh,World.mk.injEq,true_and,and_true]
 omega
section
variable {P:Program} {B:Nat} {w0:World} {R:List Row}
def MZ (P:Program) (f g:Nat) (cb:Array Value):Prop:=
 ∀(α:Type) [Inhabited α] (enc:α→List Value) (_: ∀x,(enc x).length=2) (_: ∀x,∀v∈enc x,v.oneCell'=true) (cf:α→α→Int) (_:SWO (ltOf cf)) (blk off cap:Nat) (d:Array α) (w:World)
  (_:CmpLays P g cb enc 2 cf blk off d.size w) (_:HoldsK enc 2 w blk off d) (_:blk<w.heap.size) (_:d.size<4611686018427387904),
  Calls P f #[.slice (some ⟨blk,off,none⟩) d.size cap, .func (.func g) #[] cb] w fun e w'=>e= .returned (.tuple #[])∧ ∃d' n os,PermIn 0 d.size d d'∧SortedIn (ltOf cf) 0 d.size d'∧w'=sortWorldK enc 2 w blk off n d' os
theorem Hp.but {w W:World} (h:Hp B w0 w R) {i:Nat} {r:Row} (hi:R[i]? =some r) (ho:W.os=w.os) (ht:W.tape=w.tape) (hu:W.output=w.output) (hd:w.drawn≤W.drawn) (hs:w.heap.size≤W.heap.size)
  (hk: ∀k,k<w.heap.size→(∀a,r.A=some a→a.block≠k)→W.heap[k]? =w.heap[k]?):Hp B w0 W (R.eraseIdx i):=by
 have hr:r∈R:=List.mem_of_getElem? hi
 refine⟨⟨ho.trans h.below.os,ht.trans h.below.tape,hu.trans h.below.output,Nat.le_trans h.below.size hs,fun k hkB=> ?_⟩,Nat.le_trans h.base hs,fun q hq=> ?_,h.apart.sublist (List.eraseIdx_sublist _ _),h.late.trans ⟨hd,fun k o hk' hc=> ?_⟩⟩
 ·rw[hk k (Nat.lt_of_lt_of_le hkB h.base) (fun a ha=>by have:=(Row.lies_lt (h.own r hr) a ha).1;omega),h.below.block k hkB]
 ·obtain ⟨j,hj⟩:=List.mem_iff_getElem?.1 hq
  obtain⟨j',hj',hne⟩: ∃j',R[j']? =some q∧j'≠i:=by
   rw[List.getElem?_eraseIdx] at hj
   split at hj
   ·exact⟨j,hj,by omega⟩
   ·exact⟨j+1,hj,by omega⟩
  refine Row.lies_of_block (h.own q (List.mem_of_getElem? hj')) fun a ha=>hk a.block (Row.lies_lt (h.own q (List.mem_of_getElem? hj')) a ha).2 fun a' ha'=> ?_
  have hjl:=(List.getElem?_eq_some_iff.1 hj').1
  have hjv:=(List.getElem?_eq_some_iff.1 hj').2
  have hil:=(List.getElem?_eq_some_iff.1 hi).1
  have hiv:=(List.getElem?_eq_some_iff.1 hi).2
  rcases Nat.lt_or_gt_of_ne hne with hlt|hlt
  ·have:=List.pairwise_iff_getElem.1 h.apart j' i hjl hil hlt
   rw[hjv,hiv] at this
   exact fun e=>this a a' ha ha' e.symm
  ·have:=List.pairwise_iff_getElem.1 h.apart i j' hil hjl hlt
   rw[hjv,hiv] at this
   exact this a' a ha' ha
 ·rw [hk k (Array.getElem?_eq_some_iff.1 hk').1 fun a ha e=> ?_]
  ·exact hk'
  ·subst e
   obtain⟨cs,e',fr,hc2⟩:=Row.lies_cells (h.own r hr) ha
   rw[hc2] at hk'
   cases hk'
   cases hc
theorem GQ {f g:Nat} {cb:Array Value} (hSF:MZ P f g cb) {T m c:Nat} {A:Option Addr} {l:List (Int × Int)} (i:Nat) (hi:R[i]? =some ⟨T,2,A,m,c,prs l,false⟩) (hne:l≠[]) (hsz:l.length<4611686018427387904) (cmp:Int × Int→Int × Int→Int) (hO:SWO (ltOf cmp))
  (hclo: ∀W,Hp B w0 W (R.eraseIdx i)→ ∀x∈l,∀y∈l,
   Ct P g (#[.agg #[.int .i64 x.1, .int .i64 x.2], .agg #[.int .i64 y.1, .int .i64 y.2]]++cb) W.heap.size W [] (fun v _=>v= .int .i64 (cmp x y))):
  Ct P f #[.slice A m c, .func (.func g) #[] cb] B w0 R (fun v R'=>v= .tuple #[]∧ ∃l',l'.Perm l∧l'.Pairwise (fun x y=> ¬cmp y x<0)∧R'=R.set i ⟨T,2,A,m,c,prs l',false⟩):=by
 intro w hw
 have hown:=Row.lies_w (hw.own _ (List.mem_of_getElem? hi)) rfl
 have hrd:=Row.rd (hw.own _ (List.mem_of_getElem? hi))
 have hm:m=l.length:=by
  have:=hrd.len
  rw[gJ] at this
  simp only at this
  omega
 have hpos:0<l.length:=List.length_pos_iff.2 hne
 rcases hown.2 with⟨_,hn⟩|⟨blk,cap,cur,hv,hb,hg,hnc,hcm,hcs,ht⟩
 ·simp only at hn;omega
 simp only[Value.slice.injEq,true_and] at hv
 obtain⟨rfl,rfl⟩:=hv
 simp only at ht hcs hg hnc
 haveI:Inhabited {p:Int × Int//p∈l}:=⟨⟨l[0],List.getElem_mem _⟩⟩
 let d:Array {p:Int × Int//p∈l}:=l.attach.toArray
 have hds:d.size=l.length:=by simp[d]
 have hdv:d.toList.map Subtype.val=l:=List.attach_map_subtype_val l
 have hlt:blk<w.heap.size:=(Array.getElem?_eq_some_iff.1 hg).1
 have hH:HoldsK encP 2 w blk 0 d:=by
  intro j hj
  have hj':j<l.length*2:=by
   have:j<(flatK encP 2 d).size:=hj
   rw[size_flatK,hds] at this
   exact this
  have hf:=yF d
  rw[hdv] at hf
  have e:(prs l)[j]? =some ((flatK encP 2 d)[j]!):=by
   rw[←hf,Array.getElem?_toList,Array.getElem?_eq_getElem hj,getElem!_pos _ j hj]
  refine⟨?_,?_⟩
  ·rw [Nat.zero_add]
   exact hw.cellAt i hi rfl e
  ·exact hw.openAt i (0+j) hi rfl rfl
 have hcmp:CmpLays P g cb (encP (l:=l)) 2 (fun x y=>cmp x.1 y.1) blk 0 d.size w:=by
  intro m' os dk hdk x y
  have hW:w.heap.size≤(sortWorldK (encP (l:=l)) 2 w blk 0 m' dk os).heap.size:=by
   unfold sortWorldK
   rw[size_grow]
   unfold putRowK
   rw[Go.Sort.size_putRow]
   exact Nat.le_add_right _ _
  have hk: ∀k,k<w.heap.size→(∀a:Addr,some (⟨blk,0,none⟩:Addr)=some a→a.block≠k)→(sortWorldK (encP (l:=l)) 2 w blk 0 m' dk os).heap[k]? =w.heap[k]? :=by
   intro k hk hne
   have hbk:blk≠k:=hne _ rfl
   unfold sortWorldK
   rw[heap_grow_old _ _ (by unfold putRowK;rw[Go.Sort.size_putRow];exact hk)]
   simp[putRowK,putRow,mapBlock,Array.getElem?_modify,hbk,Sort.ahead]
  refine(hclo _ (hw.but (W:=sortWorldK (encP (l:=l)) 2 w blk 0 m' dk os) hi rfl rfl rfl (by show w.drawn≤w.drawn+m';omega) hW hk) x.1 x.2 y.1 y.2 _ (Hp.refl _)).mono ?_
  rintro e w' ⟨v,R',rfl,hh,rfl⟩
  exact⟨rfl,UR hh.below hh.late.1⟩
 have hO':SWO (ltOf fun(x y: {p:Int × Int//p∈l})=>cmp x.1 y.1):=⟨fun x=>hO.irrefl x.1,fun x y z=>hO.trans x.1 y.1 z.1,fun x y z=>hO.ntrans x.1 y.1 z.1⟩
 have hcall:=hSF _ encP (fun _=>rfl) (fun x v hv=>by simp[encP] at hv;rcases hv with rfl|rfl<;>rfl) _ hO' blk 0 c d w hcmp hH hlt (by rw[hds];exact hsz)
 rw[hds,←hm] at hcall
 refine hcall.mono ?_
 rintro e w' ⟨rfl,d',n,os,⟨hs',_,hperm⟩,hsort,rfl⟩
 have hd's:d'.size=l.length:=by rw[hs',hds]
 refine⟨_,_,rfl,?_,rfl,d'.toList.map Subtype.val,?_,?_,rfl⟩
 ·have hheap:(sortWorldK encP 2 w blk 0 n d' os).heap[blk]? =some (.cells (putCells id 0 (flatK encP 2 d') cur) T (0,0)):=by
   unfold sortWorldK
   rw[heap_grow_old _ _ (by unfold putRowK;rw[Go.Sort.size_putRow];exact hlt)]
   simp[putRowK,putRow,mapBlock,Array.getElem?_modify,Sort.ahead,hg,onCells]
  refine hw.upd hi (row:=some blk) ⟨rfl,rfl,rfl,?_,fun k hk hne=> ?_⟩ ?_ (fun k hk=> ?_) ?_ (fun a' ha'=> .inl ⟨a',ha',rfl⟩)
  ·unfold sortWorldK
   rw[size_grow]
   unfold putRowK
   rw[Go.Sort.size_putRow]
   exact Nat.le_add_right _ _
  ·have hbk:blk≠k:=fun e=>hne (by rw[e])
   unfold sortWorldK
   rw[heap_grow_old _ _ (by unfold putRowK;rw[Go.Sort.size_putRow];exact hk)]
   simp[putRowK,putRow,mapBlock,Array.getElem?_modify,hbk,Sort.ahead]
  ·show w.drawn≤w.drawn+n
   omega
  ·obtain rfl:=Option.some.inj hk
   exact⟨_,rfl,rfl⟩
  ·unfold Row.lies
   simp only
   refine⟨by rw[gJ,List.length_map,Array.length_toList,hd's,hm], .inr ⟨blk,c,_,rfl,hb,hheap,hnc,hcm,?_,?_⟩⟩
   ·simp only[putCells,Array.size_mapIdx]
    exact hcs
   ·have hf:=yF d'
    rw[←hf]
    have hfs:(flatK encP 2 d').size=m*2:=by rw[size_flatK,hd's,hm]
    apply List.ext_getElem?
    intro t
    rw[List.getElem?_take]
    split
    ·rename_i htm
     have htc:t<cur.size:=by
      have:m*2≤c*2:=Nat.mul_le_mul_right _ hnc
      omega
     rw[Array.getElem?_toList,Array.getElem?_toList,Array.getElem?_eq_getElem (by simp[putCells];exact htc),Array.getElem?_eq_getElem (by rw[hfs];exact htm)]
     simp only[putCells,Array.getElem_mapIdx,id]
     rw[if_pos ⟨Nat.zero_le _,by rw[Nat.zero_add,hfs];exact htm⟩,Nat.sub_zero,getElem!_pos _ t (by rw[hfs];exact htm)]
    ·rename_i htm
     rw[List.getElem?_eq_none (by rw[Array.length_toList,hfs];omega)]
 ·have e1:(d'.extract 0 m).toList=d'.toList:=by rw[show m=d'.size by omega];simp
  have e2:(d.extract 0 m).toList=d.toList:=by rw[show m=d.size by omega];simp
  rw[e1,e2] at hperm
  have:=hperm.map Subtype.val
  rwa[hdv] at this
 ·refine List.pairwise_map.2 (List.pairwise_iff_getElem.2 fun a b ha hb' hab=> ?_)
  rw[Array.length_toList] at ha hb'
  have h1:=hsort a b (Nat.zero_le _) hab (by omega)
  rw[getElem!_pos d' a ha,getElem!_pos d' b hb'] at h1
  simp only[ltOf,decide_eq_false_iff_not] at h1
  simpa using h1
end
end Go.Eng

namespace Go.Eng
open Go Go.RowKit
section
variable {B:Nat} {w0 w w':World} {R R':List Row}
theorem Hp.allocObj (h:Hp B w0 w R) (o:Obj):Hp B w0 (w.alloc o) R:=
 h.join (Rn:=[]) ⟨(Below.refl _ _).alloc (Nat.le_refl _) _,by simp,fun _ hr=>(by cases hr), .nil,Late.alloc _ _⟩
theorem Hp.putObj (h:Hp B w0 w R) {l:Nat} {o:Obj} (ho:w.heap[l]? =some o) (hn:CU o=true) (o':Obj) (hB:B≤l) (h0:w0.heap.size≤l):Hp B w0 (w.putObj l o') R:=by
 refine⟨h.below.trans ((Below.refl _ _).grown (grownBy_putObj' w l o') h.base fun k e=>by cases e;exact hB),by rw[World.putObj_size];exact h.base,fun r hr=> ?_,h.apart,⟨h.late.1,fun k q hk hc=> ?_⟩⟩
 ·refine Row.lies_of_block (h.own r hr) fun a ha=>World.putObj_heap_other fun e=> ?_
  obtain⟨cs,e',fr,hc⟩:=Row.lies_cells (h.own r hr) ha
  rw[e,ho] at hc
  cases hc
  cases hn
 ·rw [World.putObj_heap_other (fun e=>by have:=(Array.getElem?_eq_some_iff.1 hk).1;omega)]
  exact h.late.2 k q hk hc
theorem Hp.rebase (h:Hp B w0 w R):Hp B w w R:=⟨Below.refl _ _,h.base,h.own,h.apart,Late.refl _⟩
theorem Hp.comp (h:Hp B w0 w R) (h':Hp B w w' R'):Hp B w0 w' R':=⟨h.below.trans h'.below,h'.base,h'.own,h'.apart,h.late.trans h'.late⟩
theorem Rd.cb {W:World} {A:Option Addr} {n c sz:Nat} {xs:List Value} (h:Rd w A n c sz xs) (hb:Below w.heap.size w W) (R:List Row):RdC w.heap.size W R A n c sz xs:=
 fun _ hw=>h.below (hb.trans hw.below)
end
def mark (D:Nat):Deferred:= {target:= .collected D,args:= #[]}
section
variable {P:Program} {n:Nd} {B:Nat} {w0 w00:World} {F:Exit→Act→World→Prop} {L:Env} {R:List Row}
def V (P:Program) (n:Nd) (B:Nat) (w0:World) (c:Code) (F:Exit→Act→World→Prop) (L:Env) (R:List Row):Prop:=
 ∀a w,Sat n L a→Hp B w0 w R→c.wpIn (NF n.rd) 0 P F a w
def FQ (F:Exit→Act→World→Prop) (n:Nd) (B:Nat) (w0:World):dA:=
 ⟨fun L R=> ∀a w,Sat n L a→Hp B w0 w R→F .normal a w,fun L R=> ∀a w,Sat n L a→Hp B w0 w R→F .ret a w,fun i L R=> ∀a w,Sat n L a→Hp B w0 w R→F (.exit i) a w⟩
theorem v_w {c:Code} (h:W P n B w0 c (FQ F n B w0) L R):V P n B w0 c F L R:=fun a w hs hp=>by
 refine wpIn_mono (h a w hs hp) fun e a' w' hq=> ?_
 cases e with
 |normal=>obtain⟨L',R',hs',hp',hf⟩:=hq;exact hf a' w' hs' hp'
 |ret=>obtain⟨L',R',hs',hp',hf⟩:=hq;exact hf a' w' hs' hp'
 |exit i=>obtain⟨L',R',hs',hp',hf⟩:=hq;exact hf a' w' hs' hp'
 |goto l=>exact hq.elim
 |panic ch=>exact hq.elim
 |outgrown=>exact hq.elim
theorem gI {x y:Code} (h:W P n B w0 x {FQ F n B w0 with nrm:=fun L R=>V P n B w0 y F L R} L R):V P n B w0 (.seq x y) F L R:=fun a w hs hp=>by
 refine wpIn_seq (wpIn_mono (h a w hs hp) fun e a' w' hq=> ?_)
 cases e with
 |normal=>obtain⟨L',R',hs',hp',hf⟩:=hq;exact hf a' w' hs' hp'
 |ret=>obtain⟨L',R',hs',hp',hf⟩:=hq;exact hf a' w' hs' hp'
 |exit i=>obtain⟨L',R',hs',hp',hf⟩:=hq;exact hf a' w' hs' hp'
 |goto l=>exact hq.elim
 |panic ch=>exact hq.elim
 |outgrown=>exact hq.elim
theorem QN {x y:Code} (h:V P n B w0 x (Exit.then (y.wpIn (NF n.rd) 0 P F) F) L R):V P n B w0 (.seq x y) F L R:=fun a w hs hp=>wpIn_seq (h a w hs hp)
def VN (n:Nd) (B:Nat) (w0:World) (F:Exit→Act→World→Prop) (L:Env) (R:List Row):Prop:= ∀a w,Sat n L a→Hp B w0 w R→F .normal a w
theorem aAq {y:Code} {rd:Option Nat} (h:V P n B w0 y F L R) (hrd:n.rd=rd:=by exact rfl):VN n B w0 (Exit.then (y.wpIn (NF rd) 0 P F) F) L R:=fun a w hs hp=>by subst hrd;exact h a w hs hp
theorem QR {id:Nat} (h:VN n B w0 F L R):VN n B w0 (Exit.inBlock id F) L R:=h
theorem yU {id:Nat} {c:Code} (h:V P n B w0 c (Exit.inBlock id F) L R):V P n B w0 (.block id c) F L R:=fun a w hs hp=>wpIn_block (h a w hs hp)
def prm:List Nat→List Value→Env→Env
 |p::ps,v::vs,L=>prm ps vs ((p,v)::L)
 |_,_,L=>L
theorem Sat.prm: ∀(pl:List Nat) (vs:List Value) {m:Nat} {ds:List Deferred} {rd:Option Nat} {L:Env} {t:Array Value},pl.all (fun p=>Nat.blt p m)=true→Sat ⟨m,ds,rd⟩ L {tmps:=t,defers:=ds}→
  Sat ⟨m,ds,rd⟩ (prm pl vs L) {tmps:=(pl.zip vs).foldl (fun t (p,v)=>t.setIfInBounds p v) t,defers:=ds}
 |[],_,_,_,_,_,_,_,h=>h
 |_::_,[],_,_,_,_,_,_,h=>h
 |p::pl,v::vs,m,ds,rd,L,t,hp,h=>by
  simp only[List.all_cons,Bool.and_eq_true] at hp
  have h1:Sat ⟨m,ds,rd⟩ ((p,v)::L) {tmps:=t.setIfInBounds p v,defers:=ds}:=h.put (d:=p) hp.1 v
  exact Sat.prm pl vs hp.2 h1
def Iter (P:Program) (gf:Nat) (lb:Array Value) (Rdy:World→Prop) (N:Nat) (f:Nat→List Value):Prop:=
 ∀(l:Nat) (J:Nat→World→Prop) (W:World),(∀k W,J k W→Rdy W)→(∀k W (d:Nat),J k W→W.drawn≤d→J k {W with drawn:=d})→
  (∀k W,k<N→J k W→YieldAt Fence.wide 0 P l (f k).toArray W fun e W'=>e= .returned (.bool true)∧J (k+1) W')→
  J 0 W→CallsIn Fence.wide 0 P gf (#[.func (.yield l) #[] #[]]++lb) W fun e W'=>(∃v,e= .returned v)∧J N W'
structure Gd (B:Nat) (w00:World) (n:Nd) (w0:World):Prop where
 below:Below B w00 w0
 late:Late w00 w0
 nodup:n.ds.Nodup
 marks: ∀d∈n.ds,∃D,d=mark D∧B≤D∧w00.heap.size≤D∧w0.heap[D]? =some (.deferred (some []))
theorem Gd.refl {m:Nat}:Gd B w00 (m:Nd) w00:=⟨Below.refl _ _,Late.refl _, .nil,fun _ h=>(by cases h)⟩
theorem rounds {σ:Type} {m:Nat} {pl:List Nat} {assign body:Code} {gf:Nat} {lb:Array Value} {Rdy:World→Prop} {N:Nat} {f:Nat→List Value} (it:Iter P gf lb Rdy N f)
  (hpl:pl.all (fun p=>Nat.blt p m)=true) (hfl: ∀k,(f k).length=pl.length) (Rx:Nat→σ→List Row) (J:Nat→σ→Prop) (hrdy: ∀k s w,J k s→Hp B w0 w (Rx k s)→Rdy w)
  (round: ∀l k s W2,k<N→J k s→Below B w0 W2→W P ⟨m,[],some l⟩ B W2 assign ⟨fun L' R'=> ∀W3,Below B w0 W3→W P ⟨m,[],some l⟩ B W3 body ⟨fun _ R''=> ∃s',J (k+1) s'∧ ∀W4 w,Hp B W4 w R''→Hp B W4 w (Rx (k+1) s'),fun _ _=>False,fun _ _ _=>False⟩ L' R',fun _ _=>False,fun _ _ _=>False⟩ (prm pl (f k) L) (Rx k s))
  {l:Nat} {rec:LoopState→Loop} {fn:FuncId} {t:Array Value} {Df:Nat} (hrec:rec=fun st=> {state:=st,pending:=none,fn,tmps:=t,params:=pl.toArray,assign,body,defers:=Df}) (ht:Sat ⟨m,[],some l⟩ L {tmps:=t,defers:=[]}) (hlB:B≤l) (hl0:w0.heap.size≤l) (X:World→Prop)
  (hX: ∀W W' R R',X W→Hp B w0 W R→Hp B W W' R'→X W') (hXp: ∀W o,X W→X (W.putObj l o)) {W1:World} (hL1:W1.heap[l]? =some (.loop (rec .ready))) (hX1:X W1) {s0:σ} (hJ0:J 0 s0) (hp1:Hp B w0 W1 (Rx 0 s0)):
  CallsIn Fence.wide 0 P gf (#[.func (.yield l) #[] #[]]++lb) W1 fun e W'=>(∃v,e= .returned v)∧ ∃s,J N s∧Hp B w0 W' (Rx N s)∧W'.heap[l]? =some (.loop (rec .ready))∧X W':=by
 refine it l (fun k W=> ∃s,J k s∧Hp B w0 W (Rx k s)∧W.heap[l]? =some (.loop (rec .ready))∧X W) W1 (fun k W ⟨s,hJ,hp,_⟩=>hrdy k s W hJ hp) (fun k W d ⟨s,hJ,hp,hl,hx⟩ hd=>⟨s,hJ,hp.drawn d hd,hl,hX _ _ _ _ hx hp (hp.rebase.drawn d hd)⟩) ?_ ⟨s0,hJ0,hp1,hL1,hX1⟩
 rintro k W hk ⟨s,hJ,hp,hl,hx⟩
 have hy:=run_yield (P:=P) (args:=(f k).toArray) hl (by rw[hrec];simp[hfl k])
 have hs1:Sat ⟨m,[],some l⟩ (prm pl (f k) L) {tmps:=(rec .ready).params.zip (f k).toArray|>.foldl (fun t (p,v)=>t.setIfInBounds p v) (rec .ready).tmps,defers:=[]}:=by
  rw[hrec]
  simpa using Sat.prm pl (f k) hpl ht
 refine⟨fn,_,assign,body,by rw[hy,hrec],roundIn_of_wpIn trivial ?_⟩
 refine wpIn_mono ((round l k s W hk hJ hp.below) _ _ (by rw[hrec] at hs1;exact hs1) hp.rebase) ?_
 rintro e a1 Wa hq
 cases e with
 | normal=>
  obtain⟨L',R',hs',hp',hb⟩:=hq
  have hla:=hp'.late.2 _ _ hl rfl
  have hpa:=hp.comp hp'
  have hlt:=(Array.getElem?_eq_some_iff.1 hla).1
  have hbr:=run_beginRound (P:=P) hla (by rw[hrec])
  refine⟨_,hbr,?_⟩
  have hp2:Hp B w0 (Wa.putObj l (.loop {rec .ready with state:= .busy})) R':=hpa.putObj hla rfl _ hlB hl0
  have hl2:(Wa.putObj l (.loop {rec .ready with state:= .busy})).heap[l]? =some (.loop {rec .ready with state:= .busy}):=World.putObj_heap_same hlt
  have hx2:=hXp _ (.loop {rec .ready with state:= .busy}) (hX _ _ _ _ hx hp hp')
  refine wpIn_mono (hb _ hp2.below a1 _ hs' hp2.rebase) ?_
  rintro e a3 W3 hq
  cases e with
  | normal=>
   obtain⟨L3,R3,_,hp3,s',hJ',hR'⟩:=hq
   have hl3:=hp3.late.2 _ _ hl2 rfl
   have her:=run_endRound (P:=P) none hl3
   refine⟨_,_,her,rfl,s',hJ',?_,?_,?_⟩
   ·exact(hp2.comp (hR' _ _ hp3)).putObj hl3 rfl _ hlB hl0
   ·rw [World.putObj_heap_same (Array.getElem?_eq_some_iff.1 hl3).1,hrec]
    rfl
   ·exact hXp _ _ (hX _ _ _ _ hx2 hp2 hp3)
  |ret=>obtain⟨_,_,_,_,h⟩:=hq;exact h.elim
  |exit id=>obtain⟨_,_,_,_,h⟩:=hq;exact h.elim
  |goto t=>exact hq.elim
  |panic ch=>exact hq.elim
  |outgrown=>exact hq.elim
 |ret=>obtain⟨_,_,_,_,h⟩:=hq;exact h.elim
 |exit id=>obtain⟨_,_,_,_,h⟩:=hq;exact h.elim
 |goto t=>exact hq.elim
 |panic ch=>exact hq.elim
 |outgrown=>exact hq.elim
theorem KE {σ:Type} {m:Nat} {ds:List Deferred} {g:Operand} {pl:List Nat} {assign body:Code} {gf:Nat} {lb:Array Value} {Rdy:World→Prop} {N:Nat} {f:Nat→List Value} (hg:ev L g=some (.func (.func gf) #[] lb))
  (hen: ∀args w,(callFunc gf args).run P w= .ok (.enter gf args) w) (it:Iter P gf lb Rdy N f)
  (hpl:pl.all (fun p=>Nat.blt p m)=true) (hfl: ∀k,(f k).length=pl.length) (hG:Gd B w00 ⟨m,ds,none⟩ w0) (Rx:Nat→σ→List Row) (J:Nat→σ→Prop) (h0: ∃s,J 0 s∧ ∀w,Hp B w0 w R→Hp B w0 w (Rx 0 s)) (hrdy: ∀k s w,J k s→Hp B w0 w (Rx k s)→Rdy w)
  (round: ∀l k s W2,k<N→J k s→Below B w0 W2→W P ⟨m,[],some l⟩ B W2 assign ⟨fun L' R'=> ∀W3,Below B w0 W3→W P ⟨m,[],some l⟩ B W3 body ⟨fun _ R''=> ∃s',J (k+1) s'∧ ∀W4 w,Hp B W4 w R''→Hp B W4 w (Rx (k+1) s'),fun _ _=>False,fun _ _ _=>False⟩ L' R',fun _ _=>False,fun _ _ _=>False⟩ (prm pl (f k) L) (Rx k s))
  (after: ∀W5 D s,J N s→Below B w0 W5→Gd B w00 ⟨m,mark D::ds,none⟩ W5→VN ⟨m,mark D::ds,none⟩ B W5 F L (Rx N s)):
  V P ⟨m,ds,none⟩ B w0 (.rangeFunc g pl.toArray assign body) F L R:=by
 intro a w hs hp
 refine wpIn_rangeFunc ?_
 intro fn _
 obtain⟨rec,hrec⟩: ∃rec:LoopState→Loop,rec=fun st=> {state:=st,pending:=none,fn,tmps:=a.tmps,params:=pl.toArray,assign,body,defers:=w.heap.size}:=⟨_,rfl⟩
 obtain⟨W1,hW1⟩: ∃W1,(w.alloc (.deferred (some []))).alloc (.loop (rec .ready))=W1:=⟨_,rfl⟩
 have hL1:W1.heap[w.heap.size+1]? =some (.loop (rec .ready)):=by
  rw[←hW1];have:=World.alloc_heap_new (w.alloc (.deferred (some []))) (.loop (rec .ready));rwa[World.size_alloc] at this
 have hK1:W1.heap[w.heap.size]? =some (.deferred (some [])):=by
  rw[←hW1];exact(Below.heap_alloc _ _ _ (by simp)).trans (World.alloc_heap_new w _)
 obtain⟨s0,hJ0,hR0⟩:=h0
 have hp1:Hp B w0 W1 (Rx 0 s0):=by rw[←hW1];exact((hR0 w hp).allocObj _).allocObj _
 have hle0:w0.heap.size≤w.heap.size:=hp.below.size
 have hleB:=hp.base
 refine⟨w.heap.size+1,[mark w.heap.size],W1,{target:= .fn (.func gf) lb,args:= #[.func (.yield (w.heap.size+1)) #[] #[]]},W1,gf,#[.func (.yield (w.heap.size+1)) #[] #[]]++lb,W1,?_,?_,fun _ _=>trivial,?_,fun h=>(by cases h),?_⟩
 ·rw[←hW1,hrec];exact run_enterLoop_outer _ _ _ _ _
 ·simp only[resolve,hs.ev hg]
  simp[go_sem]
 ·simp[invoke,go_sem,hen]
 ·refine CallsIn.mono (rounds (w0:=w0) (m:=m) (L:=L) it hpl hfl Rx J hrdy round (l:=w.heap.size+1) (rec:=rec) hrec ⟨hs.size,rfl,hs.val⟩ (by omega) (by omega) (fun W=>W.heap[w.heap.size]? =some (.deferred (some []))∧Late w W) ?_ ?_ hL1 ⟨hK1,?_⟩ hJ0 hp1) ?_
  ·rintro W W' R R' ⟨hk,hl⟩ _ h2
   exact⟨h2.late.2 _ _ hk rfl,hl.trans h2.late⟩
  ·rintro W o ⟨hk,hl⟩
   refine⟨(World.putObj_heap_other (by omega)).trans hk,hl.1,fun k q hk' hc=> ?_⟩
   rw[World.putObj_heap_other (fun e=>by have:=(Array.getElem?_eq_some_iff.1 hk').1;omega)]
   exact hl.2 k q hk' hc
  ·rw [←hW1]
   exact(Late.alloc _ _).trans (Late.alloc _ _)
  ·rintro e W2 ⟨⟨v,rfl⟩,s,hJ,hp2,hl2,hk2,hlate⟩
   have hel:=run_endLoop (P:=P) hl2 (by rw[hrec];simp)
   have hpn:(rec .ready).pending=none:=by rw[hrec]
   refine⟨none,W2.putObj (w.heap.size+1) (.loop {rec .ready with state:= .exhausted}),hel.trans (congrArg (fun p=>Result.ok p _) hpn),?_⟩
   have hp3:Hp B w0 (W2.putObj (w.heap.size+1) (.loop {rec .ready with state:= .exhausted})) (Rx N s):=hp2.putObj hl2 rfl _ (by omega) (by omega)
   have hk3:(W2.putObj (w.heap.size+1) (.loop {rec .ready with state:= .exhausted})).heap[w.heap.size]? =some (.deferred (some [])):=(World.putObj_heap_other (by omega)).trans hk2
   have hlate3:Late w (W2.putObj (w.heap.size+1) (.loop {rec .ready with state:= .exhausted})):=⟨hlate.1,fun k q hk' hc=>by
    rw[World.putObj_heap_other (fun e=>by have:=(Array.getElem?_eq_some_iff.1 hk').1;omega)]
    exact hlate.2 k q hk' hc⟩
   have hds:=hs.defers
   refine after _ w.heap.size s hJ hp3.below ⟨hG.below.trans hp3.below,hG.late.trans hp3.late,List.nodup_cons.2 ⟨fun hmem=> ?_,hG.nodup⟩,fun d hd=> ?_⟩ _ _ ⟨hs.size,by simp only[List.singleton_append,hds],hs.val⟩ hp3.rebase
   ·obtain ⟨D,he,_,_,hD⟩:=hG.marks _ hmem
    have h1:=(Array.getElem?_eq_some_iff.1 hD).1
    simp only[mark,Deferred.mk.injEq,Target.collected.injEq,and_true] at he
    omega
   ·rcases List.mem_cons.1 hd with rfl|hd
    ·exact⟨_,rfl,by omega,by have:=hG.below.size;omega,hk3⟩
    ·obtain ⟨D,he,h1,h2,hD⟩:=hG.marks _ hd
     exact⟨D,he,h1,h2,hp3.late.2 _ _ hD rfl⟩
theorem QQ {σ0 σ1:Type} {m:Nat} {ds:List Deferred} {g:Operand} {pl:List Nat} {assign body:Code} {gf:Nat} {lb:Array Value} {Rdy:World→Prop} {N:Nat} {f:Nat→List Value} (hg:ev L g=some (.func (.func gf) #[] lb))
  (hen: ∀args w,(callFunc gf args).run P w= .ok (.enter gf args) w) (it:Iter P gf lb Rdy N f)
  (hpl:pl.all (fun p=>Nat.blt p m)=true) (hfl: ∀k,(f k).length=pl.length) (hG:Gd B w00 ⟨m,ds,none⟩ w0) (Rx:Nat→σ0→σ1→List Row) (J:Nat→σ0→σ1→Prop)
  (h0: ∃x0 x1,J 0 x0 x1∧ ∀w,Hp B w0 w R→Hp B w0 w (Rx 0 x0 x1)) (hrdy: ∀k x0 x1 w,J k x0 x1→Hp B w0 w (Rx k x0 x1)→Rdy w)
  (round: ∀l k x0 x1 W2,k<N→J k x0 x1→Below B w0 W2→W P ⟨m,[],some l⟩ B W2 assign ⟨fun L' R'=> ∀W3,Below B w0 W3→W P ⟨m,[],some l⟩ B W3 body ⟨fun _ R''=> ∃y0 y1,J (k+1) y0 y1∧ ∀W4 w,Hp B W4 w R''→Hp B W4 w (Rx (k+1) y0 y1),fun _ _=>False,fun _ _ _=>False⟩ L' R',fun _ _=>False,fun _ _ _=>False⟩ (prm pl (f k) L) (Rx k x0 x1))
  (after: ∀W5 D x0 x1,J N x0 x1→Below B w0 W5→Gd B w00 ⟨m,mark D::ds,none⟩ W5→VN ⟨m,mark D::ds,none⟩ B W5 F L (Rx N x0 x1)):
  V P ⟨m,ds,none⟩ B w0 (.rangeFunc g pl.toArray assign body) F L R:=by
 obtain⟨x0,x1,h1,h2⟩:=h0
 refine KE (σ:=σ0 × σ1) hg hen it hpl hfl hG (fun k p=>Rx k p.1 p.2) (fun k p=>J k p.1 p.2) ⟨(x0,x1),h1,h2⟩ (fun k p=>hrdy k p.1 p.2) (fun l k p W2 hk hp hb=>eB (round l k p.1 p.2 W2 hk hp hb) ?_ (fun _ _ h=>h) (fun _ _ _ h=>h)) (fun W5 D p=>after W5 D p.1 p.2)
 intro L' R' h W3 hb3
 refine eB (h W3 hb3) ?_ (fun _ _ h=>h) (fun _ _ _ h=>h)
 rintro _ R'' ⟨y0,y1,g1,g2⟩
 exact⟨(y0,y1),g1,g2⟩
theorem QP {σ0 σ1 σ2 σ3:Type} {m:Nat} {ds:List Deferred} {g:Operand} {pl:List Nat} {assign body:Code} {gf:Nat} {lb:Array Value} {Rdy:World→Prop} {N:Nat} {f:Nat→List Value} (hg:ev L g=some (.func (.func gf) #[] lb))
  (hen: ∀args w,(callFunc gf args).run P w= .ok (.enter gf args) w) (it:Iter P gf lb Rdy N f)
  (hpl:pl.all (fun p=>Nat.blt p m)=true) (hfl: ∀k,(f k).length=pl.length) (hG:Gd B w00 ⟨m,ds,none⟩ w0) (Rx:Nat→σ0→σ1→σ2→σ3→List Row) (J:Nat→σ0→σ1→σ2→σ3→Prop)
  (h0: ∃x0 x1 x2 x3,J 0 x0 x1 x2 x3∧ ∀w,Hp B w0 w R→Hp B w0 w (Rx 0 x0 x1 x2 x3)) (hrdy: ∀k x0 x1 x2 x3 w,J k x0 x1 x2 x3→Hp B w0 w (Rx k x0 x1 x2 x3)→Rdy w)
  (round: ∀l k x0 x1 x2 x3 W2,k<N→J k x0 x1 x2 x3→Below B w0 W2→W P ⟨m,[],some l⟩ B W2 assign ⟨fun L' R'=> ∀W3,Below B w0 W3→W P ⟨m,[],some l⟩ B W3 body ⟨fun _ R''=> ∃y0 y1 y2 y3,J (k+1) y0 y1 y2 y3∧ ∀W4 w,Hp B W4 w R''→Hp B W4 w (Rx (k+1) y0 y1 y2 y3),fun _ _=>False,fun _ _ _=>False⟩ L' R',fun _ _=>False,fun _ _ _=>False⟩ (prm pl (f k) L) (Rx k x0 x1 x2 x3))
  (after: ∀W5 D x0 x1 x2 x3,J N x0 x1 x2 x3→Below B w0 W5→Gd B w00 ⟨m,mark D::ds,none⟩ W5→VN ⟨m,mark D::ds,none⟩ B W5 F L (Rx N x0 x1 x2 x3)):
  V P ⟨m,ds,none⟩ B w0 (.rangeFunc g pl.toArray assign body) F L R:=by
 obtain⟨x0,x1,x2,x3,h1,h2⟩:=h0
 refine KE (σ:=σ0 × σ1 × σ2 × σ3) hg hen it hpl hfl hG (fun k p=>Rx k p.1 p.2.1 p.2.2.1 p.2.2.2) (fun k p=>J k p.1 p.2.1 p.2.2.1 p.2.2.2) ⟨(x0,x1,x2,x3),h1,h2⟩ (fun k p=>hrdy k p.1 p.2.1 p.2.2.1 p.2.2.2) (fun l k p W2 hk hp hb=>eB (round l k p.1 p.2.1 p.2.2.1 p.2.2.2 W2 hk hp hb) ?_ (fun _ _ h=>h) (fun _ _ _ h=>h)) (fun W5 D p=>after W5 D p.1 p.2.1 p.2.2.1 p.2.2.2)
 intro L' R' h W3 hb3
 refine eB (h W3 hb3) ?_ (fun _ _ h=>h) (fun _ _ _ h=>h)
 rintro _ R'' ⟨y0,y1,y2,y3,g1,g2⟩
 exact⟨(y0,y1,y2,y3),g1,g2⟩
def Fin (P:Program) (fn:Func) (B:Nat) (w00:World) (Post:Value→List Row→Prop):Exit→Act→World→Prop:=
 bodyPostM Fence.wide 0 P fn fun e w'=> ∃v R',e= .returned v∧Hp B w00 w' R'∧Post v R'
theorem qC {fn:Func} {Post:Value→List Row→Prop} {tmps:Array Value} {v:Value} {w0:World} (hB:Below B w00 w0) (hL:Late w00 w0): ∀(ds:List Deferred) (w:World),ds.Nodup→(∀d∈ds,∃D,d=mark D∧B≤D∧w00.heap.size≤D∧w.heap[D]? =some (.deferred (some [])))→Hp B w00 w R→(∀w,(results fn tmps).run P w= .ok v w)→Post v R→
  LeavesInM Fence.wide 0 P fn tmps (fun e w'=> ∃v R',e= .returned v∧Hp B w00 w' R'∧Post v R') ds .returning w
 |[],w,_,_,hp,hr,hv=>⟨v,hr w,v,R,rfl,hp,hv⟩
 |d::ds,w,hn,hm,hp,hr,hv=>by
  obtain⟨D,rfl,h1,h2,hD⟩:=hm _ (.head _)
  refine⟨by simp, .inl ⟨D,_,rfl,run_takeDeferred hD,qC hB hL ds _ (List.nodup_cons.1 hn).2 (fun d hd=> ?_) (hp.putObj hD rfl _ h1 h2) hr hv⟩⟩
  obtain⟨D',he,h1',h2',hD'⟩:=hm d (.tail _ hd)
  refine⟨D',he,h1',h2',(World.putObj_heap_other fun e=> ?_).trans hD'⟩
  subst e
  subst he
  exact(List.nodup_cons.1 hn).1 hd
theorem UX {fn:Func} {Post:Value→List Row→Prop} {v:Value} (hG:Gd B w00 n w0) (hres: ∀a w,Sat n L a→(results fn a.tmps).run P w= .ok v w) (hv:Post v R): ∀a w,Sat n L a→Hp B w0 w R→Fin P fn B w00 Post .ret a w∧Fin P fn B w00 Post .normal a w:=by
 intro a w hs hp
 have hp':Hp B w00 w R:=⟨hG.below.trans hp.below,hp.base,hp.own,hp.apart,hG.late.trans hp.late⟩
 have h:=qC (P:=P) (fn:=fn) (Post:=Post) (tmps:=a.tmps) (v:=v) hG.below hG.late n.ds w hG.nodup (fun d hd=>by
  obtain⟨D,he,h1,h2,hD⟩:=hG.marks d hd
  exact⟨D,he,h1,h2,hp.late.2 _ _ hD rfl⟩) hp' (fun w=>hres a w hs) hv
 rw[←hs.defers] at h
 exact⟨h,h⟩
theorem aFn {fn:Func} {Post:Value→List Row→Prop} {r:Nat} (hr:fn.results= #[.tmp r]) (hG:Gd B w00 n w0) (h: ∃v,lk L r=some v∧Post v R): ∀a w,Sat n L a→Hp B w0 w R→Fin P fn B w00 Post .ret a w:=by
 obtain⟨v,hv,hpost⟩:=h
 exact fun a w hs hp=>(UX hG (fun a w hs=>by rw[results_tmp hr,hs.getD hv]) hpost a w hs hp).1
theorem aBp {fn:Func} {Post:Value→List Row→Prop} {r s:Nat} (hr:fn.results= #[.tmp r, .tmp s]) (hG:Gd B w00 n w0) (h: ∃v u,lk L r=some v∧lk L s=some u∧Post (.tuple #[v,u]) R): ∀a w,Sat n L a→Hp B w0 w R→Fin P fn B w00 Post .ret a w:=by
 obtain⟨v,u,hv,hu,hpost⟩:=h
 exact fun a w hs hp=>(UX hG (fun a w hs=>by rw[results_tmp2 hr,hs.getD hv,hs.getD hu]) hpost a w hs hp).1
theorem fnV {f:FuncId} {fn:Func} {c:Code} {args:List Value} {Post:Value→List Row→Prop} (hf:P.funcs[f]? =some fn) (hb:fn.body=some c) (hl:Nat.ble args.length fn.ntmps=true)
  (h:V P (fn.ntmps:Nd) B w00 c (Fin P fn B w00 Post) (ini 0 args) R):Ct P f args.toArray B w00 R Post:=by
 intro w hw
 have hl':args.length≤fn.ntmps:=Nat.le_of_ble_eq_true hl
 refine callsIn_wide.1 (callsIn_of_wp_marks (F:=Fence.wide) (n:=0) hf hb trivial (h _ w ⟨by simp;omega,rfl,fun t v ht=> ?_⟩ hw))
 obtain⟨_,h2⟩:=UC args 0 t v ht
 simp only[Nat.sub_zero] at h2
 have hlt:=(List.getElem?_eq_some_iff.1 h2).1
 rw[←h2]
 simp[Array.getElem?_append,hlt]
end
end Go.Eng


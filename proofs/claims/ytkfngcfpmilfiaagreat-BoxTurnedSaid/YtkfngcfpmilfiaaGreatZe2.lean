/- Own work. -/
import Derived.Shelf.SlSortCmp.Kit1
import Derived.Lib.SlKeysI
import Derived.Lib.SmallJoins
import Derived.Deep.Matrix
import Derived.Test.YtkfngcfpmilfiaaGreatProg
import Derived.KernelRfl
import Derived.Shelf.Abstract
import Derived.WalkKit
import Derived.OwnWalkIn
import Derived.TacticsInMore
import Derived.LoopNIn
import Derived.LoopIn
import Derived.Sort.QuietTacIn
import Derived.Test.YtkfngcfpmilfiaaGreatZe1
set_option linter.unusedVariables false
set_option linter.unusedSimpArgs false
set_option maxHeartbeats 8000000
namespace Go.Eng
open Go Go.RowKit
structure Tb where
 fd:List (Nat × Nat × Nat)
 ln:List Nat
 ld:List Nat
def fdL:List (Nat × Nat × Nat)->Nat->Nat->Option Nat
 |[],_,_=>none
 |(a,b,o)::l,t,k=>bif Nat.beq a t && Nat.beq b k then some o else fdL l t k
def inL:List Nat->Nat->Bool
 |[],_=>false
 |a::l,t=>bif Nat.beq a t then true else inL l t
def fdC (P:Program) (e:Nat × Nat × Nat):Bool:=match P.underlying e.1 with
 | some (.struct fs)=>match fs[e.2.1]? with
  |some f=>f.offset==e.2.2 && (match (P.info? f.type).map (·.size) with
   |some st=>Nat.blt 0 st
   |none=>false)
  |none=>false
 |_=>false
def lnC (P:Program) (t:Nat):Bool:=match P.underlying t with
 |some (.slice _)=>true
 |_=>false
def ldC (P:Program) (t:Nat):Bool:=match P.underlying t with
 |some d=> !LP d
 |none=>false
def CW (P:Program) (T:Tb):Prop:=(T.fd.all (fdC P) && (T.ln.all (lnC P) && T.ld.all (ldC P)))=true
theorem bTe {l:List (Nat × Nat × Nat)} {t k o:Nat} (h:fdL l t k=some o):(t,k,o)∈l:=by
 induction l with
 |nil=>cases h
 | cons e l ih=>
  obtain⟨a,b,c⟩:=e;unfold fdL at h;cases hc:Nat.beq a t && Nat.beq b k with
  |true=>
   rw[hc] at h;simp only[lv] at hc;obtain rfl:=um hc.1;obtain rfl:=um hc.2;obtain rfl:=fo h;exact .head _
  |false=>rw[hc] at h;exact .tail _ (ih h)
theorem bEx {l:List Nat} {t:Nat} (h:inL l t=true):t∈l:=by
 induction l with
 |nil=>cases h
 |cons a l ih=>
  unfold inL at h;cases hc:Nat.beq a t with
  |true=>obtain rfl:=um hc;exact .head _
  |false=>rw[hc] at h;exact .tail _ (ih h)
def vlO (T:Tb) (L:Env):Op->Option Value
 | .move x=>ev L x
 | .assign x=>ev L x
 | .pick c x y=>match ev L c with
  |some (.bool true)=>ev L x
  |some (.bool false)=>ev L y
  |_=>none
 | .unOp .not _ x=>match ev L x with
  |some (.bool true)=>some (.bool false)
  |some (.bool false)=>some (.bool true)
  |_=>none
 | .nilCheck x=>match ev L x with
  |some (.pointer (some a))=>some (.pointer (some a))
  |_=>none
 | .extract x i=>match ev L x with
  |some (.tuple vs)=>vs[i]?
  |_=>none
 | .fieldAddr t x k=>match ev L x with
  |some (.pointer (some ⟨g,j,none⟩))=>match fdL T.fd t k with
   |some o=>some (.pointer (some ⟨g,j+o,none⟩))
   |none=>none
  |_=>none
 | .call ⟨.builtin .len,⟨[x]⟩,⟨[t]⟩⟩=>match ev L x with
  |some (.slice _ m _)=>bif inL T.ln t then some (.int .i64 (m:Int)) else none
  |_=>none
 | .binOp o _ x y _=>match ev L x,ev L y with
  |some (.int k p),some (.int j q)=>if k=j then(match o with
   | .lss=>some (.bool (decide (p<q)))
   | .leq=>some (.bool (decide (p<=q)))
   | .gtr=>some (.bool (decide (q<p)))
   | .geq=>some (.bool (decide (q<=p)))
   | .eql=>some (.bool (decide (p=q)))
   | .neq=>some (.bool (decide (p≠q)))
   |_=>none) else none
  |_,_=>none
 |_=>none
def ldO (T:Tb) (R:List Row) (L:Env) (i:Nat):Op->Option (Value × (Nat × Nat))
 | .load t x=>bif inL T.ld t then(match ev L x with
  | some (.pointer (some ⟨g,j,none⟩))=>match R[i]? with
   |some ⟨_,_,some ⟨g',0,none⟩,_,_,xs,_⟩=>match xs[j]? with
    |some v=>some (v,(g,g'))
    |none=>none
   |_=>none
  |_=>none) else none
 |_=>none
section
variable {P:Program} {T:Tb} {n:Nd} {B:Nat} {w0:World} {ops:Array Oper} {l l':List Oper} {K:Env->List Row->Prop} {L L':Env} {R:List Row} {op:Op} {ty:TypeId} {v:Value} {d:Nat} {o:Oper} {y:Code} {Q:fP} {id:Nat}
section
variable {i q bh k:Nat} {e:Option (Nat × Nat)} {ab:AI} {E E':List (Nat × Nat)} {is:List Nat}
theorem bRf (e:CW P T) (h:vlO T L op=some v):Yl P n B w0 op ty L R v:=by
 unfold vlO at h;split at h
 ·exact dI h
 ·exact bY h
 ·split at h
  ·exact bIz cF h
  ·exact vF cF h
  cases h
 ·split at h
  ·obtain rfl:=fo h;exact aYu (b:=true) cF
  ·obtain rfl:=fo h;exact aYu (b:=false) cF
  cases h
 ·split at h
  ·obtain rfl:=fo h;exact jS cF
  cases h
 ·split at h
  ·exact YJ cF h
  cases h
 ·split at h
  ·split at h
   ·rename_i a _ _ j;obtain rfl:=fo h;simp only[CW,lv,sj] at e;have hc:=e.1 _ (bTe j);unfold fdC at hc;split at hc
    ·rename_i hu;split at hc
     ·rename_i f i;simp only[lv,beq_iff_eq] at hc;obtain⟨h1,g⟩:=hc;split at g
      ·rename_i hs;exact YI hu (by rw[i,<-h1];rfl) hs g a rfl
      cases g
     cases hc
    cases hc
   cases h
  cases h
 ·split at h
  ·rename_i a;simp only[CW,lv,sj] at e
   revert h
   cases hl:inL T.ln _ with
   |false=>intro h;cases h
   | true=>
    intro h;obtain rfl:=fo h;have hc:=e.2.1 _ (bEx hl);unfold lnC at hc;split at hc
    ·rename_i hu;exact sO hu a
    cases hc
  cases h
 ·split at h
  ·rename_i a d;split at h
   ·rename_i hk;subst hk;split at h
    ·obtain rfl:=fo h;exact fD a d
    ·obtain rfl:=fo h;exact PC a d
    ·obtain rfl:=fo h;exact iL a d
    ·obtain rfl:=fo h;exact pG a d
    ·obtain rfl:=fo h;exact pU a d
    ·obtain rfl:=fo h;exact gD a d
    cases h
   cases h
  cases h
 cases h
theorem bSz (a:CW P T) {e:Nat × Nat} (h:ldO T R L i op=some (v,e)) (b:e.1=e.2):Yl P n B w0 op ty L R v:=by
 unfold ldO at h;split at h
 ·revert h
  cases hl:inL T.ld _ with
  |false=>intro h;cases h
  | true=>
   intro h;simp only[cond_true] at h;split at h
   ·rename_i g;split at h
    ·rename_i hi;split at h
     ·rename_i d;simp only[jl,uk] at h;obtain⟨rfl,rfl⟩:=h;dsimp only at b;subst b;simp only[CW,lv,sj] at a;have hc:=a.2.2 _ (bEx hl);unfold ldC at hc;split at hc
      ·rename_i hu;exact gY (rdr i hi) hu (by simpa using hc) g d
      cases hc
     cases h
    cases h
   cases h
 cases h
def gdO (ops:Array Oper) (L:Env):Option (Nat × Bool)->Option Bool
 |none=>some true
 | some (j,want)=>match (ops[j]?).bind (·.dst) with
  |some d=>match lk L d with
   |some (.bool b)=>some (b==want)
   |some (.tuple ⟨[]⟩)=>some false
   |_=>none
  |none=>none
def stO (T:Tb) (n:Nat) (ops:Array Oper) (R:List Row) (i:Nat) (o:Oper) (L:Env):Option (Env × Option (Nat × Nat)):=
 match o.dst with
 | some d=>bif Nat.blt d n then(match gdO ops L o.guard with
  | some true=>match vlO T L o.op with
   |some v=>some ((d,v)::L,none)
   |none=>match ldO T R L i o.op with
    |some (v,e)=>some ((d,v)::L,some e)
    |none=>none
  |some false=>some ((d,undef)::L,none)
  |none=>none) else none
 |none=>none
def bDd:Option (Nat × Nat)->Prop
 |none=>True
 |some e=>e.1=e.2
theorem ZF {i : Nat} (m:CW P T) (h:stO T n.n ops R i o L=some (L',e)) (k:bDd e):
    ∃ d,o.dst=some d/\Nat.blt d n.n=true/\
      ((∃v,L'=(d,v)::L/\(∀ {B:Nat} {w0:World},Yl P n B w0 o.op o.type L R v)/\(o.guard=none\/ ∃j want f,o.guard=some (j,want)/\(ops[j]?).bind (·.dst)=some f/\lk L f=some (.bool want)))\/
       (L'=(d,undef)::L/\ ∃j want f,o.guard=some (j,want)/\(ops[j]?).bind (·.dst)=some f/\(lk L f=some undef\/ ∃b,lk L f=some (.bool b)/\(b==want)=false))):=by
  unfold stO at h;split at h
  · rename_i d p
    refine⟨d,p,?_⟩;cases hn:Nat.blt d n.n with
    |false=>rw[hn] at h;cases h
    | true=>
      rw[hn] at h;simp only[cond_true] at h;refine⟨rfl,?_⟩
      have a: ∀ {L' e},(match vlO T L o.op with
        |some v=>some ((d,v)::L,none)
        | none=>match ldO T R L i o.op with
          |some (v,e)=>some ((d,v)::L,some e)
          |none=>none)=some (L',e)->bDd e-> ∃v,L'=(d,v)::L/\(∀ {B:Nat} {w0:World},Yl P n B w0 o.op o.type L R v):=by
        intro L' e h k;split at h
        · rename_i a
          simp only[jl,uk] at h;exact⟨_,h.1.symm,bRf m a⟩
        split at h
        · rename_i a
          simp only[jl,uk] at h;obtain⟨rfl,rfl⟩:=h;exact⟨_,rfl,bSz m a k⟩
        cases h
      unfold gdO at h;cases hg:o.guard with
      | none=>
        rw[hg] at h;obtain⟨v,h1,l⟩:=a h k;exact .inl ⟨v,h1,l, .inl rfl⟩
      | some g=>
        obtain⟨j,want⟩:=g;rw[hg] at h;simp only at h;cases hj:(ops[j]?).bind (·.dst) with
        |none=>rw[hj] at h;cases h
        | some f=>
          rw[hj] at h;simp only at h;cases hb:lk L f with
          |none=>rw[hb] at h;cases h
          | some u=>
            rw[hb] at h;cases u with
            | bool b=>
              simp only at h;cases hw:(b==want) with
              | true=>
                rw[hw] at h;obtain rfl:b=want:=by simpa using hw
                obtain⟨v,h1,l⟩:=a h k;exact .inl ⟨v,h1,l, .inr ⟨j,b,f,rfl,hj,hb⟩⟩
              | false=>
                rw[hw] at h;simp only[jl,uk] at h;exact .inr ⟨h.1.symm,j,want,f,rfl,hj, .inr ⟨b,hb,hw⟩⟩
            | tuple vs=>
              obtain⟨vs⟩:=vs;cases vs with
              | nil=>
                simp only[jl,uk] at h;exact .inr ⟨h.1.symm,j,want,f,rfl,hj, .inl hb⟩
              |cons _ _=>cases h
            |_=>cases h
  cases h
theorem bAj (q:CW P T) (h:stO T n.n ops R i o L=some (L',e)) (r:bDd e) (hk:WR P n B w0 ops l K L' R):WR P n B w0 ops (o::l) K L R:=by
 obtain⟨d,g,hn,⟨v,rfl,m,a⟩|⟨rfl,j,want,f,a,k,hb⟩⟩:=ZF q h r
 ·obtain ⟨dst,op,ty,pos,na,p⟩:=o;simp only at g a;subst g;rcases a with rfl|⟨j,want,f,rfl,k,hb⟩
  ·exact RB hn m hk
  exact aN k hb (RB hn m hk)
 obtain ⟨dst,op,ty,pos,na,p⟩:=o;simp only at g a;subst g a;rcases hb with hb|⟨b,hb,u⟩
 ·exact bRb k hb hn hk
 exact bUs k hb u hn hk
theorem bJt (p:CW P T) (hi:ops[q]? =some o) (hc:chk ops ab q=true) (h:stO T n.n ops R i o L=some (L',e)) (r:bDd e) (hk:WD P n B w0 ops K bh (ab.setIfInBounds q true) L' R):WD P n B w0 ops K (bh+1) ab L R:=by
 obtain⟨d,g,hn,⟨v,rfl,l,a⟩|⟨rfl,j,want,f,a,k,hb⟩⟩:=ZF p h r
 ·obtain ⟨dst,op,ty,pos,na,m⟩:=o;simp only at g a;subst g;rcases a with rfl|⟨j,want,f,rfl,k,hb⟩
  ·exact bUt q hi hc hn l hk
  exact bOq q hi hc hn k hb l hk
 obtain ⟨dst,op,ty,pos,na,m⟩:=o;simp only at g a;subst g a;rcases hb with hb|⟨b,hb,u⟩
 ·exact bRd q hi hc hn k hb hk
 exact bOr q hi hc hn k hb u hk
def yA:List (Nat × Nat)->Prop
 |[]=>True
 |e::l=>e.1=e.2/\yA l
def nxI:Option (Nat × Nat)->List Nat->List Nat
 |none,is=>is
 |some _,is=>is.tail
def nxE:Option (Nat × Nat)->List (Nat × Nat)->List (Nat × Nat)
 |none,E=>E
 |some e,E=>e::E
def hdI:List Nat->Nat
 |[]=>0
 |i::_=>i
theorem aEh (h:yA (nxE e E)):bDd e/\yA E:=by
 cases e with
 |none=>exact⟨trivial,h⟩
 |some e=>exact h
def rnO (T:Tb) (n:Nat) (ops:Array Oper) (R:List Row):Nat->List Nat->List Oper->Env->List (Nat × Nat)->Option (List Oper × Env × List (Nat × Nat))
 |0,_,l,L,E=>some (l,L,E)
 |k+1,is,o::l,L,E=>match stO T n ops R (hdI is) o L with
  |some (L',e)=>rnO T n ops R k (nxI e is) l L' (nxE e E)
  |none=>none
 |_+1,_,[],_,_=>none
def alO (T:Tb) (n:Nat) (ops:Array Oper) (R:List Row):List Nat->List Oper->Env->List (Nat × Nat)->Option (Env × List (Nat × Nat))
 |_,[],L,E=>some (L,E)
 |is,o::l,L,E=>match stO T n ops R (hdI is) o L with
  |some (L',e)=>alO T n ops R (nxI e is) l L' (nxE e E)
  |none=>none
theorem bRs (e:CW P T) (h:rnO T n.n ops R k is l L E=some (l',L',E')) (g:yA E'):(WR P n B w0 ops l' K L' R->WR P n B w0 ops l K L R)/\yA E:=by
 induction k generalizing is l L E with
 |zero=>simp only[rnO,jl,uk] at h;obtain⟨rfl,rfl,rfl⟩:=h;exact⟨λh=>h,g⟩
 | succ k ih=>
  cases l with
  |nil=>cases h
  | cons o l=>
   simp only[rnO] at h;split at h
   ·rename_i hs;obtain⟨h1,a⟩:=ih h;obtain⟨b,d⟩:=aEh a;exact⟨λhk=>bAj e hs b (h1 hk),d⟩
   cases h
theorem bUa (e:CW P T) (h:alO T n.n ops R is l L E=some (L',E')) (g:yA E'):(K L' R->WR P n B w0 ops l K L R)/\yA E:=by
 induction l generalizing is L E with
 |nil=>simp only[alO,jl,uk] at h;obtain⟨rfl,rfl⟩:=h;exact⟨λh=>aJ h,g⟩
 | cons o l ih=>
  simp only[alO] at h;split at h
  ·rename_i hs;obtain⟨h1,a⟩:=ih h;obtain⟨b,d⟩:=aEh a;exact⟨λhk=>bAj e hs b (h1 hk),d⟩
  cases h
def rnD (T:Tb) (n:Nat) (ops:Array Oper) (R:List Row):Nat->Nat->List Nat->Env->List (Nat × Nat)->Option (Env × List (Nat × Nat))
 |0,_,_,L,E=>some (L,E)
 | k+1,q,is,L,E=>match ops[q]? with
  |some o=>match stO T n ops R (hdI is) o L with
   |some (L',e)=>rnD T n ops R k (q+1) (nxI e is) L' (nxE e E)
   |none=>none
  |none=>none
def lsD:Nat->Nat->AI->AI
 |0,_,a=>a
 |k+1,i,a=>lsD k (i+1) (a.setIfInBounds i true)
def ckD (ops:Array Oper):Nat->Nat->AI->Bool
 |0,_,_=>true
 |k+1,i,a=>chk ops a i && ckD ops k (i+1) (a.setIfInBounds i true)
theorem bBc (e:CW P T) (h:rnD T n.n ops R k q is L E=some (L',E')) (g:yA E') (hc:ckD ops k q ab=true):(WD P n B w0 ops K bh (lsD k q ab) L' R->WD P n B w0 ops K (bh+k) ab L R)/\yA E:=by
 induction k generalizing is q L E ab with
 |zero=>simp only[rnD,jl,uk] at h;obtain⟨rfl,rfl⟩:=h;exact⟨λh=>h,g⟩
 | succ k ih=>
  simp only[rnD] at h;split at h
  ·rename_i i;split at h
   ·rename_i hs;simp only[ckD,lv] at hc;obtain⟨h1,a⟩:=ih h hc.2;obtain⟨b,d⟩:=aEh a;exact⟨λhk=>bJt e i hc.1 hs b (h1 hk),d⟩
   cases h
  cases h
theorem bQy (a:CW P T) (h:rnO T n.n ops R k is l L []=some (l',L',E)) (hk:WR P n B w0 ops l' K L' R) (b:yA E):WR P n B w0 ops l K L R:=(bRs a h b).1 hk
theorem bQz (a:CW P T) (h:alO T n.n ops R is l L []=some (L',E)) (hk:K L' R) (b:yA E):WR P n B w0 ops l K L R:=(bUa a h b).1 hk
theorem bUq (a:CW P T) (h:rnO T n.n ops R k is ops.toList L []=some (l',L',E)) (hk:WR P n B w0 ops l' Q.nrm L' R) (d:yA E) (b:qF n.rd ops.toList=true):W P n B w0 (.region id ops false) Q L R:=by
 have:=bK (P:=P) (B:=B) (w0:=w0) (R:=R) (Q:=Q) (id:=id) (l:=ops.toList) (by rw[Af];exact bQy a h hk d) b;rwa[Af] at this
theorem bUr (a:CW P T) (h:alO T n.n ops R is ops.toList L []=some (L',E)) (hk:Q.nrm L' R) (d:yA E) (b:qF n.rd ops.toList=true):W P n B w0 (.region id ops false) Q L R:=by
 have:=bK (P:=P) (B:=B) (w0:=w0) (R:=R) (Q:=Q) (id:=id) (l:=ops.toList) (by rw[Af];exact bQz a h hk d) b;rwa[Af] at this
end
end
section
variable {P:Program} {n:Nd} {B:Nat} {w0:World} {ops:Array Oper} {l:List Oper} {K:Env->List Row->Prop} {L:Env} {R R1:List Row} {op:Op} {ty:TypeId} {pos:String} {na:Array Edge} {d:Nat} {α β γ:Type} {v:Value} {V:α->Value} {U:α->β->Value} {T:α->β->γ->Value} {M:α->List Row} {O:α->β->List Row} {N:α->β->γ->List Row}
section
variable {Oc:List Operand} {vs:AG}
theorem dD (e:Ac P n B w0 op ty L R (λu R'=>u=v/\R'=R1)) (h:WR P n B w0 ops l K ((d,v)::L) R1) (hn:Nat.blt d n=true:=by exact rfl):WR P n B w0 ops ({dst:=some d,op:=op,type:=ty,pos:=pos,after:=na,guard:=none}::l) K L R:=aFb hn e (λ_ _ ⟨a,b⟩=>by subst a b;exact h)
theorem bJc (e:Ac P n B w0 op ty L R (λu R'=>R'=R1/\u=v)) (h:WR P n B w0 ops l K ((d,v)::L) R1) (hn:Nat.blt d n=true:=by exact rfl):WR P n B w0 ops ({dst:=some d,op:=op,type:=ty,pos:=pos,after:=na,guard:=none}::l) K L R:=aFb hn e (λ_ _ ⟨a,b⟩=>by subst a b;exact h)
theorem aX (e:Ac P n B w0 op ty L R (λu R'=> ∃x,u=V x/\R'=M x)) (h: ∀x,WR P n B w0 ops l K ((d,V x)::L) (M x)) (hn:Nat.blt d n=true:=by exact rfl):WR P n B w0 ops ({dst:=some d,op:=op,type:=ty,pos:=pos,after:=na,guard:=none}::l) K L R:=aFb hn e (λ_ _ ⟨x,a,b⟩=>by subst a b;exact h x)
theorem dG (e:Ac P n B w0 op ty L R (λu R'=> ∃x y,u=U x y/\R'=O x y)) (h: ∀x y,WR P n B w0 ops l K ((d,U x y)::L) (O x y)) (hn:Nat.blt d n=true:=by exact rfl):WR P n B w0 ops ({dst:=some d,op:=op,type:=ty,pos:=pos,after:=na,guard:=none}::l) K L R:=aFb hn e (λ_ _ ⟨x,y,a,b⟩=>by subst a b;exact h x y)
theorem bZu (e:Ac P n B w0 op ty L R (λu R'=> ∃x y z,u=T x y z/\R'=N x y z)) (h: ∀x y z,WR P n B w0 ops l K ((d,T x y z)::L) (N x y z)) (hn:Nat.blt d n=true:=by exact rfl):WR P n B w0 ops ({dst:=some d,op:=op,type:=ty,pos:=pos,after:=na,guard:=none}::l) K L R:=aFb hn e (λ_ _ ⟨x,y,z,a,b⟩=>by subst a b;exact h x y z)
theorem bZv (g:Ac P n B w0 op ty L R (λu R'=> ∃Rn,R'=Rn++R/\ ∃x y,u=U x y/\Rn=O x y)) (h: ∀x y,WR P n B w0 ops l K ((d,U x y)::L) (O x y++R)) (hn:Nat.blt d n=true:=by exact rfl):WR P n B w0 ops ({dst:=some d,op:=op,type:=ty,pos:=pos,after:=na,guard:=none}::l) K L R:=aFb hn g (λ_ _ ⟨_,a,x,y,b,e⟩=>by subst b e a;exact h x y)
theorem aCc (g:Ac P n B w0 op ty L R (λu R'=> ∃Rn,R'=Rn++R/\ ∃x y z,u=T x y z/\Rn=N x y z)) (h: ∀x y z,WR P n B w0 ops l K ((d,T x y z)::L) (N x y z++R)) (hn:Nat.blt d n=true:=by exact rfl):WR P n B w0 ops ({dst:=some d,op:=op,type:=ty,pos:=pos,after:=na,guard:=none}::l) K L R:=aFb hn g (λ_ _ ⟨_,a,x,y,z,b,e⟩=>by subst b e a;exact h x y z)
theorem bN (a:Ac P n B w0 op ty L R (λ_ R'=>R'=R1)) (h:WR P n B w0 ops l K L R1):WR P n B w0 ops ({dst:=none,op:=op,type:=ty,pos:=pos,after:=na,guard:=none}::l) K L R:=bZr a λ_ _ e=>e▸h
def slE:List Nat->Env->Env->Option Env
 |[],_,z=>some z
 | t::ts,L,z=>match lk L t with
  |some v=>match slE ts L z with
   |some M=>some ((t,v)::M)
   |none=>none
  |none=>none
theorem bD {M:Env} (k:Nat) (ks:List Nat) (d:Nat) (v:Value) (_:slE ks L [(d,v)]=some M) (h1:WR P n B w0 ops (l.take k) (λL' R'=>Sub M L'/\ ∀w,Hp B w0 w R'->Hp B w0 w R) L R) (a:WR P n B w0 ops (l.drop k) K M R):WR P n B w0 ops l K L R:=wJ k M R h1 a
theorem RL {Q:fP} (h:Q.ret L []):W P n B w0 .ret Q L R:=gN (λ_ h=>h.sublist (List.nil_sublist _)) h
theorem dZ {f:FuncId} {ts:Array TypeId} (b:Enters P f) (a:evs L Oc=some vs) (hc: ∀w,Hp B w0 w R->Ct P f vs.toArray w.heap.size w [] (λu _=>u=v)) (h:WR P n B w0 ops l K ((d,v)::L) R) (hn:Nat.blt d n=true:=by exact rfl):WR P n B w0 ops ({dst:=some d,op:= .call {callee:= .value (.func f),args:=Oc.toArray,argTypes:=ts},type:=ty,pos:=pos,after:=na,guard:=none}::l) K L R:=bJc (aH b a (Ct.quiet hc)) h hn
theorem bZ {f:FuncId} {ts:Array TypeId} (b:Enters P f) (a:evs L Oc=some vs) (hc: ∀w,Hp B w0 w R->Ct P f vs.toArray w.heap.size w [] (λu Rn=> ∃x y,u=U x y/\Rn=O x y)) (h: ∀x y,WR P n B w0 ops l K ((d,U x y)::L) (O x y++R)) (hn:Nat.blt d n=true:=by exact rfl):WR P n B w0 ops ({dst:=some d,op:= .call {callee:= .value (.func f),args:=Oc.toArray,argTypes:=ts},type:=ty,pos:=pos,after:=na,guard:=none}::l) K L R:=bZv (aH b a (Ct.fresh hc)) h hn
end
end
end Go.Eng
namespace Go.Eng
open Go Go.RowKit Go.Proofs Go.Sort
theorem VM {W w':World} (hb:Below W.heap.size W w') (h:W.drawn<=w'.drawn): ∃q os,w'=grow (W.drewN q) os:=by
 refine⟨w'.drawn-W.drawn,w'.heap.extract W.heap.size w'.heap.size,?_⟩
 have e:W.heap++w'.heap.extract W.heap.size w'.heap.size=w'.heap:=by
  apply Array.ext_getElem?;intro k;rw[Bw];split
  ·rename_i hk;exact(hb.block k hk).symm
  rename_i hk;have:=hb.size;rw[Array.getElem?_extract];split
  ·congr 1;omega
  rename_i g;rw[Eg G]
 obtain⟨h1,g,i,j,l⟩:=w';obtain⟨g1,g2,g3,g4,g5⟩:=W;have a:=hb.os;have b:=hb.tape;have d:=hb.output;simp only at a b d e h;subst a;subst b;subst d;simp only[grow,World.drewN,e,World.mk.injEq,Al,Az];omega
section
variable {P:Program} {B:Nat} {w0:World} {R:List Row}
def aTl (P:Program) (f g:Nat) (cb:Array Value):Prop:=
 ∀(α:Type) [Inhabited α] (enc:α->AG) (_: ∀x,(enc x).length=2) (_: ∀x,∀v∈enc x,v.oneCell'=true) (cf:α->α->Int) (_:SWO (ltOf cf)) (ft off cap:Nat) (d:Array α) (w:World)
  (_:CmpLays P g cb enc 2 cf ft off d.size w) (_:HoldsK enc 2 w ft off d) (_:ft<w.heap.size) (_:d.size<4611686018427387904),
  Calls P f #[.slice (some ⟨ft,off,none⟩) d.size cap, .func (.func g) #[] cb] w λe w'=>e= .returned (.tuple #[])/\ ∃d' n os,PermIn 0 d.size d d'/\SortedIn (ltOf cf) 0 d.size d'/\w'=sortWorldK enc 2 w ft off n d' os
theorem Hp.but {w W:World} (h:Hp B w0 w R) {i:Nat} {r:Row} (hi:R[i]? =some r) (K:W.os=w.os) (M:W.tape=w.tape) (hu:W.output=w.output) (J:w.drawn<=W.drawn) (hs:w.heap.size<=W.heap.size)
  (hk: ∀k,k<w.heap.size->(∀a,r.A=some a->a.block≠k)->W.heap[k]? =w.heap[k]?):Hp B w0 W (R.eraseIdx i):=by
 have C:r∈R:=gy hi;refine⟨⟨K.trans h.below.os,M.trans h.below.tape,hu.trans h.below.output,pq h.below.size hs,λk g=> ?_⟩,pq h.base hs,λq L=> ?_,h.apart.sublist (List.eraseIdx_sublist _ _),h.late.trans ⟨J,λk o p hc=> ?_⟩⟩
 ·rw[hk k (Nat.lt_of_lt_of_le g h.base) (λa b=>by have:=(Row.lies_lt (h.own r C) a b).1;omega),h.below.block k g]
 ·obtain ⟨j,m⟩:=List.mem_iff_getElem?.1 L
  obtain⟨l,u,H⟩: ∃l,R[l]? =some q/\l≠i:=by
   rw[List.getElem?_eraseIdx] at m;split at m
   ·exact⟨j,m,G⟩
   exact⟨j+1,m,G⟩
  refine Row.lies_of_block (h.own q (gy u)) λa b=>hk a.block (Row.lies_lt (h.own q (gy u)) a b).2 λy D=> ?_;have v:=(gp.1 u).1;have x:=(gp.1 u).2;have d:=(gp.1 hi).1;have rx:=(gp.1 hi).2;rcases Du H with ci|ci
  ·have:=dz.1 h.apart l i v d ci;rw[x,rx] at this;exact λe=>this a y b D e.symm
  have:=dz.1 h.apart i l d v ci;rw[x,rx] at this;exact this y a D b
 rw [hk k (gu.1 p).1 λa b e=> ?_]
 ·exact p
 subst e;obtain⟨cs,e',N,F⟩:=Row.lies_cells (h.own r C) b;rw[F] at p;cases p;cases hc
theorem aLu {f g:Nat} {cb:Array Value} (Yk:aTl P f g cb) {T m c:Nat} {A:AF} {l:AE} (i:Nat) (hi:R[i]? =some ⟨T,2,A,m,c,prs l,false⟩) (u:l≠[]) (Q:l.length<4611686018427387904) (cmp:Int × Int->Int × Int->Int) (hO:SWO (ltOf cmp))
  (Nz: ∀W,Hp B w0 W (R.eraseIdx i)-> ∀x∈l,∀y∈l,
   Ct P g (#[.agg #[.int .i64 x.1, .int .i64 x.2], .agg #[.int .i64 y.1, .int .i64 y.2]]++cb) W.heap.size W [] (λv _=>v= .int .i64 (cmp x y))):
  Ct P f #[.slice A m c, .func (.func g) #[] cb] B w0 R (λv R'=>v= .tuple #[]/\ ∃l',l'.Perm l/\l'.Pairwise (λx y=> ¬cmp y x<0)/\R'=R.set i ⟨T,2,A,m,c,prs l',false⟩):=by
 intro w r;have im:=Row.lies_w (r.own _ (gy hi)) rfl;have io:=Row.rd (r.own _ (gy hi))
 have O:m=l.length:=by
  have:=io.len;rw[kN] at this;simp only at this;omega
 have fm:0<l.length:=List.length_pos_iff.2 u;rcases im.2 with⟨_,hn⟩|⟨h,cap,cur,C,hb,M,q,wi,ns,ht⟩
 ·simp only at hn;omega
 simp only[ko,Al] at C;obtain⟨rfl,rfl⟩:=C;simp only at ht ns M q
 haveI:Inhabited {p:Int × Int//p∈l}:=⟨⟨l[0],mg _⟩⟩
 let d:Array {p:Int × Int//p∈l}:=l.attach.toArray
 have H:d.size=l.length:=by simp[d]
 have Sm:d.toList.map Subtype.val=l:=Ca l;have ci:h<w.heap.size:=(gu.1 M).1
 have hH:HoldsK encP 2 w h 0 d:=by
  intro j N
  have o4:j<l.length*2:=by
   have:j<(flatK encP 2 d).size:=N;rw[size_flatK,H] at this;exact this
  have F:=aAx d;rw[Sm] at F
  have e:(prs l)[j]? =some ((flatK encP 2 d)[j]!):=by
   rw[<-F,rq,qf N,uh _ j N]
  refine⟨?_,?_⟩
  ·rw [oh];exact r.cellAt i hi rfl e
  exact r.openAt i (0+j) hi rfl rfl
 have c5:CmpLays P g cb (encP (l:=l)) 2 (λx y=>cmp x.1 y.1) h 0 d.size w:=by
  intro J os L Un x y
  have hW:w.heap.size<=(sortWorldK (encP (l:=l)) 2 w h 0 J L os).heap.size:=by
   unfold sortWorldK;rw[size_grow];unfold putRowK;rw[Go.Sort.size_putRow];exact Cq _ _
  have hk: ∀k,k<w.heap.size->(∀a:Addr,some (⟨h,0,none⟩:Addr)=some a->a.block≠k)->(sortWorldK (encP (l:=l)) 2 w h 0 J L os).heap[k]? =w.heap[k]? :=by
   intro k hk u;have X:h≠k:=u _ rfl;unfold sortWorldK;rw[heap_grow_old _ _ (by unfold putRowK;rw[Go.Sort.size_putRow];exact hk)];simp[putRowK,putRow,mapBlock,ww,X,Sort.ahead]
  refine(Nz _ (r.but (W:=sortWorldK (encP (l:=l)) 2 w h 0 J L os) hi rfl rfl rfl (by show w.drawn<=w.drawn+J;omega) hW hk) x.1 x.2 y.1 y.2 _ (Hp.refl _)).mono ?_;rintro e w' ⟨v,R',rfl,hh,rfl⟩;exact⟨rfl,VM hh.below hh.late.1⟩
 have Yh:SWO (ltOf λ(x y: {p:Int × Int//p∈l})=>cmp x.1 y.1):=⟨λx=>hO.irrefl x.1,λx y z=>hO.trans x.1 y.1 z.1,λx y z=>hO.ntrans x.1 y.1 z.1⟩;have g8:=Yk _ encP (λ_=>rfl) (λx v C=>by simp[encP] at C;rcases C with rfl|rfl<;>rfl) _ Yh h 0 c d w c5 hH ci (by rw[H];exact Q);rw[H,<-O] at g8;refine g8.mono ?_;rintro e w' ⟨rfl,o,n,os,⟨ge,_,rh⟩,Hx,rfl⟩;have Y:o.size=l.length:=by rw[ge,H]
 refine⟨_,_,rfl,?_,rfl,o.toList.map Subtype.val,?_,?_,rfl⟩
 ·have Of:(sortWorldK encP 2 w h 0 n o os).heap[h]? =some (.cells (putCells id 0 (flatK encP 2 o) cur) T (0,0)):=by
   unfold sortWorldK;rw[heap_grow_old _ _ (by unfold putRowK;rw[Go.Sort.size_putRow];exact ci)];simp[putRowK,putRow,mapBlock,ww,Sort.ahead,M,onCells]
  refine r.upd hi (row:=some h) ⟨rfl,rfl,rfl,?_,λk hk u=> ?_⟩ ?_ (λk hk=> ?_) ?_ (λa' re=> .inl ⟨a',re,rfl⟩)
  ·unfold sortWorldK;rw[size_grow];unfold putRowK;rw[Go.Sort.size_putRow];exact Cq _ _
  ·have X:h≠k:=λe=>u (by rw[e]);unfold sortWorldK;rw[heap_grow_old _ _ (by unfold putRowK;rw[Go.Sort.size_putRow];exact hk)];simp[putRowK,putRow,mapBlock,ww,X,Sort.ahead]
  ·show w.drawn<=w.drawn+n;omega
  ·obtain rfl:=fo hk;exact⟨_,rfl,rfl⟩
  unfold Row.lies;simp only;refine⟨by rw[kN,bn,jy,Y,O], .inr ⟨h,c,_,rfl,hb,Of,q,wi,?_,?_⟩⟩
  ·simp only[putCells,Array.size_mapIdx];exact ns
  have F:=aAx o;rw[<-F];have D:(flatK encP 2 o).size=m*2:=by rw[size_flatK,Y,O]
  apply vk;intro t;rw[qi];split
  ·rename_i K
   have S:t<cur.size:=by
    have:m*2<=c*2:=vo _ q;omega
   rw[rq,rq,qf (by simp[putCells];exact S),qf (by rw[D];exact K)];simp only[putCells,Gc,id];rw[cz ⟨oq _,by rw[oh,D];exact K⟩,yx,uh _ t (by rw[D];exact K)]
  rename_i K;rw[nu (by rw[jy,D];omega)]
 ·have e1:(o.extract 0 m).toList=o.toList:=by rw[show m=o.size by omega];simp
  have e2:(d.extract 0 m).toList=d.toList:=by rw[show m=d.size by omega];simp
  rw[e1,e2] at rh;have:=rh.map Subtype.val;rwa[Sm] at this
 refine iv.2 (dz.2 λa b ha Ld m6=> ?_);rw[jy] at ha Ld;have h1:=Hx a b (oq _) m6 G;rw[uh o a ha,uh o b Ld] at h1;simp only[ltOf,si] at h1;simpa using h1
end
section
variable {P:Program} {B:Nat} {w0:World} {R:List Row}
def bIq (P:Program) (f g:Nat) (cb:Array Value) (k:Nat):Prop:=
 ∀(α:Type) [Inhabited α] (enc:α->AG) (_: ∀x,(enc x).length=k) (_: ∀x,∀v∈enc x,v.oneCell'=true) (cf:α->α->Int) (_:SWO (ltOf cf)) (ft off cap:Nat) (d:Array α) (w:World)
  (_:CmpLays P g cb enc k cf ft off d.size w) (_:HoldsK enc k w ft off d) (_:ft<w.heap.size) (_:d.size<4611686018427387904),
  Calls P f #[.slice (some ⟨ft,off,none⟩) d.size cap, .func (.func g) #[] cb] w λe w'=>e= .returned (.tuple #[])/\ ∃d' n os,PermIn 0 d.size d d'/\SortedIn (ltOf cf) 0 d.size d'/\w'=sortWorldK enc k w ft off n d' os
def bIr (P:Program) (f g:Nat) (cb:Array Value):Prop:=
 ∀(α:Type) [Inhabited α] (enc:α->Value) (_:OneCell enc) (cf:α->α->Int) (_:SWO (ltOf cf)) (ft off cap:Nat) (d:Array α) (w:World)
  (_:CmpLays1 P g cb enc cf ft off d.size w) (_:Holds enc w ft off d) (_:ft<w.heap.size) (_:d.size<4611686018427387904),
  Calls P f #[.slice (some ⟨ft,off,none⟩) d.size cap, .func (.func g) #[] cb] w λe w'=>e= .returned (.tuple #[])/\ ∃d' n os,PermIn 0 d.size d d'/\SortedIn (ltOf cf) 0 d.size d'/\w'=sortWorld enc w ft off n d' os
def EY (P:Program) (f:Nat):Prop:= ∀(p:AF) (cap:Nat) (fv:Value) (w:World),Calls P f #[.slice p 0 cap,fv] w λe w'=>e= .returned (.tuple #[])/\w'=w
theorem Hp.putRow {w:World} (q:Hp B w0 w R) {i T k m c a:Nat} {vs:AG} (hi:R[i]? =some ⟨T,k,some ⟨a,0,none⟩,m,c,vs,false⟩) (xs:Array Value) (b:xs.size=m*k) (n:Nat) (os:Array Obj):
  Hp B w0 (grow (putRow id (Sort.ahead w n) a 0 xs) os) (R.set i ⟨T,k,some ⟨a,0,none⟩,m,c,xs.toList,false⟩)/\Hp B w0 (grow (putRow id (Sort.ahead w n) a 0 xs) os) (R.eraseIdx i):=by
 have C:=Row.lies_w (q.own _ (gy hi)) rfl;rcases C.2 with⟨j,hn⟩|⟨g,cap,cur,j,hb,o,d,H,r,A⟩
 ·simp at j
 simp only[ko,jl,Br,Az,Al] at j;obtain⟨rfl,rfl⟩:=j;simp only at A r o d hb;have ci:a<w.heap.size:=(gu.1 o).1
 have h:w.heap.size<=(grow (Go.Sort.putRow id (Sort.ahead w n) a 0 xs) os).heap.size:=by
  rw[size_grow,Go.Sort.size_putRow];exact Cq _ _
 have hk: ∀k,k<w.heap.size->a≠k->(grow (Go.Sort.putRow id (Sort.ahead w n) a 0 xs) os).heap[k]? =w.heap[k]? :=by
  intro k hk D;rw[heap_grow_old _ _ (by rw[Go.Sort.size_putRow];exact hk)];simp[Go.Sort.putRow,mapBlock,ww,D,Sort.ahead]
 have u:(grow (Go.Sort.putRow id (Sort.ahead w n) a 0 xs) os).heap[a]? =some (.cells (putCells id 0 xs cur) T (0,0)):=by
  rw[heap_grow_old _ _ (by rw[Go.Sort.size_putRow];exact ci)];simp[Go.Sort.putRow,mapBlock,ww,Sort.ahead,o,onCells]
 refine⟨?_,q.but hi rfl rfl rfl (by show w.drawn<=w.drawn+n;omega) h λk h1 y=>hk k h1 (y _ rfl)⟩;refine q.upd hi (row:=some a) ⟨rfl,rfl,rfl,h,λk h1 x=>hk k h1 λe=>x (by rw[e])⟩ ?_ (λk hk=> ?_) ?_ (λv F=> .inl ⟨v,F,rfl⟩)
 ·show w.drawn<=w.drawn+n;omega
 ·obtain rfl:=fo hk;exact⟨_,rfl,rfl⟩
 unfold Row.lies;simp only;refine⟨by rw[jy,b], .inr ⟨a,c,_,rfl,hb,u,d,H,?_,?_⟩⟩
 ·simp only[putCells,Array.size_mapIdx];exact r
 apply vk;intro t;rw[qi];split
 ·rename_i l
  have p:t<cur.size:=by
   have:m*k<=c*k:=vo _ d;omega
  rw[rq,rq,qf (by simp[putCells];exact p),qf (by rw[b];exact l)];simp only[putCells,Gc,id];rw[cz ⟨oq _,by rw[oh,b];exact l⟩,yx,uh _ t (by rw[b];exact l)]
 rename_i l;rw[nu (by rw[jy,b];omega)]
theorem VV {α:Type} [Inhabited α] {enc:α->AG} {k:Nat} (hk: ∀x,(enc x).length=k) (d:Array α):(flatK enc k d).toList=d.toList.flatMap enc:=by
 have hlen: ∀l:List α,(l.flatMap enc).length=l.length*k:=λl=>by
  induction l with
  |nil=>simp
  |cons x l ih=>rw[Ah,aa,ih,hk,dh,yj];omega
 have a: ∀(l:List α) (t:Nat) (x:α),0<k->l[t/k]? =some x->(l.flatMap enc)[t]? =(enc x)[t%k]? :=λl=>by
  induction l with
  |nil=>intro t x _ h;simp at h
  | cons y l ih=>
   intro t x k0 h;rw[Ah];rcases gm t k with g|g
   ·rw [Fu g] at h;simp only[List.getElem?_cons_zero,jl] at h;subst h;rw[jh (by rw[hk];exact g),lm g]
   have e:t/k=(t-k)/k+1:=by
    rw[<-uj g,Nat.add_div_right _ k0];simp
   rw[e,Ed] at h;rw[ji (by rw[hk];exact g),hk,ih (t-k) x k0 h,<-zw g]
 apply vk;intro t;have hs:(flatK enc k d).size=d.size*k:=size_flatK _ _ _;rcases gm t (d.size*k) with h|h
 ·have k0:0<k:=Bh λe=>by subst e;simp at h
  have b:t/k<d.size:=Nat.div_lt_of_lt_mul (by rw[Ai];exact h)
  have j:(flatK enc k d)[t]? =some ((flatK enc k d)[t]!):=by
   rw[qf (by rw[hs];exact h),uh _ t (by rw[hs];exact h)]
  rw[rq,j,get_flatK enc k d t h,a d.toList t d[t/k] k0 (by rw[rq,qf b]),uh d _ b];have i:t%k<(enc d[t/k]).length:=by rw[hk];exact yh _ k0
  rw[au i,uh (enc d[t/k]) (t%k) i]
 rw[nu (by rw[jy,hs];exact h),nu (by rw[hlen,jy];exact h)]
theorem bFh {α:Type} {enc:α->AG} {k:Nat} (hk: ∀x,(enc x).length=k) (l:List α):(l.flatMap enc).length=l.length*k:=by
 induction l with
 |nil=>simp
 |cons x l ih=>rw[Ah,aa,ih,hk,dh,yj];omega
theorem BB {α:Type} [Inhabited α] {d a:Array α} (h:PermIn 0 d.size d a):a.toList.Perm d.toList:=by
 obtain⟨hs,_,hp⟩:=h;have b:(a.extract 0 d.size).toList=a.toList:=by rw[<-hs];simp
 have e:(d.extract 0 d.size).toList=d.toList:=cD
 rw[b,e] at hp;exact hp
theorem FK {α:Type} [Inhabited α] {g:α->α->Int} {d:Array α} {n:Nat} (h:SortedIn (ltOf g) 0 n d) (hn:d.size=n):d.toList.Pairwise λx y=> ¬g y x<0:=by
 refine dz.2 λa b i e m6=> ?_;rw[jy] at i e;have h1:=h a b (oq _) m6 G;rw[uh d a i,uh d b e] at h1;simp only[ltOf,si] at h1;simpa using h1
theorem aRj {w:World} (a:Hp B w0 w R) {i T k c:Nat} {A:AF} {vs:AG} (hi:R[i]? =some ⟨T,k,A,0,c,vs,false⟩):R.set i ⟨T,k,A,0,c,[],false⟩=R/\vs=[]:=by
 have b:=Row.lies_w (a.own _ (gy hi)) rfl;have hl:=b.1;simp only[Bi] at hl;obtain rfl:=di hl;refine⟨?_,rfl⟩;apply vk;intro j;rw[xx];split
 ·rename_i h;subst h;split
  ·exact hi.symm
  rename_i d;rw[nu G]
 rfl
theorem aLv {α:Type} {f g k:Nat} {cb:Array Value} {enc:α->AG} (Yk:bIq P f g cb k) (Yj:EY P f) (hk: ∀x,(enc x).length=k) (h1: ∀x,∀v∈enc x,v.oneCell'=true) {T c:Nat} {A:AF} {l:List α} (i:Nat) (hi:R[i]? =some ⟨T,k,A,l.length,c,l.flatMap enc,false⟩) (C:l.length<4611686018427387904) (cmp:α->α->Int) (hO:SWO (ltOf cmp))
  (Nz: ∀W,Hp B w0 W (R.eraseIdx i)-> ∀x∈l,∀y∈l,
   Ct P g (#[.agg (enc x).toArray, .agg (enc y).toArray]++cb) W.heap.size W [] (λv _=>v= .int .i64 (cmp x y))):
  Ct P f #[.slice A l.length c, .func (.func g) #[] cb] B w0 R (λv R'=>v= .tuple #[]/\ ∃l':List α,l'.Perm l/\l'.Pairwise (λx y=> ¬cmp y x<0)/\R'=R.set i ⟨T,k,A,l'.length,c,l'.flatMap enc,false⟩):=by
 intro w a;rcases l with _|⟨x0,l0⟩
 ·refine (Yj A c _ w).mono ?_;rintro e w' ⟨rfl,rfl⟩;obtain⟨h1,h2⟩:=aRj a hi;exact⟨_,_,rfl,a,rfl,[], .refl _, .nil,h1.symm⟩
 generalize hl:x0::l0=l at*;have fm:0<l.length:=by rw[<-hl];simp
 have im:=Row.lies_w (a.own _ (gy hi)) rfl;rcases im.2 with⟨_,hn⟩|⟨h,cap,cur,S,hb,O,u,wi,ns,ht⟩
 ·simp only at hn;omega
 simp only[ko,Al] at S;obtain⟨rfl,rfl⟩:=S;simp only at ht ns O u
 haveI:Inhabited {p:α//p∈l}:=⟨⟨l[0],mg _⟩⟩
 obtain⟨d,M⟩: ∃d:Array {p:α//p∈l},d=l.attach.toArray:=⟨_,rfl⟩;have b:d.size=l.length:=by rw[M];simp
 have J:d.toList.map Subtype.val=l:=by rw[M];exact Ca l
 have F: ∀x: {p:α//p∈l},(enc x.1).length=k:=λx=>hk x.1;have m: ∀e:List {p:α//p∈l},e.flatMap (λx=>enc x.1)=(e.map Subtype.val).flatMap enc:=λe=>by rw[List.flatMap_map]
 have ci:h<w.heap.size:=(gu.1 O).1
 have hH:HoldsK (λx: {p:α//p∈l}=>enc x.1) k w h 0 d:=by
  intro j r
  have o4:j<l.length*k:=by
   have:j<(flatK (λx: {p:α//p∈l}=>enc x.1) k d).size:=r;rw[size_flatK,b] at this;exact this
  have N:=VV F d;rw[m,J] at N
  have e:(l.flatMap enc)[j]? =some ((flatK (λx: {p:α//p∈l}=>enc x.1) k d)[j]!):=by
   rw[<-N,rq,qf r,uh _ j r]
  refine⟨?_,?_⟩
  ·rw [oh];exact a.cellAt i hi rfl e
  exact a.openAt i (0+j) hi rfl rfl
 have c5:CmpLays P g cb (λx: {p:α//p∈l}=>enc x.1) k (λx y=>cmp x.1 y.1) h 0 d.size w:=by
  intro X os L Un x y;have q:=(a.putRow hi (flatK (λx: {p:α//p∈l}=>enc x.1) k L) (by rw[size_flatK,Un,b]) X os).2;refine(Nz (sortWorldK (λx: {p:α//p∈l}=>enc x.1) k w h 0 X L os) q x.1 x.2 y.1 y.2 _ (Hp.refl _)).mono ?_;rintro e w' ⟨v,R',rfl,Q,rfl⟩;exact⟨rfl,VM Q.below Q.late.1⟩
 have Yh:SWO (ltOf λ(x y: {p:α//p∈l})=>cmp x.1 y.1):=⟨λx=>hO.irrefl x.1,λx y z=>hO.trans x.1 y.1 z.1,λx y z=>hO.ntrans x.1 y.1 z.1⟩;have g8:=Yk _ (λx: {p:α//p∈l}=>enc x.1) F (λx=>h1 x.1) _ Yh h 0 c d w c5 hH ci (by rw[b];exact C);rw[b] at g8;refine g8.mono ?_;rintro e w' ⟨rfl,o,n,os,D,Y,rfl⟩;rw[<-b] at D;have H:o.size=l.length:=by rw[D.1,b]
 have q:=(a.putRow hi (flatK (λx: {p:α//p∈l}=>enc x.1) k o) (by rw[size_flatK,H]) n os).1;rw[VV F,m] at q
 have K:(o.toList.map Subtype.val).Perm l:=by
  have:=(BB D).map Subtype.val;rwa[J] at this
 refine⟨_,_,rfl,q,rfl,o.toList.map Subtype.val,K,?_,?_⟩
 ·exact iv.2 (FK Y H)
 rw[K.length_eq]
theorem aLw {α:Type} {f g:Nat} {cb:Array Value} {enc:α->Value} (Yk:bIr P f g cb) (Yj:EY P f) (h1: ∀x,(enc x).oneCell'=true) {T c:Nat} {A:AF} {l:List α} (i:Nat) (hi:R[i]? =some ⟨T,1,A,l.length,c,l.map enc,false⟩) (C:l.length<4611686018427387904) (cmp:α->α->Int) (hO:SWO (ltOf cmp))
  (S: ∀W,Hp B w0 W (R.eraseIdx i)-> ∀x∈l,∀y∈l,
   Ct P g (#[enc x,enc y]++cb) W.heap.size W [] (λv _=>v= .int .i64 (cmp x y))):
  Ct P f #[.slice A l.length c, .func (.func g) #[] cb] B w0 R (λv R'=>v= .tuple #[]/\ ∃l':List α,l'.Perm l/\l'.Pairwise (λx y=> ¬cmp y x<0)/\R'=R.set i ⟨T,1,A,l'.length,c,l'.map enc,false⟩):=by
 intro w k;rcases l with _|⟨x0,l0⟩
 ·refine (Yj A c _ w).mono ?_;rintro e w' ⟨rfl,rfl⟩;obtain⟨h1,h2⟩:=aRj k hi;exact⟨_,_,rfl,k,rfl,[], .refl _, .nil,h1.symm⟩
 generalize hl:x0::l0=l at*;have fm:0<l.length:=by rw[<-hl];simp
 have im:=Row.lies_w (k.own _ (gy hi)) rfl;rcases im.2 with⟨_,hn⟩|⟨h,cap,cur,N,hb,L,u,wi,ns,ht⟩
 ·simp only at hn;omega
 simp only[ko,Al] at N;obtain⟨rfl,rfl⟩:=N;simp only at ht ns L u
 haveI:Inhabited {p:α//p∈l}:=⟨⟨l[0],mg _⟩⟩
 obtain⟨d,K⟩: ∃d:Array {p:α//p∈l},d=l.attach.toArray:=⟨_,rfl⟩;have q:d.size=l.length:=by rw[K];simp
 have H:d.toList.map Subtype.val=l:=by rw[K];exact Ca l
 have ci:h<w.heap.size:=(gu.1 L).1
 have b: ∀(W:World) (a:Array {p:α//p∈l}),putRow (λx: {p:α//p∈l}=>enc x.1) W h 0 a=putRow id W h 0 (a.map λx=>enc x.1):=by
  intro W a;unfold putRow;congr 1;funext cs;unfold putCells;apply Array.ext
  ·simp
  intro j h1 h2;simp only[Gc,Array.size_map,id,yx,oh];split
  ·rename_i hc;rw[uh a j hc.2,uh (a.map λx=>enc x.1) j (by simpa using hc.2)];simp
  rfl
 have hH:Holds (λx: {p:α//p∈l}=>enc x.1) w h 0 d:=by
  intro j r;have o4:j<l.length:=by rw[<-q];exact r
  have e:(l.map enc)[j]? =some (enc d[j]!.1):=by
   have e0:(d.toList.map λx=>enc x.1)=l.map enc:=by
    conv=>rhs;rw[<-H]
    rw[qp];rfl
   rw[<-e0,mr,rq,qf r,uh d j r];rfl
  refine⟨?_,?_⟩
  ·rw [oh];exact k.cellAt i hi rfl e
  exact k.openAt i (0+j) hi rfl rfl
 have c5:CmpLays1 P g cb (λx: {p:α//p∈l}=>enc x.1) (λx y=>cmp x.1 y.1) h 0 d.size w:=by
  intro O os a X x y;have o:=(k.putRow hi (a.map λx=>enc x.1) (by simp[X,q]) O os).2;rw[<-b] at o;refine(S (sortWorld (λx: {p:α//p∈l}=>enc x.1) w h 0 O a os) o x.1 x.2 y.1 y.2 _ (Hp.refl _)).mono ?_;rintro e w' ⟨v,R',rfl,M,rfl⟩;exact⟨rfl,VM M.below M.late.1⟩
 have Y:SWO (ltOf λ(x y: {p:α//p∈l})=>cmp x.1 y.1):=⟨λx=>hO.irrefl x.1,λx y z=>hO.trans x.1 y.1 z.1,λx y z=>hO.ntrans x.1 y.1 z.1⟩;have g8:=Yk _ (λx: {p:α//p∈l}=>enc x.1) (λx=>h1 x.1) _ Y h 0 c d w c5 hH ci (by rw[q];exact C);rw[q] at g8;refine g8.mono ?_;rintro e w' ⟨rfl,m,n,os,D,Q,rfl⟩;rw[<-q] at D;have F:m.size=l.length:=by rw[D.1,q]
 have o:=(k.putRow hi (m.map λx=>enc x.1) (by simp[F]) n os).1;rw[<-b] at o
 have J:(m.toList.map Subtype.val).Perm l:=by
  have:=(BB D).map Subtype.val;rwa[H] at this
 have em:(m.map λx=>enc x.1).toList=(m.toList.map Subtype.val).map enc:=cD
 rw[em] at o;refine⟨_,_,rfl,o,rfl,m.toList.map Subtype.val,J,?_,?_⟩
 ·exact iv.2 (FK Q F)
 rw[J.length_eq]
end
section
variable {P:Program} {B:Nat} {w0:World} {R:List Row}
def bUe (P:Program) (f:Nat):Prop:= ∀(ft off cap:Nat) (zs:AH) (w:World) (_:Holds (Value.int .i64) w ft off zs.toArray) (_:ft<w.heap.size) (_:zs.length<4611686018427387904),
 Calls P f #[.slice (some ⟨ft,off,none⟩) zs.length cap] w λe w'=>e= .returned (.tuple #[])/\ ∃n os,w'=grow (putRow (Value.int .i64) (Sort.ahead w n) ft off (zs.mergeSort λx y=>decide (x<=y)).toArray) os
def bOc (P:Program) (f:Nat):Prop:= ∀(p:AF) (cap:Nat) (w:World),Calls P f #[.slice p 0 cap] w λe w'=>e= .returned (.tuple #[])/\w'=w
def bUg (P:Program) (f:Nat):Prop:= ∀(b off n c:Nat) (zs:AH) (x:Int) (w:World) (_:n<=zs.length) (_:n<4611686018427387904) (_: ∀j,j<zs.length->w.cell? ⟨b,off+j,none⟩=some (.int .i64 (zs.getD j 0))) (_:(zs.take n).Pairwise (· <= ·)),
 Calls P f #[.slice (some ⟨b,off,none⟩) n c, .int .i64 x] w λe w'=>e= .returned (.tuple #[.int .i64 ((zs.take n).countP (· <x):Nat), .bool ((zs.take n).contains x)])/\ ∃q,w'=w.drewN q
def bOe (P:Program) (f:Nat):Prop:= ∀(a:AF) (c:Nat) (x:Int) (w:World),Calls P f #[.slice a 0 c, .int .i64 x] w λe w'=>e= .returned (.tuple #[.int .i64 0, .bool false])/\w'=w
def qM (l:AH):AH:=l.mergeSort λx y=>decide (x<=y)
theorem oL (l:AH):(qM l).Perm l:=List.mergeSort_perm _ _
theorem JD (l:AH):(qM l).Pairwise (· <= ·):=by
 have:=List.pairwise_mergeSort (le:=λx y:Int=>decide (x<=y)) (λa b c h1 d=>by simp at*;omega) (λa b=>cJ) l;exact this.imp λh=>by simpa using h
theorem aUe {f:Nat} (F:bUe P f) (y:bOc P f) {T m c:Nat} {A:AF} {l:AH} (i:Nat) (hi:R[i]? =some ⟨T,1,A,m,c,ints .i64 l,false⟩) (q:l.length<4611686018427387904):
  Ct P f #[.slice A m c] B w0 R (λv R'=>v= .tuple #[]/\R'=R.set i ⟨T,1,A,m,c,ints .i64 (qM l),false⟩):=by
 intro w d;have J:=Row.lies_w (d.own _ (gy hi)) rfl;have io:=Row.rd (d.own _ (gy hi));obtain rfl:m=l.length:=io.lenI;rcases J.2 with⟨r,hn⟩|⟨b,cap,cur,r,hb,p,o,M,x,H⟩
 ·simp only at hn;have hl:l=[]:=di hn;subst hl;refine(y A c w).mono ?_;rintro e w' ⟨rfl,rfl⟩;refine⟨_,_,rfl,?_,rfl,rfl⟩;have e:qM []=[]:=by simp[qM]
  rw[e]
  have:R.set i ⟨T,1,A,([]:AH).length,c,ints .i64 [],false⟩=R:=by
   apply vk;intro k;rw[xx];split
   ·rename_i h;subst h;split
    ·exact hi.symm
    rename_i N;rw[nu G]
   rfl
  rw[this];exact d
 simp only[ko,Al] at r;obtain⟨rfl,rfl⟩:=r;simp only at H x p o;have ci:b<w.heap.size:=(gu.1 p).1
 have hH:Holds (Value.int .i64) w b 0 l.toArray:=by
  intro j u;have K:j<l.length:=by simpa using u
  have e:(ints .i64 l)[j]? =some (.int .i64 (l.toArray[j]!)):=by
   rw[uh l.toArray j u];simp[ints,K]
  refine⟨?_,?_⟩
  ·rw [oh];exact d.cellAt i hi rfl e
  exact d.openAt i (0+j) hi rfl rfl
 refine(F b 0 c l w hH ci q).mono ?_;rintro e w' ⟨rfl,n,os,rfl⟩;refine⟨_,_,rfl,?_,rfl,rfl⟩;have a:=ownsRow_sorted_i (w:=w) (base:=B) (g:=b) (cap:=c) (n:=n) (e:=T) (os:=os) (cur:=cur) (ss:=l) (ts:=qM l) (oL l).length_eq hb p o M x;have C:=grownBy_sorted_i (w:=w) (g:=b) (n:=n) (os:=os) (qM l).toArray;refine d.upd hi (row:=some b) C ?_ (λk hk=> ?_) ?_ (λD L=> .inl ⟨D,L,rfl⟩)
 ·show w.drawn<=w.drawn+n;omega
 ·obtain rfl:=fo hk;exact⟨_,rfl,rfl⟩
 exact a
theorem aWr {f:Nat} (o:bUg P f) (b:bOe P f) {T m c:Nat} {A:AF} {l:AH} {x:Int} (i:Nat) (hi:R[i]? =some ⟨T,1,A,m,c,ints .i64 l,false⟩) (d:l.length<4611686018427387904) (hs:l.Pairwise (· <= ·)):
  Ct P f #[.slice A m c, .int .i64 x] B w0 R (λv R'=>v= .tuple #[.int .i64 (l.countP (· <x):Nat), .bool (l.contains x)]/\R'=R):=by
 intro w a;have u:=Row.lies_w (a.own _ (gy hi)) rfl;have io:=Row.rd (a.own _ (gy hi));obtain rfl:m=l.length:=io.lenI;rcases u.2 with⟨g,hn⟩|⟨k,cap,cur,g,hb,y,r,F,D,C⟩
 ·simp only at hn;have hl:l=[]:=di hn;subst hl;refine(b A c x w).mono ?_;rintro e w' ⟨rfl,rfl⟩;exact⟨_,_,rfl,a,rfl,rfl⟩
 simp only[ko,Al] at g;obtain⟨rfl,rfl⟩:=g;have h:l.take l.length=l:=qa
 have:=o k 0 l.length c l x w (dn _) d (λj p=>by
  rw[oh]
  exact a.cellAt i hi rfl (by simp[ints,af,p])) (by rw[h];exact hs)
 rw[h] at this;refine this.mono ?_;rintro e w' ⟨rfl,q,rfl⟩;exact⟨_,_,rfl,a.drawn _ (Cq _ _),rfl,rfl⟩
end
end Go.Eng
namespace Go.Eng
open Go Go.RowKit
section
variable {P:Program} {n:Nd} {B:Nat} {w0 w00:World} {F:Exit->Act->World->Prop} {L:Env} {R:List Row}
def LF {σ:Type} (F:Exit->Act->World->Prop) (m B:Nat) (w00 w0:World) (Lx:σ->Env) (Rx:σ->List Row) (K:σ->Prop):Exit->Act->World->Prop
 | .normal,a,w=> ∃s ds W,K s/\Below B w0 W/\Gd B w00 ⟨m,ds,none⟩ W/\Sat ⟨m,ds,none⟩ (Lx s) a/\Hp B W w (Rx s)
 |e,a,w=>F e a w
theorem bRg {σ:Type} {m:Nat} {ds:List Deferred} {c:Code} (Lx:σ->Env) (Rx:σ->List Row) (J:σ->Prop) (μ:σ->Nat) (u:Fam B w0 Lx Rx J L R) (v:Gd B w00 ⟨m,ds,none⟩ w0)
  (round: ∀s ds W,J s->Below B w0 W->Gd B w00 ⟨m,ds,none⟩ W->V P ⟨m,ds,none⟩ B W c (LF F m B w00 w0 Lx Rx λy=>J y/\μ y<μ s) (Lx s) (Rx s)):V P ⟨m,ds,none⟩ B w0 (.loop c) F L R:=by
 intro a w hs hp;obtain⟨x0,o,h,p⟩:=u;refine wpIn_loop_ghost (λk a w=> ∃x ds W,μ x=k/\J x/\Below B w0 W/\Gd B w00 ⟨m,ds,none⟩ W/\Sat ⟨m,ds,none⟩ (Lx x) a/\Hp B W w (Rx x)) (μ x0) ⟨x0,ds,w0,rfl,o,Fj _ _,v,hs.sub h,p w hp⟩ ?_;rintro k a w ⟨x,ds,W,rfl,A,hb,C,hs,hp⟩;refine Ba (round x ds W A hb C a w hs hp) ?_;intro e D w' b;cases e with
 |normal=>
  obtain⟨y,d,q,⟨g,ci⟩,j,i,ge,r⟩:=b;exact⟨μ y,ci,y,d,q,rfl,g,j,i,ge,r⟩
 |exit id=>exact b
 |goto l=>exact b
 |ret=>exact b
 |panic ch=>exact b
 |outgrown=>exact b
theorem bJh {σ:Type} {m:Nat} {ds:List Deferred} {W:World} {Lx:σ->Env} {Rx:σ->List Row} {K:σ->Prop} (hb:Below B w0 W) (b:Gd B w00 ⟨m,ds,none⟩ W) (h:Fam B W Lx Rx K L R):VN ⟨m,ds,none⟩ B W (LF F m B w00 w0 Lx Rx K) L R:=λa w hs hp=>by
 obtain⟨s,d,e,hR⟩:=h;exact⟨s,ds,W,d,hb,b,hs.sub e,hR w hp⟩
def VX (n:Nd) (B:Nat) (w0:World) (F:Exit->Act->World->Prop) (i:Nat) (L:Env) (R:List Row):Prop:= ∀a w,Sat n L a->Hp B w0 w R->F (.exit i) a w
theorem bRh {i:Nat} (h:VX n B w0 F i L R):(FQ F n B w0).ext i L R:=h
theorem bUv {σ:Type} {m i:Nat} {W:World} {Lx:σ->Env} {Rx:σ->List Row} {K:σ->Prop} (h:VX n B W F i L R):VX n B W (LF F m B w00 w0 Lx Rx K) i L R:=h
theorem bUw {i:Nat} (h:VN n B w0 F L R):VX n B w0 (Exit.inBlock i F) i L R:=λa w hs hp=>by
 show(if i=i then F .normal a w else F (.exit i) a w);rw[cz rfl];exact h a w hs hp
theorem bJg {i j k l n o q:Type} {m:Nat} {ds:List Deferred} {c:Code} (Lx:i->j->k->l->n->o->q->Env) (Rx:i->j->k->l->n->o->q->List Row) (J:i->j->k->l->n->o->q->Prop) (μ:i->j->k->l->n->o->q->Nat)
  (r: ∃a b d e f g h,J a b d e f g h/\Sub (Lx a b d e f g h) L/\ ∀w,Hp B w0 w R->Hp B w0 w (Rx a b d e f g h)) (x:Gd B w00 ⟨m,ds,none⟩ w0)
  (round: ∀a b d e f g h ds W,J a b d e f g h->Below B w0 W->Gd B w00 ⟨m,ds,none⟩ W->V P ⟨m,ds,none⟩ B W c (LF F m B w00 w0 (λp:i × j × k × l × n × o × q=>Lx p.1 p.2.1 p.2.2.1 p.2.2.2.1 p.2.2.2.2.1 p.2.2.2.2.2.1 p.2.2.2.2.2.2) (λp=>Rx p.1 p.2.1 p.2.2.1 p.2.2.2.1 p.2.2.2.2.1 p.2.2.2.2.2.1 p.2.2.2.2.2.2) (λp=>J p.1 p.2.1 p.2.2.1 p.2.2.2.1 p.2.2.2.2.1 p.2.2.2.2.2.1 p.2.2.2.2.2.2/\μ p.1 p.2.1 p.2.2.1 p.2.2.2.1 p.2.2.2.2.1 p.2.2.2.2.2.1 p.2.2.2.2.2.2<μ a b d e f g h)) (Lx a b d e f g h) (Rx a b d e f g h)):V P ⟨m,ds,none⟩ B w0 (.loop c) F L R:=by
 obtain⟨a,b,d,e,f,g,h,h1,u,v⟩:=r;exact bRg (σ:=i × j × k × l × n × o × q) (λp=>Lx p.1 p.2.1 p.2.2.1 p.2.2.2.1 p.2.2.2.2.1 p.2.2.2.2.2.1 p.2.2.2.2.2.2) (λp=>Rx p.1 p.2.1 p.2.2.1 p.2.2.2.1 p.2.2.2.2.1 p.2.2.2.2.2.1 p.2.2.2.2.2.2) (λp=>J p.1 p.2.1 p.2.2.1 p.2.2.2.1 p.2.2.2.2.1 p.2.2.2.2.2.1 p.2.2.2.2.2.2) (λp=>μ p.1 p.2.1 p.2.2.1 p.2.2.2.1 p.2.2.2.2.1 p.2.2.2.2.2.1 p.2.2.2.2.2.2) ⟨(a,b,d,e,f,g,h),h1,u,v⟩ x λp ds W hp hb y=>round p.1 p.2.1 p.2.2.1 p.2.2.2.1 p.2.2.2.2.1 p.2.2.2.2.2.1 p.2.2.2.2.2.2 ds W hp hb y
theorem aZp {i j k l n o q:Type} {m M:Nat} {ds:List Deferred} {W:World} {Lx:i->j->k->l->n->o->q->Env} {Rx:i->j->k->l->n->o->q->List Row} {J:i->j->k->l->n->o->q->Prop} {μ:i->j->k->l->n->o->q->Nat} (hb:Below B w0 W) (r:Gd B w00 ⟨m,ds,none⟩ W)
  (h: ∃a b c d e f g,J a b c d e f g/\μ a b c d e f g<M/\Sub (Lx a b c d e f g) L/\ ∀w,Hp B W w R->Hp B W w (Rx a b c d e f g)):VN ⟨m,ds,none⟩ B W (LF F m B w00 w0 (λp:i × j × k × l × n × o × q=>Lx p.1 p.2.1 p.2.2.1 p.2.2.2.1 p.2.2.2.2.1 p.2.2.2.2.2.1 p.2.2.2.2.2.2) (λp=>Rx p.1 p.2.1 p.2.2.1 p.2.2.2.1 p.2.2.2.2.1 p.2.2.2.2.2.1 p.2.2.2.2.2.2) (λp=>J p.1 p.2.1 p.2.2.1 p.2.2.2.1 p.2.2.2.2.1 p.2.2.2.2.2.1 p.2.2.2.2.2.2/\μ p.1 p.2.1 p.2.2.1 p.2.2.2.1 p.2.2.2.2.1 p.2.2.2.2.2.1 p.2.2.2.2.2.2<M)) L R:=by
 obtain⟨a,b,c,d,e,f,g,g1,g2,g3,g4⟩:=h;exact bJh hb r ⟨(a,b,c,d,e,f,g),⟨g1,g2⟩,g3,g4⟩
end
end Go.Eng
namespace Go.Eng
open Go Go.ChangeShapes Go.WideShapes Go.RowKit
section
variable {H:Type} {enc:TypeId × Value->H} {P:Program} {w:World} {base:Nat} {held:Bool}
theorem aUk {t:TypeId} {f0 f1:Field} {ts:List TypeId} {ds:List (DataW H)} {a b:DataW H} (h:(DataW.weightsEach P (t::ts) (.agg [a,b]::ds)).all (· <=reachBytes)=true) (hu:P.underlying t=some (.struct #[f0,f1])):(DataW.weightsEach P [f0.type,f1.type] [a,b]).all (· <=reachBytes)=true:=by
 simp only[DataW.weightsEach,DataW.weights,hu,List.all_append,lv] at h;exact h.1
theorem aLz {e t0 t1:TypeId} {k:IntKind} {zs rs:AH} {d:DataW H} (h:(DataW.weightsEach P [t0,t1] [.slice (lits k zs) (lits k rs),d]).all (· <=reachBytes)=true) (hu:P.underlying t0=some (.slice e)) (hb:Nat.ble 1 (P.bytesOf e)=true):zs.length<=140737488355327:=by
 simp only[DataW.weightsEach,DataW.weights,hu,List.all_append,lv,Fx] at h;have b:=wu h.1.1;have a:=ah hb;have g:=reachBytes_lt;have hl:((lits k zs:List (DataW H)).length)=zs.length:=by simp[lits]
 rw[hl] at b;have:zs.length*1<=(zs.length+(lits k rs:List (DataW H)).length)*P.bytesOf e:=Nat.mul_le_mul G a;omega
theorem pay_open {t b k:TypeId} {f0 f1:Field} {v:Value} {d:DataW H} {p:List MemPlace} {ts:List TypeId} {ds:List (DataW H)} {r:Reach} {R:Nat} (hs:P.underlying t=some (.struct #[f0,f1])) (g:Go.Deep.oneCellFields P #[f0,f1]=true) (hC:P.cellsOf t=2) (B:Value.okWide P w r R t v) (h:DataW.Trod enc P w base (λ_=>true) held t v d p) (y:(DataW.weightsEach P (t::ts) (d::ds)).all (· <=reachBytes)=true)
  (t0:P.underlying f0.type=some (.slice b)) (J:P.underlying b=some (.int .u8)) (t1:P.underlying f1.type=some (.slice k)) (N:P.underlying k=some (.slice b)) (c0:P.cellsOf b=1) (c1:P.cellsOf k=1) (hb:Nat.ble 1 (P.bytesOf b)=true):
  ∃(A i:AF) (c c':Nat) (u:AH) (vals:AG) (ws:AD),v= .agg #[.slice A u.length c, .slice i ws.length c']/\Rd w A u.length c 1 (ints .u8 u)/\(∀x∈u,(Lit.int .u8 x).wf=true)/\u.length<=140737488355327/\Rd w i ws.length c' 1 vals/\SlW .u8 w vals ws:=by
 obtain⟨v0,v1,y0,y1,n,rfl,rfl,_,T,h1⟩:=Go.Joins.open_agg2 hs g hC B h;have M:=aUk y hs
 obtain⟨A,c,u,rfl,k1,k2,Y⟩: ∃(A:AF) (c:Nat) (u:AH),v0= .slice A u.length c/\Rd w A u.length c 1 (ints .u8 u)/\(∀x∈u,(Lit.int .u8 x).wf=true)/\u.length<=140737488355327:=by
  rcases open_ints t0 J c0 T with⟨a,_⟩|⟨x,l,S,zs,a,_,hl,m,K,F,l4,D⟩
  ·simp only[Dk,Az] at a;subst a;exact⟨none,0,[],rfl,aQx _,(λ_ h=>by cases h),cC⟩
  simp only[Dk,Az] at a;subst a;subst F;obtain⟨u,e,g1,g2⟩:=bKs hl m (by simpa using K) l4 D;have O:=aLz M t0 hb;rw[ax] at O;have Wv:zs.length=S:=by simpa using K
  subst e;exact⟨_,_,u,rfl,g1,g2,G⟩
 obtain⟨i,c',vals,ws,rfl,k4,k5⟩: ∃(A:AF) (c:Nat) (vals:AG) (ws:AD),v1= .slice A ws.length c/\Rd w A ws.length c 1 vals/\SlW .u8 w vals ws:=by
  rcases Go.Deep.open_int_rows t1 N J c1 c0 h1 with⟨a,_⟩|⟨x,l,c,A,L,C,Z,a,_,hl,m,F,o⟩
  ·simp only[Dk,Az] at a;subst a;exact⟨none,0,[],[],rfl,⟨cD,cD,cD,λj v B=>by simp at B⟩,gI _ _⟩
  simp only[Dk,Az] at a;subst a;subst F;obtain⟨vals,ws,e,g1,g2⟩:=bAk hl m o λr Q=>aUj M (j:=1) (t:=f1.type) (e:=k) (q:=b) rfl rfl t1 N hb Q (by have:=o r G;rw[this.2.2.2.1];exact this.2.1) (λX=>by have:=o r G;rw[this.2.2.2.1];exact this.2.2.2.2.2.1 X);subst e;exact⟨_,_,vals,ws,rfl,g1,g2⟩
 exact⟨A,i,c,c',u,vals,ws,rfl,k1,k2,Y,k4,k5⟩
end
end Go.Eng
namespace Go.Proofs.YtkfngcfpmilfiaaGreat
open Go Go.Eng
open Tryz
theorem mixed:Tryz.prog.follows .mixedOrders=true:=cA
theorem sz3:(Tryz.prog.info? 3).map (·.size)=some 1:=cA
theorem zb3:(Tryz.prog.info? 3).map (λi=>(i.zero,i.size,i.bytes))=some (some (.int .i64 0),1,8):=cA
theorem zs3:(Tryz.prog.info? 3).map (λi=>(i.zero,i.size))=some (some (.int .i64 0),1):=cA
theorem sz4:(Tryz.prog.info? 4).map (·.size)=some 1:=cA
theorem zb4:(Tryz.prog.info? 4).map (λi=>(i.zero,i.size,i.bytes))=some (some (.bool false),1,1):=cA
theorem sz5:(Tryz.prog.info? 5).map (·.size)=some 1:=cA
theorem zb5:(Tryz.prog.info? 5).map (λi=>(i.zero,i.size,i.bytes))=some (some (.int .u8 0),1,1):=cA
theorem zs5:(Tryz.prog.info? 5).map (λi=>(i.zero,i.size))=some (some (.int .u8 0),1):=cA
theorem iZ:(Tryz.prog.info? 22).map (·.size)=some 1:=cA
theorem yG:(Tryz.prog.info? 22).map (λi=>(i.zero,i.size,i.bytes))=some (some (.slice none 0 0),1,24):=cA
theorem pF:(Tryz.prog.info? 22).map (λi=>(i.zero,i.size))=some (some (.slice none 0 0),1):=cA
theorem bIx:(Tryz.prog.info? 22).map (·.zero)=some (some (.slice none 0 0)):=cA
theorem bUy:(Tryz.prog.info? 23).map (·.size)=some 1:=cA
theorem iJ:(Tryz.prog.info? 25).map (·.size)=some 2:=cA
theorem QY:(Tryz.prog.info? 25).map (·.zero)=some (some (.agg #[(.slice none 0 0),(.slice none 0 0)])):=cA
theorem fC:(Tryz.prog.info? 27).map (·.size)=some 4:=cA
theorem QX:(Tryz.prog.info? 27).map (·.zero)=some (some (.agg #[(.int .i64 0),(.int .i64 0),(.int .i64 0),(.int .i64 0)])):=cA
theorem wP:(Tryz.prog.info? 72).map (·.size)=some 1:=cA
theorem XM:(Tryz.prog.info? 73).map (·.size)=some 1:=cA
theorem bUl:(Tryz.prog.info? 73).map (λi=>(i.zero,i.size,i.bytes))=some (some (.slice none 0 0),1,24):=cA
theorem bQp:(Tryz.prog.info? 73).map (λi=>(i.zero,i.size))=some (some (.slice none 0 0),1):=cA
theorem bZp:(Tryz.prog.info? 73).map (·.zero)=some (some (.slice none 0 0)):=cA
theorem bRm:(Tryz.prog.info? 89).map (·.size)=some 1:=cA
theorem ZC:(Tryz.prog.info? 100).map (·.size)=some 2:=cA
theorem bUm:(Tryz.prog.info? 100).map (λi=>(i.zero,i.size,i.bytes))=some (some (.agg #[(.slice none 0 0),(.int .i64 0)]),2,32):=cA
theorem bUk:(Tryz.prog.info? 100).map (λi=>(i.zero,i.size))=some (some (.agg #[(.slice none 0 0),(.int .i64 0)]),2):=cA
theorem bOi:(Tryz.prog.info? 100).map (·.zero)=some (some (.agg #[(.slice none 0 0),(.int .i64 0)])):=cA
theorem aQd:(Tryz.prog.info? 125).map (·.size)=some 1:=cA
theorem bUj:(Tryz.prog.info? 125).map (λi=>(i.zero,i.size))=some (some (.pointer none),1):=cA
theorem JA:(Tryz.prog.info? 152).map (·.size)=some 1:=cA
theorem bVb:(Tryz.prog.info? 168).map (·.size)=some 1:=cA
theorem bVa:(Tryz.prog.info? 169).map (·.size)=some 256:=cA
theorem bUz:(Tryz.prog.info? 173).map (·.size)=some 1:=cA
theorem kV:(Tryz.prog.info? 175).map (·.size)=some 2:=cA
theorem zO:(Tryz.prog.info? 175).map (λi=>(i.zero,i.size,i.bytes))=some (some (.agg #[(.int .i64 0),(.int .i64 0)]),2,16):=cA
theorem QZ:(Tryz.prog.info? 175).map (λi=>(i.zero,i.size))=some (some (.agg #[(.int .i64 0),(.int .i64 0)]),2):=cA
theorem aPs:(Tryz.prog.info? 175).map (·.zero)=some (some (.agg #[(.int .i64 0),(.int .i64 0)])):=cA
theorem bAc:(Tryz.prog.info? 205).map (·.size)=some 1:=cA
theorem bUx:(Tryz.prog.info? 317).map (·.size)=some 1:=cA
theorem bUi:(Tryz.prog.info? 317).map (·.zero)=some (some (.pointer none)):=cA
abbrev en4:=enters func4 cA cA
abbrev en5:=enters func5 cA cA
abbrev en6:=enters func6 cA cA
abbrev en7:=enters func7 cA cA
abbrev en8:=enters func8 cA cA
abbrev en9:=enters func9 cA cA
abbrev bTp:=enters func10 cA cA
abbrev bTo:=enters Kk cA cA
abbrev YA:=enters func12 cA cA
abbrev aOj:=enters func13 cA cA
abbrev cBc:=enters func14 cA cA
abbrev cBb:=enters Kl cA cA
abbrev bYe:=enters func16 cA cA
abbrev bYa:=enters func17 cA cA
abbrev bXu:=enters func18 cA cA
abbrev NC:=enters func19 cA cA
abbrev bTn:=enters func20 cA cA
abbrev cBa:=enters func21 cA cA
abbrev bXc:=enters Il cA cA
abbrev BX:=enters func23 cA cA
abbrev FH:=enters func24 cA cA
abbrev bWv:=enters func25 cA cA
abbrev bWp:=enters func26 cA cA
abbrev bWo:=enters Im cA cA
abbrev bNa:=enters func28 cA cA
abbrev bWh:=enters func29 cA cA
abbrev bWf:=enters func30 cA cA
abbrev bMz:=enters func31 cA cA
abbrev bWa:=enters func32 cA cA
abbrev bTm:=enters func33 cA cA
abbrev cAz:=enters func34 cA cA
abbrev aXh:=enters func35 cA cA
abbrev bVz:=enters func36 cA cA
abbrev PP:=enters func37 cA cA
abbrev bTl:=enters func38 cA cA
abbrev bTk:=enters func39 cA cA
abbrev aOi:=enters func40 cA cA
abbrev cAy:=enters func41 cA cA
abbrev cAx:=enters func42 cA cA
abbrev aXg:=enters func43 cA cA
abbrev bTj:=enters func44 cA cA
abbrev bTi:=enters func45 cA cA
abbrev cAw:=enters func46 cA cA
abbrev aXf:=enters func47 cA cA
abbrev bGc:=enters Km cA cA
abbrev cAv:=enters func49 cA cA
abbrev cAu:=enters func50 cA cA
abbrev bVy:=enters func51 cA cA
abbrev bVx:=enters func52 cA cA
abbrev bVw:=enters func53 cA cA
abbrev bMy:=enters Io cA cA
abbrev bGb:=enters func55 cA cA
abbrev bMx:=enters func56 cA cA
abbrev aXe:=enters func57 cA cA
abbrev aXd:=enters func58 cA cA
abbrev cAt:=enters func59 cA cA
abbrev bVv:=enters func60 cA cA
abbrev bVu:=enters func61 cA cA
abbrev cAs:=enters func62 cA cA
abbrev bGa:=enters func63 cA cA
abbrev cAr:=enters func64 cA cA
abbrev cAq:=enters func65 cA cA
abbrev cAp:=enters func66 cA cA
abbrev cAo:=enters func67 cA cA
abbrev cAn:=enters func68 cA cA
abbrev XZ:=enters func69 cA cA
abbrev cAm:=enters func70 cA cA
abbrev bVt:=enters func71 cA cA
abbrev bVs:=enters func72 cA cA
abbrev bVr:=enters func73 cA cA
abbrev bVq:=enters func74 cA cA
abbrev bVp:=enters func75 cA cA
abbrev bVo:=enters func76 cA cA
abbrev bMw:=enters Kn cA cA
abbrev cAl:=enters func78 cA cA
abbrev aXc:=enters func79 cA cA
abbrev bVn:=enters func80 cA cA
abbrev bMv:=enters func81 cA cA
abbrev cAk:=enters func82 cA cA
abbrev bMu:=enters func83 cA cA
abbrev cAj:=enters func84 cA cA
abbrev cAi:=enters func85 cA cA
abbrev bVm:=enters func86 cA cA
abbrev cAh:=enters func87 cA cA
abbrev cAg:=enters func88 cA cA
abbrev bTh:=enters Ko cA cA
abbrev cAf:=enters func90 cA cA
abbrev cAe:=enters func91 cA cA
abbrev cAd:=enters func92 cA cA
abbrev cAc:=enters func93 cA cA
abbrev bVl:=enters func94 cA cA
abbrev bVk:=enters func95 cA cA
abbrev bFz:=enters func96 cA cA
abbrev bVj:=enters func97 cA cA
abbrev cAb:=enters func99 cA cA
abbrev bZf:=enters Gz cA cA
abbrev bZe:=enters func101 cA cA
abbrev bZd:=enters func102 cA cA
abbrev bZc:=enters func103 cA cA
abbrev bQn:=enters func104 cA cA
abbrev bGu:=enters func105 cA cA
abbrev bZb:=enters func106 cA cA
abbrev bZa:=enters func107 cA cA
abbrev bYz:=enters func108 cA cA
abbrev vV:=enters Jn cA cA
abbrev aJf:=enters func110 cA cA
abbrev bGt:=enters func111 cA cA
abbrev aJe:=enters func112 cA cA
abbrev aBe:=enters Jo cA cA
abbrev bYy:=enters func114 cA cA
abbrev bYx:=enters func115 cA cA
abbrev bGs:=enters func117 cA cA
abbrev bYw:=enters func118 cA cA
abbrev bQm:=enters func119 cA cA
abbrev bYv:=enters func120 cA cA
abbrev bYu:=enters func121 cA cA
abbrev bGr:=enters func122 cA cA
abbrev bYt:=enters func123 cA cA
abbrev aJd:=enters func124 cA cA
abbrev bYs:=enters func125 cA cA
abbrev aSr:=enters func126 cA cA
abbrev bQl:=enters func127 cA cA
abbrev bYr:=enters func128 cA cA
abbrev bYq:=enters func129 cA cA
abbrev bYp:=enters func130 cA cA
abbrev bYo:=enters func131 cA cA
abbrev bGq:=enters func132 cA cA
abbrev bYn:=enters func133 cA cA
abbrev bQk:=enters func134 cA cA
abbrev bYm:=enters func135 cA cA
abbrev bYl:=enters func136 cA cA
abbrev bGp:=enters func137 cA cA
abbrev bGo:=enters func138 cA cA
abbrev bQj:=enters func139 cA cA
abbrev bGn:=enters func140 cA cA
abbrev bQi:=enters func141 cA cA
abbrev bQh:=enters func142 cA cA
abbrev bQg:=enters func143 cA cA
abbrev bQf:=enters func144 cA cA
abbrev bQe:=enters func145 cA cA
abbrev bYk:=enters func146 cA cA
abbrev bYj:=enters func147 cA cA
abbrev bQd:=enters Jq cA cA
abbrev bYi:=enters func154 cA cA
abbrev bYh:=enters func155 cA cA
abbrev bYg:=enters func156 cA cA
abbrev bGm:=enters Jr cA cA
abbrev bQc:=enters func158 cA cA
abbrev bYf:=enters func159 cA cA
abbrev bQb:=enters func160 cA cA
abbrev bYd:=enters func161 cA cA
abbrev bYc:=enters func162 cA cA
abbrev bGl:=enters func163 cA cA
abbrev bQa:=enters func164 cA cA
abbrev bPz:=enters func165 cA cA
abbrev bYb:=enters func166 cA cA
abbrev bPy:=enters func167 cA cA
abbrev bPx:=enters func168 cA cA
abbrev bGk:=enters func169 cA cA
abbrev bXz:=enters func170 cA cA
abbrev bGj:=enters func171 cA cA
abbrev bGi:=enters func172 cA cA
abbrev bXy:=enters func175 cA cA
abbrev bXx:=enters func176 cA cA
abbrev bXw:=enters func177 cA cA
abbrev bGh:=enters func178 cA cA
abbrev bXv:=enters func179 cA cA
abbrev bXt:=enters func180 cA cA
abbrev bXs:=enters func181 cA cA
abbrev bXr:=enters func182 cA cA
abbrev bXq:=enters func183 cA cA
abbrev bXp:=enters func184 cA cA
abbrev bXo:=enters func185 cA cA
abbrev bXn:=enters func186 cA cA
abbrev bPw:=enters func187 cA cA
abbrev bXm:=enters func188 cA cA
abbrev bXl:=enters func189 cA cA
abbrev bGg:=enters func190 cA cA
abbrev bPv:=enters func191 cA cA
abbrev bPu:=enters func192 cA cA
abbrev bPt:=enters func193 cA cA
abbrev bXk:=enters func194 cA cA
abbrev bGf:=enters func195 cA cA
abbrev bXj:=enters func196 cA cA
abbrev bXi:=enters func197 cA cA
abbrev bXh:=enters func208 cA cA
abbrev bXg:=enters func209 cA cA
abbrev bXf:=enters func210 cA cA
abbrev bGe:=enters func212 cA cA
abbrev bXe:=enters func213 cA cA
abbrev bXd:=enters func214 cA cA
abbrev bPs:=enters func221 cA cA
abbrev bPr:=enters func222 cA cA
abbrev bPq:=enters func223 cA cA
abbrev bPp:=enters func224 cA cA
abbrev WF:=enters func225 cA cA
abbrev bXb:=enters func226 cA cA
abbrev bGd:=enters func227 cA cA
abbrev bXa:=enters func228 cA cA
abbrev aJc:=enters func234 cA cA
abbrev bPo:=enters func235 cA cA
abbrev bPn:=enters func236 cA cA
abbrev bWz:=enters func237 cA cA
abbrev bWy:=enters func238 cA cA
abbrev bWx:=enters func239 cA cA
abbrev bWw:=enters func240 cA cA
abbrev aSq:=enters func241 cA cA
abbrev aJb:=enters func242 cA cA
abbrev WE:=enters func247 cA cA
abbrev aSp:=enters func248 cA cA
abbrev bPm:=enters func251 cA cA
abbrev bPl:=enters func252 cA cA
abbrev bWu:=enters func253 cA cA
abbrev aBd:=enters func254 cA cA
abbrev bWt:=enters func255 cA cA
abbrev bPk:=enters func256 cA cA
abbrev bWs:=enters func257 cA cA
abbrev bWr:=enters func258 cA cA
abbrev bWq:=enters func259 cA cA
abbrev bPj:=enters func276 cA cA
abbrev bPi:=enters func277 cA cA
abbrev bPh:=enters func278 cA cA
abbrev bPg:=enters func279 cA cA
abbrev bWn:=enters func280 cA cA
abbrev bPf:=enters func281 cA cA
abbrev bPe:=enters func282 cA cA
abbrev bWm:=enters func283 cA cA
abbrev bWl:=enters func284 cA cA
abbrev bPd:=enters func285 cA cA
abbrev bWk:=enters func286 cA cA
abbrev bWj:=enters func287 cA cA
abbrev aJa:=enters func288 cA cA
abbrev bWi:=enters func289 cA cA
abbrev bWg:=enters func290 cA cA
abbrev bWe:=enters func309 cA cA
abbrev bWd:=enters func310 cA cA
abbrev bWc:=enters func311 cA cA
abbrev bPc:=enters func312 cA cA
abbrev bWb:=enters func319 cA cA
def tbl:Tb:=⟨[(25,0,0),(25,1,1),(27,0,0),(27,1,1),(27,2,2),(27,3,3),(50,0,0),(50,1,1),(50,2,5),(50,3,6),(50,4,7),(50,5,8),(55,0,0),(57,0,0),(57,1,1),(57,2,5),(57,3,7),(57,4,8),(57,5,9),(57,6,10),(80,0,0),(100,0,0),(100,1,1),(166,1,0),(168,1,0),(171,0,0),(171,1,3),(171,2,4),(179,0,0),(179,1,1),(188,0,0),(188,1,1),(188,2,2),(188,3,3),(191,0,0),(205,2,0),(208,0,0),(214,0,0),(214,1,3),(214,2,4),(217,0,0),(217,1,1),(217,2,2),(222,0,0),(222,1,1),(256,0,0),(256,1,1),(256,2,2),(256,3,3),(289,0,0),(289,1,1),(289,2,2),(289,3,3),(319,0,0),(319,1,1),(319,2,2),(319,3,3)],[22,23,73,97,173,193],[3,4,5,22,23,47,53,72,73,89,125,152,173,240,254,317]⟩
theorem wM:CW Tryz.prog tbl:=by
 unfold CW;kernel_rfl
section
variable {n:Nd} {B:Nat} {w0:World} {ops:Array Oper} {l l':List Oper} {K:Env->List Row->Prop} {L L':Env} {R:List Row} {y:Code} {Q:fP} {id:Nat} {E:List (Nat × Nat)}
theorem bH (k:Nat) (h:rnO tbl n.n ops R k [] l L []=some (l',L',[])) (hk:WR Tryz.prog n B w0 ops l' K L' R):WR Tryz.prog n B w0 ops l K L R:=bQy wM h hk trivial
theorem iC (is:List Nat) (k:Nat) (h:rnO tbl n.n ops R k is l L []=some (l',L',E)) (hk:WR Tryz.prog n B w0 ops l' K L' R) (a:yA E:=by repeat' first|exact trivial|refine⟨rfl,?_⟩):WR Tryz.prog n B w0 ops l K L R:=bQy wM h hk a
theorem aB (h:alO tbl n.n ops R [] l L []=some (L',[])) (hk:K L' R):WR Tryz.prog n B w0 ops l K L R:=bQz wM h hk trivial
theorem sJ (is:List Nat) (h:alO tbl n.n ops R is l L []=some (L',E)) (hk:K L' R) (a:yA E:=by repeat' first|exact trivial|refine⟨rfl,?_⟩):WR Tryz.prog n B w0 ops l K L R:=bQz wM h hk a
theorem aT (k:Nat) (h:rnO tbl n.n ops R k [] ops.toList L []=some (l',L',[])) (hk:WR Tryz.prog n B w0 ops l' Q.nrm L' R) (a:qF n.rd ops.toList=true:=by exact rfl):W Tryz.prog n B w0 (.region id ops false) Q L R:=bUq wM h hk trivial a
theorem nQ (is:List Nat) (k:Nat) (h:rnO tbl n.n ops R k is ops.toList L []=some (l',L',E)) (hk:WR Tryz.prog n B w0 ops l' Q.nrm L' R) (b:yA E:=by repeat' first|exact trivial|refine⟨rfl,?_⟩) (a:qF n.rd ops.toList=true:=by exact rfl):W Tryz.prog n B w0 (.region id ops false) Q L R:=bUq wM h hk b a
theorem sQ (h:alO tbl n.n ops R [] ops.toList L []=some (L',[])) (hk:Q.nrm L' R) (a:qF n.rd ops.toList=true:=by exact rfl):W Tryz.prog n B w0 (.region id ops false) Q L R:=bUr wM h hk trivial a
theorem bRa (is:List Nat) (h:alO tbl n.n ops R is ops.toList L []=some (L',E)) (hk:Q.nrm L' R) (b:yA E:=by repeat' first|exact trivial|refine⟨rfl,?_⟩) (a:qF n.rd ops.toList=true:=by exact rfl):W Tryz.prog n B w0 (.region id ops false) Q L R:=bUr wM h hk b a
theorem aK (k:Nat) (h:rnO tbl n.n ops R k [] ops.toList L []=some (l',L',[])) (hk:WR Tryz.prog n B w0 ops l' (λL R=>W Tryz.prog n B w0 y Q L R) L' R) (a:qF n.rd ops.toList=true:=by exact rfl):W Tryz.prog n B w0 (.seq (.region id ops false) y) Q L R:=aA (aT k h hk a)
theorem cB (is:List Nat) (k:Nat) (h:rnO tbl n.n ops R k is ops.toList L []=some (l',L',E)) (hk:WR Tryz.prog n B w0 ops l' (λL R=>W Tryz.prog n B w0 y Q L R) L' R) (b:yA E:=by repeat' first|exact trivial|refine⟨rfl,?_⟩) (a:qF n.rd ops.toList=true:=by exact rfl):W Tryz.prog n B w0 (.seq (.region id ops false) y) Q L R:=aA (nQ is k h hk b a)
theorem aD (h:alO tbl n.n ops R [] ops.toList L []=some (L',[])) (hk:W Tryz.prog n B w0 y Q L' R) (a:qF n.rd ops.toList=true:=by exact rfl):W Tryz.prog n B w0 (.seq (.region id ops false) y) Q L R:=aA (sQ h hk a)
theorem lK (is:List Nat) (h:alO tbl n.n ops R is ops.toList L []=some (L',E)) (hk:W Tryz.prog n B w0 y Q L' R) (b:yA E:=by repeat' first|exact trivial|refine⟨rfl,?_⟩) (a:qF n.rd ops.toList=true:=by exact rfl):W Tryz.prog n B w0 (.seq (.region id ops false) y) Q L R:=aA (bRa is h hk b a)
theorem bF {bh:Nat} {ab:AI} (q k:Nat) (h:rnD tbl n.n ops R k q [] L []=some (L',[])) (hk:WD Tryz.prog n B w0 ops K bh (lsD k q ab) L' R) (hc:ckD ops k q ab=true:=by kernel_rfl):WD Tryz.prog n B w0 ops K (bh+k) ab L R:=(bBc wM h trivial hc).1 hk
theorem fU {bh:Nat} {ab:AI} (is:List Nat) (q k:Nat) (h:rnD tbl n.n ops R k q is L []=some (L',E)) (hk:WD Tryz.prog n B w0 ops K bh (lsD k q ab) L' R) (a:yA E:=by repeat' first|exact trivial|refine⟨rfl,?_⟩) (hc:ckD ops k q ab=true:=by kernel_rfl):WD Tryz.prog n B w0 ops K (bh+k) ab L R:=(bBc wM h a hc).1 hk
end
end Go.Proofs.YtkfngcfpmilfiaaGreat
namespace Go.Proofs.YtkfngcfpmilfiaaGreat
open Go Go.Eng Go.RowKit Go.Shelf Go.Proofs
section
variable {c j g:Nat} {xs:AG} {zs:AH} {A:AF}
attribute [local go_sem] Oper.semAt_some
theorem kH {W:World} {a:Addr} {n:Nat} (h:Rd W (some a) n c 1 xs) (hj:j<xs.length):W.cell? (a.add j)=some (xs[j]'hj):=by
 obtain⟨b,h1,h2⟩:=h.at_ j _ (au hj);obtain rfl:=fo h1;exact h2
theorem _root_.Go.Eng.Iter.congr {P:Program} {gf:Nat} {b:Array Value} {xd:World->Prop} {N:Nat} {f a:Nat->AG} (j:Iter P gf b xd N f) (h: ∀k,k<N->f k=a k):Iter P gf b xd N a:=
 λl J W hR e i d=>j l J W hR e (λk W hk g=>by rw[h k hk];exact i k W hk g) d
theorem aAt {k:IntKind} (h:j<zs.length):(ints k zs)[j]?.getD undef= .int k (rd zs (j:Int)):=by
 have:=Go.Eng.ints_at (k:=k) (l:=zs) (i:=(j:Int)) G G;rw[bu] at this;rw[this,qj]
set_option maxRecDepth 100000 in
theorem bIg (i8:xs.length<=1000000):Iter Tryz.prog 226 #[.pointer (some ⟨g,0,none⟩)] (λw=>Rd w (some ⟨g,0,none⟩) 1 1 1 [.slice A xs.length c]/\Rd w A xs.length c 1 xs) xs.length
  (λk=>[.int .i64 (((xs.length-1-k:Nat):Int)),xs[xs.length-1-k]?.getD undef]):=by
 intro l J W hR _ hY h0;rcases fe xs.length with hz|fm
 ·have hc:W.cell? ⟨g,0,none⟩=some (.slice A xs.length c):=kH (hR _ _ h0).1 (j:=0) cD;rw[hz] at hc;refine Bu Tryz.func226 rfl trivial ?_ rfl;simp only[Tryz.ntmps226,qz,dh,iw,Nat.reduceAdd,Nat.reduceSub,xh,xk,zg,uz,ig,je]
  gi_wp2
  gi_loopw [3] (λi wr=>i= .int .i64 (-1)/\J 0 wr) (λ_ _=>0)
  case atStart=>exact⟨rfl,h0⟩
  case round=>
   obtain⟨rfl,zv⟩:=hrel
   gi_wp2
   go_end0
   exact⟨⟨_,rfl⟩,by rw[hz];exact zv⟩
 ·obtain ⟨a,rfl⟩: ∃a,A=some a:=by
   obtain⟨a,h1,_⟩:=(hR _ _ h0).2.at_ 0 _ (au fm);exact⟨a,h1⟩
  have hc:W.cell? ⟨g,0,none⟩=some (.slice (some a) xs.length c):=kH (hR _ _ h0).1 (j:=0) cD;refine Bu Tryz.func226 rfl trivial ?_ rfl;simp only[Tryz.ntmps226,qz,dh,iw,Nat.reduceAdd,Nat.reduceSub,xh,xk,zg,uz,ig,je]
  gi_wp2
  gi_loopw [3] (λi wr=>(∃k j:Nat,k+j+1=xs.length/\i= .int .i64 (j:Int)/\J k wr)\/(i= .int .i64 (-1)/\J xs.length wr)) (λi _=>(intOf i+1).toNat)
  case atStart=>exact .inl ⟨0,xs.length-1,G,by rw[show((xs.length:Int)-1)=((xs.length-1:Nat):Int) by omega],h0⟩
  case round=>
   rcases hrel with⟨k,j,Wm,rfl,zv⟩|⟨rfl,zv⟩
   ·obtain ⟨fn,tmps,assign,body,hy,Ua⟩:=hY k wr G zv;rw[show xs.length-1-k=j by omega] at hy;have Ml:j<xs.length:=G
    rw[au Ml] at hy;simp only[qj] at hy;have ap:wr.cell? ⟨g,0,none⟩=some (.slice (some a) xs.length c):=kH (hR _ _ zv).1 (j:=0) cD;have bp:=kH (hR _ _ zv).2 Ml
    gi_wp2
    refine⟨rfl,Ua.mono ?_⟩;rintro e W3 ⟨rfl,Pm⟩
    gi_wp2
    go_roundw
    case rel=>
     rcases fe j with rfl|hj
     ·exact .inr ⟨cD,by rw[<-Wm];exact Pm⟩
     ·exact .inl ⟨k+1,j-1,G,by rw[show((j:Int)-1)=((j-1:Nat):Int) by omega],Pm⟩
    case measure=>simp[intOf]
   ·gi_wp2
    go_end0
    exact⟨⟨_,rfl⟩,zv⟩
set_option maxRecDepth 100000 in
theorem bIh (i8:xs.length<=1000000):Iter Tryz.prog 227 #[.pointer (some ⟨g,0,none⟩)] (λw=>Rd w (some ⟨g,0,none⟩) 1 1 1 [.slice A xs.length c]/\Rd w A xs.length c 1 xs) xs.length
  (λk=>[.int .i64 (((xs.length-1-k:Nat):Int)),xs[xs.length-1-k]?.getD undef]):=by
 intro l J W hR _ hY h0;rcases fe xs.length with hz|fm
 ·have hc:W.cell? ⟨g,0,none⟩=some (.slice A xs.length c):=kH (hR _ _ h0).1 (j:=0) cD;rw[hz] at hc;refine Bu Tryz.func227 rfl trivial ?_ rfl;simp only[Tryz.ntmps227,qz,dh,iw,Nat.reduceAdd,Nat.reduceSub,xh,xk,zg,uz,ig,je]
  gi_wp2
  gi_loopw [3] (λi wr=>i= .int .i64 (-1)/\J 0 wr) (λ_ _=>0)
  case atStart=>exact⟨rfl,h0⟩
  case round=>
   obtain⟨rfl,zv⟩:=hrel
   gi_wp2
   go_end0
   exact⟨⟨_,rfl⟩,by rw[hz];exact zv⟩
 ·obtain ⟨a,rfl⟩: ∃a,A=some a:=by
   obtain⟨a,h1,_⟩:=(hR _ _ h0).2.at_ 0 _ (au fm);exact⟨a,h1⟩
  have hc:W.cell? ⟨g,0,none⟩=some (.slice (some a) xs.length c):=kH (hR _ _ h0).1 (j:=0) cD;refine Bu Tryz.func227 rfl trivial ?_ rfl;simp only[Tryz.ntmps227,qz,dh,iw,Nat.reduceAdd,Nat.reduceSub,xh,xk,zg,uz,ig,je]
  gi_wp2
  gi_loopw [3] (λi wr=>(∃k j:Nat,k+j+1=xs.length/\i= .int .i64 (j:Int)/\J k wr)\/(i= .int .i64 (-1)/\J xs.length wr)) (λi _=>(intOf i+1).toNat)
  case atStart=>exact .inl ⟨0,xs.length-1,G,by rw[show((xs.length:Int)-1)=((xs.length-1:Nat):Int) by omega],h0⟩
  case round=>
   rcases hrel with⟨k,j,Wm,rfl,zv⟩|⟨rfl,zv⟩
   ·obtain ⟨fn,tmps,assign,body,hy,Ua⟩:=hY k wr G zv;rw[show xs.length-1-k=j by omega] at hy;have Ml:j<xs.length:=G
    rw[au Ml] at hy;simp only[qj] at hy;have ap:wr.cell? ⟨g,0,none⟩=some (.slice (some a) xs.length c):=kH (hR _ _ zv).1 (j:=0) cD;have bp:=kH (hR _ _ zv).2 Ml
    gi_wp2
    refine⟨rfl,Ua.mono ?_⟩;rintro e W3 ⟨rfl,Pm⟩
    gi_wp2
    go_roundw
    case rel=>
     rcases fe j with rfl|hj
     ·exact .inr ⟨cD,by rw[<-Wm];exact Pm⟩
     ·exact .inl ⟨k+1,j-1,G,by rw[show((j:Int)-1)=((j-1:Nat):Int) by omega],Pm⟩
    case measure=>simp[intOf]
   ·gi_wp2
    go_end0
    exact⟨⟨_,rfl⟩,zv⟩
theorem GZ (i8:zs.length<=1000000):Iter Tryz.prog 227 #[.pointer (some ⟨g,0,none⟩)] (λw=>Rd w (some ⟨g,0,none⟩) 1 1 1 [.slice A zs.length c]/\Rd w A zs.length c 1 (ints .i64 zs)) zs.length
  (λk=>[.int .i64 (((zs.length-1-k:Nat):Int)), .int .i64 (rd zs ((zs.length-1-k:Nat):Int))]):=by
 have h:=bIh (g:=g) (A:=A) (c:=c) (xs:=ints .i64 zs) (by rw[dB];exact i8);rw[dB] at h;exact h.congr λk hk=>by rw[aAt G]
set_option maxRecDepth 100000 in
theorem aZm:Iter Tryz.prog 311 #[.pointer (some ⟨g,0,none⟩)] (λw=>Rd w (some ⟨g,0,none⟩) 1 1 1 [.slice A xs.length c]/\Rd w A xs.length c 1 xs) xs.length
  (λk=>[xs[k]?.getD undef]):=by
 intro l J W hR _ hY h0;have i8:=(hR _ _ h0).2.max;rcases fe xs.length with hz|fm
 ·have hc:W.cell? ⟨g,0,none⟩=some (.slice A xs.length c):=kH (hR _ _ h0).1 (j:=0) cD;rw[hz] at hc;refine Bu Tryz.func311 rfl trivial ?_ rfl;simp only[Tryz.ntmps311,qz,dh,iw,Nat.reduceAdd,Nat.reduceSub,xh,xk,zg,uz,ig,je]
  gi_wp2
  gi_loopw [7] (λi wr=>i= .int .i64 0/\J 0 wr) (λ_ _=>0)
  case atStart=>exact⟨rfl,h0⟩
  case round=>
   obtain⟨rfl,zv⟩:=hrel
   gi_wp2
   go_end0
   exact⟨⟨_,rfl⟩,by rw[hz];exact zv⟩
 ·obtain ⟨a,rfl⟩: ∃a,A=some a:=by
   obtain⟨a,h1,_⟩:=(hR _ _ h0).2.at_ 0 _ (au fm);exact⟨a,h1⟩
  have hc:W.cell? ⟨g,0,none⟩=some (.slice (some a) xs.length c):=kH (hR _ _ h0).1 (j:=0) cD;refine Bu Tryz.func311 rfl trivial ?_ rfl;simp only[Tryz.ntmps311,qz,dh,iw,Nat.reduceAdd,Nat.reduceSub,xh,xk,zg,uz,ig,je]
  gi_wp2
  gi_loopw [7] (λi wr=> ∃k:Nat,k<=xs.length/\i= .int .i64 k/\J k wr) (λi _=>xs.length-(intOf i).toNat)
  case atStart=>exact⟨0,oq _,rfl,h0⟩
  case round=>
   obtain⟨k,hk,rfl,zv⟩:=hrel;by_cases ci:k<xs.length
   ·obtain ⟨fn,tmps,assign,body,hy,Ua⟩:=hY k wr ci zv;rw[au ci] at hy;simp only[qj] at hy;have ap:wr.cell? ⟨g,0,none⟩=some (.slice (some a) xs.length c):=kH (hR _ _ zv).1 (j:=0) cD;have bp:=kH (hR _ _ zv).2 ci
    gi_wp2
    refine⟨rfl,Ua.mono ?_⟩;rintro e W3 ⟨rfl,Pm⟩
    gi_wp2
    go_roundw
    case rel=>exact⟨k+1,G,cD,Pm⟩
    case measure=>simp[intOf];omega
   ·obtain rfl:k=xs.length:=G
    gi_wp2
    go_end0
    exact⟨⟨_,rfl⟩,zv⟩
theorem aLb:Iter Tryz.prog 311 #[.pointer (some ⟨g,0,none⟩)] (λw=>Rd w (some ⟨g,0,none⟩) 1 1 1 [.slice A zs.length c]/\Rd w A zs.length c 1 (ints .i64 zs)) zs.length
  (λk=>[.int .i64 (rd zs (k:Int))]):=by
 have h:=aZm (g:=g) (A:=A) (c:=c) (xs:=ints .i64 zs);rw[dB] at h;exact h.congr λk hk=>by rw[aAt hk]
end
section
variable {n c m k g1 g2:Nat} {xs:AG} {A:AF} {zs:AH}
attribute [local go_sem] Oper.semAt_some
theorem oO {W:World} {a:Addr} (h:Rd W (some a) n c 1 xs) {j:Nat} (hj:j<xs.length):W.cell? (a.add j)=some (xs[j]'hj):=by
 obtain⟨b,h1,h2⟩:=h.at_ j _ (au hj);obtain rfl:=fo h1;exact h2
def chN (m n:Nat):Nat:=(m+n-1)/n
theorem NJ (hn:1<=n):k<chN m n↔k*n<m:=by
 unfold chN;rw[Nat.lt_iff_add_one_le,Nat.le_div_iff_mul_le G,yj];omega
theorem aOt (h:n<=m-k*n):((k:Int)*(n:Int)+(n:Int)).toNat-k*n=min n (m-k*n):=by
 have a:(k:Int)*(n:Int)=((k*n:Nat):Int):=cD
 omega
theorem aOr:((k:Int)*(n:Int)+min (n:Int) ((m-k*n:Nat):Int)).toNat-k*n=min n (m-k*n):=by
 have a:(k:Int)*(n:Int)=((k*n:Nat):Int):=cD
 omega
theorem aOs (h:m-k*n<=n):((k:Int)*(n:Int)+((m-k*n:Nat):Int)).toNat-k*n=min n (m-k*n):=by
 have a:(k:Int)*(n:Int)=((k*n:Nat):Int):=cD
 omega
theorem aOu {N:Nat} (hn:1<=n) (h:k<N):N-(intOf (.int .i64 ((k:Int)*n+n))).toNat/n<N-(intOf (.int .i64 ((k:Int)*n))).toNat/n:=by
 have b:(intOf (.int .i64 ((k:Int)*n))).toNat=k*n:=by
  have a:(k:Int)*(n:Int)=((k*n:Nat):Int):=cD
  simp only[intOf,a];omega
 have d:(intOf (.int .i64 ((k:Int)*n+n))).toNat=(k+1)*n:=by
  have a:(k:Int)*(n:Int)=((k*n:Nat):Int):=cD
  simp only[intOf,a,yj];omega
 rw[b,d,Dv _ G,Dv _ G];omega
theorem aOw {P:Program} {t e:TypeId} {p:Nat} {tm:Array Value} {s:Nat} {w:World} {o:Oper} (j:P.underlying t=some (.slice e)) (hi:(P.info? e).map (·.size)=some 1)
  (i:o.op= .slice t (.tmp 14) (some (.tmp 15)) none none) (hs:tm.size=s) (b:tm[14]? =some (.slice A m c)) (d:tm[15]? =some (.int .i64 (p:Int))) (hp:p<=m):
  (execOp ({tmps:=tm,defers:=[]}:Act).eval o).run P w= .ok (.value (.slice (lL A p c 1) (m-p) (c-p))) w:=by
 have h:=dE (P:=P) (n:=⟨s,[],none⟩) (B:=w.heap.size) (w0:=w) (L:=[(14, .slice A m c),(15, .int .i64 (p:Int))]) (R:=[]) (ty:=o.type) (x:= .tmp 14) (y:= .tmp 15) j hi rfl rfl (l:=(p:Int)) G G
 have g:=h {tmps:=tm,defers:=[]} w o i rfl ⟨hs,rfl,λt v a=>by
  rcases EL a with⟨rfl,rfl⟩|⟨_,a⟩
  ·exact b
  rcases EL a with⟨rfl,rfl⟩|⟨_,a⟩
  ·exact d
  simp[lk] at a⟩ (Hp.refl w)
 rw[bu] at g;exact g
set_option maxRecDepth 100000 in
theorem bHo (hn:1<=n) (ov:n<=16777216) (i8:xs.length<=1000000):Iter Tryz.prog 53 #[.pointer (some ⟨g1,0,none⟩), .pointer (some ⟨g2,0,none⟩)] (λw=>Rd w (some ⟨g1,0,none⟩) 1 1 1 [.slice A xs.length c]/\Rd w (some ⟨g2,0,none⟩) 1 1 1 [.int .i64 (n:Int)]/\Rd w A xs.length c 1 xs) (chN xs.length n)
  (λk=>[.slice (lL A (k*n) c 1) (min n (xs.length-k*n)) (min n (xs.length-k*n))]):=by
 intro l J W hR hD hY h0;have hc:W.cell? ⟨g1,0,none⟩=some (.slice A xs.length c):=oO (hR _ _ h0).1 (j:=0) cD;have hd:W.cell? ⟨g2,0,none⟩=some (.int .i64 (n:Int)):=oO (hR _ _ h0).2.1 (j:=0) cD;have pe:=(hR _ _ h0).2.2.le;refine Bu Tryz.func53 rfl trivial ?_ rfl;simp only[Tryz.ntmps53,qz,dh,iw,Nat.reduceAdd,Nat.reduceSub,xh,xk,zg,uz,ig,je]
 gi_wp2
 gi_loopw [4] (λi wr=> ∃k:Nat,k<=chN xs.length n/\i= .int .i64 ((k*n:Nat):Int)/\J k wr) (λi _=>chN xs.length n-(intOf i).toNat/n)
 case atStart=>exact⟨0,oq _,cD,h0⟩
 case round=>
  obtain⟨k,hk,rfl,zv⟩:=hrel;have ap:wr.cell? ⟨g1,0,none⟩=some (.slice A xs.length c):=oO (hR _ _ zv).1 (j:=0) cD;have Oa:wr.cell? ⟨g2,0,none⟩=some (.int .i64 (n:Int)):=oO (hR _ _ zv).2.1 (j:=0) cD;by_cases ci:k<chN xs.length n
  ·have Zn:k*n<xs.length:=(NJ hn).1 ci
   have hcut:lL A (k*n) c 1=Option.map (λx=>x.add (k*n)) A:=by
    unfold lL;rw[bq G,qy]
   gi_wp2
   refine wpIn_region_quiet_lit rfl cA cA ?_
   iterate 3 quiet_step_in (skip)
   refine wpQuietIn_step (by quiet_asked_in) (λK hK=> ?_);rw[cz (by simp[Region.wanted])];refine⟨.slice (lL A (k*n) c 1) (xs.length-k*n) (c-k*n),λw' Tf=> ?_,hK _ ?_⟩
   ·unfold Oper.quietAtIn;rw[aOw (p:=k*n) (A:=A) (m:=xs.length) (c:=c) Tryz.underlying22 sz5 rfl rfl rfl cD G];exact⟨rfl,rfl⟩
   clear hK K
   iterate 3 quiet_step_in (skip)
   refine wpQuietIn_nil ?_;intro _ Tf;obtain⟨nq,hw''⟩:=Tf;subst hw'';have hJn:J k (wr.drewN nq):=hD k wr (wr.drawn+nq) zv G;have bp:(wr.drewN nq).cell? ⟨g1,0,none⟩=some (.slice A xs.length c):=oO (hR _ _ hJn).1 (j:=0) cD;have Qv:(wr.drewN nq).cell? ⟨g2,0,none⟩=some (.int .i64 (n:Int)):=oO (hR _ _ hJn).2.1 (j:=0) cD;obtain⟨fn,tmps,assign,body,hy,Ua⟩:=hY k _ ci hJn;have sp:(k*n)/n=k:=Dv _ G;have kj:(k*n+n)/n=k+1:=by rw[<-Cr];exact Dv _ G
   gi_wp2
   all_goals
    rw[hcut] at hy
    first
     |rw[aOt (k:=k) (n:=n) (m:=xs.length) G,hy]
     |rw[aOs (k:=k) (n:=n) (m:=xs.length) G,hy]
     |rw[aOr (k:=k) (n:=n) (m:=xs.length),hy]
    gi_wp2
    refine⟨rfl,Ua.mono ?_⟩;rintro e W3 ⟨rfl,Pm⟩;have hd3:W3.cell? ⟨g2,0,none⟩=some (.int .i64 (n:Int)):=oO (hR _ _ Pm).2.1 (j:=0) cD
    gi_wp2
    go_roundw
    case rel=>exact⟨k+1,G,by simp[yj],Pm⟩
    case measure=>
     exact aOu hn ci
  ·obtain rfl:k=chN xs.length n:=G
   have Zn: ¬chN xs.length n*n<xs.length:=λh=>ci ((NJ hn).2 h)
   gi_wp2
   go_end0
   exact⟨⟨_,rfl⟩,zv⟩
theorem aOv (hn:1<=n) (a:n<=16777216) (i8:zs.length<=1000000):Iter Tryz.prog 53 #[.pointer (some ⟨g1,0,none⟩), .pointer (some ⟨g2,0,none⟩)] (λw=>Rd w (some ⟨g1,0,none⟩) 1 1 1 [.slice A zs.length c]/\Rd w (some ⟨g2,0,none⟩) 1 1 1 [.int .i64 (n:Int)]/\Rd w A zs.length c 1 (ints .u8 zs)) (chN zs.length n)
  (λk=>[.slice (lL A (k*n) c 1) (min n (zs.length-k*n)) (min n (zs.length-k*n))]):=by
 have h:=bHo (g1:=g1) (g2:=g2) (A:=A) (c:=c) (xs:=ints .u8 zs) hn a (by rw[dB];exact i8);rw[dB] at h;exact h
theorem OU {sz:Int} (hn:1<=sz) (a:sz<=16777216) (i8:zs.length<=1000000):Iter Tryz.prog 53 #[.pointer (some ⟨g1,0,none⟩), .pointer (some ⟨g2,0,none⟩)] (λw=>Rd w (some ⟨g1,0,none⟩) 1 1 1 [.slice A zs.length c]/\Rd w (some ⟨g2,0,none⟩) 1 1 1 [.int .i64 sz]/\Rd w A zs.length c 1 (ints .u8 zs)) (chN zs.length sz.toNat)
  (λk=>[.slice (lL A (k*sz.toNat) c 1) (min sz.toNat (zs.length-k*sz.toNat)) (min sz.toNat (zs.length-k*sz.toNat))]):=by
 have h:=aOv (g1:=g1) (g2:=g2) (A:=A) (c:=c) (n:=sz.toNat) (zs:=zs) G G i8;rw[ky G] at h;exact h
theorem aAb {B:Nat} {w0:World} {R:List Row} {l:Nat} {k:IntKind} {xs:AH} (b:RdC B w0 R A m c 1 (ints k xs)) (h1:l<=m):RdC B w0 R (lL A l c 1) (min n (m-l)) (min n (m-l)) 1 (ints k ((xs.drop l).take n)):=by
 intro w d;have hl:=(b w d).lenI;have h:=b.cutI (l:=l) (h:=l+min n (m-l)) G G w d;rw[show l+min n (m-l)-l=min n (m-l) by omega] at h
 have e:(xs.drop l).take (min n (m-l))=(xs.drop l).take n:=by
  rcases Nat.le_total n (m-l) with a|a
  ·rw[zh a]
  rw[Nat.min_eq_right a,bg (by rw[az];omega),bg (by rw[az];omega)]
 rw[e] at h;exact⟨h.len,h.max,dn _,h.at_⟩
end
end Go.Proofs.YtkfngcfpmilfiaaGreat
namespace Go.Pure
open Go.Eng
section
variable {i k:Int} {u v:AH} {f:Nat}
def jO (a b:Int):Int:=if a<b then -1 else if b<a then 1 else 0
def cmpL:AH->AH->Int
 |[],[]=>0
 |[],_::_=> -1
 |_::_,[]=>1
 |a::s,b::t=>if a<b then -1 else if b<a then 1 else cmpL s t
theorem fK {l:AH} (a:0<=i) (h:i<l.length):l.drop i.toNat=rd l i::l.drop (i+1).toNat:=by
 have hl:i.toNat<l.length:=G
 have e:(i+1).toNat=i.toNat+1:=G
 rw[e,nk hl];simp[rd,af,au hl]
theorem uC (a:0<=i) (hu:i<u.length) (b:i<v.length):
  cmpL (u.drop i.toNat) (v.drop i.toNat)=if rd u i<rd v i then -1 else if rd v i<rd u i then 1 else cmpL (u.drop (i+1).toNat) (v.drop (i+1).toNat):=by
 rw[fK a hu,fK a b];rfl
theorem xW (a:0<=i) (hu:i<=u.length) (d:i<=v.length) (h: ¬(i<u.length/\i<v.length)):
  cmpL (u.drop i.toNat) (v.drop i.toNat)=if (u.length:Int)<v.length then -1 else if (v.length:Int)<u.length then 1 else 0:=by
 have nil: ∀(l:AH) (j:Int),(l.length:Int)<=j->l.drop j.toNat=[]:=λl j h=>og G;by_cases h1:i<u.length
 ·have b:i=v.length:=G
  rw[fK a h1,nil v i G,bq G,cz G];rfl
 by_cases b:i<v.length
 ·rw [fK a b,nil u i G,cz G];rfl
 rw [nil u i G,nil v i G,bq G,bq G];rfl
def WM (u v:AH):Nat->Int->Int
 |0,_=>0
 |f+1,k=>if rd u (k%u.length)<rd v (k%v.length) then -1 else if rd v (k%v.length)<rd u (k%u.length) then 1 else WM u v f (k+1)
def WN (u v:AH):Int:=
 if (u.length:Int)=0\/(v.length:Int)=0 then jO (min u.length 1) (min v.length 1) else WM u v (u.length+v.length) 0
theorem aXt (a b:Int):jO b a= -jO a b:=by unfold jO;split<;>split<;>omega
theorem aBj (h:rd u (k%u.length)=rd v (k%v.length)):WM u v (f+1) k=WM u v f (k+1):=by
 rw[WM,bq G,bq G]
theorem WL (b:0<f) (h:jO (rd u (k%u.length)) (rd v (k%v.length))≠0):WM u v f k=jO (rd u (k%u.length)) (rd v (k%v.length)):=by
 obtain⟨f,rfl⟩: ∃g,f=g+1:=⟨f-1,G⟩;unfold WM jO at*;split
 ·rfl
 split
 ·rfl
 rename_i h1 a;rw[bq h1,bq a] at h;exact absurd rfl h
theorem bNi (a:0<f) (h:jO (rd u (k%u.length)) (rd v (k%v.length))=0):WM u v f k=WM u v (f-1) (k+1):=by
 obtain⟨f,rfl⟩: ∃g,f=g+1:=⟨f-1,G⟩;refine aBj ?_;unfold jO at h;split at h
 ·omega
 split at h<;>omega
def rep (w:AH) (k:Int):AH:=(List.replicate k.toNat w).flatten
theorem lU (w:AH) (k:Int):(rep w k).length=k.toNat*w.length:=by
 unfold rep;rw[qo,List.map_replicate,List.sum_replicate_nat]
theorem aOq (u v:AH) (h:(u.length:Int)=0\/(v.length:Int)=0):cmpL (u.take (min (u.length:Int) 1).toNat) (v.take (min (v.length:Int) 1).toNat)=jO (min u.length 1) (min v.length 1):=by
 cases u with
 | nil=>cases v with
  |nil=>rfl
  |cons b t=>
   have e:(min (((b::t).length:Nat):Int) 1)=1:=by simp only[dh];omega
   rw[e];rfl
 | cons a s=>cases v with
  |nil=>
   have e:(min (((a::s).length:Nat):Int) 1)=1:=by simp only[dh];omega
   rw[e];rfl
  |cons b t=>simp only[dh] at h;omega
end
section
variable {u v:AH} {d N:Nat} {c:Int}
def om (u:AH) (i:Nat):Int:=u.getD (i%u.length) 0
theorem UQ (u:AH) (k:Nat):rd u ((k:Int)%u.length)=om u k:=by
 unfold rd om;rw[<-zm,bu]
theorem nU {i:Nat} (h:i<u.length):om u i=u.getD i 0:=by
 unfold om;rw[lm h]
def Per (W:Nat->Int) (d:Nat):Prop:= ∀i,W (i+d)=W i
theorem qE (u:AH):Per (om u) u.length:=by
 intro i;unfold om;rw[Ii]
theorem Per.mul {W:Nat->Int} (h:Per W d): ∀k,Per W (d*k)
 |0=>λi=>by rw[Nat.mul_zero,qw]
 |k+1=>λi=>by rw[Nat.mul_succ,<-ow,h,h.mul k]
theorem Per.mod {W:Nat->Int} (h:Per W d) (i:Nat):W (i%d)=W i:=by
 have:=h.mul (i/d) (i%d);rw[Nat.mod_add_div] at this;exact this.symm
theorem Per.gcd {W:Nat->Int} (a b:Nat):Per W a->Per W b->Per W (Nat.gcd a b):=by
 induction a,b using Nat.gcd.induction with
 |H0 n=>intro _ h;rw[Nat.gcd_zero_left];exact h
 |H1 m n hm ih=>
  intro h1 d;rw[Nat.gcd_rec];refine ih ?_ h1;intro i;have e:=h1.mul (n/m) (i+n%m);rw[ow,Nat.mod_add_div] at e;rw[<-e];exact d i
theorem agree {U V:Nat->Int} {p q:Nat} (hp:0<p) (k:0<q) (a:Per U p) (b:Per V q) (h: ∀i,i<p+q->U i=V i): ∀i,U i=V i:=by
 intro i
 induction i using Nat.strongRecOn with
 | _ i ih=>
  by_cases hi:i<p+q
  ·exact h i hi
  have d:U i=U (i-p):=by have:=a (i-p);rw[uj G] at this;exact this
  have e:V (i-p)=V (i-p-q):=by have:=b (i-p-q);rw[uj G] at this;exact this
  have g:U (i-q)=U (i-p-q):=by have:=a (i-p-q);rw[show i-p-q+p=i-q by omega] at this;exact this
  have j:V i=V (i-q):=by have:=b (i-q);rw[uj G] at this;exact this
  rw[d,ih (i-p) G,e,<-ih (i-p-q) G,<-g,ih (i-q) G,<-j]
def FD (U V:Nat->Int) (N:Nat) (c:Int):Prop:=(c=0/\ ∀i,i<N->U i=V i)\/ ∃k,k<N/\(∀i,i<k->U i=V i)/\U k≠V k/\c=jO (U k) (V k)
theorem mI {a b:Int}:jO a b=0↔a=b:=by unfold jO;split<;>(try split)<;>omega
theorem FD.uniq {U V:Nat->Int} {M:Nat} {d:Int} (h:FD U V N c) (g:FD U V M d) (hc:c=0-> ∀i,i<M->U i=V i) (m:d=0-> ∀i,i<N->U i=V i):c=d:=by
 rcases h with⟨rfl,h⟩|⟨k,hk,h,hn,e⟩
 ·rcases g with⟨rfl,_⟩|⟨b,j,_,a,e'⟩
  ·rfl
  exact absurd (hc rfl b j) a
 rcases g with⟨rfl,g⟩|⟨b,j,g,a,e'⟩
 ·exact absurd (m rfl k hk) hn
 have:k=b:=by
  by_cases h1:k<b
  ·exact absurd (g k h1) hn
  by_cases l:b<k
  ·exact absurd (h b l) a
  omega
 subst this;rw[e,e']
theorem FD.step {U V:Nat->Int} (a:U 0=V 0) (h:FD (λi=>U (i+1)) (λi=>V (i+1)) N c):FD U V (N+1) c:=by
 rcases h with⟨rfl,h⟩|⟨k,hk,h,hn,e⟩
 ·refine .inl ⟨rfl,λi hi=> ?_⟩;cases i with
  |zero=>exact a
  |succ i=>exact h i G
 refine .inr ⟨k+1,G,λi hi=> ?_,hn,e⟩;cases i with
 |zero=>exact a
 |succ i=>exact h i G
theorem aSy (u v:AH): ∀(f k:Nat),FD (λi=>om u (i+k)) (λi=>om v (i+k)) f (WM u v f k)
 |0,_=> .inl ⟨rfl,λi hi=>G⟩
 | f+1,k=>by
  by_cases h:om u k=om v k
  ·rw [aBj (by rw[UQ,UQ];exact h)];have a:=aSy u v f (k+1);refine FD.step (by simpa using h) ?_;have e:((k+1:Nat):Int)=(k:Int)+1:=G
   rw[<-e];simpa [ow,ut 1 k] using a
  refine .inr ⟨0,G,λi hi=>G,by simpa using h,?_⟩;rw[WL G (by rw[UQ,UQ];exact λe=>h (mI.1 e)),UQ,UQ];simp
theorem aSz (hu:0<u.length) (a:0<v.length):FD (om u) (om v) (u.length+v.length) (WN u v):=by
 unfold WN;rw[bq G];have:=aSy u v (u.length+v.length) 0;simpa using this
def Lt (U V:Nat->Int):Prop:= ∃k,(∀i,i<k->U i=V i)/\U k<V k
theorem Lt.trans {U V W:Nat->Int} (h:Lt U V) (a:Lt V W):Lt U W:=by
 obtain⟨k,h,hk⟩:=h;obtain⟨m,a,d⟩:=a;by_cases h1:k<m
 ·exact⟨k,λi hi=>by rw[h i hi,a i G],by rw[<-a k h1];exact hk⟩
 by_cases b:m<k
 ·exact⟨m,λi hi=>by rw[h i G,a i hi],by rw[h m b];exact d⟩
 have:k=m:=G
 subst this;exact⟨k,λi hi=>by rw[h i hi,a i hi],G⟩
theorem bHi (hu:0<u.length) (a:0<v.length):WN u v<0↔Lt (om u) (om v):=by
 constructor
 ·intro h;rcases aSz hu a with⟨e,_⟩|⟨k,_,hk,hn,e⟩
  ·omega
  refine ⟨k,hk,?_⟩;rw[e] at h;unfold jO at h;split at h
  ·assumption
  split at h<;>omega
 rintro ⟨k,hk,ci⟩;rcases aSz hu a with⟨e,h⟩|⟨m,_,d,hn,e⟩
 ·have:=agree hu a (qE u) (qE v) h k;omega
 have:k=m:=by
  by_cases h1:k<m
  ·have:=d k h1;omega
  by_cases b:m<k
  ·exact absurd (hk m b) hn
  omega
 subst this;rw[e];unfold jO;rw[cz ci];decide
theorem TK (w:AH): ∀(k i:Nat),i<k*w.length->(rep w k).getD i 0=om w i
 |0,i,h=>G
 | k+1,i,h=>by
  have e:((k+1:Nat):Int)=1+(k:Int):=G
  have a:rep w ((k+1:Nat):Int)=w++rep w k:=by
   unfold rep;rw[show((k+1:Nat):Int).toNat=k+1 by omega,Gt];simp
  rw[a];by_cases hi:i<w.length
  ·rw[nU hi,af,af,jh hi]
  rw [af,ji G,<-af,TK w k (i-w.length) (by rw[yj] at h;omega)];have:=qE w (i-w.length);rw[uj G] at this;exact this.symm
end
section
variable {u:AH} {f p:Nat}
def lpF (u:AH):Nat->Int->Int
 |0,_=>0
 |f+1,p=>if u.drop p.toNat=u.take ((u.length:Int)-p).toNat then p else lpF u f (p+1)
def lp (u:AH):Int:=lpF u u.length 1
theorem aRo {p:Int} (a:0<f) (h:u.drop p.toNat=u.take ((u.length:Int)-p).toNat):lpF u f p=p:=by
 obtain⟨f,rfl⟩: ∃g,f=g+1:=⟨f-1,G⟩;rw[lpF,cz h]
theorem bDw {p:Int} (a:0<f) (h: ¬u.drop p.toNat=u.take ((u.length:Int)-p).toNat):lpF u f p=lpF u (f-1) (p+1):=by
 obtain⟨f,rfl⟩: ∃g,f=g+1:=⟨f-1,G⟩;rw[lpF,bq h];rfl
def XH (u:AH) (p:Nat):Prop:=u.drop p=u.take (u.length-p)
theorem UK:XH u p↔ ∀i,i+p<u.length->u.getD (i+p) 0=u.getD i 0:=by
 constructor
 ·intro h i hi;have:=bi (λl=>l.getD i 0) h;simp only[af,ui,qi] at this;rw[cz G] at this;rw[af,af,ut];exact this
 intro h;refine su cD λi h1 a=> ?_;simp only[az] at h1;have:=h i G;simp only[af] at this;rw[au G,au G] at this;simp only[qj] at this;rw[xz,uf,<-this];simp only[ut]
theorem aHw (u:AH): ∀(f:Nat) (p:Nat),1<=p->p+f=u.length+1->p<=u.length-> ∃r:Nat,lpF u f p=r/\p<=r/\r<=u.length/\XH u r/\ ∀q,p<=q->q<r-> ¬XH u q
 |0,p,_,h2,h3=>G
 | f +1,p,h1,h2,h3=>by
  have e:((u.length:Int)-(p:Int)).toNat=u.length-p:=G
  by_cases h:XH u p
  ·refine ⟨p,aRo G ?_,dn _,h3,h,λq a b=>G⟩;rw[bu,e];exact h
  rw [bDw G (by rw[bu,e];exact h)]
  have ci:p<u.length:=by
   rcases gm p u.length with d|d
   ·exact d
   have:p=u.length:=G
   subst this;exact absurd (by unfold XH;simp) h
  obtain⟨r,l,m,g,i,j⟩:=aHw u f (p+1) G G G;refine⟨r,?_,G,g,i,λq a b=> ?_⟩
  ·rw[<-l];rfl
  by_cases k:q=p
  ·subst k;exact h
  exact j q G b
theorem QM (h:0<u.length): ∃r:Nat,lp u=r/\1<=r/\r<=u.length/\XH u r/\ ∀q,1<=q->q<r-> ¬XH u q:=
 aHw u u.length 1 (dn 1) G h
def rl (u:AH):Int:=if (u.length:Int)%lp u≠0 then u.length else lp u
theorem aHd (hp:0<p) (h:XH u p): ∀i,i<u.length->u.getD i 0=u.getD (i%p) 0:=by
 intro i
 induction i using Nat.strongRecOn with
 | _ i ih=>
  intro hi;by_cases ci:i<p
  ·rw[lm ci]
  have:=UK.1 h (i-p) G;rw[uj G] at this;rw[this,ih (i-p) G G,<-zw G]
theorem aRh (hp:0<p) (hn:p<=u.length) (i:Nat):om (u.take p) i=u.getD (i%p) 0:=by
 unfold om;rw[ax,zh hn];simp only[af];rw[qi,cz (yh _ hp)]
theorem bLk (hp:0<p) (hn:p<=u.length) (a:p∣u.length) (h:XH u p) (i:Nat):om u i=om (u.take p) i:=by
 rw[aRh hp hn];unfold om;rw[aHd hp h _ (yh _ G),Nat.mod_mod_of_dvd _ a]
theorem aRf {d:Nat} (h:Per (om u) d):XH u d:=by
 refine UK.2 λi hi=> ?_;rw[<-nU hi,<-nU (by omega:i<u.length)];exact h i
theorem QC (h:0<u.length): ∃r:Nat,rl u=r/\1<=r/\r<=u.length/\(∀i,om u i=om (u.take r) i)/\ ∀d,1<=d->Per (om u) d->r<=d:=by
 obtain⟨p,hp,h1,e,o,v⟩:=QM h
 have key: ∀d,1<=d->Per (om u) d->d<u.length->p∣u.length/\p<=d:=by
  intro d j D ci;have w:Per (om u) (Nat.gcd d u.length):=Per.gcd _ _ D (qE u);have g1:Nat.gcd d u.length∣u.length:=Nat.gcd_dvd_right _ _;have g2:Nat.gcd d u.length<=d:=Nat.le_of_dvd G (Nat.gcd_dvd_left _ _);have g3:0<Nat.gcd d u.length:=Nat.gcd_pos_of_pos_left _ G;generalize Nat.gcd d u.length=g at*
  have p1:p<=g:=by
   rcases gm g p with a|a
   ·exact absurd (aRf w) (v g g3 a)
   exact a
  have g4:2*g<=u.length:=by
   obtain⟨k,hk⟩:=g1
   have:2<=k:=by
    rcases gm k 2 with a|a
    ·have:k=0\/k=1:=G
     rcases this with rfl|rfl<;>omega
    exact a
   rw[hk]
   calc 2*g<=k*g:=vo _ this
    _=g*k:=Ai _ _
  have l: ∀i,om (u.take p) i=om u i:=by
   refine agree (p:=p) (q:=g) G g3 ?_ w λi hi=> ?_
   ·have:=qE (u.take p);rwa[ax,zh e] at this
   rw[aRh G e,nU G,<-aHd G o i G]
  have F:Per (om u) p:=by
   intro i;rw[<-l,<-l];have:=qE (u.take p) i;rwa[ax,zh e] at this
  have B:Per (om u) (Nat.gcd p u.length):=Per.gcd _ _ F (qE u);have x:Nat.gcd p u.length∣p:=Nat.gcd_dvd_left _ _;have m:Nat.gcd p u.length∣u.length:=Nat.gcd_dvd_right _ _;have y:0<Nat.gcd p u.length:=Nat.gcd_pos_of_pos_left _ G;have H:=Nat.le_of_dvd G x
  have J:p<=Nat.gcd p u.length:=by
   rcases gm (Nat.gcd p u.length) p with a|a
   ·exact absurd (aRf B) (v _ y a)
   exact a
  have A:Nat.gcd p u.length=p:=G
  rw[A] at m;exact⟨m,G⟩
 by_cases j:p∣u.length
 ·refine ⟨p,?_,h1,e,bLk G e j o,λd a b=> ?_⟩
  ·unfold rl;rw[hp,bq]
   intro hn;refine hn ?_;rw[<-zm,Nat.mod_eq_zero_of_dvd j];rfl
  rcases gm d u.length with c|c
  ·exact(key d a b c).2
  omega
 refine ⟨u.length,?_,G,dn _,λi=>by rw[qa],λd a b=> ?_⟩
 ·unfold rl;rw[hp,cz];intro C;rw[<-zm] at C;exact j (Nat.dvd_of_mod_eq_zero G)
 rcases gm d u.length with c|c
 ·exact absurd (key d a b c).1 j
 exact c
theorem nT (h:0<u.length):1<=rl u/\rl u<=u.length:=by
 obtain⟨r,e,h1,a,_⟩:=QC h;omega
theorem VH (h:0<u.length):1<=lp u/\lp u<=u.length:=by
 obtain⟨r,e,h1,a,_⟩:=QM h;omega
theorem aNc {a:Nat} (hu:0<u.length) (b:0<a) (i:Nat):om (rep u a) i=om u i:=by
 have l:(rep u a).length=a*u.length:=by rw[lU,bu]
 have hp:0<a*u.length:=Ch b hu;have d:i%(a*u.length)<a*u.length:=yh _ hp;have e:om (rep u a) i=(rep u a).getD (i%(rep u a).length) 0:=rfl;rw[e,l,TK u a _ d];unfold om;rw[Nat.mod_mod_of_dvd _ (Nat.dvd_mul_left _ _)]
end
end Go.Pure
namespace Go.Pure
open Go Go.Eng
def orL:AH->Int
 |[]=>0
 |a::l=>if a≠0 then a else orL l
theorem bSi {l:AH} {k:Int} (a:0<=k) (h:k<l.length) (b:rd l k=0):orL (l.drop k.toNat)=orL (l.drop (k+1).toNat):=by
 rw[fK a h,orL,bq G]
theorem bLg {l:AH} {k:Int} (a:0<=k) (h:k<l.length) (b:rd l k≠0):orL (l.drop k.toNat)=rd l k:=by
 rw[fK a h,orL,cz b]
def ahd (ws:AD) (bs rs:AH) (t:Int × Int) (h:Int):Int:=rd rs (rd bs t.1+(t.2+h)%((rdl ws t.1).length:Int))
def aLl (ws:AD) (bs rs:AH) (h:Int) (t u:Int × Int):Int:=
 orL [jO (ahd ws bs rs t 0) (ahd ws bs rs u 0),jO (ahd ws bs rs t h) (ahd ws bs rs u h),jO t.1 u.1,jO t.2 u.2]
def TOk (ws:AD) (bs:AH) (N:Nat) (t:Int × Int):Prop:=(0<=t.1/\t.1<ws.length/\t.1<bs.length)/\(0<=t.2/\t.2<(rdl ws t.1).length/\t.2<=1000000)/\0<(rdl ws t.1).length/\(0<=rd bs t.1/\rd bs t.1+(rdl ws t.1).length<=N)
def jV (bs:AH) (t:Int × Int):Int:=rd bs t.1+t.2
def OI (ws:AD) (bs rs:AH) (h:Int) (t u:Int × Int):Prop:=ahd ws bs rs t 0≠ahd ws bs rs u 0\/ahd ws bs rs t h≠ahd ws bs rs u h
instance (ws:AD) (bs rs:AH) (h:Int) (t u:Int × Int):Decidable (OI ws bs rs h t u):=by unfold OI;infer_instance
def kE (ws:AD) (bs rs:AH) (h:Int) (l:AE):Nat->Int
 |0=>0
 |i+1=>kE ws bs rs h l i+if OI ws bs rs h (rdp l i) (rdp l (i+1:Nat)) then 1 else 0
theorem EU {ws:AD} {bs rs:AH} {h:Int} {l:AE} {i:Int} (hi:0<i):kE ws bs rs h l i.toNat=kE ws bs rs h l (i-1).toNat+if OI ws bs rs h (rdp l (i-1)) (rdp l i) then 1 else 0:=by
 obtain⟨k,rfl⟩: ∃k:Nat,i=(k:Int)+1:=⟨(i-1).toNat,G⟩;have a:((k:Int)+1).toNat=k+1:=G
 have b:((k:Int)+1-1)=k:=G
 rw[a,b,bu];rfl
theorem fZ {l:AH} {i v:Int} (a:0<=i) (h:i<l.length):rd (upd l i v) i=v:=by
 unfold rd upd;have hl:i.toNat<l.length:=G
 simp[af,hl]
theorem iD {l:AH} {i j v:Int} (b:0<=i) (d:0<=j) (a:i≠j):rd (upd l i v) j=rd l j:=by
 unfold rd upd;have:i.toNat≠j.toNat:=G
 simp[af,this]
theorem lV {l:AE} {i:Int} (a:0<=i) (h:i<l.length):rdp l i∈l:=by
 have hl:i.toNat<l.length:=G
 simp[rdp,af,au hl]
theorem bKp {l:AE} (b:l.Nodup) {i j:Int} (d:0<=i) (h:i<l.length) (g0:0<=j) (g:j<l.length) (e:rdp l i=rdp l j):i=j:=by
 have hi:i.toNat<l.length:=G
 have a:j.toNat<l.length:=G
 simp only[rdp,af,au hi,au a,qj] at e;rcases jf i j with ci|ci|ci
 ·exact absurd e (dz.1 b i.toNat j.toNat hi a G)
 ·exact ci
 exact absurd e.symm (dz.1 b j.toNat i.toNat a hi G)
theorem GL {bs rk:AH} {l:AE} {f:Nat->Int} {i n:Int} (b:l.Nodup) (m: ∀t∈l,∀u∈l,jV bs t=jV bs u->t=u) (a:0<=i) (hi:i<l.length) (h: ∀t∈l,0<=jV bs t) (ci:jV bs (rdp l i)<rk.length)
  (k: ∀j:Nat,j<i->rd rk (jV bs (rdp l j))=f j) (hn:n=f i.toNat): ∀j:Nat,(j:Int)<i+1->rd (upd rk (rd bs (rdp l i).1+(rdp l i).2) n) (jV bs (rdp l j))=f j:=by
 intro j q;have g:=h _ (lV a hi);by_cases d:(j:Int)=i
 ·subst d;rw[bu] at hn;rw[<-hn];exact fZ g ci
 have o:=h _ (lV (show(0:Int)<=j by omega) (show(j:Int)<l.length by omega));have p:jV bs (rdp l i)≠jV bs (rdp l j):=λe=>d (bKp b G G a hi (m _ (lV a hi) _ (lV G G) e).symm);have e:=iD (l:=rk) (v:=n) g o p;rw[<-k j G];exact e
theorem KV {a b:Int}:jO a b<0↔a<b:=by unfold jO;split<;>(try split)<;>omega
theorem IX (ws:AD) (bs rs:AH) (h:Int) (t u:Int × Int):aLl ws bs rs h t u<0↔
  (ahd ws bs rs t 0<ahd ws bs rs u 0\/ahd ws bs rs t 0=ahd ws bs rs u 0/\(ahd ws bs rs t h<ahd ws bs rs u h\/ahd ws bs rs t h=ahd ws bs rs u h/\(t.1<u.1\/t.1=u.1/\t.2<u.2))):=by
 unfold aLl;simp only[orL];generalize ahd ws bs rs t 0=a;generalize ahd ws bs rs u 0=b;generalize ahd ws bs rs t h=c;generalize ahd ws bs rs u h=d;by_cases h1:a=b
 ·have g:jO a b=0:=mI.2 h1;by_cases l:c=d
  ·have i:jO c d=0:=mI.2 l;by_cases m:t.1=u.1
   ·have j:jO t.1 u.1=0:=mI.2 m;by_cases o:t.2=u.2
    ·have k:jO t.2 u.2=0:=mI.2 o;simp[g,i,j,k];omega
    have k:jO t.2 u.2≠0:=λe=>o (mI.1 e);simp only[g,i,j,ne_eq,not_true,Fa,xq,Jy,k,KV];omega
   have j:jO t.1 u.1≠0:=λe=>m (mI.1 e);simp only[g,i,ne_eq,not_true,Fa,xq,Jy,j,KV];omega
  have i:jO c d≠0:=λe=>l (mI.1 e);simp only[g,ne_eq,not_true,Fa,xq,Jy,i,KV];omega
 have g:jO a b≠0:=λe=>h1 (mI.1 e);simp only[ne_eq,g,Fa,Jy,KV];omega
theorem aZw (ws:AD) (bs rs:AH) (h:Int):Go.Sort.SWO (Go.Proofs.ltOf (aLl ws bs rs h)):=by
 refine⟨λx=> ?_,λx y z h1 a=> ?_,λx y z h1 a=> ?_⟩
 ·simp only[Go.Proofs.ltOf,si,IX];omega
 ·simp only[Go.Proofs.ltOf,wo,IX] at*;omega
 simp only[Go.Proofs.ltOf,si,IX] at*;omega
end Go.Pure
namespace Go.Pure
open Go Go.Eng
def qZ (ws:AD) (k:Nat):Nat:=((ws.take k).flatten).length
def vY (ws:AD) (k:Nat):AH:=(List.range k).map λi=>(qZ ws i:Int)
def turnsOf (w:Int) (j:Nat):AE:=(List.range j).map λi:Nat=>(w,(i:Int))
def iB (ws:AD):Nat->AE
 |0=>[]
 |k+1=>iB ws k++turnsOf k (rdl ws k).length
theorem IQ (w:Int) {j:Int} (h:0<=j):turnsOf w (j+1).toNat=turnsOf w j.toNat++[(w,j)]:=by
 obtain⟨j,rfl⟩: ∃m:Nat,j=m:=⟨j.toNat,G⟩;rw[show((j:Int)+1).toNat=j+1 by omega,bu];unfold turnsOf;rw[Ae,jc];rfl
theorem NR (w:Int) (j:Nat):(turnsOf w j).length=j:=by simp[turnsOf]
theorem gJ {ws:AD} {k:Int} (a:0<=k) (h:k<ws.length):(ws.take (k+1).toNat).flatten=(ws.take k.toNat).flatten++rdl ws k:=by
 rw[show ws.take (k+1).toNat=ws.take k.toNat++[rdl ws k] from ?_]
 ·simp
 have hl:k.toNat<ws.length:=G
 rw[show(k+1).toNat=k.toNat+1 by omega,rf,au hl];simp[rdl,af,au hl]
theorem mG {ws:AD} {k:Int} (a:0<=k) (h:k<ws.length):qZ ws (k+1).toNat=qZ ws k.toNat+(rdl ws k).length:=by
 unfold qZ;rw[gJ a h,aa]
theorem QK (ws:AD) (k:Nat):qZ ws k<=ws.flatten.length:=by
 unfold qZ;have:=ed k ws
 calc ((ws.take k).flatten).length<=((ws.take k).flatten).length+((ws.drop k).flatten).length:=Cq _ _
  _=((ws.take k++ws.drop k).flatten).length:=by rw[lq,aa]
  _=_:=by rw[this]
theorem aPd {ws:AD} {k:Int} (a:0<=k):vY ws (k+1).toNat=vY ws k.toNat++[(qZ ws k.toNat:Int)]:=by
 rw[show(k+1).toNat=k.toNat+1 by omega];unfold vY;rw[Ae,jc];rfl
theorem aBt (ws:AD) (k:Nat):(vY ws k).length=k:=by simp[vY]
theorem SC {ws:AD} {k:Int} (a:0<=k):iB ws (k+1).toNat=iB ws k.toNat++turnsOf k (rdl ws k).length:=by
 obtain⟨k,rfl⟩: ∃m:Nat,k=m:=⟨k.toNat,G⟩;rw[show((k:Int)+1).toNat=k+1 by omega,bu];rfl
theorem DF (ws:AD): ∀k:Nat,k<=ws.length->(iB ws k).length=qZ ws k
 |0,_=>rfl
 |k+1,h=>by
  have a:=DF ws k G;have:=mG (ws:=ws) (k:=k) G G;rw[show((k:Int)+1).toNat=k+1 by omega,bu] at this;show(iB ws k++turnsOf k (rdl ws k).length).length=_;rw[aa,a,NR,this]
end Go.Pure
namespace Go.Pure
open Go Go.Eng
section
variable {H:Nat} {h:Int} {ws:AD} {bs rs:AH}
section
variable {U V W:Nat->Int} {t u:Int × Int}
def tw (ws:AD) (t:Int × Int) (j:Nat):Int:=(rdl ws t.1).getD ((t.2.toNat+j)%(rdl ws t.1).length) 0
def TV (ws:AD) (t:Int × Int):Prop:=0<=t.1/\t.1<ws.length/\0<=t.2/\t.2<(rdl ws t.1).length
def LtH (H:Nat) (U V:Nat->Int):Prop:= ∃k,k<H/\(∀i,i<k->U i=V i)/\U k<V k
def EqH (H:Nat) (U V:Nat->Int):Prop:= ∀i,i<H->U i=V i
theorem EqH.symm (h:EqH H U V):EqH H V U:=λi hi=>(h i hi).symm
theorem EqH.trans (h:EqH H U V) (a:EqH H V W):EqH H U W:=λi hi=>(h i hi).trans (a i hi)
theorem LtH.not_eq (h:LtH H U V): ¬EqH H U V:=λe=>by
 obtain⟨k,hk,_,hl⟩:=h;have:=e k hk;omega
theorem LtH.asymm (h:LtH H U V): ¬LtH H V U:=by
 obtain⟨k,hk,h1,hl⟩:=h;rintro⟨m,g,d,e⟩;by_cases a:k<m
 ·have:=d k a;omega
 by_cases b:m<k
 ·have:=h1 m b;omega
 have:k=m:=G
 subst this;omega
theorem LtH.trans (h:LtH H U V) (g:LtH H V W):LtH H U W:=by
 obtain⟨k,hk,h1,hl⟩:=h;obtain⟨m,j,d,e⟩:=g;by_cases a:k<m
 ·exact⟨k,hk,λi hi=>(h1 i hi).trans (d i G),by rw[<-d k a];exact hl⟩
 by_cases b:m<k
 ·exact⟨m,j,λi hi=>(h1 i G).trans (d i hi),by rw[h1 m b];exact e⟩
 have:k=m:=G
 subst this;exact⟨k,hk,λi hi=>(h1 i hi).trans (d i hi),G⟩
theorem LtH.eq_left (h:EqH H U V) (a:LtH H V W):LtH H U W:=by
 obtain⟨k,hk,h1,hl⟩:=a;exact⟨k,hk,λi hi=>(h i G).trans (h1 i hi),by rw[h k hk];exact hl⟩
theorem LtH.eq_right (h:LtH H U V) (a:EqH H V W):LtH H U W:=by
 obtain⟨k,hk,h1,hl⟩:=h;exact⟨k,hk,λi hi=>(h1 i hi).trans (a i G),by rw[<-a k hk];exact hl⟩
theorem tri (H:Nat) (U V:Nat->Int):LtH H U V\/EqH H U V\/LtH H V U:=by
 induction H with
 |zero=>exact .inr (.inl λi hi=>G)
 | succ H ih=>
  rcases ih with⟨k,hk,h⟩|h|⟨k,hk,h⟩
  ·exact .inl ⟨k,G,h⟩
  ·rcases jf (U H) (V H) with a|a|a
   ·exact .inl ⟨H,G,h,a⟩
   ·refine .inr (.inl λi hi=> ?_);by_cases e:i=H
    ·rw[e];exact a
    exact h i G
   exact .inr (.inr ⟨H,G,λi hi=>(h i hi).symm,a⟩)
  exact .inr (.inr ⟨k,G,h⟩)
theorem aSh {h:Nat}:EqH (H+h) U V↔EqH H U V/\EqH h (λi=>U (i+H)) (λi=>V (i+H)):=by
 constructor
 ·exact λe=>⟨λi hi=>e i G,λi hi=>e (i+H) G⟩
 rintro ⟨a,b⟩ i hi;by_cases c:i<H
 ·exact a i c
 have:=b (i-H) G;simpa [uj (show H<=i by omega)] using this
theorem bLz {h:Nat}:LtH (H+h) U V↔LtH H U V\/EqH H U V/\LtH h (λi=>U (i+H)) (λi=>V (i+H)):=by
 constructor
 ·rintro ⟨k,hk,h1,hl⟩;by_cases c:k<H
  ·exact .inl ⟨k,c,h1,hl⟩
  refine .inr ⟨λi hi=>h1 i G,k-H,G,λi hi=>h1 (i+H) G,?_⟩;simpa [uj (show H<=k by omega)] using hl
 rintro (⟨k,hk,h1,hl⟩|⟨e,k,hk,h1,hl⟩)
 ·exact⟨k,G,h1,hl⟩
 refine ⟨k+H,G,λi hi=> ?_,hl⟩;by_cases c:i<H
 ·exact e i c
 have:=h1 (i-H) G;simpa [uj (show H<=i by omega)] using this
def RK (ws:AD) (bs:AH) (H:Nat) (rs:AH):Prop:= ∀t u,TV ws t->TV ws u->(rd rs (jV bs t)<rd rs (jV bs u)↔LtH H (tw ws t) (tw ws u))/\(rd rs (jV bs t)=rd rs (jV bs u)↔EqH H (tw ws t) (tw ws u))
def sh (ws:AD) (t:Int × Int) (h:Int):Int × Int:=(t.1,(t.2+h)%((rdl ws t.1).length:Int))
theorem aQn (e:TV ws t):TV ws (sh ws t h):=by
 obtain⟨a,b,c,d⟩:=e;exact⟨a,b,jk _ G,ja _ G⟩
theorem aEi (ws:AD) (bs rs:AH) (t:Int × Int) (h:Int):ahd ws bs rs t h=rd rs (jV bs (sh ws t h)):=rfl
theorem QB (e:TV ws t):sh ws t 0=t:=by
 obtain⟨a,b,c,d⟩:=e;unfold sh;rw[yw,kg c d]
theorem YT (e:TV ws t) (i:0<=h) (j:Nat):tw ws (sh ws t h) j=tw ws t (j+h.toNat):=by
 obtain⟨a,b,c,d⟩:=e;unfold tw sh;simp only;congr 1;obtain⟨x,g⟩: ∃m:Nat,t.2=m:=⟨t.2.toNat,G⟩;obtain⟨y,rfl⟩: ∃m:Nat,h=m:=⟨h.toNat,G⟩;rw[g,bu,bu,show((x:Int)+(y:Int))=((x+y:Nat):Int) by omega,<-zm,bu,Nat.mod_add_mod];congr 1;omega
def jB (h:Int):Nat:=if h=0 then 1 else(2*h).toNat
def qH (h:Int):Nat:=(max 1 h).toNat
theorem aRn (g:0<=h) (j:RK ws bs (qH h) rs) (a:TV ws t) (hu:TV ws u):
  (LtH (jB h) (tw ws t) (tw ws u)↔(ahd ws bs rs t 0<ahd ws bs rs u 0\/ahd ws bs rs t 0=ahd ws bs rs u 0/\ahd ws bs rs t h<ahd ws bs rs u h))/\
  (EqH (jB h) (tw ws t) (tw ws u)↔(ahd ws bs rs t 0=ahd ws bs rs u 0/\ahd ws bs rs t h=ahd ws bs rs u h)):=by
 have b:=j t u a hu;have r1:=j _ _ (aQn (h:=h) a) (aQn (h:=h) hu);rw[aEi,aEi,aEi,aEi,QB a,QB hu];by_cases d:h=0
 ·subst d;rw[QB a,QB hu];have e:jB 0=qH 0:=cC
  rw[e,<-b.1,<-b.2];constructor<;>omega
 have k:qH h=h.toNat:=by unfold qH;omega
 have l:jB h=h.toNat+h.toNat:=by unfold jB;rw[bq d];omega
 rw[k] at b r1;rw[l,bLz,aSh,<-b.1,<-b.2];have f1:(λi=>tw ws t (i+h.toNat))=tw ws (sh ws t h):=funext λi=>(YT a g i).symm;have f2:(λi=>tw ws u (i+h.toNat))=tw ws (sh ws u h):=funext λi=>(YT hu g i).symm;rw[f1,f2,<-r1.1,<-r1.2];exact⟨Iff.rfl,Iff.rfl⟩
def ltI (t u:Int × Int):Prop:=t.1<u.1\/t.1=u.1/\t.2<u.2
def bCz (ws:AD) (H:Nat) (t u:Int × Int):Prop:=LtH H (tw ws t) (tw ws u)\/EqH H (tw ws t) (tw ws u)/\ltI t u
theorem aZx (d:0<=h) (e:RK ws bs (qH h) rs) (g:TV ws t) (hu:TV ws u):aLl ws bs rs h t u<0↔bCz ws (jB h) t u:=by
 obtain⟨a,b⟩:=aRn d e g hu;rw[IX];unfold bCz ltI;rw[a,b];omega
theorem bEk (a:0<=h) (d:RK ws bs (qH h) rs) (e:TV ws t) (hu:TV ws u):OI ws bs rs h t u↔ ¬EqH (jB h) (tw ws t) (tw ws u):=by
 obtain⟨_,b⟩:=aRn a d e hu;rw[b];unfold OI;omega
end
end
theorem zY: ∀ {a b:AH},a.Perm b->a.Pairwise (· <= ·)->b.Pairwise (· <= ·)->a=b
 |[],b,h,_,_=>(List.nil_perm.1 h).symm
 |x::a,[],h,_,_=>absurd h.symm cD
 | x::a,y::b,h,ha,hb=>by
  have h1:y<=x:=by
   rcases il.1 (h.mem_iff.1 (.head _)) with e|e
   ·omega
   exact(jb.1 hb).1 x e
  have d:x<=y:=by
   rcases il.1 (h.mem_iff.2 (.head _)) with e|e
   ·omega
   exact(jb.1 ha).1 y e
  have e:x=y:=G
  subst e;rw[zY ((List.perm_cons x).1 h) (jb.1 ha).2 (jb.1 hb).2]
theorem LtH.mono {H M:Nat} {U V:Nat->Int} (h:LtH H U V) (a:H<=M):LtH M U V:=by
 obtain⟨k,hk,r⟩:=h;exact⟨k,G,r⟩
theorem EqH.mono {H M:Nat} {U V:Nat->Int} (h:EqH M U V) (a:H<=M):EqH H U V:=λi hi=>h i G
structure Sorted (ws:AD) (M:Nat) (l:AE):Prop where
 tv: ∀t∈l,TV ws t
 nodup:l.Nodup
 pw:l.Pairwise λx y=> ¬bCz ws M y x
theorem rP {l:AE} {j:Nat} (h:j<l.length):rdp l j=l[j]:=by
 simp[rdp,af,au h]
theorem Sorted.le {ws:AD} {M:Nat} {l:AE} (s:Sorted ws M l) {i j:Nat} (b:i<j) (a:j<l.length): ¬LtH M (tw ws (rdp l j)) (tw ws (rdp l i)):=by
 have:=dz.1 s.pw i j G a b;rw[rP a,rP G];exact λh=>this (.inl h)
theorem Sorted.eq_between {ws:AD} {M:Nat} {l:AE} (s:Sorted ws M l) {i m j:Nat} (h1:i<=m) (b:m<=j) (e:j<l.length) (d:EqH M (tw ws (rdp l i)) (tw ws (rdp l j))):EqH M (tw ws (rdp l i)) (tw ws (rdp l m)):=by
 rcases Nat.eq_or_lt_of_le h1 with rfl|h1
 ·exact λ_ _=>rfl
 rcases Nat.eq_or_lt_of_le b with rfl|b
 ·exact d
 rcases tri M (tw ws (rdp l i)) (tw ws (rdp l m)) with a|a|a
 ·exact absurd (LtH.eq_left d.symm a) (s.le b e)
 ·exact a
 exact absurd a (s.le h1 G)
section
variable {ws:AD} {bs rs:AH} {h:Int} {l:AE}
theorem WQ (a:0<=h) (b:RK ws bs (qH h) rs) (s:Sorted ws (jB h) l) {j:Nat} (g:j+1<l.length):
  (EqH (jB h) (tw ws (rdp l j)) (tw ws (rdp l (j+1:Nat)))/\kE ws bs rs h l (j+1)=kE ws bs rs h l j)\/(¬EqH (jB h) (tw ws (rdp l j)) (tw ws (rdp l (j+1:Nat)))/\kE ws bs rs h l (j+1)=kE ws bs rs h l j+1):=by
 have d:=s.tv _ (lV (l:=l) (i:=(j:Int)) G G);have hu:=s.tv _ (lV (l:=l) (i:=((j+1:Nat):Int)) G G);have hk:=bEk a b d hu;show _/\kE ws bs rs h l j+(if OI ws bs rs h (rdp l j) (rdp l (j+1:Nat)) then 1 else 0)=_\/_;by_cases e:EqH (jB h) (tw ws (rdp l j)) (tw ws (rdp l (j+1:Nat)))
 ·exact .inl ⟨e,by rw[bq (λk=>hk.1 k e),yw]⟩
 refine .inr ⟨e,?_⟩;show kE ws bs rs h l j+(if OI ws bs rs h (rdp l j) (rdp l (j+1:Nat)) then 1 else 0)=_;rw[cz (hk.2 e)]
theorem WS (g:0<=h) (k:RK ws bs (qH h) rs) (s:Sorted ws (jB h) l) {i:Nat}: ∀d,i+d<l.length->kE ws bs rs h l i<=kE ws bs rs h l (i+d)/\(kE ws bs rs h l i=kE ws bs rs h l (i+d)↔EqH (jB h) (tw ws (rdp l i)) (tw ws (rdp l (i+d:Nat))))
 |0,_=>⟨ni _,⟨λ_ _ _=>rfl,λ_=>rfl⟩⟩
 | d+1,hd=>by
  obtain⟨a,b⟩:=WS (i:=i) g k s d G;rcases WQ g k s (j:=i+d) hd with⟨e,c⟩|⟨e,c⟩
  ·have c':kE ws bs rs h l (i+(d+1))=kE ws bs rs h l (i+d):=c;rw[c'];refine⟨a,b.trans ⟨λx=>x.trans e,λx=>x.trans e.symm⟩⟩
  have c':kE ws bs rs h l (i+(d+1))=kE ws bs rs h l (i+d)+1:=c;rw[c'];refine⟨G,⟨λx=>G,λx=>absurd ?_ e⟩⟩;have y:=s.eq_between (m:=i+d) G G hd x;exact y.symm.trans x
theorem bHl (g:0<=h) (m:RK ws bs (qH h) rs) (s:Sorted ws (jB h) l) {i j:Nat} (hi:i<l.length) (k:j<l.length):
  (kE ws bs rs h l i<kE ws bs rs h l j↔LtH (jB h) (tw ws (rdp l i)) (tw ws (rdp l j)))/\(kE ws bs rs h l i=kE ws bs rs h l j↔EqH (jB h) (tw ws (rdp l i)) (tw ws (rdp l j))):=by
 rcases yg i j with ci|rfl|ci
 ·obtain ⟨d,rfl⟩: ∃d,j=i+d:=⟨j-i,G⟩;obtain⟨a,b⟩:=WS (i:=i) g m s d k;refine⟨?_,b⟩;constructor
  ·intro x;rcases tri (jB h) (tw ws (rdp l i)) (tw ws (rdp l (i+d:Nat))) with y|y|y
   ·exact y
   ·have:=b.2 y;omega
   exact absurd y (s.le ci k)
  intro x;have:kE ws bs rs h l i≠kE ws bs rs h l (i+d):=λe=>x.not_eq (b.1 e);omega
 ·exact⟨⟨λx=>G,λx=>absurd x x.asymm⟩,⟨λ_ _ _=>rfl,λ_=>rfl⟩⟩
 obtain ⟨d,rfl⟩: ∃d,i=j+d:=⟨i-j,G⟩;obtain⟨a,b⟩:=WS (i:=j) g m s d hi;refine⟨⟨λx=>G,λx=>absurd x (s.le ci hi)⟩,⟨λx=>(b.1 x.symm).symm,λx=>(b.2 x.symm).symm⟩⟩
theorem bKk (e:0<=h) (g:RK ws bs (qH h) rs) (s:Sorted ws (jB h) l) (d: ∀t,TV ws t->t∈l) {rk:AH} (b: ∀j:Nat,j<l.length->rd rk (jV bs (rdp l j))=kE ws bs rs h l j):RK ws bs (jB h) rk:=by
 intro t u k hu;obtain⟨i,hi,rfl⟩:=ib.1 (d t k);obtain⟨j,a,rfl⟩:=ib.1 (d u hu);rw[<-rP hi,<-rP a,b i hi,b j a];exact bHl e g s hi a
structure Steps (bs rs:AH) (lo:AE) (w:Int):Prop where
 zero:0<lo.length->rd rs (jV bs (rdp lo (0:Nat)))=0
 step: ∀j:Nat,j+1<lo.length->rd rs (jV bs (rdp lo (j+1:Nat)))=rd rs (jV bs (rdp lo j))\/rd rs (jV bs (rdp lo (j+1:Nat)))=rd rs (jV bs (rdp lo j))+1
 last:0<lo.length->rd rs (jV bs (rdp lo ((lo.length-1:Nat):Int)))=w
theorem aLp (g:0<=h) (i:RK ws bs (qH h) rs) (s:Sorted ws (jB h) l) {rk:AH} (a: ∀j:Nat,j<l.length->rd rk (jV bs (rdp l j))=kE ws bs rs h l j):Steps bs rk l (kE ws bs rs h l (l.length-1)):=by
 refine⟨λb=>by rw[a 0 b];rfl,λj d=> ?_,λb=>a _ G⟩;rw[a _ d,a j G];rcases WQ g i s d with⟨_,e⟩|⟨_,e⟩
 ·exact .inl e
 exact .inr e
theorem VD {f:Int × Int->Int} {l:AE} (h: ∀j:Nat,j+1<l.length->f (rdp l j)<=f (rdp l (j+1:Nat))):(l.map f).Pairwise (· <= ·):=by
 have mono: ∀d i:Nat,i+d<l.length->f (rdp l i)<=f (rdp l (i+d:Nat)):=by
  intro d
  induction d with
  |zero=>intro i _;exact ni _
  |succ d ih=>intro i hi;exact Jl (ih i G) (h (i+d) G)
 refine iv.2 (dz.2 λi j hi a b=> ?_);have:=mono (j-i) i G;rw[show i+(j-i)=j by omega,rP hi,rP a] at this;exact this
theorem bLp (S:0<h) (p:RK ws bs (qH h) rs) (s:Sorted ws (jB h) l) {lo:AE} {w:Int} (hp:l.Perm lo) (st:Steps bs rs lo w) (P:kE ws bs rs h l (l.length-1)=w) {i j:Nat} (hi:i<l.length) (m:j<l.length)
  (N:EqH (qH h) (tw ws (rdp l i)) (tw ws (rdp l j))):EqH (jB h) (tw ws (rdp l i)) (tw ws (rdp l j)):=by
 have D:0<=h:=G
 have v:qH h<=jB h:=by unfold qH jB;rw[bq G];omega
 have hlen:=hp.length_eq
 let g:Int × Int->Int:=λt=>rd rs (jV bs t)
 have o: ∀j:Nat,j<l.length->TV ws (rdp l j):=λj m=>s.tv _ (lV G G)
 have L:(l.map g).Pairwise (· <= ·):=VD λj m=>by
  have hn:=s.le (i:=j) (j:=j+1) G m;have:=(p _ _ (o (j+1) m) (o j G)).1;have O: ¬rd rs (jV bs (rdp l (j+1:Nat)))<rd rs (jV bs (rdp l j)):=λx=>hn ((this.1 x).mono v);show rd rs (jV bs (rdp l j))<=rd rs (jV bs (rdp l (j+1:Nat)));omega
 have M:(lo.map g).Pairwise (· <= ·):=VD λj m=>by
  show rd rs (jV bs (rdp lo j))<=rd rs (jV bs (rdp lo (j+1:Nat)));rcases st.step j m with e|e<;>omega
 have H:=zY (hp.map g) L M
 have r: ∀j:Nat,j<l.length->g (rdp l j)=g (rdp lo j):=λj m=>by
  have C:j<lo.length:=G
  have:=bi (λq=>q[j]?) H;simp only[mr,au m,au C,lh,jl] at this;rw[rP m,rP C];exact this
 have key: ∀d k:Nat,k+d<l.length->kE ws bs rs h l k-g (rdp l k)<=kE ws bs rs h l (k+d)-g (rdp l (k+d:Nat)):=by
  intro d
  induction d with
  |zero=>intro k _;exact ni _
  | succ d ih=>
   intro k hk;refine Jl (ih k G) ?_;have B:=r (k+d) G;have R:=r (k+(d+1)) hk;have K:=st.step (k+d) G;have T:g (rdp lo (k+(d+1):Nat))=g (rdp lo (k+d:Nat))\/g (rdp lo (k+(d+1):Nat))=g (rdp lo (k+d:Nat))+1:=K;rcases WQ D p s (j:=k+d) hk with⟨e,c⟩|⟨e,c⟩
   ·have c':kE ws bs rs h l (k+(d+1))=kE ws bs rs h l (k+d):=c;have:=(p _ _ (o (k+d) G) (o (k+d+1) hk)).2.2 (e.mono v);have u:g (rdp l (k+d:Nat))=g (rdp l (k+(d+1):Nat)):=this;omega
   have c':kE ws bs rs h l (k+(d+1))=kE ws bs rs h l (k+d)+1:=c;omega
 have A: ∀k:Nat,k<l.length->kE ws bs rs h l k=g (rdp l k):=by
  intro k hk;have J:0<l.length:=G
  have a:=key k 0 G;have b:=key (l.length-1-k) k G;rw[oh] at a;rw[show k+(l.length-1-k)=l.length-1 by omega,P] at b;have z:=r 0 J;have X:g (rdp lo (0:Nat))=0:=st.zero G;have y:=r (l.length-1) G;have F:=st.last G;rw[<-hlen] at F;have Q:g (rdp lo ((l.length-1:Nat):Int))=w:=F;have c0:kE ws bs rs h l 0=0:=rfl;omega
 have B:=(p _ _ (o i hi) (o j m)).2.2 N;refine(bHl D p s hi m).2.1 ?_;rw[A i hi,A j m];exact B
end
section
variable {f:Nat->Int} {p j a:Nat} {s:AH}
def Lyn (f:Nat->Int) (p:Nat):Prop:=0<p/\ ∀r,0<r->r<p-> ∃d,r+d<p/\(∀e,e<d->f e=f (r+e))/\f d<f (r+d)
def CX (f:Nat->Int) (p j:Nat):Prop:= ∀i,i+p<j->f (i+p)=f i
theorem CX.mod (hp:0<p) (h:CX f p j): ∀i,i<j->f i=f (i%p):=by
 intro i
 induction i using Nat.strongRecOn with
 | ind i ih=>
  intro hi;rcases gm i p with a|a
  ·rw[lm a]
  have e:=h (i-p) G;rw[show i-p+p=i by omega] at e;rw[e,ih (i-p) G G];congr 1;rw[zw a]
theorem bGw (k:Lyn f p) (x:CX f p j) (u:p<=j) (ci:f (j-p)<f j):Lyn f (j+1):=by
 obtain⟨hp,k⟩:=k;have d:=x.mod hp;refine⟨G,λr y A=> ?_⟩;have m:(j-p)%p=j%p:=(zw u).symm
 have o: ∀e,r+e<j->r%p+e<p->f (r+e)=f (r%p+e):=by
  intro e h1 v;rw[d _ h1];congr 1;rw[Kj,lm (a:=e) G,lm v]
 have q:f (j-p)=f (j%p):=by rw[d (j-p) G,m]
 rcases fe (r%p) with g|g
 ·refine ⟨j-r,G,λe l=> ?_,?_⟩
  ·rw [d e G,d (r+e) G];congr 1;rw[Kj,g,oh,Nat.mod_mod]
  rw [show r+(j-r)=j by omega]
  have i:(j-r)%p=j%p:=by
   have:j=r+(j-r):=G
   conv=>rhs;rw[this,Kj,g,oh,Nat.mod_mod]
  rcases gm 0 r with _|_
  ·rw[d (j-r) G,i,<-q];exact ci
  omega
 obtain ⟨d0,w,h,hl⟩:=k (r%p) g (yh _ hp);rcases gm (r+d0) j with a|a
 ·refine ⟨d0,G,λe l=> ?_,?_⟩
  ·rw[o e G G];exact h e l
  rw[o d0 a w];exact hl
 refine ⟨j-r,G,λe l=> ?_,?_⟩
 ·rw[o e G G];exact h e G
 rw [show r+(j-r)=j by omega]
 have i:j%p=r%p+(j-r):=by
  have:j=r+(j-r):=G
  conv=>lhs;rw[this,Kj,lm (a:=j-r) G]
  exact lm G
 rw[i] at q
 have:f (j-r)<=f (r%p+(j-r)):=by
  rcases gm (j-r) d0 with b|b
  ·exact Int.le_of_eq (h _ b)
  have:j-r=d0:=G
  rw[this];omega
 omega
theorem aXk {n:Nat} (hp:0<p) (i:CX f p j) (k:p<=j) (Id:j<n->f j<f (j-p)) {m:Nat} (e:p<m) (o:m<=n): ¬Lyn f m:=by
 rintro⟨_,h⟩;obtain⟨d,l,g,hl⟩:=h p hp e;rcases gm (p+d) j with a|a
 ·have:=i d G;rw[ut p d,this] at hl;omega
 have hs:=Id G;rcases gm (j-p) d with b|b
 ·have:=g _ b;rw[show p+(j-p)=j by omega] at this;omega
 rw [show j-p=d by omega] at hs;rw[show p+d=j by omega] at hl;omega
def lt (s:AH) (i:Nat):Int:=s.getD i 0
theorem qI: ∀(u v:AH),v.length<u.length->(cmpL u v<0↔ ∃d,d<v.length/\(∀e,e<d->lt u e=lt v e)/\lt u d<lt v d)
 |[],v,h=>by simp at h
 |a::u,[],h=>by simp[cmpL]
 | a::u,b::v,h=>by
  have k:=qI u v (by simpa using h);rw[cmpL];rcases jf a b with c|c|c
  ·rw [cz c];exact⟨λ_=>⟨0,cD,λe j=>G,c⟩,λ_=>G⟩
  ·subst c;rw[bq G,bq G,k];constructor
   ·rintro ⟨d,h1,i,g⟩;refine⟨d+1,by simpa using h1,λe j=> ?_,g⟩;cases e with
    |zero=>rfl
    |succ e=>exact i e G
   rintro ⟨d,h1,i,g⟩;cases d with
   |zero=>exact absurd g (by simp[lt])
   |succ d=>exact⟨d,by simpa using h1,λe j=>i (e+1) G,g⟩
  rw [bq G,cz c];refine⟨λh=>G,?_⟩;rintro⟨d,h1,i,g⟩;cases d with
  |zero=>have:a<b:=g;omega
  |succ d=>have:a=b:=i 0 G;omega
theorem kJ (s:AH) (a i:Nat):lt (s.drop a) i=lt s (a+i):=by simp[lt,af]
theorem lt_take {i:Nat} (h:i<a):lt (s.take a) i=lt s i:=by simp[lt,af,h]
theorem VE {i:Int}:rd s i=lt s i.toNat:=rfl
def oP (s:AH):Bool:= !s.isEmpty && (List.range s.length).all λr=>Nat.beq r 0||decide (cmpL s (s.drop r)<0)
theorem jL (s:AH):oP s=true↔0<s.length/\ ∀r:Nat,0<r->r<s.length->cmpL s (s.drop r)<0:=by
 unfold oP;rw[lv,sj];have e:(!s.isEmpty)=true↔0<s.length:=by cases s<;>simp
 rw[e];refine and_congr_right λ_=>⟨λh r d b=> ?_,λh r b=> ?_⟩
 ·have:=h r (jr.2 b);rw[Bn,iy] at this;rcases this with a|a
  ·have:=um a;omega
  exact a
 rw [Bn,iy];rcases fe r with a|a
 ·left;subst a;rfl
 exact .inr (h r a (jr.1 b))
theorem aKp (s:AH) (a p:Nat) (h:a+p<=s.length):oP ((s.drop a).take p)=true↔Lyn (λi=>lt s (a+i)) p:=by
 have hl:((s.drop a).take p).length=p:=by rw[ax,az];omega
 rw[jL,hl];unfold Lyn;refine and_congr_right λ_=>forall_congr' λr=>forall_congr' λk=>forall_congr' λl=> ?_;rw[qI _ _ (by rw[az,hl];omega),az,hl];constructor
 ·rintro ⟨d,h1,b,g⟩;refine⟨d,G,λe j=> ?_,?_⟩
  ·have:=b e j;rwa[kJ,lt_take G,lt_take G,kJ,kJ] at this
  rwa[kJ,lt_take G,lt_take G,kJ,kJ] at g
 rintro ⟨d,h1,b,g⟩;refine⟨d,G,λe j=> ?_,?_⟩
 ·rw[kJ,lt_take G,lt_take G,kJ,kJ];exact b e j
 rw[kJ,lt_take G,lt_take G,kJ,kJ];exact g
def jZ (s:AH):Nat->Nat
 |0=>0
 |n+1=>if oP (s.take (n+1)) then n+1 else jZ s n
theorem MS {s:AH} {p:Nat} (h:oP (s.take p)=true): ∀n,p<=n->(∀m,p<m->m<=n->oP (s.take m)=false)->jZ s n=p
 |0,hp,_=>by unfold jZ;omega
 | n+1,hp,hn=>by
  unfold jZ;rcases gm p (n+1) with a|a
  ·rw [hn (n+1) a (dn _)];simp only[xg,xq];exact MS h n G λm h1 b=>hn m h1 G
  have:p=n+1:=G
  subst this;rw[h,cz rfl]
theorem aHu (s:AH) (h:0<s.length):oP (s.take 1)=true:=by
 cases s with
 |nil=>simp at h
 |cons a s=>rfl
theorem uS {s:AH} (h:0<s.length): ∀n,0<n->0<jZ s n
 | n+1,_=>by
  unfold jZ;split
  ·omega
  rename_i a;cases n with
  |zero=>exact absurd (aHu s h) a
  |succ n=>exact uS h (n+1) G
theorem aAl (s:AH): ∀n,jZ s n<=n
 |0=>dn _
 |n+1=>by
  unfold jZ;split
  ·omega
  have:=aAl s n;omega
def XY:Nat->AH->AH
 |0,_=>[]
 |f+1,s=>if s.isEmpty then [] else(jZ s s.length:Int)::XY f (s.drop (jZ s s.length))
def eO (s:AH):AH:=XY s.length s
theorem aAz: ∀(f g:Nat) (s:AH),s.length<=f->s.length<=g->XY f s=XY g s
 |0,g,s,h,_=>by
  have:s=[]:=Av.1 G;subst this;cases g<;>rfl
 |f+1,0,s,_,h=>by
  have:s=[]:=Av.1 G;subst this;rfl
 | f+1,g+1,s,h1,h2=>by
  unfold XY;cases s with
  |nil=>rfl
  |cons a s=>
   simp only[Em,xg,xq];have:=uS (s:=a::s) cD (a::s).length cD;rw[aAz f g _ (by rw[az];omega) (by rw[az];omega)]
theorem WA (h:s.length=0):eO s=[]:=by
 have:s=[]:=Av.1 h;subst this;rfl
theorem MX (h:0<s.length):eO s=(jZ s s.length:Int)::eO (s.drop (jZ s s.length)):=by
 unfold eO;cases s with
 |nil=>simp at h
 |cons a s=>
  rw[show(a::s).length=s.length+1 from rfl,XY];simp only[Em,xg,xq];have:=uS (s:=a::s) cD (a::s).length cD;rw[show s.length+1=(a::s).length from rfl];congr 1;exact aAz _ _ _ (by rw[az];simp only[dh] at*;omega) (dn _)
theorem aXl (d:Lyn (λi=>lt s (a+i)) p) (k:CX (λi=>lt s (a+i)) p j) (e:p<=j) (g:a+j<=s.length) (Id:a+j<s.length->lt s (a+j)<lt s (a+j-p)):jZ (s.drop a) (s.drop a).length=p:=by
 have hp:=d.1;refine MS ((aKp s a p G).2 d) _ (by rw[az];omega) λm h1 b=> ?_;rw[az] at b;cases hb:oP ((s.drop a).take m) with
 |false=>rfl
 |true=>
  exact absurd ((aKp s a m G).1 hb) (aXk (f:=λi=>lt s (a+i)) (n:=s.length-a) hp k e (λh=>by rw[show a+(j-p)=a+j-p by omega];exact Id G) h1 b)
theorem Lyn.over (h:Lyn (λi=>lt s (a+i)) p) (o:CX (λi=>lt s (a+i)) p j) (u:p+p<=j):Lyn (λi=>lt s (a+p+i)) p:=by
 refine⟨h.1,λr k m=> ?_⟩;obtain⟨d,h1,b,g⟩:=h.2 r k m
 have e: ∀i,i<p->lt s (a+p+i)=lt s (a+i):=λi hi=>by
  have:=o i G;rw[show a+p+i=a+(i+p) by omega];exact this
 refine⟨d,h1,λq l=> ?_,?_⟩
 ·simp only at b ⊢;rw[e q G,e (r+q) G];exact b q l
 simp only at g ⊢;rw[e d G,e (r+d) G];exact g
theorem CX.over (b:CX (λi=>lt s (a+i)) p j) (d:p<=j):CX (λi=>lt s (a+p+i)) p (j-p):=by
 intro i hi;have:=b (i+p) G;simp only at this ⊢;rw[show a+p+(i+p)=a+(i+p+p) by omega,show a+p+i=a+(i+p) by omega];exact this
theorem bLv (f:Nat->Int):Lyn f 1:=⟨G,λr a b=>G⟩
theorem bCq (f:Nat->Int):CX f 1 1:=λi hi=>G
theorem aVl (f:Nat->Int) (p:Nat):CX f p p:=λi hi=>G
theorem CX.snoc (h:CX f p j) (d:p<=j) (b:f j=f (j-p)):CX f p (j+1):=by
 intro i hi;rcases gm (i+p) j with a|a
 ·exact h i a
 rw[show i+p=j by omega,b];congr 1;omega
end
section
variable {s:AH} {a i j b:Int}
def yE (s:AH) (a p:Int):Prop:=Lyn (λe=>lt s (a.toNat+e)) p.toNat
def yC (s:AH) (a p n:Int):Prop:=CX (λe=>lt s (a.toNat+e)) p.toNat n.toNat
theorem OQ:yE s a (a+1-a)/\yC s a (a+1-a) (a+1-a):=by
 unfold yE yC;rw[show(a+1-a).toNat=1 by omega];exact⟨bLv _,bCq _⟩
theorem aJg (g:0<=a) (e:a<=i) (h:i<j) (b:yE s a (j-i)) (d:yC s a (j-i) (j-a)) (ci:rd s i<rd s j):yE s a (j+1-a)/\yC s a (j+1-a) (j+1-a):=by
 refine⟨?_,aVl _ _⟩;unfold yE
 have:=bGw b d G (by
  show lt s (a.toNat+((j-a).toNat-(j-i).toNat))<lt s (a.toNat+(j-a).toNat);rw[show a.toNat+((j-a).toNat-(j-i).toNat)=i.toNat by omega,show a.toNat+(j-a).toNat=j.toNat by omega]
  exact ci)
 rwa[show(j-a).toNat+1=(j+1-a).toNat by omega] at this
theorem aJh (g:0<=a) (e:a<=i) (k:i<j) (b:yE s a (j-i)) (d:yC s a (j-i) (j-a)) (h:rd s i<=rd s j) (hn: ¬rd s i<rd s j):yE s a (j+1-(i+1))/\yC s a (j+1-(i+1)) (j+1-a):=by
 rw[show j+1-(i+1)=j-i by omega];refine⟨b,?_⟩;unfold yC;rw[show(j+1-a).toNat=(j-a).toNat+1 by omega];refine CX.snoc d G ?_;show lt s (a.toNat+(j-a).toNat)=lt s (a.toNat+((j-a).toNat-(j-i).toNat));rw[show a.toNat+((j-a).toNat-(j-i).toNat)=i.toNat by omega,show a.toNat+(j-a).toNat=j.toNat by omega];have:rd s i=rd s j:=G
 exact this.symm
theorem aXj (l:0<=b) (k:b<=i) (o:i<j) (m:j<=s.length) (d:yE s b (j-i)) (e:yC s b (j-i) (j-b)) (Id: ¬(j<s.length/\rd s i<=rd s j)):eO (s.drop b.toNat)=(j-i)::eO (s.drop (b+(j-i)).toNat):=by
 have hlen:=aXl d e G G λh=>by
  rw[show b.toNat+(j-b).toNat=j.toNat by omega,show j.toNat-(j-i).toNat=i.toNat by omega];have: ¬rd s i<=rd s j:=λg=>Id ⟨G,g⟩;have:rd s j<rd s i:=G
  exact this
 have a:0<(s.drop b.toNat).length:=by rw[az];omega
 rw[MX a,hlen,xu];rw[show((j-i).toNat:Int)=j-i by omega,show b.toNat+(j-i).toNat=(b+(j-i)).toNat by omega]
theorem aOl (e:0<=b) (g:i<j) (d:yE s b (j-i)) (a:yC s b (j-i) (j-b)) (h:b+(j-i)<=i):yE s (b+(j-i)) (j-i)/\yC s (b+(j-i)) (j-i) (j-(b+(j-i))):=by
 unfold yE yC;rw[show(b+(j-i)).toNat=b.toNat+(j-i).toNat by omega,show(j-(b+(j-i))).toNat=(j-b).toNat-(j-i).toNat by omega];exact⟨Lyn.over d a G,CX.over a G⟩
end
theorem aHt {s:AH} {n:Int} (h1:1<=n) (hn:n<=s.length) (h: ¬oP (s.take n.toNat)=true):1<=n-1/\jZ s (n-1).toNat=jZ s n.toNat:=by
 obtain⟨m,rfl⟩: ∃m:Nat,n=m+1:=⟨(n-1).toNat,G⟩;have e:((m:Int)+1).toNat=m+1:=G
 rw[e] at h;rw[e,show((m:Int)+1-1).toNat=m by omega,jZ,bq h];refine⟨?_,rfl⟩;rcases fe m with z|z
 ·subst z;exact absurd (aHu s G) h
 omega
theorem aNi {s:AH} {n:Int} (h1:1<=n) (h:oP (s.take n.toNat)=true):(jZ s n.toNat:Int)=n:=by
 obtain⟨m,rfl⟩: ∃m:Nat,n=m+1:=⟨(n-1).toNat,G⟩;have e:((m:Int)+1).toNat=m+1:=G
 rw[e] at h;rw[e,jZ,cz h];omega
section
variable {s:AH} {i d h n b k:Nat}
theorem bDu {M:Nat} {U V:Nat->Int}:LtH (M+1) U V↔U 0<V 0\/U 0=V 0/\LtH M (λi=>U (i+1)) (λi=>V (i+1)):=by
 constructor
 ·rintro ⟨k,hk,h1,a⟩;cases k with
  |zero=>exact .inl a
  |succ k=>exact .inr ⟨h1 0 G,k,G,λi hi=>h1 (i+1) G,a⟩
 rintro (h|⟨e,k,hk,h1,a⟩)
 ·exact⟨0,G,λi hi=>G,h⟩
 refine ⟨k+1,G,λi hi=> ?_,a⟩;cases i with
 |zero=>exact e
 |succ i=>exact h1 i G
def pad (m:Int) (l:AH) (d:Nat):Int:=if d<l.length then lt l d-m+1 else 0
theorem aJw (m:Int): ∀(a b:AH) (N:Nat),a.length<=N->b.length<=N->(∀x∈a,m<=x)->(∀x∈b,m<=x)->(cmpL a b<0↔LtH N (pad m a) (pad m b))
 |[],[],N,_,_,_,_=>by
  simp only[cmpL];refine⟨λh=>G,?_⟩;rintro⟨k,_,_,h⟩;simp[pad] at h
 |[],b::v,N,_,hb,_,mb=>by
  simp only[cmpL];have:=mb b cD;refine⟨λ_=>⟨0,by simp only[dh] at hb;omega,λi hi=>G,?_⟩,λ_=>G⟩;have d:pad m [] 0=0:=rfl;have j:pad m (b::v) 0=b-m+1:=by unfold pad;rw[cz cD];rfl
  rw[d,j];omega
 | a::u,[],N,_,_,ma,_=>by
  simp only[cmpL];refine⟨λh=>G,?_⟩;rintro⟨k,_,_,h⟩;exfalso;have d:pad m [] k=0:=by unfold pad;rw[bq cD]
  rw[d] at h;unfold pad at h;split at h
  ·rename_i hk
   have:m<=lt (a::u) k:=ma _ (by
    unfold lt;rw[af,au hk]
    exact mg _)
   omega
  omega
 |a::u,b::v,0,h,_,_,_=>by simp at h
 | a::u,b::v,N+1,ha,hb,ma,mb=>by
  have l:=aJw m u v N (by simpa using ha) (by simpa using hb) (λx e=>ma x (fw _ e)) (λx e=>mb x (fw _ e));have g: ∀(x:Int) (xs:AH),pad m (x::xs) 0=x-m+1:=λx xs=>by unfold pad;rw[cz cD];rfl
  have d: ∀(x:Int) (xs:AH),(λi=>pad m (x::xs) (i+1))=pad m xs:=λx xs=>by
   funext i;unfold pad;by_cases h:i<xs.length
   ·rw[cz (by simpa using h),cz h];rfl
   rw[bq (by simpa using h),bq h]
  rw[cmpL,bDu,g,g,d,d];rcases jf a b with c|c|c
  ·rw [cz c];exact⟨λ_=> .inl G,λ_=>G⟩
  ·subst c;rw[bq G,bq G,l];exact⟨λh=> .inr ⟨rfl,h⟩,λh=>h.elim (λh=>G) λh=>h.2⟩
  rw [bq G,cz c];exact⟨λh=>G,λh=>h.elim (λh=>G) λh=>G⟩
def lo (s:AH):Int:=s.foldr min 0
theorem bDy: ∀ {s:AH} {x:Int},x∈s->lo s<=x
 | a::s,x,h=>by
  unfold lo;rw[List.foldr_cons];rcases il.1 h with rfl|h
  ·exact Int.min_le_left _ _
  have:=bDy h;unfold lo at this;omega
def eu (s:AH) (i d:Nat):Int:=if i+d<s.length then lt s (i+d)-lo s+1 else 0
theorem bSx (h:i<s.length):lt s i∈s:=by
 unfold lt;rw[af,au h];exact mg _
theorem wY (h:i+d<s.length):0<eu s i d:=by
 have:=bDy (bSx h);unfold eu;rw[cz h];omega
theorem kU (h:s.length<=i+d):eu s i d=0:=by unfold eu;rw[bq G]
theorem BV (s:AH) (i b d:Nat):eu s (i+b) d=eu s i (b+d):=by unfold eu;rw[ow]
def xV (s:AH) (i h:Nat):AH:=(s.drop i).take h
theorem aJk (a:d<h):pad (lo s) (xV s i h) d=eu s i d:=by
 unfold pad eu xV;rw[ax,az];by_cases c:i+d<s.length
 ·rw[cz G,cz c,lt_take a,kJ]
 rw[bq G,bq c]
theorem aVt {H:Nat} {U e V g:Nat->Int} (h1: ∀i,i<H->U i=e i) (d: ∀i,i<H->V i=g i):LtH H U V↔LtH H e g:=by
 constructor
 ·rintro ⟨k,hk,a,b⟩;exact⟨k,hk,λi hi=>by rw[<-h1 i G,<-d i G];exact a i hi,by rw[<-h1 k hk,<-d k hk];exact b⟩
 rintro ⟨k,hk,a,b⟩;exact⟨k,hk,λi hi=>by rw[h1 i G,d i G];exact a i hi,by rw[h1 k hk,d k hk];exact b⟩
theorem CE (s:AH) (i k h:Nat):cmpL (xV s i h) (xV s k h)<0↔LtH h (eu s i) (eu s k):=by
 have b: ∀j,∀x∈xV s j h,lo s<=x:=λj x e=>bDy (lu (ku e));rw[aJw (lo s) _ _ h (by unfold xV;rw[ax];omega) (by unfold xV;rw[ax];omega) (b i) (b k)];exact aVt (λd a=>aJk a) λd a=>aJk a
theorem bLw {U V:Nat->Int} (hb:b<=n):LtH (n+b) U V↔LtH n U V\/EqH n U V/\LtH n (λi=>U (b+i)) (λi=>V (b+i)):=by
 constructor
 ·rintro ⟨k,hk,h1,d⟩;rcases gm k n with a|a
  ·exact .inl ⟨k,a,h1,d⟩
  refine .inr ⟨λi hi=>h1 i G,k-b,G,λi hi=>h1 (b+i) G,?_⟩;show U (b+(k-b))<V (b+(k-b));rw[show b+(k-b)=k by omega];exact d
 rintro (h|⟨e,k,hk,h1,d⟩)
 ·exact h.mono G
 refine ⟨b+k,G,λi hi=> ?_,d⟩;rcases gm i n with a|a
 ·exact e i a
 have:=h1 (i-b) G;simp only at this;rwa[show b+(i-b)=i by omega] at this
theorem bMs {U V:Nat->Int} (hb:b<=n):EqH (n+b) U V↔EqH n U V/\EqH n (λi=>U (b+i)) (λi=>V (b+i)):=by
 constructor
 ·exact λe=>⟨λi hi=>e i G,λi hi=>e (b+i) G⟩
 rintro ⟨e,f⟩ i hi;rcases gm i n with a|a
 ·exact e i a
 have:=f (i-b) G;simp only at this;rwa[show b+(i-b)=i by omega] at this
def rkS (s:AH) (h i:Nat):Nat:=(List.range s.length).countP λk=>decide (cmpL (xV s k h) (xV s i h)<0)
theorem xA {α:Type} {p q:α->Bool}: ∀ {l:List α},(∀x∈l,p x=true->q x=true)->(∃x∈l,p x=false/\q x=true)->l.countP p<l.countP q
 |[],_,h=>by obtain⟨x,b,_⟩:=h;cases b
 | a::l,h,b=>by
  have hl:l.countP p<=l.countP q:=Ff λx b=>h x (fw _ b);obtain⟨x,d,h1,e⟩:=b;rw[List.countP_cons,List.countP_cons];rcases il.1 d with rfl|d
  ·rw[h1,e];simp;omega
  have j:=xA (λy i=>h y (fw _ i)) ⟨x,d,h1,e⟩;have g:=h a cD;cases hp:p a with
  |false=>cases q a<;>simp<;>omega
  |true=>rw[g hp];simp;omega
theorem AR (hi:i<s.length):rkS s h i<rkS s h k↔LtH h (eu s i) (eu s k):=by
 constructor
 ·intro d;rcases tri h (eu s i) (eu s k) with a|a|a
  ·exact a
  ·exfalso
   have:rkS s h k<=rkS s h i:=Ff λx _ b=>by
    rw[iy,CE] at b ⊢;exact b.eq_right a.symm
   omega
  exfalso
  have:rkS s h k<=rkS s h i:=Ff λx _ b=>by
   rw[iy,CE] at b ⊢;exact b.trans a
  omega
 intro hl;refine xA (λx _ b=> ?_) ⟨i,jr.2 hi,?_,?_⟩
 ·rw [iy,CE] at b ⊢;exact b.trans hl
 ·rw [si,CE];exact λh=>h.asymm h
 rw [iy,CE];exact hl
theorem aQs (hi:i<s.length) (hk:k<s.length):rkS s h i=rkS s h k↔EqH h (eu s i) (eu s k):=by
 constructor
 ·intro b;rcases tri h (eu s i) (eu s k) with a|a|a
  ·have:=(AR hi).2 a;omega
  ·exact a
  have:=(AR hk).2 a;omega
 intro b;rcases yg (rkS s h i) (rkS s h k) with a|a|a
 ·exact absurd b ((AR hi).1 a).not_eq
 ·exact a
 exact absurd b.symm ((AR hk).1 a).not_eq
def xI (s:AH) (n i:Nat):Nat:=if i<s.length then rkS s n i+1 else 0
theorem JJ (hn:0<n):xI s n i<xI s n k↔LtH n (eu s i) (eu s k):=by
 unfold xI;by_cases hi:i<s.length
 ·by_cases hk:k<s.length
  ·rw[cz hi,cz hk,<-AR hi];omega
  rw [cz hi,bq hk];refine⟨λh=>G,?_⟩;rintro⟨d,_,_,b⟩;rw[kU (s:=s) (i:=k) G] at b;rcases gm (i+d) s.length with a|a
  ·have:=wY a;omega
  rw[kU a] at b;omega
 by_cases hk:k<s.length
 ·rw [bq hi,cz hk];refine⟨λ_=>⟨0,hn,λd e=>G,?_⟩,λ_=>G⟩;rw[kU G];exact wY G
 rw [bq hi,bq hk];refine⟨λh=>G,?_⟩;rintro⟨d,_,_,b⟩;rw[kU (s:=s) (i:=k) G,kU G] at b;omega
theorem bKm (hn:0<n):xI s n i=xI s n k↔EqH n (eu s i) (eu s k):=by
 constructor
 ·intro b;rcases tri n (eu s i) (eu s k) with a|a|a
  ·have:=(JJ hn).2 a;omega
  ·exact a
  have:=(JJ hn).2 a;omega
 intro b;rcases yg (xI s n i) (xI s n k) with a|a|a
 ·exact absurd b ((JJ hn).1 a).not_eq
 ·exact a
 exact absurd b.symm ((JJ hn).1 a).not_eq
theorem aMi (hn:0<n) (hb:b<=n) (hi:i<s.length) (hk:k<s.length):rkS s (n+b) i<rkS s (n+b) k↔rkS s n i<rkS s n k\/rkS s n i=rkS s n k/\xI s n (i+b)<xI s n (k+b):=by
 rw[AR hi,bLw hb,AR hi,aQs hi hk,JJ hn];have e: ∀j,eu s (j+b)=λd=>eu s j (b+d):=λj=>funext λd=>BV s j b d;rw[e,e]
theorem TF (hn:0<n) (hb:b<=n) (hi:i<s.length) (hk:k<s.length):rkS s (n+b) i=rkS s (n+b) k↔rkS s n i=rkS s n k/\xI s n (i+b)=xI s n (k+b):=by
 rw[aQs hi hk,bMs hb,aQs hi hk,bKm hn];have e: ∀j,eu s (j+b)=λd=>eu s j (b+d):=λj=>funext λd=>BV s j b d;rw[e,e]
theorem bRv {i:Nat} {o:List Nat} (hp:o.Perm (List.range s.length)) (hs:o.Pairwise λx y=>rkS s h x<=rkS s h y) (hi:i<o.length) (q: ∀(p:0<i),rkS s h (o[i-1]' G)≠rkS s h o[i]):rkS s h o[i]=i:=by
 have v: ∀x∈o,x<s.length:=λx b=>jr.1 (hp.subset b)
 have e:rkS s h o[i]=o.countP λk=>decide (rkS s h k<rkS s h o[i]):=by
  have m:rkS s h o[i]=o.countP λk=>decide (cmpL (xV s k h) (xV s o[i] h)<0):=by
   unfold rkS;rw[<-hp.countP_eq]
  rw[m];refine Ei λx b=> ?_;rw[iy,iy,CE,<-AR (v x b),<-m]
 rw[e];have d:o=o.take i++o.drop i:=(ed i o).symm
 have h1:(o.take i).countP (λk=>decide (rkS s h k<rkS s h o[i]))=i:=by
  have:(o.take i).length=i:=by rw[ax];omega
  conv=>rhs;rw[<-this]
  rw[List.countP_eq_length];intro x b;rw[iy];obtain⟨j,g,rfl⟩:=ib.1 b;rw[ax] at g;rw[uf];have p:0<i:=G
  have l:=q p;have w:rkS s h (o[i-1]' G)<=rkS s h o[i]:=dz.1 hs (i-1) i G hi G;rcases gm j (i-1) with a|a
  ·have:=dz.1 hs j (i-1) G G a;omega
  have:j=i-1:=G
  subst this;omega
 have r:(o.drop i).countP (λk=>decide (rkS s h k<rkS s h o[i]))=0:=by
  rw[Cz];intro x b;rw[iy];obtain⟨j,g,rfl⟩:=ib.1 b;rw[az] at g;rw[xz];rcases fe j with z|z
  ·subst z;simp
  have:=dz.1 hs i (i+j) hi G G;omega
 have u:(o.take i++o.drop i).countP (λk=>decide (rkS s h k<rkS s h o[i]))=i:=by rw[List.countP_append,h1,r,qw]
 rwa[ed] at u
end
section
variable {w j h:Int} {t u:Int × Int} {ws:AD} {M:Nat} {l:AE}
theorem BJ {j:Nat}:t∈turnsOf w j↔t.1=w/\0<=t.2/\t.2<j:=by
 unfold turnsOf;rw[gq];constructor
 ·rintro ⟨i,hi,rfl⟩;rw[jr] at hi;exact⟨rfl,by simp only;omega,by simp only;omega⟩
 rintro ⟨rfl,h1,a⟩;refine⟨t.2.toNat,jr.2 G,?_⟩;rw[ky h1]
theorem EJ {ws:AD} {t:Int × Int}: ∀ {k:Nat},t∈iB ws k↔(0<=t.1/\t.1<k)/\0<=t.2/\t.2<(rdl ws t.1).length
 |0=>by
  constructor
  ·intro h;cases h
  rintro⟨h,_⟩;omega
 | k+1=>by
  show t∈iB ws k++turnsOf k (rdl ws k).length↔_;rw[ek,EJ,BJ];constructor
  ·rintro (⟨h1,a⟩|⟨h1,a,b⟩)
   ·exact⟨⟨h1.1,G⟩,a⟩
   rw[h1];exact⟨⟨G,G⟩,a,b⟩
  rintro ⟨h1,a,b⟩;by_cases e:t.1=k
  ·exact .inr ⟨e,a,by rw[e] at b;exact b⟩
  exact .inl ⟨⟨h1.1,G⟩,a,b⟩
theorem vR:t∈iB ws ws.length↔TV ws t:=by
 rw[EJ];unfold TV;constructor
 ·rintro⟨⟨a,b⟩,c,d⟩;exact⟨a,b,c,d⟩
 rintro⟨a,b,c,d⟩;exact⟨⟨a,b⟩,c,d⟩
theorem XL (w:Int) (j:Nat):(turnsOf w j).Nodup:=by
 unfold turnsOf;refine iv.2 ((xm (n:=j)).imp λ{a b} h e=>h ?_);simp only[uk,Al] at e;omega
theorem zX (ws:AD): ∀k,(iB ws k).Nodup
 |0=> .nil
 |k+1=>by
  refine yc.2 ⟨zX ws k,XL _ _,λa d b hb e=> ?_⟩;subst e;have h1:=(EJ.1 d).1;have g:=(BJ.1 hb).1;omega
theorem aAf {i j:Nat} (h:i<=j):qZ ws i<=qZ ws j:=by
 unfold qZ;obtain⟨d,rfl⟩: ∃d,j=i+d:=⟨j-i,G⟩;rw[List.take_add,lq,aa];omega
theorem aGs {k:Nat} {i:Int} (a:0<=i) (h:i<k):rd (vY ws k) i=qZ ws i.toNat:=by
 have hi:i.toNat<k:=G
 simp[rd,vY,af,hi]
theorem bKt (a:0<=w) (h1:w<ws.length) (b:0<=j) (d:j<(rdl ws w).length):rd ws.flatten (qZ ws w.toNat+j)=rd (rdl ws w) j:=by
 have e:ws.flatten=(ws.take w.toNat).flatten++(ws.drop w.toNat).flatten:=by
  rw[<-lq,ed]
 rw[e,bBz a h1,jv];unfold rd;rw[af,ji (by unfold qZ;omega),jh (by unfold qZ;omega),af];congr 2;unfold qZ;omega
theorem aCy (a:TV ws t):jV (vY ws ws.length) t=qZ ws t.1.toNat+t.2:=by
 unfold jV;rw[aGs a.1 a.2.1]
theorem bCo (a:TV ws t) (hu:TV ws u) (h:jV (vY ws ws.length) t=jV (vY ws ws.length) u):t=u:=by
 rw[aCy a,aCy hu] at h;obtain⟨a1,a2,a3,a4⟩:=a;obtain⟨b,d,g,i⟩:=hu;have j:=mG a1 a2;have k:=mG b d
 have e:t.1=u.1:=by
  rcases jf t.1 u.1 with x|x|x
  ·have:=aAf (ws:=ws) (show(t.1+1).toNat<=u.1.toNat by omega);omega
  ·exact x
  have:=aAf (ws:=ws) (show(u.1+1).toNat<=t.1.toNat by omega);omega
 rw[e] at h;exact Prod.ext e G
theorem bNz (b:ws.flatten.length<=1000000) (a:TV ws t):TOk ws (vY ws ws.length) ws.flatten.length t:=by
 obtain⟨a1,a2,a3,a4⟩:=a;have d:=mG a1 a2;have g:=QK ws (t.1+1).toNat;have e:=aGs (ws:=ws) a1 a2;have hb:=aBt ws ws.length;refine⟨⟨a1,a2,G⟩,⟨a3,a4,G⟩,G,?_⟩;rw[e];omega
theorem bBd (ws:AD):RK ws (vY ws ws.length) 1 ws.flatten:=by
 intro t u a hu
 have one: ∀t,TV ws t->rd ws.flatten (jV (vY ws ws.length) t)=tw ws t 0:=by
  intro t a;rw[aCy a,bKt a.1 a.2.1 a.2.2.1 a.2.2.2];obtain⟨a1,a2,a3,a4⟩:=a;unfold tw rd;rw[qw,lm G]
 rw[one t a,one u hu];constructor
 ·constructor
  ·exact λh=>⟨0,G,λi hi=>G,h⟩
  rintro ⟨k,hk,_,h⟩;obtain rfl:k=0:=G
  exact h
 constructor
 ·intro h i hi;obtain rfl:i=0:=G
  exact h
 exact λh=>h 0 G
theorem aZs (t:Int × Int):Per (tw ws t) (rdl ws t.1).length:=by
 intro i;unfold tw;rw[<-ow,Ii]
def kP (ws:AD) (t u:Int × Int):Prop:=Lt (tw ws t) (tw ws u)\/(∀i,tw ws t i=tw ws u i)/\ltI t u
theorem bCw (d:EqH M (tw ws t) (tw ws u)-> ∀i,tw ws t i=tw ws u i):bCz ws M t u↔kP ws t u:=by
 unfold bCz kP;constructor
 ·rintro (⟨k,_,h1,b⟩|⟨e,h⟩)
  ·exact .inl ⟨k,h1,b⟩
  exact .inr ⟨d e,h⟩
 rintro (⟨k,h1,b⟩|⟨e,h⟩)
 ·rcases tri M (tw ws t) (tw ws u) with a|a|⟨m,_,g1,g2⟩
  ·exact .inl a
  ·have:=d a k;omega
  exfalso;by_cases x:k<m
  ·have:=g1 k x;omega
  by_cases y:m<k
  ·have:=h1 m y;omega
  have:k=m:=G
  subst this;omega
 exact .inr ⟨λi _=>e i,h⟩
theorem aIw (a:TV ws t) (hu:TV ws u) (j:(rdl ws t.1).length+(rdl ws u.1).length<=M) (h:EqH M (tw ws t) (tw ws u)): ∀i,tw ws t i=tw ws u i:=by
 obtain⟨a1,a2,a3,a4⟩:=a;obtain⟨b,d,e,g⟩:=hu;exact agree G G (aZs t) (aZs u) λi hi=>h i G
theorem aIv (k:0<h) (e: ∀t u,TV ws t->TV ws u->EqH (qH h) (tw ws t) (tw ws u)->EqH (jB h) (tw ws t) (tw ws u)) (a:TV ws t) (hu:TV ws u) (b:EqH (qH h) (tw ws t) (tw ws u)): ∀i,tw ws t i=tw ws u i:=by
 have d:qH h=h.toNat:=by unfold qH;omega
 have j:jB h=h.toNat+h.toNat:=by unfold jB;rw[bq G];omega
 rw[d,j] at e;rw[d] at b;intro i
 induction i using Nat.strongRecOn generalizing t u with
 | _ i ih=>
  by_cases hi:i<h.toNat
  ·exact b i hi
  have g:=(aSh.1 (e t u a hu b)).2;have f1:(λi=>tw ws t (i+h.toNat))=tw ws (sh ws t h):=funext λi=>(YT a G i).symm;have f2:(λi=>tw ws u (i+h.toNat))=tw ws (sh ws u h):=funext λi=>(YT hu G i).symm;rw[f1,f2] at g;have:=ih (i-h.toNat) G (aQn a) (aQn hu) g;rw[YT a G,YT hu G,uj G] at this;exact this
theorem dP {l:AH} (a:0<=j) (h:j<l.length):l.take (j+1).toNat=l.take j.toNat++[rd l j]:=by
 have hl:j.toNat<l.length:=G
 rw[show(j+1).toNat=j.toNat+1 by omega,rf,au hl];simp[rd,af,au hl]
theorem bLy (t u:Int × Int):ltI t u\/t=u\/ltI u t:=by
 unfold ltI;rcases jf t.1 u.1 with a|a|a
 ·exact .inl (.inl a)
 ·rcases jf t.2 u.2 with b|b|b
  ·exact .inl (.inr ⟨a,b⟩)
  ·exact .inr (.inl (Prod.ext a b))
  exact .inr (.inr (.inr ⟨a.symm,b⟩))
 exact .inr (.inr (.inl a))
theorem Sorted.toO (s:Sorted ws M l) (e: ∀t u,TV ws t->TV ws u->EqH M (tw ws t) (tw ws u)-> ∀i,tw ws t i=tw ws u i):l.Pairwise (kP ws):=by
 refine(s.pw.and s.nodup).imp_of_mem λ{x y} g j h=> ?_;have d:=bCw (e x y (s.tv x g) (s.tv y j));rw[<-d];rcases tri M (tw ws x) (tw ws y) with a|a|a
 ·exact .inl a
 ·rcases bLy x y with b|b|b
  ·exact .inr ⟨a,b⟩
  ·exact absurd b h.2
  exact absurd (.inr ⟨a.symm,b⟩) h.1
 exact absurd (.inl a) h.1
theorem stay {bs rs:AH} {lo:AE} (d:0<h) (m:RK ws bs (qH h) rs) (s:Sorted ws (jB h) l) (b: ∀t,TV ws t->t∈l) (hp:l.Perm lo) (st:Steps bs rs lo w) (o:kE ws bs rs h l (l.length-1)=w):l.Pairwise (kP ws):=by
 have k:qH h<=jB h:=by unfold qH jB;rw[bq G];omega
 refine s.toO λt u a hu e=>aIv d (λt u a hu e=> ?_) a hu (e.mono k);obtain⟨i,hi,rfl⟩:=ib.1 (b t a);obtain⟨j,g,rfl⟩:=ib.1 (b u hu);rw[<-rP hi,<-rP g] at e ⊢;exact bLp d m s hp st o hi g e
theorem SH (a:0<=j) (h:j<l.length):l.take (j+1).toNat=l.take j.toNat++[rdp l j]:=by
 have hl:j.toNat<l.length:=G
 rw[show(j+1).toNat=j.toNat+1 by omega,rf,au hl];simp[rdp,af,au hl]
theorem MP {α:Type} {r:α->α->Prop} (g: ∀x y,r x y-> ¬r y x): ∀ {a b:List α},a.Perm b->a.Pairwise r->b.Pairwise r->a=b
 |[],b,h,_,_=>(List.nil_perm.1 h).symm
 |x::a,[],h,_,_=>absurd h.symm cD
 | x::a,y::b,h,ha,hb=>by
  have e:x=y:=by
   rcases il.1 (h.mem_iff.1 (.head _)) with e|e
   ·exact e
   have h1:=(jb.1 hb).1 x e;rcases il.1 (h.mem_iff.2 (.head _)) with d|d
   ·exact d.symm
   exact absurd h1 (g _ _ ((jb.1 ha).1 y d))
  subst e;rw[MP g ((List.perm_cons x).1 h) (jb.1 ha).2 (jb.1 hb).2]
end
end Go.Pure
namespace Go.Pure
open Go Go.Eng
theorem bLj {w:AH} {i:Nat} (hi:i<w.length) (j:Nat):om (w.drop i++w.take i) j=w.getD ((i+j)%w.length) 0:=by
 have hl:(w.drop i++w.take i).length=w.length:=by rw[aa,az,ax];omega
 have b:=yh j (show 0<w.length by omega);unfold om;rw[hl,af,af];congr 1;have e:(i+j)%w.length=(i+j%w.length)%w.length:=by rw[Nat.add_mod_mod]
 rw[e];clear e;generalize j%w.length=r at b ⊢;by_cases h:r<w.length-i
 ·have a:(i+r)%w.length=i+r:=lm G;rw[jh (by rw[az];exact h),ui,a]
 have a:(i+r)%w.length=i+r-w.length:=by rw[zw G,lm G]
 rw[ji (by rw[az];omega),az,qi,cz G,a];congr 1;omega
theorem bOy {ws:AD} {t:Int × Int} (e:TV ws t) (j:Nat):om ((rdl ws t.1).drop t.2.toNat++(rdl ws t.1).take t.2.toNat) j=tw ws t j:=by
 obtain⟨a,b,c,d⟩:=e;rw[bLj G];rfl
end Go.Pure
namespace Go.Pure
open Go Go.Eng
section
variable {ws:AD} {l:AE} {j:Nat}
theorem Lt.of_H {H:Nat} {U V:Nat->Int} (h:LtH H U V):Lt U V:=by
 obtain⟨k,_,r⟩:=h;exact⟨k,r⟩
theorem BL (U V:Nat->Int):Lt U V\/(∀i,U i=V i)\/Lt V U:=by
 by_cases h: ∀i,U i=V i
 ·exact .inr (.inl h)
 obtain ⟨k,hk⟩:=Gf.1 h;rcases tri (k+1) U V with a|a|a
 ·exact .inl (Lt.of_H a)
 ·exact absurd (a k G) hk
 exact .inr (.inr (Lt.of_H a))
theorem Lt.asymm {U V:Nat->Int} (h:Lt U V): ¬Lt V U:=by
 obtain⟨k,h1,hl⟩:=h;rintro⟨m,d,e⟩;by_cases a:k<m
 ·have:=d k a;omega
 by_cases b:m<k
 ·have:=h1 m b;omega
 have:k=m:=G
 subst this;omega
theorem Lt.not_eq {U V:Nat->Int} (h:Lt U V): ¬ ∀i,U i=V i:=λe=>by
 obtain⟨k,_,hl⟩:=h;have:=e k;omega
theorem aHi {t u:Int × Int} (h: ¬Lt (tw ws t) (tw ws u)) (hi:ltI u t):kP ws u t:=by
 rcases BL (tw ws u) (tw ws t) with a|a|a
 ·exact .inl a
 ·exact .inr ⟨a,hi⟩
 exact absurd a h
theorem aNa (t u:Int × Int) (h:kP ws t u): ¬kP ws u t:=by
 rcases h with h|⟨e,h⟩
 ·rintro (g|⟨e,g⟩)
  ·exact h.asymm g
  exact h.not_eq λi=>(e i).symm
 rintro (g|⟨e',g⟩)
 ·exact g.not_eq λi=>(e i).symm
 unfold ltI at h g;omega
theorem UO {t u v:Int × Int} (h:kP ws t u) (g:kP ws u v):kP ws t v:=by
 rcases h with⟨k,h1,hl⟩|⟨e,h⟩
 ·rcases g with g|⟨e',_⟩
  ·exact .inl (Lt.trans ⟨k,h1,hl⟩ g)
  exact .inl ⟨k,λi hi=>(h1 i hi).trans (e' i),by rw[<-e' k];exact hl⟩
 rcases g with⟨k,h1,hl⟩|⟨e',g⟩
 ·exact .inl ⟨k,λi hi=>(e i).trans (h1 i hi),by rw[e k];exact hl⟩
 exact .inr ⟨λi=>(e i).trans (e' i),by unfold ltI at*;omega⟩
theorem aNr {x:Int × Int} {j:Nat} (hp:l.Pairwise (kP ws)) (h1: ∀y∈l.take j,kP ws y x) (g: ∀y∈l.drop j,kP ws x y):(l.take j++[x]++l.drop j).Pairwise (kP ws):=by
 have hs:(l.take j++l.drop j).Pairwise (kP ws):=by rw[ed];exact hp
 obtain⟨a,b,c⟩:=kv.1 hs;refine kv.2 ⟨kv.2 ⟨a,ql _ _,λy d z e=> ?_⟩,b,λy d z e=> ?_⟩
 ·obtain rfl:=gz.1 e;exact h1 y d
 rcases ek.1 d with d|d
 ·exact c y d z e
 obtain rfl:=gz.1 d;exact g z e
theorem aIb {α:Type} {l:List α} {x:α}:(l.take j++[x]++l.drop j).Perm (l++[x]):=by
 have h:(l.take j++[x]++l.drop j).Perm (l.take j++l.drop j++[x]):=by
  rw[dx,dx];exact ym _ ul
 rwa[ed] at h
theorem aYo {x:Int × Int} {j:Int} (hp:l.Pairwise (kP ws)) (d:0<j) (g:j<=l.length) (h:kP ws (rdp l (j-1)) x): ∀y∈l.take j.toNat,kP ws y x:=by
 intro y b;obtain⟨i,hi,rfl⟩:=ib.1 b;rw[ax] at hi;rw[uf];have rg:(j-1).toNat<l.length:=G
 have e:rdp l (j-1)=l[(j-1).toNat]:=by
  unfold rdp;rw[af,au rg];rfl
 rw[e] at h;rcases gm i (j-1).toNat with a|a
 ·exact UO (dz.1 hp i (j-1).toNat G rg a) h
 have:i=(j-1).toNat:=G
 subst this;exact h
theorem aJv {t u:Int × Int} (e:TV ws t) (hu:TV ws u):WN ((rdl ws t.1).drop t.2.toNat++(rdl ws t.1).take t.2.toNat) ((rdl ws u.1).drop u.2.toNat++(rdl ws u.1).take u.2.toNat)<0↔Lt (tw ws t) (tw ws u):=by
 have g:om ((rdl ws t.1).drop t.2.toNat++(rdl ws t.1).take t.2.toNat)=tw ws t:=funext (bOy e);have h:om ((rdl ws u.1).drop u.2.toNat++(rdl ws u.1).take u.2.toNat)=tw ws u:=funext (bOy hu)
 have l1:0<((rdl ws t.1).drop t.2.toNat++(rdl ws t.1).take t.2.toNat).length:=by
  obtain⟨a,b,c,d⟩:=e;rw[aa,az,ax];omega
 have l2:0<((rdl ws u.1).drop u.2.toNat++(rdl ws u.1).take u.2.toNat).length:=by
  obtain⟨a,b,c,d⟩:=hu;rw[aa,az,ax];omega
 rw[bHi l1 l2,g,h]
end
section
variable {ws:AD} {w k j:Int} {U:AE}
theorem bDq {u:Int × Int} (i9:0<=w) (e:w<ws.length) (hk:k<=(rdl ws w).length) (h:u∈iB ws w.toNat++turnsOf w k.toNat):TV ws u/\ltI u (w,k):=by
 rcases ek.1 h with h|h
 ·obtain ⟨⟨a,b⟩,c,d⟩:=EJ.1 h;exact⟨⟨a,G,c,d⟩, .inl (by simp only;omega)⟩
 obtain ⟨a,b,c⟩:=BJ.1 h;obtain⟨g,i⟩:=u;simp only at a b c;subst a;exact⟨⟨i9,e,b,by simp only;omega⟩, .inr ⟨rfl,by simp only;omega⟩⟩
theorem TN (i9:0<=w) (b:w<ws.length) (hk:k<=(rdl ws w).length) (hp:U.Perm (iB ws w.toNat++turnsOf w k.toNat)) (i:Int) (a:0<=i) (h:i<U.length):TV ws (rdp U i)/\ltI (rdp U i) (w,k):=
 bDq i9 b hk (hp.subset (lV a h))
def aQa (ws:AD) (t:Int × Int):AH:=(rdl ws t.1).drop t.2.toNat++(rdl ws t.1).take t.2.toNat
theorem bEu (i9:0<=w) (d:w<ws.length) (e:0<=k) (hk:k<(rdl ws w).length) (hp:U.Perm (iB ws w.toNat++turnsOf w k.toNat)) (l:0<=j) (g:j<=U.length)
  (m7: ∀i:Int,j<=i->i<U.length->kP ws (w,k) (rdp U i)) (h:0<j/\WN (aQa ws (w,k)) (aQa ws (rdp U (j-1)))<0): ∀i:Int,j-1<=i->i<U.length->kP ws (w,k) (rdp U i):=by
 intro i h1 b;rcases bz i j with a|a
 ·have:i=j-1:=G
  subst this;exact .inl ((aJv ⟨i9,d,e,hk⟩ (TN i9 d G hp (j-1) G b).1).1 h.2)
 exact m7 i a b
theorem bMg (i9:0<=w) (l:w<ws.length) (d:0<=k) (hk:k<(rdl ws w).length) (hp:U.Perm (iB ws w.toNat++turnsOf w k.toNat)) (hs:U.Pairwise (kP ws)) (o:0<=j) (m:j<=U.length)
  (m7: ∀i:Int,j<=i->i<U.length->kP ws (w,k) (rdp U i)) (h: ¬(0<j/\WN (aQa ws (w,k)) (aQa ws (rdp U (j-1)))<0)):
  (U.take j.toNat++[(w,k)]++U.drop j.toNat).Perm (iB ws w.toNat++turnsOf w (k+1).toNat)/\(U.take j.toNat++[(w,k)]++U.drop j.toNat).Pairwise (kP ws):=by
 refine⟨?_,aNr hs ?_ ?_⟩
 ·rw [IQ w d,<-dx];exact aIb.trans (Bf _ hp)
 ·rcases bz 0 j with a|a
  ·have g:=TN i9 l G hp (j-1) G G;refine aYo hs a m (aHi (λhl=>h ⟨a,(aJv ⟨i9,l,d,hk⟩ g.1).2 hl⟩) g.2)
  intro y b;rw[show j.toNat=0 by omega,yf] at b;cases b
 intro y b;obtain⟨i,hi,rfl⟩:=ib.1 b;rw[az] at hi;have ci:j.toNat+i<U.length:=G
 rw[xz];have:=m7 (j+(i:Int)) G G
 have e:rdp U (j+(i:Int))=U[j.toNat+i]:=by
  unfold rdp;rw[show(j+(i:Int)).toNat=j.toNat+i by omega,af,au ci];rfl
 rwa[e] at this
end
section
variable {L s:AH} {k:Int} {ws:AD} {l:AE}
def ps (L:AH) (k:Int):Int:=(L.take k.toNat).sum
theorem nY (a:0<=k) (h:k<L.length):ps L (k+1)=ps L k+rd L k:=by
 unfold ps;rw[dP a h,Dl];simp
theorem aMu (h:L.length<=k):ps L k=L.sum:=by
 unfold ps;rw[bg G]
def jH (s L:AH) (k:Int):AD:=(List.range k.toNat).map λi:Nat=>(s.drop (ps L i).toNat).take (rd L i).toNat
theorem zR (a:0<=k):jH s L (k+1)=jH s L k++[(s.drop (ps L k).toNat).take (rd L k).toNat]:=by
 unfold jH;rw[show(k+1).toNat=k.toNat+1 by omega,Ae,jc];simp only[jg,ug];rw[show((k.toNat:Nat):Int)=k by omega]
theorem yI (s L:AH) (k:Int):(jH s L k).length=k.toNat:=by simp[jH]
theorem PY: ∀ {L:AH},(∀x∈L,0<x)->(L.length:Int)<=L.sum
 |[],_=>cD
 |x::L,h=>by
  have a:=h x cD;have b:=PY (L:=L) λy d=>h y (fw _ d);simp only[dh,uy];omega
theorem aFp {L:AH} (h: ∀x∈L,0<x) (k:Nat):(L.take k).sum<=L.sum:=by
 have e:L.sum=(L.take k).sum+(L.drop k).sum:=by rw[<-Dl,ed]
 have:=PY (L:=L.drop k) λy a=>h y (lu a);omega
theorem MK {L:AH} (h: ∀x∈L,0<x) (k:Int):0<=ps L k:=by
 have:=PY (L:=L.take k.toNat) λy a=>h y (ku a);unfold ps;omega
theorem bM (a:0<=k) (h:k<L.length):rd L k∈L:=by
 unfold rd;rw[af,au G];exact mg _
theorem NP {s L:AH} (b: ∀x∈L,0<x) (hs:L.sum<=s.length): ∀k:Nat,k<=L.length->(jH s L k).flatten=s.take (ps L k).toNat
 |0,_=>rfl
 |k+1,hk=>by
  have a:(0:Int)<=(k:Int):=G
  have d:(k:Int)<L.length:=G
  have hp:=MK b k;have g:=b _ (bM a d);have e:((k+1:Nat):Int)=(k:Int)+1:=G
  rw[e,zR a,lq,NP b hs k G,nY a d,show(ps L k+rd L k).toNat=(ps L k).toNat+(rd L k).toNat by omega,List.take_add];simp
theorem aIr: ∀(f:Nat) (s:AH),∀x∈XY f s,0<x
 |0,s,x,h=>by cases h
 | f+1,s,x,h=>by
  unfold XY at h;cases s with
  |nil=>cases h
  | cons a s=>
   simp only[Em,xg,xq] at h;rcases il.1 h with rfl|h
   ·have:=uS (s:=a::s) cD (a::s).length cD;omega
   exact aIr f _ x h
theorem uW (s:AH): ∀x∈eO s,0<x:=aIr _ _
theorem aIq: ∀(f:Nat) (s:AH),s.length<=f->(XY f s).sum=s.length
 |0,s,h=>by
  have:s=[]:=Av.1 G;subst this;rfl
 | f+1,s,h=>by
  unfold XY;cases s with
  |nil=>rfl
  |cons a s=>
   simp only[Em,xg,xq];have h1:=uS (s:=a::s) cD (a::s).length cD;have b:=aAl (a::s) (a::s).length;rw[uy,aIq f _ (by rw[az];omega),az];omega
theorem KJ (s:AH):(eO s).sum=s.length:=aIq _ _ (dn _)
theorem KL (s:AH):(eO s).length<=s.length:=by
 have:=PY (uW s);have:=KJ s;omega
theorem bOw (s:AH) (k:Int):ps (eO s) k<=s.length:=by
 have:=aFp (uW s) k.toNat;have:=KJ s;unfold ps;omega
def bws (s:AH):AD:=jH s (eO s) (eO s).length
theorem vC (s:AH):(bws s).flatten=s:=by
 unfold bws;rw[NP (uW s) (by rw[KJ];omega) _ (dn _),aMu (ni _),KJ];simp
theorem aTc (s:AH):(bws s).length=(eO s).length:=by unfold bws;rw[yI];omega
theorem LM (hp:l.Perm (iB ws ws.length)):l.length=ws.flatten.length:=by
 rw[hp.length_eq,DF ws _ (dn _)];unfold qZ;rw[qa]
theorem LC (hp:l.Perm (iB (bws s) (bws s).length)):l.length=s.length:=by rw[LM hp,vC]
def lastB (ws:AD) (t:Int × Int):Int:=rd (rdl ws t.1) ((t.2+(rdl ws t.1).length-1)%((rdl ws t.1).length:Int))
theorem aWb {t:Int × Int} (h:TV ws t):lastB ws t∈ws.flatten:=by
 obtain⟨a,b,c,d⟩:=h;have hn:(0:Int)<(rdl ws t.1).length:=G
 have h1:=jk (t.2+(rdl ws t.1).length-1) (Int.ne_of_gt hn);have e:=ja (t.2+(rdl ws t.1).length-1) hn;exact ny.2 ⟨_,bKq a b,bM h1 e⟩
theorem rZ (hp:l.Perm (iB ws ws.length)) (hb:aI ws.flatten):aI (l.map (lastB ws)):=by
 intro x b;obtain⟨t,a,rfl⟩:=gq.1 b;exact hb _ (aWb (vR.1 (hp.subset a)))
end
section
variable {l ks order keys at_:AH} {n:Nat} {i k c x m:Int}
theorem bP {m:AH} (hl:l.length=m.length) (h: ∀j:Int,0<=j->j<l.length->rd l j=rd m j):l=m:=by
 apply su hl;intro i h1 a;have:=h i G G;unfold rd at this;rw[bu,af,af,au h1,au a] at this;exact this
theorem jU {f:Nat->Int} (a:0<=i) (h:i<n):rd ((List.range n).map f) i=f i.toNat:=by
 unfold rd;rw[af,mr,zi G];rfl
theorem yO:rd (List.replicate n 0) i=0:=by
 unfold rd;rw[af,ze];split<;>rfl
def gF (ks:AH) (k:Int):AH:=(List.range k.toNat).map λc:Nat=>((ks.filter λx=>decide (x=(c:Int))).length:Int)
theorem fG (ks:AH) (k:Int):(gF ks k).length=k.toNat:=by simp[gF]
theorem aJu (k:Int):gF [] k=List.replicate k.toNat 0:=by
 unfold gF;simp only[List.filter_nil,iw];apply su cD;intro i h1 a;simp
theorem JO (a:0<=c) (h:c<k):rd (gF ks k) c=((ks.filter λx=>decide (x=c)).length:Int):=by
 unfold gF;rw[jU a G];rw[show((c.toNat:Nat):Int)=c by omega]
theorem aBh (a:0<=x) (h:x<k):upd (gF ks k) x (rd (gF ks k) x+1)=gF (ks++[x]) k:=by
 refine bP (by rw[aW,fG,fG]) λj h1 b=> ?_;rw[aW,fG] at b;rw[iQ a h1 (by rw[fG];omega),JO (ks:=ks++[x]) h1 G,uq,aa];by_cases e:j=x
 ·subst e;rw[cz rfl,JO h1 G];simp
 rw [bq e,JO h1 G]
 have:([x].filter λy=>decide (y=j))=[]:=by
  rw[mf (by simp;exact λh=>e h.symm)];rfl
 rw[this];simp
def eF (cs:AH):AH:=(List.range cs.length).map λi:Nat=>ps cs i
theorem gT (cs:AH):(eF cs).length=cs.length:=by simp[eF]
theorem qV {cs:AH} (a:0<=i) (h:i<cs.length):rd (eF cs) i=ps cs i:=by
 unfold eF;rw[jU a h];rw[show((i.toNat:Nat):Int)=i by omega]
def fE (order keys:AH) (c:Int):AH:=order.filter λi=>decide (rd keys i=c)
def dN (order keys:AH):Nat->AH
 |0=>[]
 |c+1=>dN order keys c++fE order keys c
theorem nZ (h:rd keys i=c):fE (order++[i]) keys c=fE order keys c++[i]:=by
 unfold fE;rw[uq,qd (by simpa using h)];rfl
theorem rA (h:rd keys i≠c):fE (order++[i]) keys c=fE order keys c:=by
 unfold fE;rw[uq,mf (by simpa using h)];simp
theorem FT (order keys:AH) (c:Int) (m:Nat):(fE (order.take m) keys c).length<=(fE order keys c).length:=
 ((List.take_sublist m order).filter _).length_le
theorem aXr (order keys:AH) (a:0<=c) (h:c<k):rd (gF (order.map (rd keys)) k) c=(fE order keys c).length:=by
 rw[JO a h,List.filter_map,bn];rfl
theorem MN (order keys:AH) {k:Int}: ∀c:Nat,(c:Int)<=k->ps (gF (order.map (rd keys)) k) c=(dN order keys c).length
 |0,_=>rfl
 |c+1,h=>by
  rw[show((c+1:Nat):Int)=(c:Int)+1 by omega,nY G (by rw[fG];omega),MN order keys c G,aXr order keys G G];rw[dN,aa];omega
theorem GM (order keys:AH) {c d:Nat} (h:c<d):(dN order keys c).length+(fE order keys c).length<=(dN order keys d).length:=by
 induction d with
 |zero=>omega
 | succ d ih=>
  rw[dN,aa];rcases gm c d with a|a
  ·have:=ih a;omega
  have:c=d:=G
  subst this;omega
theorem qW {order:AH} {k:Nat} (hk: ∀i∈order,0<=rd keys i/\rd keys i<k):(dN order keys k).Perm order:=by
 have gen: ∀c:Nat,(dN order keys c).Perm (order.filter λi=>decide (0<=rd keys i/\rd keys i<c)):=by
  intro c
  induction c with
  | zero=>
   have:(order.filter λi=>decide (0<=rd keys i/\rd keys i<(0:Nat)))=[]:=by
    rw[List.filter_eq_nil_iff];intro i _;simp only[wo];omega
   rw[this];exact .refl _
  | succ c ih=>
   rw[dN];refine(ih.append_right _).trans ?_;unfold fE
   have e:order.filter (λi=>decide (rd keys i=(c:Int)))=(order.filter λi=>decide (0<=rd keys i/\rd keys i<(c+1:Nat))).filter (λi=> ! decide (0<=rd keys i/\rd keys i<(c:Int))):=by
    rw[List.filter_filter];refine List.filter_congr λi _=> ?_;by_cases h:rd keys i=(c:Int)
    ·rw [nz h,nz (show 0<=rd keys i/\rd keys i<((c+1:Nat):Int) by omega),mo (show¬(0<=rd keys i/\rd keys i<(c:Int)) by omega)];rfl
    rw [mo h];by_cases a:0<=rd keys i/\rd keys i<(c:Int)
    ·rw[nz a];simp
    rw[mo (show¬(0<=rd keys i/\rd keys i<((c+1:Nat):Int)) by omega)];simp
   have b:order.filter (λi=>decide (0<=rd keys i/\rd keys i<(c:Nat)))=(order.filter λi=>decide (0<=rd keys i/\rd keys i<(c+1:Nat))).filter (λi=>decide (0<=rd keys i/\rd keys i<(c:Int))):=by
    rw[List.filter_filter];refine List.filter_congr λi _=> ?_;by_cases a:0<=rd keys i/\rd keys i<(c:Int)
    ·rw[nz a,nz (show 0<=rd keys i/\rd keys i<((c+1:Nat):Int) by omega)];rfl
    rw[mo a];rfl
   rw[e,b];exact List.filter_append_perm _ _
 have:=gen k;rwa[Da.2 (λi hi=>by rw[iy];exact hk i hi)] at this
theorem aHf {order keys l:AH}: ∀k:Nat,(dN order keys k).length<=l.length->(∀c:Nat,c<k-> ∀t:Nat,t<(fE order keys c).length->rd l ((dN order keys c).length+t)=rd (fE order keys c) t)->l.take (dN order keys k).length=dN order keys k
 |0,_,_=>rfl
 |k+1,hl,h=>by
  have b:=aHf (order:=order) (keys:=keys) (l:=l) k (by rw[dN,aa] at hl;omega) λc hc=>h c G;rw[dN,aa] at hl ⊢;rw[List.take_add,b];congr 1;refine bP (by rw[ax,az];omega) λj h1 a=> ?_;rw[ax,az] at a;have:=h k G j.toNat G;rw[show((j.toNat:Nat):Int)=j by omega] at this;rw[<-this];unfold rd;rw[af,af,qi,cz G,ui];congr 2;omega
structure LX (order keys at_ l:AH) (k:Int) (m:Int):Prop where
 len:l.length=order.length
 alen:at_.length=k.toNat
 at_: ∀c:Int,0<=c->c<k->rd at_ c=(dN order keys c.toNat).length+(fE (order.take m.toNat) keys c).length
 row: ∀c:Int,0<=c->c<k-> ∀t:Int,0<=t->t<(fE (order.take m.toNat) keys c).length->rd l ((dN order keys c.toNat).length+t)=rd (fE (order.take m.toNat) keys c) t
theorem aMx:LX order keys (eF (gF (order.map (rd keys)) k)) (List.replicate order.length 0) k 0:=by
 refine⟨cD,by rw[gT,fG],λc a h=> ?_,λc _ _ t _ b=> ?_⟩
 ·rw [qV a (by rw[fG];omega)];have:=MN order keys (k:=k) c.toNat G;rw[show((c.toNat:Nat):Int)=c by omega] at this;rw[this];simp[fE]
 simp [fE] at b;omega
theorem EF {order:AH} (hk: ∀i∈order,0<=rd keys i/\rd keys i<k):(dN order keys k.toNat).length=order.length:=(qW (k:=k.toNat) λi hi=>by have:=hk i hi;omega).length_eq
theorem LX.lt {order:AH} (h:LX order keys at_ l k m) (hk: ∀i∈order,0<=rd keys i/\rd keys i<k) (a:0<=m) (b:m<order.length):0<=rd at_ (rd keys (rd order m))/\rd at_ (rd keys (rd order m))<l.length:=by
 have hi:=hk _ (bM a b);rw[h.at_ _ hi.1 hi.2,h.len];have e:order.take (m+1).toNat=order.take m.toNat++[rd order m]:=dP a b;have h1:=FT order keys (rd keys (rd order m)) (m+1).toNat;rw[e,nZ rfl,aa,dw] at h1;have g:=GM order keys (c:=(rd keys (rd order m)).toNat) (d:=k.toNat) G;rw[EF hk,show(((rd keys (rd order m)).toNat:Nat):Int)=rd keys (rd order m) by omega] at g;omega
theorem LX.step {order:AH} (h:LX order keys at_ l k m) (hk: ∀i∈order,0<=rd keys i/\rd keys i<k) (b:0<=m) (g:m<order.length):LX order keys (upd at_ (rd keys (rd order m)) (rd at_ (rd keys (rd order m))+1)) (upd l (rd at_ (rd keys (rd order m))) (rd order m)) k (m+1):=by
 have hi:=hk _ (bM b g);have ci:=h.lt hk b g;have e:order.take (m+1).toNat=order.take m.toNat++[rd order m]:=dP b g;have g7:=h.at_ _ hi.1 hi.2;refine⟨by rw[aW];exact h.len,by rw[aW];exact h.alen,λc c0 c1=> ?_,λc c0 c1 t t0 t1=> ?_⟩
 ·rw [iQ hi.1 c0 (by rw[h.alen];omega),e];by_cases hc:c=rd keys (rd order m)
  ·rw [cz hc,g7,nZ hc.symm,aa,hc];simp only[dw];omega
  rw[bq hc,h.at_ c c0 c1,rA λh=>hc h.symm]
 rw [e] at t1 ⊢;have j: ∀c:Int,(fE (order.take m.toNat++[rd order m]) keys c).length<=(fE order keys c).length:=λc=>by rw[<-e];exact FT _ _ _ _
 rw[iQ ci.1 G ci.2,g7];by_cases hc:c=rd keys (rd order m)
 ·subst hc;rw[nZ rfl] at t1 ⊢;rw[aa,dw] at t1;by_cases o:t=(fE (order.take m.toNat) keys (rd keys (rd order m))).length
  ·rw[cz G,XV o]
  rw [bq G,TZ t0 G];exact h.row _ c0 c1 t t0 G
 rw [rA λh=>hc h.symm] at t1 ⊢;rw[bq,h.row c c0 c1 t t0 t1];intro p;have f1:=j c;rw[rA λh=>hc h.symm] at f1;have f2:=j (rd keys (rd order m));rw[nZ rfl,aa,dw] at f2;rcases Int.lt_or_lt_of_ne hc with a|a
 ·have:=GM order keys (c:=c.toNat) (d:=(rd keys (rd order m)).toNat) G;rw[show((c.toNat:Nat):Int)=c by omega] at this;omega
 have:=GM order keys (c:=(rd keys (rd order m)).toNat) (d:=c.toNat) G;rw[show(((rd keys (rd order m)).toNat:Nat):Int)=rd keys (rd order m) by omega] at this;omega
theorem LX.done {order:AH} (h:LX order keys at_ l k m) (hk: ∀i∈order,0<=rd keys i/\rd keys i<k) (e:m=order.length):l=dN order keys k.toNat:=by
 have b:order.take m.toNat=order:=bg G
 have:=aHf (order:=order) (keys:=keys) (l:=l) k.toNat (by rw[EF hk,h.len];exact dn _) λc hc t d=>by
  have a:=h.row c G G t G;rw[b] at a;exact a G
 rw[EF hk,<-h.len,qa] at this;exact this
theorem jM {order keys:AH} {r:Int->Int->Prop} (g:order.Pairwise r): ∀k:Nat,(dN order keys k).Pairwise λx y=>rd keys x<rd keys y\/rd keys x=rd keys y/\r x y
 |0=> .nil
 | k +1=>by
  rw[dN];refine kv.2 ⟨jM g k,?_,λx d y e=> ?_⟩
  ·refine ((g.sublist (ve ..)).imp_of_mem λ{x y} d e h=> ?_:(fE order keys k).Pairwise _);have h1:=(qb.1 d).2;have b:=(qb.1 e).2;rw[iy] at h1 b;exact .inr ⟨G,h⟩
  have b:=(qb.1 e).2;rw[iy] at b
  have: ∀c:Nat,∀z∈dN order keys c,rd keys z<c:=by
   intro c
   induction c with
   |zero=>intro z a;cases a
   | succ c ih=>
    intro z a;rw[dN] at a;rcases ek.1 a with a|a
    ·have:=ih z a;omega
    have i:=(qb.1 a).2;rw[iy] at i;omega
  have:=this k x d;exact .inl G
theorem WK:0<=rd (gF ks k) x/\rd (gF ks k) x<=ks.length:=by
 by_cases h:x.toNat<k.toNat
 ·have e:rd (gF ks k) x=((ks.filter λy=>decide (y=(x.toNat:Int))).length:Int):=by
   unfold rd gF;rw[af,mr,zi h];rfl
  have:=yo (λy=>decide (y=(x.toNat:Int))) ks;omega
 have e:rd (gF ks k) x=0:=by
  unfold rd;rw[af,nu (by rw[fG];omega)];rfl
 omega
theorem GD: ∀ {L:AH},(∀x∈L,0<=x)->0<=L.sum
 |[],_=>cD
 |x::L,h=>by
  have a:=h x cD;have b:=GD (L:=L) λy d=>h y (fw _ d);rw[uy];omega
theorem BA {L:AH} (h: ∀x∈L,0<=x) (k:Int):0<=ps L k/\ps L k<=L.sum:=by
 have e:L.sum=(L.take k.toNat).sum+(L.drop k.toNat).sum:=by rw[<-Dl,ed]
 have a:=GD (L:=L.take k.toNat) λy d=>h y (ku d);have b:=GD (L:=L.drop k.toNat) λy d=>h y (lu d);unfold ps;omega
theorem oW (ks:AH) (k:Int): ∀x∈gF ks k,0<=x:=by
 intro x a;obtain⟨c,_,rfl⟩:=gq.1 a;omega
theorem WJ {order:AH} (a:0<=k) (hk: ∀i∈order,0<=rd keys i/\rd keys i<k):(gF (order.map (rd keys)) k).sum=order.length:=by
 have:=MN order keys (k:=k) k.toNat G;rw[aMu (by rw[fG];omega),EF hk] at this;exact this
theorem gG {V:AH} {f:Int->Int} {v:Int} (a:0<=i) (hi:i<V.length) (h: ∀j:Int,0<=j->j<i->rd V j=f j) (b:v=f i): ∀j:Int,0<=j->j<i+1->rd (upd V i v) j=f j:=by
 intro j j0 d;rw[iQ a j0 hi];by_cases e:j=i
 ·rw[cz e,e,b]
 rw [bq e];exact h j j0 G
end
section
variable {n k b h:Nat} {x i y j:Int} {s U out:AH}
def iota (n:Nat):AH:=(List.range n).map λi:Nat=>(i:Int)
theorem bI (n:Nat):(iota n).length=n:=by simp[iota]
theorem aY:x∈iota n↔0<=x/\x<n:=by
 unfold iota;rw[gq];constructor
 ·rintro ⟨i,hi,rfl⟩;have:=jr.1 hi;omega
 intro h;exact⟨x.toNat,jr.2 G,G⟩
theorem xO {n:Int} (h:0<=n):iota (n+1).toNat=iota n.toNat++[n]:=by
 unfold iota;rw[show(n+1).toNat=n.toNat+1 by omega,Ae,jc];simp only[jg,ug];rw[show((n.toNat:Nat):Int)=n by omega]
theorem aNq (n:Nat):(iota n).map Int.toNat=List.range n:=by
 unfold iota;rw[qp];have:(Int.toNat ∘ λi:Nat=>(i:Int))=id:=by funext i;simp
 rw[this,Ki]
def dA (s:AH) (x y:Int):Prop:=LtH s.length (eu s x.toNat) (eu s y.toNat)
theorem iE (x y:Int) (h:dA s x y): ¬dA s y x:=h.asymm
theorem GN (x y z:Int) (h:dA s x y) (a:dA s y z):dA s x z:=LtH.trans h a
theorem aOe {i:Nat} (hi:i<s.length) (hk:k<s.length) (h:EqH s.length (eu s i) (eu s k)):i=k:=by
 rcases yg i k with a|a|a
 ·have:=h (s.length-k) G;rw[kU (s:=s) (i:=k) G] at this;have:=wY (s:=s) (i:=i) (d:=s.length-k) G;omega
 ·exact a
 have:=h (s.length-i) G;rw[kU (s:=s) (i:=i) G] at this;have:=wY (s:=s) (i:=k) (d:=s.length-i) G;omega
theorem BC (b:0<=x/\x<s.length) (d:0<=y/\y<s.length) (h:x≠y):dA s x y\/dA s y x:=by
 rcases tri s.length (eu s x.toNat) (eu s y.toNat) with a|a|a
 ·exact .inl a
 ·have:=aOe G G a;omega
 exact .inr a
theorem jK:cmpL (s.drop x.toNat) (s.drop y.toNat)<0↔dA s x y:=by
 unfold dA;rw[<-CE];unfold xV;rw[bg (by rw[az];omega),bg (by rw[az];omega)]
theorem aIc {r:Int->Int->Prop} (k: ∀x y z,r x y->r y z->r x z) {l:AH} (hs:l.Pairwise r) (o:0<=j) (m:j<=l.length) (m7: ∀i:Int,j<=i->i<l.length->r x (rd l i)) (h:0<j->r (rd l (j-1)) x):(l.take j.toNat++[x]++l.drop j.toNat).Pairwise r:=by
 have io: ∀i:Nat,∀h:i<l.length,rd l i=l[i]:=λi h=>by
  unfold rd;rw[bu,af,au h];rfl
 have ge:(l.take j.toNat++l.drop j.toNat).Pairwise r:=by rw[ed];exact hs
 obtain⟨a,b,c⟩:=kv.1 ge;refine kv.2 ⟨kv.2 ⟨a,ql _ _,λy e z g=> ?_⟩,b,λy e z g=> ?_⟩
 ·obtain rfl:=gz.1 g;obtain⟨i,hi,rfl⟩:=ib.1 e;rw[ax] at hi;rw[uf];have hl:=h G;rw[show j-1=((j.toNat-1:Nat):Int) by omega,io _ G] at hl;rcases gm i (j.toNat-1) with d|d
  ·exact k _ _ _ (dz.1 hs i (j.toNat-1) G G d) hl
  have:i=j.toNat-1:=G
  subst this;exact hl
 rcases ek.1 e with e|e
 ·exact c y e z g
 obtain rfl:=gz.1 e;obtain⟨i,hi,rfl⟩:=ib.1 g;rw[az] at hi;rw[xz];have:=m7 ((j.toNat+i:Nat):Int) G G;rwa[io _ G] at this
theorem bEv (b:0<=i) (hi:i<s.length) (hp:U.Perm (iota i.toNat)) (hs:U.Pairwise (dA s)) (g:0<=j) (e:j<=U.length) (m7: ∀q:Int,j<=q->q<U.length->dA s i (rd U q))
  (h: ¬(0<j/\cmpL (s.drop i.toNat) (s.drop (rd U (j-1)).toNat)<0)):(U.take j.toNat++[i]++U.drop j.toNat).Perm (iota (i+1).toNat)/\(U.take j.toNat++[i]++U.drop j.toNat).Pairwise (dA s):=by
 refine⟨?_,aIc (λx y z=>GN x y z) hs g e m7 λd=> ?_⟩
 ·rw [xO b];exact aIb.trans (Bf _ hp)
 have l:=aY.1 (hp.subset (bM (L:=U) (k:=j-1) G G));rcases BC (s:=s) (x:=rd U (j-1)) (y:=i) G G G with a|a
 ·exact a
 exact absurd ⟨d,jK.2 a⟩ h
theorem aWi (m7: ∀q:Int,j<=q->q<U.length->dA s i (rd U q)) (h:0<j/\cmpL (s.drop i.toNat) (s.drop (rd U (j-1)).toNat)<0): ∀q:Int,j-1<=q->q<U.length->dA s i (rd U q):=by
 intro q h1 b;rcases bz q j with a|a
 ·have:q=j-1:=G
  subst this;exact jK.1 h.2
 exact m7 q a b
theorem aNb {a b:AH} (d:a.Perm (iota s.length)) (hb:b.Perm (iota s.length)) (e:a.Pairwise (dA s)) (sb:b.Pairwise (dA s)):a=b:=
 MP iE (d.trans hb.symm) e sb
theorem JI {i:Nat} (hi:i<s.length):rkS s h i<s.length:=by
 have:rkS s h i<(List.range s.length).countP λ_=>true:=xA (λ_ _ _=>rfl) ⟨i,jr.2 hi,by rw[si,CE];exact λh=>h.asymm h,rfl⟩;simpa using this
theorem bKl {i:Nat} (hi:i<s.length) (hk:k<s.length) (h:rkS s s.length i=rkS s s.length k):i=k:=aOe hi hk ((aQs hi hk).1 h)
theorem aQr {o:AH} (hp:o.Perm (iota s.length)) (hs:o.Pairwise λx y=>rkS s h x.toNat<=rkS s h y.toNat) (d:0<=i) (hi:i<o.length) (a:0<i->rkS s h (rd o (i-1)).toNat≠rkS s h (rd o i).toNat):(rkS s h (rd o i).toNat:Int)=i:=by
 have io: ∀j:Nat,∀h:j<(o.map Int.toNat).length,(o.map Int.toNat)[j]=(rd o j).toNat:=λj h=>by
  rw[bn] at h;unfold rd;rw[bu,af,au h];simp
 have hl:i.toNat<(o.map Int.toNat).length:=by rw[bn];omega
 have b:(o.map Int.toNat).Perm (List.range s.length):=by
  have:=hp.map Int.toNat;rwa[aNq] at this
 have:=bRv (s:=s) (h:=h) (o:=o.map Int.toNat) (i:=i.toNat) b (iv.2 hs) hl λe=>by
  rw[io _ G,io _ hl];have:=a G;rwa[show((i.toNat-1:Nat):Int)=i-1 by omega,show((i.toNat:Nat):Int)=i by omega]
 rw[io _ hl,show((i.toNat:Nat):Int)=i by omega] at this;omega
theorem places {b:AH} (hp:b.Perm (iota s.length)) (hs:b.Pairwise (dA s)) (hl:out.length=s.length) (h: ∀i:Nat,i<s.length->rd out (rkS s s.length i)=i):out=b:=by
 have o:b.length=s.length:=by rw[hp.length_eq,bI]
 refine bP (hl.trans o.symm) λj d h1=> ?_;have e: ∀q:Int,0<=q->q<b.length->0<=rd b q/\rd b q<s.length:=λq a c=>aY.1 (hp.subset (bM a c))
 have m:b.Pairwise λx y=>rkS s s.length x.toNat<=rkS s s.length y.toNat:=hs.imp_of_mem λ{x y} k r h=>by
  have:=aY.1 (hp.subset k);exact Nat.le_of_lt ((AR G).2 h)
 have ci: ∀q:Int,0<q->q<b.length->dA s (rd b (q-1)) (rd b q):=λq a c=>by
  have:=dz.1 hs (q-1).toNat q.toNat G G G;unfold rd;rw[af,af,au G,au G];exact this
 have g:=aQr (i:=j) hp m d G λl=>by
  have:=(AR (by have:=e (j-1) G G;omega)).2 (ci j l G);omega
 have p:=e j d G;have:=h (rd b j).toNat G;rw[g] at this;rw[this];omega
theorem aGv {m:Nat} (a:m<s.length) (hl:out.length=s.length) (h: ∀i:Nat,i<m->rd out (rkS s s.length i)=i): ∀i:Nat,i<m+1->rd (upd out (rkS s s.length m) m) (rkS s s.length i)=i:=by
 intro i hi;have d:=JI (h:=s.length) a;rw[iQ G G G];by_cases e:i=m
 ·subst e;rw[cz rfl]
 rw[bq λb=>e (bKl G a G),h i G]
theorem bRu {i:Nat} (hi:i<s.length):rkS s 1 i=s.countP λx=>decide (x<lt s i):=by
 unfold rkS
 have e: ∀k,k<s.length->xV s k 1=[lt s k]:=λk hk=>by
  unfold xV;rw[nk hk,List.take_succ_cons,yf];unfold lt;rw[af,au hk];rfl
 have h1:(List.range s.length).countP (λk=>decide (cmpL (xV s k 1) (xV s i 1)<0))=(List.range s.length).countP ((λx=>decide (x<lt s i)) ∘ lt s):=by
  refine Ei λk hk=> ?_;rw[e k (jr.1 hk),e i hi];show decide (cmpL [lt s k] [lt s i]<0)=true↔decide (lt s k<lt s i)=true;rw[iy,iy];simp only[cmpL];by_cases a:lt s k<lt s i
  ·rw [cz a];exact⟨λ_=>a,λ_=>G⟩
  rw [bq a];by_cases b:lt s i<lt s k
  ·rw [cz b];exact⟨λh=>G,λh=>absurd h a⟩
  rw [bq b];exact⟨λh=>G,λh=>absurd h a⟩
 rw[h1,<-List.countP_map];congr 1;apply su cD;intro k h1 d;simp[lt,af,au d]
def rkL (s:AH) (h:Nat):AH:=(List.range s.length).map λi=>(rkS s h i:Int)
theorem JK (s:AH) (h:Nat):(rkL s h).length=s.length:=by simp[rkL]
theorem uO (a:0<=i) (hi:i<s.length):rd (rkL s h) i=rkS s h i.toNat:=jU a G
def onL (s:AH) (n b:Nat):AH:=(List.range s.length).map λi=>(xI s n (i+b):Int)
theorem aRg (s:AH) (n b:Nat):(onL s n b).length=s.length:=by simp[onL]
theorem AX (a:0<=i) (hi:i<s.length):rd (onL s n b) i=xI s n (i.toNat+b):=jU a G
theorem aQt {i:Nat}:xI s n i<=s.length:=by
 unfold xI;split
 ·rename_i h;have:=JI (h:=n) h;omega
 omega
def dS (s:AH) (n b:Nat):AH:=dN (dN (iota s.length) (onL s n b) (s.length+1)) (rkL s n) s.length
theorem yY (s:AH) (n b:Nat):(dN (iota s.length) (onL s n b) (s.length+1)).Perm (iota s.length):=
 qW λi hi=>by
  have:=aY.1 hi;rw[AX this.1 this.2];have:=aQt (s:=s) (n:=n) (i:=i.toNat+b);omega
theorem iR (s:AH) (n b:Nat):(dS s n b).Perm (iota s.length):=
 (qW λi hi=>by
  have:=aY.1 ((yY s n b).subset hi);rw[uO this.1 this.2];have:=JI (s:=s) (h:=n) (i:=i.toNat) G
  omega).trans (yY s n b)
theorem OJ (hn:0<n) (hb:b<=n):(dS s n b).Pairwise λx y=>rkS s (n+b) x.toNat<=rkS s (n+b) y.toNat:=by
 have h1:(dN (iota s.length) (onL s n b) (s.length+1)).Pairwise λx y=>rd (onL s n b) x<rd (onL s n b) y\/rd (onL s n b) x=rd (onL s n b) y/\True:=
  jM (r:=λ_ _=>True) (List.pairwise_of_forall λ_ _=>trivial) _
 have e:=jM (keys:=rkL s n) h1 s.length;refine e.imp_of_mem λ{x y} g i h=> ?_;have a:=aY.1 ((iR s n b).subset g);have d:=aY.1 ((iR s n b).subset i);rw[uO a.1 a.2,uO d.1 d.2,AX a.1 a.2,AX d.1 d.2] at h;refine Hq.1 λci=> ?_;rw[aMi hn hb G G] at ci;omega
theorem join_step {v:Int} (hn:0<n) (hb:b<=n) (o:0<=i) (hi:i<s.length) (hl:out.length=s.length) (h: ∀p:Int,0<=p->p<i->rd out (rd (dS s n b) p)=rkS s (n+b) (rd (dS s n b) p).toNat)
  (D:(0<i/\rd (rkL s n) (rd (dS s n b) (i-1))=rd (rkL s n) (rd (dS s n b) i)/\rd (onL s n b) (rd (dS s n b) (i-1))=rd (onL s n b) (rd (dS s n b) i)/\v=rkS s (n+b) (rd (dS s n b) (i-1)).toNat)\/
   (¬(0<i/\rd (rkL s n) (rd (dS s n b) (i-1))=rd (rkL s n) (rd (dS s n b) i)/\rd (onL s n b) (rd (dS s n b) (i-1))=rd (onL s n b) (rd (dS s n b) i))/\v=i)):
  ∀p:Int,0<=p->p<i+1->rd (upd out (rd (dS s n b) i) v) (rd (dS s n b) p)=rkS s (n+b) (rd (dS s n b) p).toNat:=by
 have hlen:(dS s n b).length=s.length:=by rw[(iR s n b).length_eq,bI]
 have j: ∀q:Int,0<=q->q<s.length->0<=rd (dS s n b) q/\rd (dS s n b) q<s.length:=λq a c=>aY.1 ((iR s n b).subset (bM a G))
 have r:(dS s n b).Nodup:=(iR s n b).symm.nodup (by
  unfold iota
  exact iv.2 (xm.imp λ{x y} h H=>h G))
 have l:v=rkS s (n+b) (rd (dS s n b) i).toNat:=by
  have d:=j i o hi;rcases D with⟨A,B,C,m⟩|⟨F,m⟩
  ·have mp:=j (i-1) G G;rw[uO mp.1 mp.2,uO d.1 d.2] at B;rw[AX mp.1 mp.2,AX d.1 d.2] at C;rw[m];have:=(TF (s:=s) (n:=n) (b:=b) (i:=(rd (dS s n b) (i-1)).toNat) (k:=(rd (dS s n b) i).toNat) hn hb G G).2 ⟨G,G⟩;omega
  rw [m];refine(aQr (iR s n b) (OJ hn hb) o G λA g=>F ⟨A,?_⟩).symm;have mp:=j (i-1) G G;have:=(TF (s:=s) (n:=n) (b:=b) (i:=(rd (dS s n b) (i-1)).toNat) (k:=(rd (dS s n b) i).toNat) hn hb G G).1 g;rw[uO mp.1 mp.2,uO d.1 d.2,AX mp.1 mp.2,AX d.1 d.2];exact⟨G,G⟩
 intro p p0 p1;have d:=j i o hi;have mp:=j p p0 G;rw[iQ d.1 mp.1 G];by_cases e:p=i
 ·subst e;rw[cz rfl,l]
 rw [bq,h p p0 G];intro g;have w:p.toNat<(dS s n b).length:=G
 have u:i.toNat<(dS s n b).length:=G
 unfold rd at g;rw[af,af,au w,au u] at g;simp only[qj] at g;exact(dz.1 r p.toNat i.toNat w u G) g
theorem aWf (hl:out.length=s.length) (h: ∀p:Int,0<=p->p<s.length->rd out (rd (dS s n b) p)=rkS s (n+b) (rd (dS s n b) p).toNat):out=rkL s (n+b):=by
 refine bP (hl.trans (JK _ _).symm) λj a h1=> ?_;have gs:=(iR s n b).symm.subset (aY.2 ⟨a,G⟩:j∈iota s.length);obtain⟨q,g,e⟩:=ib.1 gs;have hlen:(dS s n b).length=s.length:=by rw[(iR s n b).length_eq,bI]
 have:=h q G G
 have d:rd (dS s n b) q=j:=by
  unfold rd;rw[bu,af,au g];exact e
 rw[d] at this;rw[this,uO a G]
end
def onF (l:AH) (i h:Int):Int:=if (l.length:Int)<=i+h then 0 else rd l (i+h)+1
theorem bSl {s:AH} {n b:Nat} {i:Int} (a:0<=i) (hi:i<s.length):onF (rkL s n) i b=xI s n (i.toNat+b):=by
 unfold onF xI;rw[JK];by_cases h:(s.length:Int)<=i+b
 ·rw [cz h,bq G];rfl
 rw [bq h,cz G,uO G G,show(i+(b:Int)).toNat=i.toNat+b by omega];rfl
theorem bBg {s:AH} {h:Nat}: ∀x∈rkL s h,0<=x/\x<s.length:=by
 intro x a;obtain⟨i,hi,rfl⟩:=gq.1 a;have:=JI (h:=h) (jr.1 hi);omega
theorem bSk {s:AH} {n b:Nat}: ∀x∈onL s n b,0<=x/\x<(s.length:Int)+1:=by
 intro x a;obtain⟨i,hi,rfl⟩:=gq.1 a;have:=aQt (s:=s) (n:=n) (i:=i+b);omega
theorem aRw {O:AH} {n:Nat} (hl:O.length=n) (h: ∀j:Int,0<=j->j<n->rd O j=j):O=iota n:=by
 refine bP (by rw[hl,bI]) λj a h1=> ?_;rw[h j a G];unfold iota;rw[jU a G];omega
theorem bSj {s O:AH} {n b:Nat} (hl:O.length=s.length) (h: ∀j:Int,0<=j->j<s.length->rd O j=xI s n (j.toNat+b)):O=onL s n b:=by
 refine bP (by rw[hl,aRg]) λj a h1=> ?_;rw[h j a G,AX a G]
theorem aAr (s:AH) (n b:Nat):(dS s n b).length=s.length:=by rw[(iR s n b).length_eq,bI]
theorem iT {s:AH} {n b:Nat} {p:Int} (a:0<=p) (h:p<s.length):0<=rd (dS s n b) p/\rd (dS s n b) p<s.length:=
 aY.1 ((iR s n b).subset (bM a (by rw[aAr];exact h)))
theorem aWg {s:AH} {n b:Nat} {p q:Int} (p0:0<=p) (p1:p<s.length) (i:0<=q) (j:q<s.length) (h:rd (dS s n b) p=rd (dS s n b) q):p=q:=by
 have hl:=aAr s n b
 have d:(dS s n b).Nodup:=(iR s n b).symm.nodup (by
  unfold iota
  exact iv.2 (xm.imp λ{x y} h g=>h G))
 have hp:p.toNat<(dS s n b).length:=G
 have e:q.toNat<(dS s n b).length:=G
 unfold rd at h;rw[af,af,au hp,au e] at h;simp only[qj] at h;rcases jf p q with a|a|a
 ·exact absurd h (dz.1 d p.toNat q.toNat hp e G)
 ·exact a
 exact absurd h.symm (dz.1 d q.toNat p.toNat e hp G)
theorem bJi {l:AH} {i a b:Int}:upd (upd l i a) i b=upd l i b:=by simp[upd]
section
variable {s V:AH} {n b:Nat} {p:Int}
theorem aNp (hn:0<n) (hb:b<=n) (e:0<=p) (hp:p<s.length) (hl:V.length=s.length) (h: ∀q:Int,0<=q->q<p->rd V (rd (dS s n b) q)=rkS s (n+b) (rd (dS s n b) q).toNat)
  (hc: ¬((0<p/\rd (rkL s n) (rd (dS s n b) (p-1))=rd (rkL s n) (rd (dS s n b) p))/\rd (onL s n b) (rd (dS s n b) (p-1))=rd (onL s n b) (rd (dS s n b) p))):
  ∀q:Int,0<=q->q<p+1->rd (upd V (rd (dS s n b) p) p) (rd (dS s n b) q)=rkS s (n+b) (rd (dS s n b) q).toNat:=
 join_step hn hb e hp hl h (.inr ⟨λ⟨a,c,d⟩=>hc ⟨⟨a,c⟩,d⟩,rfl⟩)
theorem aWe (hn:0<n) (hb:b<=n) (g:0<=p) (hp:p<s.length) (hl:V.length=s.length) (h: ∀q:Int,0<=q->q<p->rd V (rd (dS s n b) q)=rkS s (n+b) (rd (dS s n b) q).toNat)
  (hc:(0<p/\rd (rkL s n) (rd (dS s n b) (p-1))=rd (rkL s n) (rd (dS s n b) p))/\rd (onL s n b) (rd (dS s n b) (p-1))=rd (onL s n b) (rd (dS s n b) p)):
  ∀q:Int,0<=q->q<p+1->rd (upd (upd V (rd (dS s n b) p) p) (rd (dS s n b) p) (rd (upd V (rd (dS s n b) p) p) (rd (dS s n b) (p-1)))) (rd (dS s n b) q)=rkS s (n+b) (rd (dS s n b) q).toNat:=by
 obtain⟨⟨a,c⟩,d⟩:=hc;have m1:=iT (s:=s) (n:=n) (b:=b) g hp;have m2:=iT (s:=s) (n:=n) (b:=b) (p:=p-1) G G;rw[bJi,iQ m1.1 m2.1 G,bq λe=>by have:=aWg G G g hp e;omega];exact join_step hn hb g hp hl h (.inl ⟨a,c,d,h (p-1) G G⟩)
end
theorem bKj (s:AH) (i:Nat):rkS s 0 i=0:=by
 unfold rkS;rw[Cz];intro k _;simp[xV,cmpL]
theorem bBe (s:AH):rkL s 0=List.replicate s.length 0:=by
 unfold rkL;apply su cD;intro i h1 a;simp[bKj]
theorem bRw {s:AH} {h:Nat} (a:s.length<=h):rkL s h=rkL s s.length:=by
 have e: ∀k,xV s k h=xV s k s.length:=λk=>by
  unfold xV;rw[bg (by rw[az];omega),bg (by rw[az];omega)]
 unfold rkL rkS;simp only[e]
theorem bBf {s:AH} (h:s.length=0) (a b:Nat):rkL s a=rkL s b:=by
 unfold rkL;rw[h];rfl
theorem fV (n:Nat):(iota n).Nodup:=by
 unfold iota;exact iv.2 (xm.imp λ{x y} h a=>h G)
theorem sW (s:AH): ∃b:AH,b.Perm (iota s.length)/\b.Pairwise (dA s):=by
 rcases fe s.length with z|z
 ·rw [z];exact⟨[], .refl _, .nil⟩
 refine ⟨dS s s.length 0,iR s _ 0,?_⟩;have h1:=OJ (s:=s) (n:=s.length) (b:=0) z (oq _);have d:(dS s s.length 0).Nodup:=(iR s _ 0).symm.nodup (fV _);refine(h1.and d).imp_of_mem λ{x y} e g h=> ?_;have j:=aY.1 ((iR s _ 0).subset e);have l:=aY.1 ((iR s _ 0).subset g);rcases BC j l h.2 with a|a
 ·exact a
 exfalso;have:=(AR (s:=s) (h:=s.length) (i:=y.toNat) (k:=x.toNat) G).2 a;have:=h.1;simp only[qw] at this;omega
section
variable {a b i p q:Int} {s row:AH}
def smB (s:AH) (i:Int):Bool:=decide (cmpL (s.drop i.toNat) (s.drop (i+1).toNat)<0)
theorem FV {u v:AH}:cmpL (a::u) (b::v)<0↔a<b\/a=b/\cmpL u v<0:=by
 rw[cmpL];rcases jf a b with c|c|c
 ·rw[cz c];exact⟨λ_=> .inl c,λ_=>G⟩
 ·subst c;rw[bq G,bq G];exact⟨λh=> .inr ⟨rfl,h⟩,λh=>h.elim (λh=>G) λh=>h.2⟩
 rw [bq G,cz c];exact⟨λh=>G,λh=>h.elim (λh=>G) λh=>G⟩
theorem jN (a:0<=i) (h:i<s.length):s.drop i.toNat=rd s i::s.drop (i+1).toNat:=fK a h
theorem BZ (h:(s.length:Int)<=i):s.drop i.toNat=[]:=og G
theorem qD (p0:0<=p) (hp:p<s.length) (b:0<=q) (a:q<s.length):dA s p q↔rd s p<rd s q\/rd s p=rd s q/\cmpL (s.drop (p+1).toNat) (s.drop (q+1).toNat)<0:=by
 rw[<-jK,jN p0 hp,jN b a,FV]
theorem uL (b:0<=i) (h:(s.length:Int)<=i+1):smB s i=false:=by
 unfold smB;rw[BZ h,si];by_cases a:i<s.length
 ·rw[jN b a];simp[cmpL]
 rw[BZ G];simp[cmpL]
theorem zZ (a:0<=i) (h:i+1<s.length):smB s i=true↔rd s i<rd s (i+1)\/rd s i=rd s (i+1)/\smB s (i+1)=true:=by
 unfold smB;rw[iy,iy,jN a G,jN (s:=s) (i:=i+1) G h,FV]
def isL (s:AH) (p:Int):Prop:=(0<=p/\p<s.length)/\smB s p=false
def isS (s:AH) (p:Int):Prop:=(0<=p/\p<s.length)/\smB s p=true
theorem uU (h:0<=p/\p<s.length):isL s p\/isS s p:=by
 cases e:smB s p with
 |false=>exact .inl ⟨h,e⟩
 |true=>exact .inr ⟨h,e⟩
theorem isL.not_S (h:isL s p): ¬isS s p:=λb=>by
 have a:=b.2;rw[h.2] at a;cases a
theorem isL.next (h:isL s p) (hp:p+1<s.length):rd s (p+1)<=rd s p/\(rd s p=rd s (p+1)->isL s (p+1)):=by
 have hn: ¬smB s p=true:=by rw[h.2];simp
 rw[zZ h.1.1 hp] at hn;refine⟨Int.not_lt.1 λci=>hn (.inl ci),λe=>⟨⟨by have:=h.1.1;omega,hp⟩,?_⟩⟩;cases e2:smB s (p+1) with
 |false=>rfl
 |true=>exact absurd (.inr ⟨e,e2⟩) hn
theorem isS.next (h:isS s p):p+1<s.length/\rd s p<=rd s (p+1)/\(rd s p=rd s (p+1)->isS s (p+1)):=by
 have hp:p+1<s.length:=by
  rcases bz (p+1) s.length with a|a
  ·exact a
  have:=uL h.1.1 a;rw[h.2] at this;cases this
 have hs:=(zZ h.1.1 hp).1 h.2;have b:=h.1.1;refine⟨hp,G,λe=>⟨⟨G,hp⟩,?_⟩⟩;rcases hs with a|a
 ·omega
 exact a.2
theorem OH {s:AH}: ∀(m:Nat) (p q:Int),s.length-p<=m->isL s p->isS s q->rd s p=rd s q->dA s p q
 |0,p,q,hm,hp,_,_=>by have:=hp.1;omega
 | m+1,p,q,hm,hp,hq,e=>by
  rw[qD hp.1.1 hp.1.2 hq.1.1 hq.1.2];refine .inr ⟨e,?_⟩;obtain⟨d,j,g⟩:=hq.next;have o:=hq.1.1;have p0:=hp.1.1;rcases bz (p+1) s.length with a|a
  ·obtain ⟨l,k⟩:=hp.next a;rw[jK (s:=s),qD G a G d];rcases bz (rd s (p+1)) (rd s (q+1)) with b|b
   ·exact .inl b
   have h:rd s p=rd s (p+1):=G
   have i:rd s q=rd s (q+1):=G
   have:=OH m (p+1) (q+1) G (k h) (g i) G;rw[qD G a G d] at this;exact this
  rw [BZ a,jN G d];simp[cmpL]
theorem aNj (hp:isL s p) (a:isS s q) (e:rd s p=rd s q):dA s p q:=OH (s.length-p).toNat p q G hp a e
theorem UN (p0:0<=p) (hp:p+1<s.length) (a:0<=q) (b:q+1<s.length) (e:rd s p=rd s q) (h:dA s (p+1) (q+1)):dA s p q:=by
 rw[qD p0 G a G];exact .inr ⟨e,jK.2 h⟩
theorem xL (hp:0<=p/\p<s.length) (a:0<=q/\q<s.length) (h:rd s p<rd s q):dA s p q:=by
 rw[qD hp.1 hp.2 a.1 a.2];exact .inl h
theorem bCx (hn:0<s.length) (b:0<=q) (a:q+1<s.length) (e:rd s (s.length-1)=rd s q):dA s (s.length-1) q:=by
 rw[qD G G b G];refine .inr ⟨e,?_⟩;rw[BZ G,jN G a];simp[cmpL]
def iU (s:AH) (i:Int):Bool:=decide (0<i) && smB s i && !smB s (i-1)
theorem qG:iU s i=true↔0<i/\smB s i=true/\smB s (i-1)=false:=by
 unfold iU;rw[lv,lv,iy];simp only[Bool.not_eq_true',and_assoc]
def bX (s:AH):AH:=(iota s.length).filter λi=>iU s i
theorem xN:i∈bX s↔(0<=i/\i<s.length)/\iU s i=true:=by
 unfold bX;rw[qb,aY]
theorem GU (s:AH):(bX s).Nodup:=(fV _).sublist ve
theorem rC {α:Type} [DecidableEq α]: ∀ {l m:List α},l.Nodup->(∀x∈l,x∈m)->l.length<=m.length
 |[],_,_,_=>oq _
 | a::l,m,hd,h=>by
  obtain⟨h1,i⟩:=xe.1 hd;have b:=h a cD
  have:=rC (l:=l) (m:=m.erase a) i λx d=>by
   have g:x≠a:=λe=>h1 (e▸d);exact(Gm g).2 (h x (fw _ d))
  rw[De b] at this;have hp:=En b;simp only[dh];omega
theorem uP {α:Type} [DecidableEq α]: ∀ {l m:List α},l.Nodup->(∀x∈l,x∈m)->m.length<=l.length->l.Perm m
 |[],m,_,_,h=>by
  have:m=[]:=di (by simpa using h);rw[this]
 | a::l,m,hd,h,hl=>by
  obtain⟨h1,i⟩:=xe.1 hd;have b:=h a cD;have hp:=En b
  have:=uP (l:=l) (m:=m.erase a) i (λx d=>by
   have g:x≠a:=λe=>h1 (e▸d)
   exact(Gm g).2 (h x (fw _ d))) (by
   rw[De b];simp only[dh] at hl
   omega)
  exact(this.cons a).trans (List.perm_cons_erase b).symm
def seg (row:AH) (a b:Int):AH:=(List.range (b-a).toNat).map λt:Nat=>rd row (a+t)
theorem aQo (row:AH) (a b:Int):(seg row a b).length=(b-a).toNat:=by simp[seg]
theorem QL {x:Int}:x∈seg row a b↔ ∃q,a<=q/\q<b/\rd row q=x:=by
 unfold seg;rw[gq];constructor
 ·rintro ⟨t,d,rfl⟩;have:=jr.1 d;exact⟨a+t,G,G,rfl⟩
 rintro ⟨q,h1,e,rfl⟩;exact⟨(q-a).toNat,jr.2 G,by rw[show a+((q-a).toNat:Int)=q by omega]⟩
def Once (row:AH):Prop:= ∀q r:Int,0<=q->q<row.length->0<=r->r<row.length->0<=rd row q->rd row q=rd row r->q=r
theorem ZK (h:Once row) (k:0<=a) (hb:b<=row.length) (hp: ∀q,a<=q->q<b->0<=rd row q):(seg row a b).Nodup:=by
 unfold seg;refine iv.2 (mh (λ{x y} g i d e=> ?_) xm);have l:=jr.1 g;have j:=jr.1 i;have:=h (a+x) (a+y) G G G G (hp _ G G) e;exact d G
end
section
variable (s:AH) (k:Int)
def st (c:Int):Int:=ps (gF s k) c
def PK (c:Int):AH:=(iota s.length).filter λp=>decide (rd s p=c) && !smB s p
def PI (c:Int):AH:=(iota s.length).filter λp=>decide (rd s p=c) && smB s p
end
section
variable {s:AH} {k:Int}
section
variable {c p d q:Int}
theorem VC:p∈PK s c↔isL s p/\rd s p=c:=by
 unfold PK isL;rw[qb,aY,lv,iy];simp only[Bool.not_eq_true'];exact⟨λ⟨a,b,c⟩=>⟨⟨a,c⟩,b⟩,λ⟨⟨a,c⟩,b⟩=>⟨a,b,c⟩⟩
theorem VB:p∈PI s c↔isS s p/\rd s p=c:=by
 unfold PI isS;rw[qb,aY,lv,iy];exact⟨λ⟨a,b,c⟩=>⟨⟨a,c⟩,b⟩,λ⟨⟨a,c⟩,b⟩=>⟨a,b,c⟩⟩
theorem bJs:st s k 0=0:=rfl
theorem oU (s:AH):(iota s.length).map (rd s)=s:=by
 refine bP (by rw[bn,bI]) λj a h1=> ?_;rw[bn,bI] at h1;have:(iota s.length).map (rd s)=(List.range s.length).map λi:Nat=>rd s i:=by unfold iota;rw[qp];rfl
 rw[this,jU a h1,show((j.toNat:Nat):Int)=j by omega]
theorem nE (b:0<=c) (h:c<k):st s k (c+1)=st s k c+(PK s c).length+(PI s c).length:=by
 unfold st;rw[nY b (by rw[fG];omega),JO b h]
 have e:(s.filter λx=>decide (x=c)).length=((iota s.length).filter λp=>decide (rd s p=c)).length:=by
  conv=>lhs;rw[<-oU s]
  rw[List.filter_map,bn];rfl
 have d:((iota s.length).filter λp=>decide (rd s p=c)).length=(PK s c).length+(PI s c).length:=by
  unfold PK PI;generalize iota s.length=l
  induction l with
  |nil=>rfl
  | cons a l ih=>
   by_cases h:rd s a=c
   ·cases hb:smB s a with
    |true=>rw[qd (by simpa using h),mf (by simp[hb]),qd (by simp[h,hb])];simp only[dh];omega
    |false=>rw[qd (by simpa using h),qd (by simp[h,hb]),mf (by simp[hb])];simp only[dh];omega
   rw [mf (by simpa using h),mf (by simp[h]),mf (by simp[h])];exact ih
 rw[e,d];omega
theorem nG (b:0<=c) (a:c<d) (g:d<=k):st s k (c+1)<=st s k d:=by
 obtain⟨m,rfl⟩: ∃m:Nat,d=c+1+m:=⟨(d-c-1).toNat,G⟩
 induction m with
 |zero=>simp
 |succ m ih=>
  have:=ih G G;have e:=nE (s:=s) (k:=k) (c:=c+1+m) G G;rw[show c+1+((m+1:Nat):Int)=c+1+m+1 by omega];omega
theorem iF:0<=st s k c:=(BA (oW s k) c).1
theorem aLq (hk:0<=k) (hs: ∀x∈s,0<=x/\x<k):st s k k=s.length:=by
 unfold st;rw[aMu (by rw[fG];omega)]
 have:=WJ (order:=iota s.length) (keys:=s) (k:=k) hk λi hi=>by
  have:=aY.1 hi;exact hs _ (bM this.1 this.2)
 rw[oU,bI] at this;exact this
theorem FJ (hk:0<=k) (hs: ∀x∈s,0<=x/\x<k) (b:0<=c) (h:c<=k):st s k c<=s.length:=by
 rcases bz c k with a|a
 ·have h1:=nE (s:=s) b a;have d:=nG (s:=s) b a (ni k);rw[aLq hk hs] at d;omega
 rw [show c=k by omega,aLq hk hs];omega
theorem jE (hk:0<=k) (hs: ∀x∈s,0<=x/\x<k) (e:0<=q) (b:q<s.length): ∃c,(0<=c/\c<k)/\st s k c<=q/\q<st s k (c+1):=by
 have gen: ∀m:Nat,(m:Int)<=k->q<st s k m-> ∃c,(0<=c/\c<k)/\st s k c<=q/\q<st s k (c+1):=by
  intro m
  induction m with
  |zero=>intro _ h;rw[show((0:Nat):Int)=0 from rfl,bJs] at h;omega
  |succ m ih=>
   intro d h;rcases bz q (st s k m) with a|a
   ·exact ih G a
   exact⟨m,G,a,by rw[show((m:Int)+1)=((m+1:Nat):Int) by omega];exact h⟩
 have:=gen k.toNat G;rw[show((k.toNat:Nat):Int)=k by omega,aLq hk hs] at this;exact this b
theorem rF (c0:0<=c) (b:c<k) (d0:0<=d) (e:d<k) (h1:st s k c<=q) (g:q<st s k (c+1)) (h:st s k d<=q) (i:q<st s k (d+1)):c=d:=by
 rcases jf c d with a|a|a
 ·have:=nG (s:=s) c0 a (by omega:d<=k);omega
 ·exact a
 have:=nG (s:=s) d0 a (by omega:c<=k);omega
end
end
end Go.Pure
namespace Go.Pure
open Go Go.Eng
section
variable {s:AH} {k:Int} {R:Int->Int->Prop}
structure bIs (s:AH) (R:Int->Int->Prop):Prop where
 char: ∀ {p q:Int},0<=p/\p<s.length->0<=q/\q<s.length->rd s p<rd s q->R p q
 ls: ∀ {p q:Int},isL s p->isS s q->rd s p=rd s q->R p q
 last: ∀ {q:Int},0<s.length->0<=q->q+1<s.length->rd s (s.length-1)=rd s q->isL s q->R (s.length-1) q
 backL: ∀ {p q:Int},isL s p->isL s q->p+1<s.length->q+1<s.length->rd s p=rd s q->R (p+1) (q+1)->R p q
structure zL (s:AH) (k:Int) (R:Int->Int->Prop) (mF:Int->Int) (row:AH):Prop where
 len:row.length=s.length
 m0: ∀c,0<=c->c<k->0<=mF c/\mF c<=(PI s c).length
 some_: ∀c q,0<=c->c<k->st s k (c+1)-mF c<=q->q<st s k (c+1)->isS s (rd row q)/\rd s (rd row q)=c
 none_: ∀c q,0<=c->c<k->st s k c<=q->q<st s k (c+1)-mF c->rd row q= -1
 once:Once row
 all: ∀p:Int,0<=p->p<s.length->iU s p=true-> ∃q:Int,0<=q/\q<s.length/\rd row q=p
 sorted: ∀a b:Int,0<=a->a<b->b<s.length->0<=rd row a->0<=rd row b->R (rd row a) (rd row b)
structure lJ (s:AH) (k:Int) (R:Int->Int->Prop) (mF:Int->Int) (row0 row H:AH) (C:Int->Prop):Prop where
 len:row.length=s.length
 hlen:H.length=k.toNat
 hH: ∀c,0<=c->c<k->st s k c<=rd H c/\rd H c<=st s k c+(PK s c).length
 placed: ∀c q,0<=c->c<k->st s k c<=q->q<rd H c->isL s (rd row q)/\rd s (rd row q)=c
 rest: ∀c q,0<=c->c<k->rd H c<=q->q<st s k (c+1)->rd row q=rd row0 q
 once:Once row
 closed: ∀p,isL s p->((∃q:Int,0<=q/\q<s.length/\rd row q=p)↔C p)
 sorted: ∀a b:Int,0<=a->a<b->b<s.length->0<=rd row a->0<=rd row b->R (rd row a) (rd row b)
variable (hk:0<=k) (hs: ∀x∈s,0<=x/\x<k) (hR:bIs s R)
theorem qJ (hs: ∀x∈s,0<=x/\x<k) {p:Int} (h:0<=p/\p<s.length):0<=rd s p/\rd s p<k:=hs _ (bM h.1 h.2)
variable {mF:Int->Int} {row0 row H:AH} {C:Int->Prop}
section
variable {c q p i:Int}
theorem lJ.at_ (h:lJ s k R mF row0 row H C) (b:zL s k R mF row0) (c0:0<=c) (e:c<k) (h1:st s k c<=q) (g:q<st s k (c+1)):
  (q<rd H c/\isL s (rd row q)/\rd s (rd row q)=c)\/(rd H c<=q/\isS s (rd row q)/\rd s (rd row q)=c)\/(rd H c<=q/\rd row q= -1):=by
 rcases bz q (rd H c) with a|a
 ·exact .inl ⟨a,h.placed c q c0 e h1 a⟩
 rw [h.rest c q c0 e a g];rcases bz q (st s k (c+1)-mF c) with d|d
 ·exact .inr (.inr ⟨a,b.none_ c q c0 e h1 d⟩)
 exact .inr (.inl ⟨a,b.some_ c q c0 e d g⟩)
include hk hs in
theorem lJ.entry (h:lJ s k R mF row0 row H C) (b:zL s k R mF row0) (i:0<=q) (g:q<s.length):rd row q= -1\/(0<=rd row q/\rd row q<s.length):=by
 obtain⟨c,⟨c0,d⟩,h1,e⟩:=jE hk hs i g;rcases h.at_ b c0 d h1 e with a|a|a
 ·exact .inr a.2.1.1
 ·exact .inr a.2.1.1
 exact .inl a.2
theorem PZ {b:zL s k R mF row0} (c0:0<=c) (a:c<k):st s k c+(PK s c).length<=st s k (c+1)-mF c:=by
 have:=nE (s:=s) c0 a;have:=b.m0 c c0 a;omega
include hk hs in
theorem lJ.room (h:lJ s k R mF row0 row H C) (b:zL s k R mF row0) (hp:isL s p) (hn: ¬ ∃q:Int,0<=q/\q<s.length/\rd row q=p):
  (st s k (rd s p)<=rd H (rd s p)/\rd H (rd s p)<st s k (rd s p)+(PK s (rd s p)).length)/\rd row (rd H (rd s p))= -1/\(0<=rd H (rd s p)/\rd H (rd s p)<s.length)/\rd H (rd s p)<st s k (rd s p+1):=by
 obtain⟨c0,a⟩:=qJ hs hp.1;have hH:=h.hH _ c0 a;have r:=PZ (b:=b) c0 a;have o:=FJ hk hs (c:=rd s p+1) G G;have l:=iF (s:=s) (k:=k) (c:=rd s p);have m:=b.m0 _ c0 a
 have ci:rd H (rd s p)<st s k (rd s p)+(PK s (rd s p)).length:=by
  have gs: ∀x∈p::seg row (st s k (rd s p)) (rd H (rd s p)),x∈PK s (rd s p):=by
   intro x d;rcases il.1 d with rfl|d
   ·exact VC.2 ⟨hp,rfl⟩
   obtain ⟨q,g,i,rfl⟩:=QL.1 d;exact VC.2 (h.placed _ q c0 a g i)
  have j:(p::seg row (st s k (rd s p)) (rd H (rd s p))).Nodup:=by
   refine xe.2 ⟨λd=> ?_,ZK h.once l (by rw[h.len];omega) λq g i=>(h.placed _ q c0 a g i).1.1.1⟩;obtain⟨q,g,i,e⟩:=QL.1 d;exact hn ⟨q,G,G,e⟩
  have:=rC j gs;rw[dh,aQo] at this;omega
 refine⟨⟨hH.1,ci⟩,?_,⟨G,G⟩,G⟩;rw[h.rest _ _ c0 a (ni _) G,b.none_ _ _ c0 a hH.1 G]
include hk hs hR in
theorem lJ.lay (h:lJ s k R mF row0 row H C) (b:zL s k R mF row0) {K:Int->Prop} (hp:isL s p) (hn: ¬ ∃q:Int,0<=q/\q<s.length/\rd row q=p) (mt: ∀p',isL s p'->(K p'↔C p'\/p'=p))
  (P: ∀p',isL s p'->rd s p'=rd s p->(∃q:Int,0<=q/\q<s.length/\rd row q=p')->R p' p):
  lJ s k R mF row0 (upd row (rd H (rd s p)) p) (upd H (rd s p) (rd H (rd s p)+1)) K:=by
 obtain⟨c0,L⟩:=qJ hs hp.1;obtain⟨⟨r1,r2⟩,X,⟨J,Y⟩,r6⟩:=h.room hk hs b hp hn;have l: ∀q,0<=q->rd (upd row (rd H (rd s p)) p) q=if q=rd H (rd s p) then p else rd row q:=λq j=>iQ J j (by rw[h.len];omega)
 have o: ∀c,0<=c->rd (upd H (rd s p) (rd H (rd s p)+1)) c=if c=rd s p then rd H (rd s p)+1 else rd H c:=λc Q=>iQ c0 Q (by rw[h.hlen];omega)
 have hex: ∀x:Int,0<=x->((∃q:Int,0<=q/\q<s.length/\rd (upd row (rd H (rd s p)) p) q=x)↔((∃q:Int,0<=q/\q<s.length/\rd row q=x)\/x=p)):=by
  intro x v;constructor
  ·rintro ⟨q,j,g,e⟩;rw[l q j] at e;split at e
   ·exact .inr e.symm
   exact .inl ⟨q,j,g,e⟩
  rintro (⟨q,j,g,e⟩|rfl)
  ·refine ⟨q,j,g,?_⟩;rw[l q j,bq,e];intro d;rw[d,X] at e;omega
  exact⟨_,J,Y,by rw[l _ J,cz rfl]⟩
 refine⟨by rw[aW];exact h.len,by rw[aW];exact h.hlen,λc d0 i=> ?_,λc q d0 i g m=> ?_,λc q d0 i g m=> ?_,λq r j g t0 t1 B e=> ?_,λp' A=> ?_,λx y x0 xy N v w=> ?_⟩
 ·have:=h.hH c d0 i;rw[o c d0];split
  ·rename_i e;subst e;omega
  exact this
 ·have F:0<=q:=by have:=iF (s:=s) (k:=k) (c:=c);omega
  rw[o c d0] at m;rw[l q F];by_cases e:q=rd H (rd s p)
  ·rw [cz e]
   have hc:c=rd s p:=by
    by_cases d:c=rd s p
    ·exact d
    rw [bq d] at m;have:=h.hH c d0 i;have hr:=PZ (b:=b) d0 i;have:=b.m0 c d0 i;exact rF (s:=s) d0 i c0 L g G G G
   exact⟨hp,hc.symm⟩
  rw [bq e];refine h.placed c q d0 i g ?_;by_cases d:c=rd s p
  ·rw[cz d] at m;subst d;omega
  rw[bq d] at m;exact m
 ·rw [o c d0] at g;have T:=h.hH c d0 i
  have F:0<=q:=by
   have:=iF (s:=s) (k:=k) (c:=c);by_cases d:c=rd s p
   ·rw[cz d] at g;subst d;omega
   rw[bq d] at g;omega
  rw[l q F];by_cases d:c=rd s p
  ·rw [cz d] at g;rw[bq G];subst d;exact h.rest _ q d0 i G m
  rw [bq d] at g;rw[bq,h.rest c q d0 i g m];intro e;exact d (rF (s:=s) d0 i c0 L G m G G)
 ·rw [aW,h.len] at g t1;rw[l q j] at B e;rw[l r t0] at e;by_cases u:q=rd H (rd s p)
  ·rw [cz u] at e;by_cases d:r=rd H (rd s p)
   ·omega
   rw [bq d] at e;exact absurd ⟨r,t0,t1,e.symm⟩ hn
  rw [bq u] at e B;by_cases d:r=rd H (rd s p)
  ·rw [cz d] at e;exact absurd ⟨q,j,g,e⟩ hn
  rw [bq d] at e;exact h.once q r j (by rw[h.len];exact g) t0 (by rw[h.len];exact t1) B e
 ·rw[hex p' A.1.1,h.closed p' A,mt p' A]
 have key: ∀z:Int,0<=z->z<s.length->0<=rd row z->(z<rd H (rd s p)->R (rd row z) p)/\(rd H (rd s p)<z->R p (rd row z)):=by
  intro z z0 O D;obtain⟨c,⟨d0,i⟩,h1,S⟩:=jE hk hs z0 O;have g7:=h.at_ b d0 i h1 S
  have M:0<=rd row z/\rd row z<s.length:=by
   rcases g7 with a|a|a
   ·exact a.2.1.1
   ·exact a.2.1.1
   rw[a.2] at D;omega
  have Lg:rd s (rd row z)=c:=by
   rcases g7 with a|a|a
   ·exact a.2.2
   ·exact a.2.2
   rw[a.2] at D;omega
  refine⟨λci=> ?_,λci=> ?_⟩
  ·rcases jf c (rd s p) with e|e|e
   ·exact hR.char M hp.1 G
   ·subst e;rcases g7 with a|a|a
    ·exact P _ a.2.1 a.2.2 ⟨z,z0,O,rfl⟩
    ·omega
    omega
   have:=nG (s:=s) c0 e (by omega:c<=k);omega
  rcases jf c (rd s p) with e|e|e
  ·have:=nG (s:=s) d0 e (by omega:rd s p<=k);omega
  ·subst e;rcases g7 with a|a|a
   ·omega
   ·exact hR.ls hp a.2.1 a.2.2.symm
   rw[a.2] at D;omega
  exact hR.char hp.1 M G
 rw[l x x0] at v ⊢;rw[l y G] at w ⊢;by_cases u:x=rd H (rd s p)
 ·rw [cz u,bq G];rw[bq G] at w;exact(key y G N w).2 G
 rw [bq u];rw[bq u] at v;by_cases d:y=rd H (rd s p)
 ·rw [cz d];exact(key x x0 G v).1 G
 rw [bq d];rw[bq d] at w;exact h.sorted x y x0 xy N v w
def CL (s row:AH) (i p:Int):Prop:=p=s.length-1\/ ∃q:Int,0<=q/\q<i/\rd row q=p+1
include hk hs hR in
theorem aHz (b:zL s k R mF row0) (hn:0<s.length) (hH:H.length=k.toNat) (g: ∀c,0<=c->c<k->rd H c=st s k c):
  lJ s k R mF row0 (upd row0 (rd H (rd s (s.length-1))) (s.length-1)) (upd H (rd s (s.length-1)) (rd H (rd s (s.length-1))+1)) (CL s (upd row0 (rd H (rd s (s.length-1))) (s.length-1)) 0):=by
 have i: ∀p,isL s p-> ¬ ∃q:Int,0<=q/\q<s.length/\rd row0 q=p:=by
  rintro p hp ⟨q,m,j,e⟩;obtain⟨c,⟨c0,a⟩,h1,r⟩:=jE hk hs m j;rcases bz q (st s k (c+1)-mF c) with d|d
  ·have:=b.none_ c q c0 a h1 d;have:=hp.1.1;omega
  have:=(b.some_ c q c0 a d r).1;rw[e] at this;exact hp.not_S this
 have o:lJ s k R mF row0 row0 H λ_=>False:=
  ⟨b.len,hH,λc c0 a=>by rw[g c c0 a];omega,λc q c0 a j u=>by rw[g c c0 a] at u;omega,λc q _ _ _ _=>rfl,b.once,λp hp=>iff_false_intro (i p hp),b.sorted⟩
 have hp:isL s (s.length-1):=⟨G,uL G G⟩;refine o.lay hk hs hR b hp (i _ hp) (λp' l=> ?_) λp' l _ hex=>absurd hex (i p' l);unfold CL;constructor
 ·rintro (e|⟨q,m,j,_⟩)
  ·exact .inr e
  omega
 rintro (h|e)
 ·exact h.elim
 exact .inl e
theorem aNn (h:lJ s k R mF row0 row H (CL s row i)) (hc: ¬(0<rd row i/\smB s (rd row i-1)=false)):lJ s k R mF row0 row H (CL s row (i+1)):=by
 refine⟨h.len,h.hlen,h.hH,h.placed,h.rest,h.once,λp hp=> ?_,h.sorted⟩;rw[h.closed p hp];unfold CL;refine or_congr_right ⟨λ⟨q,b,d,e⟩=>⟨q,b,G,e⟩,?_⟩;rintro⟨q,b,d,e⟩;rcases bz q i with a|a
 ·exact⟨q,b,a,e⟩
 exfalso;have:q=i:=G
 subst this;rw[e] at hc;have:=hp.1.1;exact hc ⟨G,by rw[show p+1-1=p by omega];exact hp.2⟩
include hk hs in
theorem aAo (h:lJ s k R mF row0 row H (CL s row i)) (b:zL s k R mF row0) (i0:0<=i) (hi:i<s.length) (hc:0<rd row i/\smB s (rd row i-1)=false):
  isL s (rd row i-1)/\(¬ ∃q:Int,0<=q/\q<s.length/\rd row q=rd row i-1)/\rd row i<s.length/\i<rd H (rd s (rd row i-1)):=by
 have p:=h.entry hk hs b i0 hi;have o:0<=rd row i/\rd row i<s.length:=G
 have hp:isL s (rd row i-1):=⟨G,hc.2⟩
 have hn: ¬ ∃q:Int,0<=q/\q<s.length/\rd row q=rd row i-1:=by
  intro hex;rcases(h.closed _ hp).1 hex with e|⟨q,q0,q1,e⟩
  ·omega
  have:=h.once q i q0 (by rw[h.len];omega) i0 (by rw[h.len];exact hi) G G;omega
 refine⟨hp,hn,o.2,?_⟩;obtain⟨c,⟨c0,g⟩,h1,l⟩:=jE hk hs i0 hi;obtain⟨d0,j⟩:=qJ hs hp.1;have d:=hp.next G;rw[show rd row i-1+1=rd row i by omega] at d;have m:=h.hH _ d0 j;rcases h.at_ b c0 g h1 l with a|a|a
 ·rcases bz c (rd s (rd row i-1)) with e|e
  ·have:=nG (s:=s) c0 e (by omega:rd s (rd row i-1)<=k);omega
  have:rd s (rd row i-1)=c:=G
  rw[this];exact a.1
 ·rcases bz c (rd s (rd row i-1)) with e|e
  ·have:=nG (s:=s) c0 e (by omega:rd s (rd row i-1)<=k);omega
  exact absurd a.2.1 (d.2 G).not_S
 omega
include hk hs hR in
theorem aNm (h:lJ s k R mF row0 row H (CL s row i)) (b:zL s k R mF row0) (i0:0<=i) (hi:i<s.length) (hc:0<rd row i/\smB s (rd row i-1)=false):
  lJ s k R mF row0 (upd row (rd H (rd s (rd row i-1))) (rd row i-1)) (upd H (rd s (rd row i-1)) (rd H (rd s (rd row i-1))+1)) (CL s (upd row (rd H (rd s (rd row i-1))) (rd row i-1)) (i+1)):=by
 obtain⟨hp,hn,u,ci⟩:=aAo hk hs h b i0 hi hc;have o:=h.room hk hs b hp hn;have j: ∀q,0<=q->rd (upd row (rd H (rd s (rd row i-1))) (rd row i-1)) q=if q=rd H (rd s (rd row i-1)) then rd row i-1 else rd row q:=λq d=>iQ o.2.2.1.1 d (by rw[h.len];exact o.2.2.1.2)
 refine h.lay hk hs hR b hp hn (λp' g=> ?_) λp' g m hex=> ?_
 ·unfold CL;constructor
  ·rintro (e|⟨q,d,l,e⟩)
   ·exact .inl (.inl e)
   rw [j q d,bq G] at e;rcases bz q i with a|a
   ·exact .inl (.inr ⟨q,d,a,e⟩)
   have:q=i:=G
   subst this;exact .inr G
  rintro ((e|⟨q,d,l,e⟩)|e)
  ·exact .inl e
  ·exact .inr ⟨q,d,G,by rw[j q d,bq G];exact e⟩
  exact .inr ⟨i,i0,G,by rw[j i i0,bq G];omega⟩
 have p:=hp.1;rcases(h.closed _ g).1 hex with e|⟨q,d,l,e⟩
 ·subst e;exact hR.last G G G m hp
 have h1:=h.entry hk hs b d G;have r:=g.1;have:=h.sorted q i d l hi G G;rw[e] at this;refine hR.backL g hp G G m ?_;rwa[show rd row i-1+1=rd row i by omega]
include hk hs in
theorem aAp (h:lJ s k R mF row0 row H (CL s row s.length)) (b:zL s k R mF row0): ∀(m:Nat) (p:Int),s.length-p<=m->isL s p-> ∃q:Int,0<=q/\q<s.length/\rd row q=p
 |0,p,hm,hp=>by have:=hp.1;omega
 | m +1,p,hm,hp=>by
  have hb:=hp.1;rw[h.closed p hp];rcases bz (p+1) s.length with a|a
  ·refine .inr ?_;rcases uU (s:=s) (p:=p+1) G with l|l
   ·exact aAp h b m (p+1) G l
   obtain ⟨q,i,j,e⟩:=b.all (p+1) G a (qG.2 ⟨G,l.2,by rw[show p+1-1=p by omega];exact hp.2⟩);refine⟨q,i,j,?_⟩;obtain⟨c,⟨c0,g⟩,h1,o⟩:=jE hk hs i j;have hH:=h.hH c c0 g;have r:=PZ (b:=b) c0 g;rw[h.rest c q c0 g ?_ o,e];rcases bz q (st s k (c+1)-mF c) with d|d
   ·have:=b.none_ c q c0 g h1 d;omega
   omega
  exact .inl G
end
end
end Go.Pure
namespace Go.Pure
open Go Go.Eng
section
variable {s:AH} {k:Int} {R:Int->Int->Prop}
structure bOd (s:AH) (R:Int->Int->Prop):Prop where
 char: ∀ {p q:Int},0<=p/\p<s.length->0<=q/\q<s.length->rd s p<rd s q->R p q
 ls: ∀ {p q:Int},isL s p->isS s q->rd s p=rd s q->R p q
 backS: ∀ {p q:Int},isS s p->isS s q->p+1<s.length->q+1<s.length->rd s p=rd s q->R (p+1) (q+1)->R p q
structure wI (s:AH) (k:Int) (R:Int->Int->Prop) (T:Int->Int) (row:AH):Prop where
 len:row.length=s.length
 t0: ∀c,0<=c->c<k->st s k c<=T c/\T c<=st s k c+(PK s c).length
 some_: ∀c q,0<=c->c<k->st s k c<=q->q<T c->isL s (rd row q)/\rd s (rd row q)=c
 none_: ∀c q,0<=c->c<k->T c<=q->q<st s k (c+1)->rd row q= -1
 once:Once row
 all: ∀p:Int,isL s p-> ∃q:Int,0<=q/\q<s.length/\rd row q=p
 sorted: ∀a b:Int,0<=a->a<b->b<s.length->0<=rd row a->0<=rd row b->R (rd row a) (rd row b)
structure lI (s:AH) (k:Int) (R:Int->Int->Prop) (T:Int->Int) (row3 row E:AH) (C:Int->Prop):Prop where
 len:row.length=s.length
 elen:E.length=k.toNat
 hE: ∀c,0<=c->c<k->st s k (c+1)-(PI s c).length<=rd E c/\rd E c<=st s k (c+1)
 placed: ∀c q,0<=c->c<k->rd E c<=q->q<st s k (c+1)->isS s (rd row q)/\rd s (rd row q)=c
 rest: ∀c q,0<=c->c<k->st s k c<=q->q<rd E c->rd row q=rd row3 q
 once:Once row
 closed: ∀p,isS s p->((∃q:Int,0<=q/\q<s.length/\rd row q=p)↔C p)
 sorted: ∀a b:Int,0<=a->a<b->b<s.length->0<=rd row a->0<=rd row b->R (rd row a) (rd row b)
variable (hk:0<=k) (hs: ∀x∈s,0<=x/\x<k) (hR:bOd s R)
variable {T:Int->Int} {row3 row E:AH} {C:Int->Prop}
section
variable {c q p i:Int}
theorem lI.at_ (h:lI s k R T row3 row E C) (b:wI s k R T row3) (c0:0<=c) (e:c<k) (h1:st s k c<=q) (g:q<st s k (c+1)):
  (rd E c<=q/\isS s (rd row q)/\rd s (rd row q)=c)\/(q<rd E c/\isL s (rd row q)/\rd s (rd row q)=c)\/(q<rd E c/\rd row q= -1):=by
 rcases bz q (rd E c) with a|a
 ·rw [h.rest c q c0 e h1 a];rcases bz q (T c) with d|d
  ·exact .inr (.inl ⟨a,b.some_ c q c0 e h1 d⟩)
  exact .inr (.inr ⟨a,b.none_ c q c0 e d g⟩)
 exact .inl ⟨a,h.placed c q c0 e a g⟩
include hk hs in
theorem lI.entry (h:lI s k R T row3 row E C) (b:wI s k R T row3) (i:0<=q) (g:q<s.length):rd row q= -1\/(0<=rd row q/\rd row q<s.length):=by
 obtain⟨c,⟨c0,d⟩,h1,e⟩:=jE hk hs i g;rcases h.at_ b c0 d h1 e with a|a|a
 ·exact .inr a.2.1.1
 ·exact .inr a.2.1.1
 exact .inl a.2
theorem SL {b:wI s k R T row3} (c0:0<=c) (a:c<k):T c<=st s k (c+1)-(PI s c).length:=by
 have:=nE (s:=s) c0 a;have:=b.t0 c c0 a;omega
include hk hs in
theorem lI.room (h:lI s k R T row3 row E C) (b:wI s k R T row3) (hp:isS s p) (hn: ¬ ∃q:Int,0<=q/\q<s.length/\rd row q=p):
  (st s k (rd s p+1)-(PI s (rd s p)).length<=rd E (rd s p)-1/\rd E (rd s p)<=st s k (rd s p+1))/\rd row (rd E (rd s p)-1)= -1/\(0<=rd E (rd s p)-1/\rd E (rd s p)-1<s.length)/\st s k (rd s p)<=rd E (rd s p)-1:=by
 obtain⟨c0,a⟩:=qJ hs hp.1;have hE:=h.hE _ c0 a;have u:=SL (b:=b) c0 a;have r:=FJ hk hs (c:=rd s p+1) G G;have m:=iF (s:=s) (k:=k) (c:=rd s p);have o:=b.t0 _ c0 a;have l:=nE (s:=s) c0 a
 have ci:st s k (rd s p+1)-(PI s (rd s p)).length<=rd E (rd s p)-1:=by
  have gs: ∀x∈p::seg row (rd E (rd s p)) (st s k (rd s p+1)),x∈PI s (rd s p):=by
   intro x d;rcases il.1 d with rfl|d
   ·exact VB.2 ⟨hp,rfl⟩
   obtain ⟨q,g,i,rfl⟩:=QL.1 d;exact VB.2 (h.placed _ q c0 a g i)
  have j:(p::seg row (rd E (rd s p)) (st s k (rd s p+1))).Nodup:=by
   refine xe.2 ⟨λd=> ?_,ZK h.once G (by rw[h.len];omega) λq g i=>(h.placed _ q c0 a g i).1.1.1⟩;obtain⟨q,g,i,e⟩:=QL.1 d;exact hn ⟨q,G,G,e⟩
  have:=rC j gs;rw[dh,aQo] at this;omega
 refine⟨⟨ci,hE.2⟩,?_,⟨G,G⟩,G⟩;rw[h.rest _ _ c0 a G G,b.none_ _ _ c0 a G G]
include hk hs hR in
theorem lI.lay (h:lI s k R T row3 row E C) (b:wI s k R T row3) {J:Int->Prop} (hp:isS s p) (hn: ¬ ∃q:Int,0<=q/\q<s.length/\rd row q=p) (mt: ∀p',isS s p'->(J p'↔C p'\/p'=p))
  (O: ∀p',isS s p'->rd s p'=rd s p->(∃q:Int,0<=q/\q<s.length/\rd row q=p')->R p p'):
  lI s k R T row3 (upd row (rd E (rd s p)-1) p) (upd E (rd s p) (rd E (rd s p)-1)) J:=by
 obtain⟨c0,K⟩:=qJ hs hp.1;obtain⟨⟨r1,r2⟩,Y,⟨H,r5⟩,r6⟩:=h.room hk hs b hp hn;have l: ∀q,0<=q->rd (upd row (rd E (rd s p)-1) p) q=if q=rd E (rd s p)-1 then p else rd row q:=λq j=>iQ H j (by rw[h.len];omega)
 have w: ∀c,0<=c->rd (upd E (rd s p) (rd E (rd s p)-1)) c=if c=rd s p then rd E (rd s p)-1 else rd E c:=λc Q=>iQ c0 Q (by rw[h.elen];omega)
 have hex: ∀x:Int,0<=x->((∃q:Int,0<=q/\q<s.length/\rd (upd row (rd E (rd s p)-1) p) q=x)↔((∃q:Int,0<=q/\q<s.length/\rd row q=x)\/x=p)):=by
  intro x u;constructor
  ·rintro ⟨q,j,g,e⟩;rw[l q j] at e;split at e
   ·exact .inr e.symm
   exact .inl ⟨q,j,g,e⟩
  rintro (⟨q,j,g,e⟩|rfl)
  ·refine ⟨q,j,g,?_⟩;rw[l q j,bq,e];intro d;rw[d,Y] at e;omega
  exact⟨_,H,r5,by rw[l _ H,cz rfl]⟩
 refine⟨by rw[aW];exact h.len,by rw[aW];exact h.elen,λc d0 i=> ?_,λc q d0 i g m=> ?_,λc q d0 i g m=> ?_,λq r j g t0 t1 B e=> ?_,λp' A=> ?_,λx y x0 xy M u v=> ?_⟩
 ·have:=h.hE c d0 i;rw[w c d0];split
  ·rename_i e;subst e;omega
  exact this
 ·rw [w c d0] at g;have P:=h.hE c d0 i;have X:=nE (s:=s) d0 i
  have F:0<=q:=by
   have:=iF (s:=s) (k:=k) (c:=c);by_cases d:c=rd s p
   ·rw[cz d] at g;omega
   rw[bq d] at g;omega
  rw[l q F];by_cases e:q=rd E (rd s p)-1
  ·rw [cz e]
   have hc:c=rd s p:=by
    by_cases d:c=rd s p
    ·exact d
    rw [bq d] at g;exact rF (s:=s) d0 i c0 K G m G G
   exact⟨hp,hc.symm⟩
  rw [bq e];refine h.placed c q d0 i ?_ m;by_cases d:c=rd s p
  ·rw[cz d] at g;subst d;omega
  rw[bq d] at g;exact g
 ·rw [w c d0] at m;have P:=h.hE c d0 i;have F:0<=q:=by have:=iF (s:=s) (k:=k) (c:=c);omega
  rw[l q F];by_cases d:c=rd s p
  ·rw [cz d] at m;rw[bq G];subst d;exact h.rest _ q d0 i g G
  rw [bq d] at m;rw[bq,h.rest c q d0 i g m];intro e;exact d (rF (s:=s) d0 i c0 K g G G G)
 ·rw [aW,h.len] at g t1;rw[l q j] at B e;rw[l r t0] at e;by_cases o:q=rd E (rd s p)-1
  ·rw [cz o] at e;by_cases d:r=rd E (rd s p)-1
   ·omega
   rw [bq d] at e;exact absurd ⟨r,t0,t1,e.symm⟩ hn
  rw [bq o] at e B;by_cases d:r=rd E (rd s p)-1
  ·rw [cz d] at e;exact absurd ⟨q,j,g,e⟩ hn
  rw [bq d] at e;exact h.once q r j (by rw[h.len];exact g) t0 (by rw[h.len];exact t1) B e
 ·rw[hex p' A.1.1,h.closed p' A,mt p' A]
 have key: ∀z:Int,0<=z->z<s.length->0<=rd row z->(z<rd E (rd s p)-1->R (rd row z) p)/\(rd E (rd s p)-1<z->R p (rd row z)):=by
  intro z z0 N D;obtain⟨c,⟨d0,i⟩,h1,S⟩:=jE hk hs z0 N;have g7:=h.at_ b d0 i h1 S
  have L:0<=rd row z/\rd row z<s.length:=by
   rcases g7 with a|a|a
   ·exact a.2.1.1
   ·exact a.2.1.1
   rw[a.2] at D;omega
  have Lg:rd s (rd row z)=c:=by
   rcases g7 with a|a|a
   ·exact a.2.2
   ·exact a.2.2
   rw[a.2] at D;omega
  refine⟨λci=> ?_,λci=> ?_⟩
  ·rcases jf c (rd s p) with e|e|e
   ·exact hR.char L hp.1 G
   ·subst e;rcases g7 with a|a|a
    ·omega
    ·exact hR.ls a.2.1 hp a.2.2
    rw[a.2] at D;omega
   have:=nG (s:=s) c0 e (by omega:c<=k);omega
  rcases jf c (rd s p) with e|e|e
  ·have:=nG (s:=s) d0 e (by omega:rd s p<=k);omega
  ·subst e;rcases g7 with a|a|a
   ·exact O _ a.2.1 a.2.2 ⟨z,z0,N,rfl⟩
   ·omega
   omega
  exact hR.char hp.1 L G
 rw[l x x0] at u ⊢;rw[l y G] at v ⊢;by_cases o:x=rd E (rd s p)-1
 ·rw [cz o,bq G];rw[bq G] at v;exact(key y G M v).2 G
 rw [bq o];rw[bq o] at u;by_cases d:y=rd E (rd s p)-1
 ·rw [cz d];exact(key x x0 G u).1 G
 rw [bq d];rw[bq d] at v;exact h.sorted x y x0 xy M u v
def CS (s row:AH) (i p:Int):Prop:= ∃q:Int,i<=q/\q<s.length/\rd row q=p+1
theorem aFy (b:wI s k R T row3) (hE:E.length=k.toNat) (g: ∀c,0<=c->c<k->rd E c=st s k (c+1)) (i: ∀q:Int,0<=q->q<s.length-> ¬isS s (rd row3 q)):lI s k R T row3 row3 E (CS s row3 s.length):=
 ⟨b.len,hE,λc c0 d=>by rw[g c c0 d];omega,λc q c0 d a j=>by rw[g c c0 d] at a;omega,λc q _ _ _ _=>rfl,b.once,λp hp=>⟨λ⟨q,h,a,e⟩=>absurd (by rw[e];exact hp) (i q h a),λ⟨q,h,a,_⟩=>G⟩,b.sorted⟩
theorem aLy (h:lI s k R T row3 row E (CS s row (i+1))) (hc: ¬(0<rd row i/\smB s (rd row i-1)=true)):lI s k R T row3 row E (CS s row i):=by
 refine⟨h.len,h.elen,h.hE,h.placed,h.rest,h.once,λp hp=> ?_,h.sorted⟩;rw[h.closed p hp];unfold CS;refine⟨λ⟨q,d,b,e⟩=>⟨q,G,b,e⟩,?_⟩;rintro⟨q,d,b,e⟩;rcases bz i q with a|a
 ·exact⟨q,G,b,e⟩
 exfalso;have:q=i:=G
 subst this;rw[e] at hc;have:=hp.1.1;exact hc ⟨G,by rw[show p+1-1=p by omega];exact hp.2⟩
include hk hs in
theorem ZI (h:lI s k R T row3 row E (CS s row (i+1))) (b:wI s k R T row3) (i0:0<=i) (hi:i<s.length) (hc:0<rd row i/\smB s (rd row i-1)=true):
  isS s (rd row i-1)/\(¬ ∃q:Int,0<=q/\q<s.length/\rd row q=rd row i-1)/\rd row i<s.length/\rd E (rd s (rd row i-1))-1<i:=by
 have r:=h.entry hk hs b i0 hi;have o:0<=rd row i/\rd row i<s.length:=G
 have hp:isS s (rd row i-1):=⟨G,hc.2⟩
 have hn: ¬ ∃q:Int,0<=q/\q<s.length/\rd row q=rd row i-1:=by
  intro hex;obtain⟨q,u,v,e⟩:=(h.closed _ hp).1 hex;have:=h.once q i G (by rw[h.len];omega) i0 (by rw[h.len];exact hi) G G;omega
 refine⟨hp,hn,o.2,?_⟩;obtain⟨c,⟨c0,g⟩,h1,l⟩:=jE hk hs i0 hi;obtain⟨d0,j⟩:=qJ hs hp.1;obtain⟨_,p,d⟩:=hp.next;rw[show rd row i-1+1=rd row i by omega] at p d;have m:=h.hE _ d0 j;rcases h.at_ b c0 g h1 l with a|a|a
 ·rcases bz (rd s (rd row i-1)) c with e|e
  ·have:=nG (s:=s) d0 e (by omega:c<=k);omega
  have:rd s (rd row i-1)=c:=G
  rw[this];omega
 ·rcases bz (rd s (rd row i-1)) c with e|e
  ·have:=nG (s:=s) d0 e (by omega:c<=k);omega
  exact absurd (d G) a.2.1.not_S
 omega
include hk hs hR in
theorem aLx (h:lI s k R T row3 row E (CS s row (i+1))) (b:wI s k R T row3) (i0:0<=i) (hi:i<s.length) (hc:0<rd row i/\smB s (rd row i-1)=true):
  lI s k R T row3 (upd row (rd E (rd s (rd row i-1))-1) (rd row i-1)) (upd E (rd s (rd row i-1)) (rd E (rd s (rd row i-1))-1)) (CS s (upd row (rd E (rd s (rd row i-1))-1) (rd row i-1)) i):=by
 obtain⟨hp,hn,u,ci⟩:=ZI hk hs h b i0 hi hc;have m:=h.room hk hs b hp hn;have l: ∀q,0<=q->rd (upd row (rd E (rd s (rd row i-1))-1) (rd row i-1)) q=if q=rd E (rd s (rd row i-1))-1 then rd row i-1 else rd row q:=λq j=>iQ m.2.2.1.1 j (by rw[h.len];exact m.2.2.1.2)
 refine h.lay hk hs hR b hp hn (λp' g=> ?_) λp' g o hex=> ?_
 ·unfold CS;constructor
  ·rintro ⟨q,j,d,e⟩;rw[l q G,bq G] at e;rcases bz i q with a|a
   ·exact .inl ⟨q,G,d,e⟩
   have:q=i:=G
   subst this;exact .inr G
  rintro (⟨q,j,d,e⟩|e)
  ·exact⟨q,G,d,by rw[l q G,bq G];exact e⟩
  exact⟨i,G,hi,by rw[l i i0,bq G];omega⟩
 have p:=hp.1;obtain⟨q,j,d,e⟩:=(h.closed _ g).1 hex;have h1:=h.entry hk hs b (q:=q) G d;have r:=g.1;have:=h.sorted i q i0 G d G G;rw[e] at this;refine hR.backS hp g G G o.symm ?_;rwa[show rd row i-1+1=rd row i by omega]
include hk hs in
theorem ZJ (h:lI s k R T row3 row E (CS s row 0)) (b:wI s k R T row3): ∀(m:Nat) (p:Int),s.length-p<=m->isS s p-> ∃q:Int,0<=q/\q<s.length/\rd row q=p
 |0,p,hm,hp=>by have:=hp.1;omega
 | m+1,p,hm,hp=>by
  have hb:=hp.1;rw[h.closed p hp];obtain⟨a,_,_⟩:=hp.next;rcases uU (s:=s) (p:=p+1) G with l|l
  ·obtain ⟨q,i,j,e⟩:=b.all (p+1) l;refine⟨q,i,j,?_⟩;obtain⟨c,⟨c0,g⟩,h1,o⟩:=jE hk hs i j;have hE:=h.hE c c0 g;have r:=SL (b:=b) c0 g;rw[h.rest c q c0 g h1 ?_,e];rcases bz q (T c) with d|d
   ·omega
   have:=b.none_ c q c0 g d o;omega
  exact ZJ h b m (p+1) G l
include hk hs in
theorem aHy (h:lI s k R T row3 row E C) (b:wI s k R T row3) (hp:isL s p): ∃q:Int,0<=q/\q<s.length/\rd row q=p:=by
 obtain⟨q,g,i,e⟩:=b.all p hp;refine⟨q,g,i,?_⟩;obtain⟨c,⟨c0,a⟩,h1,j⟩:=jE hk hs g i;have hE:=h.hE c c0 a;have l:=SL (b:=b) c0 a;have hb:=hp.1;rw[h.rest c q c0 a h1 ?_,e];rcases bz q (T c) with d|d
 ·omega
 have:=b.none_ c q c0 a d j;omega
include hk hs in
theorem KD (h:lI s k R T row3 row E (CS s row 0)) (b:wI s k R T row3):row.Perm (iota s.length)/\(∀q:Int,0<=q->q+1<s.length->rd s (rd row q)<=rd s (rd row (q+1)))/\row.Pairwise R:=by
 have C: ∀p:Int,0<=p/\p<s.length-> ∃q:Int,0<=q/\q<s.length/\rd row q=p:=λp hp=>by
  rcases uU hp with l|l
  ·exact aHy hk hs h b l
  exact ZJ hk hs h b (s.length-p).toNat p G l
 have A:(iota s.length).Perm row:=uP (fV _) (λx j=>by
  obtain⟨q,g,i,rfl⟩:=C x (aY.1 j)
  exact bM g (by rw[h.len];exact i)) (by rw[h.len,bI];exact dn _)
 have o: ∀q:Int,0<=q->q<s.length->0<=rd row q/\rd row q<s.length:=λq g i=>aY.1 (A.symm.subset (bM g (by rw[h.len];exact i)))
 have u: ∀c q:Int,0<=c->c<k->st s k c<=q->q<st s k (c+1)->0<=q->q<s.length->rd s (rd row q)=c:=λc q c0 m h1 r g i=>by
  have hp:=o q g i;rcases h.at_ b c0 m h1 r with a|a|a
  ·exact a.2.2
  ·exact a.2.2
  omega
 refine⟨A.symm,λq g i=> ?_,?_⟩
 ·obtain ⟨c,⟨c0,m⟩,h1,r⟩:=jE hk hs g G;obtain⟨d,⟨d0,B⟩,D,F⟩:=jE hk hs (q:=q+1) G i;rw[u c q c0 m h1 r g G,u d (q+1) d0 B D F G i];rcases bz d c with e|e
  ·have:=nG (s:=s) d0 e (by omega:c<=k);omega
  exact e
 refine dz.2 λx y j v H=> ?_
 have e: ∀z (w:z<row.length),rd row z=row[z]:=λz w=>by
  unfold rd;rw[bu,af,au w];rfl
 rw[h.len] at j v;have:=h.sorted x y G G G (o x G G).1 (o y G G).1;rwa[e x (by rw[h.len];exact j),e y (by rw[h.len];exact v)] at this
end
end
end Go.Pure
namespace Go.Pure
open Go Go.Eng
section
variable {s:AH} {k:Int}
section
variable {l keys:AH} {j c:Int}
structure CY (s:AH) (k:Int) (l:AH) (row E:AH):Prop where
 len:row.length=s.length
 elen:E.length=k.toNat
 hE: ∀c,0<=c->c<k->rd E c=st s k (c+1)-(fE l s c).length
 vals: ∀c u:Int,0<=c->c<k->0<=u->u<(fE l s c).length->rd row (rd E c+u)=rd (fE l s c) u
 none_: ∀c q,0<=c->c<k->st s k c<=q->q<rd E c->rd row q= -1
def mR (s l:AH):Prop:=l.Nodup/\ ∀j∈l,(0<=j/\j<s.length)/\iU s j=true
theorem nC (h:l.Perm (bX s)):mR s l:=⟨h.symm.nodup (GU s),λj a=>xN.1 (h.subset a)⟩
theorem mR.tail (h:mR s (j::l)):mR s l:=⟨(xe.1 h.1).2,λx a=>h.2 x (fw _ a)⟩
theorem mR.small (h:mR s l) (a:j∈l):isS s j:=⟨(h.2 j a).1,(qG.1 (h.2 j a).2).2.1⟩
theorem BD (h:mR s l) (c:Int):(fE l s c).length<=(PI s c).length:=
 rC (h.1.sublist ve) λx b=>by
  obtain⟨h1,a⟩:=qb.1 b;rw[iy] at a;exact VB.2 ⟨h.small h1,a⟩
theorem sK (h:rd keys j=c):fE (j::l) keys c=j::fE l keys c:=by
 unfold fE;rw[qd (by simpa using h)]
theorem xM (h:rd keys j≠c):fE (j::l) keys c=fE l keys c:=by
 unfold fE;rw[mf (by simpa using h)]
theorem aNz (hk:0<=k) (hs: ∀x∈s,0<=x/\x<k) {E:AH} (hE:E.length=k.toNat) (b: ∀c,0<=c->c<k->rd E c=st s k (c+1)):CY s k [] (List.replicate s.length (-1)) E:=by
 refine⟨cD,hE,λc c0 a=>by rw[b c c0 a];simp[fE],λc u _ _ _ hu=>by simp[fE] at hu;omega,λc q c0 a h1 d=> ?_⟩;rw[b c c0 a] at d;have e:=iF (s:=s) (k:=k) (c:=c);have g:=FJ hk hs (c:=c+1) G G;unfold rd;rw[af,ze,cz G];rfl
end
variable {row E:AH} {l:AH} {j:Int}
section
variable {i:Int} {R:Int->Int->Prop}
theorem CY.room (hk:0<=k) (hs: ∀x∈s,0<=x/\x<k) (h:CY s k l row E) (ok:mR s (j::l)):st s k (rd s j)<=rd E (rd s j)-1/\(0<=rd E (rd s j)-1/\rd E (rd s j)-1<s.length)/\(0<=rd s j/\rd s j<k)/\rd E (rd s j)<=st s k (rd s j+1):=by
 have b:=ok.2 j cD;obtain⟨c0,a⟩:=qJ hs b.1;have h1:=BD ok (rd s j);rw[sK rfl,dh] at h1;have d:=nE (s:=s) c0 a;have e:=h.hE _ c0 a;have g:=iF (s:=s) (k:=k) (c:=rd s j);have i:=FJ hk hs (c:=rd s j+1) G G;omega
theorem CY.step (hk:0<=k) (hs: ∀x∈s,0<=x/\x<k) (h:CY s k l row E) (ok:mR s (j::l)):CY s k (j::l) (upd row (rd E (rd s j)-1) j) (upd E (rd s j) (rd E (rd s j)-1)):=by
 obtain⟨r1,⟨r2,C⟩,⟨c0,b⟩,D⟩:=h.room hk hs ok;have m: ∀q,0<=q->rd (upd row (rd E (rd s j)-1) j) q=if q=rd E (rd s j)-1 then j else rd row q:=λq A=>iQ r2 A (by rw[h.len];omega)
 have g: ∀c,0<=c->rd (upd E (rd s j) (rd E (rd s j)-1)) c=if c=rd s j then rd E (rd s j)-1 else rd E c:=λc w=>iQ c0 w (by rw[h.elen];omega)
 refine⟨by rw[aW];exact h.len,by rw[aW];exact h.elen,λc d0 a=> ?_,λc u d0 a B hu=> ?_,λc q d0 a o d=> ?_⟩
 ·rw [g c d0];by_cases e:c=rd s j
  ·rw[cz e,e,sK rfl,h.hE _ c0 b,dh];omega
  rw[bq e,xM λh=>e h.symm];exact h.hE c d0 a
 ·rw [g c d0];have v:=h.hE c d0 a;have y:=nE (s:=s) d0 a;have p:=BD ok c;have r:=iF (s:=s) (k:=k) (c:=c);by_cases e:c=rd s j
  ·subst e;rw[cz rfl];rw[sK rfl] at hu p ⊢;rw[dh] at hu p;rw[m _ G];by_cases i:u=0
   ·subst i;rw[cz G];rfl
   rw [bq G];have:=h.vals _ (u-1) c0 b G G;rw[show rd E (rd s j)-1+u=rd E (rd s j)+(u-1) by omega,this];unfold rd;rw[show u.toNat=(u-1).toNat+1 by omega];rfl
  rw [bq e];rw[xM λh=>e h.symm] at hu p ⊢;rw[m _ G,bq,h.vals c u d0 a B hu];intro i;exact e (rF (s:=s) d0 a c0 b (q:=rd E c+u) G G G G)
 rw [g c d0] at d;have v:=h.hE c d0 a;have r:=iF (s:=s) (k:=k) (c:=c);rw[m q G];by_cases e:c=rd s j
 ·rw [cz e] at d;rw[bq G];subst e;exact h.none_ _ q d0 a o G
 rw [bq e] at d;rw[bq,h.none_ c q d0 a o d];intro i;exact e (rF (s:=s) d0 a c0 b (q:=q) o G G G)
theorem jY {l:AH} {u:Nat} (h:u<l.length):rd l (u:Int)=l[u]:=by
 unfold rd;rw[bu,af,au h];rfl
theorem fH {l:AH} (a:0<=i) (h:i<l.length):rd l i=l[i.toNat]' G:=by
 unfold rd;rw[af,au G];rfl
theorem gB {l:AH} {r:Int->Int->Prop} (h:l.Pairwise r) {j:Int} (a:0<=i) (d:i<j) (b:j<l.length):r (rd l i) (rd l j):=by
 rw[fH a G,fH G b];exact dz.1 h i.toNat j.toNat G G G
theorem mJ {l:AH} (d:l.Nodup) {j:Int} (k:0<=i) (h:i<l.length) (g0:0<=j) (g:j<l.length) (e:rd l i=rd l j):i=j:=by
 have hi:i.toNat<l.length:=G
 have b:j.toNat<l.length:=G
 unfold rd at e;rw[af,af,au hi,au b] at e;simp only[qj] at e;rcases jf i j with a|a|a
 ·exact absurd e (dz.1 d i.toNat j.toNat hi b G)
 ·exact a
 exact absurd e.symm (dz.1 d j.toNat i.toNat b hi G)
theorem yZ (hR:bIs s R) (hk:0<=k) (hs: ∀x∈s,0<=x/\x<k) (h:CY s k l row E) (hp:l.Perm (bX s)) (hσ: ∀c,(fE l s c).Pairwise R):zL s k R (λc=>(fE l s c).length) row:=by
 have ok:=nC hp
 have g7: ∀c q,0<=c->c<k->st s k c<=q->q<st s k (c+1)->(q<rd E c/\rd row q= -1)\/(rd E c<=q/\rd row q=rd (fE l s c) (q-rd E c)/\rd row q∈fE l s c):=by
  intro c q c0 g h1 i;have m:=h.hE c c0 g;rcases bz q (rd E c) with a|a
  ·exact .inl ⟨a,h.none_ c q c0 g h1 a⟩
  have:=h.vals c (q-rd E c) c0 g G G;rw[show rd E c+(q-rd E c)=q by omega] at this;refine .inr ⟨a,this,?_⟩;rw[this];exact bM G G
 have gs: ∀ {c x},x∈fE l s c->isS s x/\rd s x=c/\x∈l:=λ{c x} B=>by
  obtain⟨h1,i⟩:=qb.1 B;rw[iy] at i;exact⟨ok.small h1,i,h1⟩
 have o: ∀q:Int,0<=q->q<s.length->0<=rd row q-> ∃c,(0<=c/\c<k)/\st s k c<=q/\q<st s k (c+1)/\rd E c<=q/\rd row q=rd (fE l s c) (q-rd E c)/\rd row q∈fE l s c:=by
  intro q C v D;obtain⟨c,⟨c0,g⟩,h1,i⟩:=jE hk hs C v;rcases g7 c q c0 g h1 i with a|a
  ·omega
  exact⟨c,⟨c0,g⟩,h1,i,a⟩
 refine⟨h.len,λc c0 g=>⟨G,by have:=BD ok c;omega⟩,λc q c0 g h1 i=> ?_,λc q c0 g h1 i=> ?_,λq r C v M r1 D e=> ?_,λp p0 p1 K=> ?_,λx y x0 T N B L=> ?_⟩
 ·have m:=h.hE c c0 g;have H:=nE (s:=s) c0 g;have:=BD ok c;rcases g7 c q c0 g G i with a|a
  ·omega
  have:=gs a.2.2;exact⟨this.1,this.2.1⟩
 ·have m:=h.hE c c0 g;exact h.none_ c q c0 g h1 G
 ·rw [h.len] at v r1;obtain⟨c,⟨c0,g⟩,h1,i,J,w,A⟩:=o q C v D;obtain⟨d,⟨d0,F⟩,g1,g2,g3,g4,g5⟩:=o r M r1 G
  have j:c=d:=by
   have a:=(gs A).2.1;have b:=(gs g5).2.1;rw[e] at a;omega
  subst j;have m:=h.hE c c0 g;rw[w,g4] at e;have:=mJ (ok.1.sublist ve:(fE l s c).Nodup) G G G G e;omega
 ·have O:=hp.symm.subset (xN.2 ⟨⟨p0,p1⟩,K⟩);obtain⟨c0,g⟩:=qJ hs ⟨p0,p1⟩;have d6:p∈fE l s (rd s p):=qb.2 ⟨O,cD⟩;obtain⟨u,hu,e⟩:=ib.1 d6;have m:=h.hE _ c0 g;have H:=nE (s:=s) c0 g;have S:=BD ok (rd s p);have P:=iF (s:=s) (k:=k) (c:=rd s p);have Q:=FJ hk hs (c:=rd s p+1) G G;refine⟨rd E (rd s p)+u,G,G,?_⟩;rw[h.vals _ u c0 g G G,jY hu];exact e
 obtain ⟨c,⟨c0,g⟩,h1,i,J,w,A⟩:=o x x0 G B;obtain⟨d,⟨d0,F⟩,g1,g2,g3,g4,g5⟩:=o y G N L;have a:=gs A;have b:=gs g5;rcases jf c d with j|j|j
 ·exact hR.char a.1.1 b.1.1 G
 ·subst j;have m:=h.hE c c0 g;rw[w,g4];exact gB (hσ c) G G G
 have:=nG (s:=s) d0 j (by omega:c<=k);omega
def noS (s:AH) (x:Int):Int:=if 0<=x/\smB s x=true then -1 else x
theorem cleared (hk:0<=k) (hs: ∀x∈s,0<=x/\x<k) {R':Int->Int->Prop} (Pn: ∀p q,isL s p->isL s q->R p q->R' p q) {mF:Int->Int} {row0 H V:AH} (h:lJ s k R mF row0 row H (CL s row s.length)) (b:zL s k R mF row0) (hl:V.length=s.length) (u: ∀q:Int,0<=q->q<s.length->rd V q=noS s (rd row q)):
  wI s k R' (λc=>rd H c) V/\ ∀q:Int,0<=q->q<s.length-> ¬isS s (rd V q):=by
 have l: ∀q:Int,0<=q->q<s.length->0<=rd V q->rd V q=rd row q:=λq i d g=>by
  rw[u q i d] at g ⊢;unfold noS at g ⊢;split
  ·rename_i e;rw[cz e] at g;omega
  rfl
 have D: ∀q:Int,0<=q->q<s.length->isL s (rd row q)->rd V q=rd row q:=λq i d g=>by
  rw[u q i d];unfold noS;rw[bq];rintro⟨_,e⟩;exact g.not_S ⟨g.1,e⟩
 refine⟨⟨hl,h.hH,λc q c0 j h1 m=> ?_,λc q c0 j h1 m=> ?_,λq r i d F r1 g e=> ?_,λp hp=> ?_,λx y x0 L C v w=> ?_⟩,λq i d g=> ?_⟩
 ·have J:=iF (s:=s) (k:=k) (c:=c);have hH:=h.hH c c0 j;have P:=PZ (b:=b) c0 j;have O:=b.m0 c c0 j;have K:=FJ hk hs (c:=c+1) G G;have:=h.placed c q c0 j h1 m;rw[D q G G this.1];exact this
 ·have J:=iF (s:=s) (k:=k) (c:=c);have hH:=h.hH c c0 j;have K:=FJ hk hs (c:=c+1) G G;rw[u q G G];unfold noS;rcases h.at_ b c0 j G m with a|a|a
  ·omega
  ·rw[cz ⟨a.2.1.1.1,a.2.1.2⟩]
  rw[a.2,bq G]
 ·rw [hl] at d r1;have M:=l q i d g;have N:=l r F r1 G;exact h.once q r i (by rw[h.len];exact d) F (by rw[h.len];exact r1) G G
 ·obtain ⟨q,i,d,e⟩:=aAp hk hs h b (s.length-p).toNat p G hp;exact⟨q,i,d,by rw[D q i d (by rw[e];exact hp)];exact e⟩
 ·have ex:=l x x0 G v;have B:=l y G C w;rw[ex,B];rw[ex] at v;rw[B] at w
  have o: ∀q:Int,0<=q->q<s.length->0<=rd row q->rd V q=rd row q->isL s (rd row q):=λq i d g A=>by
   obtain⟨c,⟨c0,j⟩,h1,m⟩:=jE hk hs i d;rcases h.at_ b c0 j h1 m with a|a|a
   ·exact a.2.1
   ·rw [u q i d] at A;unfold noS at A;rw[cz ⟨a.2.1.1.1,a.2.1.2⟩] at A;omega
   omega
  exact Pn _ _ (o x x0 G v ex) (o y G C w B) (h.sorted x y x0 L C v w)
 have e:=l q i d g.1.1;rw[e] at g;rw[u q i d] at e;unfold noS at e;rw[cz ⟨g.1.1,g.2⟩] at e;have:=g.1.1;omega
def bTa (s:AH) (j:Int) (z:AH × AH):AH × AH:=(upd z.1 (rd z.2 (rd s j)-1) j,upd z.2 (rd s j) (rd z.2 (rd s j)-1))
def bMe (s:AH) (j:Int) (z:AH × AH):AH × AH:=(upd z.1 (rd z.2 (rd s j)) j,upd z.2 (rd s j) (rd z.2 (rd s j)+1))
def aFs (s:AH) (i:Int) (z:AH × AH):AH × AH:=if 0<rd z.1 i/\smB s (rd z.1 i-1)=false then bMe s (rd z.1 i-1) z else z
def aFr (s:AH) (i:Int) (z:AH × AH):AH × AH:=if 0<rd z.1 i/\smB s (rd z.1 i-1)=true then bTa s (rd z.1 i-1) z else z
def uX (cs:AH):AH:=(List.range cs.length).map λi:Nat=>ps cs ((i:Int)+1)
def itF (s:AH) (k:Int) (l:AH):AH × AH:=l.foldr (bTa s) (List.replicate s.length (-1),uX (gF s k))
def itL (s:AH) (k:Int) (l:AH):Nat->AH × AH
 |0=>bMe s (s.length-1) ((itF s k l).1,eF (gF s k))
 |i+1=>aFs s i (itL s k l i)
def KX (s row:AH):AH:=row.map (noS s)
def itS (s:AH) (k:Int) (l:AH):Nat->AH × AH
 |0=>(KX s (itL s k l s.length).1,uX (gF s k))
 |m+1=>aFr s (s.length-1-m) (itS s k l m)
def vE (s:AH) (k:Int) (l:AH):AH:=(itS s k l s.length).1
theorem NB (cs:AH):(uX cs).length=cs.length:=by simp[uX]
theorem TW {cs:AH} (a:0<=i) (h:i<cs.length):rd (uX cs) i=ps cs (i+1):=by
 unfold uX;rw[jU a h];rw[show((i.toNat:Nat):Int)=i by omega]
end
variable (hk:0<=k) (hs: ∀x∈s,0<=x/\x<k)
include hk hs in
theorem GR: ∀ {l:AH},mR s l->CY s k l (itF s k l).1 (itF s k l).2
 |[],_=>aNz hk hs (by show(uX _).length=_;rw[NB,fG]) λc c0 a=>by
  show rd (uX _) c=_;rw[TW c0 (by rw[fG];omega)];rfl
 |j::l,ok=>(GR (l:=l) ok.tail).step hk hs ok
section
variable {R R':Int->Int->Prop} (hR:bIs s R) (Sg:bOd s R') (Pn: ∀p q,isL s p->isL s q->R p q->R' p q) (hσ: ∀c,(fE l s c).Pairwise R)
include hk hs hR hσ in
theorem aDn (hp:l.Perm (bX s)) (hn:0<s.length): ∀i:Nat,i<=s.length->lJ s k R (λc=>(fE l s c).length) (itF s k l).1 (itL s k l i).1 (itL s k l i).2 (CL s (itL s k l i).1 i)
 |0,_=>aHz hk hs hR (yZ hR hk hs (GR hk hs (nC hp)) hp hσ) hn (by rw[gT,fG]) λc c0 d=>qV c0 (by rw[fG];omega)
 | i+1,hi=>by
  have a:=aDn hp hn i G;have b:=yZ hR hk hs (GR hk hs (nC hp)) hp hσ;rw[show((i+1:Nat):Int)=(i:Int)+1 by omega];rw[itL];unfold aFs;split
  ·rename_i hc;exact aNm hk hs hR a b G G hc
  rename_i hc;exact aNn a hc
theorem bKu {row:AH} {q:Int} (a:0<=q) (h:q<row.length):rd (KX s row) q=noS s (rd row q):=by
 unfold KX rd;rw[af,af,mr,au G];rfl
include hk hs hR hσ Pn in
theorem vW (hp:l.Perm (bX s)) (hn:0<s.length):wI s k R' (λc=>rd (itL s k l s.length).2 c) (KX s (itL s k l s.length).1)/\ ∀q:Int,0<=q->q<s.length-> ¬isS s (rd (KX s (itL s k l s.length).1) q):=by
 have h:=aDn hk hs hR hσ hp hn s.length (dn _);exact cleared hk hs Pn h (yZ hR hk hs (GR hk hs (nC hp)) hp hσ) (by unfold KX;rw[bn];exact h.len) λq a b=>bKu a (by rw[h.len];exact b)
include hk hs hR Sg hσ Pn in
theorem aDm (hp:l.Perm (bX s)) (hn:0<s.length): ∀m:Nat,m<=s.length->lI s k R' (λc=>rd (itL s k l s.length).2 c) (KX s (itL s k l s.length).1) (itS s k l m).1 (itS s k l m).2 (CS s (itS s k l m).1 (s.length-m))
 | 0,_=>by
  have b:=vW hk hs hR Pn hσ hp hn
  exact aFy b.1 (by show(uX _).length=_;rw[NB,fG]) (λc c0 d=>by
   show rd (uX _) c=_;rw[TW c0 (by rw[fG];omega)]
   rfl) b.2
 | m+1,hm=>by
  have a:=aDm hp hn m G;have b:=(vW hk hs hR Pn hσ hp hn).1;rw[show(s.length:Int)-(m:Nat)=(s.length-1-(m:Int))+1 by omega] at a;rw[show(s.length:Int)-((m+1:Nat):Int)=s.length-1-(m:Int) by omega];rw[itS];unfold aFr;split
  ·rename_i hc;exact aLx hk hs Sg a b G G hc
  rename_i hc;exact aLy a hc
include hk hs hR Sg hσ Pn in
theorem aId (hp:l.Perm (bX s)) (hn:0<s.length):(vE s k l).Perm (iota s.length)/\(∀q:Int,0<=q->q+1<s.length->rd s (rd (vE s k l) q)<=rd s (rd (vE s k l) (q+1)))/\(vE s k l).Pairwise R':=by
 have h:=aDm hk hs hR Sg Pn hσ hp hn s.length (dn _);rw[show(s.length:Int)-(s.length:Nat)=0 by omega] at h;exact KD hk hs h (vW hk hs hR Pn hσ hp hn).1
end
def RO (s l:AH) (x y:Int):Prop:=l.Pairwise (dA s)->dA s x y
theorem bIt:bIs s (RO s l):=⟨λhp a h _=>xL hp a h,λhp a h _=>aNj hp a h,λhn b a e _ _=>bCx hn b a e,λhp a p1 d e h hσ=>UN hp.1.1 p1 a.1.1 d e (h hσ)⟩
theorem bZn:bOd s (RO s l):=⟨λhp a h _=>xL hp a h,λhp a h _=>aNj hp a h,λhp a p1 b e h hσ=>UN hp.1.1 p1 a.1.1 b e (h hσ)⟩
theorem XG (c:Int):(fE l s c).Pairwise (RO s l):=by
 by_cases h:l.Pairwise (dA s)
 ·exact(h.sublist ve:(fE l s c).Pairwise (dA s)).imp λh _=>h
 exact List.pairwise_of_forall λ_ _ hσ=>absurd hσ h
include hk hs in
theorem BU (hp:l.Perm (bX s)):zL s k (RO s l) (λc=>(fE l s c).length) (itF s k l).1:=yZ bIt hk hs (GR hk hs (nC hp)) hp XG
include hk hs in
theorem aDo (hp:l.Perm (bX s)) (hn:0<s.length): ∀i:Nat,i<=s.length->lJ s k (RO s l) (λc=>(fE l s c).length) (itF s k l).1 (itL s k l i).1 (itL s k l i).2 (CL s (itL s k l i).1 i):=aDn hk hs bIt XG hp hn
include hk hs in
theorem WT (hp:l.Perm (bX s)) (hn:0<s.length):wI s k (RO s l) (λc=>rd (itL s k l s.length).2 c) (KX s (itL s k l s.length).1)/\ ∀q:Int,0<=q->q<s.length-> ¬isS s (rd (KX s (itL s k l s.length).1) q):=vW hk hs bIt (λ_ _ _ _ h=>h) XG hp hn
include hk hs in
theorem bEo (hp:l.Perm (bX s)) (hn:0<s.length): ∀m:Nat,m<=s.length->lI s k (RO s l) (λc=>rd (itL s k l s.length).2 c) (KX s (itL s k l s.length).1) (itS s k l m).1 (itS s k l m).2 (CS s (itS s k l m).1 (s.length-m)):=aDm hk hs bIt bZn (λ_ _ _ _ h=>h) XG hp hn
include hk hs in
theorem aRx (hp:l.Perm (bX s)) (hn:0<s.length):(vE s k l).Perm (iota s.length)/\(∀q:Int,0<=q->q+1<s.length->rd s (rd (vE s k l) q)<=rd s (rd (vE s k l) (q+1)))/\(l.Pairwise (dA s)->(vE s k l).Pairwise (dA s)):=by
 have h:=aId hk hs (l:=l) bIt bZn (λ_ _ _ _ h=>h) XG hp hn;exact⟨h.1,h.2.1,λhσ=>h.2.2.imp λh=>h hσ⟩
end
end Go.Pure
namespace Go.Pure
open Go Go.Eng
section
variable {s:AH} {k:Int} {l row E H V:AH}
theorem bEp {m:Nat} (a:m<l.length):itF s k (l.drop m)=bTa s (rd l (m:Int)) (itF s k (l.drop (m+1))):=by
 unfold itF;rw[jY a,nk a,List.foldr_cons]
theorem KH (h:mR s l) (m:Nat):mR s (l.drop m):=⟨h.1.sublist (xw _ _),λj a=>h.2 j (lu a)⟩
variable (hk:0<=k) (hs: ∀x∈s,0<=x/\x<k)
section
variable {m:Nat} {i q:Int}
include hk hs in
include hk hs in
theorem fF (hp:l.Perm (bX s)) (b:m<l.length) (d:row=(itF s k (l.drop (m+1))).1) (hE:E=(itF s k (l.drop (m+1))).2):
  (0<=rd l (m:Int)/\rd l (m:Int)<s.length)/\(0<=rd s (rd l (m:Int))/\rd s (rd l (m:Int))<k)/\(0<=rd E (rd s (rd l (m:Int)))-1/\rd E (rd s (rd l (m:Int)))-1<s.length)/\(row.length=s.length/\E.length=k.toNat)/\
  upd row (rd E (rd s (rd l (m:Int)))-1) (rd l (m:Int))=(itF s k (l.drop m)).1/\upd E (rd s (rd l (m:Int))) (rd E (rd s (rd l (m:Int)))-1)=(itF s k (l.drop m)).2:=by
 have ok:=nC hp;have h:=GR hk hs (KH ok (m+1))
 have a:mR s (rd l (m:Int)::l.drop (m+1)):=by
  have:=KH ok m;rwa[nk b,<-jY b] at this
 have r:=h.room hk hs a;rw[bEp b];subst d;subst hE;exact⟨(a.2 _ cD).1,r.2.2.1,r.2.1,⟨h.len,h.elen⟩,rfl,rfl⟩
include hk hs in
theorem fL0 (hp:l.Perm (bX s)) (hn:0<s.length) (b:row=(itF s k l).1) (hH:H=eF (gF s k)):
  (0<=rd s ((s.length:Int)-1)/\rd s ((s.length:Int)-1)<k)/\(0<=rd H (rd s ((s.length:Int)-1))/\rd H (rd s ((s.length:Int)-1))<s.length)/\(row.length=s.length/\H.length=k.toNat)/\
  upd row (rd H (rd s ((s.length:Int)-1))) ((s.length:Int)-1)=(itL s k l 0).1/\upd H (rd s ((s.length:Int)-1)) (rd H (rd s ((s.length:Int)-1))+1)=(itL s k l 0).2/\smB s ((s.length:Int)-1)=false:=by
 have h:=GR hk hs (nC hp);have hc:=qJ hs (p:=(s.length:Int)-1) G;have d:rd H (rd s ((s.length:Int)-1))=st s k (rd s ((s.length:Int)-1)):=by rw[hH,qV hc.1 (by rw[fG];omega)];rfl
 have h1:=iF (s:=s) (k:=k) (c:=rd s ((s.length:Int)-1));have e:=nE (s:=s) hc.1 hc.2;have g:=FJ hk hs (c:=rd s ((s.length:Int)-1)+1) G G;have hl:isL s ((s.length:Int)-1):=⟨G,uL G G⟩;have i:0<(PK s (rd s ((s.length:Int)-1))).length:=En (VC.2 ⟨hl,rfl⟩);have a:=hl.2;subst b;subst hH;exact⟨hc,G,⟨h.len,by rw[gT,fG]⟩,rfl,rfl,a⟩
include hk hs in
theorem fLe (hp:l.Perm (bX s)) (hn:0<s.length) {i:Nat} (hi:i<s.length) (a:row=(itL s k l i).1) (hH:H=(itL s k l i).2):
  (rd row (i:Int)= -1\/(0<=rd row (i:Int)/\rd row (i:Int)<s.length))/\(row.length=s.length/\H.length=k.toNat):=by
 have h:=aDo hk hs hp hn i G;have b:=BU hk hs hp;subst a;subst hH;exact⟨h.entry hk hs b G G,h.len,h.hlen⟩
include hk hs in
theorem fL (hp:l.Perm (bX s)) (hn:0<s.length) {i:Nat} (hi:i<s.length) (a:row=(itL s k l i).1) (hH:H=(itL s k l i).2) (hc:0<rd row (i:Int)/\smB s (rd row (i:Int)-1)=false):
  rd row (i:Int)<s.length/\(0<=rd s (rd row (i:Int)-1)/\rd s (rd row (i:Int)-1)<k)/\(0<=rd H (rd s (rd row (i:Int)-1))/\rd H (rd s (rd row (i:Int)-1))<s.length)/\
  upd row (rd H (rd s (rd row (i:Int)-1))) (rd row (i:Int)-1)=(itL s k l (i+1)).1/\upd H (rd s (rd row (i:Int)-1)) (rd H (rd s (rd row (i:Int)-1))+1)=(itL s k l (i+1)).2:=by
 have h:=aDo hk hs hp hn i G;have b:=BU hk hs hp;subst a;subst hH;obtain⟨h1,d,e,_⟩:=aAo hk hs h b G G hc;have hb:=qJ hs h1.1;have a:=h.room hk hs b h1 d;have g:=(h.hH _ hb.1 hb.2).1;have j:=iF (s:=s) (k:=k) (c:=rd s (rd (itL s k l i).1 (i:Int)-1));have m:=FJ hk hs (c:=rd s (rd (itL s k l i).1 (i:Int)-1)+1) G G;have o:=nE (s:=s) hb.1 hb.2;refine⟨e,hb,⟨G,G⟩,?_,?_⟩
 ·rw[itL,aFs,cz hc];rfl
 rw[itL,aFs,cz hc];rfl
theorem fLs {i:Nat} (a:row=(itL s k l i).1) (hH:H=(itL s k l i).2) (hc: ¬(0<rd row (i:Int)/\smB s (rd row (i:Int)-1)=false)):row=(itL s k l (i+1)).1/\H=(itL s k l (i+1)).2:=by
 subst a;subst hH;rw[itL,aFs,bq hc];exact⟨rfl,rfl⟩
def vB (s row:AH) (i:Int):AH:=(row.take i.toNat).map (noS s)++row.drop i.toNat
theorem aXu:vB s row 0=row:=by simp[vB]
theorem aJy (i:Int):(vB s row i).length=row.length:=by simp[vB];omega
theorem bHn (h:(row.length:Int)<=i):vB s row i=KX s row:=by
 unfold vB KX;rw[bg G,og G,ik]
theorem aCw (d:0<=q) (b:i<=q) (a:0<=i) (hl:i<=row.length):rd (vB s row i) q=rd row q:=by
 unfold vB rd;rw[af,af,ji cJ,ui];simp only[bn,ax];congr 2;omega
theorem aBl (a:0<=i) (hi:i<row.length):vB s row (i+1)=upd (vB s row i) i (noS s (rd row i)):=by
 unfold vB upd;have ci:i.toNat<row.length:=G
 rw[show(i+1).toNat=i.toNat+1 by omega,rf,au ci,Fh _ _ cJ,jc];simp only[bn,ax,Bj,jg,ug,dx,ou];congr 1;rw[show i.toNat-min i.toNat row.length=0 by omega,nk ci,Ho,fH a hi]
theorem bNk (a:0<=i) (hi:i<row.length) (h:0<=rd (vB s row i) i/\smB s (rd (vB s row i) i)=true):upd (vB s row i) i (-1)=vB s row (i+1):=by
 rw[aCw a (ni _) a G] at h;rw[aBl a hi,noS,cz h]
theorem aZq {l:AH} (a:0<=i) (hi:i<l.length):upd l i (rd l i)=l:=by
 unfold upd;rw[fH a hi,List.set_getElem_self]
theorem bTs (a:0<=i) (hi:i<row.length) (h: ¬(0<=rd (vB s row i) i/\smB s (rd (vB s row i) i)=true)):vB s row i=vB s row (i+1):=by
 have e:=aCw (s:=s) (row:=row) a (ni _) a (by omega:i<=(row.length:Int));rw[e] at h;rw[aBl a hi,noS,bq h];have:=aZq (l:=vB s row i) a (by rw[aJy];exact hi);rw[e] at this;exact this.symm
include hk hs in
theorem bNl (hp:l.Perm (bX s)) (hn:0<s.length) (b:0<=q) (a:q<s.length):rd (itL s k l s.length).1 q= -1\/(0<=rd (itL s k l s.length).1 q/\rd (itL s k l s.length).1 q<s.length):=
 (aDo hk hs hp hn s.length (dn _)).entry hk hs (BU hk hs hp) b a
include hk hs in
theorem QN (hp:l.Perm (bX s)) (hn:0<s.length):(itL s k l s.length).1.length=s.length:=(aDo hk hs hp hn s.length (dn _)).len
include hk hs in
theorem fSe (hp:l.Perm (bX s)) (hn:0<s.length) (d:m<s.length) (hi:i=s.length-1-(m:Int)) (a:row=(itS s k l m).1) (hE:E=(itS s k l m).2):
  (rd row i= -1\/(0<=rd row i/\rd row i<s.length))/\(row.length=s.length/\E.length=k.toNat):=by
 have h:=bEo hk hs hp hn m G;have b:=(WT hk hs hp hn).1;subst a;subst hE;exact⟨h.entry hk hs b G G,h.len,h.elen⟩
include hk hs in
theorem fS (hp:l.Perm (bX s)) (hn:0<s.length) (r:m<s.length) (hi:i=s.length-1-(m:Int)) (a:row=(itS s k l m).1) (hE:E=(itS s k l m).2) (hc:0<rd row i/\smB s (rd row i-1)=true):
  rd row i<s.length/\(0<=rd s (rd row i-1)/\rd s (rd row i-1)<k)/\(0<=rd E (rd s (rd row i-1))-1/\rd E (rd s (rd row i-1))-1<s.length)/\
  upd row (rd E (rd s (rd row i-1))-1) (rd row i-1)=(itS s k l (m+1)).1/\upd E (rd s (rd row i-1)) (rd E (rd s (rd row i-1))-1)=(itS s k l (m+1)).2:=by
 have h:=bEo hk hs hp hn m G;have b:=(WT hk hs hp hn).1;subst a;subst hE;have g:CS s (itS s k l m).1 (s.length-(m:Int))=CS s (itS s k l m).1 (i+1):=by rw[hi];congr 1;omega
 rw[g] at h;obtain⟨h1,d,e,_⟩:=ZI hk hs h b G G hc;have hb:=qJ hs h1.1;have a:=h.room hk hs b h1 d;have j:=h.hE _ hb.1 hb.2;have o:=iF (s:=s) (k:=k) (c:=rd s (rd (itS s k l m).1 i-1));have p:=FJ hk hs (c:=rd s (rd (itS s k l m).1 i-1)+1) G G;have q:=nE (s:=s) hb.1 hb.2;refine⟨e,hb,⟨G,G⟩,?_,?_⟩
 ·rw[itS,aFr,<-hi,cz hc];rfl
 rw[itS,aFr,<-hi,cz hc];rfl
theorem fSs (hi:i=s.length-1-(m:Int)) (a:row=(itS s k l m).1) (hE:E=(itS s k l m).2) (hc: ¬(0<rd row i/\smB s (rd row i-1)=true)):row=(itS s k l (m+1)).1/\E=(itS s k l (m+1)).2:=by
 subst a;subst hE;rw[itS,aFr,<-hi,bq hc];exact⟨rfl,rfl⟩
include hk hs in
theorem bEw (hp:l.Perm (bX s)):(vE s k l).length=s.length:=by
 rcases fe s.length with h|h
 ·have e:s=[]:=di h;subst e;have hl:l=[]:=di (by rw[hp.length_eq];rfl);subst hl;simp[vE,itS,KX,itL,bMe,itF,upd]
 rw[(aRx hk hs hp h).1.length_eq,bI]
theorem aIe (hl:l.Perm (bX [])):vE [] k l=[]:=by
 have hl:l=[]:=di (by rw[hl.length_eq];rfl);subst hl;simp[vE,itS,KX,itL,bMe,itF,upd]
def smL (s:AH):List Bool:=(List.range s.length).map λi:Nat=>smB s (i:Int)
theorem bJy (s:AH):(smL s).length=s.length:=by simp[smL]
theorem qC (a:0<=i) (hi:i<s.length):rdb (smL s) i=smB s i:=by
 unfold rdb smL;rw[af,mr,zi G];simp only[lh,qj];congr 1;omega
theorem bRp {m:List Bool} (hl:m.length=s.length) (h: ∀j:Int,0<=j->j<s.length->rdb m j=smB s j):m=smL s:=
 aXx (by rw[hl,bJy]) λi a h1=>by rw[qC a G];exact h i a G
theorem aCg {m:List Bool} {b:Bool} (a:0<=i) (hi:i+1<s.length) (hl:m.length=s.length) (h: ∀j:Int,i<j->j<s.length->rdb m j=smB s j) (hb:b=true↔rd s i<rd s (i+1)\/rd s i=rd s (i+1)/\rdb m (i+1)=true): ∀j:Int,i-1<j->j<s.length->rdb (sV m i b) j=smB s j:=by
 intro j h1 d;rw[EB a G G];split
 ·rename_i e;subst e;rw[h (j+1) G G,<-zZ a hi] at hb;cases b<;>cases hh:smB s j<;>simp_all
 exact h j G d
def VR (s:AH) (i:Int):AH:=(iota i.toNat).filter λi=>iU s i
theorem VQ:VR s s.length=bX s:=by unfold VR bX;rw[bu]
theorem MW (a:0<=i):VR s (i+1)=VR s i++(if iU s i=true then [i] else []):=by
 unfold VR;rw[xO a,uq];congr 1;by_cases h:iU s i=true
 ·rw[cz h,qd h];rfl
 rw[bq h,mf h];rfl
theorem aIj (i:Int):(VR s i).length<=i.toNat:=by
 unfold VR;refine pq (yo _ _) ?_;rw[bI];exact dn _
theorem VS:(bX s).length<=s.length:=by rw[<-VQ];have:=aIj (s:=s) s.length;omega
end
end
end Go.Pure

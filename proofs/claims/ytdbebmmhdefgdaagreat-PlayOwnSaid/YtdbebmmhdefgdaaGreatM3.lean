/- Several texts of our own in one: E24, E26, Q37, E27, F1, N2, P9, G1, K1, V2, S2, E19, G2, G3, G4, G5, S3, I1, K2, I2, E23, I3, I4, J1, K3, K5, Q30, H1, S1, F6, F7, F9. -/
import Derived.RangeFuncNested
import Derived.Shelf.SlSortCmp.Kit1
import Derived.Shelf.Abstract
import Derived.WalkKit
import Derived.OwnWalkIn
import Derived.TacticsInMore
import Derived.LoopNIn
import Derived.LoopIn
import Derived.Test.YtdbebmmhdefgdaaGreatProg
import Derived.Ground.NamesProg
import Derived.Ground.Names2Prog
import Derived.Shelf.Sort.Plain
import Derived.Shelf.Slices.SearchI
import Derived.Shelf.Slices.In.SortNone
import Derived.Shelf.Slices.Empties
import Derived.Lib.SlKeysI
import Derived.Shelf.Bits.Mul64
import Derived.Ground.SlsfProg
import Derived.Shelf.SlSortCmp.WholeK
import Derived.Test.YtdbebmmhdefgdaaGreatM2
namespace Go.Eng
open Go Go.RowKit
section
variable {P:Program} {n:Nd} {B:Nat} {w0 w00:World} {F:Exit→Act→World→Prop} {L:Env} {R:List Row}
theorem KM {σ:Type} {m:Nat} {pl:List Nat} {assign body:Code} {gf:Nat} {lb:Array Value} {Rdy:World→Prop} {N:Nat} {f:Nat→List Value} (it:Iter P gf lb Rdy N f)
  (hpl:pl.all (fun p=>Nat.blt p m)=true) (hfl: ∀k,(f k).length=pl.length) (Rx:Nat→σ→List Row) (J:Nat→σ→Prop) (hrdy: ∀k s w,J k s→Hp B w0 w (Rx k s)→Rdy w)
  (round: ∀l k s W2,k<N→J k s→Below B w0 W2→W P ⟨m,[],some l⟩ B W2 assign ⟨fun L' R'=> ∀W3,Below B w0 W3→(∃rc,W3.heap[l]? =some (.loop rc))→W P ⟨m,[],some l⟩ B W3 body ⟨fun _ R''=> ∃s',J (k+1) s'∧ ∀W4 w,Hp B W4 w R''→Hp B W4 w (Rx (k+1) s'),fun _ _=>False,fun _ _ _=>False⟩ L' R',fun _ _=>False,fun _ _ _=>False⟩ (prm pl (f k) L) (Rx k s))
  {l:Nat} {rec:LoopState→Loop} {fn:FuncId} {t:Array Value} {Df:Nat} (hrec:rec=fun st=> {state:=st,pending:=none,fn,tmps:=t,params:=pl.toArray,assign,body,defers:=Df}) (ht:Sat ⟨m,[],some l⟩ L {tmps:=t,defers:=[]}) (hlB:B≤l) (hl0:w0.heap.size≤l) (X:World→Prop)
  (hX: ∀W W' R R',X W→Hp B w0 W R→Hp B W W' R'→X W') (hXp: ∀W o,X W→X (W.putObj l o)) {W1:World} (hL1:W1.heap[l]? =some (.loop (rec .ready))) (hX1:X W1) {s0:σ} (hJ0:J 0 s0) (hp1:Hp B w0 W1 (Rx 0 s0)):
  CallsIn Fence.wide 0 P gf (#[.func (.yield l) #[] #[]]++lb) W1 fun e W'=>(∃v,e= .returned v)∧ ∃s,J N s∧Hp B w0 W' (Rx N s)∧W'.heap[l]? =some (.loop (rec .ready))∧X W':=by
 refine it l (fun k W=> ∃s,J k s∧Hp B w0 W (Rx k s)∧W.heap[l]? =some (.loop (rec .ready))∧X W) W1 (fun k W ⟨s,hJ,hp,_⟩=>hrdy k s W hJ hp) (fun k W d ⟨s,hJ,hp,hl,hx⟩ hd=>⟨s,hJ,hp.drawn d hd,hl,hX _ _ _ _ hx hp (hp.rebase.drawn d hd)⟩) ?_ ⟨s0,hJ0,hp1,hL1,hX1⟩
 rintro k W hk ⟨s,hJ,hp,hl,hx⟩
 have hy:=run_yield (P:=P) (args:=(f k).toArray) hl (by rw[hrec];simp[hfl k])
 have hs1:Sat ⟨m,[],some l⟩ (prm pl (f k) L) {tmps:=(rec .ready).params.zip (f k).toArray|>.foldl (fun t (p,v)=>t.setIfInBounds p v) (rec .ready).tmps,defers:=[]}:=by
  rw[hrec]
  simpa using Sat.prm pl (f k) hpl ht
 refine⟨fn,_,assign,body,by rw[hy,hrec],roundIn_of_wpIn trivial ?_⟩
 refine wpIn_mono ((round l k s W hk hJ hp.below) _ _ (by rw[hrec] at hs1;exact hs1) hp.rebase) ?_
 rintro e a1 Wa hq
 cases e with
 | normal=>
  obtain⟨L',R',hs',hp',hb⟩:=hq
  have hla:=hp'.late.2 _ _ hl rfl
  have hpa:=hp.comp hp'
  have hlt:=(Array.getElem?_eq_some_iff.1 hla).1
  have hbr:=run_beginRound (P:=P) hla (by rw[hrec])
  refine⟨_,hbr,?_⟩
  have hp2:Hp B w0 (Wa.putObj l (.loop {rec .ready with state:= .busy})) R':=hpa.putObj hla rfl _ hlB hl0
  have hl2:(Wa.putObj l (.loop {rec .ready with state:= .busy})).heap[l]? =some (.loop {rec .ready with state:= .busy}):=World.putObj_heap_same hlt
  have hx2:=hXp _ (.loop {rec .ready with state:= .busy}) (hX _ _ _ _ hx hp hp')
  refine wpIn_mono (hb _ hp2.below ⟨_,hl2⟩ a1 _ hs' hp2.rebase) ?_
  rintro e a3 W3 hq
  cases e with
  | normal=>
   obtain⟨L3,R3,_,hp3,s',hJ',hR'⟩:=hq
   have hl3:=hp3.late.2 _ _ hl2 rfl
   have her:=run_endRound (P:=P) none hl3
   refine⟨_,_,her,rfl,s',hJ',?_,?_,?_⟩
   ·exact(hp2.comp (hR' _ _ hp3)).putObj hl3 rfl _ hlB hl0
   ·rw [World.putObj_heap_same (Array.getElem?_eq_some_iff.1 hl3).1,hrec]
    rfl
   ·exact hXp _ _ (hX _ _ _ _ hx2 hp2 hp3)
  |ret=>obtain⟨_,_,_,_,h⟩:=hq;exact h.elim
  |exit id=>obtain⟨_,_,_,_,h⟩:=hq;exact h.elim
  |goto t=>exact hq.elim
  |panic ch=>exact hq.elim
  |outgrown=>exact hq.elim
 |ret=>obtain⟨_,_,_,_,h⟩:=hq;exact h.elim
 |exit id=>obtain⟨_,_,_,_,h⟩:=hq;exact h.elim
 |goto t=>exact hq.elim
 |panic ch=>exact hq.elim
 |outgrown=>exact hq.elim
theorem QO {σ:Type} {m:Nat} {ds:List Deferred} {g:Operand} {pl:List Nat} {assign body:Code} {gf:Nat} {lb:Array Value} {Rdy:World→Prop} {N:Nat} {f:Nat→List Value} (hg:ev L g=some (.func (.func gf) #[] lb))
  (hen: ∀args w,(callFunc gf args).run P w= .ok (.enter gf args) w) (it:Iter P gf lb Rdy N f)
  (hpl:pl.all (fun p=>Nat.blt p m)=true) (hfl: ∀k,(f k).length=pl.length) (hG:Gd B w00 ⟨m,ds,none⟩ w0) (Rx:Nat→σ→List Row) (J:Nat→σ→Prop) (h0: ∃s,J 0 s∧ ∀w,Hp B w0 w R→Hp B w0 w (Rx 0 s)) (hrdy: ∀k s w,J k s→Hp B w0 w (Rx k s)→Rdy w)
  (round: ∀l k s W2,k<N→J k s→Below B w0 W2→W P ⟨m,[],some l⟩ B W2 assign ⟨fun L' R'=> ∀W3,Below B w0 W3→(∃rc,W3.heap[l]? =some (.loop rc))→W P ⟨m,[],some l⟩ B W3 body ⟨fun _ R''=> ∃s',J (k+1) s'∧ ∀W4 w,Hp B W4 w R''→Hp B W4 w (Rx (k+1) s'),fun _ _=>False,fun _ _ _=>False⟩ L' R',fun _ _=>False,fun _ _ _=>False⟩ (prm pl (f k) L) (Rx k s))
  (after: ∀W5 D s,J N s→Below B w0 W5→Gd B w00 ⟨m,mark D::ds,none⟩ W5→VN ⟨m,mark D::ds,none⟩ B W5 F L (Rx N s)):
  V P ⟨m,ds,none⟩ B w0 (.rangeFunc g pl.toArray assign body) F L R:=by
 intro a w hs hp
 refine wpIn_rangeFunc ?_
 intro fn _
 obtain⟨rec,hrec⟩: ∃rec:LoopState→Loop,rec=fun st=> {state:=st,pending:=none,fn,tmps:=a.tmps,params:=pl.toArray,assign,body,defers:=w.heap.size}:=⟨_,rfl⟩
 obtain⟨W1,hW1⟩: ∃W1,(w.alloc (.deferred (some []))).alloc (.loop (rec .ready))=W1:=⟨_,rfl⟩
 have hL1:W1.heap[w.heap.size+1]? =some (.loop (rec .ready)):=by
  rw[←hW1];have:=World.alloc_heap_new (w.alloc (.deferred (some []))) (.loop (rec .ready));rwa[World.size_alloc] at this
 have hK1:W1.heap[w.heap.size]? =some (.deferred (some [])):=by
  rw[←hW1];exact(Below.heap_alloc _ _ _ (by simp)).trans (World.alloc_heap_new w _)
 obtain⟨s0,hJ0,hR0⟩:=h0
 have hp1:Hp B w0 W1 (Rx 0 s0):=by rw[←hW1];exact((hR0 w hp).allocObj _).allocObj _
 have hle0:w0.heap.size≤w.heap.size:=hp.below.size
 have hleB:=hp.base
 refine⟨w.heap.size+1,[mark w.heap.size],W1,{target:= .fn (.func gf) lb,args:= #[.func (.yield (w.heap.size+1)) #[] #[]]},W1,gf,#[.func (.yield (w.heap.size+1)) #[] #[]]++lb,W1,?_,?_,fun _ _=>trivial,?_,fun h=>(by cases h),?_⟩
 ·rw[←hW1,hrec];exact run_enterLoop_outer _ _ _ _ _
 ·simp only[resolve,hs.ev hg]
  simp[go_sem]
 ·simp[invoke,go_sem,hen]
 ·refine CallsIn.mono (KM (w0:=w0) (m:=m) (L:=L) it hpl hfl Rx J hrdy round (l:=w.heap.size+1) (rec:=rec) hrec ⟨hs.size,rfl,hs.val⟩ (by omega) (by omega) (fun W=>W.heap[w.heap.size]? =some (.deferred (some []))∧Late w W) ?_ ?_ hL1 ⟨hK1,?_⟩ hJ0 hp1) ?_
  ·rintro W W' R R' ⟨hk,hl⟩ _ h2
   exact⟨h2.late.2 _ _ hk rfl,hl.trans h2.late⟩
  ·rintro W o ⟨hk,hl⟩
   refine⟨(World.putObj_heap_other (by omega)).trans hk,hl.1,fun k q hk' hc=> ?_⟩
   rw[World.putObj_heap_other (fun e=>by have:=(Array.getElem?_eq_some_iff.1 hk').1;omega)]
   exact hl.2 k q hk' hc
  ·rw [←hW1]
   exact(Late.alloc _ _).trans (Late.alloc _ _)
  ·rintro e W2 ⟨⟨v,rfl⟩,s,hJ,hp2,hl2,hk2,hlate⟩
   have hel:=run_endLoop (P:=P) hl2 (by rw[hrec];simp)
   have hpn:(rec .ready).pending=none:=by rw[hrec]
   refine⟨none,W2.putObj (w.heap.size+1) (.loop {rec .ready with state:= .exhausted}),hel.trans (congrArg (fun p=>Result.ok p _) hpn),?_⟩
   have hp3:Hp B w0 (W2.putObj (w.heap.size+1) (.loop {rec .ready with state:= .exhausted})) (Rx N s):=hp2.putObj hl2 rfl _ (by omega) (by omega)
   have hk3:(W2.putObj (w.heap.size+1) (.loop {rec .ready with state:= .exhausted})).heap[w.heap.size]? =some (.deferred (some [])):=(World.putObj_heap_other (by omega)).trans hk2
   have hlate3:Late w (W2.putObj (w.heap.size+1) (.loop {rec .ready with state:= .exhausted})):=⟨hlate.1,fun k q hk' hc=>by
    rw[World.putObj_heap_other (fun e=>by have:=(Array.getElem?_eq_some_iff.1 hk').1;omega)]
    exact hlate.2 k q hk' hc⟩
   have hds:=hs.defers
   refine after _ w.heap.size s hJ hp3.below ⟨hG.below.trans hp3.below,hG.late.trans hp3.late,List.nodup_cons.2 ⟨fun hmem=> ?_,hG.nodup⟩,fun d hd=> ?_⟩ _ _ ⟨hs.size,by simp only[List.singleton_append,hds],hs.val⟩ hp3.rebase
   ·obtain ⟨D,he,_,_,hD⟩:=hG.marks _ hmem
    have h1:=(Array.getElem?_eq_some_iff.1 hD).1
    simp only[mark,Deferred.mk.injEq,Target.collected.injEq,and_true] at he
    omega
   ·rcases List.mem_cons.1 hd with rfl|hd
    ·exact⟨_,rfl,by omega,by have:=hG.below.size;omega,hk3⟩
    ·obtain ⟨D,he,h1,h2,hD⟩:=hG.marks _ hd
     exact⟨D,he,h1,h2,hp3.late.2 _ _ hD rfl⟩
theorem NG {σ0 σ1 σ2 σ3:Type} {m:Nat} {ds:List Deferred} {g:Operand} {pl:List Nat} {assign body:Code} {gf:Nat} {lb:Array Value} {Rdy:World→Prop} {N:Nat} {f:Nat→List Value} (hg:ev L g=some (.func (.func gf) #[] lb))
  (hen: ∀args w,(callFunc gf args).run P w= .ok (.enter gf args) w) (it:Iter P gf lb Rdy N f)
  (hpl:pl.all (fun p=>Nat.blt p m)=true) (hfl: ∀k,(f k).length=pl.length) (hG:Gd B w00 ⟨m,ds,none⟩ w0) (Rx:Nat→σ0→σ1→σ2→σ3→List Row) (J:Nat→σ0→σ1→σ2→σ3→Prop)
  (h0: ∃x0 x1 x2 x3,J 0 x0 x1 x2 x3∧ ∀w,Hp B w0 w R→Hp B w0 w (Rx 0 x0 x1 x2 x3)) (hrdy: ∀k x0 x1 x2 x3 w,J k x0 x1 x2 x3→Hp B w0 w (Rx k x0 x1 x2 x3)→Rdy w)
  (round: ∀l k x0 x1 x2 x3 W2,k<N→J k x0 x1 x2 x3→Below B w0 W2→W P ⟨m,[],some l⟩ B W2 assign ⟨fun L' R'=> ∀W3,Below B w0 W3→(∃rc,W3.heap[l]? =some (.loop rc))→W P ⟨m,[],some l⟩ B W3 body ⟨fun _ R''=> ∃y0 y1 y2 y3,J (k+1) y0 y1 y2 y3∧ ∀W4 w,Hp B W4 w R''→Hp B W4 w (Rx (k+1) y0 y1 y2 y3),fun _ _=>False,fun _ _ _=>False⟩ L' R',fun _ _=>False,fun _ _ _=>False⟩ (prm pl (f k) L) (Rx k x0 x1 x2 x3))
  (after: ∀W5 D x0 x1 x2 x3,J N x0 x1 x2 x3→Below B w0 W5→Gd B w00 ⟨m,mark D::ds,none⟩ W5→VN ⟨m,mark D::ds,none⟩ B W5 F L (Rx N x0 x1 x2 x3)):
  V P ⟨m,ds,none⟩ B w0 (.rangeFunc g pl.toArray assign body) F L R:=by
 obtain⟨x0,x1,x2,x3,h1,h2⟩:=h0
 refine QO (σ:=σ0 × σ1 × σ2 × σ3) hg hen it hpl hfl hG (fun k p=>Rx k p.1 p.2.1 p.2.2.1 p.2.2.2) (fun k p=>J k p.1 p.2.1 p.2.2.1 p.2.2.2) ⟨(x0,x1,x2,x3),h1,h2⟩ (fun k p=>hrdy k p.1 p.2.1 p.2.2.1 p.2.2.2) (fun l k p W2 hk hp hb=>eB (round l k p.1 p.2.1 p.2.2.1 p.2.2.2 W2 hk hp hb) ?_ (fun _ _ h=>h) (fun _ _ _ h=>h)) (fun W5 D p=>after W5 D p.1 p.2.1 p.2.2.1 p.2.2.2)
 intro L' R' h W3 hb3 hl3
 refine eB (h W3 hb3 hl3) ?_ (fun _ _ h=>h) (fun _ _ _ h=>h)
 rintro _ R'' ⟨y0,y1,y2,y3,g1,g2⟩
 exact⟨(y0,y1,y2,y3),g1,g2⟩
theorem WT {σ:Type} {m l0:Nat} {g:Operand} {pl:List Nat} {assign body:Code} {gf:Nat} {lb:Array Value} {Rdy:World→Prop} {N:Nat} {f:Nat→List Value} {Q:dA} (hg:ev L g=some (.func (.func gf) #[] lb))
  (hen: ∀args w,(callFunc gf args).run P w= .ok (.enter gf args) w) (it:Iter P gf lb Rdy N f)
  (hpl:pl.all (fun p=>Nat.blt p m)=true) (hfl: ∀k,(f k).length=pl.length) (hl0: ∃rc,w0.heap[l0]? =some (.loop rc)) (Rx:Nat→σ→List Row) (J:Nat→σ→Prop) (h0: ∃s,J 0 s∧ ∀w,Hp B w0 w R→Hp B w0 w (Rx 0 s)) (hrdy: ∀k s w,J k s→Hp B w0 w (Rx k s)→Rdy w)
  (round: ∀l k s W2,k<N→J k s→Below B w0 W2→W P ⟨m,[],some l⟩ B W2 assign ⟨fun L' R'=> ∀W3,Below B w0 W3→(∃rc,W3.heap[l]? =some (.loop rc))→W P ⟨m,[],some l⟩ B W3 body ⟨fun _ R''=> ∃s',J (k+1) s'∧ ∀W4 w,Hp B W4 w R''→Hp B W4 w (Rx (k+1) s'),fun _ _=>False,fun _ _ _=>False⟩ L' R',fun _ _=>False,fun _ _ _=>False⟩ (prm pl (f k) L) (Rx k s))
  (after: ∀s,J N s→Q.nrm L (Rx N s)):
  W P ⟨m,[],some l0⟩ B w0 (.rangeFunc g pl.toArray assign body) Q L R:=by
 obtain⟨r0,hr0⟩:=hl0
 intro a w hs hp
 have hl0w:=hp.late.2 _ _ hr0 rfl
 refine wpIn_rangeFunc ?_
 intro fn _
 obtain⟨rec,hrec⟩: ∃rec:LoopState→Loop,rec=fun st=> {state:=st,pending:=none,fn,tmps:=a.tmps,params:=pl.toArray,assign,body,defers:=r0.defers}:=⟨_,rfl⟩
 obtain⟨W1,hW1⟩: ∃W1,w.alloc (.loop (rec .ready))=W1:=⟨_,rfl⟩
 have hL1:W1.heap[w.heap.size]? =some (.loop (rec .ready)):=by rw[←hW1];exact World.alloc_heap_new w _
 obtain⟨s0,hJ0,hR0⟩:=h0
 have hp1:Hp B w0 W1 (Rx 0 s0):=by rw[←hW1];exact(hR0 w hp).allocObj _
 have hle0:w0.heap.size≤w.heap.size:=hp.below.size
 have hleB:=hp.base
 refine⟨w.heap.size,[],W1,{target:= .fn (.func gf) lb,args:= #[.func (.yield w.heap.size) #[] #[]]},W1,gf,#[.func (.yield w.heap.size) #[] #[]]++lb,W1,?_,?_,fun _ _=>trivial,?_,fun h=>(by cases h),?_⟩
 ·rw[←hW1,hrec];exact run_enterLoop_inner hl0w _ _ _ _ _
 ·simp only[resolve,hs.ev hg]
  simp[go_sem]
 ·simp[invoke,go_sem,hen]
 ·refine CallsIn.mono (KM (w0:=w0) (m:=m) (L:=L) it hpl hfl Rx J hrdy round (l:=w.heap.size) (rec:=rec) hrec ⟨hs.size,rfl,hs.val⟩ (by omega) (by omega) (fun _=>True) (fun _ _ _ _ _ _ _=>trivial) (fun _ _ _=>trivial) hL1 trivial hJ0 hp1) ?_
  rintro e W2 ⟨⟨v,rfl⟩,s,hJ,hp2,hl2,_⟩
  have hel:=run_endLoop (P:=P) hl2 (by rw[hrec];simp)
  have hpn:(rec .ready).pending=none:=by rw[hrec]
  refine⟨none,W2.putObj w.heap.size (.loop {rec .ready with state:= .exhausted}),hel.trans (congrArg (fun p=>Result.ok p _) hpn),?_⟩
  have hds:=hs.defers
  exact⟨L,Rx N s,⟨hs.size,by simp only[List.nil_append,hds],hs.val⟩,hp2.putObj hl2 rfl _ (by omega) (by omega),after s hJ⟩
theorem QK {σ0 σ1 σ2 σ3:Type} {m l0:Nat} {g:Operand} {pl:List Nat} {assign body:Code} {gf:Nat} {lb:Array Value} {Rdy:World→Prop} {N:Nat} {f:Nat→List Value} {Q:dA} (hg:ev L g=some (.func (.func gf) #[] lb))
  (hen: ∀args w,(callFunc gf args).run P w= .ok (.enter gf args) w) (it:Iter P gf lb Rdy N f)
  (hpl:pl.all (fun p=>Nat.blt p m)=true) (hfl: ∀k,(f k).length=pl.length) (hl0: ∃rc,w0.heap[l0]? =some (.loop rc)) (Rx:Nat→σ0→σ1→σ2→σ3→List Row) (J:Nat→σ0→σ1→σ2→σ3→Prop)
  (h0: ∃x0 x1 x2 x3,J 0 x0 x1 x2 x3∧ ∀w,Hp B w0 w R→Hp B w0 w (Rx 0 x0 x1 x2 x3)) (hrdy: ∀k x0 x1 x2 x3 w,J k x0 x1 x2 x3→Hp B w0 w (Rx k x0 x1 x2 x3)→Rdy w)
  (round: ∀l k x0 x1 x2 x3 W2,k<N→J k x0 x1 x2 x3→Below B w0 W2→W P ⟨m,[],some l⟩ B W2 assign ⟨fun L' R'=> ∀W3,Below B w0 W3→(∃rc,W3.heap[l]? =some (.loop rc))→W P ⟨m,[],some l⟩ B W3 body ⟨fun _ R''=> ∃y0 y1 y2 y3,J (k+1) y0 y1 y2 y3∧ ∀W4 w,Hp B W4 w R''→Hp B W4 w (Rx (k+1) y0 y1 y2 y3),fun _ _=>False,fun _ _ _=>False⟩ L' R',fun _ _=>False,fun _ _ _=>False⟩ (prm pl (f k) L) (Rx k x0 x1 x2 x3))
  (after: ∀x0 x1 x2 x3,J N x0 x1 x2 x3→Q.nrm L (Rx N x0 x1 x2 x3)):
  W P ⟨m,[],some l0⟩ B w0 (.rangeFunc g pl.toArray assign body) Q L R:=by
 obtain⟨x0,x1,x2,x3,h1,h2⟩:=h0
 refine WT (σ:=σ0 × σ1 × σ2 × σ3) hg hen it hpl hfl hl0 (fun k p=>Rx k p.1 p.2.1 p.2.2.1 p.2.2.2) (fun k p=>J k p.1 p.2.1 p.2.2.1 p.2.2.2) ⟨(x0,x1,x2,x3),h1,h2⟩ (fun k p=>hrdy k p.1 p.2.1 p.2.2.1 p.2.2.2) (fun l k p W2 hk hp hb=>eB (round l k p.1 p.2.1 p.2.2.1 p.2.2.2 W2 hk hp hb) ?_ (fun _ _ h=>h) (fun _ _ _ h=>h)) (fun p=>after p.1 p.2.1 p.2.2.1 p.2.2.2)
 intro L' R' h W3 hb3 hl3
 refine eB (h W3 hb3 hl3) ?_ (fun _ _ h=>h) (fun _ _ _ h=>h)
 rintro _ R'' ⟨y0,y1,y2,y3,g1,g2⟩
 exact⟨(y0,y1,y2,y3),g1,g2⟩
def SlR (k:IntKind) (Rs:List Row) (vals:List Value) (ls:List (List Int)):Prop:=vals.length=ls.length∧ ∀j:Nat,j<ls.length→ ∃(A:Option Addr) (c:Nat),vals[j]? =some (.slice A (ls.getD j []).length c)∧ ∀(B:Nat) (w0 w:World),Hp B w0 w Rs→Rd w A (ls.getD j []).length c 1 (ints k (ls.getD j []))
theorem SlR.nil (k:IntKind):SlR k [] [] []:=⟨rfl,fun j hj=>by simp at hj⟩
theorem SlR.snoc {k:IntKind} {Rs:List Row} {vals:List Value} {ls:List (List Int)} {A:Option Addr} {n c e:Nat} {l:List Int} {ro:Bool} (h:SlR k Rs vals ls) (hn:n=l.length):SlR k (⟨e,1,A,n,c,ints k l,ro⟩::Rs) (vals++[.slice A n c]) (ls++[l]):=by
 subst hn
 refine⟨by simp[h.1],fun j hj=> ?_⟩
 rcases Nat.lt_or_ge j ls.length with g|g
 ·obtain ⟨A',c',h1,h2⟩:=h.2 j g
  have e1:(ls++[l]).getD j []=ls.getD j []:=by
   rw[List.getD_eq_getElem?_getD,List.getD_eq_getElem?_getD,List.getElem?_append_left g]
  rw[e1]
  exact⟨A',c',by rw[List.getElem?_append_left (by rw[h.1];exact g)];exact h1,fun B w0 w hw=>h2 B w0 w hw.tail⟩
 ·have hjl:j=ls.length:=by simp at hj;omega
  subst hjl
  have e1:(ls++[l]).getD ls.length []=l:=by simp[List.getD_eq_getElem?_getD]
  rw[e1]
  refine⟨A,c,by rw[←h.1];simp,fun B w0 w hw=> ?_⟩
  exact rdr (R:=⟨e,1,A,l.length,c,ints k l,ro⟩::Rs) 0 rfl w hw
theorem SlR.at {k:IntKind} {Rs:List Row} {vals:List Value} {ls:List (List Int)} (h:SlR k Rs vals ls) {i:Int} (h0:0≤i) (h1:i<ls.length): ∃(A:Option Addr) (c:Nat),vals[i.toNat]? =some (.slice A (rdl ls i).length c)∧ ∀(B:Nat) (w0 w:World),Hp B w0 w Rs→Rd w A (rdl ls i).length c 1 (ints k (rdl ls i)):=h.2 i.toNat (by omega)
theorem Hp.left {w:World} {X T:List Row} (h:Hp B w0 w (X++T)):Hp B w0 w X:=h.sublist (List.sublist_append_left X T)
theorem Hp.toTail0 {w:World} {X Rs Y:List Row} (h:Hp B w0 w ((X++Rs)++Y)):Hp B w0 w (X++(Y++Rs)):=by
 refine h.perm ?_
 rw[List.append_assoc]
 exact List.Perm.append_left X List.perm_append_comm
theorem aFf {Q:dA} {c:Code} {d:Nat} {v:Value} (h:lk L d=some v) (k:W P n B w0 c Q ((d,v)::L) R):W P n B w0 c Q L R:=fun a w hs hp=>k a w ⟨hs.size,hs.defers,fun t u ht=>by
 unfold lk at ht
 cases e:Nat.beq d t with
 |true=>rw[e] at ht;simp only[cond_true] at ht;obtain rfl:=Nat.eq_of_beq_eq_true e;exact hs.val _ _ (h.trans ht)
 |false=>rw[e] at ht;simp only[cond_false] at ht;exact hs.val _ _ ht⟩ hp
end
end Go.Eng

namespace Go.Eng
open Go Go.RowKit Go.Proofs Go.Sort
section
variable {P:Program} {B:Nat} {w0:World} {R:List Row}
def aFx (P:Program) (f g:Nat) (cb:Array Value) (k:Nat):Prop:=
 ∀(α:Type) [Inhabited α] (enc:α→List Value) (_: ∀x,(enc x).length=k) (_: ∀x,∀v∈enc x,v.oneCell'=true) (cf:α→α→Int) (_:SWO (ltOf cf)) (blk off cap:Nat) (d:Array α) (w:World)
  (_:CmpLays P g cb enc k cf blk off d.size w) (_:HoldsK enc k w blk off d) (_:blk<w.heap.size) (_:d.size<4611686018427387904),
  Calls P f #[.slice (some ⟨blk,off,none⟩) d.size cap, .func (.func g) #[] cb] w fun e w'=>e= .returned (.tuple #[])∧ ∃d' n os,PermIn 0 d.size d d'∧SortedIn (ltOf cf) 0 d.size d'∧w'=sortWorldK enc k w blk off n d' os
def aFy (P:Program) (f g:Nat) (cb:Array Value):Prop:=
 ∀(α:Type) [Inhabited α] (enc:α→Value) (_:OneCell enc) (cf:α→α→Int) (_:SWO (ltOf cf)) (blk off cap:Nat) (d:Array α) (w:World)
  (_:CmpLays1 P g cb enc cf blk off d.size w) (_:Holds enc w blk off d) (_:blk<w.heap.size) (_:d.size<4611686018427387904),
  Calls P f #[.slice (some ⟨blk,off,none⟩) d.size cap, .func (.func g) #[] cb] w fun e w'=>e= .returned (.tuple #[])∧ ∃d' n os,PermIn 0 d.size d d'∧SortedIn (ltOf cf) 0 d.size d'∧w'=sortWorld enc w blk off n d' os
def aCh (P:Program) (f:Nat):Prop:= ∀(p:Option Addr) (cap:Nat) (fv:Value) (w:World),Calls P f #[.slice p 0 cap,fv] w fun e w'=>e= .returned (.tuple #[])∧w'=w
theorem Hp.putRow {w:World} (hw:Hp B w0 w R) {i T k m c blk:Nat} {vs:List Value} (hi:R[i]? =some ⟨T,k,some ⟨blk,0,none⟩,m,c,vs,false⟩) (xs:Array Value) (hxs:xs.size=m*k) (n:Nat) (os:Array Obj):
  Hp B w0 (grow (putRow id (Sort.ahead w n) blk 0 xs) os) (R.set i ⟨T,k,some ⟨blk,0,none⟩,m,c,xs.toList,false⟩)∧Hp B w0 (grow (putRow id (Sort.ahead w n) blk 0 xs) os) (R.eraseIdx i):=by
 have hown:=Row.lies_w (hw.own _ (List.mem_of_getElem? hi)) rfl
 rcases hown.2 with⟨hv,hn⟩|⟨g,cap,cur,hv,hb,hg,hnc,hcm,hcs,ht⟩
 ·simp at hv
 simp only[Value.slice.injEq,Option.some.injEq,Addr.mk.injEq,and_true,true_and] at hv
 obtain⟨rfl,rfl⟩:=hv
 simp only at ht hcs hg hnc hb
 have hlt:blk<w.heap.size:=(Array.getElem?_eq_some_iff.1 hg).1
 have hsz:w.heap.size≤(grow (Go.Sort.putRow id (Sort.ahead w n) blk 0 xs) os).heap.size:=by
  rw[size_grow,Go.Sort.size_putRow]
  exact Nat.le_add_right _ _
 have hk: ∀k,k<w.heap.size→blk≠k→(grow (Go.Sort.putRow id (Sort.ahead w n) blk 0 xs) os).heap[k]? =w.heap[k]? :=by
  intro k hk hbk
  rw[heap_grow_old _ _ (by rw[Go.Sort.size_putRow];exact hk)]
  simp[Go.Sort.putRow,mapBlock,Array.getElem?_modify,hbk,Sort.ahead]
 have hheap:(grow (Go.Sort.putRow id (Sort.ahead w n) blk 0 xs) os).heap[blk]? =some (.cells (putCells id 0 xs cur) T (0,0)):=by
  rw[heap_grow_old _ _ (by rw[Go.Sort.size_putRow];exact hlt)]
  simp[Go.Sort.putRow,mapBlock,Array.getElem?_modify,Sort.ahead,hg,onCells]
 refine⟨?_,hw.but hi rfl rfl rfl (by show w.drawn≤w.drawn+n;omega) hsz fun k h1 h2=>hk k h1 (h2 _ rfl)⟩
 refine hw.upd hi (row:=some blk) ⟨rfl,rfl,rfl,hsz,fun k h1 hne=>hk k h1 fun e=>hne (by rw[e])⟩ ?_ (fun k hk=> ?_) ?_ (fun a' ha'=> .inl ⟨a',ha',rfl⟩)
 ·show w.drawn≤w.drawn+n
  omega
 ·obtain rfl:=Option.some.inj hk
  exact⟨_,rfl,rfl⟩
 ·unfold Row.lies
  simp only
  refine⟨by rw[Array.length_toList,hxs], .inr ⟨blk,c,_,rfl,hb,hheap,hnc,hcm,?_,?_⟩⟩
  ·simp only[putCells,Array.size_mapIdx]
   exact hcs
  ·apply List.ext_getElem?
   intro t
   rw[List.getElem?_take]
   split
   ·rename_i htm
    have htc:t<cur.size:=by
     have:m*k≤c*k:=Nat.mul_le_mul_right _ hnc
     omega
    rw[Array.getElem?_toList,Array.getElem?_toList,Array.getElem?_eq_getElem (by simp[putCells];exact htc),Array.getElem?_eq_getElem (by rw[hxs];exact htm)]
    simp only[putCells,Array.getElem_mapIdx,id]
    rw[if_pos ⟨Nat.zero_le _,by rw[Nat.zero_add,hxs];exact htm⟩,Nat.sub_zero,getElem!_pos _ t (by rw[hxs];exact htm)]
   ·rename_i htm
    rw[List.getElem?_eq_none (by rw[Array.length_toList,hxs];omega)]
end
end Go.Eng

namespace Go.Pure
open Go Go.Eng
def Bd (u:List Int) (n k:Nat):Prop:=k<n∧ ∀e,e<k→lt u e=lt u (n-k+e)
def MB (u:List Int) (n:Nat) (k:Int):Prop:=0≤k∧Bd u n k.toNat∧ ∀q:Nat,Bd u n q→(q:Int)≤k
def KI (u:List Int) (i:Nat) (n:Int):Prop:=0≤n∧Bd u i n.toNat∧ ∀q:Nat,Bd u i q→n<q→lt u q≠lt u i
variable {u:List Int}
theorem MB.one:MB u 1 0:=⟨by omega,⟨by omega,fun e he=>by simp at he⟩,fun q h=>by have:=h.1;omega⟩
theorem MB.bd {n:Nat} {k:Int} (h:MB u n k):0≤k∧k<n:=⟨h.1,by have:=h.2.1.1;have:=h.1;omega⟩
theorem KI.bd {n:Nat} {k:Int} (h:KI u n k):0≤k∧k<n:=⟨h.1,by have:=h.2.1.1;have:=h.1;omega⟩
theorem KI.step {i:Nat} {n m:Int} (h:KI u i n) (hne:lt u n.toNat≠lt u i) (hb:MB u n.toNat m):KI u i m:=by
 obtain⟨h0,⟨h1,h2⟩,h3⟩:=h
 obtain⟨g0,⟨g1,g2⟩,g3⟩:=hb
 refine⟨g0,⟨by omega,fun e he=> ?_⟩,fun q hq hmq=> ?_⟩
 ·rw [g2 e he,h2 (n.toNat-m.toNat+e) (by omega)]
  congr 1
  omega
 ·rcases Nat.lt_trichotomy q n.toNat with a|a|a
  ·have:Bd u n.toNat q:=⟨a,fun e he=>by
    rw[hq.2 e he,h2 (n.toNat-q+e) (by omega)]
    congr 1
    omega⟩
   have:=g3 q this
   omega
  ·subst a;exact hne
  ·exact h3 q hq (by omega)
theorem MU {n k:Nat} (hn:n=u.length) (hk:k<n):Bd u n k↔wM u (n-k):=by
 subst hn
 rw[vB]
 constructor
 ·intro h i hi
  have:=h.2 i (by omega)
  unfold lt at this
  rw[this];congr 1;omega
 ·intro h
  refine⟨hk,fun e he=> ?_⟩
  have:=h e (by omega)
  unfold lt
  rw[←this];congr 1;omega
theorem MB.least {k:Int} (hn:0<u.length) (h:MB u u.length k):(u.length:Int)-k=lp u:=by
 obtain⟨r,e,r1,r2,hp,hmin⟩:=zM hn
 obtain⟨k0,hb,hmax⟩:=h
 have hb1:=hb.1
 have h1:=hmax (u.length-r) ((MU rfl (by omega)).2 (by rw[show u.length-(u.length-r)=r by omega];exact hp))
 have h2:=(MU rfl hb.1).1 hb
 rcases Nat.lt_or_ge (u.length-k.toNat) r with a|a
 ·exact absurd h2 (hmin _ (by omega) a)
 ·omega
theorem rU: ∀a b:List Int,cmpL b a= -cmpL a b
 |[],[]=>rfl
 |[],_::_=>rfl
 |_::_,[]=>rfl
 |x::a,y::b=>by
  rw[cmpL,cmpL,rU a b]
  split<;>split<;>omega
theorem cmpL_eq: ∀a b:List Int,cmpL a b=0↔a=b
 |[],[]=>by simp[cmpL]
 |[],_::_=>by simp[cmpL]
 |_::_,[]=>by simp[cmpL]
 | x::a,y::b=>by
  have ih:=cmpL_eq a b
  rw[cmpL]
  split
  ·simp;omega
  ·split
   ·simp;omega
   ·rw[ih];simp;omega
theorem MN: ∀a b c:List Int,cmpL a b≤0→cmpL b c≤0→cmpL a c≤0
 |[],[],_,_,h=>h
 |[],_::_,[],_,h=>by simp[cmpL] at h
 |[],_::_,_::_,_,_=>by simp[cmpL]
 |_::_,[],_,h,_=>by simp[cmpL] at h
 |_::_,_::_,[],_,h=>by simp[cmpL] at h
 | x ::a,y::b,z::c,h1,h2=>by
  have ih:=MN a b c
  rw[cmpL] at h1 h2 ⊢
  split at h1
  ·split at h2
   ·rw[if_pos (by omega)];omega
   ·split at h2
    ·omega
    ·rw[if_pos (by omega)];omega
  ·split at h1
   ·omega
   ·split at h2
    ·rw[if_pos (by omega)];omega
    ·split at h2
     ·omega
     ·rw[if_neg (by omega),if_neg (by omega)];exact ih h1 h2
abbrev RT:=List Int × Int
def kG (a b:RT):Int:=if cmpL a.1 b.1≠0 then cmpL a.1 b.1 else gF a.2 b.2
theorem rM (a b:RT):kG b a= -kG a b:=by
 unfold kG
 rw[rU a.1 b.1,PR a.2 b.2]
 split<;>split<;>omega
theorem YL (a b:RT):kG a b=0↔a=b:=by
 unfold kG
 have h1:=cmpL_eq a.1 b.1
 have h2:= @fP a.2 b.2
 rw[Prod.ext_iff]
 split
 ·rename_i c
  constructor
  ·intro h;exact absurd h c
  ·intro h;exact absurd (h1.2 h.1) c
 ·rename_i c
  rw[h2]
  constructor
  ·intro h;exact⟨h1.1 (by omega),h⟩
  ·intro h;exact h.2
theorem YV {a b:Int}:gF a b≤0↔a≤b:=by unfold gF;split<;>(try split)<;>omega
theorem DK {a b:RT}:kG a b≤0↔cmpL a.1 b.1<0∨a.1=b.1∧a.2≤b.2:=by
 unfold kG
 have h1:=cmpL_eq a.1 b.1
 have h2:= @YV a.2 b.2
 split
 ·rename_i c
  constructor
  ·intro h;left;omega
  ·rintro (h|h)
   ·omega
   ·exact absurd (h1.2 h.1) c
 ·rename_i c
  rw[h2]
  constructor
  ·intro h;exact .inr ⟨h1.1 (by omega),h⟩
  ·rintro (h|h)
   ·omega
   ·exact h.2
theorem LM (a b c:RT) (h1:kG a b≤0) (h2:kG b c≤0):kG a c≤0:=by
 rw[DK] at h1 h2 ⊢
 have h:=MN a.1 b.1 c.1
 have e1:=cmpL_eq a.1 b.1
 have e2:=cmpL_eq b.1 c.1
 have e3:=cmpL_eq a.1 c.1
 rcases h1 with h1|h1
 ·rcases h2 with h2|h2
  ·have a1:=h (by omega) (by omega)
   rcases Int.lt_or_eq_of_le a1 with g|g
   ·exact .inl g
   ·have e:=e3.1 g
    rw[e,rU b.1 c.1] at h1
    omega
  ·exact .inl (by rw[←h2.1];exact h1)
 ·rcases h2 with h2|h2
  ·exact .inl (by rw[h1.1];exact h2)
  ·exact .inr ⟨h1.1.trans h2.1,by omega⟩
theorem tH {l m:List RT} (hp:l.Perm m) (hl:l.Pairwise fun a b=>kG a b≤0) (hm:m.Pairwise fun a b=>kG a b≤0):l=m:=
 hp.eq_of_pairwise (fun a b _ _ h1 h2=>(YL a b).1 (by rw[rM a b] at h2;omega)) hl hm
def lw (u:List Int):List Int:=QV u (aFm u)
def pK (c:List Int):List Int:=c.take (rl c).toNat
def kQ (c:List Int):Int:=(c.length:Int)/rl c
def HY (u:List Int):RT:=(pK (lw u),kQ (lw u))
def fO (ws:List (List Int)):List RT:=(ws.filter fun w=>decide (0<w.length)).map HY
def BU (ws:List (List Int)):List RT:=(fO ws).mergeSort fun a b=>decide (kG a b≤0)
def aAr (r:RT):List Int:=rep r.1 r.2
def canon (ws:List (List Int)):List (List Int):=(BU ws).map aAr
theorem HV (ws:List (List Int)):(BU ws).Perm (fO ws):=List.mergeSort_perm _ _
theorem zC (ws:List (List Int)):(BU ws).Pairwise fun a b=>kG a b≤0:=by
 have:=List.pairwise_mergeSort (le:=fun a b:RT=>decide (kG a b≤0)) (fun a b c h1 h2=>decide_eq_true (LM a b c (of_decide_eq_true h1) (of_decide_eq_true h2))) (fun a b=>by
  rw[Bool.or_eq_true,decide_eq_true_eq,decide_eq_true_eq,rM a b];omega) (fO ws)
 exact this.imp fun h=>of_decide_eq_true h
theorem OA {ws:List (List Int)} {l:List RT} (hp:l.Perm (fO ws)) (hs:l.Pairwise fun a b=>kG a b≤0):l=BU ws:=tH (hp.trans (HV ws).symm) hs (zC ws)
theorem aBe {a b:List Int} (hl:a.length=b.length) (h:om a=om b):a=b:=by
 refine bB hl fun j h0 h1=> ?_
 have:=congrFun h j.toNat
 rw[vF (by omega),vF (by omega)] at this
 exact this
theorem aAv {c:List Int} (h:0<c.length):(c.length:Int)%rl c=0:=by
 obtain⟨r,e,r1,r2,_,_⟩:=zM h
 unfold rl
 split
 ·exact Int.emod_self
 ·omega
theorem RV {c:List Int} (h:0<c.length):((pK c).length:Int)=rl c:=by
 have:=uM h
 unfold pK
 rw[List.length_take]
 omega
theorem xD {c:List Int} (h:0<c.length):kQ c*rl c=c.length:=Int.ediv_mul_cancel (Int.dvd_of_emod_eq_zero (aAv h))
theorem NJ {c:List Int} (h:0<c.length):0<kQ c:=by
 have h1:=xD h
 have h2:=uM h
 rcases Int.lt_or_le 0 (kQ c) with a|a
 ·exact a
 ·have:=Int.mul_nonneg_of_nonpos_of_nonpos a (show -(rl c)≤0 by omega)
  rw[Int.mul_neg] at this
  omega
theorem XI {c:List Int} (h:0<c.length):om (pK c)=om c:=by
 obtain⟨r,e,r1,r2,ho,_⟩:=KO h
 funext i
 rw[ho i]
 unfold pK
 rw[e]
 rfl
theorem AZ {c:List Int} (h:0<c.length):rep (pK c) (kQ c)=c:=by
 have hr:=RV h
 have hp:=uM h
 have ht:=NJ h
 have hl:(rep (pK c) (kQ c)).length=c.length:=by
  rw[oM]
  have h1:=xD h
  have:((kQ c).toNat*(pK c).length:Int)=c.length:=by
   rw[Int.toNat_of_nonneg (by omega),hr,h1]
  exact_mod_cast this
 refine aBe hl ?_
 rw[show kQ c=((kQ c).toNat:Int) by omega]
 funext i
 rw[aBd (by omega) (by omega),XI h]
theorem mM (a b:List (List Int)):fO (a++b)=fO a++fO b:=by unfold fO;rw[List.filter_append,List.map_append]
end Go.Pure

namespace Go.Eng
open Go Go.RowKit Go.Pure
section
variable {P:Program} {n:Nd} {B:Nat} {w0:World} {L:Env} {R:List Row} {ty:TypeId}
theorem OD {w:World} {A:Option Addr} {m c:Nat} {k:IntKind} {u:List Int} (h:Rd w A m c 1 (ints k u)) (hA:A.isNone=true):u=[]:=by
 cases u with
 |nil=>rfl
 |cons y l=>
  obtain⟨b,g,_⟩:=h.at_ 0 (.int k y) (by simp[ints])
  rw[g] at hA
  cases hA
theorem SlR.weak {k:IntKind} {Rs Rs':List Row} {vals:List Value} {ls:List (List Int)} (h:SlR k Rs vals ls) (hr: ∀B w0 w,Hp B w0 w Rs'→Hp B w0 w Rs):SlR k Rs' vals ls:=
 ⟨h.1,fun j hj=>by
  obtain⟨A,c,h1,h2⟩:=h.2 j hj
  exact⟨A,c,h1,fun B w0 w hw=>h2 B w0 w (hr B w0 w hw)⟩⟩
theorem SlR.right {k:IntKind} {Rs:List Row} {vals:List Value} {ls:List (List Int)} (h:SlR k Rs vals ls) (X:List Row):SlR k (X++Rs) vals ls:=h.weak fun _ _ _ hw=>hw.right
theorem SlR.left {k:IntKind} {Rs:List Row} {vals:List Value} {ls:List (List Int)} (h:SlR k Rs vals ls) (T:List Row):SlR k (Rs++T) vals ls:=h.weak fun _ _ _ hw=>hw.left
theorem DT {l m:List (List Int)} {j:Nat} (h:j<l.length):(l++m).getD j []=l.getD j []:=by
 rw[List.getD_eq_getElem?_getD,List.getD_eq_getElem?_getD,List.getElem?_append_left h]
theorem SlR.app {k:IntKind} {Rs:List Row} {v1 v2:List Value} {l1 l2:List (List Int)} (h:SlR k Rs v1 l1) (g:SlR k Rs v2 l2):SlR k Rs (v1++v2) (l1++l2):=by
 refine⟨by simp[h.1,g.1],fun j hj=> ?_⟩
 rcases Nat.lt_or_ge j l1.length with q|q
 ·obtain ⟨A,c,h1,h2⟩:=h.2 j q
  rw[DT q,List.getElem?_append_left (by rw[h.1];exact q)]
  exact⟨A,c,h1,h2⟩
 ·rw [List.length_append] at hj
  obtain⟨A,c,h1,h2⟩:=g.2 (j-l1.length) (by omega)
  have e:(l1++l2).getD j []=l2.getD (j-l1.length) []:=by
   rw[List.getD_eq_getElem?_getD,List.getD_eq_getElem?_getD,List.getElem?_append_right q]
  rw[e,List.getElem?_append_right (by rw[h.1];exact q),h.1]
  exact⟨A,c,h1,h2⟩
theorem SlR.take {k:IntKind} {Rs:List Row} {vals:List Value} {ls:List (List Int)} (h:SlR k Rs vals ls) (i:Nat):SlR k Rs (vals.take i) (ls.take i):=by
 refine⟨by simp[h.1],fun j hj=> ?_⟩
 rw[List.length_take] at hj
 obtain⟨A,c,h1,h2⟩:=h.2 j (by omega)
 have e:(ls.take i).getD j []=ls.getD j []:=by
  rw[List.getD_eq_getElem?_getD,List.getD_eq_getElem?_getD,List.getElem?_take_of_lt (by omega)]
 rw[e,List.getElem?_take_of_lt (by omega)]
 exact⟨A,c,h1,h2⟩
theorem SlR.drop {k:IntKind} {Rs:List Row} {vals:List Value} {ls:List (List Int)} (h:SlR k Rs vals ls) (i:Nat):SlR k Rs (vals.drop i) (ls.drop i):=by
 refine⟨by simp[h.1],fun j hj=> ?_⟩
 rw[List.length_drop] at hj
 obtain⟨A,c,h1,h2⟩:=h.2 (i+j) (by omega)
 have e:(ls.drop i).getD j []=ls.getD (i+j) []:=by
  rw[List.getD_eq_getElem?_getD,List.getD_eq_getElem?_getD,List.getElem?_drop]
 rw[e,List.getElem?_drop]
 exact⟨A,c,h1,h2⟩
theorem SlR.single {k:IntKind} {Rs:List Row} {A:Option Addr} {m c:Nat} {l:List Int} (hm:m=l.length) (h: ∀B w0 w,Hp B w0 w Rs→Rd w A m c 1 (ints k l)):SlR k Rs [.slice A m c] [l]:=by
 subst hm
 refine⟨rfl,fun j hj=> ?_⟩
 simp only[List.length_singleton] at hj
 obtain rfl:j=0:=by omega
 exact⟨A,c,rfl,h⟩
theorem SlR.push {k:IntKind} {Rs:List Row} {vals:List Value} {ls:List (List Int)} {A:Option Addr} {m c:Nat} {l:List Int} (h:SlR k Rs vals ls) (hm:m=l.length) (hr: ∀B w0 w,Hp B w0 w Rs→Rd w A m c 1 (ints k l)):SlR k Rs (vals++[.slice A m c]) (ls++[l]):=h.app (SlR.single hm hr)
theorem SlR.one {k:IntKind} {Rs:List Row} {vals:List Value} {ls:List (List Int)} (h:SlR k Rs vals ls): ∀v∈vals,v.oneCell'=true:=fun v hv=>by
 obtain⟨j,hj,e⟩:=List.mem_iff_getElem.1 hv
 obtain⟨A,c,h1,_⟩:=h.2 j (by rw[←h.1];exact hj)
 rw[List.getElem?_eq_getElem hj,e] at h1
 obtain rfl:=Option.some.inj h1
 simp[Value.oneCell']
def OkB (ls:List (List Int)):Prop:= ∀l∈ls,aP l∧l.length≤140737488355327
theorem SlW.take {k:IntKind} {w:World} {vals:List Value} {ls:List (List Int)} (h:SlW k w vals ls) (i:Nat):SlW k w (vals.take i) (ls.take i):=by
 refine⟨by simp[h.1],fun j hj=> ?_⟩
 rw[List.length_take] at hj
 have e:(ls.take i).getD j []=ls.getD j []:=by
  rw[List.getD_eq_getElem?_getD,List.getD_eq_getElem?_getD,List.getElem?_take_of_lt (by omega)]
 rw[e,List.getElem?_take_of_lt (by omega)]
 exact h.2 j (by omega)
theorem SlW.one {k:IntKind} {w:World} {vals:List Value} {ls:List (List Int)} (h:SlW k w vals ls): ∀v∈vals,v.oneCell'=true:=fun v hv=>by
 obtain⟨j,hj,e⟩:=List.mem_iff_getElem.1 hv
 obtain⟨A,c,h1,_⟩:=h.2 j (by rw[←h.1];exact hj)
 rw[List.getElem?_eq_getElem hj,e] at h1
 obtain rfl:=Option.some.inj h1
 simp[Value.oneCell']
theorem SlW.app {k:IntKind} {w:World} {v1 v2:List Value} {l1 l2:List (List Int)} (h:SlW k w v1 l1) (g:SlW k w v2 l2):SlW k w (v1++v2) (l1++l2):=by
 refine⟨by simp[h.1,g.1],fun j hj=> ?_⟩
 rcases Nat.lt_or_ge j l1.length with q|q
 ·rw [DT q,List.getElem?_append_left (by rw[h.1];exact q)]
  exact h.2 j q
 ·rw [List.length_append] at hj
  have e:(l1++l2).getD j []=l2.getD (j-l1.length) []:=by
   rw[List.getD_eq_getElem?_getD,List.getD_eq_getElem?_getD,List.getElem?_append_right q]
  rw[e,List.getElem?_append_right (by rw[h.1];exact q),h.1]
  exact g.2 (j-l1.length) (by omega)
structure RC where
 A:Option Addr
 c:Nat
 root:List Int
 times:Int
def encR (r:RC):List Value:=[.slice r.A r.root.length r.c, .int .i64 r.times]
def RC.rt (r:RC):RT:=(r.root,r.times)
def rdG (l:List RC) (i:Int):RC:=l.getD i.toNat ⟨none,0,[],0⟩
def rgs (l:List RC):List Value:=l.flatMap encR
def RgR (Rs:List Row) (l:List RC):Prop:= ∀r∈l,aP r.root∧ ∀(B:Nat) (w0 w:World),Hp B w0 w Rs→Rd w r.A r.root.length r.c 1 (ints .u8 r.root)
theorem RgR.nil (Rs:List Row):RgR Rs []:=fun r h=>by cases h
theorem RgR.weak {Rs Rs':List Row} {l:List RC} (h:RgR Rs l) (hr: ∀B w0 w,Hp B w0 w Rs'→Hp B w0 w Rs):RgR Rs' l:=fun r h'=>⟨(h r h').1,fun B w0 w hw=>(h r h').2 B w0 w (hr B w0 w hw)⟩
theorem RgR.right {Rs:List Row} {l:List RC} (h:RgR Rs l) (X:List Row):RgR (X++Rs) l:=h.weak fun _ _ _ hw=>hw.right
theorem RgR.snoc {Rs:List Row} {l:List RC} {e m:Nat} {A:Option Addr} {c:Nat} {u:List Int} {t:Int} {ro:Bool} (h:RgR Rs l) (hm:m=u.length) (hb:aP u):RgR (⟨e,1,A,m,c,ints .u8 u,ro⟩::Rs) (l++[⟨A,c,u,t⟩]):=fun r hr=>by
 subst hm
 rcases List.mem_append.1 hr with hr|hr
 ·exact⟨(h r hr).1,fun B w0 w hw=>(h r hr).2 B w0 w hw.tail⟩
 ·obtain rfl:=List.mem_singleton.1 hr
  exact⟨hb,fun B w0 w hw=>rdr (R:=⟨e,1,A,u.length,c,ints .u8 u,ro⟩::Rs) 0 rfl w hw⟩
theorem RgR.perm {Rs:List Row} {l m:List RC} (h:RgR Rs l) (hp:m.Perm l):RgR Rs m:=fun r hr=>h r (hp.subset hr)
end
end Go.Eng

namespace Go.Proofs.YtdbebmmhdefgdaaGreat
open Go Go.Eng Go.Pure
set_option linter.unusedVariables false
set_option maxRecDepth 100000
theorem yB {w:World} {x:Int}:
  Ct Tryz.prog 194 #[I x] w.heap.size w [] (fun v R'=>v= .bool false):=by
 refine fn1 Tryz.func194 Z Z Z ?_
 refine wq<|wg Z<|aA<|wq<|wm Z<|wm Z<|wy (Yl.f (qW Z Z) (by omega))<|wg Z<|aA<|fC ?_
 refine⟨_,Z,?_⟩
 rfl
theorem kK {w:World} {x:Int} {y:Int}:
  Ct Tryz.prog 121 #[I x,I y] w.heap.size w [] (fun v R'=>v=I (gF x y)):=by
 refine fn1 Tryz.func121 Z Z Z ?_
 refine wq<|wg Z<|aA<|wq<|wm Z<|wa (aC aAk Z (Ct.quiet (fun w hw=>yB))) ?_
 rintro _ _ ⟨rfl,rfl⟩
 refine wg Z<|aA<|wq<|wm Z<|wa (aC aAk Z (Ct.quiet (fun w hw=>yB))) ?_
 rintro _ _ ⟨rfl,rfl⟩
 refine wg Z<|aA<|aF<|wq<|wm Z<|aA<|aL Z<|aM<|aF<|wq<|wm Z<|aA<|aL Z ?_
 refine aM<|aF<|wq<|wm Z<|wm Z<|wL Z Z<|aA<|bR Z (fun hc1=> ?_) (fun hc1=> ?_)
 ·refine wq<|wg Z<|aA<|fC ?_
  refine⟨_,Z,?_⟩
  exact congrArg (Value.int .i64) (by unfold gF;rw[if_pos (by omega)])
 ·refine aM<|aF<|wq<|wm Z<|wm Z<|wy (kU Z Z)<|aA<|bR Z (fun hc2=> ?_) (fun hc2=> ?_)
  ·refine wq<|wg Z<|aA<|fC ?_
   refine⟨_,Z,?_⟩
   exact congrArg (Value.int .i64) (by unfold gF;rw[if_neg (by omega),if_pos (by omega)])
  ·refine aM<|wq<|wg Z<|aA<|fC ?_
   refine⟨_,Z,?_⟩
   exact congrArg (Value.int .i64) (by unfold gF;rw[if_neg (by omega),if_neg (by omega)])
end Go.Proofs.YtdbebmmhdefgdaaGreat

namespace Go.Proofs.YtdbebmmhdefgdaaGreat
open Go Go.Eng Go.Pure
open Tryz
set_option linter.unusedVariables false
set_option maxRecDepth 100000
theorem yL {w:World} {A_u:Option Addr} {n_u c_u:Nat} {u:List Int} (h_u:Rd w A_u n_u c_u 1 (ints .u8 u)) (hN:u.length≤1000000):
  Ct Tryz.prog 57 #[.slice A_u n_u c_u] w.heap.size w [] (fun v R'=> ∃A c,v= .slice A (u).length c∧R'=[(ru 5 A ((u).length) c (u))]):=by
 obtain rfl:=h_u.lenI
 refine fn1 Tryz.func57 Z Z Z ?_
 have m_u:=h_u.max
 refine wq<|eY (R1:=[(ru 5 none 0 0 ([]))]) (Sub.refl _) (fun _ h=>h.nil 5 1)<|wg Z<|aA<|aF<|wq<|wm Z<|wy (JZ underlying22 Z Z)<|aA<|uJ Z (fun hc1=> ?_) (fun hc1=> ?_)
 ·refine wq<|wg Z<|aA<|aY [0] 99 (by decide) Z ?_
  refine⟨_,Z,?_⟩
  obtain rfl:=OD h_u hc1
  exact⟨_,_,Z,Z⟩
 ·refine aM<|wq<|wa (bV .u8 [] underlying22 zs5 Z Z Z) ?_
  rintro _ _ ⟨g_2,rfl,rfl⟩
  refine wm Z<|wa (bX 0 Z underlying22 zb5 Z Z Z (h_u.c _) (by omega)) ?_
  rintro _ _ ⟨A_3,c_4,rfl,rfl⟩
  refine bY (v:= .slice A_3 (0+u.length) c_4) Z<|wg Z<|aA<|aY [0] 99 (by decide) Z ?_
  refine⟨_,Z,?_⟩
  simp only[List.nil_append,Nat.zero_add]
  exact⟨_,_,Z,Z⟩
end Go.Proofs.YtdbebmmhdefgdaaGreat

namespace Go.Proofs.YtdbebmmhdefgdaaGreat
open Go Go.Eng Go.Pure
set_option linter.unusedVariables false
set_option maxRecDepth 100000
end Go.Proofs.YtdbebmmhdefgdaaGreat

namespace Go.Proofs.YtdbebmmhdefgdaaGreat
open Go Go.Eng Go.Pure
open Tryz
set_option linter.unusedVariables false
set_option maxRecDepth 100000
theorem nE {w:World} {A_ks:Option Addr} {n_ks c_ks:Nat} {ks:List Int} {k:Int} (h_ks:Rd w A_ks n_ks c_ks 1 (ints .i64 ks)) (hok:(0≤k∧k≤1048576)∧ ∀x∈ks,0≤x∧x<k):
  Ct Tryz.prog 264 #[.slice A_ks n_ks c_ks,I k] w.heap.size w [] (fun v R'=> ∃A c,v= .tuple #[.slice A k.toNat c, .bool true]∧R'=[(ri 3 A k.toNat c (bM ks k))]):=by
 obtain rfl:=h_ks.lenI
 refine fn2 Tryz.func264 Z Z Z ?_
 have m_ks:=h_ks.max
 have hk:=hok.1
 refine wq<|wg Z<|wg Z<|aA<|aF<|wq<|wm Z<|wL Z Z<|wm Z<|gH 3 [(0, .slice A_ks ks.length c_ks),(1,I k),(14, .bool (decide ((k<0)∨(1048576<k))))] [] ?_ ?_
 ·refine fA 11 Z (fun hc1=> ?_) (fun hc1=> ?_)
  ·refine aT Z Z Z Z<|aT Z Z Z Z<|wy (aX Z Z)<|aA ?_
   exact⟨(sc Z (sc Z (Sub.to Z (CX (by first|omega|exact⟨fun h=>⟨(by assumption),h⟩,fun h=>h.2⟩|exact .inl (by assumption)|exact⟨.inr,fun h=>h.resolve_left (by assumption)⟩|exact⟨fun h=>h.resolve_left (by assumption), .inr⟩|simp[*])) Sub.nil))),fun _ h=>h⟩
  ·refine aD Z Z<|wm Z<|aD Z Z<|wy (kU Z Z)<|wy (bG Z Z)<|aA ?_
   exact⟨(sc Z (sc Z (Sub.to Z (mb (by first|omega|exact⟨fun h=>⟨(by assumption),h⟩,fun h=>h.2⟩|exact .inl (by assumption)|exact⟨.inr,fun h=>h.resolve_left (by assumption)⟩|exact⟨fun h=>h.resolve_left (by assumption), .inr⟩|simp[*])) Sub.nil))),fun _ h=>h⟩
 refine tL 14 Z (by omega)<|aA<|aL Z<|aM<|wq<|wm Z<|wa (dY underlying52 zb3 Z Z (by omega) (by omega) (by omega)) ?_
 rintro _ _ ⟨g_1,rfl,rfl⟩
 refine bY (v:= .slice (GG g_1) ((k).toNat) ((k).toNat)) Z<|wg Z<|aA<|aF<|wq<|wm Z<|wy (aV underlying52 Z)<|wm Z<|aA<|aI ?_
 refine jB (fun(m:Int) (V:List Int)=>[(1,I k),(6, .slice (GG g_1) ((k).toNat) ((k).toNat)),(17, .slice A_ks ks.length c_ks),(18,I ((ks.length:Nat):Int)),(19,I m)]) (fun(m:Int) (V:List Int)=>[(ri 3 (GG g_1) ((k).toNat) ((k).toNat) V)]) (fun(m:Int) (V:List Int)=>(0≤m)∧(m≤ks.length)∧(V=bM (ks.take m.toNat) k)) (fun(m:Int) (V:List Int)=>(ks.length-m).toNat) ?_ ?_
 ·exact⟨0,List.replicate ((k).toNat) (0:Int),⟨(by omega),(by omega),((EW k).symm)⟩,(G5 Z Z Z Z Z),fun _ h=>h⟩
 intro m V ⟨hm0,hm1,hV⟩
 refine wq<|wL Z Z<|aA<|aF<|bR Z (fun hc2=> ?_) (fun hc2=> ?_)
 ·have hx:=hok.2 _ (bA (L:=ks) hm0 (by omega))
  have hb:0≤rd V (rd ks m)∧rd V (rd ks m)≤m:=by
   have a:=vW (ks:=ks.take m.toNat) (k:=k) (x:=rd ks m)
   rw[←hV,List.length_take] at a
   omega
  refine aM<|aF<|aI<|wq<|wy (aB underlying52 sz3 Z Z (h_ks.c _) (by omega) (by omega))<|wy (aZ underlying3 Z Z (h_ks.c _) (by omega) (by omega))<|wg Z<|aA<|aF<|wq<|wm Z<|wL Z Z<|wm Z ?_
  refine gH 4 [(1,I k),(6, .slice (GG g_1) ((k).toNat) ((k).toNat)),(8,I (rd ks m)),(17, .slice A_ks ks.length c_ks),(18,I ((ks.length:Nat):Int)),(19,I m),(29, .bool (decide (((rd ks m)<0)∨(k≤(rd ks m)))))] [(ri 3 (GG g_1) ((k).toNat) ((k).toNat) V)] ?_ ?_
  ·refine fA 25 Z (fun hc3=> ?_) (fun hc3=> ?_)
   ·refine aT Z Z Z Z<|aT Z Z Z Z<|aT Z Z Z Z<|wy (aX Z Z)<|aA ?_
    exact⟨(sc Z (sc Z (sc Z (sc Z (sc Z (sc Z (Sub.to Z (CX (by first|omega|exact⟨fun h=>⟨(by assumption),h⟩,fun h=>h.2⟩|exact .inl (by assumption)|exact⟨.inr,fun h=>h.resolve_left (by assumption)⟩|exact⟨fun h=>h.resolve_left (by assumption), .inr⟩|simp[*])) Sub.nil))))))),fun _ h=>h⟩
   ·refine aD Z Z<|wm Z<|aD Z Z<|wm Z<|aD Z Z<|wy (yQ Z Z)<|wy (bG Z Z)<|aA ?_
    exact⟨(sc Z (sc Z (sc Z (sc Z (sc Z (sc Z (Sub.to Z (mb (by first|omega|exact⟨fun h=>⟨(by assumption),h⟩,fun h=>h.2⟩|exact .inl (by assumption)|exact⟨.inr,fun h=>h.resolve_left (by assumption)⟩|exact⟨fun h=>h.resolve_left (by assumption), .inr⟩|simp[*])) Sub.nil))))))),fun _ h=>h⟩
  refine tL 29 Z (by omega)<|aA<|aL Z<|aM<|aN<|wm Z<|wm Z<|wy (aB underlying52 sz3 Z Z (rdr 0 Z) (by omega) (by omega))<|wy (aZ underlying3 Z Z (rdr 0 Z) (by omega) (by omega))<|wA Z Z<|wy (aB underlying52 sz3 Z Z (rdr 0 Z) (by omega) (by omega))<|dK (bD 0 Z sz3 Z Z (by omega) (by omega)) ?_
  rintro _ _ rfl
  refine aA<|aN<|wA Z Z<|wm Z<|aA ?_
  exact⟨m+1,upd V (rd ks m) ((rd V (rd ks m))+1),⟨(by omega),(by omega),(by rw[dG hm0 (by omega),←yJ hx.1 hx.2,←hV])⟩,(by omega),(G5 Z Z Z Z Z),fun _ h=>h⟩
 ·refine bF<|wq<|wm Z<|wg Z<|wg Z<|aA<|aY [0] 99 (by decide) Z ?_
  refine⟨_,_,Z,Z,?_⟩
  have e:ks.take m.toNat=ks:=List.take_of_length_le (by omega)
  rw[e] at hV
  subst hV
  exact⟨_,_,Z,Z⟩
theorem qZ {w:World} {A_cs:Option Addr} {n_cs c_cs:Nat} {cs:List Int} (h_cs:Rd w A_cs n_cs c_cs 1 (ints .i64 cs)) (hcs: ∀x∈cs,0≤x) (hsum:cs.sum≤1000000000) (hcl:cs.length≤1048576):
  Ct Tryz.prog 280 #[.slice A_cs n_cs c_cs] w.heap.size w [] (fun v R'=> ∃A c,v= .slice A (bJ cs).length c∧R'=[(ri 3 A ((bJ cs).length) c (bJ cs))]):=by
 obtain rfl:=h_cs.lenI
 refine fn1 Tryz.func280 Z Z Z ?_
 have m_cs:=h_cs.max
 refine wq<|wg Z<|aA<|wq<|wm Z<|wy (aV underlying52 Z)<|wa (dY underlying52 zb3 Z Z (by omega) (by omega) (by omega)) ?_
 rintro _ _ ⟨g_1,rfl,rfl⟩
 refine bY (v:= .slice (GG g_1) cs.length cs.length) Z<|wg Z<|aA<|wq<|wg Z<|aA<|aF<|wq<|wm Z<|wy (aV underlying52 Z)<|wm Z<|aA<|aI ?_
 refine gV (fun(i:Int) (n:Int) (V:List Int)=>[(3, .slice (GG g_1) cs.length cs.length),(4,I n),(10, .slice A_cs cs.length c_cs),(11,I ((cs.length:Nat):Int)),(12,I i)]) (fun(i:Int) (n:Int) (V:List Int)=>[(ri 3 (GG g_1) cs.length cs.length V)]) (fun(i:Int) (n:Int) (V:List Int)=>(0≤i)∧(i≤cs.length)∧(n=ps cs i)∧(V.length=cs.length)∧(∀j:Int,0≤j→j<i→rd V j=ps cs j)) (fun(i:Int) (n:Int) (V:List Int)=>(cs.length-i).toNat) ?_ ?_
 ·exact⟨0,0,List.replicate cs.length (0:Int),⟨(by omega),(by omega),(Z),(by rw[List.length_replicate]),(fun j h1 h2=>by omega)⟩,(G5 rfl rfl rfl rfl rfl),fun _ h=>h⟩
 intro i n V ⟨hi0,hi1,hn,hl,hV⟩
 refine wq<|wL Z Z<|aA<|aF<|bR Z (fun hc1=> ?_) (fun hc1=> ?_)
 ·have hb1:=mP hcs i
  have hb2:=mP hcs (i+1)
  rw[kI hi0 (by omega)] at hb2
  refine aM<|aF<|aI<|wq<|wm Z<|wy (aB underlying52 sz3 Z Z (h_cs.c _) (by omega) (by omega))<|wy (aZ underlying3 Z Z (h_cs.c _) (by omega) (by omega))<|wg Z<|wg Z<|aA<|wq<|wm Z<|wm Z ?_
  refine wm Z<|wy (aB underlying52 sz3 Z Z (rdr 0 Z) (by omega) (by omega))<|dK (bD 0 Z sz3 Z Z (by omega) (by omega)) ?_
  rintro _ _ rfl
  refine aA<|aN<|wm Z<|wm Z<|wA Z Z<|wg Z<|aA<|aN<|wA Z Z<|wm Z<|aA ?_
  exact⟨i+1,n+(rd cs i),upd V i n,⟨(by omega),(by omega),(by rw[kI hi0 (by omega),hn]),(by rw[aQ];exact hl),(gQ hi0 (by omega) hV hn)⟩,(by omega),(G5 Z Z Z Z Z),fun _ h=>h⟩
 ·refine bF<|wq<|wm Z<|wg Z<|aA<|aY [0] 99 (by decide) Z ?_
  refine⟨_,Z,?_⟩
  obtain rfl:V=bJ cs:=bB (hl.trans (bZ cs).symm) fun j h1 h2=>by rw[jW h1 (by omega)];exact hV j h1 (by omega)
  rw[bZ]
  exact⟨_,_,Z,Z⟩
set_option maxHeartbeats 800000 in
theorem KZ {w:World} {A_order:Option Addr} {n_order c_order:Nat} {order:List Int} {A_keys:Option Addr} {n_keys c_keys:Nat} {keys:List Int} {k:Int} (h_order:Rd w A_order n_order c_order 1 (ints .i64 order)) (h_keys:Rd w A_keys n_keys c_keys 1 (ints .i64 keys)) (hk:0≤k∧k≤1048576) (hkeys: ∀x∈keys,0≤x∧x<k) (ho: ∀i∈order,0≤i∧i<keys.length) (hlen:order.length≤1000000):
  Ct Tryz.prog 239 #[.slice A_order n_order c_order, .slice A_keys n_keys c_keys,I k] w.heap.size w [] (fun v R'=> ∃A c,v= .tuple #[.slice A order.length c, .bool true]∧R'=[(ri 3 A order.length c (bN order keys k.toNat))]):=by
 obtain rfl:=h_order.lenI
 obtain rfl:=h_keys.lenI
 refine fn2 Tryz.func239 Z Z Z ?_
 have m_order:=h_order.max
 have m_keys:=h_keys.max
 have hko: ∀i∈order,0≤rd keys i∧rd keys i<k:=fun i hi=>hkeys _ (bA (ho i hi).1 (ho i hi).2)
 refine wq<|wg Z<|wg Z<|aA<|aF<|wq<|wm Z<|wm Z<|wa (aC VC Z (Ct.fresh (fun w hw=>nE ((h_keys.c _) w hw) ⟨hk,hkeys⟩))) ?_
 rintro _ _ ⟨_,rfl,A_1,c_2,rfl,rfl⟩
 refine wm Z<|wX Z Z<|wX Z Z<|wg Z<|wg Z<|aA<|wq<|wm Z<|wy (mE Z)<|aA<|aL Z<|aM<|wq ?_
 refine wm Z<|wa (dY underlying52 zb3 Z Z (by omega) (by omega) (by omega)) ?_
 rintro _ _ ⟨g_4,rfl,rfl⟩
 refine bY (v:= .slice (GG g_4) ((k).toNat) ((k).toNat)) Z<|wg Z<|aA<|aF<|wq<|wm Z<|wy (aV underlying52 Z)<|wm Z<|aA<|aI ?_
 refine jB (fun(m:Int) (V:List Int)=>[(0, .slice A_order order.length c_order),(1, .slice A_keys keys.length c_keys),(10, .slice (GG g_4) ((k).toNat) ((k).toNat)),(27, .slice A_order order.length c_order),(28,I ((order.length:Nat):Int)),(29,I m)]) (fun(m:Int) (V:List Int)=>[(ri 3 (GG g_4) ((k).toNat) ((k).toNat) V),(ri 3 A_1 ((k).toNat) c_2 (bM keys k))]) (fun(m:Int) (V:List Int)=>(0≤m)∧(m≤order.length)∧(V=bM ((order.take m.toNat).map (rd keys)) k)) (fun(m:Int) (V:List Int)=>(order.length-m).toNat) ?_ ?_
 ·exact⟨0,List.replicate ((k).toNat) (0:Int),⟨(by omega),(by omega),((EW k).symm)⟩,(G6 Z Z Z Z Z Z),fun _ h=>h⟩
 intro m V ⟨hm0,hm1,hV⟩
 refine wq<|wL Z Z<|aA<|aF<|bR Z (fun hc1=> ?_) (fun hc1=> ?_)
 ·have hi:=ho _ (bA (L:=order) hm0 (by omega))
  have hx:=hko _ (bA (L:=order) hm0 (by omega))
  have hb:0≤rd V (rd keys (rd order m))∧rd V (rd keys (rd order m))≤m:=by
   have a:=vW (ks:=(order.take m.toNat).map (rd keys)) (k:=k) (x:=rd keys (rd order m))
   rw[←hV,List.length_map,List.length_take] at a
   omega
  have hVl:V.length=k.toNat:=by rw[hV,bL]
  refine aM<|aF<|aI<|wq<|wy (aB underlying52 sz3 Z Z (h_order.c _) (by omega) (by omega))<|wy (aZ underlying3 Z Z (h_order.c _) (by omega) (by omega))<|wg Z<|aA<|aF<|wq<|wm Z<|wL Z Z<|wm Z ?_
  refine gH 5 [(0, .slice A_order order.length c_order),(1, .slice A_keys keys.length c_keys),(10, .slice (GG g_4) ((k).toNat) ((k).toNat)),(12,I (rd order m)),(27, .slice A_order order.length c_order),(28,I ((order.length:Nat):Int)),(29,I m),(40, .bool (decide (((rd order m)<0)∨(((keys.length:Nat):Int)≤(rd order m)))))] [(ri 3 (GG g_4) ((k).toNat) ((k).toNat) V),(ri 3 A_1 ((k).toNat) c_2 (bM keys k))] ?_ ?_
  ·refine fA 35 Z (fun hc2=> ?_) (fun hc2=> ?_)
   ·refine aT Z Z Z Z<|aT Z Z Z Z<|aT Z Z Z Z<|aT Z Z Z Z<|wy (aX Z Z)<|aA ?_
    exact⟨(sc Z (sc Z (sc Z (sc Z (sc Z (sc Z (sc Z (Sub.to Z (CX (by first|omega|exact⟨fun h=>⟨(by assumption),h⟩,fun h=>h.2⟩|exact .inl (by assumption)|exact⟨.inr,fun h=>h.resolve_left (by assumption)⟩|exact⟨fun h=>h.resolve_left (by assumption), .inr⟩|simp[*])) Sub.nil)))))))),fun _ h=>h⟩
   ·refine aD Z Z<|wm Z<|aD Z Z<|wm Z<|aD Z Z<|wy (aV underlying52 Z)<|aD Z Z<|wy (yQ Z Z)<|wy (bG Z Z)<|aA ?_
    exact⟨(sc Z (sc Z (sc Z (sc Z (sc Z (sc Z (sc Z (Sub.to Z (mb (by first|omega|exact⟨fun h=>⟨(by assumption),h⟩,fun h=>h.2⟩|exact .inl (by assumption)|exact⟨.inr,fun h=>h.resolve_left (by assumption)⟩|exact⟨fun h=>h.resolve_left (by assumption), .inr⟩|simp[*])) Sub.nil)))))))),fun _ h=>h⟩
  refine tL 40 Z (by omega)<|aA<|aL Z<|aM<|aN<|wm Z<|wm Z<|wm Z<|wy (aB underlying52 sz3 Z Z (h_keys.c _) (by omega) (by omega))<|wy (aZ underlying3 Z Z (h_keys.c _) (by omega) (by omega))<|wy (aB underlying52 sz3 Z Z (rdr 0 Z) (by omega) (by omega))<|wy (aZ underlying3 Z Z (rdr 0 Z) (by omega) (by omega))<|wA Z Z<|wy (aB underlying52 sz3 Z Z (rdr 0 Z) (by omega) (by omega))<|dK (bD 0 Z sz3 Z Z (by omega) (by omega)) ?_
  rintro _ _ rfl
  refine aA<|aN<|wA Z Z<|wm Z<|aA ?_
  exact⟨m+1,upd V (rd keys (rd order m)) ((rd V (rd keys (rd order m)))+1),⟨(by omega),(by omega),(by rw[dG hm0 (by omega),List.map_append,List.map_singleton,←yJ hx.1 hx.2,←hV])⟩,(by omega),(G6 Z Z Z Z Z Z),fun _ h=>h⟩
 ·have hV2:V=(bM (order.map (rd keys)) k):=by rw[hV,List.take_of_length_le (by omega)]
  have hSl:(bJ V).length=k.toNat:=by rw[bZ,hV,bL]
  refine bF<|wq<|wm Z<|wa (aC VB Z (Ct.fresh (fun w hw=>qZ ((rdr 0 Z) w hw) (by rw[hV2];exact gT _ _) (by rw[hV2,vV (by omega) hko];omega) (by rw[hV2,bL];omega)))) ?_
  rintro _ _ ⟨_,rfl,A_5,c_6,rfl,rfl⟩
  refine wg Z<|aA<|wq<|wm Z<|wy (aV underlying52 Z)<|wa (dY underlying52 zb3 Z Z (by omega) (by omega) (by omega)) ?_
  rintro _ _ ⟨g_7,rfl,rfl⟩
  refine bY (v:= .slice (GG g_7) order.length order.length) Z<|wg Z<|aA<|aF<|wq<|wm Z<|wy (aV underlying52 Z)<|wm Z<|aA<|aI ?_
  refine gV (fun(q:Int) (S:List Int) (Lr:List Int)=>[(1, .slice A_keys keys.length c_keys),(13, .slice A_5 ((bJ V).length) c_6),(14, .slice (GG g_7) order.length order.length),(56, .slice A_order order.length c_order),(57,I ((order.length:Nat):Int)),(58,I q)]) (fun(q:Int) (S:List Int) (Lr:List Int)=>[(ri 3 (GG g_7) order.length order.length Lr),(ri 3 A_5 ((bJ V).length) c_6 S),(ri 3 (GG g_4) ((k).toNat) ((k).toNat) V),(ri 3 A_1 ((k).toNat) c_2 (bM keys k))]) (fun(q:Int) (S:List Int) (Lr:List Int)=>(0≤q)∧(q≤order.length)∧(qR order keys S Lr k q)) (fun(q:Int) (S:List Int) (Lr:List Int)=>(order.length-q).toNat) ?_ ?_
  ·exact⟨0,bJ V,List.replicate order.length (0:Int),⟨(by omega),(by omega),(by rw[hV2];exact IL)⟩,(G6 Z Z Z Z Z Z),fun _ h=>h⟩
  intro q S Lr ⟨hq0,hq1,hP⟩
  refine wq<|wL Z Z<|aA<|aF<|bR Z (fun hc3=> ?_) (fun hc3=> ?_)
  ·have hi:=ho _ (bA (L:=order) hq0 (by omega))
   have hx:=hko _ (bA (L:=order) hq0 (by omega))
   have hlt:=hP.lt hko hq0 (by omega)
   have hl1:=hP.len
   have hl2:=hP.alen
   refine aM<|aF<|aI<|wq<|wy (aB underlying52 sz3 Z Z (h_order.c _) (by omega) (by omega))<|wy (aZ underlying3 Z Z (h_order.c _) (by omega) (by omega))<|wg Z<|aA<|wq<|wm Z<|wm Z<|wm Z<|wm Z ?_
   refine wy (aB underlying52 sz3 Z Z (h_keys.c _) (by omega) (by omega))<|wy (aZ underlying3 Z Z (h_keys.c _) (by omega) (by omega))<|wy (aB underlying52 sz3 Z Z (rdr 1 Z) (by omega) (by omega))<|wy (aZ underlying3 Z Z (rdr 1 Z) (by omega) (by omega))<|wm Z<|wy (aB underlying52 sz3 Z Z (rdr 0 Z) (by omega) (by omega))<|dK (bD 0 Z sz3 Z Z (by omega) (by omega)) ?_
   rintro _ _ rfl
   refine aA<|aN<|wm Z<|wm Z<|wm Z<|wy (aB underlying52 sz3 Z Z (h_keys.c _) (by omega) (by omega))<|wy (aZ underlying3 Z Z (h_keys.c _) (by omega) (by omega))<|wy (aB underlying52 sz3 Z Z (rdr 1 Z) (by omega) (by omega))<|wy (aZ underlying3 Z Z (rdr 1 Z) (by omega) (by omega))<|wA Z Z<|wy (aB underlying52 sz3 Z Z (rdr 1 Z) (by omega) (by omega))<|dK (bD 1 Z sz3 Z Z (by omega) (by omega)) ?_
   rintro _ _ rfl
   refine aA<|aN<|wA Z Z<|wm Z<|aA ?_
   exact⟨q+1,upd S (rd keys (rd order q)) ((rd S (rd keys (rd order q)))+1),upd Lr (rd S (rd keys (rd order q))) (rd order q),⟨(by omega),(by omega),(hP.step hko hq0 (by omega))⟩,(by omega),(G6 Z Z Z Z Z Z),fun _ h=>h⟩
  ·refine bF<|wq<|wm Z<|wg Z<|wg Z<|aA<|aY [0] 99 (by decide) Z ?_
   refine⟨_,_,Z,Z,?_⟩
   have e:=hP.done hko (by omega)
   subst e
   exact⟨_,_,Z,Z⟩
end Go.Proofs.YtdbebmmhdefgdaaGreat

namespace Go.Proofs.YtdbebmmhdefgdaaGreat
open Go Go.Eng Go.Pure
set_option linter.unusedVariables false
set_option maxRecDepth 100000
end Go.Proofs.YtdbebmmhdefgdaaGreat

namespace Go.Proofs.YtdbebmmhdefgdaaGreat
open Go Go.Eng Go.RowKit Go.Shelf Go.Proofs
attribute [local go_sem] Oper.semAt_some
theorem dV {W:World} {a:Addr} {n c:Nat} {xs:List Value} (h:Rd W (some a) n c 1 xs) {j:Nat} (hj:j<xs.length):W.cell? (a.add j)=some (xs[j]'hj):=by
 obtain⟨b,h1,h2⟩:=h.at_ j _ (List.getElem?_eq_getElem hj)
 obtain rfl:=Option.some.inj h1
 exact h2
theorem _root_.Go.Eng.Iter.congr {P:Program} {gf:Nat} {lb:Array Value} {Rdy:World→Prop} {N:Nat} {f f':Nat→List Value} (it:Iter P gf lb Rdy N f) (h: ∀k,k<N→f k=f' k):Iter P gf lb Rdy N f':=
 fun l J W hR hD hY h0=>it l J W hR hD (fun k W hk hJ=>by rw[h k hk];exact hY k W hk hJ) h0
theorem yC {k:IntKind} {zs:List Int} {j:Nat} (h:j<zs.length):(ints k zs)[j]?.getD undef= .int k (rd zs (j:Int)):=by
 have:=Go.Eng.ints_at (k:=k) (l:=zs) (i:=(j:Int)) (by omega) (by omega)
 rw[Int.toNat_natCast] at this
 rw[this,Option.getD_some]
set_option maxRecDepth 100000 in
set_option maxHeartbeats 2000000 in
theorem WA {g:Nat} {A:Option Addr} {c:Nat} {xs:List Value} (hmax:xs.length≤1000000):Iter Tryz.prog 240 #[.pointer (some ⟨g,0,none⟩)] (fun w=>Rd w (some ⟨g,0,none⟩) 1 1 1 [.slice A xs.length c]∧Rd w A xs.length c 1 xs) xs.length
  (fun k=>[.int .i64 (((xs.length-1-k:Nat):Int)),xs[xs.length-1-k]?.getD undef]):=by
 intro l J W hR _ hY h0
 rcases Nat.eq_zero_or_pos xs.length with hz|hpos
 ·have hc:W.cell? ⟨g,0,none⟩=some (.slice A xs.length c):=dV (hR _ _ h0).1 (j:=0) (by simp)
  rw[hz] at hc
  refine callsIn_of_wp Tryz.func240 rfl trivial ?_ rfl
  simp only[Tryz.ntmps240,List.size_toArray,List.length_cons,List.length_nil,Nat.reduceAdd,Nat.reduceSub,Array.replicate_succ,Array.replicate_zero,List.push_toArray,List.append_toArray,List.nil_append,List.cons_append]
  gi_wp2
  gi_loopw [3] (fun i wr=>i= .int .i64 (-1)∧J 0 wr) (fun _ _=>0)
  case atStart=>exact⟨rfl,h0⟩
  case round=>
   obtain⟨rfl,hJs⟩:=hrel
   gi_wp2
   go_end0
   exact⟨⟨_,rfl⟩,by rw[hz];exact hJs⟩
 ·obtain ⟨a,rfl⟩: ∃a,A=some a:=by
   obtain⟨a,h1,_⟩:=(hR _ _ h0).2.at_ 0 _ (List.getElem?_eq_getElem hpos)
   exact⟨a,h1⟩
  have hc:W.cell? ⟨g,0,none⟩=some (.slice (some a) xs.length c):=dV (hR _ _ h0).1 (j:=0) (by simp)
  refine callsIn_of_wp Tryz.func240 rfl trivial ?_ rfl
  simp only[Tryz.ntmps240,List.size_toArray,List.length_cons,List.length_nil,Nat.reduceAdd,Nat.reduceSub,Array.replicate_succ,Array.replicate_zero,List.push_toArray,List.append_toArray,List.nil_append,List.cons_append]
  gi_wp2
  gi_loopw [3] (fun i wr=>(∃k j:Nat,k+j+1=xs.length∧i= .int .i64 (j:Int)∧J k wr)∨(i= .int .i64 (-1)∧J xs.length wr)) (fun i _=>(intOf i+1).toNat)
  case atStart=>exact .inl ⟨0,xs.length-1,by omega,by rw[show((xs.length:Int)-1)=((xs.length-1:Nat):Int) by omega],h0⟩
  case round=>
   rcases hrel with⟨k,j,hkj,rfl,hJs⟩|⟨rfl,hJs⟩
   ·obtain ⟨fn,tmps,assign,body,hy,hRd⟩:=hY k wr (by omega) hJs
    rw[show xs.length-1-k=j by omega] at hy
    have hjl:j<xs.length:=by omega
    rw[List.getElem?_eq_getElem hjl] at hy
    simp only[Option.getD_some] at hy
    have hc1:wr.cell? ⟨g,0,none⟩=some (.slice (some a) xs.length c):=dV (hR _ _ hJs).1 (j:=0) (by simp)
    have hc2:=dV (hR _ _ hJs).2 hjl
    gi_wp2
    refine⟨rfl,hRd.mono ?_⟩
    rintro e W3 ⟨rfl,hJ3⟩
    gi_wp2
    go_roundw
    case rel=>
     rcases Nat.eq_zero_or_pos j with rfl|hj
     ·exact .inr ⟨by simp,by rw[←hkj];exact hJ3⟩
     ·exact .inl ⟨k+1,j-1,by omega,by rw[show((j:Int)-1)=((j-1:Nat):Int) by omega],hJ3⟩
    case measure=>simp[intOf]
   ·gi_wp2
    go_end0
    exact⟨⟨_,rfl⟩,hJs⟩
set_option maxRecDepth 100000 in
set_option maxHeartbeats 2000000 in
theorem WB {g:Nat} {A:Option Addr} {c:Nat} {xs:List Value} (hmax:xs.length≤1000000):Iter Tryz.prog 241 #[.pointer (some ⟨g,0,none⟩)] (fun w=>Rd w (some ⟨g,0,none⟩) 1 1 1 [.slice A xs.length c]∧Rd w A xs.length c 1 xs) xs.length
  (fun k=>[.int .i64 (((xs.length-1-k:Nat):Int)),xs[xs.length-1-k]?.getD undef]):=by
 intro l J W hR _ hY h0
 rcases Nat.eq_zero_or_pos xs.length with hz|hpos
 ·have hc:W.cell? ⟨g,0,none⟩=some (.slice A xs.length c):=dV (hR _ _ h0).1 (j:=0) (by simp)
  rw[hz] at hc
  refine callsIn_of_wp Tryz.func241 rfl trivial ?_ rfl
  simp only[Tryz.ntmps241,List.size_toArray,List.length_cons,List.length_nil,Nat.reduceAdd,Nat.reduceSub,Array.replicate_succ,Array.replicate_zero,List.push_toArray,List.append_toArray,List.nil_append,List.cons_append]
  gi_wp2
  gi_loopw [3] (fun i wr=>i= .int .i64 (-1)∧J 0 wr) (fun _ _=>0)
  case atStart=>exact⟨rfl,h0⟩
  case round=>
   obtain⟨rfl,hJs⟩:=hrel
   gi_wp2
   go_end0
   exact⟨⟨_,rfl⟩,by rw[hz];exact hJs⟩
 ·obtain ⟨a,rfl⟩: ∃a,A=some a:=by
   obtain⟨a,h1,_⟩:=(hR _ _ h0).2.at_ 0 _ (List.getElem?_eq_getElem hpos)
   exact⟨a,h1⟩
  have hc:W.cell? ⟨g,0,none⟩=some (.slice (some a) xs.length c):=dV (hR _ _ h0).1 (j:=0) (by simp)
  refine callsIn_of_wp Tryz.func241 rfl trivial ?_ rfl
  simp only[Tryz.ntmps241,List.size_toArray,List.length_cons,List.length_nil,Nat.reduceAdd,Nat.reduceSub,Array.replicate_succ,Array.replicate_zero,List.push_toArray,List.append_toArray,List.nil_append,List.cons_append]
  gi_wp2
  gi_loopw [3] (fun i wr=>(∃k j:Nat,k+j+1=xs.length∧i= .int .i64 (j:Int)∧J k wr)∨(i= .int .i64 (-1)∧J xs.length wr)) (fun i _=>(intOf i+1).toNat)
  case atStart=>exact .inl ⟨0,xs.length-1,by omega,by rw[show((xs.length:Int)-1)=((xs.length-1:Nat):Int) by omega],h0⟩
  case round=>
   rcases hrel with⟨k,j,hkj,rfl,hJs⟩|⟨rfl,hJs⟩
   ·obtain ⟨fn,tmps,assign,body,hy,hRd⟩:=hY k wr (by omega) hJs
    rw[show xs.length-1-k=j by omega] at hy
    have hjl:j<xs.length:=by omega
    rw[List.getElem?_eq_getElem hjl] at hy
    simp only[Option.getD_some] at hy
    have hc1:wr.cell? ⟨g,0,none⟩=some (.slice (some a) xs.length c):=dV (hR _ _ hJs).1 (j:=0) (by simp)
    have hc2:=dV (hR _ _ hJs).2 hjl
    gi_wp2
    refine⟨rfl,hRd.mono ?_⟩
    rintro e W3 ⟨rfl,hJ3⟩
    gi_wp2
    go_roundw
    case rel=>
     rcases Nat.eq_zero_or_pos j with rfl|hj
     ·exact .inr ⟨by simp,by rw[←hkj];exact hJ3⟩
     ·exact .inl ⟨k+1,j-1,by omega,by rw[show((j:Int)-1)=((j-1:Nat):Int) by omega],hJ3⟩
    case measure=>simp[intOf]
   ·gi_wp2
    go_end0
    exact⟨⟨_,rfl⟩,hJs⟩
theorem wG {g:Nat} {A:Option Addr} {c:Nat} {zs:List Int} (hmax:zs.length≤1000000):Iter Tryz.prog 241 #[.pointer (some ⟨g,0,none⟩)] (fun w=>Rd w (some ⟨g,0,none⟩) 1 1 1 [.slice A zs.length c]∧Rd w A zs.length c 1 (ints .i64 zs)) zs.length
  (fun k=>[.int .i64 (((zs.length-1-k:Nat):Int)), .int .i64 (rd zs ((zs.length-1-k:Nat):Int))]):=by
 have h:=WB (g:=g) (A:=A) (c:=c) (xs:=ints .i64 zs) (by rw[bP];exact hmax)
 rw[bP] at h
 exact h.congr fun k hk=>by rw[yC (by omega)]
set_option maxRecDepth 100000 in
set_option maxHeartbeats 2000000 in
theorem QM {g:Nat} {A:Option Addr} {c:Nat} {xs:List Value}:Iter Tryz.prog 346 #[.pointer (some ⟨g,0,none⟩)] (fun w=>Rd w (some ⟨g,0,none⟩) 1 1 1 [.slice A xs.length c]∧Rd w A xs.length c 1 xs) xs.length
  (fun k=>[xs[k]?.getD undef]):=by
 intro l J W hR _ hY h0
 have hmax:=(hR _ _ h0).2.max
 rcases Nat.eq_zero_or_pos xs.length with hz|hpos
 ·have hc:W.cell? ⟨g,0,none⟩=some (.slice A xs.length c):=dV (hR _ _ h0).1 (j:=0) (by simp)
  rw[hz] at hc
  refine callsIn_of_wp Tryz.func346 rfl trivial ?_ rfl
  simp only[Tryz.ntmps346,List.size_toArray,List.length_cons,List.length_nil,Nat.reduceAdd,Nat.reduceSub,Array.replicate_succ,Array.replicate_zero,List.push_toArray,List.append_toArray,List.nil_append,List.cons_append]
  gi_wp2
  gi_loopw [7] (fun i wr=>i= .int .i64 0∧J 0 wr) (fun _ _=>0)
  case atStart=>exact⟨rfl,h0⟩
  case round=>
   obtain⟨rfl,hJs⟩:=hrel
   gi_wp2
   go_end0
   exact⟨⟨_,rfl⟩,by rw[hz];exact hJs⟩
 ·obtain ⟨a,rfl⟩: ∃a,A=some a:=by
   obtain⟨a,h1,_⟩:=(hR _ _ h0).2.at_ 0 _ (List.getElem?_eq_getElem hpos)
   exact⟨a,h1⟩
  have hc:W.cell? ⟨g,0,none⟩=some (.slice (some a) xs.length c):=dV (hR _ _ h0).1 (j:=0) (by simp)
  refine callsIn_of_wp Tryz.func346 rfl trivial ?_ rfl
  simp only[Tryz.ntmps346,List.size_toArray,List.length_cons,List.length_nil,Nat.reduceAdd,Nat.reduceSub,Array.replicate_succ,Array.replicate_zero,List.push_toArray,List.append_toArray,List.nil_append,List.cons_append]
  gi_wp2
  gi_loopw [7] (fun i wr=> ∃k:Nat,k≤xs.length∧i= .int .i64 k∧J k wr) (fun i _=>xs.length-(intOf i).toNat)
  case atStart=>exact⟨0,Nat.zero_le _,rfl,h0⟩
  case round=>
   obtain⟨k,hk,rfl,hJs⟩:=hrel
   by_cases hlt:k<xs.length
   ·obtain ⟨fn,tmps,assign,body,hy,hRd⟩:=hY k wr hlt hJs
    rw[List.getElem?_eq_getElem hlt] at hy
    simp only[Option.getD_some] at hy
    have hc1:wr.cell? ⟨g,0,none⟩=some (.slice (some a) xs.length c):=dV (hR _ _ hJs).1 (j:=0) (by simp)
    have hc2:=dV (hR _ _ hJs).2 hlt
    gi_wp2
    refine⟨rfl,hRd.mono ?_⟩
    rintro e W3 ⟨rfl,hJ3⟩
    gi_wp2
    go_roundw
    case rel=>exact⟨k+1,by omega,by simp,hJ3⟩
    case measure=>simp[intOf];omega
   ·obtain rfl:k=xs.length:=by omega
    gi_wp2
    go_end0
    exact⟨⟨_,rfl⟩,hJs⟩
theorem GC {g:Nat} {A:Option Addr} {c:Nat} {zs:List Int}:Iter Tryz.prog 346 #[.pointer (some ⟨g,0,none⟩)] (fun w=>Rd w (some ⟨g,0,none⟩) 1 1 1 [.slice A zs.length c]∧Rd w A zs.length c 1 (ints .i64 zs)) zs.length
  (fun k=>[.int .i64 (rd zs (k:Int))]):=by
 have h:=QM (g:=g) (A:=A) (c:=c) (xs:=ints .i64 zs)
 rw[bP] at h
 exact h.congr fun k hk=>by rw[yC hk]
end Go.Proofs.YtdbebmmhdefgdaaGreat

namespace Go.Proofs
open Go.Shelf
def Tryz.lays189_ren:Go.Shelf.Ren:=⟨fun|189=>345|125=>192|257=>362|128=>251|129=>252|294=>367|295=>368|296=>369|297=>370|298=>371|299=>372|216=>348|300=>373|301=>374|328=>376|329=>282|330=>283|331=>377|332=>378|215=>194|343=>379|n=>n,fun|28=>52|3=>3|46=>167|0=>0|51=>123|53=>112|4=>4|183=>289|182=>288|131=>97|5=>5|9=>9|218=>316|222=>320|228=>337|229=>338|n=>n,fun|n=>n⟩
theorem Tryz.lays189:Go.Proofs.Lays.n189 Tryz.prog Tryz.lays189_ren:= {
 mixed:=by kernel_rfl
 f125:=Tryz.func192.trans (congrArg some (by kernel_rfl))
 f128:=Tryz.func251.trans (congrArg some (by kernel_rfl))
 f129:=Tryz.func252.trans (congrArg some (by kernel_rfl))
 f189:=Tryz.func345.trans (congrArg some (by kernel_rfl))
 f215:=Tryz.func194.trans (congrArg some (by kernel_rfl))
 f216:=Tryz.func348.trans (congrArg some (by kernel_rfl))
 f257:=Tryz.func362.trans (congrArg some (by kernel_rfl))
 f294:=Tryz.func367.trans (congrArg some (by kernel_rfl))
 f295:=Tryz.func368.trans (congrArg some (by kernel_rfl))
 f296:=Tryz.func369.trans (congrArg some (by kernel_rfl))
 f297:=Tryz.func370.trans (congrArg some (by kernel_rfl))
 f298:=Tryz.func371.trans (congrArg some (by kernel_rfl))
 f299:=Tryz.func372.trans (congrArg some (by kernel_rfl))
 f300:=Tryz.func373.trans (congrArg some (by kernel_rfl))
 f301:=Tryz.func374.trans (congrArg some (by kernel_rfl))
 f328:=Tryz.func376.trans (congrArg some (by kernel_rfl))
 f329:=Tryz.func282.trans (congrArg some (by kernel_rfl))
 f330:=Tryz.func283.trans (congrArg some (by kernel_rfl))
 f331:=Tryz.func377.trans (congrArg some (by kernel_rfl))
 f332:=Tryz.func378.trans (congrArg some (by kernel_rfl))
 f343:=Tryz.func379.trans (congrArg some (by kernel_rfl))
 t0:=Tryz.underlying0
 a0:=Tryz.isAgg0
 z0:=Tryz.sizeOf0
 v0:=Tryz.zeroValue0
 t3:=Tryz.underlying3
 a3:=Tryz.isAgg3
 z3:=Tryz.sizeOf3
 v3:=Tryz.zeroValue3
 t4:=Tryz.underlying4
 a4:=Tryz.isAgg4
 z4:=Tryz.sizeOf4
 v4:=Tryz.zeroValue4
 t5:=Tryz.underlying5
 a5:=Tryz.isAgg5
 z5:=Tryz.sizeOf5
 v5:=Tryz.zeroValue5
 t9:=Tryz.underlying9
 a9:=Tryz.isAgg9
 z9:=Tryz.sizeOf9
 v9:=Tryz.zeroValue9
 t28:=Tryz.underlying52
 a28:=Tryz.isAgg52
 z28:=Tryz.sizeOf52
 v28:=Tryz.zeroValue52
 t46:=Tryz.underlying167
 a46:=Tryz.isAgg167
 z46:=Tryz.sizeOf167
 v46:=Tryz.zeroValue167
 t51:=Tryz.underlying123
 a51:=Tryz.isAgg123
 z51:=Tryz.sizeOf123
 v51:=Tryz.zeroValue123
 t53:=Tryz.underlying112
 a53:=Tryz.isAgg112
 z53:=Tryz.sizeOf112
 v53:=Tryz.zeroValue112
 t131:=Tryz.underlying97
 a131:=Tryz.isAgg97
 z131:=Tryz.sizeOf97
 v131:=Tryz.zeroValue97
 t182:=Tryz.underlying288
 a182:=Tryz.isAgg288
 z182:=Tryz.sizeOf288
 v182:=Tryz.zeroValue288
 t183:=Tryz.underlying289
 a183:=Tryz.isAgg289
 z183:=Tryz.sizeOf289
 v183:=Tryz.zeroValue289
 t218:=Tryz.underlying316
 a218:=Tryz.isAgg316
 z218:=Tryz.sizeOf316
 v218:=Tryz.zeroValue316
 t222:=Tryz.underlying320
 a222:=Tryz.isAgg320
 z222:=Tryz.sizeOf320
 v222:=Tryz.zeroValue320
 t228:=Tryz.underlying337
 a228:=Tryz.isAgg337
 z228:=Tryz.sizeOf337
 v228:=Tryz.zeroValue337
 t229:=Tryz.underlying338
 a229:=Tryz.isAgg338
 z229:=Tryz.sizeOf338
 v229:=Tryz.zeroValue338}
open Go.Sort Go.RowKit in
theorem Tryz.slices_Sort_int (blk off cap:Nat) (zs:List Int) (w:World) (hH:Holds (Value.int .i64) w blk off zs.toArray) (hblk:blk<w.heap.size) (hsz:zs.length<4611686018427387904):
  Calls Tryz.prog 345 #[.slice (some ⟨blk,off,none⟩) zs.length cap] w fun e w'=>
   e= .returned (.tuple #[])∧ ∃n os,w'=grow (putRow (Value.int .i64) (Sort.ahead w n) blk off (zs.mergeSort fun x y=>decide (x≤y)).toArray) os:=Any.slices_Sort_int Tryz.lays189 blk off cap zs w hH hblk hsz
def Tryz.laysNm225_ren:Go.Shelf.Ren:=⟨fun|25=>325|31=>348|32=>349|37=>194|n=>n,fun|22=>52|3=>3|4=>4|40=>167|0=>0|n=>n,fun|n=>n⟩
open Go.RowKit Go.Sort in
theorem Tryz.slices_Sort_int_none (p:Option Addr) (cap:Nat) (w:World):
  Calls Tryz.prog 345 #[.slice p 0 cap] w fun e w'=>e= .returned (.tuple #[])∧w'=w:=Any.slices_Sort_int_none Tryz.lays189 p cap w
end Go.Proofs

namespace Go.Eng
open Go Go.RowKit Go.Proofs Go.Sort
section
variable {P:Program} {B:Nat} {w0:World} {R:List Row}
def aCe (P:Program) (f:Nat):Prop:= ∀(blk off cap:Nat) (zs:List Int) (w:World) (_:Holds (Value.int .i64) w blk off zs.toArray) (_:blk<w.heap.size) (_:zs.length<4611686018427387904),
 Calls P f #[.slice (some ⟨blk,off,none⟩) zs.length cap] w fun e w'=>e= .returned (.tuple #[])∧ ∃n os,w'=grow (putRow (Value.int .i64) (Sort.ahead w n) blk off (zs.mergeSort fun x y=>decide (x≤y)).toArray) os
def ZH (P:Program) (f:Nat):Prop:= ∀(p:Option Addr) (cap:Nat) (w:World),Calls P f #[.slice p 0 cap] w fun e w'=>e= .returned (.tuple #[])∧w'=w
def aFz (P:Program) (f:Nat):Prop:= ∀(b off n c:Nat) (zs:List Int) (x:Int) (w:World) (_:n≤zs.length) (_:n<4611686018427387904) (_: ∀j,j<zs.length→w.cell? ⟨b,off+j,none⟩=some (.int .i64 (zs.getD j 0))) (_:(zs.take n).Pairwise (· ≤ ·)),
 Calls P f #[.slice (some ⟨b,off,none⟩) n c, .int .i64 x] w fun e w'=>e= .returned (.tuple #[.int .i64 ((zs.take n).countP (· <x):Nat), .bool ((zs.take n).contains x)])∧ ∃q,w'=w.drewN q
def aEy (P:Program) (f:Nat):Prop:= ∀(a:Option Addr) (c:Nat) (x:Int) (w:World),Calls P f #[.slice a 0 c, .int .i64 x] w fun e w'=>e= .returned (.tuple #[.int .i64 0, .bool false])∧w'=w
def iG (l:List Int):List Int:=l.mergeSort fun x y=>decide (x≤y)
theorem jT (l:List Int):(iG l).Perm l:=List.mergeSort_perm _ _
theorem yX (l:List Int):(iG l).Pairwise (· ≤ ·):=by
 have:=List.pairwise_mergeSort (le:=fun x y:Int=>decide (x≤y)) (fun a b c h1 h2=>by simp at*;omega) (fun a b=>by simp;omega) l
 exact this.imp fun h=>by simpa using h
theorem NQ {f:Nat} (hS:aCe P f) (hS0:ZH P f) {T m c:Nat} {A:Option Addr} {l:List Int} (i:Nat) (hi:R[i]? =some ⟨T,1,A,m,c,ints .i64 l,false⟩) (hsz:l.length<4611686018427387904):
  Ct P f #[.slice A m c] B w0 R (fun v R'=>v= .tuple #[]∧R'=R.set i ⟨T,1,A,m,c,ints .i64 (iG l),false⟩):=by
 intro w hw
 have hown:=Row.lies_w (hw.own _ (List.mem_of_getElem? hi)) rfl
 have hrd:=Row.rd (hw.own _ (List.mem_of_getElem? hi))
 obtain rfl:m=l.length:=hrd.lenI
 rcases hown.2 with⟨hv,hn⟩|⟨blk,cap,cur,hv,hb,hg,hnc,hcm,hcs,ht⟩
 ·simp only at hn
  have hl:l=[]:=List.eq_nil_of_length_eq_zero hn
  subst hl
  refine(hS0 A c w).mono ?_
  rintro e w' ⟨rfl,rfl⟩
  refine⟨_,_,rfl,?_,rfl,rfl⟩
  have e:iG []=[]:=by simp[iG]
  rw[e]
  have:R.set i ⟨T,1,A,([]:List Int).length,c,ints .i64 [],false⟩=R:=by
   apply List.ext_getElem?
   intro k
   rw[List.getElem?_set]
   split
   ·rename_i h
    subst h
    split
    ·exact hi.symm
    ·rename_i h2
     rw[List.getElem?_eq_none (by omega)]
   ·rfl
  rw[this]
  exact hw
 ·simp only[Value.slice.injEq,true_and] at hv
  obtain⟨rfl,rfl⟩:=hv
  simp only at ht hcs hg hnc
  have hlt:blk<w.heap.size:=(Array.getElem?_eq_some_iff.1 hg).1
  have hH:Holds (Value.int .i64) w blk 0 l.toArray:=by
   intro j hj
   have hj':j<l.length:=by simpa using hj
   have e:(ints .i64 l)[j]? =some (.int .i64 (l.toArray[j]!)):=by
    rw[getElem!_pos l.toArray j hj]
    simp[ints,hj']
   refine⟨?_,?_⟩
   ·rw [Nat.zero_add]
    exact hw.cellAt i hi rfl e
   ·exact hw.openAt i (0+j) hi rfl rfl
  refine(hS blk 0 c l w hH hlt hsz).mono ?_
  rintro e w' ⟨rfl,n,os,rfl⟩
  refine⟨_,_,rfl,?_,rfl,rfl⟩
  have hown':=ownsRow_sorted_i (w:=w) (base:=B) (g:=blk) (cap:=c) (n:=n) (e:=T) (os:=os) (cur:=cur) (ss:=l) (ts:=iG l) (jT l).length_eq hb hg hnc hcm hcs
  have hgb:=grownBy_sorted_i (w:=w) (g:=blk) (n:=n) (os:=os) (iG l).toArray
  refine hw.upd hi (row:=some blk) hgb ?_ (fun k hk=> ?_) ?_ (fun a' ha'=> .inl ⟨a',ha',rfl⟩)
  ·show w.drawn≤w.drawn+n
   omega
  ·obtain rfl:=Option.some.inj hk
   exact⟨_,rfl,rfl⟩
  ·exact hown'
end
end Go.Eng

namespace Go.Proofs.YtdbebmmhdefgdaaGreat
open Go Go.Eng Go.Pure
set_option linter.unusedVariables false
set_option maxRecDepth 100000
end Go.Proofs.YtdbebmmhdefgdaaGreat

namespace Go.Proofs.YtdbebmmhdefgdaaGreat
open Go Go.Eng Go.Pure
open Tryz
set_option linter.unusedVariables false
set_option maxRecDepth 100000
theorem NE {B:Nat} {w0:World} {R:List Row} {A_s:Option Addr} {n_s c_s:Nat}:
  Ct Tryz.prog 315 #[.slice A_s n_s c_s] B w0 R (fun v R'=> ∃g,v= .func (.func 346) #[] #[.pointer (GG g)]∧R'=⟨52,1,GG g,1,1,[.slice A_s n_s c_s],false⟩::R):=by
 refine fn1 Tryz.func315 Z Z Z ?_
 refine wq<|wa (dZ (sz:=1) Z Z) ?_
 rintro _ _ ⟨g,rfl,rfl⟩
 refine wg Z<|aA<|wq<|wy (jQ Z Z)<|wg Z<|aA<|fC ?_
 exact⟨_,Z,g,Z,Z⟩
theorem FI {B:Nat} {w0:World} {R:List Row} {A_s:Option Addr} {n_s c_s:Nat}:
  Ct Tryz.prog 186 #[.slice A_s n_s c_s] B w0 R (fun v R'=> ∃g,v= .func (.func 241) #[] #[.pointer (GG g)]∧R'=⟨52,1,GG g,1,1,[.slice A_s n_s c_s],false⟩::R):=by
 refine fn1 Tryz.func186 Z Z Z ?_
 refine wq<|wa (dZ (sz:=1) Z Z) ?_
 rintro _ _ ⟨g,rfl,rfl⟩
 refine wg Z<|aA<|wq<|wy (jQ Z Z)<|wg Z<|aA<|fC ?_
 exact⟨_,Z,g,Z,Z⟩
theorem RF {l:List Int} {k:Nat} (h:k<l.length):l.take k++[rd l (k:Int)]=l.take (k+1):=by
 rw[List.take_add_one,List.getElem?_eq_getElem h,rd,Int.toNat_natCast,List.getD_eq_getElem?_getD,List.getElem?_eq_getElem h];rfl
theorem AB {w:World} {A_s:Option Addr} {n_s c_s Bs:Nat} {s:List Int} (h_s:Rd w A_s n_s c_s 1 (ints .i64 s)) (h_b:Rd w (GG Bs) 1 1 1 [.slice A_s n_s c_s]) (hN:s.length≤1000000):
  Ct Tryz.prog 361 #[.slice none 0 0, .func (.func 346) #[] #[.pointer (GG Bs)]] w.heap.size w [] (fun v R'=> ∃A c,v= .slice A (s).length c∧R'=[(ri 3 A ((s).length) c (s))]):=by
 refine fnV Tryz.func361 Z Z ?_
 obtain rfl:=h_s.lenI
 refine gI ?_
 refine aN<|wa (dZ (sz:=1) Z Z) ?_
 rintro _ _ ⟨g_1,rfl,rfl⟩
 refine eY (R1:=[(ri 3 none 0 0 ([])),⟨52,1,(GG g_1),1,1,[.slice none 0 0],false⟩]) (Sub.refl _) (fun _ h=>h.nil 3 1)<|wg Z<|aA ?_
 refine QN ?_
 refine gI ?_
 refine aN<|wm Z<|aA ?_
 refine yU ?_
 refine QP Z aDd (GC (A:=A_s) (c:=c_s) (zs:=s)) Z (fun _=>Z) Gd.refl (fun(kr:Nat) (A1:Option Addr) (n1:Nat) (c1:Nat) (acc:List Int)=>[(ri 3 A1 n1 c1 acc),⟨52,1,(GG g_1),1,1,[.slice A1 n1 c1],false⟩]) (fun(kr:Nat) (A1:Option Addr) (n1:Nat) (c1:Nat) (acc:List Int)=>(n1=acc.length)∧(acc=s.take kr)) ?_ ?_ ?_ ?_
 ·exact⟨none,0,0,[],⟨(Z),(List.take_zero.symm)⟩,fun _ h=>h⟩
 ·intro kr A1 n1 c1 acc w ⟨hn1,hacc⟩ hw
  exact⟨(h_b.c _) w hw,(h_s.c _) w hw⟩
 ·intro lr kr A1 n1 c1 acc WW1 hkr ⟨hn1,hacc⟩ hbW1
  have hl1:acc.length≤s.length:=by rw[hacc,List.length_take];omega
  refine aN<|wg Z<|aA ?_
  intro WW13 hbW13
  refine aI<|aN<|wy (aK (rdR 1 (r:=⟨52,1,(GG g_1),1,1,[.slice A1 n1 c1],false⟩) Z) underlying52 Z Z Z)<|wm Z<|wa (bV .i64 [rd s (kr:Int)] underlying52 zs3 Z Z Z) ?_
  rintro _ _ ⟨g_4,rfl,rfl⟩
  refine wa (bX 1 Z underlying52 zb3 Z Z Z (rdr 0 Z) (by omega)) ?_
  rintro _ _ ⟨A_5,c_6,rfl,rfl⟩
  refine bY (v:= .slice A_5 (n1+1) c_6) Z<|dK (bQ 2 Z Z Z fV Z Z Z Z (Nat.le_of_ble_eq_true Z)) ?_
  rintro _ _ rfl
  refine aA ?_
  exact⟨A_5,(n1+1),c_6,acc++([rd s (kr:Int)]),⟨(by rw[List.length_append,hn1];try rfl),(by rw[hacc];exact RF hkr)⟩,fun _=>fun _ h=>h.sel [1,2] (by decide) Z⟩
 intro WW15 DW1 A1 n1 c1 acc ⟨hn1,hacc⟩ hbW15 hGW15
 refine QR ?_
 refine aAq ?_
 refine v_w ?_
 refine wq<|wy (aK (rdR 1 (r:=⟨52,1,(GG g_1),1,1,[.slice A1 n1 c1],false⟩) Z) underlying52 Z Z Z)<|wg Z<|aA<|aY [0] 99 (by decide) Z ?_
 refine aFn Z hGW15 ⟨_,Z,?_⟩
 rw[List.take_length] at hacc
 subst hn1
 subst hacc
 exact⟨_,_,Z,Z⟩
theorem JN {w:World} {A_s:Option Addr} {n_s c_s Bs:Nat} {s:List Int} (h_s:Rd w A_s n_s c_s 1 (ints .i64 s)) (h_b:Rd w (GG Bs) 1 1 1 [.slice A_s n_s c_s]) (hN:s.length≤1000000):
  Ct Tryz.prog 344 #[.func (.func 346) #[] #[.pointer (GG Bs)]] w.heap.size w [] (fun v R'=> ∃A c,v= .slice A (s).length c∧R'=[(ri 3 A ((s).length) c (s))]):=by
 refine fn1 Tryz.func344 Z Z Z ?_
 refine wq<|wg Z<|aA<|wq<|wm Z<|wa (aC aDc Z (Ct.fresh (fun w hw=>AB ((h_s.c _) w hw) ((h_b.c _) w hw) (by omega)))) ?_
 rintro _ _ ⟨_,rfl,A_1,c_2,rfl,rfl⟩
 refine wg Z<|aA<|aY [0] 99 (by decide) Z ?_
 refine⟨_,Z,?_⟩
 exact⟨_,_,Z,Z⟩
theorem NN {w:World} {A_s:Option Addr} {n_s c_s Bs:Nat} {s:List Int} (h_s:Rd w A_s n_s c_s 1 (ints .i64 s)) (h_b:Rd w (GG Bs) 1 1 1 [.slice A_s n_s c_s]) (hN:s.length≤1000000):
  Ct Tryz.prog 314 #[.func (.func 346) #[] #[.pointer (GG Bs)]] w.heap.size w [] (fun v R'=> ∃A c,v= .slice A (iG s).length c∧R'=[(ri 3 A ((iG s).length) c (iG s))]):=by
 refine fn1 Tryz.func314 Z Z Z ?_
 refine wq<|wg Z<|aA<|wq<|wm Z<|wa (aC aDf Z (Ct.fresh (fun w hw=>JN ((h_s.c _) w hw) ((h_b.c _) w hw) (by omega)))) ?_
 rintro _ _ ⟨_,rfl,A_1,c_2,rfl,rfl⟩
 refine wg Z<|aA<|wq<|wm Z<|wa (aC aDe Z (NQ Tryz.slices_Sort_int Tryz.slices_Sort_int_none 0 Z (by omega))) ?_
 rintro _ _ ⟨rfl,rfl⟩
 refine aA<|wq<|wm Z<|wg Z<|aA<|aY [0] 99 (by decide) Z ?_
 refine⟨_,Z,?_⟩
 have e:s.length=(iG s).length:=(jT s).length_eq.symm
 rw[e]
 exact⟨_,_,Z,Z⟩
end Go.Proofs.YtdbebmmhdefgdaaGreat

namespace Go.Proofs.YtdbebmmhdefgdaaGreat
open Go Go.Eng Go.Pure
set_option linter.unusedVariables false
set_option maxRecDepth 100000
end Go.Proofs.YtdbebmmhdefgdaaGreat

namespace Go.Proofs
open Go.Shelf
def Tryz.lays264_ren:Go.Shelf.Ren:=⟨fun|264=>196|n=>n,fun|53=>112|46=>167|n=>n,fun|n=>n⟩
def Tryz.lays212_ren:Go.Shelf.Ren:=⟨fun|212=>122|263=>195|264=>196|n=>n,fun|46=>167|51=>123|146=>243|53=>112|148=>245|n=>n,fun|n=>n⟩
theorem Tryz.lays212:Go.Proofs.Lays.n212 Tryz.prog Tryz.lays212_ren:= {
 mixed:=by kernel_rfl
 f212:=Tryz.func122.trans (congrArg some (by kernel_rfl))
 f263:=Tryz.func195.trans (congrArg some (by kernel_rfl))
 f264:=Tryz.func196.trans (congrArg some (by kernel_rfl))
 t46:=Tryz.underlying167
 a46:=Tryz.isAgg167
 z46:=Tryz.sizeOf167
 v46:=Tryz.zeroValue167
 t51:=Tryz.underlying123
 a51:=Tryz.isAgg123
 z51:=Tryz.sizeOf123
 v51:=Tryz.zeroValue123
 t53:=Tryz.underlying112
 a53:=Tryz.isAgg112
 z53:=Tryz.sizeOf112
 v53:=Tryz.zeroValue112
 t146:=Tryz.underlying243
 a146:=Tryz.isAgg243
 z146:=Tryz.sizeOf243
 v146:=Tryz.zeroValue243
 t148:=Tryz.underlying245
 a148:=Tryz.isAgg245
 z148:=Tryz.sizeOf245
 v148:=Tryz.zeroValue245}
open Go.RowKit Go.Lib in
theorem Tryz.bits_Mul (x y:Nat) (hx:x<18446744073709551616) (hy:y<18446744073709551616) (w:World):
  Calls Tryz.prog 122 #[.int .u64 x, .int .u64 y] w fun e w'=>e= .returned (.tuple #[.int .u64 ((x*y/18446744073709551616:Nat):Int), .int .u64 ((x*y%18446744073709551616:Nat):Int)])∧w'=w:=Any.bits_Mul Tryz.lays212 x y hx hy w
end Go.Proofs

namespace Go.Proofs.YtdbebmmhdefgdaaGreat
open Go Go.Eng Go.Pure
open Tryz
set_option linter.unusedVariables false
set_option maxRecDepth 100000
theorem yI {w:World} {A_l:Option Addr} {n_l c_l:Nat} {l:List Int} {A_m:Option Addr} {n_m c_m:Nat} {m:List Int} (h_l:Rd w A_l n_l c_l 1 (ints .i64 l)) (h_m:Rd w A_m n_m c_m 1 (ints .i64 m)) (hN:l.length≤1000000):
  Ct Tryz.prog 87 #[.slice A_l n_l c_l, .slice A_m n_m c_m] w.heap.size w [] (fun v R'=>v= .bool (decide (l=m))):=by
 obtain rfl:=h_l.lenI
 obtain rfl:=h_m.lenI
 refine fn1 Tryz.func87 Z Z Z ?_
 have m_l:=h_l.max
 have m_m:=h_m.max
 refine wq<|wg Z<|aA<|aF<|wq<|wm Z<|wy (aV underlying52 Z)<|wm Z<|wy (aV underlying52 Z)<|wy (qW Z Z)<|aA<|bR Z (fun hc1=> ?_) (fun hc1=> ?_)
 ·refine wq<|wg Z<|aA<|fC ?_
  refine⟨_,Z,?_⟩
  exact congrArg Value.bool (decide_eq_false (fun e=>by rw[e] at hc1;exact hc1 rfl)).symm
 ·refine aM<|aF<|wq<|wm Z<|wy (aV underlying52 Z)<|wm Z<|aA<|aI ?_
  refine yS (fun(k:Int)=>[(0, .slice A_l l.length c_l),(1, .slice A_m m.length c_m),(12,I ((l.length:Nat):Int)),(13,I k)]) (fun(k:Int)=>[]) (fun(k:Int)=>(0≤k)∧(k≤l.length)∧(l.take k.toNat=m.take k.toNat)) (fun(k:Int)=>(l.length-k).toNat) ?_ ?_
  ·exact⟨0,⟨(by omega),(by omega),(Z)⟩,(G4 Z Z Z Z),fun _ h=>h⟩
  intro k ⟨hk0,hk1,hq⟩
  refine wq<|wL Z Z<|aA<|aF<|bR Z (fun hc2=> ?_) (fun hc2=> ?_)
  ·refine aM<|aF<|aI<|wq<|wm Z<|wg Z<|aA<|aF<|dQ mixed<|wD 0 Z (aJ Z)<|wD 1 Z (aJ Z)<|wD 2 Z (aB underlying52 sz3 Z Z (h_l.c _) (by omega) (by omega))<|wD 3 Z (aZ underlying3 Z Z (h_l.c _) (by omega) (by omega))<|wD 4 Z (aJ Z) ?_
   refine wD 5 Z (aJ Z)<|wD 6 Z (aB underlying52 sz3 Z Z (h_m.c _) (by omega) (by omega))<|wD 7 Z (aZ underlying3 Z Z (h_m.c _) (by omega) (by omega))<|wD 8 Z (qW Z Z)<|dD (by kernel_rfl)<|bR Z (fun hc3=> ?_) (fun hc3=> ?_)
   ·refine wq<|wg Z<|aA<|fC ?_
    refine⟨_,Z,?_⟩
    exact congrArg Value.bool (decide_eq_false (fun e=>by subst e;exact hc3 rfl)).symm
   ·refine aM<|aN<|wA Z Z<|wm Z<|aA ?_
    exact⟨k+1,⟨(by omega),(by omega),(by rw[dG hk0 (by omega),dG hk0 (by omega),hq];exact congrArg (fun z=>List.take k.toNat m++[z]) (Decidable.not_not.1 (by assumption)))⟩,(by omega),(G4 Z Z Z Z),fun _ h=>h⟩
  ·refine bF<|wq<|wg Z<|aA<|fC ?_
   refine⟨_,Z,?_⟩
   exact congrArg Value.bool (decide_eq_true (by rw[List.take_of_length_le (by omega),List.take_of_length_le (by omega)] at hq;exact hq)).symm
theorem aBf {B:Nat} {w0:World} {R:List Row} (N:Nat) (h:N≤1000000):Ct Tryz.prog 122 #[.int .u64 1, .int .u64 ((N:Nat):Int)] B w0 R (fun v R'=>v= .tuple #[.int .u64 0, .int .u64 ((N:Nat):Int)]∧R'=R):=by
 intro w hw
 have hc:=Tryz.bits_Mul 1 N (by omega) (by omega) w
 rw[Nat.one_mul,Nat.div_eq_of_lt (by omega),Nat.mod_eq_of_lt (by omega)] at hc
 refine hc.mono ?_
 rintro e w' ⟨rfl,rfl⟩
 exact⟨_,R,Z,hw,Z,Z⟩
theorem NC {p:Int} (h:0≤p∧p≤18446744073709551615):IntKind.u64.wrap p=p:=by rw[IntKind.wrap_u64];omega
theorem SC {D:List Int} {val:Int} {N:Nat} {p:Int} (p1:1≤p) (hp:p≤N) (hD:D=pO val p.toNat N):
  List.take p.toNat D++List.take (min p.toNat (N-p.toNat)) (List.take p.toNat D)++List.drop (p.toNat+min p.toNat (N-p.toNat)) D=pO val (p+((min p.toNat (N-p.toNat):Nat):Int)).toNat N:=by
 subst hD
 rw[show(p+((min p.toNat (N-p.toNat):Nat):Int)).toNat=p.toNat+min p.toNat (N-p.toNat) by omega]
 refine xR (by omega) ?_
 rw[xQ,List.take_replicate]
 congr 1
 omega
theorem SF {val:Int} {N:Nat} (h:1≤N):List.take 0 (List.replicate N (0:Int))++List.take (min ([val].length) (N-0)) [val]++List.drop (0+min ([val].length) (N-0)) (List.replicate N (0:Int))=pO val (((min ([val].length) (N-0):Nat):Int)).toNat N:=by
 have e:min ([val].length) (N-0)=1:=by simp;omega
 rw[e,←OB val N]
 exact xR (p:=0) (q:=1) (by omega) Z
set_option maxHeartbeats 800000 in
theorem HZ {w:World} {A_x:Option Addr} {n_x c_x:Nat} {x:List Int} {cn:Int} {val:Int} {N:Nat} (h_x:Rd w A_x n_x c_x 1 (ints .i64 x)) (hx:x=[val]) (hcn:cn=((N:Nat):Int)) (hN:1≤N∧N≤1000000):
  Ct Tryz.prog 316 #[.slice A_x n_x c_x,I cn] w.heap.size w [] (fun v R'=> ∃A c,v= .slice A N c∧R'=[(ri 3 A N c (List.replicate N val))]):=by
 obtain rfl:=h_x.lenI
 refine fn1 Tryz.func316 Z Z Z ?_
 have m_x:=h_x.max
 refine wq<|wg Z<|aA<|aF<|wq<|wm Z<|wy (Yl.f (sU Z Z) (by omega))<|aA<|aL Z<|aM<|wq<|wm Z ?_
 refine wy (aV underlying52 Z)<|wy (Yl.is (uD underlying3 underlying167 Z) (by rw[hx])) ?_
 refine wm Z<|wy (Yl.is (uD underlying3 underlying167 Z) (by rw[NC (by omega),hcn])) ?_
 refine wa (aC aEb Z (aBf N hN.2)) ?_
 rintro _ _ ⟨rfl,rfl⟩
 refine wm Z<|wX Z Z<|wX Z Z<|wg Z<|wg Z<|aA<|aF<|wq<|wm Z<|wy (Yl.f (kU Z Z) (by omega))<|wm Z<|aD Z Z<|wm Z<|aD Z Z ?_
 refine wy (Yl.f (kU Z Z) (by omega))<|wy (bG Z Z)<|aA<|aL Z<|aM<|wq<|wm Z<|wy (nO underlying167 underlying3 Z (by omega))<|wa (dY underlying52 zb3 Z Z (by omega) (by omega) (by omega)) ?_
 rintro _ _ ⟨g_1,rfl,rfl⟩
 refine bY (v:= .slice (GG g_1) N N) Z<|wg Z<|aA<|wq<|wm Z<|wm Z<|wa (AQ (lo:=0) 0 Z underlying52 sz3 Z Z VO Z (by omega) (h_x.c _)) ?_
 rintro _ _ ⟨rfl,rfl⟩
 refine wg Z<|aA<|aF<|aI ?_
 refine jB (fun(p:Int) (D:List Int)=>[(7, .slice (GG g_1) N N),(8,I p)]) (fun(p:Int) (D:List Int)=>[(ri 3 (GG g_1) N N D)]) (fun(p:Int) (D:List Int)=>(1≤p)∧(p≤N)∧(D=pO val p.toNat N)) (fun(p:Int) (D:List Int)=>(N-p).toNat) ?_ ?_
 ·exact⟨((min x.length (N-0):Nat):Int),List.take 0 (List.replicate N (0:Int))++List.take (min x.length (N-0)) x++List.drop (0+min x.length (N-0)) (List.replicate N (0:Int)),⟨(by subst hx;simp;omega),(by omega),(by subst hx;exact SF hN.1)⟩,(G2 Z Z),fun _ h=>h⟩
 intro p D ⟨hp0,hp1,hD⟩
 refine aF<|wq<|wm Z<|wm Z<|wy (aV underlying52 Z)<|wL Z Z<|aA<|bR Z (fun hc1=> ?_) (fun hc1=> ?_)
 ·refine aM<|aI<|dQ mixed<|wD 0 Z (aJ Z)<|wD 1 Z (aJ Z)<|wD 2 Z (aJ Z)<|wD 3 Z (rW underlying52 sz3 Z Z (by omega) (by omega))<|wD 4 Z (aJ Z)<|wD 5 Z (aJ Z)<|wD 6 Z (kT underlying52 sz3 Z Z (rdr 0 Z) (by omega) (by omega))<|kF 7 Z (by kernel_rfl) Z (AQ (lo:=p.toNat) 0 Z underlying52 sz3 Z Z Z Z (by omega) (RdC.toI (h:=(p).toNat) (rdR 0 (r:=(ri 3 (GG g_1) N N D)) Z) (by first|omega|(dsimp only;omega)))) ?_
  rintro _ _ ⟨rfl,rfl⟩
  refine⟨.inl (by kernel_rfl),?_⟩
  refine wD 8 Z (jR Z Z (by omega))<|wD 9 Z (iU Z)<|dD (by kernel_rfl) ?_
  exact⟨p+((min ((p).toNat) (N-p.toNat):Nat):Int),List.take p.toNat D++List.take (min ((p).toNat) (N-p.toNat)) ((D).take (p).toNat)++List.drop (p.toNat+min ((p).toNat) (N-p.toNat)) D,⟨(by omega),(by omega),(SC hp0 hp1 hD)⟩,(by omega),(G2 Z Z),fun _ h=>h⟩
 ·refine bF<|wq<|wm Z<|wg Z<|aA<|aY [0] 99 (by decide) Z ?_
  refine⟨_,Z,?_⟩
  obtain rfl:D=List.replicate N val:=by rw[hD,show p.toNat=N by omega];exact SB _ _
  exact⟨_,_,Z,Z⟩
set_option maxHeartbeats 600000 in
theorem BM {w:World} {A_s:Option Addr} {n_s c_s:Nat} {s:List Int} (h_s:Rd w A_s n_s c_s 1 (ints .i64 s)) (hN:s.length≤1000000):
  Ct Tryz.prog 313 #[.slice A_s n_s c_s] w.heap.size w [] (fun v R'=> ∃A c,v= .slice A s.length c∧R'=[⟨4,1,A,s.length,c,bools (smL s),false⟩]):=by
 obtain rfl:=h_s.lenI
 refine fn1 Tryz.func313 Z Z Z ?_
 have m_s:=h_s.max
 refine wq<|wg Z<|aA<|wq<|wm Z<|wy (aV underlying52 Z)<|wa (AP underlying269 zb4 Z Z (by omega) (by omega) (by omega)) ?_
 rintro _ _ ⟨g_1,rfl,rfl⟩
 refine bY (v:= .slice (GG g_1) s.length s.length) Z<|wg Z<|aA<|aF<|wq<|wm Z<|wy (aV underlying52 Z)<|wS Z Z<|wg Z<|aA<|aI ?_
 refine jB (fun(i:Int) (m:List Bool)=>[(0, .slice A_s s.length c_s),(3, .slice (GG g_1) s.length s.length),(4,I i)]) (fun(i:Int) (m:List Bool)=>[⟨4,1,(GG g_1),s.length,s.length,bools m,false⟩]) (fun(i:Int) (m:List Bool)=>(-2≤i)∧(i+2≤s.length)∧(m.length=s.length)∧(∀j:Int,0≤j→i<j→j<s.length→rdb m j=smB s j)) (fun(i:Int) (m:List Bool)=>(i+1).toNat) ?_ ?_
 ·exact⟨((s.length:Nat):Int)-2,List.replicate s.length false,⟨(by omega),(by omega),(by rw[List.length_replicate]),(fun j h0 h1 h2=>by rw[tY,jU h0 (by omega)])⟩,(G3 rfl rfl rfl),fun _ h=>h⟩
 intro i m ⟨hi0,hi1,hl,hM⟩
 refine aF<|wq<|wm Z<|wy (yQ Z Z)<|aA<|bR Z (fun hc1=> ?_) (fun hc1=> ?_)
 ·refine aM<|aF<|aI<|dQ mixed<|wD 0 Z (aJ Z)<|wD 1 Z (aJ Z)<|wD 2 Z (aJ Z)<|wD 3 Z (aJ Z)<|wD 4 Z (aB underlying52 sz3 Z Z (h_s.c _) (by omega) (by omega))<|wD 5 Z (aZ underlying3 Z Z (h_s.c _) (by omega) (by omega))<|wD 6 Z (aJ Z)<|wD 7 Z (aJ Z)<|wD 8 Z (jR Z Z (by omega))<|wD 9 Z (aB underlying52 sz3 Z Z (h_s.c _) (by omega) (by omega))<|wD 10 Z (aZ underlying3 Z Z (h_s.c _) (by omega) (by omega)) ?_
  refine wD 11 Z (sU Z Z)<|wD 12 Z (aJ Z)<|tO 27 Z (fun hc2=> ?_) (fun hc2=> ?_)
  ·refine dC 13 Z (by kernel_rfl) Z Z Z Z<|dC 14 Z (by kernel_rfl) Z Z Z Z<|dC 15 Z (by kernel_rfl) Z Z Z Z<|dC 16 Z (by kernel_rfl) Z Z Z Z<|dC 17 Z (by kernel_rfl) Z Z Z Z<|dC 18 Z (by kernel_rfl) Z Z Z Z<|dC 19 Z (by kernel_rfl) Z Z Z Z<|dC 20 Z (by kernel_rfl) Z Z Z Z<|dC 21 Z (by kernel_rfl) Z Z Z Z<|dC 22 Z (by kernel_rfl) Z Z Z Z<|dC 23 Z (by kernel_rfl) Z Z Z Z<|uH 24 Z (by kernel_rfl) Z Z Z<|uH 25 Z (by kernel_rfl) Z Z Z<|uH 26 Z (by kernel_rfl) Z Z Z<|uH 27 Z (by kernel_rfl) Z Z Z ?_
   refine uH 28 Z (by kernel_rfl) Z Z Z<|dC 29 Z (by kernel_rfl) Z Z Z Z<|wD 30 Z (aX Z Z)<|wD 31 Z (aB underlying269 sz4 Z Z (rdr 0 Z) (by omega) (by omega))<|sV 32 Z (by kernel_rfl) (nH 0 Z sz4 Z Z (by omega) (by omega)) ?_
   rintro _ _ rfl
   refine⟨.inl (by kernel_rfl),?_⟩
   refine dD (by kernel_rfl)<|aN<|wm Z<|wS Z Z<|wg Z<|aA ?_
   exact⟨i-1,jS m i true,⟨(by omega),(by omega),(by rw[gB];exact hl),(fun j h0 h1 h2=>yY (by omega) (by omega) hl (fun j a b=>hM j (by omega) a b) (⟨fun _=> .inl (by omega),fun _=>Z⟩) j (by omega) h2)⟩,(by omega),(G3 Z Z Z),fun _ h=>h⟩
  ·refine aU 13 Z (by kernel_rfl) Z Z Z (aJ Z)<|aU 14 Z (by kernel_rfl) Z Z Z (aJ Z)<|aU 15 Z (by kernel_rfl) Z Z Z (aB underlying52 sz3 Z Z (h_s.c _) (by omega) (by omega))<|aU 16 Z (by kernel_rfl) Z Z Z (aZ underlying3 Z Z (h_s.c _) (by omega) (by omega))<|aU 17 Z (by kernel_rfl) Z Z Z (aJ Z)<|aU 18 Z (by kernel_rfl) Z Z Z (aJ Z)<|aU 19 Z (by kernel_rfl) Z Z Z (jR Z Z (by omega))<|aU 20 Z (by kernel_rfl) Z Z Z (aB underlying52 sz3 Z Z (h_s.c _) (by omega) (by omega))<|aU 21 Z (by kernel_rfl) Z Z Z (aZ underlying3 Z Z (h_s.c _) (by omega) (by omega))<|aU 22 Z (by kernel_rfl) Z Z Z (bC Z Z)<|aU 23 Z (by kernel_rfl) Z Z Z (aJ Z)<|tO 38 Z (fun hc3=> ?_) (fun hc3=> ?_)
   ·refine aU 24 Z (by kernel_rfl) Z Z Z (aJ Z)<|aU 25 Z (by kernel_rfl) Z Z Z (aJ Z)<|aU 26 Z (by kernel_rfl) Z Z Z (jR Z Z (by omega))<|aU 27 Z (by kernel_rfl) Z Z Z (aB underlying269 sz4 Z Z (rdr 0 Z) (by omega) (by omega))<|aU 28 Z (by kernel_rfl) Z Z Z (rX underlying4 Z Z (rdr 0 Z) (by omega) (by omega))<|aU 29 Z (by kernel_rfl) Z Z Z (aX Z Z)<|wD 30 Z (bG Z Z)<|wD 31 Z (aB underlying269 sz4 Z Z (rdr 0 Z) (by omega) (by omega))<|sV 32 Z (by kernel_rfl) (nH 0 Z sz4 Z Z (by omega) (by omega)) ?_
    rintro _ _ rfl
    refine⟨.inl (by kernel_rfl),?_⟩
    refine dD (by kernel_rfl)<|aN<|wm Z<|wS Z Z<|wg Z<|aA ?_
    exact⟨i-1,jS m i (decide (rdb m (i+1)=true)),⟨(by omega),(by omega),(by rw[gB];exact hl),(fun j h0 h1 h2=>yY (by omega) (by omega) hl (fun j a b=>hM j (by omega) a b) (by rw[decide_eq_true_iff];exact⟨fun h=> .inr ⟨by omega,h⟩,fun h=>(h.resolve_left (by omega)).2⟩) j (by omega) h2)⟩,(by omega),(G3 Z Z Z),fun _ h=>h⟩
   ·refine dC 24 Z (by kernel_rfl) Z Z Z Z<|dC 25 Z (by kernel_rfl) Z Z Z Z<|dC 26 Z (by kernel_rfl) Z Z Z Z<|dC 27 Z (by kernel_rfl) Z Z Z Z<|dC 28 Z (by kernel_rfl) Z Z Z Z<|aU 29 Z (by kernel_rfl) Z Z Z (bG Z Z)<|wD 30 Z (bG Z Z)<|wD 31 Z (aB underlying269 sz4 Z Z (rdr 0 Z) (by omega) (by omega))<|sV 32 Z (by kernel_rfl) (nH 0 Z sz4 Z Z (by omega) (by omega)) ?_
    rintro _ _ rfl
    refine⟨.inl (by kernel_rfl),?_⟩
    refine dD (by kernel_rfl)<|aN<|wm Z<|wS Z Z<|wg Z<|aA ?_
    exact⟨i-1,jS m i false,⟨(by omega),(by omega),(by rw[gB];exact hl),(fun j h0 h1 h2=>yY (by omega) (by omega) hl (fun j a b=>hM j (by omega) a b) (⟨fun h=>(by cases h),fun h=>absurd h (by omega)⟩) j (by omega) h2)⟩,(by omega),(G3 Z Z Z),fun _ h=>h⟩
 ·refine bF<|wq<|wm Z<|wg Z<|aA<|aY [0] 99 (by decide) Z ?_
  refine⟨_,Z,?_⟩
  obtain rfl:m=smL s:=aAt hl fun j h0 h1=>hM j h0 (by omega) h1
  exact⟨_,_,Z,Z⟩
theorem YN {s:List Int} {i:Int} (h0:0≤i) (hi:i<s.length) (h1:0<i) (h2:rdb (smL s) i=true) (h3: ¬rdb (smL s) (i-1)=true):cZ s i=true:=by
 rw[gX h0 hi] at h2
 rw[gX (by omega) (by omega)] at h3
 exact iB.2 ⟨h1,h2,by simpa using h3⟩
theorem aBn {s:List Int} {i:Int} (h0:0≤i) (hi:i<s.length) (h: ¬(0<i∧rdb (smL s) i=true∧ ¬rdb (smL s) (i-1)=true)): ¬cZ s i=true:=fun e=>by
 obtain⟨h1,h2,h3⟩:=iB.1 e
 exact h ⟨h1,by rw[gX h0 hi];exact h2,by rw[gX (by omega) (by omega),h3];simp⟩
theorem UT (s:List Int):vP s 1=[]:=by
 show vP s (0+1)=[]
 rw[rO (by omega),if_neg (fun h=>by have:=(iB.1 h).1;omega)]
 rfl
theorem UU {s:List Int} {i:Int} (h:i=s.length∨i=1∧s.length=0):vP s i=aS s:=by
 rcases h with rfl|⟨rfl,h⟩
 ·exact vO
 ·rw[UT,←vO,h];rfl
theorem DX {w:World} {A_s:Option Addr} {n_s c_s:Nat} {s:List Int} (h_s:Rd w A_s n_s c_s 1 (ints .i64 s)) (hN:s.length≤1000000):
  Ct Tryz.prog 290 #[.slice A_s n_s c_s] w.heap.size w [] (fun v R'=> ∃A c,v= .slice A (aS s).length c∧R'=[(ri 3 A ((aS s).length) c (aS s))]):=by
 obtain rfl:=h_s.lenI
 refine fn1 Tryz.func290 Z Z Z ?_
 have m_s:=h_s.max
 refine wq<|wg Z<|aA<|wq<|eY (R1:=[(ri 3 none 0 0 ([]))]) (Sub.refl _) (fun _ h=>h.nil 3 1)<|wg Z<|aA<|wq<|wm Z<|wa (aC aAd Z (Ct.fresh (fun w hw=>BM ((h_s.c _) w hw) (by first|assumption|omega|decide)))) ?_
 rintro _ _ ⟨_,rfl,A_1,c_2,rfl,rfl⟩
 refine wg Z<|aA<|aF<|wq<|wm Z<|wy (aV underlying52 Z)<|wm Z<|aA<|aI ?_
 refine lI (fun(A1:Option Addr) (n1:Nat) (c1:Nat) (acc:List Int) (i:Int)=>[(3, .slice A1 n1 c1),(4, .slice A_1 s.length c_2),(9,I ((s.length:Nat):Int)),(10,I i)]) (fun(A1:Option Addr) (n1:Nat) (c1:Nat) (acc:List Int) (i:Int)=>[⟨4,1,A_1,s.length,c_2,bools (smL s),false⟩,(ri 3 A1 n1 c1 acc)]) (fun(A1:Option Addr) (n1:Nat) (c1:Nat) (acc:List Int) (i:Int)=>(n1=acc.length)∧(0≤i)∧(i≤s.length)∧(acc=vP s i)) (fun(A1:Option Addr) (n1:Nat) (c1:Nat) (acc:List Int) (i:Int)=>(s.length-i).toNat) ?_ ?_
 ·exact⟨none,0,0,[],0,⟨(Z),(by omega),(by omega),(Z)⟩,(G4 Z Z Z Z),fun _ h=>h⟩
 intro A1 n1 c1 acc i ⟨hn1,hi0,hi1,hacc⟩
 refine wq<|wL Z Z<|aA<|aF<|bR Z (fun hc1=> ?_) (fun hc1=> ?_)
 ·refine aM<|aF<|aI<|wq<|wm Z<|wg Z<|aA<|wq<|wm Z<|wy (kU Z Z)<|wm Z<|gH 5 [(3, .slice A1 n1 c1),(4, .slice A_1 s.length c_2),(5,I i),(9,I ((s.length:Nat):Int)),(10,I i),(20, .bool (decide ((0<i)∧(rdb (smL s) i=true))))] [⟨4,1,A_1,s.length,c_2,bools (smL s),false⟩,(ri 3 A1 n1 c1 acc)] ?_ ?_
  ·refine fA 15 Z (fun hc2=> ?_) (fun hc2=> ?_)
   ·refine aD Z Z<|wm Z<|aD Z Z<|wm Z<|aD Z Z<|wy (aB underlying269 sz4 Z Z (rdr 0 Z) (by omega) (by omega))<|aD Z Z<|wy (rX underlying4 Z Z (rdr 0 Z) (by omega) (by omega))<|wy (aX Z Z)<|aA ?_
    exact⟨(sc Z (sc Z (sc Z (sc Z (sc Z (Sub.to Z (mb (by first|omega|exact⟨fun h=>⟨(by assumption),h⟩,fun h=>h.2⟩|exact .inl (by assumption)|exact⟨.inr,fun h=>h.resolve_left (by assumption)⟩|exact⟨fun h=>h.resolve_left (by assumption), .inr⟩|simp[*])) Sub.nil)))))),fun _ h=>h⟩
   ·refine aT Z Z Z Z<|aT Z Z Z Z<|aT Z Z Z Z<|aT Z Z Z Z<|wy (bG Z Z)<|aA ?_
    exact⟨(sc Z (sc Z (sc Z (sc Z (sc Z (Sub.to Z (zJ (by first|omega|exact⟨fun h=>⟨(by assumption),h⟩,fun h=>h.2⟩|exact .inl (by assumption)|exact⟨.inr,fun h=>h.resolve_left (by assumption)⟩|exact⟨fun h=>h.resolve_left (by assumption), .inr⟩|simp[*])) Sub.nil)))))),fun _ h=>h⟩
  refine wm Z<|gH 7 [(3, .slice A1 n1 c1),(4, .slice A_1 s.length c_2),(5,I i),(9,I ((s.length:Nat):Int)),(10,I i),(28, .bool (decide (((0<i)∧(rdb (smL s) i=true))∧(¬(rdb (smL s) (i-1)=true)))))] [⟨4,1,A_1,s.length,c_2,bools (smL s),false⟩,(ri 3 A1 n1 c1 acc)] ?_ ?_
  ·refine fA 21 Z (fun hc3=> ?_) (fun hc3=> ?_)
   ·refine aD Z Z<|wm Z<|aD Z Z<|wm Z<|aD Z Z<|wS Z Z<|aD Z Z<|wy (aB underlying269 sz4 Z Z (rdr 0 Z) (by omega) (by omega))<|aD Z Z<|wy (rX underlying4 Z Z (rdr 0 Z) (by omega) (by omega))<|aD Z Z<|wy (yO Z)<|wy (aX Z Z)<|aA ?_
    exact⟨(sc Z (sc Z (sc Z (sc Z (sc Z (Sub.to Z (mb (by first|omega|exact⟨fun h=>⟨(by assumption),h⟩,fun h=>h.2⟩|exact .inl (by assumption)|exact⟨.inr,fun h=>h.resolve_left (by assumption)⟩|exact⟨fun h=>h.resolve_left (by assumption), .inr⟩|simp[*])) Sub.nil)))))),fun _ h=>h⟩
   ·refine aT Z Z Z Z<|aT Z Z Z Z<|aT Z Z Z Z<|aT Z Z Z Z<|aT Z Z Z Z<|aT Z Z Z Z<|wy (bG Z Z)<|aA ?_
    exact⟨(sc Z (sc Z (sc Z (sc Z (sc Z (Sub.to Z (zJ (by first|omega|exact⟨fun h=>⟨(by assumption),h⟩,fun h=>h.2⟩|exact .inl (by assumption)|exact⟨.inr,fun h=>h.resolve_left (by assumption)⟩|exact⟨fun h=>h.resolve_left (by assumption), .inr⟩|simp[*])) Sub.nil)))))),fun _ h=>h⟩
  refine aA<|bR Z (fun hc4=> ?_) (fun hc4=> ?_)
  ·refine aN<|wm Z<|wm Z<|wa (bV .i64 [i] underlying52 zs3 Z Z Z) ?_
   rintro _ _ ⟨g_5,rfl,rfl⟩
   refine wa (bX 2 Z underlying52 zb3 Z Z Z (rdr 0 Z) (by have:=congrArg List.length hacc;have:=DU (s:=s) i;omega)) ?_
   rintro _ _ ⟨A_6,c_7,rfl,rfl⟩
   refine bY (v:= .slice A_6 (n1+1) c_7) Z<|wg Z<|aA<|aN<|wA Z Z<|wm Z<|aA ?_
   exact⟨A_6,n1+1,c_7,acc++([i]),i+1,⟨(by rw[List.length_append,hn1];try rfl),(by omega),(by omega),(by rw[rO (by omega),if_pos (YN (by omega) (by omega) hc4.1.1 hc4.1.2 hc4.2),hacc])⟩,(by omega),(G4 Z Z Z Z),fun _ h=>h.sel [1,2] (by decide) Z⟩
  ·refine aM<|aN<|wA Z Z<|wm Z<|aA ?_
   exact⟨A1,n1,c1,acc,i+1,⟨(hn1),(by omega),(by omega),(by rw[rO (by omega),if_neg (aBn (by omega) (by omega) (fun h=>hc4 ⟨⟨h.1,h.2.1⟩,h.2.2⟩)),List.append_nil,hacc])⟩,(by omega),(G4 Z Z Z Z),fun _ h=>h⟩
 ·refine bF<|wq<|wm Z<|wg Z<|aA<|aY [1] 99 (by decide) Z ?_
  refine⟨_,Z,?_⟩
  rw[UU (by omega)] at hacc
  subst hacc
  obtain rfl:=hn1
  exact⟨_,_,Z,Z⟩
end Go.Proofs.YtdbebmmhdefgdaaGreat

namespace Go.Proofs.YtdbebmmhdefgdaaGreat
open Go Go.Eng Go.Pure
set_option linter.unusedVariables false
set_option maxRecDepth 100000
end Go.Proofs.YtdbebmmhdefgdaaGreat

namespace Go.Proofs.YtdbebmmhdefgdaaGreat
open Go Go.Eng Go.Pure
open Tryz
set_option linter.unusedVariables false
set_option maxRecDepth 100000
theorem PE {cs V:List Int} {i:Int} (h0:0≤i) (hi:i<cs.length) (hl:V.length=cs.length) (hV: ∀j:Int,0≤j→j<cs.length→rd V j=if j<i then ps cs (j+1) else ps cs j):
  ∀j:Int,0≤j→j<cs.length→rd (upd V i (rd V i+rd cs i)) j=if j<i+1 then ps cs (j+1) else ps cs j:=by
 intro j j0 j1
 have e1:rd (upd V i (rd V i+rd cs i)) j=if j=i then rd V i+rd cs i else rd V j:=dR h0 j0 (by omega)
 have e2:=hV i h0 hi
 rw[if_neg (by omega)] at e2
 rw[e1,e2,hV j j0 j1]
 by_cases e:j=i
 ·subst e
  rw[if_pos rfl,if_pos (by omega),kI h0 hi]
 ·rw [if_neg e]
  by_cases h:j<i
  ·rw[if_pos h,if_pos (by omega)]
  ·rw[if_neg h,if_neg (by omega)]
theorem MM {s:List Int} {k:Int} (hk:0≤k) (hs: ∀x∈s,0≤x∧x<k):(bM s k).sum=s.length:=by
 have h:=vV (order:=iota s.length) (keys:=s) (k:=k) hk fun i hi=>hs _ (bA (aO.1 hi).1 (aO.1 hi).2)
 rwa[gP,aW] at h
theorem PG {cs V:List Int} (hl:V.length=cs.length) (hV: ∀j:Int,0≤j→j<cs.length→rd V j=if j<cs.length then ps cs (j+1) else ps cs j):V=kD cs:=
 bB (hl.trans (rQ cs).symm) fun j h1 h2=>by rw[uR h1 (by omega),hV j h1 (by omega),if_pos (by omega)]
theorem ME {B:Nat} {w0:World} {R:List Row} {g_x:Nat} {A_s A_m A_c A_r:Option Addr} {c_s c_m c_c c_r:Nat} {s:List Int} {k:Int} (h_x:RdC B w0 R (GG g_x) 1 1 4 [.slice A_s s.length c_s, .slice A_m s.length c_m, .slice A_c k.toNat c_c, .slice A_r s.length c_r]) (h_c:RdC B w0 R A_c k.toNat c_c 1 (ints .i64 (bM s k))) (hk:0≤k∧k≤1048576) (hs: ∀x∈s,0≤x∧x<k) (hN:s.length≤1000000):
  Ct Tryz.prog 317 #[.pointer (GG g_x)] B w0 (R) (fun v R'=> ∃A c,v= .slice A k.toNat c∧R'=(ri 3 A k.toNat c (kD (bM s k)))::R):=by
 refine fn1 Tryz.func317 Z Z Z ?_
 have hcl:(bM s k).length=k.toNat:=bL _ _
 have hsum:(bM s k).sum=s.length:=MM (by omega) hs
 have hSl:(bJ (bM s k)).length=k.toNat:=by rw[bZ,hcl]
 refine wq<|wg Z<|aA<|wq<|wm Z<|wy (aH Z)<|wy (aG (off:=2) (m:=2) underlying352 Z fV Z Z Z)<|wy (aK (RdC.right h_x []) underlying52 Z Z Z)<|wa (aC VB Z (Ct.fresh (fun w hw=>qZ ((RdC.right h_c []) w hw) (gT _ _) (by rw[hsum];omega) (by rw[hcl];omega)))) ?_
 rintro _ _ ⟨_,rfl,A_1,c_2,rfl,rfl⟩
 refine wg Z<|aA<|aF<|wq<|wm Z<|wy (aH Z)<|wy (aG (off:=2) (m:=2) underlying352 Z fV Z Z Z)<|wy (aK (RdC.right h_x [_]) underlying52 Z Z Z)<|wy (aV underlying52 Z)<|wm Z<|aA<|aI ?_
 refine jB (fun(i:Int) (V:List Int)=>[(3, .slice A_1 ((bJ (bM s k)).length) c_2),(14, .slice A_c k.toNat c_c),(15,I ((k.toNat:Nat):Int)),(16,I i)]) (fun(i:Int) (V:List Int)=>((ri 3 A_1 ((bJ (bM s k)).length) c_2 V)::R)) (fun(i:Int) (V:List Int)=>(0≤i)∧(i≤(bM s k).length)∧(V.length=(bM s k).length)∧(∀j:Int,0≤j→j<(bM s k).length→rd V j=if j<i then ps (bM s k) (j+1) else ps (bM s k) j)) (fun(i:Int) (V:List Int)=>((bM s k).length-i).toNat) ?_ ?_
 ·exact⟨0,bJ (bM s k),⟨(by omega),(by omega),(by rw[bZ]),(fun j h1 h2=>by rw[if_neg (by omega)];exact jW h1 h2)⟩,(G4 rfl rfl rfl rfl),fun _ h=>h⟩
 intro i V ⟨hi0,hi1,hVl,hV⟩
 refine wq<|wL Z Z<|aA<|aF<|bR Z (fun hc1=> ?_) (fun hc1=> ?_)
 ·have hb1:=mP (gT s k) i
  have hb2:=mP (gT s k) (i+1)
  rw[hsum] at hb1 hb2
  have hvi:=hV i hi0 (by omega)
  rw[if_neg (by omega)] at hvi
  have hps:=kI (L:=bM s k) hi0 (by omega)
  refine aM<|aF<|aI<|wq<|wm Z<|wy (aB underlying52 sz3 Z Z (RdC.right h_c [_]) (by omega) (by omega))<|wy (aZ underlying3 Z Z (RdC.right h_c [_]) (by omega) (by omega))<|wg Z<|wg Z<|aA<|aN<|wm Z<|wm Z<|wy (aB underlying52 sz3 Z Z (rdr 0 Z) (by omega) (by omega)) ?_
  refine wy (aZ underlying3 Z Z (rdr 0 Z) (by omega) (by omega))<|wm Z<|wA Z Z<|wy (aB underlying52 sz3 Z Z (rdr 0 Z) (by omega) (by omega))<|dK (bD 0 Z sz3 Z Z (by omega) (by omega)) ?_
  rintro _ _ rfl
  refine aA<|aN<|wA Z Z<|wm Z<|aA ?_
  exact⟨i+1,upd V i ((rd V i)+(rd (bM s k) i)),⟨(by omega),(by omega),(by rw[aQ];exact hVl),(PE hi0 (by omega) hVl hV)⟩,(by omega),(G4 Z Z Z Z),fun _ h=>h⟩
 ·refine bF<|wq<|wm Z<|wg Z<|aA ?_
  have hke:k.toNat=(bM s k).length:=hcl.symm
  obtain rfl:V=kD (bM s k):=PG hVl fun j h1 h2=>by rw[hV j h1 h2,if_pos (by omega),if_pos (by omega)]
  refine fC ?_
  rw[bZ,hcl]
  exact⟨_,Z,_,_,Z,Z⟩
theorem lgC {s D:List Int} {i:Int} (hent:rd D i= -1∨(0≤rd D i∧rd D i<s.length)):(0<rd D i∧ ¬rdb (smL s) (rd D i-1)=true)↔(0<rd D i∧smB s (rd D i-1)=false):=by
 constructor
 ·rintro ⟨h1,h2⟩
  rw[gX (by omega) (by omega)] at h2
  exact⟨h1,by simpa using h2⟩
 ·rintro ⟨h1,h2⟩
  rw[gX (by omega) (by omega),h2]
  exact⟨h1,by simp⟩
theorem smC {s D:List Int} {i:Int} (hent:rd D i= -1∨(0≤rd D i∧rd D i<s.length)):(0<rd D i∧rdb (smL s) (rd D i-1)=true)↔(0<rd D i∧smB s (rd D i-1)=true):=by
 constructor
 ·rintro ⟨h1,h2⟩
  rw[gX (by omega) (by omega)] at h2
  exact⟨h1,h2⟩
 ·rintro ⟨h1,h2⟩
  rw[gX (by omega) (by omega),h2]
  exact⟨h1,Z⟩
section
variable {s l D H:List Int} {k i:Int} (hk:0≤k) (hs: ∀x∈s,0≤x∧x<k) (hp:l.Perm (aS s)) (hn:0<s.length)
include hk hs hp hn
theorem aBr (i0:0≤i) (hi:i<s.length) (hD:D=(itL s k l i.toNat).1) (hH:H=(itL s k l i.toNat).2):(rd D i= -1∨(0≤rd D i∧rd D i<s.length))∧(D.length=s.length∧H.length=k.toNat):=by
 have h:=fLe hk hs hp hn (i:=i.toNat) (by omega) hD hH
 rwa[Int.toNat_of_nonneg i0] at h
theorem fLZ (i0:0≤i) (hi:i<s.length) (hD:D=(itL s k l i.toNat).1) (hH:H=(itL s k l i.toNat).2) (hc:0<rd D i∧ ¬rdb (smL s) (rd D i-1)=true):
  rd D i<s.length∧(0≤rd s (rd D i-1)∧rd s (rd D i-1)<k)∧(0≤rd H (rd s (rd D i-1))∧rd H (rd s (rd D i-1))<s.length)∧upd D (rd H (rd s (rd D i-1))) (rd D i-1)=(itL s k l (i+1).toNat).1∧upd H (rd s (rd D i-1)) (rd H (rd s (rd D i-1))+1)=(itL s k l (i+1).toNat).2:=by
 have he:=(aBr hk hs hp hn i0 hi hD hH).1
 have h:=fL hk hs hp hn (i:=i.toNat) (by omega) hD hH (by rw[Int.toNat_of_nonneg i0];exact(lgC he).1 hc)
 rw[Int.toNat_of_nonneg i0] at h
 rwa[show(i+1).toNat=i.toNat+1 by omega]
theorem aFp (i0:0≤i) (hi:i<s.length) (hD:D=(itL s k l i.toNat).1) (hH:H=(itL s k l i.toNat).2) (hc: ¬(0<rd D i∧ ¬rdb (smL s) (rd D i-1)=true)):D=(itL s k l (i+1).toNat).1∧H=(itL s k l (i+1).toNat).2:=by
 have he:=(aBr hk hs hp hn i0 hi hD hH).1
 have h:=fLs (i:=i.toNat) hD hH (by rw[Int.toNat_of_nonneg i0];exact fun h=>hc ((lgC he).2 h))
 rwa[show(i+1).toNat=i.toNat+1 by omega]
theorem aBq (i0:0≤i) (hi:i<s.length) (hD:D=(itS s k l (s.length-1-i).toNat).1) (hH:H=(itS s k l (s.length-1-i).toNat).2):(rd D i= -1∨(0≤rd D i∧rd D i<s.length))∧(D.length=s.length∧H.length=k.toNat):=
 fSe hk hs hp hn (m:=((s.length:Int)-1-i).toNat) (by omega) (by omega) hD hH
theorem fSZ (i0:0≤i) (hi:i<s.length) (hD:D=(itS s k l (s.length-1-i).toNat).1) (hH:H=(itS s k l (s.length-1-i).toNat).2) (hc:0<rd D i∧rdb (smL s) (rd D i-1)=true):
  rd D i<s.length∧(0≤rd s (rd D i-1)∧rd s (rd D i-1)<k)∧(0≤rd H (rd s (rd D i-1))-1∧rd H (rd s (rd D i-1))-1<s.length)∧upd D (rd H (rd s (rd D i-1))-1) (rd D i-1)=(itS s k l (s.length-1-(i-1)).toNat).1∧upd H (rd s (rd D i-1)) (rd H (rd s (rd D i-1))-1)=(itS s k l (s.length-1-(i-1)).toNat).2:=by
 have he:=(aBq hk hs hp hn i0 hi hD hH).1
 have h:=fS hk hs hp hn (m:=((s.length:Int)-1-i).toNat) (by omega) (by omega) hD hH ((smC he).1 hc)
 rwa[show((s.length:Int)-1-(i-1)).toNat=((s.length:Int)-1-i).toNat+1 by omega]
theorem aFo (i0:0≤i) (hi:i<s.length) (hD:D=(itS s k l (s.length-1-i).toNat).1) (hH:H=(itS s k l (s.length-1-i).toNat).2) (hc: ¬(0<rd D i∧rdb (smL s) (rd D i-1)=true)):D=(itS s k l (s.length-1-(i-1)).toNat).1∧H=(itS s k l (s.length-1-(i-1)).toNat).2:=by
 have he:=(aBq hk hs hp hn i0 hi hD hH).1
 have h:=fSs (m:=((s.length:Int)-1-i).toNat) (i:=i) (by omega) hD hH (fun h=>hc ((smC he).2 h))
 rwa[show((s.length:Int)-1-(i-1)).toNat=((s.length:Int)-1-i).toNat+1 by omega]
end
theorem UF {B:Nat} {w0:World} {R:List Row} {g_x:Nat} {A_s A_m A_c A_r:Option Addr} {c_s c_m c_c c_r:Nat} {s:List Int} {k:Int} {A_e:Option Addr} {n_e c_e:Nat} {row E:List Int} {j:Int} (h_x:RdC B w0 R (GG g_x) 1 1 4 [.slice A_s s.length c_s, .slice A_m s.length c_m, .slice A_c k.toNat c_c, .slice A_r s.length c_r]) (h_s:RdC B w0 R A_s s.length c_s 1 (ints .i64 s)) (hk:0≤k∧k≤1048576) (hN:s.length≤1000000) (hj:0≤j∧j<s.length) (hc:0≤rd s j∧rd s j<k) (hl:row.length=s.length∧E.length=k.toNat∧n_e=k.toNat) (hv:0≤(rd E (rd s j))-1∧(rd E (rd s j))-1<s.length):
  Ct Tryz.prog 318 #[.pointer (GG g_x), .slice A_e n_e c_e,I j] B w0 ((ri 3 A_r s.length c_r row)::(ri 3 A_e n_e c_e E)::R) (fun v R'=>v= .tuple #[]∧R'=(ri 3 A_r s.length c_r (upd row ((rd E (rd s j))-1) j))::(ri 3 A_e n_e c_e (upd E (rd s j) ((rd E (rd s j))-1)))::R):=by
 refine fn0 Tryz.func318 Z Z Z ?_
 obtain⟨hl1,hl2,hl3⟩:=hl
 have he:rd (upd E (rd s j) ((rd E (rd s j))-1)) (rd s j)=(rd E (rd s j))-1:=dL hc.1 (by omega)
 refine wq<|wm Z<|wm Z<|wy (aH Z)<|wy (aG (off:=0) (m:=0) underlying352 Z fV Z Z Z)<|wy (aK (RdC.right h_x [_,_]) underlying52 Z Z Z)<|wm Z<|wy (aB underlying52 sz3 Z Z (RdC.right h_s [_,_]) (by omega) (by omega))<|wy (aZ underlying3 Z Z (RdC.right h_s [_,_]) (by omega) (by omega))<|wy (aB underlying52 sz3 Z Z (rdr 1 Z) (by omega) (by omega))<|wy (aZ underlying3 Z Z (rdr 1 Z) (by omega) (by omega))<|wS Z Z<|wy (aB underlying52 sz3 Z Z (rdr 1 Z) (by omega) (by omega))<|dK (bD 1 Z sz3 Z Z (by omega) (by omega)) ?_
 rintro _ _ rfl
 refine WP (R1:=((ri 3 A_r s.length c_r row)::(ri 3 A_e n_e c_e (upd E (rd s j) ((rd E (rd s j))-1)))::R)) Z<|aA<|dQ mixed<|wD 0 Z (aJ Z)<|wD 1 Z (aH Z)<|wD 2 Z (aG (off:=3) (m:=3) underlying352 Z fV Z Z Z)<|wD 3 Z (aK (RdC.right h_x [_,_]) underlying52 Z Z Z)<|wD 4 Z (aJ Z)<|wD 5 Z (aJ Z)<|wD 6 Z (aH Z)<|wD 7 Z (aG (off:=0) (m:=0) underlying352 Z fV Z Z Z)<|wD 8 Z (aK (RdC.right h_x [_,_]) underlying52 Z Z Z)<|wD 9 Z (aJ Z)<|wD 10 Z (aB underlying52 sz3 Z Z (RdC.right h_s [_,_]) (by omega) (by omega))<|wD 11 Z (aZ underlying3 Z Z (RdC.right h_s [_,_]) (by omega) (by omega)) ?_
 refine wD 12 Z (aB underlying52 sz3 Z Z (rdr 1 Z) (by omega) (by omega))<|wD 13 Z (aZ underlying3 Z Z (rdr 1 Z) (by omega) (by omega))<|wD 14 Z (aJ Z)<|wD 15 Z (aB underlying52 sz3 Z Z (rdr 0 Z) (by omega) (by omega))<|sV 16 Z (by kernel_rfl) (bD 0 Z sz3 Z Z (by omega) (by omega)) ?_
 rintro _ _ rfl
 refine⟨.inl (by kernel_rfl),?_⟩
 refine WS (R1:=((ri 3 A_r s.length c_r (upd row (rd (upd E (rd s j) ((rd E (rd s j))-1)) (rd s j)) j))::(ri 3 A_e n_e c_e (upd E (rd s j) ((rd E (rd s j))-1)))::R)) Z<|dD (by kernel_rfl) ?_
 exact⟨Z,by rw[he]⟩
theorem LK {B:Nat} {w0:World} {R:List Row} {g_x:Nat} {A_s A_m A_c A_r:Option Addr} {c_s c_m c_c c_r:Nat} {s:List Int} {k:Int} {A_e:Option Addr} {n_e c_e:Nat} {row E:List Int} {j:Int} (h_x:RdC B w0 R (GG g_x) 1 1 4 [.slice A_s s.length c_s, .slice A_m s.length c_m, .slice A_c k.toNat c_c, .slice A_r s.length c_r]) (h_s:RdC B w0 R A_s s.length c_s 1 (ints .i64 s)) (hk:0≤k∧k≤1048576) (hN:s.length≤1000000) (hj:0≤j∧j<s.length) (hc:0≤rd s j∧rd s j<k) (hl:row.length=s.length∧E.length=k.toNat∧n_e=k.toNat) (hv:0≤rd E (rd s j)∧rd E (rd s j)<s.length):
  Ct Tryz.prog 347 #[.pointer (GG g_x), .slice A_e n_e c_e,I j] B w0 ((ri 3 A_r s.length c_r row)::(ri 3 A_e n_e c_e E)::R) (fun v R'=>v= .tuple #[]∧R'=(ri 3 A_r s.length c_r (upd row (rd E (rd s j)) j))::(ri 3 A_e n_e c_e (upd E (rd s j) ((rd E (rd s j))+1)))::R):=by
 refine fn0 Tryz.func347 Z Z Z ?_
 obtain⟨hl1,hl2,hl3⟩:=hl
 refine aF<|dQ mixed<|wD 0 Z (aJ Z)<|wD 1 Z (aH Z)<|wD 2 Z (aG (off:=3) (m:=3) underlying352 Z fV Z Z Z)<|wD 3 Z (aK (RdC.right h_x [_,_]) underlying52 Z Z Z)<|wD 4 Z (aJ Z)<|wD 5 Z (aJ Z)<|wD 6 Z (aH Z)<|wD 7 Z (aG (off:=0) (m:=0) underlying352 Z fV Z Z Z)<|wD 8 Z (aK (RdC.right h_x [_,_]) underlying52 Z Z Z)<|wD 9 Z (aJ Z)<|wD 10 Z (aB underlying52 sz3 Z Z (RdC.right h_s [_,_]) (by omega) (by omega))<|wD 11 Z (aZ underlying3 Z Z (RdC.right h_s [_,_]) (by omega) (by omega))<|wD 12 Z (aB underlying52 sz3 Z Z (rdr 1 Z) (by omega) (by omega)) ?_
 refine wD 13 Z (aZ underlying3 Z Z (rdr 1 Z) (by omega) (by omega))<|wD 14 Z (aJ Z)<|wD 15 Z (aB underlying52 sz3 Z Z (rdr 0 Z) (by omega) (by omega))<|sV 16 Z (by kernel_rfl) (bD 0 Z sz3 Z Z (by omega) (by omega)) ?_
 rintro _ _ rfl
 refine⟨.inl (by kernel_rfl),?_⟩
 refine dD (by kernel_rfl)<|aN<|wm Z<|wm Z<|wy (aH Z)<|wy (aG (off:=0) (m:=0) underlying352 Z fV Z Z Z)<|wy (aK (RdC.right h_x [_,_]) underlying52 Z Z Z)<|wm Z<|wy (aB underlying52 sz3 Z Z (RdC.right h_s [_,_]) (by omega) (by omega))<|wy (aZ underlying3 Z Z (RdC.right h_s [_,_]) (by omega) (by omega))<|wy (aB underlying52 sz3 Z Z (rdr 1 Z) (by omega) (by omega))<|wy (aZ underlying3 Z Z (rdr 1 Z) (by omega) (by omega))<|wA Z Z<|wy (aB underlying52 sz3 Z Z (rdr 1 Z) (by omega) (by omega))<|dK (bD 1 Z sz3 Z Z (by omega) (by omega)) ?_
 rintro _ _ rfl
 refine aA ?_
 exact⟨Z,Z⟩
theorem UG {B:Nat} {w0:World} {R:List Row} {g_x:Nat} {A_s A_m A_c A_r:Option Addr} {c_s c_m c_c c_r:Nat} {s l:List Int} {k:Int} {row:List Int} (h_x:RdC B w0 R (GG g_x) 1 1 4 [.slice A_s s.length c_s, .slice A_m s.length c_m, .slice A_c k.toNat c_c, .slice A_r s.length c_r]) (h_s:RdC B w0 R A_s s.length c_s 1 (ints .i64 s)) (h_m:RdC B w0 R A_m s.length c_m 1 (bools (smL s))) (h_c:RdC B w0 R A_c k.toNat c_c 1 (ints .i64 (bM s k))) (hk:0≤k∧k≤1048576) (hs: ∀x∈s,0≤x∧x<k) (hN:s.length≤1000000) (hp:l.Perm (aS s)) (hn:0<s.length) (hrow:row=(itF s k l).1):
  Ct Tryz.prog 319 #[.pointer (GG g_x)] B w0 ((ri 3 A_r s.length c_r row)::R) (fun v R'=>v= .tuple #[]∧R'=(ri 3 A_r s.length c_r ((itL s k l s.length).1))::R):=by
 refine fn0 Tryz.func319 Z Z Z ?_
 have hcl:(bM s k).length=k.toNat:=bL _ _
 have hsum:(bM s k).sum=s.length:=MM hk.1 hs
 have hSl:(bJ (bM s k)).length=k.toNat:=by rw[bZ,hcl]
 obtain⟨f1,f2,f3,f4,f5,f6⟩:=fL0 hk.1 hs hp hn hrow (rfl:bJ (bM s k)=_)
 refine wq<|wm Z<|wy (aH Z)<|wy (aG (off:=2) (m:=2) underlying352 Z fV Z Z Z)<|wy (aK (RdC.right h_x [_]) underlying52 Z Z Z)<|wa (aC VB Z (Ct.fresh (fun w hw=>qZ ((RdC.right h_c [_]) w hw) (gT _ _) (by rw[hsum];omega) (by rw[hcl];omega)))) ?_
 rintro _ _ ⟨_,rfl,A_1,c_2,rfl,rfl⟩
 refine wg Z<|aA<|wq<|wm Z<|wm Z<|wm Z<|wy (aH Z)<|wy (aG (off:=0) (m:=0) underlying352 Z fV Z Z Z)<|wy (aK (RdC.right h_x [_,_]) underlying52 Z Z Z)<|wy (aV underlying52 Z)<|wS Z Z<|eY (R1:=((ri 3 A_r s.length c_r row)::(ri 3 A_1 ((bJ (bM s k)).length) c_2 (bJ (bM s k)))::R)) (Sub.refl _) (fun _ h=>h.selR (F:=[_,_]) (F':=[_,_]) [1,0] (by decide) Z)<|wa (aC ZZ Z (LK (row:=row) (E:=(bJ (bM s k))) (j:=(((s.length:Nat):Int)-1)) (RdC.right h_x []) (RdC.right h_s []) hk hN ⟨by omega,by omega⟩ f1 ⟨f3.1,f3.2,by rw[bZ,hcl]⟩ f2)) ?_
 rintro _ _ ⟨rfl,rfl⟩
 refine aA<|wq<|wm Z<|wy (aH Z)<|wy (aG (off:=3) (m:=3) underlying352 Z fV Z Z Z)<|wy (aK (RdC.right h_x [_,_]) underlying52 Z Z Z)<|wy (aV underlying52 Z)<|wm Z<|aA<|aI ?_
 refine gV (fun(i:Int) (D:List Int) (H:List Int)=>[(0, .pointer (GG g_x)),(2, .slice A_1 ((bJ (bM s k)).length) c_2),(23,I ((s.length:Nat):Int)),(24,I i)]) (fun(i:Int) (D:List Int) (H:List Int)=>((ri 3 A_r s.length c_r D)::(ri 3 A_1 ((bJ (bM s k)).length) c_2 H)::R)) (fun(i:Int) (D:List Int) (H:List Int)=>(0≤i)∧(i≤s.length)∧(D=(itL s k l i.toNat).1)∧(H=(itL s k l i.toNat).2)) (fun(i:Int) (D:List Int) (H:List Int)=>(s.length-i).toNat) ?_ ?_
 ·exact⟨0,upd row (rd (bJ (bM s k)) (rd s (((s.length:Nat):Int)-1))) (((s.length:Nat):Int)-1),upd (bJ (bM s k)) (rd s (((s.length:Nat):Int)-1)) ((rd (bJ (bM s k)) (rd s (((s.length:Nat):Int)-1)))+1),⟨(by omega),(by omega),(f4),(f5)⟩,(G4 Z Z Z Z),fun _ h=>h⟩
 intro i D H ⟨hi0,hi1,hD,hH⟩
 refine wq<|wL Z Z<|aA<|aF<|bR Z (fun hc1=> ?_) (fun hc1=> ?_)
 ·have hf:=aBr hk.1 hs hp hn hi0 (by omega) hD hH
  have hf1:=hf.1
  refine aM<|aF<|aI<|wq<|wm Z<|wg Z<|aA<|wq<|wm Z<|wy (aH Z)<|wy (aG (off:=3) (m:=3) underlying352 Z fV Z Z Z)<|wy (aK (RdC.right h_x [_,_]) underlying52 Z Z Z)<|wm Z ?_
  refine wy (aB underlying52 sz3 Z Z (rdr 0 Z) (by omega) (by omega))<|wy (aZ underlying3 Z Z (rdr 0 Z) (by omega) (by omega))<|wg Z<|aA<|wq<|wm Z<|wy (kU Z Z)<|wm Z<|gH 10 [(0, .pointer (GG g_x)),(2, .slice A_1 ((bJ (bM s k)).length) c_2),(4,I (rd D i)),(23,I ((s.length:Nat):Int)),(24,I i),(46, .bool (decide ((0<(rd D i))∧(¬(rdb (smL s) ((rd D i)-1)=true)))))] ((ri 3 A_r s.length c_r D)::(ri 3 A_1 ((bJ (bM s k)).length) c_2 H)::R) ?_ ?_
  ·refine fA 36 Z (fun hc2=> ?_) (fun hc2=> ?_)
   ·refine aD Z Z<|wm Z<|aD Z Z<|wy (aH Z)<|aD Z Z<|wy (aG (off:=1) (m:=1) underlying352 Z RG Z Z Z)<|aD Z Z<|wy (aK (RdC.right h_x [_,_]) underlying269 Z Z Z)<|aD Z Z<|wm Z<|aD Z Z<|wS Z Z<|aD Z Z<|wy (aB underlying269 sz4 Z Z (RdC.right h_m [_,_]) (by omega) (by omega))<|aD Z Z ?_
    refine wy (rX underlying4 Z Z (RdC.right h_m [_,_]) (by omega) (by omega))<|aD Z Z<|wy (yO Z)<|wy (aX Z Z)<|aA ?_
    exact⟨(sc Z (sc Z (sc Z (sc Z (sc Z (Sub.to Z (mb (by first|omega|exact⟨fun h=>⟨(by assumption),h⟩,fun h=>h.2⟩|exact .inl (by assumption)|exact⟨.inr,fun h=>h.resolve_left (by assumption)⟩|exact⟨fun h=>h.resolve_left (by assumption), .inr⟩|simp[*])) Sub.nil)))))),fun _ h=>h⟩
   ·refine aT Z Z Z Z<|aT Z Z Z Z<|aT Z Z Z Z<|aT Z Z Z Z<|aT Z Z Z Z<|aT Z Z Z Z<|aT Z Z Z Z<|aT Z Z Z Z<|aT Z Z Z Z<|wy (bG Z Z)<|aA ?_
    exact⟨(sc Z (sc Z (sc Z (sc Z (sc Z (Sub.to Z (zJ (by first|omega|exact⟨fun h=>⟨(by assumption),h⟩,fun h=>h.2⟩|exact .inl (by assumption)|exact⟨.inr,fun h=>h.resolve_left (by assumption)⟩|exact⟨fun h=>h.resolve_left (by assumption), .inr⟩|simp[*])) Sub.nil)))))),fun _ h=>h⟩
  refine aA<|bR Z (fun hc3=> ?_) (fun hc3=> ?_)
  ·obtain ⟨g1,g2,g3,g4,g5⟩:=fLZ hk.1 hs hp hn hi0 (by omega) hD hH hc3
   refine aN<|wm Z<|wm Z<|wm Z<|wS Z Z<|wa (aC ZZ Z (LK (row:=D) (E:=H) (j:=((rd D i)-1)) (RdC.right h_x []) (RdC.right h_s []) hk hN ⟨by omega,by omega⟩ g2 ⟨hf.2.1,hf.2.2,by rw[bZ,hcl]⟩ g3)) ?_
   rintro _ _ ⟨rfl,rfl⟩
   refine aA<|aN<|wA Z Z<|wm Z<|aA ?_
   exact⟨i+1,upd D (rd H (rd s ((rd D i)-1))) ((rd D i)-1),upd H (rd s ((rd D i)-1)) ((rd H (rd s ((rd D i)-1)))+1),⟨(by omega),(by omega),(g4),(g5)⟩,(by omega),(G4 Z Z Z Z),fun _ h=>h⟩
  ·have g4:=aFp hk.1 hs hp hn hi0 (by omega) hD hH hc3
   refine aM<|aN<|wA Z Z<|wm Z<|aA ?_
   exact⟨i+1,D,H,⟨(by omega),(by omega),(g4.1),(g4.2)⟩,(by omega),(G4 Z Z Z Z),fun _ h=>h⟩
 ·refine KC (R1:=((ri 3 A_r s.length c_r D)::R)) (Sub.refl _) (fun _ h=>h.selR (F:=[_,_]) (F':=[_]) [0] (by decide) Z) ?_
  have hie:i.toNat=s.length:=by omega
  rw[hie] at hD
  subst hD
  refine bF ?_
  exact⟨Z,Z⟩
theorem aEr {s D:List Int} {q:Int} (hent:rd D q= -1∨(0≤rd D q∧rd D q<s.length)):(0≤rd D q∧rdb (smL s) (rd D q)=true)↔(0≤rd D q∧smB s (rd D q)=true):=by
 constructor<;>rintro⟨h1,h2⟩<;>refine⟨h1,?_⟩
 ·rwa[gX h1 (by omega)] at h2
 ·rwa[gX h1 (by omega)]
theorem YY {s l D:List Int} {k q:Int} (hk:0≤k) (hs: ∀x∈s,0≤x∧x<k) (hp:l.Perm (aS s)) (hn:0<s.length) (q0:0≤q) (hq:q<s.length) (hD:D=kE s (itL s k l s.length).1 q):rd D q= -1∨(0≤rd D q∧rd D q<s.length):=by
 rw[hD,zF q0 (Int.le_refl _) q0 (by rw[uC hk hs hp hn];omega)]
 exact YX hk hs hp hn q0 hq
theorem VT {s l D:List Int} {k q:Int} (hk:0≤k) (hs: ∀x∈s,0≤x∧x<k) (hp:l.Perm (aS s)) (hn:0<s.length) (hq:(s.length:Int)≤q) (hD:D=kE s (itL s k l s.length).1 q):D=(itS s k l 0).1:=by
 rw[hD,VU (by rw[uC hk hs hp hn];exact hq)]
 rfl
theorem NS {B:Nat} {w0:World} {R:List Row} {g_x:Nat} {A_s A_m A_c A_r:Option Addr} {c_s c_m c_c c_r:Nat} {s l:List Int} {k:Int} (h_x:RdC B w0 R (GG g_x) 1 1 4 [.slice A_s s.length c_s, .slice A_m s.length c_m, .slice A_c k.toNat c_c, .slice A_r s.length c_r]) (h_s:RdC B w0 R A_s s.length c_s 1 (ints .i64 s)) (h_m:RdC B w0 R A_m s.length c_m 1 (bools (smL s))) (h_c:RdC B w0 R A_c k.toNat c_c 1 (ints .i64 (bM s k))) (hk:0≤k∧k≤1048576) (hs: ∀x∈s,0≤x∧x<k) (hN:s.length≤1000000) (hp:l.Perm (aS s)) (hn:0<s.length):
  Ct Tryz.prog 320 #[.pointer (GG g_x)] B w0 ((ri 3 A_r s.length c_r ((itL s k l s.length).1))::R) (fun v R'=>v= .tuple #[]∧R'=(ri 3 A_r s.length c_r (kC s k l))::R):=by
 refine fn0 Tryz.func320 Z Z Z ?_
 have hLl:=uC hk.1 hs hp hn
 refine aF<|wq<|wm Z<|wy (aH Z)<|wy (aG (off:=3) (m:=3) underlying352 Z fV Z Z Z)<|wy (aK (RdC.right h_x [_]) underlying52 Z Z Z)<|wy (aV underlying52 Z)<|wm Z<|aA<|aI ?_
 refine jB (fun(q:Int) (D:List Int)=>[(0, .pointer (GG g_x)),(10, .slice A_r s.length c_r),(11,I ((s.length:Nat):Int)),(12,I q)]) (fun(q:Int) (D:List Int)=>((ri 3 A_r s.length c_r D)::R)) (fun(q:Int) (D:List Int)=>(0≤q)∧(q≤s.length)∧(D=kE s (itL s k l s.length).1 q)) (fun(q:Int) (D:List Int)=>(s.length-q).toNat) ?_ ?_
 ·exact⟨0,(itL s k l s.length).1,⟨(by omega),(by omega),(PS.symm)⟩,(G4 Z Z Z Z),fun _ h=>h⟩
 intro q D ⟨hq0,hq1,hD⟩
 refine wq<|wL Z Z<|aA<|aF<|bR Z (fun hc1=> ?_) (fun hc1=> ?_)
 ·have hf1:=YY hk.1 hs hp hn hq0 (by omega) hD
  have hDl:D.length=s.length:=by rw[hD,EY,uC hk.1 hs hp hn]
  refine aM<|aF<|aI<|wq<|wm Z<|wy (aB underlying52 sz3 Z Z (rdr 0 Z) (by omega) (by omega))<|wy (aZ underlying3 Z Z (rdr 0 Z) (by omega) (by omega))<|wg Z<|wg Z<|aA<|wq<|wm Z<|wy (yQ Z Z) ?_
  refine wm Z<|gH 8 [(0, .pointer (GG g_x)),(2,I q),(10, .slice A_r s.length c_r),(11,I ((s.length:Nat):Int)),(12,I q),(27, .bool (decide ((0≤(rd D q))∧(rdb (smL s) (rd D q)=true))))] ((ri 3 A_r s.length c_r D)::R) ?_ ?_
  ·refine fA 19 Z (fun hc2=> ?_) (fun hc2=> ?_)
   ·refine aD Z Z<|wm Z<|aD Z Z<|wy (aH Z)<|aD Z Z<|wy (aG (off:=1) (m:=1) underlying352 Z RG Z Z Z)<|aD Z Z<|wy (aK (RdC.right h_x [_]) underlying269 Z Z Z)<|aD Z Z<|wm Z<|aD Z Z<|wy (aB underlying269 sz4 Z Z (RdC.right h_m [_]) (by omega) (by omega))<|aD Z Z<|wy (rX underlying4 Z Z (RdC.right h_m [_]) (by omega) (by omega))<|wy (aX Z Z) ?_
    refine aA ?_
    exact⟨(sc Z (sc Z (sc Z (sc Z (sc Z (Sub.to Z (mb (by first|omega|exact⟨fun h=>⟨(by assumption),h⟩,fun h=>h.2⟩|exact .inl (by assumption)|exact⟨.inr,fun h=>h.resolve_left (by assumption)⟩|exact⟨fun h=>h.resolve_left (by assumption), .inr⟩|simp[*])) Sub.nil)))))),fun _ h=>h⟩
   ·refine aT Z Z Z Z<|aT Z Z Z Z<|aT Z Z Z Z<|aT Z Z Z Z<|aT Z Z Z Z<|aT Z Z Z Z<|aT Z Z Z Z<|wy (bG Z Z)<|aA ?_
    exact⟨(sc Z (sc Z (sc Z (sc Z (sc Z (Sub.to Z (zJ (by first|omega|exact⟨fun h=>⟨(by assumption),h⟩,fun h=>h.2⟩|exact .inl (by assumption)|exact⟨.inr,fun h=>h.resolve_left (by assumption)⟩|exact⟨fun h=>h.resolve_left (by assumption), .inr⟩|simp[*])) Sub.nil)))))),fun _ h=>h⟩
  refine aA<|bR Z (fun hc3=> ?_) (fun hc3=> ?_)
  ·refine aN<|wm Z<|wy (aH Z)<|wy (aG (off:=3) (m:=3) underlying352 Z fV Z Z Z)<|wy (aK (RdC.right h_x [_]) underlying52 Z Z Z)<|wm Z<|wy (aB underlying52 sz3 Z Z (rdr 0 Z) (by omega) (by omega))<|dK (bD 0 Z sz3 Z Z (by omega) (by omega)) ?_
   rintro _ _ rfl
   refine aA<|aN<|wA Z Z<|wm Z<|aA ?_
   exact⟨q+1,upd D q (-1),⟨(by omega),(by omega),(by rw[hD];exact YW hq0 (by omega) (by rw[←hD];exact(aEr hf1).1 hc3))⟩,(by omega),(G4 Z Z Z Z),fun _ h=>h⟩
  ·refine aM<|aN<|wA Z Z<|wm Z<|aA ?_
   exact⟨q+1,D,⟨(by omega),(by omega),(by rw[hD];exact aBy hq0 (by omega) (by rw[←hD];exact fun h=>hc3 ((aEr hf1).2 h)))⟩,(by omega),(G4 Z Z Z Z),fun _ h=>h⟩
 ·have hD0:=VT hk.1 hs hp hn (by omega) hD
  refine bF<|wq<|wm Z<|wa (aC aAc Z (ME (RdC.right h_x [_]) (RdC.right h_c [_]) hk hs hN)) ?_
  rintro _ _ ⟨A_1,c_2,rfl,rfl⟩
  refine wg Z<|aA<|wq<|wm Z<|wy (aH Z)<|wy (aG (off:=3) (m:=3) underlying352 Z fV Z Z Z)<|wy (aK (RdC.right h_x [_,_]) underlying52 Z Z Z)<|wy (aV underlying52 Z)<|wS Z Z<|wg Z<|aA<|aI ?_
  refine gV (fun(i:Int) (D:List Int) (H:List Int)=>[(0, .pointer (GG g_x)),(4, .slice A_1 k.toNat c_2),(5,I i)]) (fun(i:Int) (D:List Int) (H:List Int)=>((ri 3 A_1 k.toNat c_2 H)::(ri 3 A_r s.length c_r D)::R)) (fun(i:Int) (D:List Int) (H:List Int)=>(-1≤i)∧(i<s.length)∧(D=(itS s k l (s.length-1-i).toNat).1)∧(H=(itS s k l (s.length-1-i).toNat).2)) (fun(i:Int) (D:List Int) (H:List Int)=>(i+1).toNat) ?_ ?_
  ·exact⟨((s.length:Nat):Int)-1,D,kD (bM s k),⟨(by omega),(by omega),(by rw[show((s.length:Int)-1-(((s.length:Nat):Int)-1)).toNat=0 by omega];exact hD0),(by rw[show((s.length:Int)-1-(((s.length:Nat):Int)-1)).toNat=0 by omega];rfl)⟩,(G3 Z Z Z),fun _ h=>h⟩
  intro i D H ⟨hi0,hi1,hD,hH⟩
  refine aF<|wq<|wm Z<|wy (yQ Z Z)<|aA<|bR Z (fun hc4=> ?_) (fun hc4=> ?_)
  ·have hf:=aBq hk.1 hs hp hn (by omega) (by omega) hD hH
   have hf1:=hf.1
   refine aM<|aF<|aI<|wq<|wm Z<|wy (aH Z)<|wy (aG (off:=3) (m:=3) underlying352 Z fV Z Z Z)<|wy (aK (RdC.right h_x [_,_]) underlying52 Z Z Z)<|wm Z<|wy (aB underlying52 sz3 Z Z (rdr 1 Z) (by omega) (by omega))<|wy (aZ underlying3 Z Z (rdr 1 Z) (by omega) (by omega))<|wg Z<|aA<|aF ?_
   refine aN<|wm Z<|wy (kU Z Z)<|wm Z<|gH 9 [(0, .pointer (GG g_x)),(4, .slice A_1 k.toNat c_2),(5,I i),(6,I (rd D i)),(65, .bool (decide ((0<(rd D i))∧(rdb (smL s) ((rd D i)-1)=true))))] ((ri 3 A_1 k.toNat c_2 H)::(ri 3 A_r s.length c_r D)::R) ?_ ?_
   ·refine fA 56 Z (fun hc5=> ?_) (fun hc5=> ?_)
    ·refine aD Z Z<|wm Z<|aD Z Z<|wy (aH Z)<|aD Z Z<|wy (aG (off:=1) (m:=1) underlying352 Z RG Z Z Z)<|aD Z Z<|wy (aK (RdC.right h_x [_,_]) underlying269 Z Z Z)<|aD Z Z<|wm Z<|aD Z Z<|wS Z Z<|aD Z Z<|wy (aB underlying269 sz4 Z Z (RdC.right h_m [_,_]) (by omega) (by omega))<|aD Z Z ?_
     refine wy (rX underlying4 Z Z (RdC.right h_m [_,_]) (by omega) (by omega))<|wy (aX Z Z)<|aA ?_
     exact⟨(sc Z (sc Z (sc Z (sc Z (Sub.to Z (mb (by first|omega|exact⟨fun h=>⟨(by assumption),h⟩,fun h=>h.2⟩|exact .inl (by assumption)|exact⟨.inr,fun h=>h.resolve_left (by assumption)⟩|exact⟨fun h=>h.resolve_left (by assumption), .inr⟩|simp[*])) Sub.nil))))),fun _ h=>h⟩
    ·refine aT Z Z Z Z<|aT Z Z Z Z<|aT Z Z Z Z<|aT Z Z Z Z<|aT Z Z Z Z<|aT Z Z Z Z<|aT Z Z Z Z<|aT Z Z Z Z<|wy (bG Z Z)<|aA ?_
     exact⟨(sc Z (sc Z (sc Z (sc Z (Sub.to Z (zJ (by first|omega|exact⟨fun h=>⟨(by assumption),h⟩,fun h=>h.2⟩|exact .inl (by assumption)|exact⟨.inr,fun h=>h.resolve_left (by assumption)⟩|exact⟨fun h=>h.resolve_left (by assumption), .inr⟩|simp[*])) Sub.nil))))),fun _ h=>h⟩
   refine aA<|bR Z (fun hc6=> ?_) (fun hc6=> ?_)
   ·obtain ⟨g1,g2,g3,g4,g5⟩:=fSZ hk.1 hs hp hn (by omega) (by omega) hD hH hc6
    refine aN<|wm Z<|wm Z<|wm Z<|wS Z Z<|eY (R1:=((ri 3 A_r s.length c_r D)::(ri 3 A_1 k.toNat c_2 H)::R)) (Sub.refl _) (fun _ h=>h.selR (F:=[_,_]) (F':=[_,_]) [1,0] (by decide) Z)<|wa (aC aAb Z (UF (row:=D) (E:=H) (j:=((rd D i)-1)) (RdC.right h_x []) (RdC.right h_s []) hk hN ⟨by omega,by omega⟩ g2 ⟨hf.2.1,hf.2.2,rfl⟩ g3)) ?_
    rintro _ _ ⟨rfl,rfl⟩
    refine aA<|aN<|wm Z<|wS Z Z<|wg Z<|aA ?_
    exact⟨i-1,upd D ((rd H (rd s ((rd D i)-1)))-1) ((rd D i)-1),upd H (rd s ((rd D i)-1)) ((rd H (rd s ((rd D i)-1)))-1),⟨(by omega),(by omega),(g4),(g5)⟩,(by omega),(G3 Z Z Z),fun _ h=>h.selR (F:=[_,_]) (F':=[_,_]) [1,0] (by decide) Z⟩
   ·have g4:=aFo hk.1 hs hp hn (by omega) (by omega) hD hH hc6
    refine aM<|aN<|wm Z<|wS Z Z<|wg Z<|aA ?_
    exact⟨i-1,D,H,⟨(by omega),(by omega),(g4.1),(g4.2)⟩,(by omega),(G3 Z Z Z),fun _ h=>h⟩
  ·refine KC (R1:=((ri 3 A_r s.length c_r D)::R)) (Sub.refl _) (fun _ h=>h.selR (F:=[_,_]) (F':=[_]) [1] (by decide) Z) ?_
   have hie:((s.length:Int)-1-i).toNat=s.length:=by omega
   rw[hie] at hD
   subst hD
   refine bF ?_
   exact⟨Z,Z⟩
theorem DV (s:List Int):(aS s).Pairwise (· ≤ ·):=by
 unfold aS iota
 exact((List.pairwise_map.2 (List.pairwise_lt_range.imp fun h=>by omega)).sublist List.filter_sublist)
theorem NR {s l:List Int}:iG l=aS s↔l.Perm (aS s):=by
 constructor
 ·intro h
  rw[←h]
  exact(jT l).symm
 ·intro h
  exact((jT l).trans h).eq_of_pairwise (fun a b _ _ h1 h2=>Int.le_antisymm h1 h2) (yX l) (DV s)
theorem fFZ {s l D H:List Int} {k:Int} (hk:0≤k) (hs: ∀x∈s,0≤x∧x<k) (hp:l.Perm (aS s)) {m:Nat} (hm:m<l.length) (hr:D=(itF s k (l.drop (l.length-m))).1) (hE:H=(itF s k (l.drop (l.length-m))).2):
  (0≤rd l ((l.length-1-m:Nat):Int)∧rd l ((l.length-1-m:Nat):Int)<s.length)∧(0≤rd s (rd l ((l.length-1-m:Nat):Int))∧rd s (rd l ((l.length-1-m:Nat):Int))<k)∧(0≤rd H (rd s (rd l ((l.length-1-m:Nat):Int)))-1∧rd H (rd s (rd l ((l.length-1-m:Nat):Int)))-1<s.length)∧(D.length=s.length∧H.length=k.toNat)∧
  upd D (rd H (rd s (rd l ((l.length-1-m:Nat):Int)))-1) (rd l ((l.length-1-m:Nat):Int))=(itF s k (l.drop (l.length-(m+1)))).1∧upd H (rd s (rd l ((l.length-1-m:Nat):Int))) (rd H (rd s (rd l ((l.length-1-m:Nat):Int)))-1)=(itF s k (l.drop (l.length-(m+1)))).2:=by
 have e:l.length-1-m+1=l.length-m:=by omega
 have h:=fF (row:=D) (E:=H) hk hs hp (m:=l.length-1-m) (by omega) (by rw[e];exact hr) (by rw[e];exact hE)
 rwa[show l.length-(m+1)=l.length-1-m by omega]
theorem JB {s l:List Int} (hp:l.Perm (aS s)):l.length≤s.length:=by rw[hp.length_eq];exact vQ
set_option maxHeartbeats 2000000 in
theorem KG {w:World} {A_s:Option Addr} {n_s c_s:Nat} {s:List Int} {k:Int} {A_l:Option Addr} {n_l c_l:Nat} {l:List Int} (h_s:Rd w A_s n_s c_s 1 (ints .i64 s)) (h_l:Rd w A_l n_l c_l 1 (ints .i64 l)) (hok:(0≤k∧k≤1048576)∧ ∀x∈s,0≤x∧x<k) (hp:l.Perm (aS s)) (hN:s.length≤1000000):
  Ct Tryz.prog 291 #[.slice A_s n_s c_s,I k, .slice A_l n_l c_l] w.heap.size w [] (fun v R'=> ∃A c,v= .tuple #[.slice A s.length c, .bool true]∧R'=[(ri 3 A s.length c (kC s k l))]):=by
 obtain rfl:=h_s.lenI
 obtain rfl:=h_l.lenI
 refine fnV Tryz.func291 Z Z ?_
 have m_s:=h_s.max
 have m_l:=h_l.max
 have hk:=hok.1
 have hs:=hok.2
 have hll:=JB hp
 have hcl:(bM s k).length=k.toNat:=bL _ _
 refine gI ?_
 refine aN<|wg Z<|wg Z<|aA ?_
 refine gI ?_
 refine aN<|wm Z<|wm Z<|wa (aC VC Z (Ct.fresh (fun w hw=>nE ((h_s.c _) w hw) (by first|assumption|omega|decide)))) ?_
 rintro _ _ ⟨_,rfl,A_1,c_2,rfl,rfl⟩
 refine wm Z<|wX Z Z<|wX Z Z<|wg Z<|wg Z<|aA ?_
 refine gI ?_
 refine aN<|wm Z<|wa (aC aDj Z (NE)) ?_
 rintro _ _ ⟨g_3,rfl,rfl⟩
 refine wa (aC aDk Z (Ct.fresh (fun w hw=>NN ((h_l.c _) w hw) ((rdR 0 (r:=⟨52,1,(GG g_3),1,1,[.slice A_l l.length c_l],false⟩) Z) w hw) (by omega)))) ?_
 rintro _ _ ⟨_,rfl,A_5,c_6,rfl,rfl⟩
 refine wg Z<|aA ?_
 refine gI ?_
 refine wq<|wm Z<|wy (mE Z)<|wm Z<|aD Z Z<|wm Z<|aD Z Z<|wm Z<|aD Z Z<|wa (aC aAf Z (Ct.fresh (fun w hw=>DX ((h_s.c _) w hw) (by first|assumption|omega|decide)))) ?_
 rintro _ _ ⟨_,rfl,A_8,c_9,rfl,rfl⟩
 refine aD Z Z<|wa (aC aCz Z (Ct.quiet (fun w hw=>yI ((rdr 1 Z) w hw) ((rdr 0 Z) w hw) (by rw[(jT l).length_eq];omega)))) ?_
 rintro _ _ ⟨rfl,rfl⟩
 refine tK 30 Z (NR.2 hp)<|aD Z Z<|wy (mE Z)<|wy (bG Z Z)<|aA<|aL Z<|aM ?_
 refine gI ?_
 refine wq<|wm Z<|wy (aV underlying52 Z)<|wy (bC Z Z)<|aA<|bR Z (fun hc1=> ?_) (fun hc1=> ?_)
 ·refine wq<|wa (bV .i64 [] underlying52 zs3 Z Z Z) ?_
  rintro _ _ ⟨g_12,rfl,rfl⟩
  refine wg Z<|wg Z<|aA<|aY [0] 99 (by decide) Z ?_
  refine aBp Z Gd.refl ⟨_,_,Z,Z,?_⟩
  have e:s=[]:=List.eq_nil_of_length_eq_zero (by omega)
  subst e
  rw[DR hp]
  exact⟨_,_,Z,Z⟩
 ·have hn:0<s.length:=by omega
  refine aM ?_
  refine gI ?_
  refine aN<|wm Z<|wm Z<|wa (aC aAd Z (Ct.fresh (fun w hw=>BM ((h_s.c _) w hw) (by first|assumption|omega|decide)))) ?_
  rintro _ _ ⟨_,rfl,A_13,c_14,rfl,rfl⟩
  refine wm Z<|wa (bV .i64 [-1] underlying52 zs3 Z Z Z) ?_
  rintro _ _ ⟨g_16,rfl,rfl⟩
  refine wm Z<|wy (aV underlying52 Z)<|wa (aC aDi Z (Ct.fresh (fun w hw=>HZ ((rdr 0 Z) w hw) Z Z ⟨by omega,by omega⟩))) ?_
  rintro _ _ ⟨_,rfl,A_17,c_18,rfl,rfl⟩
  refine wy (bS (v:= .agg #[.slice A_s s.length c_s, .slice A_13 s.length c_14, .slice A_1 ((k).toNat) c_2, .slice A_17 s.length c_18]) Z (fun w=>by kernel_rfl))<|wa (dZ (sz:=4) rfl rfl) ?_
  rintro _ _ ⟨g_19,rfl,rfl⟩
  refine wa (jJ (sz:=1) aCi Z) ?_
  rintro _ _ ⟨g_21,rfl,rfl⟩
  refine dK (bQ 0 Z Z Z aCs Z Z Z Z (Nat.le_of_ble_eq_true Z)) ?_
  rintro _ _ rfl
  refine aA ?_
  refine gI ?_
  refine aN<|wy (aK (rdR 0 (r:=⟨350,1,(GG g_21),1,1,[.pointer (GG g_19)],false⟩) Z) underlying350 Z Z Z)<|wa (aC aAc Z (ME (rdR 1 (r:=⟨352,4,(GG g_19),1,1,[.slice A_s s.length c_s, .slice A_13 s.length c_14, .slice A_1 ((k).toNat) c_2, .slice A_17 s.length c_18],false⟩) Z) (rdr 8 Z) hk hs hN)) ?_
  rintro _ _ ⟨A_22,c_23,rfl,rfl⟩
  refine wa (jJ (sz:=1) aEz Z) ?_
  rintro _ _ ⟨g_25,rfl,rfl⟩
  refine dK (bQ 0 Z Z Z fV Z Z Z Z (Nat.le_of_ble_eq_true Z)) ?_
  rintro _ _ rfl
  refine aA ?_
  refine QN ?_
  refine gI ?_
  refine aN<|wm Z<|wa (aC aAl Z (FI)) ?_
  rintro _ _ ⟨g_26,rfl,rfl⟩
  refine aA ?_
  refine yU ?_
  refine QQ Z aAh (wG (A:=A_l) (c:=c_l) (zs:=l) (by omega)) Z (fun _=>Z) Gd.refl (fun(kr:Nat) (D:List Int) (H:List Int)=>[⟨52,1,(GG g_26),1,1,[.slice A_l l.length c_l],false⟩,⟨52,1,(GG g_25),1,1,[.slice A_22 k.toNat c_23],false⟩,(ri 3 A_22 k.toNat c_23 H),⟨350,1,(GG g_21),1,1,[.pointer (GG g_19)],false⟩,⟨352,4,(GG g_19),1,1,[.slice A_s s.length c_s, .slice A_13 s.length c_14, .slice A_1 ((k).toNat) c_2, .slice A_17 s.length c_18],false⟩,(ri 3 A_17 s.length c_18 D),(ri 3 (GG g_16) 1 1 ([-1])),⟨4,1,A_13,s.length,c_14,bools (smL s),false⟩,(ri 3 A_8 ((aS s).length) c_9 (aS s)),(ri 3 A_5 ((iG l).length) c_6 (iG l)),⟨52,1,(GG g_3),1,1,[.slice A_l l.length c_l],false⟩,(ri 3 A_1 ((k).toNat) c_2 (bM s k))]) (fun(kr:Nat) (D:List Int) (H:List Int)=>(D=(itF s k (l.drop (l.length-kr))).1)∧(H=(itF s k (l.drop (l.length-kr))).2)) ?_ ?_ ?_ ?_
  ·exact⟨List.replicate s.length ((-1):Int),kD (bM s k),⟨(by rw[Nat.sub_zero,List.drop_length];rfl),(by rw[Nat.sub_zero,List.drop_length];rfl)⟩,fun _ h=>h⟩
  ·intro kr D H w ⟨hD,hH⟩ hw
   exact⟨(rdR 0 (r:=⟨52,1,(GG g_26),1,1,[.slice A_l l.length c_l],false⟩) Z) w hw,(h_l.c _) w hw⟩
  ·intro lr kr D H WW2 hkr ⟨hD,hH⟩ hbW2
   obtain⟨f1,f2,f3,f4,f5,f6⟩:=fFZ hk.1 hs hp hkr hD hH
   refine aN<|wg Z<|aA ?_
   intro WW23 hbW23
   refine aI<|aN<|wy (aK (rdR 3 (r:=⟨350,1,(GG g_21),1,1,[.pointer (GG g_19)],false⟩) Z) underlying350 Z Z Z)<|wy (aK (rdR 1 (r:=⟨52,1,(GG g_25),1,1,[.slice A_22 k.toNat c_23],false⟩) Z) underlying52 Z Z Z)<|wm Z<|eY (R1:=[(ri 3 A_17 s.length c_18 D),(ri 3 A_22 k.toNat c_23 H),⟨52,1,(GG g_26),1,1,[.slice A_l l.length c_l],false⟩,⟨52,1,(GG g_25),1,1,[.slice A_22 k.toNat c_23],false⟩,⟨350,1,(GG g_21),1,1,[.pointer (GG g_19)],false⟩,⟨352,4,(GG g_19),1,1,[.slice A_s s.length c_s, .slice A_13 s.length c_14, .slice A_1 ((k).toNat) c_2, .slice A_17 s.length c_18],false⟩,(ri 3 (GG g_16) 1 1 ([-1])),⟨4,1,A_13,s.length,c_14,bools (smL s),false⟩,(ri 3 A_8 ((aS s).length) c_9 (aS s)),(ri 3 A_5 ((iG l).length) c_6 (iG l)),⟨52,1,(GG g_3),1,1,[.slice A_l l.length c_l],false⟩,(ri 3 A_1 ((k).toNat) c_2 (bM s k))]) (Sub.refl _) (fun _ h=>h.sel [5,2,0,1,3,4,6,7,8,9,10,11] (by decide) Z)<|wa (aC aAb Z (UF (row:=D) (E:=H) (j:=(rd l ((l.length-1-kr:Nat):Int))) (rdR 3 (r:=⟨352,4,(GG g_19),1,1,[.slice A_s s.length c_s, .slice A_13 s.length c_14, .slice A_1 ((k).toNat) c_2, .slice A_17 s.length c_18],false⟩) Z) (h_s.cb hbW23 _) hk hN f1 f2 ⟨f4.1,f4.2,Z⟩ f3)) ?_
   rintro _ _ ⟨rfl,rfl⟩
   refine aA ?_
   exact⟨upd D ((rd H (rd s (rd l ((l.length-1-kr:Nat):Int))))-1) (rd l ((l.length-1-kr:Nat):Int)),upd H (rd s (rd l ((l.length-1-kr:Nat):Int))) ((rd H (rd s (rd l ((l.length-1-kr:Nat):Int))))-1),⟨(f5),(f6)⟩,fun _=>fun _ h=>h.sel [2,3,1,4,5,0,6,7,8,9,10,11] (by decide) Z⟩
  intro WW25 DW2 D H ⟨hD,hH⟩ hbW25 hGW25
  rw[Nat.sub_self,List.drop_zero] at hD
  refine QR ?_
  refine aAq ?_
  refine v_w ?_
  refine wq<|wy (aK (rdR 3 (r:=⟨350,1,(GG g_21),1,1,[.pointer (GG g_19)],false⟩) Z) underlying350 Z Z Z)<|eY (R1:=[(ri 3 A_17 s.length c_18 D),⟨52,1,(GG g_26),1,1,[.slice A_l l.length c_l],false⟩,⟨52,1,(GG g_25),1,1,[.slice A_22 k.toNat c_23],false⟩,(ri 3 A_22 k.toNat c_23 H),⟨350,1,(GG g_21),1,1,[.pointer (GG g_19)],false⟩,⟨352,4,(GG g_19),1,1,[.slice A_s s.length c_s, .slice A_13 s.length c_14, .slice A_1 ((k).toNat) c_2, .slice A_17 s.length c_18],false⟩,(ri 3 (GG g_16) 1 1 ([-1])),⟨4,1,A_13,s.length,c_14,bools (smL s),false⟩,(ri 3 A_8 ((aS s).length) c_9 (aS s)),(ri 3 A_5 ((iG l).length) c_6 (iG l)),⟨52,1,(GG g_3),1,1,[.slice A_l l.length c_l],false⟩,(ri 3 A_1 ((k).toNat) c_2 (bM s k))]) (Sub.refl _) (fun _ h=>h.sel [5,0,1,2,3,4,6,7,8,9,10,11] (by decide) Z)<|wa (aC aDh Z (UG (row:=D) (rdR 4 (r:=⟨352,4,(GG g_19),1,1,[.slice A_s s.length c_s, .slice A_13 s.length c_14, .slice A_1 ((k).toNat) c_2, .slice A_17 s.length c_18],false⟩) Z) (h_s.cb hbW25 _) (rdr 6 Z) (rdr 10 Z) hk hs hN hp hn hD)) ?_
  rintro _ _ ⟨rfl,rfl⟩
  refine aA<|wq<|wy (aK (rdR 4 (r:=⟨350,1,(GG g_21),1,1,[.pointer (GG g_19)],false⟩) Z) underlying350 Z Z Z)<|wa (aC aDg Z (NS (rdR 4 (r:=⟨352,4,(GG g_19),1,1,[.slice A_s s.length c_s, .slice A_13 s.length c_14, .slice A_1 ((k).toNat) c_2, .slice A_17 s.length c_18],false⟩) Z) (h_s.cb hbW25 _) (rdr 6 Z) (rdr 10 Z) hk hs hN hp hn)) ?_
  rintro _ _ ⟨rfl,rfl⟩
  refine aA<|wq<|wy (aK (rdR 4 (r:=⟨350,1,(GG g_21),1,1,[.pointer (GG g_19)],false⟩) Z) underlying350 Z Z Z)<|wy (aH Z)<|wy (aG (off:=3) (m:=3) underlying352 Z fV Z Z Z)<|wy (aK (rdR 5 (r:=⟨352,4,(GG g_19),1,1,[.slice A_s s.length c_s, .slice A_13 s.length c_14, .slice A_1 ((k).toNat) c_2, .slice A_17 s.length c_18],false⟩) Z) underlying52 Z Z Z)<|wg Z<|wg Z<|aA<|aY [0] 99 (by decide) Z ?_
  refine aBp Z hGW25 ⟨_,_,Z,Z,?_⟩
  exact⟨_,_,Z,Z⟩
end Go.Proofs.YtdbebmmhdefgdaaGreat

namespace Go.Eng
open Go Go.RowKit
section
variable {P:Program} {n:Nd} {B:Nat} {w0:World} {ops:Array Oper} {K:Env→List Row→Prop} {L:Env} {R Rc:List Row} {op:Op} {ty:TypeId} {pos:String} {aft:Array Edge}
def WDc (P:Program) (n:Nd) (B:Nat) (w0:World) (ops:Array Oper) (K:Env→List Row→Prop) (fuel:Nat) (listed:Array Bool) (L:Env) (R Rc:List Row):Prop:=
 ∀a w (Q:Exit→Act→World→Prop),Sat n L a→Hp B w0 w R→(∀w,Hp B w0 w R→Hp B w0 w Rc)→(∀c a w,¬Q (.panic c) a w)→(∀a' w' L' R',Sat n L' a'→Hp B w0 w' R'→K L' R'→Q .normal a' w')→mG P ops Q fuel (fun w=>Hp B w0 w Rc) listed a w
def Turnc (P:Program) (n:Nd) (B:Nat) (w0:World) (ops:Array Oper) (K:Env→List Row→Prop) (fuel:Nat) (listed:Array Bool) (L:Env) (R Rc:List Row) (i:Nat):Prop:=
 ∀a w (Q:Exit→Act→World→Prop),Sat n L a→Hp B w0 w R→(∀w,Hp B w0 w R→Hp B w0 w Rc)→(∀c a w,¬Q (.panic c) a w)→(∀a' w' L' R',Sat n L' a'→Hp B w0 w' R'→K L' R'→Q .normal a' w')→
  wpOp P ops Q i (fun a' w'=> ∃S':World→Prop,S' w'∧(FH ops listed i=true∨ ∀x,S' x→Hp B w0 x Rc)∧mG P ops Q fuel S' (listed.setIfInBounds i true) a' w') a w
end
end Go.Eng

namespace Go.Proofs.YtdbebmmhdefgdaaGreat
open Go Go.Eng Go.Pure
set_option linter.unusedVariables false
set_option maxRecDepth 100000
def zL (s:List Int) (k:Int) (l:List Int) (i:Int):List Int × List Int:=if i<0 then((itF s k l).1,bJ (bM s k)) else itL s k l i.toNat
theorem nW {s l:List Int} {k:Int} (hk:0≤k) (hs: ∀x∈s,0≤x∧x<k) (hp:l.Perm (aS s)):(kC s k l).length=s.length∧(kC s k l).Perm (iota s.length)∧(∀q:Int,0≤q→q+1<s.length→rd s (rd (kC s k l) q)≤rd s (rd (kC s k l) (q+1)))∧(l.Pairwise (bI s)→(kC s k l).Pairwise (bI s)):=by
 refine⟨UQ hk hs hp,?_⟩
 rcases Nat.eq_zero_or_pos s.length with h|h
 ·have e:s=[]:=List.eq_nil_of_length_eq_zero h
  subst e
  rw[DR hp]
  exact⟨.refl _,fun q h0 h1=>by simp at h1;omega,fun _=> .nil⟩
 ·exact LW hk hs hp h
end Go.Proofs.YtdbebmmhdefgdaaGreat

namespace Go.Proofs.YtdbebmmhdefgdaaGreat
open Go Go.Eng Go.Pure
open Tryz
set_option linter.unusedVariables false
set_option maxRecDepth 100000
theorem CE {w:World} {A_s:Option Addr} {n_s c_s:Nat} {s:List Int} {A_x:Option Addr} {n_x c_x:Nat} {x:List Int} {i:Int} (h_s:Rd w A_s n_s c_s 1 (ints .i64 s)) (h_x:Rd w A_x n_x c_x 1 (ints .i64 x)) (hi:0≤i∧i<s.length) (hx:x.length=s.length) (hlo:i<rd x i) (hhi:rd x i≤s.length) (hN:s.length≤1000000):
  Ct Tryz.prog 321 #[.slice A_s n_s c_s, .slice A_x n_x c_x,I i] w.heap.size w [] (fun v R'=>v= .slice (mD A_s i.toNat c_s 1) ((min (rd x i+1) ((s.length:Nat):Int)).toNat-i.toNat) (c_s-i.toNat)):=by
 obtain rfl:=h_s.lenI
 obtain rfl:=h_x.lenI
 refine fn1 Tryz.func321 Z Z Z ?_
 have m_s:=h_s.max
 have m_x:=h_x.max
 refine wq<|wg Z<|aA<|wq<|wm Z<|wm Z<|wm Z<|wm Z<|wy (aB underlying52 sz3 Z Z (h_x.c _) (by omega) (by omega))<|wy (aZ underlying3 Z Z (h_x.c _) (by omega) (by omega))<|wA Z Z<|wm Z<|wy (aV underlying52 Z) ?_
 refine wy (ZN Z Z)<|wy (JY underlying52 sz3 Z Z Z (h_s.c _) (by omega) (by omega) (by omega))<|wg Z<|aA<|fC ?_
 refine⟨_,Z,?_⟩
 rfl
set_option maxHeartbeats 1000000 in
theorem TR {w:World} {A_s:Option Addr} {n_s c_s:Nat} {s:List Int} {A_f:Option Addr} {n_f c_f:Nat} {f:List Int} {A_o:Option Addr} {n_o c_o:Nat} {o:List Int} (h_s:Rd w A_s n_s c_s 1 (ints .i64 s)) (h_f:Rd w A_f n_f c_f 1 (ints .i64 f)) (h_o:Rd w A_o n_o c_o 1 (ints .i64 o)) (hs:Nn s) (hf:f=aS s) (hop:o.Perm (iota s.length)) (hoo:o.Pairwise (pcS s)) (hN:s.length≤1000000):
  Ct Tryz.prog 292 #[.slice A_s n_s c_s, .slice A_f n_f c_f, .slice A_o n_o c_o] w.heap.size w [] (fun v R'=> ∃(nx nm:List Int) (n la:Int) (A:Option Addr) (c:Nat),v= .tuple #[.slice A f.length c,I (n+1)]∧lD s nx (aS s).length∧oW s o nx s.length nm n la∧R'=[(ri 3 A f.length c (f.map (rd nm)))]):=by
 obtain rfl:=h_s.lenI
 obtain rfl:=h_f.lenI
 obtain rfl:=h_o.lenI
 refine fn2 Tryz.func292 Z Z Z ?_
 have m_s:=h_s.max
 have m_f:=h_f.max
 have m_o:=h_o.max
 have hol:o.length=s.length:=by rw[hop.length_eq,aW]
 have hfl:f.length≤s.length:=by rw[hf];exact vQ
 refine wq<|wg Z<|wg Z<|aA<|wq<|wm Z<|wy (aV underlying52 Z)<|wa (dY underlying52 zb3 Z Z (by omega) (by omega) (by omega)) ?_
 rintro _ _ ⟨g_1,rfl,rfl⟩
 refine bY (v:= .slice (GG g_1) s.length s.length) Z<|wg Z<|aA<|aF<|wq<|wm Z<|wy (aV underlying52 Z)<|wm Z<|aA<|aI ?_
 refine jB (fun(i:Int) (V:List Int)=>[(0, .slice A_s s.length c_s),(1, .slice A_f f.length c_f),(2, .slice A_o o.length c_o),(8, .slice (GG g_1) s.length s.length),(22, .slice A_f f.length c_f),(23,I ((f.length:Nat):Int)),(24,I i)]) (fun(i:Int) (V:List Int)=>[(ri 3 (GG g_1) s.length s.length V)]) (fun(i:Int) (V:List Int)=>(0≤i)∧(i≤f.length)∧(lD s V i)) (fun(i:Int) (V:List Int)=>(f.length-i).toNat) ?_ ?_
 ·exact⟨0,List.replicate s.length (0:Int),⟨(by omega),(by omega),(XZ)⟩,(G7 Z Z Z Z Z Z Z),fun _ h=>h⟩
 intro i V ⟨hi0,hi1,hV⟩
 have hVl:=hV.len
 have hfi:i<f.length→0≤rd f i∧rd f i<s.length:=fun h=>by subst hf;exact(iT hi0 h).1
 refine wq<|wL Z Z<|aA<|aF<|bR Z (fun hc1=> ?_) (fun hc1=> ?_)
 ·have hfi2:=hfi (by omega)
  refine aM<|aF<|aI<|wq<|wm Z<|wy (aB underlying52 sz3 Z Z (h_f.c _) (by omega) (by omega))<|wy (aZ underlying3 Z Z (h_f.c _) (by omega) (by omega))<|wg Z<|wg Z<|aA<|wq<|wm Z<|wm Z ?_
  refine wm Z<|wy (aV underlying52 Z)<|wy (aB underlying52 sz3 Z Z (rdr 0 Z) (by omega) (by omega))<|dK (bD 0 Z sz3 Z Z (by omega) (by omega)) ?_
  rintro _ _ rfl
  refine aA<|wq<|wm Z<|wA Z Z<|wm Z<|wy (aV underlying52 Z)<|wL Z Z<|aA<|bR Z (fun hc2=> ?_) (fun hc2=> ?_)
  ·refine aN<|wm Z<|wm Z<|wm Z<|wm Z<|wA Z Z<|wy (aB underlying52 sz3 Z Z (h_f.c _) (by omega) (by omega))<|wy (aZ underlying3 Z Z (h_f.c _) (by omega) (by omega))<|wy (aB underlying52 sz3 Z Z (rdr 0 Z) (by omega) (by omega))<|dK (bD 0 Z sz3 Z Z (by omega) (by omega)) ?_
   rintro _ _ rfl
   refine aA<|aN<|wA Z Z<|wm Z<|aA ?_
   exact⟨i+1,upd (upd V (rd f i) ((s.length:Nat):Int)) (rd f i) (rd f (i+1)),⟨(by omega),(by omega),(by subst hf;exact hV.step2 hi0 (by omega) (by omega))⟩,(by omega),(G7 Z Z Z Z Z Z Z),fun _ h=>h⟩
  ·refine aM<|aN<|wA Z Z<|wm Z<|aA ?_
   exact⟨i+1,upd V (rd f i) ((s.length:Nat):Int),⟨(by omega),(by omega),(by subst hf;exact hV.step1 hi0 (by omega) (by omega))⟩,(by omega),(G7 Z Z Z Z Z Z Z),fun _ h=>h⟩
 ·have hV2:lD s V (aS s).length:=by have e:i=(aS s).length:=(by rw[←hf];omega);rw[←e];exact hV
  refine bF<|wq<|wm Z<|wy (aV underlying52 Z)<|wa (dY underlying52 zb3 Z Z (by omega) (by omega) (by omega)) ?_
  rintro _ _ ⟨g_2,rfl,rfl⟩
  refine bY (v:= .slice (GG g_2) s.length s.length) Z<|wg Z<|aA<|wq<|wg Z<|wg Z<|aA<|aF<|wq<|wm Z<|wy (aV underlying52 Z)<|wm Z<|aA ?_
  refine aI ?_
  refine WX (fun(q:Int) (U:List Int) (n:Int) (la:Int)=>[(0, .slice A_s s.length c_s),(1, .slice A_f f.length c_f),(8, .slice (GG g_1) s.length s.length),(11, .slice (GG g_2) s.length s.length),(12,I n),(13,I la),(51, .slice A_o o.length c_o),(52,I ((o.length:Nat):Int)),(53,I q)]) (fun(q:Int) (U:List Int) (n:Int) (la:Int)=>[(ri 3 (GG g_2) s.length s.length U),(ri 3 (GG g_1) s.length s.length V)]) (fun(q:Int) (U:List Int) (n:Int) (la:Int)=>(0≤q)∧(q≤o.length)∧(oW s o V q U n la)) (fun(q:Int) (U:List Int) (n:Int) (la:Int)=>(o.length-q).toNat) ?_ ?_
  ·exact⟨0,List.replicate s.length (0:Int),0,-1,⟨(by omega),(by omega),(TU)⟩,(G9 Z Z Z Z Z Z Z Z Z),fun _ h=>h⟩
  intro q U n la ⟨hq0,hq1,hM⟩
  have hUl:=hM.len
  have hMb:=hM.bd
  have hla:=hM.last_in hop (by omega)
  have hlx:0≤la→la<s.length∧la<rd V la∧rd V la≤s.length:=fun h=>by
   rcases hla with e|⟨e,e2⟩
   ·omega
   ·have g:=hV2.nx e.1 e.2 e2
    exact⟨e.2,g.gt,g.le⟩
  have hoq:q<o.length→0≤rd o q∧rd o q<s.length:=fun h=>aO.1 (hop.subset (bA (L:=o) hq0 h))
  have hoz:q<o.length→(rd V (rd o q)=0↔cZ s (rd o q)=false):=fun h=>hV2.zero (hoq h).1 (hoq h).2
  refine wq<|wL Z Z<|aA<|aF<|bR Z (fun hc3=> ?_) (fun hc3=> ?_)
  ·have hoq2:=hoq (by omega)
   have hoz2:=hoz (by omega)
   refine aM<|aF<|aI<|wq<|wy (aB underlying52 sz3 Z Z (h_o.c _) (by omega) (by omega))<|wy (aZ underlying3 Z Z (h_o.c _) (by omega) (by omega))<|wg Z<|aA<|aF<|wq<|wm Z<|wm Z<|wy (aB underlying52 sz3 Z Z (rdr 1 Z) (by omega) (by omega)) ?_
   refine wy (aZ underlying3 Z Z (rdr 1 Z) (by omega) (by omega))<|wy (bC Z Z)<|aA<|bR Z (fun hc4=> ?_) (fun hc4=> ?_)
   ·have hfq:=hoz2.1 hc4
    refine bF<|aN<|wA Z Z<|wm Z<|aA ?_
    exact⟨q+1,U,n,la,⟨(by omega),(by omega),(hM.skip hfq)⟩,(by omega),(G9 Z Z Z Z Z Z Z Z Z),fun _ h=>h⟩
   ·have hfq:cZ s (rd o q)=true:=by
     cases e:cZ s (rd o q) with
     |true=>rfl
     |false=>exact absurd (hoz2.2 e) hc4
    have hgx:=hV2.nx hoq2.1 hoq2.2 hfq
    have hg1:=hgx.gt
    have hg2:=hgx.le
    have hlm: -1≤la:=by omega
    refine aM<|aF<|wq<|wm Z<|wy (yQ Z Z)<|wm Z<|gH 29 [(0, .slice A_s s.length c_s),(1, .slice A_f f.length c_f),(8, .slice (GG g_1) s.length s.length),(11, .slice (GG g_2) s.length s.length),(12,I n),(15,I (rd o q)),(51, .slice A_o o.length c_o),(52,I ((o.length:Nat):Int)),(53,I q),(93, .bool (decide ((0≤la)∧((((rd V (rd o q))=((s.length:Nat):Int))∨((rd V la)=((s.length:Nat):Int)))∨(¬((((s).drop (la).toNat).take ((min (rd V la+1) ((s.length:Nat):Int)).toNat-la.toNat))=(((s).drop (rd o q).toNat).take ((min (rd V (rd o q)+1) ((s.length:Nat):Int)).toNat-(rd o q).toNat))))))))] [(ri 3 (GG g_2) s.length s.length U),(ri 3 (GG g_1) s.length s.length V)] ?_ ?_
    ·refine fA 64 Z (fun hc5=> ?_) (fun hc5=> ?_)
     ·refine aD Z Z<|wm Z<|aD Z Z<|wm Z<|aD Z Z<|wy (aB underlying52 sz3 Z Z (rdr 1 Z) (by omega) (by omega))<|aD Z Z<|wy (aZ underlying3 Z Z (rdr 1 Z) (by omega) (by omega))<|aD Z Z<|wm Z<|aD Z Z<|wy (aV underlying52 Z)<|aD Z Z<|wy (bC Z Z)<|aD Z Z ?_
      refine wm Z<|gH 8 [(0, .slice A_s s.length c_s),(1, .slice A_f f.length c_f),(8, .slice (GG g_1) s.length s.length),(11, .slice (GG g_2) s.length s.length),(12,I n),(13,I la),(15,I (rd o q)),(51, .slice A_o o.length c_o),(52,I ((o.length:Nat):Int)),(53,I q),(64, .bool true),(80, .bool (decide (((rd V (rd o q))=((s.length:Nat):Int))∨((rd V la)=((s.length:Nat):Int)))))] [(ri 3 (GG g_2) s.length s.length U),(ri 3 (GG g_1) s.length s.length V)] ?_ ?_
      ·refine fA 72 Z (fun hc6=> ?_) (fun hc6=> ?_)
       ·refine aT Z Z Z Z<|aT Z Z Z Z<|aT Z Z Z Z<|aT Z Z Z Z<|aT Z Z Z Z<|aT Z Z Z Z<|aT Z Z Z Z<|aD Z Z<|wy (aX Z Z)<|aA ?_
        exact⟨(sc Z (sc Z (sc Z (sc Z (sc Z (sc Z (sc Z (sc Z (sc Z (sc Z (sc Z (Sub.to Z (CX (by first|omega|exact⟨fun h=>⟨(by assumption),h⟩,fun h=>h.2⟩|exact .inl (by assumption)|exact⟨.inr,fun h=>h.resolve_left (by assumption)⟩|exact⟨fun h=>h.resolve_left (by assumption), .inr⟩|simp[*])) Sub.nil)))))))))))),fun _ h=>h⟩
       ·refine aD Z Z<|wm Z<|aD Z Z<|wm Z<|aD Z Z<|wy (aB underlying52 sz3 Z Z (rdr 1 Z) (by omega) (by omega))<|aD Z Z<|wy (aZ underlying3 Z Z (rdr 1 Z) (by omega) (by omega))<|aD Z Z<|wm Z<|aD Z Z<|wy (aV underlying52 Z)<|aD Z Z<|wy (bC Z Z)<|aD Z Z ?_
        refine wy (bG Z Z)<|aA ?_
        exact⟨(sc Z (sc Z (sc Z (sc Z (sc Z (sc Z (sc Z (sc Z (sc Z (sc Z (sc Z (Sub.to Z (mb (by first|omega|exact⟨fun h=>⟨(by assumption),h⟩,fun h=>h.2⟩|exact .inl (by assumption)|exact⟨.inr,fun h=>h.resolve_left (by assumption)⟩|exact⟨fun h=>h.resolve_left (by assumption), .inr⟩|simp[*])) Sub.nil)))))))))))),fun _ h=>h⟩
      refine aD Z Z<|wm Z<|gH 11 [(0, .slice A_s s.length c_s),(1, .slice A_f f.length c_f),(8, .slice (GG g_1) s.length s.length),(11, .slice (GG g_2) s.length s.length),(12,I n),(15,I (rd o q)),(51, .slice A_o o.length c_o),(52,I ((o.length:Nat):Int)),(53,I q),(64, .bool true),(92, .bool (decide ((((rd V (rd o q))=((s.length:Nat):Int))∨((rd V la)=((s.length:Nat):Int)))∨(¬((((s).drop (la).toNat).take ((min (rd V la+1) ((s.length:Nat):Int)).toNat-la.toNat))=(((s).drop (rd o q).toNat).take ((min (rd V (rd o q)+1) ((s.length:Nat):Int)).toNat-(rd o q).toNat)))))))] [(ri 3 (GG g_2) s.length s.length U),(ri 3 (GG g_1) s.length s.length V)] ?_ ?_
      ·refine fA 81 Z (fun hc7=> ?_) (fun hc7=> ?_)
       ·refine aT Z Z Z Z<|aT Z Z Z Z<|aT Z Z Z Z<|aT Z Z Z Z<|aT Z Z Z Z<|aT Z Z Z Z<|aT Z Z Z Z<|aT Z Z Z Z<|aT Z Z Z Z<|aT Z Z Z Z<|aD Z Z<|wy (aX Z Z)<|aA ?_
        exact⟨(sc Z (sc Z (sc Z (sc Z (sc Z (sc Z (sc Z (sc Z (sc Z (sc Z (Sub.to Z (CX (by first|omega|exact⟨fun h=>⟨(by assumption),h⟩,fun h=>h.2⟩|exact .inl (by assumption)|exact⟨.inr,fun h=>h.resolve_left (by assumption)⟩|exact⟨fun h=>h.resolve_left (by assumption), .inr⟩|simp[*])) Sub.nil))))))))))),fun _ h=>h⟩
       ·refine aD Z Z<|wm Z<|aD Z Z<|wm Z<|aD Z Z<|wm Z<|aD Z Z<|wa (aC aAa Z (Ct.quiet (fun w hw=>CE ((h_s.c _) w hw) ((rdr 1 Z) w hw) (by first|assumption|omega|decide) (by first|assumption|omega|decide) (by first|assumption|omega|decide) (by first|assumption|omega|decide) (by first|assumption|omega|decide)))) ?_
        rintro _ _ ⟨rfl,rfl⟩
        refine aD Z Z<|wm Z<|aD Z Z<|wm Z<|aD Z Z<|wm Z<|aD Z Z<|wa (aC aAa Z (Ct.quiet (fun w hw=>CE ((h_s.c _) w hw) ((rdr 1 Z) w hw) (by first|assumption|omega|decide) (by first|assumption|omega|decide) (by first|assumption|omega|decide) (by first|assumption|omega|decide) (by first|assumption|omega|decide)))) ?_
        rintro _ _ ⟨rfl,rfl⟩
        refine aD Z Z<|wa (aC aCz Z (Ct.quiet (fun w hw=>yI ((RdC.cutI (h_s.c _) (by omega) (by omega)) w hw) ((RdC.cutI (h_s.c _) (by omega) (by omega)) w hw) (by rw[List.length_take,List.length_drop];omega)))) ?_
        rintro _ _ ⟨rfl,rfl⟩
        refine aD Z Z<|wy (yO Z)<|aD Z Z<|wy (bG Z Z)<|aA ?_
        exact⟨(sc Z (sc Z (sc Z (sc Z (sc Z (sc Z (sc Z (sc Z (sc Z (sc Z (Sub.to Z (mb (by first|omega|exact⟨fun h=>⟨(by assumption),h⟩,fun h=>h.2⟩|exact .inl (by assumption)|exact⟨.inr,fun h=>h.resolve_left (by assumption)⟩|exact⟨fun h=>h.resolve_left (by assumption), .inr⟩|simp[*])) Sub.nil))))))))))),fun _ h=>h⟩
      refine wy (aX Z Z)<|aA ?_
      exact⟨(sc Z (sc Z (sc Z (sc Z (sc Z (sc Z (sc Z (sc Z (sc Z (Sub.to Z (mb (by first|omega|exact⟨fun h=>⟨(by assumption),h⟩,fun h=>h.2⟩|exact .inl (by assumption)|exact⟨.inr,fun h=>h.resolve_left (by assumption)⟩|exact⟨fun h=>h.resolve_left (by assumption), .inr⟩|simp[*])) Sub.nil)))))))))),fun _ h=>h⟩
     ·refine aT Z Z Z Z<|aT Z Z Z Z<|aT Z Z Z Z<|aT Z Z Z Z<|aT Z Z Z Z<|aT Z Z Z Z<|aT Z Z Z Z<|aT Z Z Z Z<|eZ Z Z Z<|eZ Z Z Z<|eZ Z Z Z<|eZ Z Z Z<|eZ Z Z Z<|eZ Z Z Z<|eZ Z Z Z ?_
      refine aT Z Z Z Z<|aT Z Z Z Z<|eZ Z Z Z<|eZ Z Z Z<|eZ Z Z Z<|eZ Z Z Z<|eZ Z Z Z<|eZ Z Z Z<|eZ Z Z Z<|eZ Z Z Z<|eZ Z Z Z<|eZ Z Z Z<|aT Z Z Z Z<|wy (bG Z Z)<|aA ?_
      exact⟨(sc Z (sc Z (sc Z (sc Z (sc Z (sc Z (sc Z (sc Z (sc Z (Sub.to Z (zJ (by first|omega|exact⟨fun h=>⟨(by assumption),h⟩,fun h=>h.2⟩|exact .inl (by assumption)|exact⟨.inr,fun h=>h.resolve_left (by assumption)⟩|exact⟨fun h=>h.resolve_left (by assumption), .inr⟩|simp[*])) Sub.nil)))))))))),fun _ h=>h⟩
    refine aA<|bR Z (fun hc8=> ?_) (fun hc8=> ?_)
    ·have hst:=TT (n:=n) hlx hoq2.1 hg1 hg2 hc8
     refine aN<|wm Z<|wA Z Z<|wg Z<|aA<|aN<|wm Z<|wm Z<|wm Z<|wm Z<|wy (aB underlying52 sz3 Z Z (rdr 0 Z) (by omega) (by omega))<|dK (bD 0 Z sz3 Z Z (by omega) (by omega)) ?_
     rintro _ _ rfl
     refine wg Z<|aA<|aN<|wA Z Z<|wm Z<|aA ?_
     exact⟨q+1,upd U (rd o q) (n+1),n+1,rd o q,⟨(by omega),(by omega),(hM.step hs hop hoo hV2 hq0 (by omega) hfq hst)⟩,(by omega),(G9 Z Z Z Z Z Z Z Z Z),fun _ h=>h⟩
    ·have hst:=TS (n:=n) hlm hlx hoq2.1 hg1 hg2 hc8
     refine aM<|aN<|wm Z<|wm Z<|wm Z<|wm Z<|wy (aB underlying52 sz3 Z Z (rdr 0 Z) (by omega) (by omega))<|dK (bD 0 Z sz3 Z Z (by omega) (by omega)) ?_
     rintro _ _ rfl
     refine wg Z<|aA<|aN<|wA Z Z<|wm Z<|aA ?_
     exact⟨q+1,upd U (rd o q) n,n,rd o q,⟨(by omega),(by omega),(hM.step hs hop hoo hV2 hq0 (by omega) hfq hst)⟩,(by omega),(G9 Z Z Z Z Z Z Z Z Z),fun _ h=>h⟩
  ·refine bF<|wq<|eY (R1:=[(ri 3 none 0 0 ([])),(ri 3 (GG g_2) s.length s.length U),(ri 3 (GG g_1) s.length s.length V)]) (Sub.refl _) (fun _ h=>h.nil 3 1)<|wg Z<|aA<|aF<|wq<|wm Z<|wy (aV underlying52 Z)<|wm Z<|aA<|aI ?_
   refine lI (fun(A1:Option Addr) (n1:Nat) (c1:Nat) (acc:List Int) (j:Int)=>[(11, .slice (GG g_2) s.length s.length),(12,I n),(16, .slice A1 n1 c1),(102, .slice A_f f.length c_f),(103,I ((f.length:Nat):Int)),(104,I j)]) (fun(A1:Option Addr) (n1:Nat) (c1:Nat) (acc:List Int) (j:Int)=>[(ri 3 A1 n1 c1 acc),(ri 3 (GG g_2) s.length s.length U),(ri 3 (GG g_1) s.length s.length V)]) (fun(A1:Option Addr) (n1:Nat) (c1:Nat) (acc:List Int) (j:Int)=>(n1=acc.length)∧(0≤j)∧(j≤f.length)∧(acc=(f.take j.toNat).map (rd U))) (fun(A1:Option Addr) (n1:Nat) (c1:Nat) (acc:List Int) (j:Int)=>(f.length-j).toNat) ?_ ?_
   ·exact⟨none,0,0,[],0,⟨(Z),(by omega),(by omega),(Z)⟩,(G6 Z Z Z Z Z Z),fun _ h=>h⟩
   intro A1 n1 c1 acc j ⟨hn1,hj0,hj1,hacc⟩
   have hal:=congrArg List.length hacc
   rw[List.length_map,List.length_take] at hal
   have hfj:j<f.length→0≤rd f j∧rd f j<s.length:=fun h=>by subst hf;exact(iT hj0 h).1
   refine wq<|wL Z Z<|aA<|aF<|bR Z (fun hc9=> ?_) (fun hc9=> ?_)
   ·refine aM<|aF<|aI<|wq<|wy (aB underlying52 sz3 Z Z (h_f.c _) (by omega) (by omega))<|wy (aZ underlying3 Z Z (h_f.c _) (by omega) (by omega))<|wg Z<|aA<|aN<|wm Z<|wm Z<|wm Z<|wy (aB underlying52 sz3 Z Z (rdr 1 Z) (by omega) (by omega))<|wy (aZ underlying3 Z Z (rdr 1 Z) (by omega) (by omega)) ?_
    refine wa (bV .i64 [rd U (rd f j)] underlying52 zs3 Z Z Z) ?_
    rintro _ _ ⟨g_4,rfl,rfl⟩
    refine wa (bX 1 Z underlying52 zb3 Z Z Z (rdr 0 Z) (by omega)) ?_
    rintro _ _ ⟨A_5,c_6,rfl,rfl⟩
    refine bY (v:= .slice A_5 (n1+1) c_6) Z<|wg Z<|aA<|aN<|wA Z Z<|wm Z<|aA ?_
    exact⟨A_5,n1+1,c_6,acc++([rd U (rd f j)]),j+1,⟨(by rw[List.length_append,hn1];try rfl),(by omega),(by omega),(by rw[dG hj0 (by omega),List.map_append,hacc];rfl)⟩,(by omega),(G6 Z Z Z Z Z Z),fun _ h=>h.sel [1,2,3] (by decide) Z⟩
   ·refine bF<|wq<|wm Z<|wm Z<|wA Z Z<|wg Z<|wg Z<|aA<|aY [0] 99 (by decide) Z ?_
    refine⟨_,_,Z,Z,?_⟩
    have hM2:oW s o V s.length U n la:=by have e:q=s.length:=(by omega);rw[←e];exact hM
    rw[List.take_of_length_le (by omega)] at hacc
    subst hacc
    obtain rfl:n1=f.length:=by omega
    exact⟨V,U,n,la,_,_,Z,hV2,hM2,Z⟩
set_option maxHeartbeats 1000000 in
theorem wQ {w:World} {A_s:Option Addr} {n_s c_s:Nat} {s:List Int} {k:Int} (h_s:Rd w A_s n_s c_s 1 (ints .i64 s)) (IH: ∀ {w:World} {A_t:Option Addr} {n_t c_t:Nat} {t:List Int} {j:Int},Rd w A_t n_t c_t 1 (ints .i64 t)→t.length<s.length→((0≤j∧j≤1048576)∧ ∀x∈t,0≤x∧x<j)→t.length≤1000000→Ct Tryz.prog 265 #[.slice A_t n_t c_t,I j] w.heap.size w [] (fun v R'=> ∃(b:List Int) (A:Option Addr) (c:Nat),v= .slice A t.length c∧b.Perm (iota t.length)∧b.Pairwise (bI t)∧R'=[(ri 3 A t.length c b)])) (hok:(0≤k∧k≤1048576)∧ ∀x∈s,0≤x∧x<k) (hN:s.length≤1000000):
  Ct Tryz.prog 265 #[.slice A_s n_s c_s,I k] w.heap.size w [] (fun v R'=> ∃(b:List Int) (A:Option Addr) (c:Nat),v= .slice A s.length c∧b.Perm (iota s.length)∧b.Pairwise (bI s)∧R'=[(ri 3 A s.length c b)]):=by
 obtain rfl:=h_s.lenI
 refine fn1 Tryz.func265 Z Z Z ?_
 have m_s:=h_s.max
 refine wq<|wg Z<|aA<|wq<|wm Z<|wa (aC aAf Z (Ct.fresh (fun w hw=>DX ((h_s.c _) w hw) (by first|assumption|omega|decide)))) ?_
 rintro _ _ ⟨_,rfl,A_1,c_2,rfl,rfl⟩
 refine wg Z<|aA<|wq<|wm Z<|wm Z<|wm Z<|wa (aC aAe Z (Ct.fresh (fun w hw=>KG ((h_s.c _) w hw) ((rdr 0 Z) w hw) hok (.refl _) hN))) ?_
 rintro _ _ ⟨_,rfl,A_3,c_4,rfl,rfl⟩
 refine wm Z<|wX Z Z<|wX Z Z<|wg Z<|wg Z<|aA<|aF<|wq<|wm Z<|wy (aV underlying52 Z)<|wL Z Z<|aA<|bR Z (fun hc1=> ?_) (fun hc1=> ?_)
 ·refine wq<|wm Z<|wg Z<|aA<|aY [0] 99 (by decide) Z ?_
  refine⟨_,Z,?_⟩
  exact⟨_,_,_,Z,(nW hok.1.1 hok.2 (.refl _)).2.1,(nW hok.1.1 hok.2 (.refl _)).2.2.2 (SQ (by omega)),Z⟩
 ·have hn1:0<s.length:=by have:=vQ (s:=s);omega
  have hpc:=IZ hok.1.1 hok.2 (l:=aS s) (.refl _) hn1
  have hsn:Nn s:=fun x hx=>(hok.2 x hx).1
  have hless:=OV hn1
  refine aM<|wq<|wm Z<|wm Z<|wm Z<|wa (aC aDl Z (Ct.fresh (fun w hw=>TR ((h_s.c _) w hw) ((rdr 1 Z) w hw) ((rdr 0 Z) w hw) hsn Z hpc.1 hpc.2 hN))) ?_
  rintro _ _ ⟨_,rfl,nx,nm,n,la,A_6,c_7,rfl,hNx,hNm,rfl⟩
  refine wm Z<|wX Z Z<|wX Z Z<|wg Z<|wg Z<|aA<|wq<|eY (R1:=[(ri 3 none 0 0 ([])),(ri 3 A_6 ((aS s).length) c_7 ((aS s).map (rd nm))),(ri 3 A_3 ((s).length) c_4 (kC s k (aS s))),(ri 3 A_1 ((aS s).length) c_2 (aS s))]) (Sub.refl _) (fun _ h=>h.nil 3 1)<|wg Z<|aA<|aF<|wq<|wm Z ?_
  refine wm Z<|wa (aC aAg Z (Ct.fresh (fun w hw=>IH ((rdr 1 Z) w hw) (by rw[List.length_map];exact hless) ⟨by have:=hNm.bd;omega,TQ hNm hpc.1⟩ (by rw[List.length_map];omega)))) ?_
  rintro _ _ ⟨_,rfl,b1,A_9,c_10,rfl,hp_b1,hs_b1,rfl⟩
  refine wy (aV underlying52 Z)<|wm Z<|aA<|aI ?_
  refine lI (fun(A1:Option Addr) (n1:Nat) (c1:Nat) (acc:List Int) (i:Int)=>[(0, .slice A_s s.length c_s),(1,I k),(5, .slice A_1 ((aS s).length) c_2),(10, .slice A1 n1 c1),(35, .slice A_9 (((aS s).map (rd nm)).length) c_10),(36,I ((((aS s).map (rd nm)).length:Nat):Int)),(37,I i)]) (fun(A1:Option Addr) (n1:Nat) (c1:Nat) (acc:List Int) (i:Int)=>[(ri 3 A_9 (((aS s).map (rd nm)).length) c_10 b1),(ri 3 A1 n1 c1 acc),(ri 3 A_6 ((aS s).length) c_7 ((aS s).map (rd nm))),(ri 3 A_3 ((s).length) c_4 (kC s k (aS s))),(ri 3 A_1 ((aS s).length) c_2 (aS s))]) (fun(A1:Option Addr) (n1:Nat) (c1:Nat) (acc:List Int) (i:Int)=>(n1=acc.length)∧(0≤i)∧(i≤b1.length)∧(acc=(b1.take i.toNat).map (rd (aS s)))) (fun(A1:Option Addr) (n1:Nat) (c1:Nat) (acc:List Int) (i:Int)=>(b1.length-i).toNat) ?_ ?_
  ·exact⟨none,0,0,[],0,⟨(Z),(by omega),(by omega),(Z)⟩,(G7 Z Z Z Z Z Z Z),fun _ h=>h⟩
  intro A1 n1 c1 acc i ⟨hn1,hi0,hi1,hacc⟩
  have hml:((aS s).map (rd nm)).length=(aS s).length:=List.length_map _
  have hbl:b1.length=(aS s).length:=by rw[hp_b1.length_eq,aW,List.length_map]
  have hal:=congrArg List.length hacc
  rw[List.length_map,List.length_take] at hal
  have hbi:i<b1.length→0≤rd b1 i∧rd b1 i<(aS s).length:=fun h=>by
   have:=aO.1 (hp_b1.subset (bA (L:=b1) hi0 h))
   rwa[List.length_map] at this
  refine wq<|wL Z Z<|aA<|aF<|bR Z (fun hc2=> ?_) (fun hc2=> ?_)
  ·refine aM<|aF<|aI<|wq<|wy (aB underlying52 sz3 Z Z (rdr 0 Z) (by omega) (by omega))<|wy (aZ underlying3 Z Z (rdr 0 Z) (by omega) (by omega))<|wg Z<|aA<|aN<|wm Z<|wm Z<|wm Z<|wy (aB underlying52 sz3 Z Z (rdr 4 Z) (by omega) (by omega))<|wy (aZ underlying3 Z Z (rdr 4 Z) (by omega) (by omega)) ?_
   refine wa (bV .i64 [rd (aS s) (rd b1 i)] underlying52 zs3 Z Z Z) ?_
   rintro _ _ ⟨g_13,rfl,rfl⟩
   refine wa (bX 2 Z underlying52 zb3 Z Z Z (rdr 0 Z) (by omega)) ?_
   rintro _ _ ⟨A_14,c_15,rfl,rfl⟩
   refine bY (v:= .slice A_14 (n1+1) c_15) Z<|wg Z<|aA<|aN<|wA Z Z<|wm Z<|aA ?_
   exact⟨A_14,n1+1,c_15,acc++([rd (aS s) (rd b1 i)]),i+1,⟨(by rw[List.length_append,hn1];try rfl),(by omega),(by omega),(by rw[dG hi0 (by omega),List.map_append,hacc];rfl)⟩,(by omega),(G7 Z Z Z Z Z Z Z),fun _ h=>h.sel [1,2,3,4,5] (by decide) Z⟩
  ·have hac:acc=b1.map (rd (aS s)):=by rw[hacc,List.take_of_length_le (by omega)]
   have hr:=SA hsn hNm hpc.1 hpc.2 hNx hp_b1 hs_b1
   have hap:acc.Perm (aS s):=by rw[hac];exact hr.1
   have hao:acc.Pairwise (bI s):=by rw[hac];exact hr.2
   refine bF<|wq<|wm Z<|wm Z<|wm Z<|wa (aC aAe Z (Ct.fresh (fun w hw=>KG ((h_s.c _) w hw) ((rdr 1 Z) w hw) hok hap hN))) ?_
   rintro _ _ ⟨_,rfl,A_16,c_17,rfl,rfl⟩
   refine wm Z<|wX Z Z<|wX Z Z<|wg Z<|aA<|wq<|wm Z<|wg Z<|aA<|aY [0] 99 (by decide) Z ?_
   refine⟨_,Z,?_⟩
   exact⟨_,_,_,Z,(nW hok.1.1 hok.2 hap).2.1,(nW hok.1.1 hok.2 hap).2.2.2 hao,Z⟩
theorem NP (m:Nat): ∀ {w:World} {A_s:Option Addr} {n_s c_s:Nat} {s:List Int} {k:Int},Rd w A_s n_s c_s 1 (ints .i64 s)→s.length<m→((0≤k∧k≤1048576)∧ ∀x∈s,0≤x∧x<k)→s.length≤1000000→
  Ct Tryz.prog 265 #[.slice A_s n_s c_s,I k] w.heap.size w [] (fun v R'=> ∃(b:List Int) (A:Option Addr) (c:Nat),v= .slice A s.length c∧b.Perm (iota s.length)∧b.Pairwise (bI s)∧R'=[(ri 3 A s.length c b)]):=by
 induction m with
 |zero=>intro w A n c s k _ h;omega
 |succ m ih=>
  intro w A n c s k h_s hm hok hN
  exact wQ h_s (fun h1 h2 h3 h4=>ih h1 (by omega) h3 h4) hok hN
theorem wR {w:World} {A_s:Option Addr} {n_s c_s:Nat} {s:List Int} {k:Int} (h_s:Rd w A_s n_s c_s 1 (ints .i64 s)) (hok:(0≤k∧k≤1048576)∧ ∀x∈s,0≤x∧x<k) (hN:s.length≤1000000):
  Ct Tryz.prog 265 #[.slice A_s n_s c_s,I k] w.heap.size w [] (fun v R'=> ∃(b:List Int) (A:Option Addr) (c:Nat),v= .slice A s.length c∧b.Perm (iota s.length)∧b.Pairwise (bI s)∧R'=[(ri 3 A s.length c b)]):=NP (s.length+1) h_s (by omega) hok hN
theorem RL {w:World} {A_s:Option Addr} {n_s c_s:Nat} {s:List Int} {k:Int} (h_s:Rd w A_s n_s c_s 1 (ints .i64 s)) (hok:(0≤k∧k≤1048576)∧ ∀x∈s,0≤x∧x<k) (hN:s.length≤100000):
  Ct Tryz.prog 219 #[.slice A_s n_s c_s,I k] w.heap.size w [] (fun v R'=> ∃(b:List Int) (A:Option Addr) (c:Nat),v= .tuple #[.slice A s.length c,I 0]∧b.Perm (iota s.length)∧b.Pairwise (bI s)∧R'=[(ri 3 A s.length c b)]):=by
 obtain rfl:=h_s.lenI
 refine fn2 Tryz.func219 Z Z Z ?_
 have m_s:=h_s.max
 refine wq<|wg Z<|wg Z<|aA<|aF<|wq<|wm Z<|wy (aV underlying52 Z)<|wy (Yl.f (kU Z Z) (by omega))<|aA<|aL Z<|aM<|aF ?_
 refine wq<|wm Z<|wm Z<|wa (aC VC Z (Ct.fresh (fun w hw=>nE ((h_s.c _) w hw) (by first|assumption|omega|decide)))) ?_
 rintro _ _ ⟨_,rfl,A_1,c_2,rfl,rfl⟩
 refine wm Z<|wX Z Z<|wX Z Z<|wg Z<|wg Z<|aA<|wq<|wm Z<|wy (mE Z)<|aA<|aL Z<|aM<|wq ?_
 refine wm Z<|wm Z<|wa (aC aAg Z (Ct.fresh (fun w hw=>wR ((h_s.c _) w hw) hok (by omega)))) ?_
 rintro _ _ ⟨_,rfl,b1,A_4,c_5,rfl,hp_b1,hs_b1,rfl⟩
 refine wg Z<|wg Z<|aA<|aY [0] 99 (by decide) Z ?_
 refine⟨_,_,Z,Z,?_⟩
 exact⟨b1,_,_,Z,hp_b1,hs_b1,Z⟩
theorem NU {w:World} {A_u:Option Addr} {n_u c_u:Nat} {u:List Int} (h_u:Rd w A_u n_u c_u 1 (ints .u8 u)) (bh_u:aP u) (hN:u.length≤100000):
  Ct Tryz.prog 146 #[.slice A_u n_u c_u] w.heap.size w [] (fun v R'=> ∃(b:List Int) (A:Option Addr) (c:Nat),v= .tuple #[.slice A u.length c,I 0]∧b.Perm (iota u.length)∧b.Pairwise (bI u)∧R'=[(ri 3 A u.length c b)]):=by
 obtain rfl:=h_u.lenI
 refine fn2 Tryz.func146 Z Z Z ?_
 have m_u:=h_u.max
 refine wq<|wg Z<|wg Z<|aA<|wq<|eY (R1:=[(ri 3 none 0 0 ([]))]) (Sub.refl _) (fun _ h=>h.nil 3 1)<|wg Z<|aA<|aF<|wq<|wm Z<|wy (aV underlying22 Z) ?_
 refine wy (Yl.t (aAp Z Z) (by omega))<|aA<|dN Z<|aF<|wq<|wm Z<|wy (aV underlying22 Z)<|wm Z<|aA<|aI ?_
 refine lI (fun(A1:Option Addr) (n1:Nat) (c1:Nat) (acc:List Int) (i:Int)=>[(4, .slice A1 n1 c1),(10, .slice A_u u.length c_u),(11,I ((u.length:Nat):Int)),(12,I i)]) (fun(A1:Option Addr) (n1:Nat) (c1:Nat) (acc:List Int) (i:Int)=>[(ri 3 A1 n1 c1 acc)]) (fun(A1:Option Addr) (n1:Nat) (c1:Nat) (acc:List Int) (i:Int)=>(n1=acc.length)∧(0≤i)∧(i≤u.length)∧(acc=u.take i.toNat)) (fun(A1:Option Addr) (n1:Nat) (c1:Nat) (acc:List Int) (i:Int)=>(u.length-i).toNat) ?_ ?_
 ·exact⟨none,0,0,[],0,⟨(Z),(by omega),(by omega),(Z)⟩,(G4 Z Z Z Z),fun _ h=>h⟩
 intro A1 n1 c1 acc i ⟨hn1,hi0,hi1,hacc⟩
 have hal:=congrArg List.length hacc
 rw[List.length_take] at hal
 refine wq<|wL Z Z<|aA<|aF<|bR Z (fun hc1=> ?_) (fun hc1=> ?_)
 ·have hbi:=bh_u.rd i
  refine aM<|aF<|aI<|wq<|wy (aB underlying22 sz5 Z Z (h_u.c _) (by omega) (by omega))<|wy (aZ underlying5 Z Z (h_u.c _) (by omega) (by omega))<|wg Z<|aA<|aN<|wm Z<|wm Z<|wy (nO underlying5 underlying3 Z (by omega))<|wa (bV .i64 [rd u i] underlying52 zs3 Z Z Z) ?_
  rintro _ _ ⟨g_2,rfl,rfl⟩
  refine wa (bX 1 Z underlying52 zb3 Z Z Z (rdr 0 Z) (by omega)) ?_
  rintro _ _ ⟨A_3,c_4,rfl,rfl⟩
  refine bY (v:= .slice A_3 (n1+1) c_4) Z<|wg Z<|aA<|aN<|wA Z Z<|wm Z<|aA ?_
  exact⟨A_3,n1+1,c_4,acc++([rd u i]),i+1,⟨(by rw[List.length_append,hn1];try rfl),(by omega),(by omega),(by rw[dG hi0 (by omega),hacc])⟩,(by omega),(G4 Z Z Z Z),fun _ h=>h.sel [1] (by decide) Z⟩
 ·have hau:acc=u:=by rw[hacc,List.take_of_length_le (by omega)]
  refine bF<|wq<|wm Z<|wa (aC aDr Z (Ct.fresh (fun w hw=>RL ((rdr 0 Z) w hw) ⟨by omega,fun x hx=>by rw[hau] at hx;have:=bh_u x hx;omega⟩ (by omega)))) ?_
  rintro _ _ ⟨_,rfl,b1,A_5,c_6,rfl,hp_b1,hs_b1,rfl⟩
  refine wX Z Z<|wX Z Z<|wg Z<|wg Z<|aA<|aY [0] 99 (by decide) Z ?_
  refine⟨_,_,Z,Z,?_⟩
  subst hau
  exact⟨b1,_,_,Z,hp_b1,hs_b1,Z⟩
end Go.Proofs.YtdbebmmhdefgdaaGreat

namespace Go.Proofs.YtdbebmmhdefgdaaGreat
open Go Go.Eng Go.Pure
set_option linter.unusedVariables false
set_option maxRecDepth 100000
end Go.Proofs.YtdbebmmhdefgdaaGreat

namespace Go.Pure
open Go Go.Eng
section
variable {p:List Int}
def dF (p:List Int):Nat→List Bool→Int→List Int × List Bool
 |0,E,_=>([],E)
 |f+1,E,k=>if rdb E k=true then([],E) else(k::(dF p f (jS E k true) (rd p k)).1,(dF p f (jS E k true) (rd p k)).2)
def cntF (E:List Bool):Nat:=E.countP fun b=> !b
theorem VR (n:Nat):cntF (List.replicate n false)=n:=by unfold cntF;rw[List.countP_replicate];simp
theorem qK {E:List Bool} {k:Int} (k0:0≤k) (hk:k<E.length) (h:rdb E k≠true):cntF (jS E k true)+1=cntF E:=by
 have hlt:k.toNat<E.length:=by omega
 have e:E[k.toNat]=false:=by
  have h2:rdb E k=E[k.toNat]:=by unfold rdb;rw[List.getD_eq_getElem?_getD,List.getElem?_eq_getElem hlt];rfl
  rw[h2] at h
  simpa using h
 unfold cntF jS
 rw[List.countP_set hlt,e]
 simp only[Bool.not_true,Bool.not_false,Bool.false_eq_true,if_false,if_true,Nat.add_zero]
 have:0<E.countP fun b=> !b:=List.countP_pos_iff.2 ⟨E[k.toNat],List.getElem_mem hlt,by rw[e];rfl⟩
 omega
theorem lH {f:Nat} {E:List Bool} {k:Int} (h:rdb E k=true):dF p f E k=([],E):=by
 cases f with
 |zero=>rfl
 |succ f=>rw[dF,if_pos h]
theorem vX {E:List Bool} {k:Int} (k0:0≤k) (hk:k<E.length) (h:rdb E k≠true):0<cntF E:=by have:=qK k0 hk h;omega
theorem uI {f:Nat} {E:List Bool} {k:Int} (k0:0≤k) (hk:k<E.length) (hf:cntF E≤f) (h:rdb E k≠true):dF p f E k=(k::(dF p (f-1) (jS E k true) (rd p k)).1,(dF p (f-1) (jS E k true) (rd p k)).2):=by
 have:=vX k0 hk h
 obtain⟨g,rfl⟩: ∃g,f=g+1:=⟨f-1,by omega⟩
 rw[dF,if_neg h]
 rfl
def eD (p:List Int):Nat→List Bool × List (List Int)
 |0=>(List.replicate p.length false,[])
 |i+1=>((dF p p.length (eD p i).1 i).2,if (dF p p.length (eD p i).1 i).1=[] then(eD p i).2 else(eD p i).2++[(dF p p.length (eD p i).1 i).1])
def bT (p:List Int):List (List Int):=(eD p p.length).2
theorem kH (hp:p.Perm (iota p.length)): ∀(f:Nat) (E:List Bool) (k:Int),E.length=p.length→0≤k→k<p.length→(dF p f E k).2.length=p.length∧(∀x∈(dF p f E k).1,0≤x∧x<p.length)∧(dF p f E k).1.length+cntF (dF p f E k).2=cntF E
 |0,E,k,hl,_,_=>And.intro hl (And.intro (fun x hx=>absurd hx (List.not_mem_nil (a:=x))) (Nat.zero_add _))
 | f+1,E,k,hl,k0,hk=>by
  rw[dF]
  split
  ·exact And.intro hl (And.intro (fun x hx=>absurd hx (List.not_mem_nil (a:=x))) (Nat.zero_add _))
  ·rename_i h
   have hn:=aO.1 (hp.subset (bA (L:=p) k0 hk))
   have ih:=kH hp f (jS E k true) (rd p k) (by rw[gB];exact hl) hn.1 hn.2
   have hc:=qK k0 (by omega) h
   refine⟨ih.1,fun x hx=> ?_,?_⟩
   ·rcases List.mem_cons.1 hx with rfl|hx
    ·exact⟨k0,hk⟩
    ·exact ih.2.1 x hx
   ·have:=ih.2.2
    simp only[List.length_cons]
    omega
theorem gK (hp:p.Perm (iota p.length)): ∀i:Nat,i≤p.length→(eD p i).1.length=p.length∧(∀c∈(eD p i).2,∀x∈c,0≤x∧x<p.length)∧(eD p i).2.flatten.length+cntF (eD p i).1=p.length
 |0,_=>⟨by simp[eD],fun c hc=>(by cases hc),by simp[eD,VR]⟩
 | i +1,hi=>by
  have ih:=gK hp i (by omega)
  have hw:=kH hp p.length (eD p i).1 i ih.1 (by omega) (by omega)
  rw[eD]
  refine⟨hw.1,?_,?_⟩
  ·intro c hc x hx
   split at hc
   ·exact ih.2.1 c hc x hx
   ·rcases List.mem_append.1 hc with hc|hc
    ·exact ih.2.1 c hc x hx
    ·obtain rfl:=List.mem_singleton.1 hc
     exact hw.2.1 x hx
  ·split
   ·rename_i h
    have h2:=hw.2.2
    rw[h] at h2
    have:=ih.2.2
    simp only[List.length_nil] at h2
    show(eD p i).2.flatten.length+cntF (dF p p.length (eD p i).1 i).2=p.length
    omega
   ·rw [List.flatten_append,List.length_append]
    have h2:=hw.2.2
    have:=ih.2.2
    simp only[List.flatten_cons,List.flatten_nil,List.append_nil]
    omega
theorem MJ (hp:p.Perm (iota p.length)): ∀c∈bT p,∀x∈c,0≤x∧x<p.length:=(gK hp p.length (Nat.le_refl _)).2.1
theorem VM (hp:p.Perm (iota p.length)):(bT p).flatten.length≤p.length:=by have:=(gK hp p.length (Nat.le_refl _)).2.2;unfold bT;omega
theorem vU (p:List Int): ∀i:Nat,(eD p i).2.length≤i
 |0=>by simp[eD]
 |i+1=>by
  have:=vU p i
  rw[eD]
  split
  ·exact Nat.le_succ_of_le this
  ·rw[List.length_append];simp only[List.length_singleton];omega
theorem YS {i:Int} {E E2:List Bool} {ls:List (List Int)} {acc:List Int} (i0:0≤i) (hcy:eD p i.toNat=(E,ls)) (hse:dF p p.length E i=(acc,E2)) (hne:acc≠[]):eD p (i+1).toNat=(E2,ls++[acc]):=by
 rw[show(i+1).toNat=i.toNat+1 by omega,eD,hcy]
 simp only[show((i.toNat:Nat):Int)=i by omega,hse,if_neg hne]
theorem aBv {i:Int} {E E2:List Bool} {ls:List (List Int)} {acc:List Int} (i0:0≤i) (hcy:eD p i.toNat=(E,ls)) (hse:dF p p.length E i=(acc,E2)) (hne:acc=[]):eD p (i+1).toNat=(E2,ls):=by
 rw[show(i+1).toNat=i.toNat+1 by omega,eD,hcy]
 simp only[show((i.toNat:Nat):Int)=i by omega,hse,if_pos hne]
theorem GA (hp:p.Perm (iota p.length)) {f:Nat} {E E2:List Bool} {acc:List Int} {i k:Int} (hl:E.length=p.length) (i0:0≤i) (hi:i<p.length) (hw:(acc++(dF p f E2 k).1,(dF p f E2 k).2)=dF p p.length E i):acc.length≤p.length:=by
 have h:=(kH hp p.length E i hl i0 hi).2.2
 rw[←hw] at h
 simp only[List.length_append] at h
 have:cntF E≤E.length:=List.countP_le_length
 omega
def fQ (l c:List Int):List Int:=c.reverse.map (rd l)
def backL (l:List Int) (cs:List (List Int)):List Int:=(cs.reverse.map (fQ l)).flatten
theorem JS {l:List Int} {cs:List (List Int)} {k:Nat} (hk:k<cs.length):(((cs.reverse).take (k+1)).map (fQ l)).flatten=(((cs.reverse).take k).map (fQ l)).flatten++fQ l (rdl cs (cs.length-1-k)):=by
 have hlt:k<cs.reverse.length:=by rw[List.length_reverse];exact hk
 rw[List.take_add_one,List.getElem?_eq_getElem hlt,List.map_append,List.flatten_append]
 congr 1
 simp only[Option.toList_some,List.map_cons,List.map_nil,List.flatten_cons,List.flatten_nil,List.append_nil]
 congr 1
 rw[List.getElem_reverse]
 unfold rdl
 rw[List.getD_eq_getElem?_getD,List.getElem?_eq_getElem (by omega)]
 simp only[Option.getD_some]
 congr 1
 omega
theorem FX {l c:List Int} {k:Nat} (hk:k<c.length):((c.reverse).take (k+1)).map (rd l)=((c.reverse).take k).map (rd l)++[rd l (rd c (c.length-1-k))]:=by
 have hlt:k<c.reverse.length:=by rw[List.length_reverse];exact hk
 rw[List.take_add_one,List.getElem?_eq_getElem hlt,List.map_append]
 congr 1
 simp only[Option.toList_some,List.map_cons,List.map_nil]
 congr 2
 rw[List.getElem_reverse,dW (by omega) (by omega)]
 congr 1
 omega
theorem iH (l c:List Int):(fQ l c).length=c.length:=by simp[fQ]
theorem DW {cs:List (List Int)}: ∀ {k:Nat} {l:List Int},(((cs.reverse).take k).map (fQ l)).flatten.length≤cs.flatten.length:=by
 intro k l
 have h1:(((cs.reverse).take k).map (fQ l)).flatten.length=(((cs.reverse).take k).map List.length).sum:=by
  rw[List.length_flatten,List.map_map]
  congr 2
  funext c
  exact iH l c
 have h2:cs.flatten.length=((cs.reverse).map List.length).sum:=by rw[List.length_flatten,List.map_reverse,List.sum_reverse]
 rw[h1,h2]
 conv=>rhs;rw[←List.take_append_drop k cs.reverse]
 rw[List.map_append,List.sum_append]
 omega
end
end Go.Pure

namespace Go.Proofs.YtdbebmmhdefgdaaGreat
open Go Go.Eng Go.Pure
open Tryz
set_option linter.unusedVariables false
set_option maxRecDepth 100000
theorem OI {a:List Int} (hd:a.Nodup) {i:Int} (i0:0≤i) (hi:i<a.length):rd a i∉a.take i.toNat:=fun h=>by
 obtain⟨q,hq,e⟩:=List.mem_iff_getElem.1 h
 rw[List.length_take] at hq
 rw[List.getElem_take] at e
 have:=fH hd (i:=(q:Int)) (j:=i) (by omega) (by omega) i0 hi (by rw[dW (i:=(q:Int)) (by omega) (by omega)];simp only[Int.toNat_natCast];exact e)
 omega
theorem NT {a:List Int} {E:List Bool} {i:Int} {n:Nat} (i0:0≤i) (hi:i<a.length) (hl:E.length=n) (ha:0≤rd a i∧rd a i<n) (h: ∀x:Int,0≤x→x<n→(rdb E x=true↔x∈a.take i.toNat)): ∀x:Int,0≤x→x<n→(rdb (jS E (rd a i) true) x=true↔x∈a.take (i+1).toNat):=by
 intro x x0 x1
 rw[dG i0 hi,nT ha.1 (by omega) x0,List.mem_append,List.mem_singleton]
 split
 ·rename_i e;exact⟨fun _=> .inr e,fun _=>rfl⟩
 ·rename_i e;rw[h x x0 x1];exact⟨.inl,fun h=>h.resolve_right e⟩
theorem UN {a V:List Int} {i:Int} {n:Nat} (i0:0≤i) (hi:i<a.length) (hd:a.Nodup) (hl:V.length=n) (ha: ∀q:Int,0≤q→q<a.length→0≤rd a q∧rd a q<n) (h: ∀q:Int,0≤q→q<i→rd V (rd a q)=q): ∀q:Int,0≤q→q<i+1→rd (upd V (rd a i) i) (rd a q)=q:=by
 intro q q0 q1
 have h1:=ha i i0 hi
 have h2:=ha q q0 (by omega)
 rw[dR h1.1 h2.1 (by omega)]
 split
 ·rename_i e;exact fH hd i0 hi q0 (by omega) e.symm
 ·rename_i e
  refine h q q0 ?_
  rcases Int.lt_or_le q i with g|g
  ·exact g
  ·obtain rfl:q=i:=by omega
   exact absurd Z e
def fsL (l:List Int):List Int:=(iota l.length).map (lfC l)
theorem nX (l:List Int):(fsL l).length=l.length:=by unfold fsL;rw[List.length_map,aW]
theorem IE {l:List Int} {i:Int} (i0:0≤i) (hi:i<l.length):rd (fsL l) i=lfC l i:=by
 unfold fsL
 rw[uQ i0 (by rw[aW];exact hi),nU i0 hi]
theorem rD {l:List Int} (hl:aP l):(bN (iota l.length) l (256:Int).toNat).length=l.length:=by
 have:=(fI (l:=l) hl).1.length_eq
 rwa[aW] at this
theorem KW {l:List Int} (hl:aP l):(bN (iota l.length) l (256:Int).toNat).Perm (iota (bN (iota l.length) l (256:Int).toNat).length):=by
 rw[rD hl]
 exact(fI (l:=l) hl).1
theorem ZX {l V:List Int} (hl:aP l) (h1:V.length=(bN (iota l.length) l (256:Int).toNat).length) (h2: ∀q:Int,0≤q→q<(bN (iota l.length) l (256:Int).toNat).length→rd V (rd (bN (iota l.length) l (256:Int).toNat) q)=q):V=fsL l:=by
 rw[rD hl] at h1 h2
 refine bB (by rw[h1,nX]) fun j j0 j1=> ?_
 rw[IE j0 (by omega)]
 obtain⟨q,q0,q1,e,f⟩:=CZ (l:=l) hl j0 (by omega)
 rw[f,←e]
 exact h2 q q0 q1
theorem LG {s a P acc:List Int} {i:Int} (i0:0≤i) (hi:i<a.length) (h:acc=P++ofT s (a.take i.toNat)) (h0:rd a i=0):acc=P++ofT s (a.take (i+1).toNat):=by
 rw[CR i0 hi,if_pos h0,List.append_nil];exact h
theorem TM {s a P acc:List Int} {i:Int} (i0:0≤i) (hi:i<a.length) (h:acc=P++ofT s (a.take i.toNat)) (h0: ¬rd a i=0):acc++[rd s (rd a i-1)]=P++ofT s (a.take (i+1).toNat):=by
 rw[CR i0 hi,if_neg h0,←List.append_assoc,h]
theorem JX {a:List Int} {i:Int} (hd:a.Nodup) (i0:0≤i) (hi:i<a.length) (h0:rd a i=0):i+1=zat (a.take (i+1).toNat):=by rw[AU hd i0 hi,if_pos h0]
theorem QF {a:List Int} {i m:Int} (hd:a.Nodup) (i0:0≤i) (hi:i<a.length) (h:m=zat (a.take i.toNat)) (h0: ¬rd a i=0):m=zat (a.take (i+1).toNat):=by rw[AU hd i0 hi,if_neg h0];exact h
theorem LH (s:List Int) (l:List Int):(ofT s l).length≤l.length:=by unfold ofT;rw[List.length_map];exact List.length_filter_le _ _
set_option maxHeartbeats 800000 in
theorem zB {w:World} {A_a:Option Addr} {n_a c_a:Nat} {a:List Int} (h_a:Rd w A_a n_a c_a 1 (ints .i64 a)) (hp:a.Perm (iota a.length)) (hN:a.length≤1000000):
  Ct Tryz.prog 150 #[.slice A_a n_a c_a] w.heap.size w [] (fun v R'=> ∃A c V,v= .tuple #[.slice A a.length c, .bool true]∧V.length=a.length∧(∀q:Int,0≤q→q<a.length→rd V (rd a q)=q)∧R'=[(ri 3 A a.length c V)]):=by
 obtain rfl:=h_a.lenI
 refine fn2 Tryz.func150 Z Z Z ?_
 have m_a:=h_a.max
 have hnd:a.Nodup:=hp.symm.nodup (cO _)
 have hall: ∀q:Int,0≤q→q<a.length→0≤rd a q∧rd a q<a.length:=fun q q0 q1=>aO.1 (hp.subset (bA q0 q1))
 refine wq<|wg Z<|wg Z<|aA<|wq<|wm Z<|wy (aV underlying52 Z)<|wa (dY underlying52 zb3 Z Z (by omega) (by omega) (by omega)) ?_
 rintro _ _ ⟨g_1,rfl,rfl⟩
 refine bY (v:= .slice (GG g_1) a.length a.length) Z<|wg Z<|aA<|wq<|wm Z<|wy (aV underlying52 Z)<|wa (AP underlying269 zb4 Z Z (by omega) (by omega) (by omega)) ?_
 rintro _ _ ⟨g_2,rfl,rfl⟩
 refine bY (v:= .slice (GG g_2) a.length a.length) Z<|wg Z<|aA<|aF<|wq<|wm Z<|wy (aV underlying52 Z)<|wm Z<|aA<|aI ?_
 refine gV (fun(i:Int) (V:List Int) (E:List Bool)=>[(0, .slice A_a a.length c_a),(4, .slice (GG g_1) a.length a.length),(5, .slice (GG g_2) a.length a.length),(14, .slice A_a a.length c_a),(15,I ((a.length:Nat):Int)),(16,I i)]) (fun(i:Int) (V:List Int) (E:List Bool)=>[⟨4,1,(GG g_2),a.length,a.length,bools E,false⟩,(ri 3 (GG g_1) a.length a.length V)]) (fun(i:Int) (V:List Int) (E:List Bool)=>(0≤i)∧(i≤a.length)∧(V.length=a.length)∧(E.length=a.length)∧(∀x:Int,0≤x→x<a.length→(rdb E x=true↔x∈a.take i.toNat))∧(∀q:Int,0≤q→q<i→rd V (rd a q)=q)) (fun(i:Int) (V:List Int) (E:List Bool)=>(a.length-i).toNat) ?_ ?_
 ·exact⟨0,List.replicate a.length (0:Int),List.replicate a.length false,⟨(by omega),(by omega),(by rw[List.length_replicate]),(by rw[List.length_replicate]),(fun x h0 h1=>by rw[tY];simp),(fun q h0 h1=>by omega)⟩,(G6 rfl rfl rfl rfl rfl rfl),fun _ h=>h⟩
 intro i V E ⟨hi0,hi1,hVl,hEl,hE,hV⟩
 refine wq<|wL Z Z<|aA<|aF<|bR Z (fun hc1=> ?_) (fun hc1=> ?_)
 ·have ha:=hall i hi0 (by omega)
  have hno:=OI hnd hi0 (by omega)
  refine aM<|aF<|aI<|wq<|wm Z<|wy (aB underlying52 sz3 Z Z (h_a.c _) (by omega) (by omega))<|wy (aZ underlying3 Z Z (h_a.c _) (by omega) (by omega))<|wg Z<|wg Z<|aA<|aF<|wq<|wm Z ?_
  refine wy (Yl.f (sU Z Z) (by omega))<|wm Z<|aD Z Z<|wm Z<|aD Z Z<|wm Z<|aD Z Z<|wy (aV underlying52 Z)<|aD Z Z<|wy (Yl.f (yQ Z Z) (by omega))<|wy (bG Z Z)<|wm Z<|aD Z Z<|wm Z<|aD Z Z ?_
  refine wm Z<|aD Z Z<|wy (aB underlying269 sz4 Z Z (rdr 0 Z) (by omega) (by omega))<|aD Z Z<|wy (Yl.f (rX underlying4 Z Z (rdr 0 Z) (by omega) (by omega)) (fun h=>hno ((hE _ ha.1 ha.2).1 h)))<|wy (bG Z Z)<|aA<|aL Z<|aM<|aN<|wm Z<|wm Z<|wm Z<|wm Z<|wm Z ?_
  refine wy (aB underlying52 sz3 Z Z (rdr 1 Z) (by omega) (by omega))<|dK (bD 1 Z sz3 Z Z (by omega) (by omega)) ?_
  rintro _ _ rfl
  refine wy (aB underlying269 sz4 Z Z (rdr 0 Z) (by omega) (by omega))<|dK (nH 0 Z sz4 Z Z (by omega) (by omega)) ?_
  rintro _ _ rfl
  refine aA<|aN<|wA Z Z<|wm Z<|aA ?_
  exact⟨i+1,upd V (rd a i) i,jS E (rd a i) true,⟨(by omega),(by omega),(by rw[aQ];exact hVl),(by rw[gB];exact hEl),(NT hi0 (by omega) hEl ha hE),(UN hi0 (by omega) hnd hVl hall hV)⟩,(by omega),(G6 Z Z Z Z Z Z),fun _ h=>h⟩
 ·refine bF<|wq<|wm Z<|wg Z<|wg Z<|aA<|aY [1] 99 (by decide) Z ?_
  refine⟨_,_,Z,Z,?_⟩
  exact⟨_,_,V,Z,hVl,fun q h0 h1=>hV q h0 (by omega),Z⟩
theorem RY {w:World} {A_a:Option Addr} {n_a c_a:Nat} {a:List Int} (h_a:Rd w A_a n_a c_a 1 (ints .i64 a)) (hp:a.Perm (iota a.length)) (hN:a.length≤1000000):
  Ct Tryz.prog 197 #[.slice A_a n_a c_a] w.heap.size w [] (fun v R'=>v= .bool true):=by
 obtain rfl:=h_a.lenI
 refine fn1 Tryz.func197 Z Z Z ?_
 have m_a:=h_a.max
 refine wq<|wg Z<|aA<|wq<|wm Z<|wa (aC VD Z (Ct.fresh (fun w hw=>zB ((h_a.c _) w hw) hp hN))) ?_
 rintro _ _ ⟨_,rfl,A_1,c_2,inv,rfl,hl_inv,hq_inv,rfl⟩
 refine wm Z<|wX Z Z<|wX Z Z<|wg Z<|wg Z<|aA<|wq<|wm Z<|wg Z<|aA<|aY [] 99 (by decide) Z ?_
 refine⟨_,Z,?_⟩
 rfl
set_option maxHeartbeats 800000 in
theorem YI {w:World} {A_u:Option Addr} {n_u c_u:Nat} {u:List Int} (h_u:Rd w A_u n_u c_u 1 (ints .u8 u)) (bh_u:aP u) (hN:u.length≤1000000):
  Ct Tryz.prog 184 #[.slice A_u n_u c_u] w.heap.size w [] (fun v R'=> ∃A c,v= .slice A (fsL u).length c∧R'=[(ri 3 A ((fsL u).length) c (fsL u))]):=by
 obtain rfl:=h_u.lenI
 refine fn1 Tryz.func184 Z Z Z ?_
 have m_u:=h_u.max
 refine wq<|wg Z<|aA<|wq<|wm Z<|wy (aV underlying22 Z)<|wa (dY underlying52 zb3 Z Z (by omega) (by omega) (by omega)) ?_
 rintro _ _ ⟨g_1,rfl,rfl⟩
 refine bY (v:= .slice (GG g_1) u.length u.length) Z<|wg Z<|aA<|wq<|wm Z<|wy (aV underlying22 Z)<|wa (dY underlying52 zb3 Z Z (by omega) (by omega) (by omega)) ?_
 rintro _ _ ⟨g_2,rfl,rfl⟩
 refine bY (v:= .slice (GG g_2) u.length u.length) Z<|wg Z<|aA<|aF<|wq<|wm Z<|wy (aV underlying22 Z)<|wm Z<|aA<|aI ?_
 refine gV (fun(i:Int) (V:List Int) (K:List Int)=>[(3, .slice (GG g_1) u.length u.length),(4, .slice (GG g_2) u.length u.length),(15, .slice A_u u.length c_u),(16,I ((u.length:Nat):Int)),(17,I i)]) (fun(i:Int) (V:List Int) (K:List Int)=>[(ri 3 (GG g_2) u.length u.length K),(ri 3 (GG g_1) u.length u.length V)]) (fun(i:Int) (V:List Int) (K:List Int)=>(0≤i)∧(i≤u.length)∧(V.length=u.length)∧(K.length=u.length)∧(∀j:Int,0≤j→j<i→rd V j=j)∧(∀j:Int,0≤j→j<i→rd K j=rd u j)) (fun(i:Int) (V:List Int) (K:List Int)=>(u.length-i).toNat) ?_ ?_
 ·exact⟨0,List.replicate u.length (0:Int),List.replicate u.length (0:Int),⟨(by omega),(by omega),(by rw[List.length_replicate]),(by rw[List.length_replicate]),(fun j h1 h2=>by omega),(fun j h1 h2=>by omega)⟩,(G5 rfl rfl rfl rfl rfl),fun _ h=>h⟩
 intro i V K ⟨hi0,hi1,hVl,hKl,hV,hK⟩
 refine wq<|wL Z Z<|aA<|aF<|bR Z (fun hc1=> ?_) (fun hc1=> ?_)
 ·have hbi:=bh_u.rd i
  refine aM<|aF<|aI<|wq<|wm Z<|wy (aB underlying22 sz5 Z Z (h_u.c _) (by omega) (by omega))<|wy (aZ underlying5 Z Z (h_u.c _) (by omega) (by omega))<|wg Z<|wg Z<|aA<|aN<|wm Z<|wm Z<|wm Z ?_
  refine wm Z<|wm Z<|wm Z<|wy (nO underlying5 underlying3 Z (by omega))<|wy (aB underlying52 sz3 Z Z (rdr 1 Z) (by omega) (by omega))<|dK (bD 1 Z sz3 Z Z (by omega) (by omega)) ?_
  rintro _ _ rfl
  refine wy (aB underlying52 sz3 Z Z (rdr 0 Z) (by omega) (by omega))<|dK (bD 0 Z sz3 Z Z (by omega) (by omega)) ?_
  rintro _ _ rfl
  refine aA<|aN<|wA Z Z<|wm Z<|aA ?_
  exact⟨i+1,upd V i i,upd K i (rd u i),⟨(by omega),(by omega),(by rw[aQ];exact hVl),(by rw[aQ];exact hKl),(gQ (f:=fun j=>j) hi0 (by omega) hV Z),(gQ (f:=fun j=>rd u j) hi0 (by omega) hK Z)⟩,(by omega),(G5 Z Z Z Z Z),fun _ h=>h⟩
 ·obtain rfl:V=iota u.length:=bB (by rw[aW];omega) fun j h0 h1=>by rw[nU h0 (by omega)];exact hV j h0 (by omega)
  obtain rfl:u=K:=(bB (by omega) fun j h0 h1=>hK j h0 (by omega):K=u).symm
  refine bF<|wq<|wm Z<|wm Z<|wa (aC aAi Z (Ct.fresh (fun w hw=>KZ ((rdr 1 Z) w hw) ((rdr 0 Z) w hw) (by omega) bh_u (fun i hi=>aO.1 hi) (by rw[aW];omega)))) ?_
  rintro _ _ ⟨_,rfl,A_3,c_4,rfl,rfl⟩
  refine wm Z<|wX Z Z<|wX Z Z<|wg Z<|aA<|wq<|wm Z<|wa (aC VD Z (Ct.fresh (fun w hw=>zB ((rdr 0 Z) w hw) (KW bh_u) (by rw[rD bh_u];omega)))) ?_
  rintro _ _ ⟨_,rfl,A_5,c_6,inv,rfl,hl_inv,hq_inv,rfl⟩
  refine wm Z<|wX Z Z<|wX Z Z<|wg Z<|wg Z<|aA<|wq<|wm Z<|wg Z<|aA<|aY [0] 99 (by decide) Z ?_
  refine⟨_,Z,?_⟩
  obtain rfl:inv=fsL u:=ZX bh_u hl_inv hq_inv
  have el:(bN (iota u.length) u (256:Int).toNat).length=(fsL u).length:=by rw[rD bh_u,nX]
  rw[el]
  exact⟨_,_,Z,Z⟩
theorem UW {u:List Int} (hu:aP u):(fsL u).Perm (iota (fsL u).length):=by
 rw[nX]
 exact qO (fun x h0 h1=>DC (l:=u) hu h0 h1) fun x y x0 x1 y0 y1 e=>UD (l:=u) hu x0 x1 y0 y1 e
set_option maxHeartbeats 1500000 in
theorem PL {w:World} {A_p:Option Addr} {n_p c_p:Nat} {p:List Int} (h_p:Rd w A_p n_p c_p 1 (ints .i64 p)) (hp:p.Perm (iota p.length)) (hN:p.length≤1000000):
  Ct Tryz.prog 183 #[.slice A_p n_p c_p] w.heap.size w [] (fun v R'=> ∃(A:Option Addr) (c:Nat) (vals:List Value) (Rs:List Row),v= .tuple #[.slice A vals.length c, .bool true]∧SlR .i64 Rs vals (bT p)∧R'=⟨52,1,A,vals.length,c,vals,false⟩::Rs):=by
 obtain rfl:=h_p.lenI
 refine fn2 Tryz.func183 Z Z Z ?_
 have m_p:=h_p.max
 refine wq<|wg Z<|wg Z<|aA<|aF<|wq<|wm Z<|wa (aC aAj Z (Ct.quiet (fun w hw=>RY ((h_p.c _) w hw) hp hN))) ?_
 rintro _ _ ⟨rfl,rfl⟩
 refine wy (mE Z)<|aA<|aL Z<|aM<|wq<|wm Z<|wy (aV underlying52 Z)<|wa (AP underlying269 zb4 Z Z (by omega) (by omega) (by omega)) ?_
 rintro _ _ ⟨g_1,rfl,rfl⟩
 refine bY (v:= .slice (GG g_1) p.length p.length) Z<|wg Z<|aA<|wq<|wa (MX [] underlying232 aCj Z Z Z Z) ?_
 rintro _ _ ⟨g_3,rfl,rfl⟩
 refine wg Z<|aA<|aF<|wq<|wm Z<|wy (aV underlying52 Z)<|wm Z<|aA<|aI ?_
 refine WV (fun(i:Int) (A1:Option Addr) (n1:Nat) (c1:Nat) (vals:List Value) (ls:List (List Int)) (E:List Bool) (Rs:List Row)=>[(0, .slice A_p p.length c_p),(4, .slice (GG g_1) p.length p.length),(5, .slice A1 n1 c1),(17,I ((p.length:Nat):Int)),(18,I i)]) (fun(i:Int) (A1:Option Addr) (n1:Nat) (c1:Nat) (vals:List Value) (ls:List (List Int)) (E:List Bool) (Rs:List Row)=>(⟨52,1,A1,n1,c1,vals,false⟩::⟨4,1,(GG g_1),p.length,p.length,bools E,false⟩::Rs)) (fun(i:Int) (A1:Option Addr) (n1:Nat) (c1:Nat) (vals:List Value) (ls:List (List Int)) (E:List Bool) (Rs:List Row)=>(0≤i)∧(i≤p.length)∧(n1=vals.length)∧(SlR .i64 Rs vals ls)∧(eD p i.toNat=(E,ls))) (fun(i:Int) (A1:Option Addr) (n1:Nat) (c1:Nat) (vals:List Value) (ls:List (List Int)) (E:List Bool) (Rs:List Row)=>(p.length-i).toNat) ?_ ?_
 ·exact⟨0,GG g_3,0,0,[],[],List.replicate p.length false,[],⟨(by omega),(by omega),(Z),(SlR.nil _),(Z)⟩,(G5 Z Z Z Z Z),fun _ h=>h⟩
 intro i A1 n1 c1 vals ls E Rs ⟨hi0,hi1,hn1,hsl,hcy⟩
 have hEl:E.length=p.length:=by have h:=(gK hp i.toNat (by omega)).1;rw[hcy] at h;exact h
 have hfew:vals.length≤i.toNat:=by have h:=vU p i.toNat;rw[hcy] at h;rw[hsl.1];exact h
 refine wq<|wL Z Z<|aA<|aF<|bR Z (fun hc1=> ?_) (fun hc1=> ?_)
 ·refine aM<|aF<|aI<|wq<|wm Z<|wg Z<|aA<|wq<|eY (R1:=((ri 3 none 0 0 ([]))::⟨52,1,A1,n1,c1,vals,false⟩::⟨4,1,(GG g_1),p.length,p.length,bools E,false⟩::Rs)) (Sub.refl _) (fun _ h=>h.nil 3 1)<|wg Z<|aA<|aF<|aF ?_
  refine aN<|wm Z<|wg Z<|aA<|aI ?_
  refine WW (fun(k:Int) (A2:Option Addr) (n2:Nat) (c2:Nat) (acc:List Int) (E2:List Bool) (f:Nat)=>[(0, .slice A_p p.length c_p),(4, .slice (GG g_1) p.length p.length),(5, .slice A1 n1 c1),(7, .slice A2 n2 c2),(8,I k),(17,I ((p.length:Nat):Int)),(18,I i)]) (fun(k:Int) (A2:Option Addr) (n2:Nat) (c2:Nat) (acc:List Int) (E2:List Bool) (f:Nat)=>((ri 3 A2 n2 c2 acc)::⟨52,1,A1,n1,c1,vals,false⟩::⟨4,1,(GG g_1),p.length,p.length,bools E2,false⟩::Rs)) (fun(k:Int) (A2:Option Addr) (n2:Nat) (c2:Nat) (acc:List Int) (E2:List Bool) (f:Nat)=>(0≤k)∧(k<p.length)∧(n2=acc.length)∧(E2.length=p.length)∧(cntF E2≤f)∧((acc++(dF p f E2 k).1,(dF p f E2 k).2)=dF p p.length E i)) (fun(k:Int) (A2:Option Addr) (n2:Nat) (c2:Nat) (acc:List Int) (E2:List Bool) (f:Nat)=>f) ?_ ?_
  ·exact⟨i,none,0,0,[],E,p.length,⟨(by omega),(by omega),(Z),(hEl),(by have:cntF E≤E.length:=List.countP_le_length;omega),(Z)⟩,(G7 Z Z Z Z Z Z Z),fun _ h=>h⟩
  intro k A2 n2 c2 acc E2 f ⟨hk0,hk1,hn2,hE2l,hf,hw⟩
  have hal:=GA hp hEl hi0 (by omega) hw
  refine aF<|wq<|wm Z<|wm Z<|wy (aB underlying269 sz4 Z Z (rdr 2 Z) (by omega) (by omega))<|wy (rX underlying4 Z Z (rdr 2 Z) (by omega) (by omega))<|wy (yO Z)<|aA<|bR Z (fun hc2=> ?_) (fun hc2=> ?_)
  ·have hgo:=uI (p:=p) hk0 (by omega) hf hc2
   have hup:=qK hk0 (by omega) hc2
   have hpos:=vX hk0 (by omega) hc2
   have hpk:=aO.1 (hp.subset (bA (L:=p) hk0 hk1))
   refine aM<|aF<|aI<|wq<|wm Z<|wm Z<|wy (aB underlying269 sz4 Z Z (rdr 2 Z) (by omega) (by omega))<|dK (nH 2 Z sz4 Z Z (by omega) (by omega)) ?_
   rintro _ _ rfl
   refine aA<|aN<|wm Z<|wm Z<|wa (bV .i64 [k] underlying52 zs3 Z Z Z) ?_
   rintro _ _ ⟨g_6,rfl,rfl⟩
   refine wa (bX 1 Z underlying52 zb3 Z Z Z (rdr 0 Z) (by omega)) ?_
   rintro _ _ ⟨A_7,c_8,rfl,rfl⟩
   refine bY (v:= .slice A_7 (n2+1) c_8) Z<|wg Z<|aA<|aN<|wm Z<|wm Z<|wy (aB underlying52 sz3 Z Z (h_p.c _) (by omega) (by omega))<|wy (aZ underlying3 Z Z (h_p.c _) (by omega) (by omega))<|wg Z<|aA ?_
   exact⟨rd p k,A_7,n2+1,c_8,acc++([k]),jS E2 k true,(f-1),⟨(by omega),(by omega),(by rw[List.length_append,hn2];rfl),(by rw[gB];exact hE2l),(by omega),(by rw[←hw,hgo];simp only[List.append_assoc,List.singleton_append])⟩,(by omega),(G7 Z Z Z Z Z Z Z),fun _ h=>h.selR (F:=[_,_,_,_]) (F':=[_,_,_]) [1,2,3] (by decide) Z⟩
  ·have hse:dF p p.length E i=(acc,E2):=by rw[←hw,lH (Decidable.not_not.1 hc2),List.append_nil]
   refine bF<|wq<|wm Z<|wy (aV underlying52 Z)<|wy (kU Z Z)<|aA<|bR Z (fun hc3=> ?_) (fun hc3=> ?_)
   ·refine aN<|wm Z<|wm Z<|wa (MX [Value.slice A2 n2 c2] underlying232 aCj Z Z Z Z) ?_
    rintro _ _ ⟨g_10,rfl,rfl⟩
    refine wa (qQ 2 Z Z underlying232 aFc Z Z Z Z Z (rdr 0 Z) (by simp[Value.oneCell']) (by dsimp only;omega)) ?_
    rintro _ _ ⟨A_11,c_12,rfl,rfl⟩
    refine bY (v:= .slice A_11 (n1+1) c_12) Z<|wg Z<|aA<|aN<|wA Z Z<|wm Z<|aA ?_
    exact⟨i+1,A_11,n1+1,c_12,vals++([Value.slice A2 n2 c2]),(ls++[acc]),E2,((ri 3 A2 n2 c2 acc)::Rs),⟨(by omega),(by omega),(by rw[List.length_append,hn1];rfl),(hsl.snoc hn2),(YS hi0 hcy hse (fun e=>by rw[e] at hn2;simp at hn2;omega))⟩,(by omega),(G5 rfl rfl rfl rfl rfl),fun _ h=>h.selR (F:=[_,_,_,_]) (F':=[_,_,_]) [2,3,1] (by decide) rfl⟩
   ·refine aM<|aN<|wA Z Z<|wm Z<|aA ?_
    exact⟨i+1,A1,n1,c1,vals,ls,E2,Rs,⟨(by omega),(by omega),(hn1),(hsl),(aBv hi0 hcy hse (List.eq_nil_of_length_eq_zero (by omega)))⟩,(by omega),(G5 Z Z Z Z Z),fun _ h=>h.selR (F:=[_,_,_]) (F':=[_,_]) [1,2] (by decide) Z⟩
 ·refine bF<|wq<|wm Z<|wg Z<|wg Z<|aA<|aY [0] 2 (by decide) Z ?_
  refine⟨_,_,Z,Z,?_⟩
  obtain rfl:ls=bT p:=by unfold bT;rw[←show i.toNat=p.length by omega,hcy]
  subst hn1
  exact⟨_,_,vals,Rs,Z,hsl,Z⟩
end Go.Proofs.YtdbebmmhdefgdaaGreat

namespace Go.Proofs
open Go.Shelf
def Tryz.laysSlF06_f276_ren:Go.Shelf.Ren:=⟨fun|6=>276|15=>192|14=>304|28=>251|29=>252|20=>329|21=>330|22=>331|23=>332|24=>333|25=>334|26=>335|27=>336|46=>358|47=>282|48=>283|49=>359|50=>360|57=>366|n=>n,fun|22=>228|24=>230|25=>315|3=>3|39=>167|0=>0|53=>123|55=>112|4=>4|46=>289|45=>288|50=>97|5=>5|9=>9|66=>316|70=>320|76=>337|77=>338|n=>n,fun|n=>n⟩
theorem Tryz.laysSlF06_f276:Go.Proofs.SlLaysF0.n6 Tryz.prog Tryz.laysSlF06_f276_ren:= {
 mixed:=by kernel_rfl
 f6:=⟨Tryz.f276.name,by decide,Tryz.func276.trans (congrArg some (by kernel_rfl))⟩
 f14:=⟨Tryz.f304.name,by decide,Tryz.func304.trans (congrArg some (by kernel_rfl))⟩
 f15:=Tryz.func192.trans (congrArg some (by kernel_rfl))
 f20:=⟨Tryz.f329.name,by decide,Tryz.func329.trans (congrArg some (by kernel_rfl))⟩
 f21:=⟨Tryz.f330.name,by decide,Tryz.func330.trans (congrArg some (by kernel_rfl))⟩
 f22:=⟨Tryz.f331.name,by decide,Tryz.func331.trans (congrArg some (by kernel_rfl))⟩
 f23:=⟨Tryz.f332.name,by decide,Tryz.func332.trans (congrArg some (by kernel_rfl))⟩
 f24:=⟨Tryz.f333.name,by decide,Tryz.func333.trans (congrArg some (by kernel_rfl))⟩
 f25:=⟨Tryz.f334.name,by decide,Tryz.func334.trans (congrArg some (by kernel_rfl))⟩
 f26:=⟨Tryz.f335.name,by decide,Tryz.func335.trans (congrArg some (by kernel_rfl))⟩
 f27:=⟨Tryz.f336.name,by decide,Tryz.func336.trans (congrArg some (by kernel_rfl))⟩
 f28:=Tryz.func251.trans (congrArg some (by kernel_rfl))
 f29:=Tryz.func252.trans (congrArg some (by kernel_rfl))
 f46:=⟨Tryz.f358.name,by decide,Tryz.func358.trans (congrArg some (by kernel_rfl))⟩
 f47:=Tryz.func282.trans (congrArg some (by kernel_rfl))
 f48:=Tryz.func283.trans (congrArg some (by kernel_rfl))
 f49:=⟨Tryz.f359.name,by decide,Tryz.func359.trans (congrArg some (by kernel_rfl))⟩
 f50:=⟨Tryz.f360.name,by decide,Tryz.func360.trans (congrArg some (by kernel_rfl))⟩
 f57:=⟨Tryz.f366.name,by decide,Tryz.func366.trans (congrArg some (by kernel_rfl))⟩
 t0:=Tryz.underlying0
 a0:=Tryz.isAgg0
 z0:=Tryz.sizeOf0
 v0:=Tryz.zeroValue0
 t3:=Tryz.underlying3
 a3:=Tryz.isAgg3
 z3:=Tryz.sizeOf3
 v3:=Tryz.zeroValue3
 t4:=Tryz.underlying4
 a4:=Tryz.isAgg4
 z4:=Tryz.sizeOf4
 v4:=Tryz.zeroValue4
 t5:=Tryz.underlying5
 a5:=Tryz.isAgg5
 z5:=Tryz.sizeOf5
 v5:=Tryz.zeroValue5
 t9:=Tryz.underlying9
 a9:=Tryz.isAgg9
 z9:=Tryz.sizeOf9
 v9:=Tryz.zeroValue9
 t22:=Tryz.underlying228
 a22:=Tryz.isAgg228
 z22:=Tryz.sizeOf228
 v22:=Tryz.zeroValue228
 t25:=Tryz.underlying315
 a25:=Tryz.isAgg315
 z25:=Tryz.sizeOf315
 v25:=Tryz.zeroValue315
 t39:=Tryz.underlying167
 a39:=Tryz.isAgg167
 z39:=Tryz.sizeOf167
 v39:=Tryz.zeroValue167
 t45:=Tryz.underlying288
 a45:=Tryz.isAgg288
 z45:=Tryz.sizeOf288
 v45:=Tryz.zeroValue288
 t46:=Tryz.underlying289
 a46:=Tryz.isAgg289
 z46:=Tryz.sizeOf289
 v46:=Tryz.zeroValue289
 t50:=Tryz.underlying97
 a50:=Tryz.isAgg97
 z50:=Tryz.sizeOf97
 v50:=Tryz.zeroValue97
 t53:=Tryz.underlying123
 a53:=Tryz.isAgg123
 z53:=Tryz.sizeOf123
 v53:=Tryz.zeroValue123
 t55:=Tryz.underlying112
 a55:=Tryz.isAgg112
 z55:=Tryz.sizeOf112
 v55:=Tryz.zeroValue112
 t66:=Tryz.underlying316
 a66:=Tryz.isAgg316
 z66:=Tryz.sizeOf316
 v66:=Tryz.zeroValue316
 t70:=Tryz.underlying320
 a70:=Tryz.isAgg320
 z70:=Tryz.sizeOf320
 v70:=Tryz.zeroValue320
 t76:=Tryz.underlying337
 a76:=Tryz.isAgg337
 z76:=Tryz.sizeOf337
 v76:=Tryz.zeroValue337
 t77:=Tryz.underlying338
 a77:=Tryz.isAgg338
 z77:=Tryz.sizeOf338
 v77:=Tryz.zeroValue338}
open Go.RowKit Go.Lib Go.Sort in
theorem Tryz.slices_SortFunc {α:Type} [Inhabited α] (k:Nat) (aE: ∀w,(isAgg 230).run Tryz.prog w= .ok true w) (zE: ∀w,(Go.sizeOf 230).run Tryz.prog w= .ok k w) (enc:α→List Value) (hk: ∀x,(enc x).length=k) (h1: ∀x,∀v∈enc x,v.oneCell'=true) (cf:α→α→Int) (hO:SWO (ltOf cf)) (g:Nat) (cb:Array Value) (blk off cap:Nat) (d:Array α) (w:World) (eg: ∀args w,(callFunc g args).run Tryz.prog w= .ok (.enter g args) w) (hcmp:CmpLays Tryz.prog g cb enc k cf blk off d.size w) (hH:HoldsK enc k w blk off d) (hblk:blk<w.heap.size) (hsz:d.size<4611686018427387904):
  Calls Tryz.prog 276 #[.slice (some ⟨blk,off,none⟩) d.size cap, .func (.func g) #[] cb] w fun e w'=>
   e= .returned (.tuple #[])∧ ∃d' n os,PermIn 0 d.size d d'∧SortedIn (ltOf cf) 0 d.size d'∧w'=sortWorldK enc k w blk off n d' os:=AnyQ.slices_SortFunc Tryz.laysSlF06_f276 k aE zE enc hk h1 cf hO g cb blk off cap d w eg hcmp hH hblk hsz
end Go.Proofs

namespace Go.Proofs.YtdbebmmhdefgdaaGreat
open Go Go.Eng Go.Pure
open Tryz
set_option linter.unusedVariables false
set_option maxRecDepth 100000
theorem aBc {w:World} {A_l:Option Addr} {n_l c_l:Nat} {l:List Int} (h_l:Rd w A_l n_l c_l 1 (ints .i64 l)):
  Ct Tryz.prog 119 #[.slice A_l n_l c_l] w.heap.size w [] (fun v R'=>v=I (orL l)):=by
 obtain rfl:=h_l.lenI
 refine fn1 Tryz.func119 Z Z Z ?_
 have m_l:=h_l.max
 refine wq<|wg Z<|aA<|wq<|wg Z<|aA<|aF<|wq<|wm Z<|wy (aV underlying52 Z)<|wm Z<|aA ?_
 refine aI ?_
 refine yS (fun(k:Int)=>[(3,I 0),(6, .slice A_l l.length c_l),(7,I ((l.length:Nat):Int)),(8,I k)]) (fun(k:Int)=>[]) (fun(k:Int)=>(0≤k)∧(k≤l.length)∧(orL l=orL (l.drop k.toNat))) (fun(k:Int)=>(l.length-k).toNat) ?_ ?_
 ·exact⟨0,⟨(by omega),(by omega),(Z)⟩,(G4 Z Z Z Z),fun _ h=>h⟩
 intro k ⟨hk0,hk1,ho⟩
 refine wq<|wL Z Z<|aA<|aF<|bR Z (fun hc1=> ?_) (fun hc1=> ?_)
 ·refine aM<|aF<|aI<|wq<|wy (aB underlying52 sz3 Z Z (h_l.c _) (by omega) (by omega))<|wy (aZ underlying3 Z Z (h_l.c _) (by omega) (by omega))<|wg Z<|aA<|wq<|wm Z<|wm Z<|wy (qW Z Z)<|aA ?_
  refine bR Z (fun hc2=> ?_) (fun hc2=> ?_)
  ·refine wq<|wm Z<|wg Z<|aA<|fC ?_
   refine⟨_,Z,?_⟩
   exact congrArg (Value.int .i64) (by rw[ho,XW hk0 (by omega) (by omega)])
  ·refine aM<|aN<|wA Z Z<|wm Z<|aA ?_
   exact⟨k+1,⟨(by omega),(by omega),(by rw[ho,aBb hk0 (by omega) (by omega)])⟩,(by omega),(G4 Z Z Z Z),fun _ h=>h⟩
 ·refine bF<|wq<|wm Z<|wg Z<|aA<|fC ?_
  refine⟨_,Z,?_⟩
  exact congrArg (Value.int .i64) (by rw[ho,List.drop_of_length_le (by omega)];rfl)
theorem nG {w:World} {g_s:Nat} {A_w A_t A_b A_r:Option Addr} {n_t c_w c_t c_b c_r:Nat} {vals_w:List Value} {ws:List (List Int)} {bs rs:List Int} {t1 t2:Int} {h:Int} (h_s:Rd w (GG g_s) 1 1 4 [.slice A_w ws.length c_w, .slice A_t n_t c_t, .slice A_b bs.length c_b, .slice A_r rs.length c_r]) (h_w:Rd w A_w ws.length c_w 1 vals_w) (s_w:SlW .u8 w vals_w ws) (h_b:Rd w A_b bs.length c_b 1 (ints .i64 bs)) (h_r:Rd w A_r rs.length c_r 1 (ints .i64 rs)) (ha_t:0≤t1∧t1<ws.length∧t1<bs.length) (hb_t:0≤t2∧t2≤1000000) (hc_t:0<(rdl ws t1).length) (hd_t:0≤rd bs t1∧rd bs t1+(rdl ws t1).length≤rs.length) (hh:0≤h∧h≤1000000):
  Ct Tryz.prog 279 #[.pointer (GG g_s), .agg #[I t1,I t2],I h] w.heap.size w [] (fun v R'=>v=I (ahd ws bs rs (t1,t2) h)):=by
 refine fn1 Tryz.func279 Z Z Z ?_
 have m_r:=h_r.max
 have m_b:=h_b.max
 have m_w:=h_w.max
 have e1:=Int.emod_nonneg (t2+h) (show((rdl ws t1).length:Int)≠0 by omega)
 have e2:=Int.emod_lt_of_pos (t2+h) (show(0:Int)<((rdl ws t1).length:Int) by omega)
 refine wq<|wa (dZ (sz:=2) Z Z) ?_
 rintro _ _ ⟨g_1,rfl,rfl⟩
 refine wg Z<|aA<|aF<|dQ mixed<|wD 0 Z (aJ Z)<|wD 1 Z (aH Z)<|wD 2 Z (aG (off:=3) (m:=3) underlying281 Z fV Z Z Z)<|wD 3 Z (aK (h_s.c _) underlying52 Z Z Z)<|wD 4 Z (aJ Z)<|wD 5 Z (aH Z)<|wD 6 Z (aG (off:=2) (m:=2) underlying281 Z fV Z Z Z)<|wD 7 Z (aK (h_s.c _) underlying52 Z Z Z)<|wD 8 Z (cK (q:=0) (rdR 0 (r:=⟨230,2,(GG g_1),1,1,[I t1,I t2],false⟩) Z) underlying230 sz3 Z Z (Nat.le_of_ble_eq_true Z) (by decide) (by decide) Z)<|wD 9 Z (aK (rdR 0 (r:=⟨230,2,(GG g_1),1,1,[I t1,I t2],false⟩) Z) underlying3 Z Z Z)<|wD 10 Z (aB underlying52 sz3 Z Z (h_b.c _) (by omega) (by omega)) ?_
 refine wD 11 Z (aZ underlying3 Z Z (h_b.c _) (by omega) (by omega))<|wD 12 Z (cK (q:=1) (rdR 0 (r:=⟨230,2,(GG g_1),1,1,[I t1,I t2],false⟩) Z) underlying230 sz3 Z Z (Nat.le_of_ble_eq_true Z) (by decide) (by decide) Z)<|wD 13 Z (aK (rdR 0 (r:=⟨230,2,(GG g_1),1,1,[I t1,I t2],false⟩) Z) underlying3 Z Z Z)<|wD 14 Z (aJ Z)<|wD 15 Z (jR Z Z (by omega))<|wD 16 Z (aJ Z)<|wD 17 Z (aH Z)<|wD 18 Z (aG (off:=0) (m:=0) underlying281 Z aFh Z Z Z)<|wD 19 Z (aK (h_s.c _) underlying23 Z Z Z)<|wD 20 Z (cK (q:=0) (rdR 0 (r:=⟨230,2,(GG g_1),1,1,[I t1,I t2],false⟩) Z) underlying230 sz3 Z Z (Nat.le_of_ble_eq_true Z) (by decide) (by decide) Z)<|wD 21 Z (aK (rdR 0 (r:=⟨230,2,(GG g_1),1,1,[I t1,I t2],false⟩) Z) underlying3 Z Z Z)<|wD 22 Z (aB underlying23 jC Z Z (h_w.c _) (by omega) (by omega)) ?_
 obtain⟨A_3,c_4,hv_5,hr_6,hb_7,mhr_6⟩:=s_w.at (i:=t1) (by omega) (by omega)
 refine wD 23 Z (FT underlying22 Z Z Z (h_w.c _) hv_5)<|wD 24 Z (aV underlying22 Z)<|wD 25 Z (ZM Z Z (by omega) (by omega))<|wD 26 Z (jR Z Z (by omega))<|wD 27 Z (aB underlying52 sz3 Z Z (h_r.c _) (by omega) (by omega))<|wD 28 Z (aZ underlying3 Z Z (h_r.c _) (by omega) (by omega))<|wD 29 Z (iU Z)<|dD (by kernel_rfl)<|aY [] 99 (by decide) Z ?_
 refine⟨_,Z,?_⟩
 rfl
theorem zI {w:World} {g_s:Nat} {A_w A_t A_b A_r:Option Addr} {n_t c_w c_t c_b c_r:Nat} {vals_w:List Value} {ws:List (List Int)} {bs rs:List Int} {t1 t2:Int} (h_s:Rd w (GG g_s) 1 1 4 [.slice A_w ws.length c_w, .slice A_t n_t c_t, .slice A_b bs.length c_b, .slice A_r rs.length c_r]) (h_w:Rd w A_w ws.length c_w 1 vals_w) (s_w:SlW .u8 w vals_w ws) (h_b:Rd w A_b bs.length c_b 1 (ints .i64 bs)) (h_r:Rd w A_r rs.length c_r 1 (ints .i64 rs)) (ha_t:0≤t1∧t1<ws.length∧t1<bs.length) (hb_t:0≤t2∧t2≤1000000) (hc_t:0<(rdl ws t1).length) (hd_t:0≤rd bs t1∧rd bs t1+(rdl ws t1).length≤rs.length):
  Ct Tryz.prog 278 #[.pointer (GG g_s), .agg #[I t1,I t2]] w.heap.size w [] (fun v R'=>v=I (ahd ws bs rs (t1,t2) 0)):=by
 refine fn1 Tryz.func278 Z Z Z ?_
 have m_r:=h_r.max
 have m_b:=h_b.max
 have m_w:=h_w.max
 refine wq<|wa (dZ (sz:=2) Z Z) ?_
 rintro _ _ ⟨g_1,rfl,rfl⟩
 refine wg Z<|aA<|wq<|wm Z<|wy (iP (vs:=[I t1,I t2]) (rdR 0 (r:=⟨230,2,(GG g_1),1,1,[I t1,I t2],false⟩) Z) underlying230 Z iF Z Z (Nat.le_of_ble_eq_true Z) Z)<|wa (aC EI Z (Ct.quiet (fun w hw=>nG ((h_s.c _) w hw) ((h_w.c _) w hw) (s_w.c hw) ((h_b.c _) w hw) ((h_r.c _) w hw) (by first|assumption|omega|decide) (by first|assumption|omega|decide) (by first|assumption|omega|decide) (by first|assumption|omega|decide) (by first|assumption|omega|decide)))) ?_
 rintro _ _ ⟨rfl,rfl⟩
 refine wg Z<|aA<|aY [] 99 (by decide) Z ?_
 refine⟨_,Z,?_⟩
 rfl
theorem GH {w:World} {t1 t2:Int} {u1 u2:Int} {g_s:Nat} {A_w A_t A_b A_r:Option Addr} {n_t c_w c_t c_b c_r:Nat} {vals_w:List Value} {ws:List (List Int)} {bs rs:List Int} {g_p:Nat} {g_h:Nat} {h:Int} (h_s:Rd w (GG g_s) 1 1 4 [.slice A_w ws.length c_w, .slice A_t n_t c_t, .slice A_b bs.length c_b, .slice A_r rs.length c_r]) (h_w:Rd w A_w ws.length c_w 1 vals_w) (s_w:SlW .u8 w vals_w ws) (h_b:Rd w A_b bs.length c_b 1 (ints .i64 bs)) (h_r:Rd w A_r rs.length c_r 1 (ints .i64 rs)) (h_p:Rd w (GG g_p) 1 1 1 [.pointer (GG g_s)]) (h_h:Rd w (GG g_h) 1 1 1 [I h]) (ha_t:0≤t1∧t1<ws.length∧t1<bs.length) (hb_t:0≤t2∧t2≤1000000) (hc_t:0<(rdl ws t1).length) (hd_t:0≤rd bs t1∧rd bs t1+(rdl ws t1).length≤rs.length) (ha_u:0≤u1∧u1<ws.length∧u1<bs.length) (hb_u:0≤u2∧u2≤1000000) (hc_u:0<(rdl ws u1).length) (hd_u:0≤rd bs u1∧rd bs u1+(rdl ws u1).length≤rs.length) (hh:0≤h∧h≤1000000):
  Ct Tryz.prog 277 #[.agg #[I t1,I t2], .agg #[I u1,I u2], .pointer (GG g_p), .pointer (GG g_h)] w.heap.size w [] (fun v R'=>v=I (GK ws bs rs h (t1,t2) (u1,u2))):=by
 refine fn1 Tryz.func277 Z Z Z ?_
 have m_r:=h_r.max
 have m_b:=h_b.max
 have m_w:=h_w.max
 refine wq<|wa (dZ (sz:=2) Z Z) ?_
 rintro _ _ ⟨g_1,rfl,rfl⟩
 refine wa (dZ (sz:=2) Z Z) ?_
 rintro _ _ ⟨g_3,rfl,rfl⟩
 refine wg Z<|aA<|aF<|dQ mixed<|wD 0 Z (aK (h_p.c _) underlying279 Z Z Z)<|wD 1 Z (iP (vs:=[I t1,I t2]) (rdR 1 (r:=⟨230,2,(GG g_1),1,1,[I t1,I t2],false⟩) Z) underlying230 Z iF Z Z (Nat.le_of_ble_eq_true Z) Z)<|wD 3 Z (aK (h_p.c _) underlying279 Z Z Z)<|wD 4 Z (iP (vs:=[I u1,I u2]) (rdR 0 (r:=⟨230,2,(GG g_3),1,1,[I u1,I u2],false⟩) Z) underlying230 Z iF Z Z (Nat.le_of_ble_eq_true Z) Z)<|wD 7 Z (aK (h_p.c _) underlying279 Z Z Z)<|wD 8 Z (iP (vs:=[I t1,I t2]) (rdR 1 (r:=⟨230,2,(GG g_1),1,1,[I t1,I t2],false⟩) Z) underlying230 Z iF Z Z (Nat.le_of_ble_eq_true Z) Z)<|wD 9 Z (aK (h_h.c _) underlying3 Z Z Z)<|wD 11 Z (aK (h_p.c _) underlying279 Z Z Z)<|wD 12 Z (iP (vs:=[I u1,I u2]) (rdR 0 (r:=⟨230,2,(GG g_3),1,1,[I u1,I u2],false⟩) Z) underlying230 Z iF Z Z (Nat.le_of_ble_eq_true Z) Z)<|wD 13 Z (aK (h_h.c _) underlying3 Z Z Z)<|wD 16 Z (cK (q:=0) (rdR 1 (r:=⟨230,2,(GG g_1),1,1,[I t1,I t2],false⟩) Z) underlying230 sz3 Z Z (Nat.le_of_ble_eq_true Z) (by decide) (by decide) Z) ?_
 refine wD 17 Z (aK (rdR 1 (r:=⟨230,2,(GG g_1),1,1,[I t1,I t2],false⟩) Z) underlying3 Z Z Z)<|wD 18 Z (cK (q:=0) (rdR 0 (r:=⟨230,2,(GG g_3),1,1,[I u1,I u2],false⟩) Z) underlying230 sz3 Z Z (Nat.le_of_ble_eq_true Z) (by decide) (by decide) Z)<|wD 19 Z (aK (rdR 0 (r:=⟨230,2,(GG g_3),1,1,[I u1,I u2],false⟩) Z) underlying3 Z Z Z)<|wD 21 Z (cK (q:=1) (rdR 1 (r:=⟨230,2,(GG g_1),1,1,[I t1,I t2],false⟩) Z) underlying230 sz3 Z Z (Nat.le_of_ble_eq_true Z) (by decide) (by decide) Z)<|wD 22 Z (aK (rdR 1 (r:=⟨230,2,(GG g_1),1,1,[I t1,I t2],false⟩) Z) underlying3 Z Z Z)<|wD 23 Z (cK (q:=1) (rdR 0 (r:=⟨230,2,(GG g_3),1,1,[I u1,I u2],false⟩) Z) underlying230 sz3 Z Z (Nat.le_of_ble_eq_true Z) (by decide) (by decide) Z)<|wD 24 Z (aK (rdR 0 (r:=⟨230,2,(GG g_3),1,1,[I u1,I u2],false⟩) Z) underlying3 Z Z Z)<|kF 2 Z (by kernel_rfl) Z (aC MG Z (Ct.quiet (fun w hw=>zI ((h_s.c _) w hw) ((h_w.c _) w hw) (s_w.c hw) ((h_b.c _) w hw) ((h_r.c _) w hw) (by first|assumption|omega|decide) (by first|assumption|omega|decide) (by first|assumption|omega|decide) (by first|assumption|omega|decide)))) ?_
 rintro _ _ ⟨rfl,rfl⟩
 refine⟨.inr fun _ h=>h,?_⟩
 refine kF 5 Z (by kernel_rfl) Z (aC MG Z (Ct.quiet (fun w hw=>zI ((h_s.c _) w hw) ((h_w.c _) w hw) (s_w.c hw) ((h_b.c _) w hw) ((h_r.c _) w hw) (by first|assumption|omega|decide) (by first|assumption|omega|decide) (by first|assumption|omega|decide) (by first|assumption|omega|decide)))) ?_
 rintro _ _ ⟨rfl,rfl⟩
 refine⟨.inr fun _ h=>h,?_⟩
 refine kF 6 Z (by kernel_rfl) Z (aC MH Z (Ct.quiet (fun w hw=>kK))) ?_
 rintro _ _ ⟨rfl,rfl⟩
 refine⟨.inr fun _ h=>h,?_⟩
 refine kF 10 Z (by kernel_rfl) Z (aC EI Z (Ct.quiet (fun w hw=>nG ((h_s.c _) w hw) ((h_w.c _) w hw) (s_w.c hw) ((h_b.c _) w hw) ((h_r.c _) w hw) (by first|assumption|omega|decide) (by first|assumption|omega|decide) (by first|assumption|omega|decide) (by first|assumption|omega|decide) (by first|assumption|omega|decide)))) ?_
 rintro _ _ ⟨rfl,rfl⟩
 refine⟨.inr fun _ h=>h,?_⟩
 refine kF 14 Z (by kernel_rfl) Z (aC EI Z (Ct.quiet (fun w hw=>nG ((h_s.c _) w hw) ((h_w.c _) w hw) (s_w.c hw) ((h_b.c _) w hw) ((h_r.c _) w hw) (by first|assumption|omega|decide) (by first|assumption|omega|decide) (by first|assumption|omega|decide) (by first|assumption|omega|decide) (by first|assumption|omega|decide)))) ?_
 rintro _ _ ⟨rfl,rfl⟩
 refine⟨.inr fun _ h=>h,?_⟩
 refine kF 15 Z (by kernel_rfl) Z (aC MH Z (Ct.quiet (fun w hw=>kK))) ?_
 rintro _ _ ⟨rfl,rfl⟩
 refine⟨.inr fun _ h=>h,?_⟩
 refine kF 20 Z (by kernel_rfl) Z (aC MH Z (Ct.quiet (fun w hw=>kK))) ?_
 rintro _ _ ⟨rfl,rfl⟩
 refine⟨.inr fun _ h=>h,?_⟩
 refine kF 25 Z (by kernel_rfl) Z (aC MH Z (Ct.quiet (fun w hw=>kK))) ?_
 rintro _ _ ⟨rfl,rfl⟩
 refine⟨.inr fun _ h=>h,?_⟩
 refine kF 26 Z (by kernel_rfl) Z (bV .i64 [gF (ahd ws bs rs (t1,t2) 0) (ahd ws bs rs (u1,u2) 0),gF (ahd ws bs rs (t1,t2) h) (ahd ws bs rs (u1,u2) h),gF t1 u1,gF t2 u2] underlying52 zs3 Z Z Z) ?_
 rintro _ _ ⟨g_6,rfl,rfl⟩
 refine⟨.inr fun _ h=>h.right (R':=[_]),?_⟩
 refine kF 27 Z (by kernel_rfl) Z (aC aEc Z (Ct.quiet (fun w hw=>aBc ((rdr 0 Z) w hw)))) ?_
 rintro _ _ ⟨rfl,rfl⟩
 refine⟨.inr fun _ h=>h,?_⟩
 refine wD 28 Z (iU Z)<|dD (by kernel_rfl)<|aY [] 99 (by decide) Z ?_
 refine⟨_,Z,?_⟩
 rfl
theorem GN (cb:Array Value):MZ Tryz.prog 276 277 cb:=fun α _ enc hk h1 cf hO blk off cap d w hcmp hH hblk hsz=>
 Tryz.slices_SortFunc 2 (fun w=>by kernel_rfl) (fun w=>by kernel_rfl) enc hk h1 cf hO 277 cb blk off cap d w aDm hcmp hH hblk hsz
theorem JI {B:Nat} {w0:World} {R:List Row} {g_s:Nat} {A_w A_t A_b A_r A_o:Option Addr} {n_t n_o n_b n_r c_w c_t c_b c_r c_o:Nat} {vals_w:List Value} {ws:List (List Int)} {bs rs:List Int} {ts:List (Int × Int)} {h:Int} (hno:n_o=ts.length) (hnb:n_b=bs.length) (hnr:n_r=rs.length) (hrw:RdC B w0 R A_w ws.length c_w 1 vals_w) (hsw: ∀w,Hp B w0 w R→SlW .u8 w vals_w ws) (hv: ∀t∈ts,TOk ws bs rs.length t) (hinj: ∀t∈ts,∀u∈ts,dO bs t=dO bs u→t=u) (hnd:ts.Nodup) (hne:ts≠[]) (hN:rs.length≤1000000∧ts.length≤1000000) (hh:0≤h∧h≤1000000):
  Ct Tryz.prog 238 #[.pointer (GG g_s), .slice A_o n_o c_o,I h] B w0 (⟨281,4,(GG g_s),1,1,[.slice A_w ws.length c_w, .slice A_t n_t c_t, .slice A_b n_b c_b, .slice A_r n_r c_r],false⟩::⟨230,2,A_o,n_o,c_o,prs ts,false⟩::(ri 3 A_b n_b c_b bs)::(ri 3 A_r n_r c_r rs)::R) (fun v R'=> ∃(l1:List (Int × Int)) (rk:List Int) (A':Option Addr) (c':Nat),v=I (dP ws bs rs h l1 (l1.length-1))∧l1.Perm ts∧l1.Pairwise (fun x y=> ¬GK ws bs rs h y x<0)∧rk.length=rs.length∧(∀j:Nat,j<l1.length→rd rk (dO bs (rdp l1 j))=dP ws bs rs h l1 j)∧R'=⟨281,4,(GG g_s),1,1,[.slice A_w ws.length c_w, .slice A_t n_t c_t, .slice A_b n_b c_b, .slice A' n_r c'],false⟩::⟨230,2,A_o,n_o,c_o,prs l1,false⟩::(ri 3 A_b n_b c_b bs)::(ri 3 A' n_r c' rk)::R):=by
 subst hno;subst hnb;subst hnr
 refine fn1 Tryz.func238 Z Z Z ?_
 have hinj1: ∀t∈ts,0≤dO bs t:=fun t ht=>by have:=hv t ht;unfold TOk at this;unfold dO;omega
 refine wq<|wa (dZ (sz:=1) Z Z) ?_
 rintro _ _ ⟨g_1,rfl,rfl⟩
 refine wa (dZ (sz:=1) Z Z) ?_
 rintro _ _ ⟨g_3,rfl,rfl⟩
 refine wg Z<|aA<|wq<|wm Z<|wy (jQ Z Z)<|wa (aC aDn Z (GQ (GN _) 3 Z hne (by omega) (GK ws bs rs h) (QY ws bs rs h) (fun W hW x hx y hy=>GH ((rdR 2 (r:=⟨281,4,(GG g_s),1,1,[.slice A_w ws.length c_w, .slice A_t n_t c_t, .slice A_b bs.length c_b, .slice A_r rs.length c_r],false⟩) Z) W hW) ((RdC.right hrw [_,_,_,_,_]) W hW) (hsw W (Hp.right (R':=[_,_,_,_,_]) hW)) ((rdR 3 (r:=(ri 3 A_b bs.length c_b bs)) Z) W hW) ((rdR 4 (r:=(ri 3 A_r rs.length c_r rs)) Z) W hW) ((rdR 1 (r:=⟨279,1,(GG g_1),1,1,[.pointer (GG g_s)],false⟩) Z) W hW) ((rdR 0 (r:=⟨3,1,(GG g_3),1,1,[I h],false⟩) Z) W hW) (hv x hx).1 (by have:=(hv x hx).2.1;omega) (hv x hx).2.2.1 (hv x hx).2.2.2 (hv y hy).1 (by have:=(hv y hy).2.1;omega) (hv y hy).2.2.1 (hv y hy).2.2.2 hh))) ?_
 rintro _ _ ⟨rfl,l1,hp1,hs1,rfl⟩
 have hl1:=hp1.length_eq
 have hv1: ∀t∈l1,TOk ws bs rs.length t:=fun t ht=>hv t (hp1.mem_iff.1 ht)
 have hnd1:=hp1.nodup_iff.2 hnd
 refine aA<|wq<|wy (aK (rdR 1 (r:=⟨279,1,(GG g_1),1,1,[.pointer (GG g_s)],false⟩) Z) underlying279 Z Z Z)<|wy (aH Z)<|wy (aG (off:=3) (m:=3) underlying281 Z fV Z Z Z)<|wy (aK (rdR 2 (r:=⟨281,4,(GG g_s),1,1,[.slice A_w ws.length c_w, .slice A_t n_t c_t, .slice A_b bs.length c_b, .slice A_r rs.length c_r],false⟩) Z) underlying52 Z Z Z)<|wy (aV underlying52 Z)<|wa (dY underlying52 zb3 Z Z (by omega) (by omega) (by omega)) ?_
 rintro _ _ ⟨g_5,rfl,rfl⟩
 refine bY (v:= .slice (GG g_5) rs.length rs.length) Z<|wg Z<|aA<|wq<|wg Z<|aA<|aF<|wq<|wm Z<|wy (aV underlying228 Z)<|wm Z<|aA<|aI ?_
 refine gV (fun(i:Int) (n:Int) (rk:List Int)=>[(1, .slice A_o ts.length c_o),(3, .pointer (GG g_1)),(5, .pointer (GG g_3)),(7, .slice (GG g_5) rs.length rs.length),(8,I n),(21, .slice A_o ts.length c_o),(22,I ((ts.length:Nat):Int)),(23,I i)]) (fun(i:Int) (n:Int) (rk:List Int)=>((ri 3 (GG g_5) rs.length rs.length rk)::⟨3,1,(GG g_3),1,1,[I h],false⟩::⟨279,1,(GG g_1),1,1,[.pointer (GG g_s)],false⟩::⟨281,4,(GG g_s),1,1,[.slice A_w ws.length c_w, .slice A_t n_t c_t, .slice A_b bs.length c_b, .slice A_r rs.length c_r],false⟩::⟨230,2,A_o,ts.length,c_o,prs l1,false⟩::(ri 3 A_b bs.length c_b bs)::(ri 3 A_r rs.length c_r rs)::R)) (fun(i:Int) (n:Int) (rk:List Int)=>(0≤i)∧(i≤l1.length)∧(0≤n∧n≤i)∧(n=dP ws bs rs h l1 (i-1).toNat)∧(rk.length=rs.length)∧(∀j:Nat,j<i→rd rk (dO bs (rdp l1 j))=dP ws bs rs h l1 j)) (fun(i:Int) (n:Int) (rk:List Int)=>(l1.length-i).toNat) ?_ ?_
 ·exact⟨0,0,List.replicate rs.length (0:Int),⟨(by omega),(by omega),(by omega),(Z),(by rw[List.length_replicate]),(fun j hj=>by omega)⟩,(G8 rfl rfl rfl rfl rfl rfl rfl rfl),fun _ h=>h⟩
 intro i n rk ⟨hi0,hi1,hn0,hn,hkl,hrk⟩
 refine wq<|wL Z Z<|aA<|aF<|bR Z (fun hc1=> ?_) (fun hc1=> ?_)
 ·have hq:=hv1 _ (gW hi0 (show i<l1.length by omega))
  obtain⟨⟨q1,q2,q3⟩,⟨q4,q5,q6⟩,q7,q8,q9⟩:=hq
  have hps: ∀t∈l1,0≤dO bs t:=fun t ht=>hinj1 t (hp1.mem_iff.1 ht)
  have hij: ∀t∈l1,∀u∈l1,dO bs t=dO bs u→t=u:=fun t ht u hu=>hinj t (hp1.mem_iff.1 ht) u (hp1.mem_iff.1 hu)
  refine aM<|aF<|aI<|wq<|wm Z<|wy (gU underlying228 iF Z Z (rdr 4 Z) Z (by omega) (by omega))<|wy (wW underlying230 Z iF Z (rdr 4 Z) (by omega) (by omega))<|wa (jJ (sz:=2) QD Z) ?_
  rintro _ _ ⟨g_7,rfl,rfl⟩
  refine wg Z<|dK (iN (vs:=[I ((rdp l1 i).1),I ((rdp l1 i).2)]) 0 Z iF Z Z Z (by intro v hv;simp at hv;rcases hv with rfl|rfl<;>rfl) Z) ?_
  rintro _ _ rfl
  refine aA<|aF<|wq<|wm Z<|wy (kU Z Z)<|aA<|bR Z (fun hc2=> ?_) (fun hc2=> ?_)
  ·have hq':=hv1 _ (gW (show 0≤i-1 by omega) (show i-1<l1.length by omega))
   obtain⟨⟨p1,p2,p3⟩,⟨p4,p5,p6⟩,p7,p8,p9⟩:=hq'
   refine wq<|wm Z<|wm Z<|wS Z Z<|wy (gU underlying228 iF Z Z (rdr 5 Z) Z (by omega) (by omega))<|wy (wW underlying230 Z iF Z (rdr 5 Z) (by omega) (by omega))<|wa (jJ (sz:=2) QD Z) ?_
   rintro _ _ ⟨g_9,rfl,rfl⟩
   refine dK (iN (vs:=[I ((rdp l1 (i-1)).1),I ((rdp l1 (i-1)).2)]) 0 Z iF Z Z Z (by intro v hv;simp at hv;rcases hv with rfl|rfl<;>rfl) Z) ?_
   rintro _ _ rfl
   refine aA ?_
   refine KD [(1, .slice A_o ts.length c_o),(3, .pointer (GG g_1)),(5, .pointer (GG g_3)),(7, .slice (GG g_5) rs.length rs.length),(8,I n),(10, .pointer (GG g_7)),(21, .slice A_o ts.length c_o),(22,I ((ts.length:Nat):Int)),(23,I i),(52, .bool (decide (((ahd ws bs rs (((rdp l1 (i-1)).1),((rdp l1 (i-1)).2)) 0)≠(ahd ws bs rs (((rdp l1 i).1),((rdp l1 i).2)) 0))∨((ahd ws bs rs (((rdp l1 (i-1)).1),((rdp l1 (i-1)).2)) h)≠(ahd ws bs rs (((rdp l1 i).1),((rdp l1 i).2)) h)))))] (⟨230,2,(GG g_9),1,1,[I ((rdp l1 (i-1)).1),I ((rdp l1 (i-1)).2)],false⟩::⟨230,2,(GG g_7),1,1,[I ((rdp l1 i).1),I ((rdp l1 i).2)],false⟩::(ri 3 (GG g_5) rs.length rs.length rk)::⟨3,1,(GG g_3),1,1,[I h],false⟩::⟨279,1,(GG g_1),1,1,[.pointer (GG g_s)],false⟩::⟨281,4,(GG g_s),1,1,[.slice A_w ws.length c_w, .slice A_t n_t c_t, .slice A_b bs.length c_b, .slice A_r rs.length c_r],false⟩::⟨230,2,A_o,ts.length,c_o,prs l1,false⟩::(ri 3 A_b bs.length c_b bs)::(ri 3 A_r rs.length c_r rs)::R) ?_ ?_
   ·refine dQ mixed<|wD 0 Z (aK (rdR 4 (r:=⟨279,1,(GG g_1),1,1,[.pointer (GG g_s)],false⟩) Z) underlying279 Z Z Z)<|wD 1 Z (iP (vs:=[I ((rdp l1 (i-1)).1),I ((rdp l1 (i-1)).2)]) (rdR 0 (r:=⟨230,2,(GG g_9),1,1,[I ((rdp l1 (i-1)).1),I ((rdp l1 (i-1)).2)],false⟩) Z) underlying230 Z iF Z Z (Nat.le_of_ble_eq_true Z) Z)<|wD 3 Z (aK (rdR 4 (r:=⟨279,1,(GG g_1),1,1,[.pointer (GG g_s)],false⟩) Z) underlying279 Z Z Z)<|wD 4 Z (iP (vs:=[I ((rdp l1 i).1),I ((rdp l1 i).2)]) (rdR 1 (r:=⟨230,2,(GG g_7),1,1,[I ((rdp l1 i).1),I ((rdp l1 i).2)],false⟩) Z) underlying230 Z iF Z Z (Nat.le_of_ble_eq_true Z) Z)<|kF 2 Z (by kernel_rfl) Z (aC MG Z (Ct.quiet (fun w hw=>zI ((rdR 5 (r:=⟨281,4,(GG g_s),1,1,[.slice A_w ws.length c_w, .slice A_t n_t c_t, .slice A_b bs.length c_b, .slice A_r rs.length c_r],false⟩) Z) w hw) ((RdC.right hrw [_,_,_,_,_,_,_,_,_]) w hw) (hsw w (Hp.right (R':=[_,_,_,_,_,_,_,_,_]) hw)) ((rdr 7 Z) w hw) ((rdr 8 Z) w hw) (by first|assumption|omega|decide) (by first|assumption|omega|decide) (by first|assumption|omega|decide) (by first|assumption|omega|decide)))) ?_
    rintro _ _ ⟨rfl,rfl⟩
    refine⟨.inr fun _ h=>h,?_⟩
    refine kF 5 Z (by kernel_rfl) Z (aC MG Z (Ct.quiet (fun w hw=>zI ((rdR 5 (r:=⟨281,4,(GG g_s),1,1,[.slice A_w ws.length c_w, .slice A_t n_t c_t, .slice A_b bs.length c_b, .slice A_r rs.length c_r],false⟩) Z) w hw) ((RdC.right hrw [_,_,_,_,_,_,_,_,_]) w hw) (hsw w (Hp.right (R':=[_,_,_,_,_,_,_,_,_]) hw)) ((rdr 7 Z) w hw) ((rdr 8 Z) w hw) (by first|assumption|omega|decide) (by first|assumption|omega|decide) (by first|assumption|omega|decide) (by first|assumption|omega|decide)))) ?_
    rintro _ _ ⟨rfl,rfl⟩
    refine⟨.inr fun _ h=>h,?_⟩
    refine wD 6 Z (qW Z Z)<|wD 7 Z (aJ Z)<|tO 42 Z (fun hc3=> ?_) (fun hc3=> ?_)
    ·refine dC 8 Z (by kernel_rfl) Z Z Z Z<|dC 9 Z (by kernel_rfl) Z Z Z Z<|dC 10 Z (by kernel_rfl) Z Z Z Z<|dC 11 Z (by kernel_rfl) Z Z Z Z<|dC 12 Z (by kernel_rfl) Z Z Z Z<|dC 13 Z (by kernel_rfl) Z Z Z Z<|dC 14 Z (by kernel_rfl) Z Z Z Z<|dC 15 Z (by kernel_rfl) Z Z Z Z<|dC 16 Z (by kernel_rfl) Z Z Z Z<|wD 17 Z (aX Z Z)<|dD (by kernel_rfl) ?_
     exact⟨(sc Z (sc Z (sc Z (sc Z (sc Z (sc Z (sc Z (sc Z (sc Z (Sub.to Z (CX (by first|omega|exact⟨fun h=>⟨(by assumption),h⟩,fun h=>h.2⟩|exact .inl (by assumption)|exact⟨.inr,fun h=>h.resolve_left (by assumption)⟩|exact⟨fun h=>h.resolve_left (by assumption), .inr⟩|simp[*])) Sub.nil)))))))))),fun _ h=>h⟩
    ·refine aU 8 Z (by kernel_rfl) Z Z Z (aK (rdR 4 (r:=⟨279,1,(GG g_1),1,1,[.pointer (GG g_s)],false⟩) Z) underlying279 Z Z Z)<|aU 9 Z (by kernel_rfl) Z Z Z (iP (vs:=[I ((rdp l1 (i-1)).1),I ((rdp l1 (i-1)).2)]) (rdR 0 (r:=⟨230,2,(GG g_9),1,1,[I ((rdp l1 (i-1)).1),I ((rdp l1 (i-1)).2)],false⟩) Z) underlying230 Z iF Z Z (Nat.le_of_ble_eq_true Z) Z)<|aU 10 Z (by kernel_rfl) Z Z Z (aK (rdR 3 (r:=⟨3,1,(GG g_3),1,1,[I h],false⟩) Z) underlying3 Z Z Z)<|aU 12 Z (by kernel_rfl) Z Z Z (aK (rdR 4 (r:=⟨279,1,(GG g_1),1,1,[.pointer (GG g_s)],false⟩) Z) underlying279 Z Z Z)<|aU 13 Z (by kernel_rfl) Z Z Z (iP (vs:=[I ((rdp l1 i).1),I ((rdp l1 i).2)]) (rdR 1 (r:=⟨230,2,(GG g_7),1,1,[I ((rdp l1 i).1),I ((rdp l1 i).2)],false⟩) Z) underlying230 Z iF Z Z (Nat.le_of_ble_eq_true Z) Z)<|aU 14 Z (by kernel_rfl) Z Z Z (aK (rdR 3 (r:=⟨3,1,(GG g_3),1,1,[I h],false⟩) Z) underlying3 Z Z Z)<|iE 11 Z (by kernel_rfl) Z Z Z (aC EI Z (Ct.quiet (fun w hw=>nG ((rdR 5 (r:=⟨281,4,(GG g_s),1,1,[.slice A_w ws.length c_w, .slice A_t n_t c_t, .slice A_b bs.length c_b, .slice A_r rs.length c_r],false⟩) Z) w hw) ((RdC.right hrw [_,_,_,_,_,_,_,_,_]) w hw) (hsw w (Hp.right (R':=[_,_,_,_,_,_,_,_,_]) hw)) ((rdr 7 Z) w hw) ((rdr 8 Z) w hw) (by first|assumption|omega|decide) (by first|assumption|omega|decide) (by first|assumption|omega|decide) (by first|assumption|omega|decide) (by first|assumption|omega|decide)))) ?_
     rintro _ _ ⟨rfl,rfl⟩
     refine⟨.inr fun _ h=>h,?_⟩
     refine iE 15 Z (by kernel_rfl) Z Z Z (aC EI Z (Ct.quiet (fun w hw=>nG ((rdR 5 (r:=⟨281,4,(GG g_s),1,1,[.slice A_w ws.length c_w, .slice A_t n_t c_t, .slice A_b bs.length c_b, .slice A_r rs.length c_r],false⟩) Z) w hw) ((RdC.right hrw [_,_,_,_,_,_,_,_,_]) w hw) (hsw w (Hp.right (R':=[_,_,_,_,_,_,_,_,_]) hw)) ((rdr 7 Z) w hw) ((rdr 8 Z) w hw) (by first|assumption|omega|decide) (by first|assumption|omega|decide) (by first|assumption|omega|decide) (by first|assumption|omega|decide) (by first|assumption|omega|decide)))) ?_
     rintro _ _ ⟨rfl,rfl⟩
     refine⟨.inr fun _ h=>h,?_⟩
     refine aU 16 Z (by kernel_rfl) Z Z Z (qW Z Z)<|wD 17 Z (bG Z Z)<|dD (by kernel_rfl) ?_
     exact⟨(sc Z (sc Z (sc Z (sc Z (sc Z (sc Z (sc Z (sc Z (sc Z (Sub.to Z (mb (by first|omega|exact⟨fun h=>⟨(by assumption),h⟩,fun h=>h.2⟩|exact .inl (by assumption)|exact⟨.inr,fun h=>h.resolve_left (by assumption)⟩|exact⟨fun h=>h.resolve_left (by assumption), .inr⟩|simp[*])) Sub.nil)))))))))),fun _ h=>h⟩
   refine bR Z (fun hc4=> ?_) (fun hc4=> ?_)
   ·refine aN<|wm Z<|wA Z Z<|wg Z<|aA<|dQ mixed<|wD 0 Z (aJ Z)<|wD 1 Z (aK (rdR 4 (r:=⟨279,1,(GG g_1),1,1,[.pointer (GG g_s)],false⟩) Z) underlying279 Z Z Z)<|wD 2 Z (aH Z)<|wD 3 Z (aG (off:=2) (m:=2) underlying281 Z fV Z Z Z)<|wD 4 Z (aK (rdR 5 (r:=⟨281,4,(GG g_s),1,1,[.slice A_w ws.length c_w, .slice A_t n_t c_t, .slice A_b bs.length c_b, .slice A_r rs.length c_r],false⟩) Z) underlying52 Z Z Z)<|wD 5 Z (cK (q:=0) (rdR 1 (r:=⟨230,2,(GG g_7),1,1,[I ((rdp l1 i).1),I ((rdp l1 i).2)],false⟩) Z) underlying230 sz3 Z Z (Nat.le_of_ble_eq_true Z) (by decide) (by decide) Z)<|wD 6 Z (aK (rdR 1 (r:=⟨230,2,(GG g_7),1,1,[I ((rdp l1 i).1),I ((rdp l1 i).2)],false⟩) Z) underlying3 Z Z Z)<|wD 7 Z (aB underlying52 sz3 Z Z (rdr 7 Z) (by omega) (by omega))<|wD 8 Z (aZ underlying3 Z Z (rdr 7 Z) (by omega) (by omega)) ?_
    refine wD 9 Z (cK (q:=1) (rdR 1 (r:=⟨230,2,(GG g_7),1,1,[I ((rdp l1 i).1),I ((rdp l1 i).2)],false⟩) Z) underlying230 sz3 Z Z (Nat.le_of_ble_eq_true Z) (by decide) (by decide) Z)<|wD 10 Z (aK (rdR 1 (r:=⟨230,2,(GG g_7),1,1,[I ((rdp l1 i).1),I ((rdp l1 i).2)],false⟩) Z) underlying3 Z Z Z)<|wD 11 Z (jR Z Z (by omega))<|wD 12 Z (aJ Z)<|wD 13 Z (aB underlying52 sz3 Z Z (rdr 2 Z) (by omega) (by omega))<|sV 14 Z (by kernel_rfl) (bD 2 Z sz3 Z Z (by omega) (by omega)) ?_
    rintro _ _ rfl
    refine⟨.inl (by kernel_rfl),?_⟩
    refine dD (by kernel_rfl)<|aN<|wA Z Z<|wm Z<|aA ?_
    exact⟨i+1,n+1,upd rk ((rd bs ((rdp l1 i).1))+((rdp l1 i).2)) (n+1),⟨(by omega),(by omega),(by omega),(by rw[show i+1-1=i by omega,nY (by omega),if_pos (by assumption),←hn]),(by rw[upd,List.length_set];exact hkl),(oN hnd1 hij hi0 (by omega) hps (by unfold dO;omega) hrk (by have e:(i+1-1)=i:=(by omega);have hc:=(by rw[show i+1-1=i by omega,nY (by omega),if_pos (by assumption),←hn]:_=dP ws bs rs h l1 (i+1-1).toNat);rw[e] at hc;exact hc))⟩,(by omega),(G8 Z Z Z Z Z Z Z Z),fun _ h=>h.selR (F:=[_,_,_,_,_,_,_,_,_]) (F':=[_,_,_,_,_,_,_]) [2,3,4,5,6,7,8] (by decide) Z⟩
   ·refine aM<|dQ mixed<|wD 0 Z (aJ Z)<|wD 1 Z (aK (rdR 4 (r:=⟨279,1,(GG g_1),1,1,[.pointer (GG g_s)],false⟩) Z) underlying279 Z Z Z)<|wD 2 Z (aH Z)<|wD 3 Z (aG (off:=2) (m:=2) underlying281 Z fV Z Z Z)<|wD 4 Z (aK (rdR 5 (r:=⟨281,4,(GG g_s),1,1,[.slice A_w ws.length c_w, .slice A_t n_t c_t, .slice A_b bs.length c_b, .slice A_r rs.length c_r],false⟩) Z) underlying52 Z Z Z)<|wD 5 Z (cK (q:=0) (rdR 1 (r:=⟨230,2,(GG g_7),1,1,[I ((rdp l1 i).1),I ((rdp l1 i).2)],false⟩) Z) underlying230 sz3 Z Z (Nat.le_of_ble_eq_true Z) (by decide) (by decide) Z)<|wD 6 Z (aK (rdR 1 (r:=⟨230,2,(GG g_7),1,1,[I ((rdp l1 i).1),I ((rdp l1 i).2)],false⟩) Z) underlying3 Z Z Z)<|wD 7 Z (aB underlying52 sz3 Z Z (rdr 7 Z) (by omega) (by omega))<|wD 8 Z (aZ underlying3 Z Z (rdr 7 Z) (by omega) (by omega))<|wD 9 Z (cK (q:=1) (rdR 1 (r:=⟨230,2,(GG g_7),1,1,[I ((rdp l1 i).1),I ((rdp l1 i).2)],false⟩) Z) underlying230 sz3 Z Z (Nat.le_of_ble_eq_true Z) (by decide) (by decide) Z)<|wD 10 Z (aK (rdR 1 (r:=⟨230,2,(GG g_7),1,1,[I ((rdp l1 i).1),I ((rdp l1 i).2)],false⟩) Z) underlying3 Z Z Z)<|wD 11 Z (jR Z Z (by omega))<|wD 12 Z (aJ Z) ?_
    refine wD 13 Z (aB underlying52 sz3 Z Z (rdr 2 Z) (by omega) (by omega))<|sV 14 Z (by kernel_rfl) (bD 2 Z sz3 Z Z (by omega) (by omega)) ?_
    rintro _ _ rfl
    refine⟨.inl (by kernel_rfl),?_⟩
    refine dD (by kernel_rfl)<|aN<|wA Z Z<|wm Z<|aA ?_
    exact⟨i+1,n,upd rk ((rd bs ((rdp l1 i).1))+((rdp l1 i).2)) n,⟨(by omega),(by omega),(by omega),(by rw[show i+1-1=i by omega,nY (by omega),if_neg (by assumption),←hn,Int.add_zero]),(by rw[upd,List.length_set];exact hkl),(oN hnd1 hij hi0 (by omega) hps (by unfold dO;omega) hrk (by have e:(i+1-1)=i:=(by omega);have hc:=(by rw[show i+1-1=i by omega,nY (by omega),if_neg (by assumption),←hn,Int.add_zero]:_=dP ws bs rs h l1 (i+1-1).toNat);rw[e] at hc;exact hc))⟩,(by omega),(G8 Z Z Z Z Z Z Z Z),fun _ h=>h.selR (F:=[_,_,_,_,_,_,_,_,_]) (F':=[_,_,_,_,_,_,_]) [2,3,4,5,6,7,8] (by decide) Z⟩
  ·refine aM<|dQ mixed<|wD 0 Z (aJ Z)<|wD 1 Z (aK (rdR 3 (r:=⟨279,1,(GG g_1),1,1,[.pointer (GG g_s)],false⟩) Z) underlying279 Z Z Z)<|wD 2 Z (aH Z)<|wD 3 Z (aG (off:=2) (m:=2) underlying281 Z fV Z Z Z)<|wD 4 Z (aK (rdR 4 (r:=⟨281,4,(GG g_s),1,1,[.slice A_w ws.length c_w, .slice A_t n_t c_t, .slice A_b bs.length c_b, .slice A_r rs.length c_r],false⟩) Z) underlying52 Z Z Z)<|wD 5 Z (cK (q:=0) (rdR 0 (r:=⟨230,2,(GG g_7),1,1,[I ((rdp l1 i).1),I ((rdp l1 i).2)],false⟩) Z) underlying230 sz3 Z Z (Nat.le_of_ble_eq_true Z) (by decide) (by decide) Z)<|wD 6 Z (aK (rdR 0 (r:=⟨230,2,(GG g_7),1,1,[I ((rdp l1 i).1),I ((rdp l1 i).2)],false⟩) Z) underlying3 Z Z Z)<|wD 7 Z (aB underlying52 sz3 Z Z (rdr 6 Z) (by omega) (by omega))<|wD 8 Z (aZ underlying3 Z Z (rdr 6 Z) (by omega) (by omega))<|wD 9 Z (cK (q:=1) (rdR 0 (r:=⟨230,2,(GG g_7),1,1,[I ((rdp l1 i).1),I ((rdp l1 i).2)],false⟩) Z) underlying230 sz3 Z Z (Nat.le_of_ble_eq_true Z) (by decide) (by decide) Z)<|wD 10 Z (aK (rdR 0 (r:=⟨230,2,(GG g_7),1,1,[I ((rdp l1 i).1),I ((rdp l1 i).2)],false⟩) Z) underlying3 Z Z Z)<|wD 11 Z (jR Z Z (by omega))<|wD 12 Z (aJ Z) ?_
   refine wD 13 Z (aB underlying52 sz3 Z Z (rdr 1 Z) (by omega) (by omega))<|sV 14 Z (by kernel_rfl) (bD 1 Z sz3 Z Z (by omega) (by omega)) ?_
   rintro _ _ rfl
   refine⟨.inl (by kernel_rfl),?_⟩
   refine dD (by kernel_rfl)<|aN<|wA Z Z<|wm Z<|aA ?_
   exact⟨i+1,n,upd rk ((rd bs ((rdp l1 i).1))+((rdp l1 i).2)) n,⟨(by omega),(by omega),(by omega),(by have h0:i=0:=(by omega);subst h0;exact hn),(by rw[upd,List.length_set];exact hkl),(oN hnd1 hij hi0 (by omega) hps (by unfold dO;omega) hrk (by have e:(i+1-1)=i:=(by omega);have hc:=(by have h0:i=0:=(by omega);subst h0;exact hn:_=dP ws bs rs h l1 (i+1-1).toNat);rw[e] at hc;exact hc))⟩,(by omega),(G8 Z Z Z Z Z Z Z Z),fun _ h=>h.selR (F:=[_,_,_,_,_,_,_,_]) (F':=[_,_,_,_,_,_,_]) [1,2,3,4,5,6,7] (by decide) Z⟩
 ·refine bF<|wq<|wy (aK (rdR 2 (r:=⟨279,1,(GG g_1),1,1,[.pointer (GG g_s)],false⟩) Z) underlying279 Z Z Z)<|wm Z<|wy (aH Z)<|wy (aG (off:=3) (m:=3) underlying281 Z fV Z Z Z)<|dK (bQ 3 Z Z Z fV Z Z Z Z (Nat.le_of_ble_eq_true Z)) ?_
  rintro _ _ rfl
  refine aA<|wq<|wm Z<|wg Z<|aA<|aY [3,4,5,0] 7 (by decide) Z ?_
  refine⟨_,Z,?_⟩
  obtain rfl:i=l1.length:=by omega
  refine⟨l1,rk,_,_,?_,hp1,hs1,hkl,fun j hj=>hrk j (by omega),Z⟩
  rw[hn,show((l1.length:Int)-1).toNat=l1.length-1 by omega]
open Tryz
set_option linter.unusedVariables false
set_option maxRecDepth 100000
theorem PT {w:World} {A_l:Option Addr} {n_l c_l:Nat} {l:List (Int × Int)} (h_l:Rd w A_l n_l c_l 2 (prs l)) (hN:l.length≤1000000):
  Ct Tryz.prog 237 #[.slice A_l n_l c_l] w.heap.size w [] (fun v R'=> ∃A c,v= .slice A l.length c∧R'=[⟨230,2,A,l.length,c,prs l,false⟩]):=by
 obtain rfl:n_l=l.length:=by have:=h_l.len;rw[gJ] at this;omega
 refine fn1 Tryz.func237 Z Z Z ?_
 refine wq<|wg Z<|aA<|aF<|wq<|wm Z<|wy (JZ underlying228 Z Z)<|aA<|uJ Z (fun hc1=> ?_) (fun hc1=> ?_)
 ·refine wq<|wg Z<|aA<|iI (R1:=[⟨230,2,none,0,0,prs [],false⟩]) (fun _ h=>h.nilP 230) ?_
  refine⟨_,Z,?_⟩
  have hA:A_l=none:=by simpa using hc1
  subst hA
  obtain rfl:=SV h_l
  exact⟨none,0,Z,Z⟩
 ·refine aM<|wq<|wa (ZF underlying228 ZK) ?_
  rintro _ _ ⟨g_2,rfl,rfl⟩
  refine wm Z<|wa (rV 0 Z underlying228 ZL Z Z Z Z (h_l.c _) (by omega)) ?_
  rintro _ _ ⟨A_3,c_4,rfl,rfl⟩
  refine bY (v:= .slice A_3 (0+l.length) c_4) Z<|wg Z<|aA<|iI (R1:=[⟨230,2,A_3,(0+l.length),c_4,prs (([])++l),false⟩]) (fun _ h=>h) ?_
  refine⟨_,Z,?_⟩
  simp only[Nat.zero_add,List.nil_append]
  exact⟨_,_,Z,Z⟩
theorem QU {w:World} {A_ws:Option Addr} {n_ws c_ws:Nat} {vals_ws:List Value} {ws:List (List Int)} (h_ws:Rd w A_ws n_ws c_ws 1 vals_ws) (s_ws:SlW .u8 w vals_ws ws) (hN:ws.flatten.length≤400000∧ws.length≤1000000):
  Ct Tryz.prog 179 #[.slice A_ws n_ws c_ws] w.heap.size w [] (fun v R'=> ∃(l:List (Int × Int)) (A:Option Addr) (c:Nat),v= .slice A l.length c∧l.Perm (fB ws ws.length)∧l.Pairwise (tF ws)∧R'=[⟨230,2,A,l.length,c,prs l,false⟩]):=by
 obtain rfl:n_ws=ws.length:=by have:=h_ws.len;have:=s_ws.1;omega
 refine fn1 Tryz.func179 Z Z Z ?_
 have m_ws:=h_ws.max
 have hfl:=hN.1
 refine wq<|wg Z<|aA<|wq<|wm Z<|wy (bS (v:= .agg #[.slice A_ws ws.length c_ws, .slice none 0 0, .slice none 0 0, .slice none 0 0]) Z (fun w=>by kernel_rfl))<|wa (dZ (sz:=4) rfl rfl) ?_
 rintro _ _ ⟨g_1,rfl,rfl⟩
 refine eY (R1:=[⟨230,2,none,0,0,prs ([]),false⟩,(ri 3 none 0 0 ([])),(ri 3 none 0 0 ([])),⟨281,4,(GG g_1),1,1,[.slice A_ws ws.length c_ws, .slice none 0 0, .slice none 0 0, .slice none 0 0],false⟩]) (Sub.refl _) (fun _ h=>((h.nil 3 1).nil 3 1).nilP 230)<|wg Z<|aA<|wq<|wg Z<|aA<|aF<|wq<|wm Z<|wy (aV underlying23 Z)<|wm Z<|aA<|aI ?_
 refine QL (fun(k:Int) (lg:Int) (A1:Option Addr) (n1:Nat) (c1:Nat) (T:List (Int × Int)) (A2:Option Addr) (n2:Nat) (c2:Nat) (Bs:List Int) (A3:Option Addr) (n3:Nat) (c3:Nat) (Rs:List Int)=>[(3, .pointer (GG g_1)),(4,I lg),(16, .slice A_ws ws.length c_ws),(17,I ((ws.length:Nat):Int)),(18,I k)]) (fun(k:Int) (lg:Int) (A1:Option Addr) (n1:Nat) (c1:Nat) (T:List (Int × Int)) (A2:Option Addr) (n2:Nat) (c2:Nat) (Bs:List Int) (A3:Option Addr) (n3:Nat) (c3:Nat) (Rs:List Int)=>[⟨230,2,A1,n1,c1,prs T,false⟩,(ri 3 A2 n2 c2 Bs),(ri 3 A3 n3 c3 Rs),⟨281,4,(GG g_1),1,1,[.slice A_ws ws.length c_ws, .slice A1 n1 c1, .slice A2 n2 c2, .slice A3 n3 c3],false⟩]) (fun(k:Int) (lg:Int) (A1:Option Addr) (n1:Nat) (c1:Nat) (T:List (Int × Int)) (A2:Option Addr) (n2:Nat) (c2:Nat) (Bs:List Int) (A3:Option Addr) (n3:Nat) (c3:Nat) (Rs:List Int)=>(0≤k)∧(k≤ws.length)∧(0≤lg∧lg≤400000)∧(∀w:Int,0≤w→w<k→((rdl ws w).length:Int)≤lg)∧(lg=0∧iJ ws k.toNat=0∨0<lg∧0<iJ ws k.toNat)∧(T=fB ws k.toNat)∧(n1=iJ ws k.toNat)∧(Bs=kM ws k.toNat)∧(n2=k.toNat)∧(Rs=(ws.take k.toNat).flatten)∧(n3=iJ ws k.toNat)) (fun(k:Int) (lg:Int) (A1:Option Addr) (n1:Nat) (c1:Nat) (T:List (Int × Int)) (A2:Option Addr) (n2:Nat) (c2:Nat) (Bs:List Int) (A3:Option Addr) (n3:Nat) (c3:Nat) (Rs:List Int)=>(ws.length-k).toNat) ?_ ?_
 ·exact⟨0,0,none,0,0,[],none,0,0,[],none,0,0,[],⟨(by omega),(by omega),(by omega),(fun w h0 h1=>by omega),(.inl ⟨rfl,rfl⟩),(rfl),(rfl),(rfl),(rfl),(rfl),(rfl)⟩,(G5 rfl rfl rfl rfl rfl),fun _ h=>h⟩
 intro k lg A1 n1 c1 T A2 n2 c2 Bs A3 n3 c3 Rs ⟨hk0,hk1,hg0,hlg,hge,hT,hnT,hBs,hnB,hRs,hnR⟩
 refine wq<|wL Z Z<|aA<|aF<|bR Z (fun hc1=> ?_) (fun hc1=> ?_)
 ·have hofs:=gN hk0 (show k<ws.length by omega)
  have hole:=LF ws (k+1).toNat
  refine aM<|aF<|aI<|wq<|wm Z<|wy (aB underlying23 jC Z Z (h_ws.c _) (by omega) (by omega)) ?_
  obtain⟨A_2,c_3,hv_4,hr_5,hb_6,mhr_5⟩:=s_ws.at (i:=k) (by omega) (by omega)
  refine wy (FT underlying22 Z Z Z (h_ws.c _) hv_4)<|wg Z<|wg Z<|aA<|aF<|dQ mixed<|wD 0 Z (aJ Z)<|wD 1 Z (aJ Z)<|wD 2 Z (aH Z)<|wD 3 Z (aG (off:=2) (m:=2) underlying281 Z fV Z Z Z)<|wD 4 Z (aK (rdR 3 (r:=⟨281,4,(GG g_1),1,1,[.slice A_ws ws.length c_ws, .slice A1 n1 c1, .slice A2 n2 c2, .slice A3 n3 c3],false⟩) Z) underlying52 Z Z Z)<|wD 5 Z (aJ Z)<|wD 6 Z (aH Z)<|wD 7 Z (aG (off:=1) (m:=1) underlying281 Z BH Z Z Z)<|wD 8 Z (aK (rdR 3 (r:=⟨281,4,(GG g_1),1,1,[.slice A_ws ws.length c_ws, .slice A1 n1 c1, .slice A2 n2 c2, .slice A3 n3 c3],false⟩) Z) underlying228 Z Z Z) ?_
  refine wD 9 Z (aV underlying228 Z)<|kF 10 Z (by kernel_rfl) Z (bV .i64 [((n1:Nat):Int)] underlying52 zs3 Z Z Z) ?_
  rintro _ _ ⟨g_8,rfl,rfl⟩
  refine⟨.inr fun _ h=>h.right (R':=[_]),?_⟩
  refine kF 11 Z (by kernel_rfl) Z (bX 2 Z underlying52 zb3 Z Z Z (rdr 0 Z) (by omega)) ?_
  rintro _ _ ⟨A_9,c_10,rfl,rfl⟩
  refine⟨.inl (by kernel_rfl),?_⟩
  refine QJ (v:= .slice A_9 (n2+1) c_10) Z<|wD 12 Z (aH Z)<|wD 13 Z (aG (off:=2) (m:=2) underlying281 Z fV Z Z Z)<|sV 14 Z (by kernel_rfl) (bQ 4 Z Z Z fV Z Z Z Z (Nat.le_of_ble_eq_true Z)) ?_
  rintro _ _ rfl
  refine⟨.inl (by kernel_rfl),?_⟩
  refine dD (by kernel_rfl)<|wq<|wm Z<|wm Z<|wy (aV underlying22 Z)<|wy (ZO Z Z)<|wg Z<|aA<|wq<|wm Z<|wy (aV underlying22 Z)<|wm Z<|aA ?_
  refine aI ?_
  refine WU (fun(j:Int) (B1:Option Addr) (m1:Nat) (d1:Nat) (U:List (Int × Int)) (B3:Option Addr) (m3:Nat) (d3:Nat) (V:List Int)=>[(3, .pointer (GG g_1)),(4,I (max lg (((rdl ws k).length:Nat):Int))),(5,I k),(16, .slice A_ws ws.length c_ws),(17,I ((ws.length:Nat):Int)),(18,I k),(41, .slice A_2 ((rdl ws k).length) c_3),(42,I (((rdl ws k).length:Nat):Int)),(43,I j)]) (fun(j:Int) (B1:Option Addr) (m1:Nat) (d1:Nat) (U:List (Int × Int)) (B3:Option Addr) (m3:Nat) (d3:Nat) (V:List Int)=>[(ri 3 (GG g_8) 1 1 ([((n1:Nat):Int)])),⟨230,2,B1,m1,d1,prs U,false⟩,(ri 3 A_9 (n2+1) c_10 (Bs++([((n1:Nat):Int)]))),(ri 3 B3 m3 d3 V),⟨281,4,(GG g_1),1,1,[.slice A_ws ws.length c_ws, .slice B1 m1 d1, .slice A_9 (n2+1) c_10, .slice B3 m3 d3],false⟩]) (fun(j:Int) (B1:Option Addr) (m1:Nat) (d1:Nat) (U:List (Int × Int)) (B3:Option Addr) (m3:Nat) (d3:Nat) (V:List Int)=>(0≤j)∧(j≤(rdl ws k).length)∧(U=fB ws k.toNat++turnsOf k j.toNat)∧(m1=iJ ws k.toNat+j.toNat)∧(V=(ws.take k.toNat).flatten++(rdl ws k).take j.toNat)∧(m3=iJ ws k.toNat+j.toNat)) (fun(j:Int) (B1:Option Addr) (m1:Nat) (d1:Nat) (U:List (Int × Int)) (B3:Option Addr) (m3:Nat) (d3:Nat) (V:List Int)=>((rdl ws k).length-j).toNat) ?_ ?_
  ·exact⟨0,A1,n1,c1,T,A3,n3,c3,Rs,⟨(by omega),(by omega),(by rw[hT];exact(List.append_nil _).symm),(hnT),(by rw[hRs];exact(List.append_nil _).symm),(hnR)⟩,(G9 Z Z Z Z Z Z Z Z Z),fun _ h=>h⟩
  intro j B1 m1 d1 U B3 m3 d3 V ⟨hj0,hj1,hU,hm1,hV,hm3⟩
  refine wq<|wL Z Z<|aA<|aF<|bR Z (fun hc2=> ?_) (fun hc2=> ?_)
  ·refine aM<|aF<|aI<|wq<|wm Z<|wy (aB underlying22 sz5 Z Z (hr_5.c _) (by omega) (by omega))<|wy (aZ underlying5 Z Z (hr_5.c _) (by omega) (by omega))<|wg Z<|wg Z<|aA<|wq<|wm Z<|wm Z ?_
   refine wy (aH Z)<|wy (aG (off:=1) (m:=1) underlying281 Z BH Z Z Z)<|wy (aK (rdR 4 (r:=⟨281,4,(GG g_1),1,1,[.slice A_ws ws.length c_ws, .slice B1 m1 d1, .slice A_9 (n2+1) c_10, .slice B3 m3 d3],false⟩) Z) underlying228 Z Z Z)<|wm Z<|wm Z<|wy (bS (v:= .agg #[I k,I j]) Z (fun w=>by kernel_rfl))<|wa (WE underlying228 ZK rfl) ?_
   rintro _ _ ⟨g_12,rfl,rfl⟩
   refine wa (rV 2 Z underlying228 ZL Z Z Z Z (rdr 0 Z) (by omega)) ?_
   rintro _ _ ⟨A_13,c_14,rfl,rfl⟩
   refine bY (v:= .slice A_13 (m1+1) c_14) Z<|wy (aH Z)<|wy (aG (off:=1) (m:=1) underlying281 Z BH Z Z Z)<|dK (bQ 5 Z Z Z BH Z Z Z Z (Nat.le_of_ble_eq_true Z)) ?_
   rintro _ _ rfl
   refine aA<|aN<|wm Z<|wm Z<|wy (aH Z)<|wy (aG (off:=3) (m:=3) underlying281 Z fV Z Z Z)<|wy (aK (rdR 5 (r:=⟨281,4,(GG g_1),1,1,[.slice A_ws ws.length c_ws, .slice A_13 (m1+1) c_14, .slice A_9 (n2+1) c_10, .slice B3 m3 d3],false⟩) Z) underlying52 Z Z Z)<|wm Z<|wy (nO underlying5 underlying3 Z (by have hby:=(byteL_wf (by assumption: ∀x∈rdl ws k,(Lit.int .u8 x).wf=true)).rd j;omega)) ?_
   refine wa (bV .i64 [rd (rdl ws k) j] underlying52 zs3 Z Z Z) ?_
   rintro _ _ ⟨g_16,rfl,rfl⟩
   refine wa (bX 5 Z underlying52 zb3 Z Z Z (rdr 0 Z) (by omega)) ?_
   rintro _ _ ⟨A_17,c_18,rfl,rfl⟩
   refine bY (v:= .slice A_17 (m3+1) c_18) Z<|wy (aH Z)<|wy (aG (off:=3) (m:=3) underlying281 Z fV Z Z Z)<|dK (bQ 6 Z Z Z fV Z Z Z Z (Nat.le_of_ble_eq_true Z)) ?_
   rintro _ _ rfl
   refine aA<|aN<|wA Z Z<|wm Z<|aA ?_
   exact⟨j+1,A_13,(m1+1),c_14,U++([(k,j)]),A_17,(m3+1),c_18,V++([rd (rdl ws k) j]),⟨(by omega),(by omega),(by rw[hU,yV k hj0,List.append_assoc]),(by omega),(by rw[hV,List.append_assoc,dG hj0 (by omega)]),(by omega)⟩,(by omega),(G9 Z Z Z Z Z Z Z Z Z),fun _ h=>h.sel [2,3,4,5,6] (by decide) Z⟩
  ·refine bF<|aN<|wA Z Z<|wm Z<|aA ?_
   exact⟨k+1,max lg (((rdl ws k).length:Nat):Int),B1,m1,d1,U,A_9,(n2+1),c_10,Bs++([((n1:Nat):Int)]),B3,m3,d3,V,⟨(by omega),(by omega),(by omega),(fun w h0 h1=>by
      by_cases hw:w=k
      ·rw[hw];omega
      ·have:=hlg w h0 (by omega);omega),(by have hofs:=gN hk0 (show k<ws.length by omega);omega),(by have hj:j.toNat=(rdl ws k).length:=(by omega);rw[hU,hj,GI hk0]),(by rw[hm1,gN hk0 (by omega)];omega),(by rw[hBs,JO hk0,hnT]),(by omega),(by have hj:j.toNat=(rdl ws k).length:=(by omega);rw[hV,hj,List.take_length,mY hk0 (by omega)]),(by rw[hm3,gN hk0 (by omega)];omega)⟩,(by omega),(G5 rfl rfl rfl rfl rfl),fun _ h=>h.sel [1,2,3,4] (by decide) rfl⟩
 ·have hke:k=ws.length:=by omega
  have hkn:k.toNat=ws.length:=by omega
  rw[hkn] at hT hBs hRs hnT hnB hnR hge
  rw[List.take_length] at hRs
  have hoT:=qY ws ws.length (Nat.le_refl _)
  have hoB:=yM ws ws.length
  have hoR:iJ ws ws.length=ws.flatten.length:=by unfold iJ;rw[List.take_length]
  obtain rfl:n1=T.length:=by rw[hT];omega
  obtain rfl:n2=Bs.length:=by rw[hBs];omega
  obtain rfl:n3=Rs.length:=by rw[hRs];omega
  have hTl:T.length≤1000000:=by rw[hT];omega
  refine bF<|wq<|wm Z<|wy (aH Z)<|wy (aG (off:=1) (m:=1) underlying281 Z BH Z Z Z)<|wy (aK (rdR 3 (r:=⟨281,4,(GG g_1),1,1,[.slice A_ws ws.length c_ws, .slice A1 T.length c1, .slice A2 Bs.length c2, .slice A3 Rs.length c3],false⟩) Z) underlying228 Z Z Z)<|wa (aC aDq Z (Ct.fresh (fun w hw=>PT ((rdr 0 Z) w hw) hTl))) ?_
  rintro _ _ ⟨_,rfl,A_19,c_20,rfl,rfl⟩
  refine wg Z<|aA<|wq<|wg Z<|aA<|aF<|wq<|wg Z<|aA<|aI ?_
  refine tQ (fun(h:Int) (was:Int) (l:List (Int × Int)) (A4:Option Addr) (c4:Nat) (rs:List Int)=>[(3, .pointer (GG g_1)),(4,I lg),(9, .slice A_19 T.length c_20),(10,I was),(11,I h)]) (fun(h:Int) (was:Int) (l:List (Int × Int)) (A4:Option Addr) (c4:Nat) (rs:List Int)=>[⟨230,2,A_19,T.length,c_20,prs l,false⟩,⟨230,2,A1,T.length,c1,prs T,false⟩,(ri 3 A2 Bs.length c2 Bs),(ri 3 A4 Rs.length c4 rs),⟨281,4,(GG g_1),1,1,[.slice A_ws ws.length c_ws, .slice A1 T.length c1, .slice A2 Bs.length c2, .slice A4 Rs.length c4],false⟩]) (fun(h:Int) (was:Int) (l:List (Int × Int)) (A4:Option Addr) (c4:Nat) (rs:List Int)=>(0≤h)∧(l.Perm T)∧(rs.length=Rs.length)∧(RK ws Bs (iC h) rs)∧(0<h→Sorted ws (iC h) l∧Go.Pure.Steps Bs rs l was)) (fun(h:Int) (was:Int) (l:List (Int × Int)) (A4:Option Addr) (c4:Nat) (rs:List Int)=>(2*lg-h).toNat) ?_ ?_
  ·exact⟨0,-1,T,A3,c3,Rs,⟨(by omega),(.refl _),(Z),(by rw[hRs,hBs];exact RX ws),(fun h=>absurd h (by omega))⟩,(G5 Z Z Z Z Z),fun _ h=>h⟩
  intro h was l A4 c4 rs ⟨hh0,hlp,hrl,hRK,hst⟩
  have htv: ∀t∈l,TV ws t:=fun t ht=>qB.1 (by rw[←hT];exact hlp.mem_iff.1 ht)
  have hvv: ∀t∈l,TOk ws Bs rs.length t:=fun t ht=>by rw[hrl,hRs,hBs];exact ZC (by omega) (htv t ht)
  have hij: ∀t∈l,∀u∈l,dO Bs t=dO Bs u→t=u:=fun t ht u hu e=>SY (htv t ht) (htv u hu) (by rw[←hBs];exact e)
  have hnd:l.Nodup:=hlp.nodup_iff.2 (by rw[hT];exact sH ws _)
  have hrs:Rs.length=ws.flatten.length:=by rw[hRs]
  have hll:=hlp.length_eq
  have hTo:T.length=iJ ws ws.length:=by rw[hT];exact hoT
  refine aF<|wq<|wm Z<|wm Z<|wy (QI Z Z (by omega))<|wL Z Z<|aA<|bR Z (fun hc3=> ?_) (fun hc3=> ?_)
  ·have hne:l≠[]:=fun e=>by rw[e] at hll;simp only[List.length_nil] at hll;omega
   refine aM<|aF<|aI<|wq<|wm Z<|wm Z<|wm Z<|eY (R1:=[⟨281,4,(GG g_1),1,1,[.slice A_ws ws.length c_ws, .slice A1 T.length c1, .slice A2 Bs.length c2, .slice A4 Rs.length c4],false⟩,⟨230,2,A_19,T.length,c_20,prs l,false⟩,(ri 3 A2 Bs.length c2 Bs),(ri 3 A4 Rs.length c4 rs),⟨230,2,A1,T.length,c1,prs T,false⟩]) (Sub.refl _) (fun _ h=>h.sel [4,0,2,3,1] (by decide) Z)<|wa (aC aDp Z (JI (bs:=Bs) (rs:=rs) (ts:=l) hll.symm Z hrl.symm (h_ws.c _) (fun w hw=>s_ws.c hw) hvv hij hnd hne ⟨by omega,by omega⟩ ⟨hh0,by omega⟩)) ?_
   rintro _ _ ⟨l_23,rk_24,A_21,c_22,rfl,hp_l_23,hs_l_23,hl_rk_24,hr_rk_24,rfl⟩
   have hs2:Sorted ws (dE h) l_23:=⟨fun t ht=>htv t (hp_l_23.mem_iff.1 ht),hp_l_23.nodup_iff.2 hnd,hs_l_23.imp_of_mem fun {x y} hx hy hn ho=>hn ((QZ hh0 hRK (htv y (hp_l_23.mem_iff.1 hy)) (htv x (hp_l_23.mem_iff.1 hx))).2 ho)⟩
   have hall2: ∀t,TV ws t→t∈l_23:=fun t ht=>hp_l_23.mem_iff.2 (hlp.mem_iff.2 (by rw[hT];exact qB.2 ht))
   have hRK2:=XJ hh0 hRK hs2 hall2 hr_rk_24
   have hst2:=GL hh0 hRK hs2 hr_rk_24
   have hcl:=hp_l_23.length_eq
   refine wg Z<|aA<|aF<|wq<|wm Z<|wm Z<|wy (bC Z Z)<|wm Z<|gH 3 [(3, .pointer (GG g_1)),(4,I lg),(9, .slice A_19 T.length c_20),(11,I h),(12,I (dP ws Bs rs h l_23 (l_23.length-1))),(95, .bool (decide (((dP ws Bs rs h l_23 (l_23.length-1))=was)∧(0<h))))] [⟨281,4,(GG g_1),1,1,[.slice A_ws ws.length c_ws, .slice A1 T.length c1, .slice A2 Bs.length c2, .slice A_21 Rs.length c_22],false⟩,⟨230,2,A_19,T.length,c_20,prs l_23,false⟩,(ri 3 A2 Bs.length c2 Bs),(ri 3 A_21 Rs.length c_22 rk_24),⟨230,2,A1,T.length,c1,prs T,false⟩] ?_ ?_
   ·refine fA 92 Z (fun hc4=> ?_) (fun hc4=> ?_)
    ·refine aD Z Z<|wm Z<|aD Z Z<|wy (kU Z Z)<|wy (aX Z Z)<|aA ?_
     exact⟨(sc Z (sc Z (sc Z (sc Z (sc Z (Sub.to Z (mb (by first|omega|exact⟨fun h=>⟨(by assumption),h⟩,fun h=>h.2⟩|exact .inl (by assumption)|exact⟨.inr,fun h=>h.resolve_left (by assumption)⟩|exact⟨fun h=>h.resolve_left (by assumption), .inr⟩|simp[*])) Sub.nil)))))),fun _ h=>h⟩
    ·refine aT Z Z Z Z<|aT Z Z Z Z<|wy (bG Z Z)<|aA ?_
     exact⟨(sc Z (sc Z (sc Z (sc Z (sc Z (Sub.to Z (zJ (by first|omega|exact⟨fun h=>⟨(by assumption),h⟩,fun h=>h.2⟩|exact .inl (by assumption)|exact⟨.inr,fun h=>h.resolve_left (by assumption)⟩|exact⟨fun h=>h.resolve_left (by assumption), .inr⟩|simp[*])) Sub.nil)))))),fun _ h=>h⟩
   refine aA<|bR Z (fun hc5=> ?_) (fun hc5=> ?_)
   ·refine bF<|wq<|wm Z<|wg Z<|aA<|aY [1] 99 (by decide) Z ?_
    refine⟨_,Z,?_⟩
    have hle:T.length=l_23.length:=by omega
    rw[hle]
    refine⟨l_23,_,_,Z,?_,?_,Z⟩
    ·rw[←hT];exact hp_l_23.trans hlp
    ·exact stay hc5.2 hRK hs2 hall2 hp_l_23 (hst hc5.2).2 hc5.1
   ·refine aM<|aN<|wm Z<|wg Z<|aA<|aN<|wm Z<|wy (QI Z Z (by omega))<|wy (ZO Z Z)<|wg Z<|aA ?_
    exact⟨max 1 (2*h),dP ws Bs rs h l_23 (l_23.length-1),l_23,A_21,c_22,rk_24,⟨(by omega),(hp_l_23.trans hlp),(by omega),(by have e:iC (max 1 (2*h))=dE h:=(by unfold iC dE;split<;>omega);rw[e];exact hRK2),(fun _=>by have e:iC (max 1 (2*h))=dE h:=(by unfold iC dE;split<;>omega);rw[e];exact⟨hs2,hst2⟩)⟩,(by omega),(G5 rfl rfl rfl rfl rfl),fun _ h=>h.sel [1,4,2,3,0] (by decide) rfl⟩
  ·refine bF<|wq<|wm Z<|wg Z<|aA<|aY [0] 99 (by decide) Z ?_
   refine⟨_,Z,?_⟩
   have hle:T.length=l.length:=by omega
   rw[hle]
   refine⟨l,_,_,Z,?_,?_,Z⟩
   ·rw[←hT];exact hlp
   ·by_cases h0:0<h
    ·refine (hst h0).1.toO fun t u ht hu e=>EF ht hu ?_ e
     have a:=hlg t.1 ht.1 (by rw[hke];exact ht.2.1)
     have b:=hlg u.1 hu.1 (by rw[hke];exact hu.2.1)
     unfold iC
     omega
    ·have hl0:l=[]:=List.eq_nil_of_length_eq_zero (by omega)
     rw[hl0]
     exact .nil
end Go.Proofs.YtdbebmmhdefgdaaGreat

namespace Go.Proofs.YtdbebmmhdefgdaaGreat
open Go Go.Eng Go.Pure
set_option linter.unusedVariables false
set_option maxRecDepth 100000
end Go.Proofs.YtdbebmmhdefgdaaGreat


/- A region that draws its order, shown by what each operation leaves behind: one step a piece, whatever the order (conditions: no guards, each operation's edges lead backwards, destinations apart). -/
import Derived.Test.YtglikkmmbdnmbaaGreatQ00
import Derived.Below
import Derived.Laws.StructEq
set_option maxHeartbeats 8000000
set_option maxRecDepth 100000
namespace Go.Proofs.YtglikkmmbdnmbaaGreat.Wv
open Go.RowKit Q7
set_option linter.unusedVariables false
set_option linter.unusedSimpArgs false
section
section
variable {P:Program} {ops:Array Oper} {Q:Exit→Act→World→Prop}
def aH (ops:Array Oper)(j:Nat):Option Tmp:=(ops[j]?).bind (·.dst)
def rM (ops:Array Oper)(N n:Nat):Bool:=
 ((List.range ops.size).all fun i=>match ops[i]? with
  |some o=>o.guard.isNone && (o.after.all fun e=>!Region.binds .any e || decide (e.on<i)) && (match o.dst with
   |some t=>decide (t<N) && (List.range ops.size).all (fun j=>j==i || aH ops j != some t)
   |none=>true)
  |none=>false) && (ops.size==n || ((ops.size==n+1) && (List.range n).all fun j=>Region.dJ .any ops j ops.size n))
structure Inv (V:Nat->Value->World->Prop)(J:Array Bool->World->Prop)(ops:Array Oper)(n:Nat)(a0:Act)(L:Array Bool)(a:Act)(w:World):Prop where
 size:a.tmps.size=a0.tmps.size
 defers:a.defers=a0.defers
 frame:∀ t,(∀ j,j<n->aH ops j≠some t)->a.tmps[t]? =a0.tmps[t]?
 has:∀ j t,j<n->aH ops j=some t->L.getD j false=true->V j (a.eval (.tmp t)) w
 below:J L w
 closed:dK .any ops L
 lsize:L.size=ops.size
 last:∀ j,n<=j->L.getD j false=false
def noB (ops:Array Oper)(n:Nat)(t:Tmp):Bool:=(List.range n).all fun j=>aH ops j != some t
def lI (ops:Array Oper)(o:Oper)(j:Nat)(t:Tmp):Bool:=(o.after.any fun e=>Region.binds .any e && e.on==j) && aH ops j==some t
def ug (P:Program)(Q:Exit->Act->World->Prop)(ops:Array Oper)(n:Nat)(V:Nat->Value->World->Prop)(J:Array Bool->World->Prop)(G:Nat->World->World->Prop)(a0:Act)(k:Nat)(o:Oper):Prop:=
 ∀ a w L,(∀ t,noB ops n t=true->a.eval (.tmp t)=a0.eval (.tmp t))->L.getD k false=false->J L w->a.defers=a0.defers->
  (∀ j t,lI ops o j t=true->V j (a.eval (.tmp t)) w)->
  ∀ K:Act->World->Prop,(∀ v w',G k w w'->V k v w'->K (a.put o.dst v) w')->Oper.wp P o a w K Q
def au (P:Program)(Q:Exit->Act->World->Prop)(ops:Array Oper)(n:Nat)(V:Nat->Value->World->Prop)(J:Array Bool->World->Prop)(G:Nat->World->World->Prop)(a0:Act):Nat->List Oper->Prop
 |_,[]=>True
 |k,o :: r=>ug P Q ops n V J G a0 k o/\au P Q ops n V J G a0 (k+1) r
section
variable {n:Nat} {V:Nat→Value→World→Prop} {J:Array Bool→World→Prop} {G:Nat→World→World→Prop} {a0:Act}
theorem au.nil {k:Nat}:au P Q ops n V J G a0 k []:=trivial
theorem au.cons {k:Nat}{o:Oper}{r:List Oper}(h:ug P Q ops n V J G a0 k o)(hr:au P Q ops n V J G a0 (k+1) r):au P Q ops n V J G a0 k (o :: r):=⟨h,hr⟩
theorem au.at:∀{l:List Oper} {k i:Nat} {o:Oper},au P Q ops n V J G a0 k l->l[i]? =some o->ug P Q ops n V J G a0 (k+i) o
 |[],_,_,_,_,h=>by simp at h
 |o' :: r,k,0,o,hs,h=>by
  obtain rfl:o'=o:=by simpa using h
  exact hs.1
 |o' :: r,k,i+1,o,hs,h=>by
  have:=au.at hs.2 (i:=i) (o:=o) (by simpa using h)
  rwa [show k+1+i=k+(i+1) by omega]at this
end
def Step (P:Program)(Q:Exit->Act->World->Prop)(ops:Array Oper)(n:Nat)(V:Nat->Value->World->Prop)(a0:Act)(w0:World)(k:Nat)(o:Oper):Prop:=
 ∀ a w,(∀ t,noB ops n t=true->a.eval (.tmp t)=a0.eval (.tmp t))->Below w0.heap.size w0 w->
  (∀ j t,lI ops o j t=true->V j (a.eval (.tmp t)) w)->
  ∀ K:Act->World->Prop,(∀ v w',Below w.heap.size w w'->V k v w'->K (a.put o.dst v) w')->Oper.wp P o a w K Q
def Steps (P:Program)(Q:Exit->Act->World->Prop)(ops:Array Oper)(n:Nat)(V:Nat->Value->World->Prop)(a0:Act)(w0:World):Nat->List Oper->Prop
 |_,[]=>True
 |k,o :: r=>Step P Q ops n V a0 w0 k o/\Steps P Q ops n V a0 w0 (k+1) r
theorem Steps.nil {n:Nat}{V:Nat->Value->World->Prop}{a0:Act}{w0:World}{k:Nat}:Steps P Q ops n V a0 w0 k []:=trivial
theorem Steps.cons {n:Nat}{V:Nat->Value->World->Prop}{a0:Act}{w0:World}{k:Nat}{o:Oper}{r:List Oper}(h:Step P Q ops n V a0 w0 k o)(hr:Steps P Q ops n V a0 w0 (k+1) r):Steps P Q ops n V a0 w0 k (o :: r):=⟨h,hr⟩
theorem Steps.gen {n:Nat}{V:Nat->Value->World->Prop}{a0:Act}{w0:World}:∀{l:List Oper} {k:Nat},Steps P Q ops n V a0 w0 k l->au P Q ops n V (fun _=>Below w0.heap.size w0) (fun _ w w'=>Below w.heap.size w w') a0 k l
 |[],_,_=>trivial
 |o :: r,k,h=>⟨fun a w _ fr _ hb _ hd K hK=>h.1 a w fr hb hd K hK,Steps.gen h.2⟩
def bA (vs:Nat->Value):List Oper->Nat->Act->Act
 |[],_,a=>a
 |o :: r,k,a=>bA vs r (k+1) (a.put o.dst (vs k))
structure upto (P:Program)(ops:Array Oper)(Q:Exit->Act->World->Prop)(n:Nat)(a:Act)(w:World):Prop where
 out:match ops[n]? with
  |none=>Q .normal a w
  |some o=>Oper.wp P o a w (fun a' w'=>Q .normal a' w') Q
theorem mZ {n:Nat}{t:Tmp}(h:noB ops n t=true):∀ j,j<n->aH ops j≠some t:=fun j hj=>by
 simpa using List.all_eq_true.1 h j (List.mem_range.2 hj)
theorem jY {o:Oper}{j:Nat}{t:Tmp}(h:lI ops o j t=true):(∃ e∈o.after,Region.binds .any e=true/\e.on=j)/\aH ops j=some t:=by
 unfold lI at h;simp only[Bool.and_eq_true,beq_iff_eq]at h;refine⟨?_,h.2⟩;obtain⟨e,he,h1⟩:=Array.any_eq_true'.1 h.1;simp only[Bool.and_eq_true,beq_iff_eq]at h1;exact⟨e,he,h1⟩
theorem Ca {n:Nat}{a:Act}{w:World}(h:(ops[n]?).isNone=true)(hq:Q .normal a w):upto P ops Q n a w:=by
 constructor;rw[Option.isNone_iff_eq_none.1 h];exact hq
theorem ll {n:Nat}{o:Oper}{a:Act}{w:World}(h:ops[n]? =some o)(hq:Oper.wp P o a w (fun a' w'=>Q .normal a' w') Q):upto P ops Q n a w:=by
 constructor;rw[h];exact hq
theorem kP (a:Act)(d:Option Tmp)(v:Value):(a.put d v).tmps.size=a.tmps.size:=by
 cases d<;>simp[Act.put]
theorem put_defers (a:Act)(d:Option Tmp)(v:Value):(a.put d v).defers=a.defers:=by
 cases d<;>rfl
theorem iq (a:Act)(d:Option Tmp)(v:Value)(t:Tmp)(h:d≠some t):(a.put d v).tmps[t]? =a.tmps[t]?:=by
 cases d with
 |none=>rfl
 |some d=>
  have hne:d≠t:=fun e=>h (e▸rfl)
  show(a.tmps.setIfInBounds d v)[t]? =_
  rw[Array.getElem?_setIfInBounds_ne hne]
theorem mo (a:Act)(t:Tmp)(v:Value)(h:t<a.tmps.size):(a.put (some t) v).tmps[t]? =some v:=by
 show(a.tmps.setIfInBounds t v)[t]? =_
 rw[Array.getElem?_setIfInBounds_self_of_lt h]
theorem fZ {a b:Act}{t:Tmp}(h:a.tmps[t]? =b.tmps[t]?):a.eval (.tmp t)=b.eval (.tmp t):=by
 show a.tmps.getD t undef=b.tmps.getD t undef
 rw[Array.getD_eq_getD_getElem?,Array.getD_eq_getD_getElem?,h]
theorem jT {a:Act}{t:Tmp}{v:Value}(h:a.tmps[t]? =some v):a.eval (.tmp t)=v:=by
 show a.tmps.getD t undef=v
 rw[Array.getD_eq_getD_getElem?,h];rfl
theorem qW {a:Act}{t:Tmp}(h:t<a.tmps.size):a.tmps[t]? =some (a.eval (.tmp t)):=by
 show _=some (a.tmps.getD t undef)
 rw[Array.getD_eq_getD_getElem?,Array.getElem?_eq_getElem h];rfl
theorem l5 (vs:Nat->Value):∀(l:List Oper) (k:Nat) (a:Act),(bA vs l k a).defers=a.defers
 |[],_,_=>rfl
 |o :: r,k,a=>by rw[bA,l5 vs r,put_defers]
theorem oV (vs:Nat->Value)(t:Tmp):∀(l:List Oper) (k:Nat) (a:Act),(∀ o∈l,o.dst≠some t)->(bA vs l k a).tmps[t]? =a.tmps[t]?
 |[],_,_,_=>rfl
 |o :: r,k,a,h=>by rw[bA,oV vs t r _ _ (fun o' ho=>h o' (List.mem_cons_of_mem _ ho)),iq _ _ _ _ (h o List.mem_cons_self)]
theorem rz (vs:Nat->Value)(t:Tmp):∀(l:List Oper) (k:Nat) (a:Act) (i:Nat) (o:Oper),l[i]? =some o->o.dst=some t->t<a.tmps.size->(∀ j o',i<j->l[j]? =some o'->o'.dst≠some t)->
 (bA vs l k a).tmps[t]? =some (vs (k+i))
 |[],_,_,_,_,h,_,_,_=>by simp at h
 |o' :: r,k,a,0,o,h,ht,hs,hn=>by
  obtain rfl:o'=o:=by simpa using h
  rw[bA,oV vs t r _ _ (fun o2 ho2=>by
   obtain⟨j,hj⟩:=List.mem_iff_getElem?.1 ho2
   exact hn (j+1) o2 (by omega) (by simpa using hj)),ht,mo _ _ _ hs]
  rfl
 |o' :: r,k,a,i+1,o,h,ht,hs,hn=>by
  rw[bA,rz vs t r (k+1) _ i o (by simpa using h) ht (by rw[kP];exact hs) (fun j o2 hj ho2=>hn (j+1) o2 (by omega) (by simpa using ho2))]
  congr 2
  omega
theorem vQ {α:Type}{p q:α->Bool}:∀{l:List α} {x:α},(∀ y∈l,q y=true->p y=true)->x∈l->p x=true->q x=false->l.countP q<l.countP p
 |[],x,_,hx,_,_=>by cases hx
 |y :: l,x,h,hx,hp,hq=>by
  have hle:l.countP q<=l.countP p:=List.countP_mono_left (fun z hz=>h z (List.mem_cons_of_mem _ hz))
  rw[List.countP_cons,List.countP_cons]
  rcases List.mem_cons.1 hx with rfl|hx
  . rw[hp,hq];simp;omega
  . have ih:=vQ (fun z hz=>h z (List.mem_cons_of_mem _ hz)) hx hp hq
    have h1:=h y List.mem_cons_self;cases hqy:q y with
    |false=>cases p y<;>simp<;>omega
    |true=>rw[h1 hqy];simp;omega
def unl (ops:Array Oper)(L:Array Bool):Nat:=(List.range ops.size).countP fun j=>!L.getD j true
theorem di {L:Array Bool}{j:Nat}(h:j<L.size)(b c:Bool):L.getD j b=L.getD j c:=by
 rw[Array.getD_eq_getD_getElem?,Array.getD_eq_getD_getElem?,Array.getElem?_eq_getElem h];rfl
theorem lN {L:Array Bool}{i:Nat}(hL:L.size=ops.size)(hi:i<ops.size)(h:L.getD i true=false):unl ops (L.setIfInBounds i true)<unl ops L:=by
 refine vQ (x:=i) (fun y hy hq=>?_) (List.mem_range.2 hi) (by rw[h];rfl) ?_
 . by_cases hiy:i=y
   . subst hiy;rw[h];rfl
   . rw[getD_set_ne true hiy]at hq;exact hq
 . have:(L.setIfInBounds i true).getD i true=true:=by
    rw[Array.getD_eq_getD_getElem?,Array.getElem?_setIfInBounds_self_of_lt (by omega)]
    rfl
   rw[this];rfl
theorem jy {L:Array Bool}(hL:L.size=ops.size)(hedge:∀(i:Nat)(o:Oper),ops[i]? =some o->∀ e∈o.after,Region.binds .any e=true->e.on<i)(hr:Region.ready .any ops L=[]):∀ j,j<ops.size->L.getD j false=true:=by
 intro j
 induction j using Nat.strongRecOn with
 |ind j ih=>
  intro hj;cases hL':L.getD j false with
  |true=>rfl
  |false=>
   have:j∈Region.ready .any ops L:=mem_ready.2 ⟨by rw[di (by omega) true false];exact hL',ops[j],Array.getElem?_eq_getElem hj,fun e he hb=>by
    have:=hedge j ops[j] (Array.getElem?_eq_getElem hj) e he hb
    exact ih e.on this (by omega)⟩
   rw[hr]at this;cases this
theorem ja {L:Array Bool}(hL:L.size=ops.size)(h:∀ j,j<ops.size->L.getD j false=true):Region.ready .any ops L=[]:=by
 cases hr:Region.ready .any ops L with
 |nil=>rfl
 |cons j r=>
  have hj:j∈Region.ready .any ops L:=by rw[hr];exact List.mem_cons_self
  obtain⟨h1,o,ho,_⟩:=mem_ready.1 hj;have hlt:=(Array.getElem?_eq_some_iff.1 ho).1;have:=h j hlt;rw[di (by omega) false true,h1]at this
  cases this
structure Well (ops:Array Oper)(N n:Nat):Prop where
 guard:∀(i:Nat) (o:Oper),ops[i]? =some o->o.guard=none
 edge:∀(i:Nat) (o:Oper),ops[i]? =some o->∀ e∈o.after,Region.binds .any e=true->e.on<i
 slot:∀ i t,aH ops i=some t->t<N
 apart:∀ i j t,aH ops i=some t->aH ops j=some t->i=j
 size:ops.size=n\/(ops.size=n+1/\∀ j,j<n->Region.dJ .any ops j ops.size n=true)
theorem mG {j:Nat}{t:Tmp}(h:aH ops j=some t):j<ops.size:=by
 unfold aH at h;cases ho:ops[j]? with
 |none=>rw[ho]at h;cases h
 |some o=>exact(Array.getElem?_eq_some_iff.1 ho).1
theorem uW {N n:Nat}(h:rM ops N n=true):Well ops N n:=by
 unfold rM at h;simp only[Bool.and_eq_true]at h;obtain⟨h1,h2⟩:=h
 have key:∀(i:Nat) (o:Oper),ops[i]? =some o->(o.guard.isNone && (o.after.all fun e=>!Region.binds .any e || decide (e.on<i)) && (match o.dst with
  |some t=>decide (t<N) && (List.range ops.size).all (fun j=>j==i || aH ops j != some t)
  |none=>true))=true:=fun i o ho=>by
  have:=List.all_eq_true.1 h1 i (List.mem_range.2 (Array.getElem?_eq_some_iff.1 ho).1);simp only[ho]at this;exact this
 refine⟨fun i o ho=>?_,fun i o ho e he hb=>?_,fun i t ht=>?_,fun i j t hi hj=>?_,?_⟩
 . have:=key i o ho;simp only[Bool.and_eq_true,Option.isNone_iff_eq_none]at this;exact this.1.1
 . have:=key i o ho;simp only[Bool.and_eq_true]at this;have h3:=Array.all_eq_true_iff_forall_mem.1 this.1.2 e he
   simpa [hb] using h3
 . unfold aH at ht;cases ho:ops[i]? with
   |none=>rw[ho]at ht;cases ht
   |some o=>
    rw[ho]at ht;have hd:o.dst=some t:=ht;have:=key i o ho;simp only[Bool.and_eq_true,hd,decide_eq_true_eq]at this;exact this.2.1
 . have hjl:=mG hj;unfold aH at hi;cases ho:ops[i]? with
   |none=>rw[ho]at hi;cases hi
   |some o=>
    rw[ho]at hi;have hd:o.dst=some t:=hi;have:=key i o ho;simp only[Bool.and_eq_true,hd,decide_eq_true_eq]at this;have h4:=List.all_eq_true.1 this.2.2 j (List.mem_range.2 hjl);simp only[Bool.or_eq_true,beq_iff_eq,bne_iff_ne,ne_eq]at h4
    rcases h4 with h4|h4
    . exact h4.symm
    . exact absurd hj h4
 . simp only[Bool.or_eq_true,Bool.and_eq_true,beq_iff_eq]at h2
   rcases h2 with h2|h2
   . exact .inl h2
   . exact .inr ⟨h2.1,fun j hj=>List.all_eq_true.1 h2.2 j (List.mem_range.2 hj)⟩
theorem uU {a b:Act}(h:a.tmps=b.tmps)(k:a.defers=b.defers):a=b:=by
 cases a;cases b;cases h;cases k;rfl
theorem lW {n N:Nat}(hw:Well ops N n){a a0:Act}(hN:a0.tmps.size=N)(hs:a.tmps.size=a0.tmps.size)(hd:a.defers=a0.defers)
 (hf:∀ t,(∀ j,j<n->aH ops j≠some t)->a.tmps[t]? =a0.tmps[t]?):
 a=bA (fun j=>match aH ops j with|some t=>a.eval (.tmp t)|none=>undef) (ops.toList.take n) 0 a0:=by
 refine uU ?_ ?_
 . apply Array.ext_getElem?;intro t
   by_cases ht:∃ j,j<n/\aH ops j=some t
   . obtain⟨j,hj,hjt⟩:=ht;have hjl:=mG hjt;have ho:ops[j]? =some ops[j]:=Array.getElem?_eq_getElem hjl;have hdst:ops[j].dst=some t:=by unfold aH at hjt;rw[ho]at hjt;exact hjt
     have htN:=hw.slot j t hjt;rw[rz _ t _ 0 _ j ops[j] (by rw[List.getElem?_take_of_lt hj,Array.getElem?_toList];exact ho) hdst (by rw[hN];exact htN) ?_,Nat.zero_add]
     . simp only[hjt];exact qW (by rw[hs,hN];exact htN)
     . intro j' o' hj' ho' hd'
       have hlt:j'<n:=by
        rcases Nat.lt_or_ge j' n with h|h
        . exact h
        . rw[List.getElem?_eq_none (by rw[List.length_take];omega)]at ho';cases ho'
       rw[List.getElem?_take_of_lt hlt,Array.getElem?_toList]at ho';have:=hw.apart j j' t hjt (by unfold aH;rw[ho'];exact hd')
       omega
   . have hno:∀ j,j<n->aH ops j≠some t:=fun j hj he=>ht ⟨j,hj,he⟩
     rw[hf t hno,oV];intro o ho hd';obtain⟨j,hj⟩:=List.mem_iff_getElem?.1 ho
     have hlt:j<n:=by
      rcases Nat.lt_or_ge j n with h|h
      . exact h
      . rw[List.getElem?_eq_none (by rw[List.length_take];omega)]at hj;cases hj
     rw[List.getElem?_take_of_lt hlt,Array.getElem?_toList]at hj;exact hno j hlt (by unfold aH;rw[hj];exact hd')
 . rw[l5,hd]
theorem Cx {n N:Nat}(hw:Well ops N n){a0:Act}(hN:a0.tmps.size=N){V:Nat->Value->World->Prop}{J:Array Bool->World->Prop}{G:Nat->World->World->Prop}
 (hJ:∀ k L w w',k<n->L.size=ops.size->L.getD k false=false->J L w->G k w w'->J (L.setIfInBounds k true) w') (hV:∀ i j v w w',i<n->i≠j->Region.dJ .any ops i ops.size j=false->V j v w->G i w w'->V j v w')
 (hstep:∀ i o,ops[i]? =some o->i<n->ug P Q ops n V J G a0 i o)
 (hend:∀ a w L,J L w->(∀ j,j<n->L.getD j false=true)->a.defers=a0.defers->(∀ j t,j<n->aH ops j=some t->V j (a.eval (.tmp t)) w)->a=bA (fun j=>match aH ops j with|some t=>a.eval (.tmp t)|none=>undef) (ops.toList.take n) 0 a0->upto P ops Q n a w):
 ∀(fuel:Nat) (L:Array Bool) (a:Act) (w:World),unl ops L<=fuel->Inv V J ops n a0 L a w->wpAny P .any ops Q fuel L a w:=by
 have hdone:∀(L:Array Bool) (a:Act) (w:World),Inv V J ops n a0 L a w->Region.ready .any ops L=[]->Q .normal a w:=by
  intro L a w hI hr;have hall:=jy hI.lsize hw.edge hr
  have hsz:ops.size=n:=by
   rcases hw.size with h|⟨h,_⟩
   . exact h
   . have h1:=hall n (by omega)
     rw[hI.last n (Nat.le_refl _)]at h1;cases h1
  have:=(hend a w L hI.below (fun j hj=>hall j (by omega)) hI.defers (fun j t hj ht=>hI.has j t hj ht (hall j (by omega))) (lW hw hN hI.size hI.defers hI.frame)).out
  rw[Array.getElem?_eq_none (by omega)]at this
  exact this
 intro fuel
 induction fuel with
 |zero=>
  intro L a w hu hI
  have hall:∀ j,j<ops.size->L.getD j false=true:=by
   intro j hj;cases hL:L.getD j false with
   |true=>rfl
   |false=>
    have:0<unl ops L:=List.countP_pos_iff.2 ⟨j,List.mem_range.2 hj,by rw[di (by have:=hI.lsize;omega) true false,hL];rfl⟩
    omega
  have hr:=ja hI.lsize hall;exact⟨hr,hdone L a w hI hr⟩
 |succ fuel ih=>
  intro L a w hu hI;refine⟨hdone L a w hI,fun i hi=>?_⟩
  obtain⟨hiun,o,ho,hafter⟩:=mem_ready.1 hi;have hlt:=(Array.getElem?_eq_some_iff.1 ho).1;have hg:=hw.guard i o ho;have hunl:=lN hI.lsize hlt hiun;have hclosed:=hI.closed.set hi;unfold wpOp;rw[ho];simp only;have hwant:Region.wanted o (yielded ops a.tmps)=true:=by unfold Region.wanted;rw[hg]
  rw[if_pos hwant];left
  by_cases hin:i<n
  . refine hstep i o ho hin a w L (fun t ht=>fZ (hI.frame t (mZ ht))) (by rw[di (by have:=hI.lsize;omega) false true];exact hiun) hI.below hI.defers (fun j t hj=>?_) _ (fun v w' hb hv=>?_)
    . obtain⟨⟨e,he,hb,rfl⟩,ht⟩:=jY hj;have:=hw.edge i o ho e he hb;exact hI.has _ t (by omega) ht (hafter e he hb)
    . refine ih _ _ _ (by omega) ⟨?_,?_,?_,?_,?_,hclosed,?_,?_⟩
      . rw[kP,hI.size]
      . rw[put_defers,hI.defers]
      . intro t ht;rw[iq _ _ _ _ (fun hd=>ht i hin (by unfold aH;rw[ho];exact hd)),hI.frame t ht]
      . intro j t hj ht hl
        by_cases hji:i=j
        . subst hji;have hd:o.dst=some t:=by unfold aH at ht;rw[ho]at ht;exact ht
          have htN:=hw.slot i t ht;rw[hd,jT (mo a t v (by rw[hI.size,hN];exact htN))]
          exact hv
        . rw[getD_set_ne false hji]at hl;have hd:o.dst≠some t:=fun hd=>hji (hw.apart i j t (by unfold aH;rw[ho];exact hd) ht)
          rw[fZ (iq a o.dst v t hd)];refine hV i j _ w w' hin hji ?_ (hI.has j t hj ht hl) hb;cases hrc:Region.dJ .any ops i ops.size j with
          |false=>rfl
          |true=>
           have h1:=Region.iM hI.closed _ _ hrc hl;rw[di (by have:=hI.lsize;omega) false true,hiun]at h1
           cases h1
      . exact hJ i L w w' hin hI.lsize (by rw[di (by have:=hI.lsize;omega) false true];exact hiun) hI.below hb
      . rw[Array.size_setIfInBounds,hI.lsize]
      . intro j hj;rw[getD_set_ne false (show i≠j by omega)]
        exact hI.last j hj
  . obtain⟨hsz,hreach⟩:ops.size=n+1/\∀ j,j<n->Region.dJ .any ops j ops.size n=true:=by
     rcases hw.size with h|h
     . omega
     . exact h
    have hni:i=n:=by omega
    subst hni;have hun0:L.getD i false=false:=hI.last i (Nat.le_refl _)
    have hall:∀ j,j<i->L.getD j false=true:=by
     intro j hj;cases hL:L.getD j false with
     |true=>rfl
     |false=>
      have:=Region.fV hI.closed (hreach j hj) (by rw[di (by have:=hI.lsize;omega) true false];exact hL)
      exact absurd hi this
    have hh:=(hend a w L hI.below hall hI.defers (fun j t hj ht=>hI.has j t hj ht (hall j hj)) (lW hw hN hI.size hI.defers hI.frame)).out
    rw[ho]at hh;refine Oper.wp_mono (fun a' w' hq=>?_) hh
    have hsz':(L.setIfInBounds i true).size=ops.size:=by rw[Array.size_setIfInBounds,hI.lsize]
    have hr:Region.ready .any ops (L.setIfInBounds i true)=[]:=ja hsz' (fun j hj=>by
     by_cases hji:i=j
     . subst hji;rw[Array.getD_eq_getD_getElem?,Array.getElem?_setIfInBounds_self_of_lt (by have:=hI.lsize;omega)]
       rfl
     . rw[getD_set_ne false hji]
       exact hall j (by omega))
    cases fuel with
    |zero=>exact⟨hr,hq⟩
    |succ f=>exact⟨fun _=>hq,by rw[hr];intro j hj;cases hj⟩
theorem pz {id:Nat}{a0:Act}{w0:World}(n N:Nat)(V:Nat->Value->World->Prop)(J:Array Bool->World->Prop)(G:Nat->World->World->Prop)(hm:P.follows .mixedOrders=true)(hN:a0.tmps.size=N)(hwell:rM ops N n=true)
 (hJ0:J (Array.replicate ops.size false) w0.drew) (hJ:∀ k L w w',k<n->L.size=ops.size->L.getD k false=false->J L w->G k w w'->J (L.setIfInBounds k true) w') (hV:∀ i j v w w',i<n->i≠j->Region.dJ .any ops i ops.size j=false->V j v w->G i w w'->V j v w') (hstep:au P Q ops n V J G a0 0 (ops.toList.take n))
 (hend:∀(vs:Nat->Value) w L,J L w->(∀ j,j<n->L.getD j false=true)->(∀ j t,j<n->aH ops j=some t->V j (vs j) w)->upto P ops Q n (bA vs (ops.toList.take n) 0 a0) w):
 (Code.region id ops true).wp P Q a0 w0:=by
 have hw:=uW hwell;refine wp_region_any hm (Cx hw hN hJ hV (fun i o ho hi=>?_) (fun a w L hb hl _ hh he=>?_) _ _ _ _ ?_ ?_)
 . have h:=au.at hstep (i:=i) (o:=o) (by rw[List.getElem?_take_of_lt hi,Array.getElem?_toList];exact ho)
   rwa [Nat.zero_add]at h
 . rw[he];refine hend _ w L hb hl (fun j t hj ht=>?_)
   simp only[ht];exact hh j t hj ht
 . unfold unl;refine Nat.le_trans List.countP_le_length ?_;rw[List.length_range];exact Nat.le_refl _
 . have hlf:∀ j,(Array.replicate ops.size false).getD j false=false:=fun j=>by
    rw[Array.getD_eq_getD_getElem?]
    by_cases h:j<ops.size
    . rw[Array.getElem?_eq_getElem (by rw[Array.size_replicate];exact h),Array.getElem_replicate];rfl
    . rw[Array.getElem?_eq_none (by rw[Array.size_replicate];omega)];rfl
   exact⟨rfl,rfl,fun _ _=>rfl,fun j t _ _ h=>by(rw[hlf]at h;cases h),hJ0,fun j o _ h=>by(rw[hlf]at h;cases h),by rw[Array.size_replicate],fun j _=>hlf j⟩
theorem weave {id:Nat}{a0:Act}{w0:World}(n N:Nat)(V:Nat->Value->World->Prop)(hm:P.follows .mixedOrders=true)(hN:a0.tmps.size=N)(hwell:rM ops N n=true)
 (hV:∀ j v w w',V j v w->Below w.heap.size w w'->V j v w') (hstep:Steps P Q ops n V a0 w0 0 (ops.toList.take n))
 (hend:∀(vs:Nat->Value) w,Below w0.heap.size w0 w->(∀ j t,j<n->aH ops j=some t->V j (vs j) w)->upto P ops Q n (bA vs (ops.toList.take n) 0 a0) w):
 (Code.region id ops true).wp P Q a0 w0:=
 pz n N V (fun _=>Below w0.heap.size w0) (fun _ w w'=>Below w.heap.size w w') hm hN hwell (bv zc) (fun _ _ w w' _ _ _ h k=>ag h h.size k) (fun _ j v w w' _ _ _ h k=>hV j v w w' h k) hstep.gen (fun vs w _ hb _ hh=>hend vs w hb hh)
theorem af {o:Oper}{a:Act}{w w':World}{v:Value}{K:Act->World->Prop}(hrun:(execOp a.eval o).run P w=.ok (.value v) w')(h:K (a.put o.dst v) w'):Oper.wp P o a w K Q:=by
 unfold Oper.wp;rw[hrun];exact h
theorem wp_skip {o:Oper}{a:Act}{w w':World}{K:Act->World->Prop}(hN:o.dst=none)(hrun:(execOp a.eval o).run P w=.ok .skip w')(h:K a w'):Oper.wp P o a w K Q:=by
 unfold Oper.wp;rw[hrun];show K (a.put o.dst undef) w'
 rw[hN];exact h
theorem ek {o:Oper}{a:Act}{w:World}{K:Act->World->Prop}{f:FuncId}{fn:Func}{as:Array Operand}{ts:Array TypeId}(hf:P.funcs[f]? =some fn)(hname:(fn.name== "runtime.NumGoroutine")=false)(hb:fn.body.isSome=true)(args:Array Value)
 (hop:o.op=.call { callee:=.value (.func f),args:=as,argTypes:=ts }) (hargs:as.map a.eval=args)
 (h:Calls P f args w fun e w'=>∃ v,e=.returned v/\K (a.put o.dst v) w'):Oper.wp P o a w K Q:=by
 have he:=kw hf hname hb args w
 have hrun:(execOp a.eval o).run P w=.ok (.enter f args) w:=by
  unfold execOp;simp [hop,resolve,Deferred.ofValue,invoke,Act.eval,hargs,he]
 unfold Oper.wp;rw[hrun,Oper.upon_enter];refine h.mono fun e w'' hh=>?_
 obtain⟨v,rfl,hk⟩:=hh;exact hk
end
end
section
section
variable {P:Program} {ops:Array Oper} {Q:Exit→Act→World→Prop}
def wX (o:Oper)(j:Nat):Bool:=o.after.any fun e=>Region.binds .any e && e.on==j
def uB (ops:Array Oper)(N n:Nat)(X:List (Nat×Nat)):Bool:=
 ((List.range ops.size).all fun i=>match ops[i]? with
  |some o=>o.guard.isNone && (o.after.all fun e=>!Region.binds .any e || decide (e.on<i)) && (match o.dst with
   |some t=>decide (t<N) && (List.range ops.size).all (fun j=>j==i || aH ops j != some t)
   |none=>true)
  |none=>false) && decide (n<=ops.size) && ((List.range ops.size).all fun k=>decide (k<n) || (List.range k).all fun j=>Region.dJ .any ops j ops.size k) &&
  (X.all fun p=>(List.range n).all fun i=>match ops[i]? with
   |some o=>!wX o p.2 || i==p.1 || Region.dJ .any ops i ops.size p.1
   |none=>true)
structure sW (ops:Array Oper)(N n:Nat)(X:List (Nat×Nat)):Prop where
 guard:∀(i:Nat) (o:Oper),ops[i]? =some o->o.guard=none
 edge:∀(i:Nat) (o:Oper),ops[i]? =some o->∀ e∈o.after,Region.binds .any e=true->e.on<i
 slot:∀ i t,aH ops i=some t->t<N
 apart:∀ i j t,aH ops i=some t->aH ops j=some t->i=j
 size:n<=ops.size
 tail:∀ k,n<=k->k<ops.size->∀ j,j<k->Region.dJ .any ops j ops.size k=true
 kill:∀ p∈X,∀(i:Nat) (o:Oper),i<n->ops[i]? =some o->wX o p.2=true->i=p.1\/Region.dJ .any ops i ops.size p.1=true
theorem xQ {N n:Nat}{X:List (Nat×Nat)}(h:uB ops N n X=true):sW ops N n X:=by
 unfold uB at h;simp only[Bool.and_eq_true,decide_eq_true_eq]at h;obtain⟨⟨⟨h1,h2⟩,h3⟩,h4⟩:=h
 have key:∀(i:Nat) (o:Oper),ops[i]? =some o->(o.guard.isNone && (o.after.all fun e=>!Region.binds .any e || decide (e.on<i)) && (match o.dst with
  |some t=>decide (t<N) && (List.range ops.size).all (fun j=>j==i || aH ops j != some t)
  |none=>true))=true:=fun i o ho=>by
  have:=List.all_eq_true.1 h1 i (List.mem_range.2 (Array.getElem?_eq_some_iff.1 ho).1);simp only[ho]at this;exact this
 refine⟨fun i o ho=>?_,fun i o ho e he hb=>?_,fun i t ht=>?_,fun i j t hi hj=>?_,h2,fun k hk hks j hj=>?_,fun p hp i o hin ho hu=>?_⟩
 . have:=key i o ho;simp only[Bool.and_eq_true,Option.isNone_iff_eq_none]at this;exact this.1.1
 . have:=key i o ho;simp only[Bool.and_eq_true]at this;have h3:=Array.all_eq_true_iff_forall_mem.1 this.1.2 e he
   simpa [hb] using h3
 . unfold aH at ht;cases ho:ops[i]? with
   |none=>rw[ho]at ht;cases ht
   |some o=>
    rw[ho]at ht;have hd:o.dst=some t:=ht;have:=key i o ho;simp only[Bool.and_eq_true,hd,decide_eq_true_eq]at this;exact this.2.1
 . have hjl:=mG hj;unfold aH at hi;cases ho:ops[i]? with
   |none=>rw[ho]at hi;cases hi
   |some o=>
    rw[ho]at hi;have hd:o.dst=some t:=hi;have:=key i o ho;simp only[Bool.and_eq_true,hd,decide_eq_true_eq]at this;have h4:=List.all_eq_true.1 this.2.2 j (List.mem_range.2 hjl);simp only[Bool.or_eq_true,beq_iff_eq,bne_iff_ne,ne_eq]at h4
    rcases h4 with h4|h4
    . exact h4.symm
    . exact absurd hj h4
 . have:=List.all_eq_true.1 h3 k (List.mem_range.2 hks);simp only[Bool.or_eq_true,decide_eq_true_eq]at this
   rcases this with h|h
   . omega
   . exact List.all_eq_true.1 h j (List.mem_range.2 hj)
 . have:=List.all_eq_true.1 (List.all_eq_true.1 h4 p hp) i (List.mem_range.2 hin);simp only[ho,hu,Bool.not_true,Bool.false_or,Bool.or_eq_true,beq_iff_eq]at this;exact this
structure InvX (V:Nat->Value->World->Prop)(J:Array Bool->World->Prop)(ops:Array Oper)(n:Nat)(X:List (Nat×Nat))(a0:Act)(L:Array Bool)(a:Act)(w:World):Prop where
 size:a.tmps.size=a0.tmps.size
 defers:a.defers=a0.defers
 frame:∀ t,(∀ j,j<n->aH ops j≠some t)->a.tmps[t]? =a0.tmps[t]?
 has:∀ j t,j<n->aH ops j=some t->L.getD j false=true->(∀ k,(k,j)∈X->L.getD k false=false)->V j (a.eval (.tmp t)) w
 below:J L w
 closed:dK .any ops L
 lsize:L.size=ops.size
 last:∀ j,n<=j->L.getD j false=false
theorem ww {N n:Nat}{X:List (Nat×Nat)}(hw:sW ops N n X){a a0:Act}(hN:a0.tmps.size=N)(hs:a.tmps.size=a0.tmps.size)(hd:a.defers=a0.defers)
 (hf:∀ t,(∀ j,j<n->aH ops j≠some t)->a.tmps[t]? =a0.tmps[t]?):
 a=bA (fun j=>match aH ops j with|some t=>a.eval (.tmp t)|none=>undef) (ops.toList.take n) 0 a0:=by
 refine uU ?_ (by rw[l5,hd])
 apply Array.ext_getElem?;intro t
 by_cases h:∀ j,j<n->aH ops j≠some t
 . rw[hf t h,oV];intro o ho hdt;obtain⟨i,hi,hoi⟩:=List.getElem_of_mem ho;have hi':(ops.toList.take n)[i]? =some o:=by rw[List.getElem?_eq_getElem hi,hoi]
   rw[List.getElem?_take]at hi'
   split at hi'
   . rename_i hin
     rw[Array.getElem?_toList]at hi';exact h i hin (by unfold aH;rw[hi'];exact hdt)
   . cases hi'
 . have h':∃ j,j<n/\aH ops j=some t:=by
    apply Classical.byContradiction;intro hno;exact h (fun j hj hs=>hno ⟨j,hj,hs⟩)
   obtain⟨j,hj,hjt⟩:=h';have hjt':=hjt;unfold aH at hjt;cases ho:ops[j]? with
   |none=>rw[ho]at hjt;cases hjt
   |some o=>
    rw[ho]at hjt;have htN:t<a0.tmps.size:=by rw[hN];exact hw.slot j t hjt'
    have hp:=rz (fun j=>match aH ops j with|some t=>a.eval (.tmp t)|none=>undef) t (ops.toList.take n) 0 a0 j o (by rw[List.getElem?_take_of_lt hj,Array.getElem?_toList];exact ho) hjt htN (fun j2 o2 hlt hj2 hd2=>by
     rw[List.getElem?_take]at hj2
     split at hj2
     . rw[Array.getElem?_toList]at hj2;have:=hw.apart j j2 t hjt' (by unfold aH;rw[hj2];exact hd2)
       omega
     . cases hj2)
    rw[hp];simp only[Nat.zero_add,hjt'];exact qW (by rw[hs];exact htN)
theorem xy {N n:Nat}{X:List (Nat×Nat)}(hw:sW ops N n X):∀(fuel k:Nat) (L:Array Bool) (a:Act) (w:World),n<=k->k<=ops.size->L.size=ops.size->dK .any ops L->(∀ j,j<k->L.getD j false=true)->(∀ j,k<=j->L.getD j false=false)->unl ops L<=fuel->wpList P ops Q (ops.toList.drop k) a w->wpAny P .any ops Q fuel L a w:=by
 have hdone:∀(k:Nat) (L:Array Bool) (a:Act) (w:World),¬ k<ops.size->L.size=ops.size->(∀ j,j<k->L.getD j false=true)->wpList P ops Q (ops.toList.drop k) a w->Region.ready .any ops L=[]/\Q .normal a w:=fun k L a w hk hL h1 hq=>by
  rw[List.drop_eq_nil_of_le (by simp;omega)]at hq
  exact⟨ja hL (fun j hj=>h1 j (by omega)),hq⟩
 intro fuel
 induction fuel with
 |zero=>
  intro k L a w hn hk hL hc h1 h2 hu hq;refine hdone k L a w (fun hlt=>?_) hL h1 hq
  have:0<unl ops L:=List.countP_pos_iff.2 ⟨k,List.mem_range.2 hlt,by rw[di (by omega) true false,h2 k (Nat.le_refl _)];rfl⟩
  omega
 |succ fuel ih=>
  intro k L a w hn hk hL hc h1 h2 hu hq
  by_cases hlt:k<ops.size
  . obtain⟨o,ho⟩:∃ o,ops[k]? =some o:=⟨_,Array.getElem?_eq_getElem hlt⟩
    have hd:ops.toList.drop k=o :: ops.toList.drop (k+1):=by
     rw[List.drop_eq_getElem_cons (by simpa using hlt)]
     congr 1
     have:=(Array.getElem?_eq_some_iff.1 ho).2
     simpa using this
    rw[hd]at hq;refine⟨fun hr=>?_,fun i hi=>?_⟩
    . have:=jy hL hw.edge hr k hlt;rw[h2 k (Nat.le_refl _)]at this;cases this
    . obtain⟨hiun,oi,hoi,hafter⟩:=mem_ready.1 hi;have hilt:=(Array.getElem?_eq_some_iff.1 hoi).1
      have hik:i=k:=by
       rcases Nat.lt_trichotomy i k with h|h|h
       . have:=h1 i h;rw[di (by omega) false true,hiun]at this
         cases this
       . exact h
       . exact absurd hi (Region.fV hc (hw.tail i (by omega) hilt k h) (by rw[di (by omega) true false];exact h2 k (Nat.le_refl _)))
      subst hik;have hg:=hw.guard i o ho;have hwant:Region.wanted o (yielded ops a.tmps)=true:=by unfold Region.wanted;rw[hg]
      unfold wpOp;rw[ho];simp only;unfold wpList at hq;rw[if_pos hwant]at hq ⊢;have hunl:=lN hL hlt hiun;refine hq.imp (fun hq=>Oper.wp_mono (fun a' w' hq=>?_) hq) id
      refine ih (i+1) _ a' w' (by omega) (by omega) (by rw[Array.size_setIfInBounds,hL]) (hc.set hi) (fun j hj=>?_) (fun j hj=>?_) (by omega) hq
      . by_cases e:i=j
        . subst e;rw[Array.getD_eq_getD_getElem?,Array.getElem?_setIfInBounds_self_of_lt (by omega)]
          rfl
        . rw[getD_set_ne false e];exact h1 j (by omega)
      . rw[getD_set_ne false (show i≠j by omega)]
        exact h2 j (by omega)
  . obtain⟨hr,hq2⟩:=hdone k L a w hlt hL h1 hq;exact⟨fun _=>hq2,by rw[hr];intro j hj;cases hj⟩
theorem Bq {n N:Nat}{X:List (Nat×Nat)}(hw:sW ops N n X){a0:Act}(hN:a0.tmps.size=N){V:Nat->Value->World->Prop}{J:Array Bool->World->Prop}{G:Nat->World->World->Prop}
 (hJ:∀ k L w w',k<n->L.size=ops.size->L.getD k false=false->J L w->G k w w'->J (L.setIfInBounds k true) w') (hV:∀ i j v w w',i<n->i≠j->(i,j)∉X->Region.dJ .any ops i ops.size j=false->V j v w->G i w w'->V j v w')
 (hstep:∀ i o,ops[i]? =some o->i<n->ug P Q ops n V J G a0 i o)
 (hend:∀ a w L,J L w->(∀ j,j<n->L.getD j false=true)->a.defers=a0.defers->(∀ j t,j<n->aH ops j=some t->(∀ k,k<n->(k,j)∉X)->V j (a.eval (.tmp t)) w)->a=bA (fun j=>match aH ops j with|some t=>a.eval (.tmp t)|none=>undef) (ops.toList.take n) 0 a0->wpList P ops Q (ops.toList.drop n) a w):
 ∀(fuel:Nat) (L:Array Bool) (a:Act) (w:World),unl ops L<=fuel->InvX V J ops n X a0 L a w->wpAny P .any ops Q fuel L a w:=by
 have hfin:∀(fuel:Nat) (L:Array Bool) (a:Act) (w:World),unl ops L<=fuel->InvX V J ops n X a0 L a w->(∀ j,j<n->L.getD j false=true)->wpAny P .any ops Q fuel L a w:=by
  intro fuel L a w hu hI hall;refine xy hw fuel n L a w (Nat.le_refl _) hw.size hI.lsize hI.closed hall hI.last hu ?_;refine hend a w L hI.below hall hI.defers (fun j t hj ht hX=>hI.has j t hj ht (hall j hj) (fun k hk=>?_)) (ww hw hN hI.size hI.defers hI.frame)
  by_cases hkn:k<n
  . exact absurd hk (hX k hkn)
  . exact hI.last k (by omega)
 intro fuel
 induction fuel with
 |zero=>
  intro L a w hu hI;refine hfin 0 L a w hu hI (fun j hj=>?_)
  have hjs:j<ops.size:=Nat.lt_of_lt_of_le hj hw.size;cases hL:L.getD j false with
  |true=>rfl
  |false=>
   have:0<unl ops L:=List.countP_pos_iff.2 ⟨j,List.mem_range.2 hjs,by rw[di (by have:=hI.lsize;omega) true false,hL];rfl⟩
   omega
 |succ fuel ih=>
  intro L a w hu hI
  by_cases hall:∀ j,j<n->L.getD j false=true
  . exact hfin (fuel+1) L a w hu hI hall
  . refine⟨fun hr=>?_,fun i hi=>?_⟩
    . exact absurd (fun j hj=>jy hI.lsize hw.edge hr j (Nat.lt_of_lt_of_le hj hw.size)) hall
    . obtain⟨hiun,o,ho,hafter⟩:=mem_ready.1 hi;have hlt:=(Array.getElem?_eq_some_iff.1 ho).1;have hg:=hw.guard i o ho;have hunl:=lN hI.lsize hlt hiun;have hclosed:=hI.closed.set hi;unfold wpOp;rw[ho];simp only;have hwant:Region.wanted o (yielded ops a.tmps)=true:=by unfold Region.wanted;rw[hg]
      rw[if_pos hwant];left;have hiun':L.getD i false=false:=by rw[di (by have:=hI.lsize;omega) false true];exact hiun
      have hin:i<n:=by
       apply Classical.byContradiction;intro hge;apply hall;intro j hj;cases hL:L.getD j false with
       |true=>rfl
       |false=>exact absurd hi (Region.fV hI.closed (hw.tail i (by omega) hlt j (by omega)) (by rw[di (by have:=hI.lsize;have:=hw.size;omega) true false];exact hL))
      refine hstep i o ho hin a w L (fun t ht=>fZ (hI.frame t (mZ ht))) hiun' hI.below hI.defers (fun j t hj=>?_) _ (fun v w' hb hv=>?_)
      . obtain⟨⟨e,he,hb,rfl⟩,ht⟩:=jY hj;have hle:=hw.edge i o ho e he hb;refine hI.has _ t (by omega) ht (hafter e he hb) (fun k hk=>?_)
        have hu:wX o e.on=true:=by
         unfold wX;rw[Array.any_eq_true'];exact⟨e,he,by simp[hb]⟩
        rcases hw.kill (k,e.on) hk i o hin ho hu with h|h
        . rw[<-show i=k from h]
          exact hiun'
        . cases hL:L.getD k false with
          |false=>rfl
          |true=>
           have h1:=Region.iM hI.closed _ _ h hL;rw[di (by have:=hI.lsize;omega) false true,hiun]at h1
           cases h1
      . refine ih _ _ _ (by omega) ⟨?_,?_,?_,?_,?_,hclosed,?_,?_⟩
        . rw[kP,hI.size]
        . rw[put_defers,hI.defers]
        . intro t ht;rw[iq _ _ _ _ (fun hd=>ht i hin (by unfold aH;rw[ho];exact hd)),hI.frame t ht]
        . intro j t hj ht hl hX
          by_cases hji:i=j
          . subst hji;have hd:o.dst=some t:=by unfold aH at ht;rw[ho]at ht;exact ht
            have htN:=hw.slot i t ht;rw[hd,jT (mo a t v (by rw[hI.size,hN];exact htN))]
            exact hv
          . rw[getD_set_ne false hji]at hl;have hd:o.dst≠some t:=fun hd=>hji (hw.apart i j t (by unfold aH;rw[ho];exact hd) ht)
            rw[fZ (iq a o.dst v t hd)];refine hV i j _ w w' hin hji (fun hx=>?_) ?_ (hI.has j t hj ht hl (fun k hk=>?_)) hb
            . have:=hX i hx;rw[Array.getD_eq_getD_getElem?,Array.getElem?_setIfInBounds_self_of_lt (by have:=hI.lsize;omega)]at this
              cases this
            . cases hrc:Region.dJ .any ops i ops.size j with
              |false=>rfl
              |true=>
               have h1:=Region.iM hI.closed _ _ hrc hl;rw[hiun']at h1;cases h1
            . have:=hX k hk
              by_cases e:i=k
              . subst e;exact hiun'
              . rw[getD_set_ne false e]at this;exact this
        . exact hJ i L w w' hin hI.lsize hiun' hI.below hb
        . rw[Array.size_setIfInBounds,hI.lsize]
        . intro j hj;rw[getD_set_ne false (show i≠j by omega)]
          exact hI.last j hj
theorem mH {id:Nat}{a0:Act}{w0:World}(n N:Nat)(X:List (Nat×Nat))(V:Nat->Value->World->Prop)(J:Array Bool->World->Prop)(G:Nat->World->World->Prop)(hm:P.follows .mixedOrders=true)(hN:a0.tmps.size=N)(hwell:uB ops N n X=true)
 (hJ0:J (Array.replicate ops.size false) w0.drew) (hJ:∀ k L w w',k<n->L.size=ops.size->L.getD k false=false->J L w->G k w w'->J (L.setIfInBounds k true) w') (hV:∀ i j v w w',i<n->i≠j->(i,j)∉X->Region.dJ .any ops i ops.size j=false->V j v w->G i w w'->V j v w') (hstep:au P Q ops n V J G a0 0 (ops.toList.take n))
 (hend:∀(vs:Nat->Value) w L,J L w->(∀ j,j<n->L.getD j false=true)->(∀ j t,j<n->aH ops j=some t->(∀ k,k<n->(k,j)∉X)->V j (vs j) w)->wpList P ops Q (ops.toList.drop n) (bA vs (ops.toList.take n) 0 a0) w):
 (Code.region id ops true).wp P Q a0 w0:=by
 have hw:=xQ hwell;refine wp_region_any hm (Bq hw hN hJ hV (fun i o ho hi=>?_) (fun a w L hb hl _ hh he=>?_) _ _ _ _ ?_ ?_)
 . have h:=au.at hstep (i:=i) (o:=o) (by rw[List.getElem?_take_of_lt hi,Array.getElem?_toList];exact ho)
   rwa [Nat.zero_add]at h
 . rw[he];refine hend _ w L hb hl (fun j t hj ht hX=>?_)
   simp only[ht];exact hh j t hj ht hX
 . unfold unl;refine Nat.le_trans List.countP_le_length ?_;rw[List.length_range];exact Nat.le_refl _
 . have hlf:∀ j,(Array.replicate ops.size false).getD j false=false:=fun j=>by
    rw[Array.getD_eq_getD_getElem?]
    by_cases h:j<ops.size
    . rw[Array.getElem?_eq_getElem (by rw[Array.size_replicate];exact h),Array.getElem_replicate];rfl
    . rw[Array.getElem?_eq_none (by rw[Array.size_replicate];omega)];rfl
   exact⟨rfl,rfl,fun _ _=>rfl,fun j t _ _ h=>by(rw[hlf]at h;cases h),hJ0,fun j o _ h=>by(rw[hlf]at h;cases h),by rw[Array.size_replicate],fun j _=>hlf j⟩
theorem jZ {id:Nat}{a0:Act}{w0:World}(n N:Nat)(V:Nat->Value->World->Prop)(hm:P.follows .mixedOrders=true)(hN:a0.tmps.size=N)(hwell:uB ops N n []=true)
 (hV:∀ j v w w',V j v w->Below w.heap.size w w'->V j v w') (hstep:Steps P Q ops n V a0 w0 0 (ops.toList.take n))
 (hend:∀(vs:Nat->Value) w,Below w0.heap.size w0 w->(∀ j t,j<n->aH ops j=some t->V j (vs j) w)->wpList P ops Q (ops.toList.drop n) (bA vs (ops.toList.take n) 0 a0) w):
 (Code.region id ops true).wp P Q a0 w0:=
 mH n N [] V (fun _=>Below w0.heap.size w0) (fun _ w w'=>Below w.heap.size w w') hm hN hwell (bv zc) (fun _ _ w w' _ _ _ h k=>ag h h.size k) (fun _ j v w w' _ _ _ _ h k=>hV j v w w' h k) hstep.gen (fun vs w _ hb _ hh=>hend vs w hb (fun j t hj ht=>hh j t hj ht (fun _ _ hx=>by cases hx)))
end
end
section
section
variable {P:Program} {ops:Array Oper} {Q:Exit→Act→World→Prop}
def wU (P:Program)(Q:Exit->Act->World->Prop)(ops:Array Oper)(n N:Nat)(I:Array Bool->Act->World->Prop)(a0:Act)(k:Nat)(o:Oper):Prop:=
 ∀ a w L,(∀ t,noB ops n t=true->a.eval (.tmp t)=a0.eval (.tmp t))->L.size=ops.size->L.getD k false=false->I L a w->a.defers=a0.defers->a.tmps.size=N->
  (∀ j t,lI ops o j t=true->L.getD j false=true)->
  ∀ K:Act->World->Prop,(∀ v w',I (L.setIfInBounds k true) (a.put o.dst v) w'->K (a.put o.dst v) w')->Oper.wp P o a w K Q
def aN (P:Program)(Q:Exit->Act->World->Prop)(ops:Array Oper)(n N:Nat)(I:Array Bool->Act->World->Prop)(a0:Act):Nat->List Oper->Prop
 |_,[]=>True
 |k,o :: r=>wU P Q ops n N I a0 k o/\aN P Q ops n N I a0 (k+1) r
section
variable {n N:Nat} {I:Array Bool→Act→World→Prop} {a0:Act}
theorem aN.nil {k:Nat}:aN P Q ops n N I a0 k []:=trivial
theorem aN.cons {k:Nat}{o:Oper}{r:List Oper}(h:wU P Q ops n N I a0 k o)(hr:aN P Q ops n N I a0 (k+1) r):aN P Q ops n N I a0 k (o :: r):=⟨h,hr⟩
theorem aN.at:∀{l:List Oper} {k i:Nat} {o:Oper},aN P Q ops n N I a0 k l->l[i]? =some o->wU P Q ops n N I a0 (k+i) o
 |[],_,_,_,_,h=>by simp at h
 |o' :: r,k,0,o,hs,h=>by
  obtain rfl:o'=o:=by simpa using h
  exact hs.1
 |o' :: r,k,i+1,o,hs,h=>by
  have:=aN.at hs.2 (i:=i) (o:=o) (by simpa using h)
  rwa [show k+1+i=k+(i+1) by omega]at this
end
structure InvY (I:Array Bool->Act->World->Prop)(ops:Array Oper)(n:Nat)(a0:Act)(L:Array Bool)(a:Act)(w:World):Prop where
 size:a.tmps.size=a0.tmps.size
 defers:a.defers=a0.defers
 frame:∀ t,(∀ j,j<n->aH ops j≠some t)->a.tmps[t]? =a0.tmps[t]?
 inv:I L a w
 closed:dK .any ops L
 lsize:L.size=ops.size
 last:∀ j,n<=j->L.getD j false=false
theorem Bc {n N:Nat}(hw:sW ops N n []){a0:Act}(hN:a0.tmps.size=N){I:Array Bool->Act->World->Prop}
 (hstep:∀ i o,ops[i]? =some o->i<n->wU P Q ops n N I a0 i o)
 (hend:∀ a w L,I L a w->(∀ j,j<n->L.getD j false=true)->a.defers=a0.defers->a=bA (fun j=>match aH ops j with|some t=>a.eval (.tmp t)|none=>undef) (ops.toList.take n) 0 a0->wpList P ops Q (ops.toList.drop n) a w):
 ∀(fuel:Nat) (L:Array Bool) (a:Act) (w:World),unl ops L<=fuel->InvY I ops n a0 L a w->wpAny P .any ops Q fuel L a w:=by
 have hfin:∀(fuel:Nat) (L:Array Bool) (a:Act) (w:World),unl ops L<=fuel->InvY I ops n a0 L a w->(∀ j,j<n->L.getD j false=true)->wpAny P .any ops Q fuel L a w:=by
  intro fuel L a w hu hI hall;refine xy hw fuel n L a w (Nat.le_refl _) hw.size hI.lsize hI.closed hall hI.last hu ?_;exact hend a w L hI.inv hall hI.defers (ww hw hN hI.size hI.defers hI.frame)
 intro fuel
 induction fuel with
 |zero=>
  intro L a w hu hI;refine hfin 0 L a w hu hI (fun j hj=>?_)
  have hjs:j<ops.size:=Nat.lt_of_lt_of_le hj hw.size;cases hL:L.getD j false with
  |true=>rfl
  |false=>
   have:0<unl ops L:=List.countP_pos_iff.2 ⟨j,List.mem_range.2 hjs,by rw[di (by have:=hI.lsize;omega) true false,hL];rfl⟩
   omega
 |succ fuel ih=>
  intro L a w hu hI
  by_cases hall:∀ j,j<n->L.getD j false=true
  . exact hfin (fuel+1) L a w hu hI hall
  . refine⟨fun hr=>?_,fun i hi=>?_⟩
    . exact absurd (fun j hj=>jy hI.lsize hw.edge hr j (Nat.lt_of_lt_of_le hj hw.size)) hall
    . obtain⟨hiun,o,ho,hafter⟩:=mem_ready.1 hi;have hlt:=(Array.getElem?_eq_some_iff.1 ho).1;have hg:=hw.guard i o ho;have hunl:=lN hI.lsize hlt hiun;have hclosed:=hI.closed.set hi;unfold wpOp;rw[ho];simp only;have hwant:Region.wanted o (yielded ops a.tmps)=true:=by unfold Region.wanted;rw[hg]
      rw[if_pos hwant];left;have hiun':L.getD i false=false:=by rw[di (by have:=hI.lsize;omega) false true];exact hiun
      have hin:i<n:=by
       apply Classical.byContradiction;intro hge;apply hall;intro j hj;cases hL:L.getD j false with
       |true=>rfl
       |false=>exact absurd hi (Region.fV hI.closed (hw.tail i (by omega) hlt j (by omega)) (by rw[di (by have:=hI.lsize;have:=hw.size;omega) true false];exact hL))
      refine hstep i o ho hin a w L (fun t ht=>fZ (hI.frame t (mZ ht))) hI.lsize hiun' hI.inv hI.defers (by rw[hI.size,hN]) (fun j t hj=>?_) _ (fun v w' hb=>?_)
      . obtain⟨⟨e,he,hb,rfl⟩,ht⟩:=jY hj;exact hafter e he hb
      . refine ih _ _ _ (by omega) ⟨?_,?_,?_,hb,hclosed,?_,?_⟩
        . rw[kP,hI.size]
        . rw[put_defers,hI.defers]
        . intro t ht;rw[iq _ _ _ _ (fun hd=>ht i hin (by unfold aH;rw[ho];exact hd)),hI.frame t ht]
        . rw[Array.size_setIfInBounds,hI.lsize]
        . intro j hj;rw[getD_set_ne false (show i≠j by omega)]
          exact hI.last j hj
theorem pu {id:Nat}{a0:Act}{w0:World}(n N:Nat)(I:Array Bool->Act->World->Prop)(hm:P.follows .mixedOrders=true)(hN:a0.tmps.size=N)(hwell:uB ops N n []=true)
 (hI0:I (Array.replicate ops.size false) a0 w0.drew) (hstep:aN P Q ops n N I a0 0 (ops.toList.take n))
 (hend:∀(vs:Nat->Value) w L,I L (bA vs (ops.toList.take n) 0 a0) w->(∀ j,j<n->L.getD j false=true)->(∀ j t,aH ops j=some t->(bA vs (ops.toList.take n) 0 a0).eval (.tmp t)=vs j)->wpList P ops Q (ops.toList.drop n) (bA vs (ops.toList.take n) 0 a0) w):
 (Code.region id ops true).wp P Q a0 w0:=by
 have hw:=xQ hwell;refine wp_region_any hm (Bc (I:=I) hw hN (fun i o ho hi=>?_) (fun a w L hb hl _ he=>?_) _ _ _ _ ?_ ?_)
 . have h:=aN.at hstep (i:=i) (o:=o) (by rw[List.getElem?_take_of_lt hi,Array.getElem?_toList];exact ho)
   rwa [Nat.zero_add]at h
 . have hv:∀ j t,aH ops j=some t->(bA (fun j=>match aH ops j with|some t=>a.eval (.tmp t)|none=>undef) (ops.toList.take n) 0 a0).eval (.tmp t)=(fun j=>match aH ops j with|some t=>a.eval (.tmp t)|none=>undef) j:=fun j t ht=>by
    rw[<-he];simp only[ht]
   rw[he]at hb ⊢;rw[<-he]at hv;rw[<-he];rw[<-he]at hb;refine he▸hend _ w L (he▸hb) hl (he▸hv)
 . unfold unl;refine Nat.le_trans List.countP_le_length ?_;rw[List.length_range];exact Nat.le_refl _
 . have hlf:∀ j,(Array.replicate ops.size false).getD j false=false:=fun j=>by
    rw[Array.getD_eq_getD_getElem?]
    by_cases h:j<ops.size
    . rw[Array.getElem?_eq_getElem (by rw[Array.size_replicate];exact h),Array.getElem_replicate];rfl
    . rw[Array.getElem?_eq_none (by rw[Array.size_replicate];omega)];rfl
   exact⟨rfl,rfl,fun _ _=>rfl,hI0,fun j o _ h=>by(rw[hlf]at h;cases h),by rw[Array.size_replicate],fun j _=>hlf j⟩
end
end
end Go.Proofs.YtglikkmmbdnmbaaGreat.Wv
namespace Go.Proofs.YtglikkmmbdnmbaaGreat.Q7
open Q7 (aa)
section
def ny (md:Region.Mode)(o:Oper):List Nat:=(o.after.toList.filter (fun e=>Region.binds md e)).map (fun e=>e.on)
def u6 (md:Region.Mode)(ops:Array Oper)(i:Nat)(oi:Oper):List Nat:=(List.range ops.size).filter fun j=>!(j==i) && match ops[j]? with
 |some oj=>!(oj.after.any (fun e=>Region.binds md e && e.on==i) || oi.apart ops oj)
 |none=>false
def iL (md:Region.Mode)(ops:Array Oper):Bool×List (List Nat×List Nat):=(Region.noSelect ops,(List.range ops.size).map fun i=>match ops[i]? with
 |some o=>(ny md o,u6 md ops i o)
 |none=>([],[]))
def kY (T:List (List Nat×List Nat))(l:List Bool)(i:Nat):Bool:=!l.getD i true && match T[i]? with
 |some r=>r.1.all (fun j=>l.getD j false)
 |none=>false
def qH (T:List (List Nat×List Nat))(l:List Bool):List Nat:=(List.range T.length).filter (kY T l)
def uA (T:List (List Nat×List Nat))(l:List Bool)(i:Nat):Bool:=match T[i]? with
 |some r=>r.2.all (fun j=>l.getD j true)
 |none=>false
def ry (T:List (List Nat×List Nat))(l:List Bool):Bool:=(List.range T.length).all fun j=>!l.getD j false || match T[j]? with
 |some r=>r.1.all (fun k=>l.getD k false)
 |none=>true
def pq (T:List (List Nat×List Nat))(i:Nat):Nat->Nat->Bool
 |0,_=>false
 |fuel+1,d=>match T[d]? with
  |some r=>r.1.any fun j=>j==i || pq T i fuel j
  |none=>false
def lastT (T:List (List Nat×List Nat))(l:List Bool)(ds:List Nat)(i:Nat):Bool:=ds.all fun d=>l.getD d true || pq T i T.length d
section
variable {md:Region.Mode} {ops:Array Oper} {T:Bool×List (List Nat×List Nat)} {l l' li lj lk:Array Bool} {ds:List Nat} {i j k:Nat}
theorem gd (l:Array Bool)(j:Nat)(b:Bool):l.getD j b=l.toList.getD j b:=by simp[Array.getD_eq_getD_getElem?,List.getD_eq_getElem?_getD]
theorem vW (o:Oper)(p:Nat->Bool):o.after.all (fun e=>!Region.binds md e || p e.on)=(ny md o).all p:=by
 unfold ny;rw[<-Array.all_toList]
 induction o.after.toList with
 |nil=>rfl
 |cons e r ih=>
  rw[List.all_cons,ih,List.filter_cons];cases h:Region.binds md e<;>simp
theorem Dv (o:Oper)(p:Nat->Bool):o.after.any (fun e=>Region.binds md e && p e.on)=(ny md o).any p:=by
 unfold ny;rw[<-Array.any_toList]
 induction o.after.toList with
 |nil=>rfl
 |cons e r ih=>
  rw[List.any_cons,ih,List.filter_cons];cases h:Region.binds md e<;>simp
theorem l6:(iL md ops).2.length=ops.size:=by simp[iL]
theorem ow {o:Oper}(h:ops[i]? =some o):(iL md ops).2[i]? =some (ny md o,u6 md ops i o):=by
 have hi:=(Array.getElem?_eq_some_iff.1 h).1;unfold iL;rw[List.getElem?_map,List.getElem?_range hi,Option.map_some,h]
theorem om (h:ops[i]? =none):(iL md ops).2[i]? =none:=by
 have hi:ops.size<=i:=Array.getElem?_eq_none_iff.1 h;exact List.getElem?_eq_none (by rw[l6];exact hi)
theorem BP:kY (iL md ops).2 l.toList i=(!l.getD i true && ((ops[i]?).map (·.after.all fun e=>!Region.binds md e || l.getD e.on false)).getD false):=by
 unfold kY;rw[gd];cases h:ops[i]? with
 |none=>rw[om h];rfl
 |some o=>
  rw[ow h];simp only[Option.map_some,Option.getD_some];rw[<-vW];simp only[gd]
theorem ready_eq:Region.ready md ops l=qH (iL md ops).2 l.toList:=by
 unfold Region.ready qH;rw[l6];refine List.filter_congr (fun i _=>?_)
 rw[BP]
theorem free_eq:Region.free md ops l i=uA (iL md ops).2 l.toList i:=by
 unfold Region.free uA;cases h:ops[i]? with
 |none=>rw[om h]
 |some oi=>
  rw[ow h];simp only[u6];rw[List.all_filter]
  congr 1
  funext j
  rw[gd];cases hj:ops[j]? with
  |none=>cases(j==i)<;>cases(l.toList.getD j true)<;>simp
  |some oj=>
   cases(j==i)<;>cases(l.toList.getD j true)<;>cases(oj.after.any (fun e=>Region.binds md e && e.on==i) || oi.apart ops oj)<;>simp_all
theorem DN:Region.o9 md ops l=ry (iL md ops).2 l.toList:=by
 unfold Region.o9 ry;rw[l6]
 congr 1
 funext j
 rw[gd];cases h:ops[j]? with
 |none=>rw[om h]
 |some o=>
  rw[ow h];simp only;rw[<-vW];simp only[gd]
theorem xK:∀(fuel d:Nat),Region.dJ md ops i fuel d=pq (iL md ops).2 i fuel d
 |0,_=>rfl
 |fuel+1,d=>by
  unfold Region.dJ pq;cases h:ops[d]? with
  |none=>rw[om h]
  |some o=>
   rw[ow h];simp only;rw[<-Dv]
   congr 1
   funext e
   rw[xK fuel]
theorem last_eq:Region.lastB md ops l ds i=lastT (iL md ops).2 l.toList ds i:=by
 unfold Region.lastB lastT;rw[l6]
 congr 1
 funext d
 rw[gd,xK]
theorem rX (h:kY T.2 l.toList i=true)(hT:iL md ops=T):(Region.ready md ops l).contains i=true:=by
 subst hT;rw[ready_eq];unfold qH;rw[List.contains_iff_mem,List.mem_filter,List.mem_range];refine⟨?_,h⟩;unfold kY at h;rw[Bool.and_eq_true]at h;cases hq:(iL md ops).2[i]? with
 |none=>rw[hq]at h;simp at h
 |some r=>exact(List.getElem?_eq_some_iff.1 hq).1
theorem yB (h:(l.toList.set i true==l'.toList)=true):(l.setIfInBounds i true==l')=true:=by
 rw[beq_iff_eq]at h ⊢;apply Array.ext';rw[Array.toList_setIfInBounds];exact h
def anyT (T:Bool×List (List Nat×List Nat))(l l':List Bool)(i:Nat):Bool:=T.1 && uA T.2 l i && kY T.2 l i && (l.set i true==l')
theorem eQ (hT:iL md ops=T)(h:anyT T l.toList l'.toList i=true):anyB md ops l l' i=true:=by
 simp only[anyT,Bool.and_eq_true]at h;obtain⟨⟨⟨h1,h2⟩,h3⟩,h4⟩:=h;have h5:=rX h3 hT;have h6:=yB h4;subst hT;simp only[anyB,Bool.and_eq_true];exact⟨⟨⟨h1,by rw[free_eq];exact h2⟩,h5⟩,h6⟩
def takeT (T:Bool×List (List Nat×List Nat))(ds:List Nat)(l l':List Bool)(i:Nat):Bool:=T.1 && uA T.2 l i && kY T.2 l i && ry T.2 l && lastT T.2 l ds i && (l.set i true==l')
theorem take_of (hT:iL md ops=T)(h:takeT T ds l.toList l'.toList i=true):takeB md ops ds l l' i=true:=by
 simp only[takeT,Bool.and_eq_true]at h;obtain⟨⟨⟨⟨⟨h1,h2⟩,h3⟩,h4⟩,h5⟩,h6⟩:=h;have h7:=rX h3 hT;have h8:=yB h6;subst hT;simp only[takeB,Bool.and_eq_true];exact⟨⟨⟨⟨⟨h1,by rw[free_eq];exact h2⟩,h7⟩,by rw[DN];exact h4⟩,by rw[last_eq];exact h5⟩,h8⟩
theorem jV (hT:iL md ops=T)(h:(qH T.2 l.toList==[i] && l.toList.set i true==l'.toList)=true):pg md ops l l' i=true:=by
 simp only[Bool.and_eq_true]at h;obtain⟨h1,h2⟩:=h;subst hT;simp only[pg,Bool.and_eq_true];exact⟨by rw[ready_eq];exact h1,yB h2⟩
theorem u7 (hT:iL md ops=T)(h:(qH T.2 l.toList==[])=true):(Region.ready md ops l==[])=true:=by
 subst hT;rw[ready_eq];exact h
def upM (B:List Nat)(d:Nat):List Nat->Nat
 |[]=>0
 |n :: r=>(2 ^ n |||(if n<d then B.getD n 0 else 0)) |||upM B d r
def lM (T:List (List Nat×List Nat))(B:List Nat):Bool:=(List.range T.length).all fun d=>match T[d]? with
 |some r=>(B.getD d 0 |||upM B d r.1)==upM B d r.1
 |none=>false
theorem zV {B:List Nat}{d i:Nat}:∀{ns:List Nat},(upM B d ns).testBit i=true->∃ n∈ns,n=i\/(n<d/\(B.getD n 0).testBit i=true)
 |[],h=>by simp[upM]at h
 |n :: r,h=>by
  unfold upM at h;rw[Nat.testBit_or,Nat.testBit_or,Bool.or_eq_true,Bool.or_eq_true]at h
  rcases h with(h|h)|h
  . rw[Nat.testBit_two_pow]at h;exact⟨n,List.mem_cons_self,.inl (by simpa using h)⟩
  . by_cases hn:n<d
    . rw[if_pos hn]at h;exact⟨n,List.mem_cons_self,.inr ⟨hn,h⟩⟩
    . rw[if_neg hn]at h;simp at h
  . obtain⟨m,hm,h2⟩:=zV h;exact⟨m,List.mem_cons_of_mem _ hm,h2⟩
theorem vU {T:List (List Nat×List Nat)}{B:List Nat}(hB:lM T B=true):∀(fuel d:Nat),d<fuel->d<T.length->(B.getD d 0).testBit i=true->pq T i fuel d=true
 |0,d,h,_,_=>by omega
 |fuel+1,d,h,hd,hb=>by
  have h1:=List.all_eq_true.1 hB d (List.mem_range.2 hd);cases hr:T[d]? with
  |none=>rw[hr]at h1;simp at h1
  |some r=>
   rw[hr]at h1;simp only[beq_iff_eq]at h1;have h2:(upM B d r.1).testBit i=true:=by rw[<-h1,Nat.testBit_or,hb,Bool.true_or]
   obtain⟨n,hn,h3⟩:=zV h2;unfold pq;rw[hr];simp only;rw[List.any_eq_true];refine⟨n,hn,?_⟩
   rcases h3 with rfl|⟨h4,h5⟩
   . simp
   . rw[vU hB fuel n (by omega) (by omega) h5,Bool.or_true]
def lastW (T:List (List Nat×List Nat))(B:List Nat)(l:List Bool)(ds:List Nat)(i:Nat):Bool:=ds.all fun d=>l.getD d true || (decide (d<T.length) && (B.getD d 0).testBit i)
def takeW (T:Bool×List (List Nat×List Nat))(B:List Nat)(ds:List Nat)(l l':List Bool)(i:Nat):Bool:=T.1 && uA T.2 l i && kY T.2 l i && ry T.2 l && lastW T.2 B l ds i && (l.set i true==l')
theorem iJ {B:List Nat}(hT:iL md ops=T)(hB:lM T.2 B=true)(h:takeW T B ds l.toList l'.toList i=true):takeB md ops ds l l' i=true:=by
 refine take_of hT ?_;simp only[takeW,takeT,Bool.and_eq_true]at h ⊢;obtain⟨⟨⟨⟨⟨h1,h2⟩,h3⟩,h4⟩,h5⟩,h6⟩:=h;refine⟨⟨⟨⟨⟨h1,h2⟩,h3⟩,h4⟩,?_⟩,h6⟩;unfold lastW at h5;unfold lastT;rw[List.all_eq_true]at h5 ⊢;intro d hd;have h7:=h5 d hd;rw[Bool.or_eq_true,Bool.and_eq_true,decide_eq_true_eq]at h7
 rcases h7 with h7|⟨h8,h9⟩
 . rw[h7,Bool.true_or]
 . rw[vU hB _ d h8 h8 h9,Bool.or_true]
theorem qE {P:Program}{Q:Exit->Act->World->Prop}{S:World->Prop}{n:Nat}{a:Act}{w:World}{B:List Nat}(hT:iL md ops=T)(hB:lM T.2 B=true)(h:aa (iL md ops=T)->aa (lM T.2 B=true)->bD P md ops Q S ds n l a w):bD P md ops Q S ds n l a w:=h ⟨hT⟩ ⟨hB⟩
end
def mg:Code->Nat->Option (Array Oper)
 |.region id ops _,k=>if id==k then some ops else none
 |.seq a b,k=>match mg a k with
  |some o=>some o
  |none=>mg b k
 |.cond _ a b,k=>match mg a k with
  |some o=>some o
  |none=>mg b k
 |.block _ c,k=>mg c k
 |.loop c,k=>mg c k
 |.scope c,k=>mg c k
 |.rangeFunc _ _ a b,k=>match mg a k with
  |some o=>some o
  |none=>mg b k
 |_,_=>none
def opsOf (f:Func)(k:Nat):Array Oper:=((f.body.bind fun c=>mg c k)).getD #[]
end
end Go.Proofs.YtglikkmmbdnmbaaGreat.Q7
namespace Go.Proofs.YtglikkmmbdnmbaaGreat.Q7
section
section
variable {P:Program} {ops:Array Oper} {Q:Exit→Act→World→Prop} {md:Region.Mode} {S:World→Prop} {ds:List Nat} {T:Bool×List (List Nat×List Nat)}
end
end
end Go.Proofs.YtglikkmmbdnmbaaGreat.Q7
section
namespace Go.Proofs.YtglikkmmbdnmbaaGreat.Q7
open Go.RowKit
namespace Kd
section
variable {α:Type} {d:Kd α} {e base g o n cap:Nat} {ok okp:Nat→Prop} {w W:World} {v:Value} {xs:List α}
end
section
variable {α:Type} {enc:α→Value} {h1:∀ x,(enc x).oneCell'=true} {e base g o n cap:Nat} {ok:Nat→Prop} {W:World} {xs:List α}
end
end Kd
end Go.Proofs.YtglikkmmbdnmbaaGreat.Q7
end
section
namespace Go.Proofs.YtglikkmmbdnmbaaGreat.Q7
open Go.RowKit
namespace Kd
def raw (sz:Nat):Kd (List Value) where
 sz:=sz
 E:=[]
 K:=fun _ x cs=>cs=x/\cs.length=sz/\∀ u∈cs,u.oneCell'=true
 M:=fun _ _ _ x cs=>cs=x/\cs.length=sz/\∀ u∈cs,u.oneCell'=true
 K_len:=fun h=>h.2.1
 K_one:=fun h=>h.2.2
 K_below:=fun _ h=>h
 K_of_M:=fun h=>h
 M_mono:=fun _ h=>h
 M_bound:=fun h=>h
 M_move:=fun _ h=>h
 M_lower:=fun _ h=>h
section
variable {α β:Type} {d:Kd α} {d':Kd β} {e e':Nat} {w w1 W:World} {base b:Nat} {ok ok' okv oku:Nat→Prop} {u v:Value} {xs:List α} {ys:List β}
theorem R_tight (hE:d.E=[])(h:d.R e w base ok v xs):d.R e w base (fun k=>some k=v.ownBlock) v xs:=by
 obtain⟨h0,inner,ho,hr⟩:=h;refine⟨fun k hk=>hk.symm,inner,ho,hr.iO (fun p c hp=>d.M_mono (fun k hk=>?_) (d.M_bound hp))⟩
 obtain⟨_,_,_,q,hq,_⟩:=hk;rw[hE]at hq;cases hq
end
section
variable {α β:Type} {d:Kd α} {d':Kd β} {e e' g:Nat} {w w1 W:World} {base b:Nat} {ok ok' okv oku:Nat→Prop} {u v:Value} {xs:List α} {ys:List β}
end
section
variable {P:Program} {ops:Array Oper} {rest:List Oper} {o:Oper} {a:Act} {Q:Exit→Act→World→Prop} {Kc:Act→World→Prop} {α:Type}
end
section
variable {α β:Type} {d:Kd α} {e e' g n cap:Nat} {w w1 W:World} {base:Nat} {ok ok' oki okp:Nat→Prop} {u v:Value} {xs:List α} {i:Int} {c:List Value}
end
section
variable {P:Program} {ops:Array Oper} {rest:List Oper} {o:Oper} {a:Act} {Q:Exit→Act→World→Prop} {α:Type}
end
end Kd
end Go.Proofs.YtglikkmmbdnmbaaGreat.Q7
end
section
namespace Go.Proofs.YtglikkmmbdnmbaaGreat.Q7
open Go.RowKit
namespace Kd
section
variable {α:Type} {n:Nat} {d:Kd α} {hs:0<d.sz} {w:World} {base:Nat} {ok:Nat→Prop} {xs:List α} {cs:List Value}
end
section
variable {α:Type} {n:Nat} {enc:α→Value} {h1:∀ x,(enc x).oneCell'=true} {hs:0<(scalar enc h1).sz} {w:World} {base:Nat} {ok:Nat→Prop} {xs:List α} {cs:List Value}
end
end Kd
end Go.Proofs.YtglikkmmbdnmbaaGreat.Q7
end
section
namespace Go.Proofs.YtglikkmmbdnmbaaGreat.Q7
open Go.RowKit
section
variable {P:Program}
end
namespace Kd
section
variable {P:Program} {ops:Array Oper} {rest:List Oper} {o:Oper} {a:Act} {Q:Exit→Act→World→Prop} {Kc:Act→World→Prop} {α:Type}
end
section
variable {α:Type} {d:Kd α} {e:Nat} {w:World} {base:Nat} {ok:Nat→Prop} {v:Value} {xs:List α}
end
section
variable {P:Program} {ops:Array Oper} {rest:List Oper} {o:Oper} {a:Act} {Q:Exit→Act→World→Prop} {Kc:Act→World→Prop} {α:Type}
end
end Kd
end Go.Proofs.YtglikkmmbdnmbaaGreat.Q7
end
section
namespace Go.Proofs.YtglikkmmbdnmbaaGreat.Q7
open Go.RowKit
namespace Kd
structure Heap {α:Type}(d:Kd α):Prop where
 K:∀{w w1:World} {x:α} {cs:List Value},(∀ k,k<w.heap.size->w1.heap[k]? =w.heap[k]?)->d.K w x cs->d.K w1 x cs
section
variable {α:Type} {d:Kd α} {e base g n c:Nat} {ok:Nat→Prop} {w w0 W:World} {A:Option Addr} {xs:List α}
end
end Kd
end Go.Proofs.YtglikkmmbdnmbaaGreat.Q7
end
section
namespace Go.Proofs.YtglikkmmbdnmbaaGreat.Q7
open Go.RowKit
section
variable {w W W2:World} {S S2 S':Nat→Prop}
end
namespace Kd
section
variable {α:Type} {d:Kd α} {e base n c:Nat} {ok oki S S2:Nat→Prop} {w w0 W W1 W2:World} {v:Value} {A:Option Addr} {xs:List α} {i:Int} {cs:List Value}
end
end Kd
end Go.Proofs.YtglikkmmbdnmbaaGreat.Q7
end
section
namespace Go.Proofs.YtglikkmmbdnmbaaGreat.Q7
open Go.RowKit
def iy (P:World->Prop)(W:World)(ok:Nat->Prop):Prop:=∀ W':World,(∀ k,ok k->k<W.heap.size->W'.heap[k]? =W.heap[k]?)->P W'
theorem heap_lt {W W1:World}{k:Nat}(h:W1.heap[k]? =W.heap[k]?)(hlt:k<W.heap.size):k<W1.heap.size:=by
 rw[Array.getElem?_eq_getElem hlt]at h;exact(Array.getElem?_eq_some_iff.1 h).1
namespace iy
variable {P Q:World→Prop} {W W1:World} {ok ok':Nat→Prop}
theorem now (h:iy P W ok):P W:=h W (fun _ _ _=>rfl)
theorem mono (h:iy P W ok)(hok:∀ k,ok k->ok' k):iy P W ok':=fun W' hW=>h W' (fun k hk hlt=>hW k (hok k hk) hlt)
theorem bound (h:iy P W ok):iy P W (fun k=>ok k/\k<W.heap.size):=fun W' hW=>h W' (fun k hk hlt=>hW k ⟨hk,hlt⟩ hlt)
theorem step (h:iy P W ok)(hm:∀ k,ok k->k<W.heap.size->W1.heap[k]? =W.heap[k]?):iy P W1 ok:=fun W' hW=>h W' (fun k hk hlt=>(hW k hk (heap_lt (hm k hk hlt) hlt)).trans (hm k hk hlt))
theorem old (h:iy P W ok)(hb:Below W.heap.size W W1):iy P W1 (fun k=>ok k/\k<W.heap.size):=(h.bound).step (fun k _ hlt=>hb.block k hlt)
end iy
namespace Kd
def F {α:Type}(d:Kd α)(W:World)(ok:Nat->Prop)(A:Option Addr)(n:Nat)(xs:List α):Prop:=iy (fun W=>d.C W A n xs) W ok
def FK {α:Type}(d:Kd α)(W:World)(ok:Nat->Prop)(x:α)(c:List Value):Prop:=iy (fun W=>d.K W x c) W ok
section
variable {α β:Type} {d:Kd α} {e base n n' cc g N:Nat} {ok ok' okp S:Nat→Prop} {w w0 w1 W W1:World} {A A':Option Addr} {u v v1:Value} {xs:List α} {xs':List β} {d':Kd β} {x:α} {c:List Value}
theorem F_now (h:F d W ok A n xs):d.C W A n xs:=iy.now h
theorem uE (h:F d W ok A n xs)(hok:∀ k,ok k->ok' k):F d W ok' A n xs:=iy.mono h hok
theorem zF (h:F d W ok A n xs):F d W (fun k=>ok k/\k<W.heap.size) A n xs:=iy.bound h
theorem xX (h:F d W ok A n xs)(hm:∀ k,ok k->k<W.heap.size->W1.heap[k]? =W.heap[k]?):F d W1 ok A n xs:=iy.step h hm
theorem rf (h:F d W ok A n xs)(hb:Below W.heap.size W W1):F d W1 ok A n xs:=xX h (fun k _ hlt=>hb.block k hlt)
theorem F_alloc (h:F d W ok A n xs)(o:Obj):F d (W.alloc o) ok A n xs:=rf h (ae zc o)
theorem F_drew (h:F d W ok A n xs):F d W.drew ok A n xs:=rf h (bv zc)
theorem F_drewN (h:F d W ok A n xs)(m:Nat):F d (W.drewN m) ok A n xs:=rf h (ah zc m)
theorem F_far (h:F d W ok A n xs){p:Addr}(hok:∀ k,ok k->k≠p.block)(u:Value):F d (W.setCell p u) ok A n xs:=xX h (fun k hk _=>Below.heap_setCell W p u k (hok k hk))
theorem F_keep (h:F d W ok A n xs)(hk:kC W W1 g none)(hok:∀ k,ok k->k≠g):F d W1 ok A n xs:=xX h (fun k ho hlt=>hk.2 k hlt (hok k ho) (by simp))
theorem F_nil (d:Kd α)(W:World)(ok:Nat->Prop):F d W ok none ([]:List α).length []:=fun W' _=>ol d W'
theorem Et (h:F d W ok A n xs)(hbase:∀ k,v.ownBlock=some k->W.heap.size<=k)(hb:Below W.heap.size W W1):F d W1 (fun k=>ok k/\some k≠v.ownBlock) A n xs:=
 uE (iy.old h hb) (fun k hk=>⟨hk.1,fun he=>by have:=hbase k he.symm;have:=hk.2;omega⟩)
theorem Ed (h:F d W ok A n xs)(a:Nat)(ha:W.heap.size<=a):F d W (fun k=>ok k/\k≠a) A n xs:=uE (zF h) (fun k hk=>⟨hk.1,by have:=hk.2;omega⟩)
theorem F_after (h:F d W (fun k=>ok k/\some k≠v.ownBlock) A n xs)(hg:W.grownBy W1 v.ownBlock)(hat:v1.ownBlock=v.ownBlock\/∃ b,v1.ownBlock=some b/\W.heap.size<=b):F d W1 (fun k=>ok k/\some k≠v1.ownBlock) A n xs:=by
 refine uE (iy.step (zF h) (fun k hk hlt=>hg.block k hlt hk.1.2)) (fun k hk=>⟨hk.1.1,?_⟩)
 rcases hat with hat|⟨b,hb,hle⟩
 . rw[hat];exact hk.1.2
 . rw[hb];intro he;injection he with he
   have:=hk.2;omega
theorem R_F (h:d.R e W base ok (.slice A n cc) xs):F d W ok A n xs:=fun W' hW=>by
 have h2:=bI (nI h hW);rw[h2.1];exact h2.2.2
theorem uH (h:FK d W ok x c):d.K W x c:=iy.now h
theorem vE (h:FK d W ok x c)(hok:∀ k,ok k->ok' k):FK d W ok' x c:=iy.mono h hok
theorem xH (h:FK d W ok x c):FK d W (fun k=>ok k/\k<W.heap.size) x c:=iy.bound h
theorem zM (h:FK d W ok x c)(hm:∀ k,ok k->k<W.heap.size->W1.heap[k]? =W.heap[k]?):FK d W1 ok x c:=iy.step h hm
theorem FK_of_M (h:d.M W base ok x c):FK d W ok x c:=fun _ hW=>d.K_of_M (M_step h hW)
theorem emptied (W:World)(g:Nat):∃ W':World,(∀ k,k≠g->W'.heap[k]? =W.heap[k]?)/\∀ a:Addr,a.block=g->W'.cell? a=none:=by
 refine⟨{ W with heap:=W.heap.setIfInBounds g (.cells #[] 0) },fun k hk=>by simp[Ne.symm hk],fun a ha=>?_⟩
 subst ha
 by_cases hlt:a.block<W.heap.size
 . simp[World.cell?,hlt]
 . simp[World.cell?,hlt]
end
end Kd
end Go.Proofs.YtglikkmmbdnmbaaGreat.Q7
end
section
namespace Go.Proofs.YtglikkmmbdnmbaaGreat.Q7
open Go.RowKit
namespace Kd
def chunks (sz:Nat)(n:Nat)(inner:List Value):List (List Value):=(List.range n).map fun j=>(inner.drop (j*sz)).take sz
theorem jE (sz n:Nat)(inner:List Value):(chunks sz n inner).length=n:=by simp[chunks]
theorem D7 {sz n:Nat}{inner:List Value}{j:Nat}(hj:j<n):(chunks sz n inner)[j]? =some ((inner.drop (j*sz)).take sz):=by simp[chunks,hj]
theorem uu {sz n:Nat}{inner:List Value}{j:Nat}{c:List Value}(h:(chunks sz n inner)[j]? =some c):c=(inner.drop (j*sz)).take sz:=by
 have hj:j<n:=by have:=(List.getElem?_eq_some_iff.1 h).1;rwa [jE]at this
 rw[D7 hj]at h;injection h with h
 exact h.symm
theorem EB {α:Type}{Rr:α->List Value->Prop}{sz:Nat}{xs:List α}{inner:List Value}(h:fF Rr sz xs inner)(hR:∀ x c,Rr x c->c.length=sz/\∀ u∈c,u.oneCell'=true):fF (fun x cs=>cs=x/\cs.length=sz/\∀ u∈cs,u.oneCell'=true) sz (chunks sz xs.length inner) inner:=by
 refine⟨by rw[jE];exact h.1,fun j p hj=>?_⟩
 have hjl:j<xs.length:=by have:=(List.getElem?_eq_some_iff.1 hj).1;rwa [jE]at this
 have hp:=uu hj;exact⟨hp.symm,hR _ _ (h.2 j _ (List.getElem?_eq_getElem hjl))⟩
section
variable {α:Type} {d:Kd α} {e base n cc g:Nat} {ok ok' okp S:Nat→Prop} {w w1 W W1:World} {A:Option Addr} {u v v1:Value} {xs:List α} {x:α} {c:List Value}
theorem F_get (h:F d W ok A n xs)(z:α)(i:Int)(h0:0<=i)(h1:i<n):
 ∃ ad c,A=some ad/\c.length=d.sz/\FK d W ok (xs.getD i.toNat z) c/\(∀ j u,c[j]? =some u->W.cell? (ad.add (i.toNat*d.sz+j))=some u)/\(0<d.sz->ok ad.block):=by
 obtain⟨ad,c,rfl,hcl,hK,hcc⟩:=j5 (F_now h) z i h0 h1
 have hin:0<d.sz->ok ad.block:=by
  intro hs
  by_cases hk:ok ad.block
  . exact hk
  . obtain⟨W',h2,h3⟩:=emptied W ad.block;obtain⟨ad',c',he,hcl',_,hcc'⟩:=j5 (h W' (fun k hk' _=>h2 k (fun e=>hk (e▸hk')))) z i h0 h1
    injection he with he
    subst he;have h4:=hcc' 0 _ (List.getElem?_eq_getElem (by omega))
    rw[h3 _ (add_block _ _)]at h4;cases h4
 refine⟨ad,c,rfl,hcl,fun W' hW=>?_,hcc,hin⟩
 obtain⟨ad',c',he,hcl',hK',hcc'⟩:=j5 (h W' hW) z i h0 h1;injection he with he
 subst he
 have hc:c=c':=by
  apply List.ext_getElem?;intro j
  by_cases hj:j<d.sz
  . have hb:W'.heap[ad.block]? =W.heap[ad.block]?:=by
     have h5:=hcc j _ (List.getElem?_eq_getElem (by omega))
     have h6:=World.block_lt_of_cell? W _ h5;rw[add_block]at h6;exact hW _ (hin (by omega)) h6
    have h5:=hcc j _ (List.getElem?_eq_getElem (by omega))
    have h6:=hcc' j _ (List.getElem?_eq_getElem (by omega))
    have h7:W'.cell? (ad.add (i.toNat*d.sz+j))=W.cell? (ad.add (i.toNat*d.sz+j)):=by simp[World.cell?,add_block,hb]
    rw[h7,h5]at h6;rw[List.getElem?_eq_getElem (by omega),List.getElem?_eq_getElem (by omega)]
    exact h6
  . rw[List.getElem?_eq_none (by omega),List.getElem?_eq_none (by omega)]
 rw[hc];exact hK'
def N {α:Type}(d:Kd α)(e:Nat)(w:World)(base:Nat)(ok:Nat->Prop)(v:Value)(xs:List α):Prop:=
 (∀ k,v.ownBlock=some k->ok k)/\∃ rows:List (List Value),rows.length=xs.length/\(raw d.sz).R e w base (fun k=>some k=v.ownBlock) v rows/\∀(j:Nat) (x:α) (c:List Value),xs[j]? =some x->rows[j]? =some c->FK d w (fun k=>ok k/\some k≠v.ownBlock) x c
theorem DX {sz:Nat}{rows:List (List Value)}(h:(raw sz).R e w base ok v rows):(raw sz).R e w base (fun k=>some k=v.ownBlock) v rows:=R_tight rfl h
theorem raw_any {sz:Nat}{rows:List (List Value)}(h:(raw sz).R e w base ok v rows):(raw sz).R e w base (fun _=>True) v rows:=bY h (fun _ _=>trivial)
theorem R_N (h:d.R e w base ok v xs):N d e w base ok v xs:=by
 obtain⟨h0,inner,ho,hr⟩:=h;refine⟨h0,chunks d.sz xs.length inner,jE _ _ _,⟨fun k hk=>hk.symm,inner,by rw[jE];exact ho,EB hr (fun x c hp=>⟨d.K_len (d.K_of_M hp),d.K_one (d.K_of_M hp)⟩)⟩,fun j x c hx hc=>?_⟩
 rw[uu hc];exact FK_of_M (hr.2 j x hx)
theorem tY (d:Kd α)(e:Nat)(w:World)(base:Nat)(ok:Nat->Prop):N d e w base ok (.slice none 0 0) []:=R_N (fo _ _ _ _ _)
theorem fC (h:N d e w base ok v xs)(hok:∀ k,ok k->ok' k):N d e w base ok' v xs:=by
 obtain⟨h0,rows,hl,hR,hf⟩:=h;exact⟨fun k hk=>hok k (h0 k hk),rows,hl,hR,fun j x c hx hc=>vE (hf j x c hx hc) (fun k hk=>⟨hok k hk.1,hk.2⟩)⟩
theorem N_lt (h:N d e w base ok v xs):∀ k,v.ownBlock=some k->k<w.heap.size:=by
 obtain⟨_,rows,_,hR,_⟩:=h;exact fT hR
theorem jl (h:N d e w base ok v xs):∀ k,v.ownBlock=some k->∃ cells,w.heap[k]? =some (.cells cells e (0,0)):=by
 obtain⟨_,rows,_,hR,_⟩:=h;exact R_typed hR
theorem N_ne (h:N d e w base ok v xs){t:Nat}{cells:Array Value}(hb:w.heap[g]? =some (.cells cells t (0,0)))(ht:e≠t):some g≠v.ownBlock:=by
 obtain⟨_,rows,_,hR,_⟩:=h;exact dL hR hb ht
theorem tJ (h:N d e w base ok v xs)(hok:∀ k,ok k->k≠g):some g≠v.ownBlock:=fun he=>hok g (h.1 g he.symm) rfl
theorem uY (h:N d e w base ok v xs):N d e w base (fun k=>ok k/\k<w.heap.size) v xs:=by
 have hlt:=N_lt h;obtain⟨h0,rows,hl,hR,hf⟩:=h;exact⟨fun k hk=>⟨h0 k hk,hlt k hk⟩,rows,hl,hR,fun j x c hx hc=>vE (xH (hf j x c hx hc)) (fun k hk=>⟨⟨hk.1.1,hk.2⟩,hk.1.2⟩)⟩
theorem uK (h:N d e w base ok v xs)(hm:∀ k,ok k->k<w.heap.size->w1.heap[k]? =w.heap[k]?):N d e w1 base ok v xs:=by
 obtain⟨h0,rows,hl,hR,hf⟩:=h;exact⟨h0,rows,hl,nI hR (fun k hk hlt=>hm k (h0 k hk.symm) hlt),fun j x c hx hc=>zM (hf j x c hx hc) (fun k hk hlt=>hm k hk.1 hlt)⟩
theorem ng (h:N d e w base ok v xs)(hb:Below w.heap.size w w1):N d e w1 base ok v xs:=uK h (fun k _ hk=>hb.block k hk)
theorem eF (h:N d e w base ok v xs)(o:Obj):N d e (w.alloc o) base ok v xs:=ng h (ae zc o)
theorem eu (h:N d e w base ok v xs):N d e w.drew base ok v xs:=ng h (bv zc)
theorem eD (h:N d e w base ok v xs)(m:Nat):N d e (w.drewN m) base ok v xs:=ng h (ah zc m)
theorem jP (h:N d e w base ok v xs){p:Addr}(hok:∀ k,ok k->k≠p.block)(u:Value):N d e (w.setCell p u) base ok v xs:=uK h (fun k ho _=>Below.heap_setCell w p u k (hok k ho))
theorem nN (h:N d e W base ok v xs)(hbase:∀ k,u.ownBlock=some k->W.heap.size<=k)(hb:Below W.heap.size W w1):N d e w1 base (fun k=>ok k/\some k≠u.ownBlock) v xs:=
 fC (ng (uY h) hb) (fun k hk=>⟨hk.1,fun he=>by have:=hbase k he.symm;have:=hk.2;omega⟩)
theorem xm (h:N d e w base ok v xs)(a:Nat)(ha:w.heap.size<=a):N d e w base (fun k=>ok k/\k≠a) v xs:=fC (uY h) (fun k hk=>⟨hk.1,by have:=hk.2;omega⟩)
theorem N_after (h:N d e W base (fun k=>ok k/\some k≠u.ownBlock) v xs){u1:Value}(hg:W.grownBy w1 u.ownBlock)(hat:u1.ownBlock=u.ownBlock\/∃ b,u1.ownBlock=some b/\W.heap.size<=b):N d e w1 base (fun k=>ok k/\some k≠u1.ownBlock) v xs:=by
 refine fC (uK (uY h) (fun k hk hlt=>hg.block k hlt hk.1.2)) (fun k hk=>⟨hk.1.1,?_⟩)
 rcases hat with hat|⟨b,hb,hle⟩
 . rw[hat];exact hk.1.2
 . rw[hb];intro he;injection he with he
   have:=hk.2;omega
theorem o6 (h:N d e w base ok v xs):∃ A c,v=.slice A xs.length c:=by
 obtain⟨_,rows,hl,hR,_⟩:=h;obtain⟨A,c,he⟩:=aD hR;exact⟨A,c,by rw[he,hl]⟩
theorem yl {n c:Nat}(h:N d e w base ok (.slice A n c) xs):n=xs.length/\n<=c/\d.C w A xs.length xs:=by
 obtain⟨_,rows,hl,hR,hf⟩:=h;obtain⟨hn,hc,hC⟩:=bI hR;refine⟨by omega,hc,?_⟩
 rw[hl]at hC;refine⟨rfl,hC.2.1,fun hp=>?_⟩
 obtain⟨ad,he,hcell⟩:=hC.2.2 hp;refine⟨ad,he,fun j p hj=>?_⟩
 have hjl:j<rows.length:=by have:=(List.getElem?_eq_some_iff.1 hj).1;omega
 obtain⟨c',hcl,hK,hcc⟩:=hcell j _ (List.getElem?_eq_getElem hjl);have hk:=uH (hf j p _ hj (List.getElem?_eq_getElem hjl));refine⟨c',hcl,?_,hcc⟩;rw[show c'=rows[j]from hK.1]
 exact hk
theorem N_F {n:Nat}(h:N d e w base ok (.slice A n cc) xs):F d w ok A n xs:=fun W' hW=>by
 have h2:=yl (uK h hW);rw[h2.1];exact h2.2.2
end
end Kd
end Go.Proofs.YtglikkmmbdnmbaaGreat.Q7
end
section
namespace Go.Proofs.YtglikkmmbdnmbaaGreat.Q7
open Go.RowKit
namespace Kd
section
variable {α:Type} {d:Kd α} {W:World} {g n:Nat} {S ok:Nat→Prop} {A:Option Addr} {ad:Addr} {xs:List α}
end
end Kd
end Go.Proofs.YtglikkmmbdnmbaaGreat.Q7
end
section
namespace Go.Proofs.YtglikkmmbdnmbaaGreat.Q7
open Go.RowKit
section
variable {w w' u:World} {m B g:Nat} {o:Obj} {row:Option Nat} {S:Nat→Prop} {a:Addr} {v:Value}
theorem De (hq:w.drewN m=w')(h:w.heap[g]? =some o):w'.heap[g]? =some o:=by subst hq;exact h
end
namespace Kd
section
variable {α:Type} {d:Kd α} {e base n m:Nat} {ok:Nat→Prop} {w w':World} {v:Value} {A:Option Addr} {xs:List α}
end
end Kd
end Go.Proofs.YtglikkmmbdnmbaaGreat.Q7
end
namespace Go.Proofs.YtglikkmmbdnmbaaGreat.Q7
open Go.RowKit
section
section
variable {P:Program} {d:Nat} {xs ys:Array Value} {f:Field} {fs:List Field} {a b:Value} {r s:Bool} {w:World}
end
end
end Go.Proofs.YtglikkmmbdnmbaaGreat.Q7
namespace Go.Proofs.YtglikkmmbdnmbaaGreat.Q7
section
end
section
section
variable {P:Program} {ops:Array Oper} {Q:Exit→Act→World→Prop} {md:Region.Mode} {T:Bool×List (List Nat×List Nat)} {B:List Nat} {O:List Nat} {b:Nat→Bool} {i j n:Nat}
end
end
end Go.Proofs.YtglikkmmbdnmbaaGreat.Q7
section
namespace Go.Proofs.YtglikkmmbdnmbaaGreat.Q7
open Go.RowKit
end Go.Proofs.YtglikkmmbdnmbaaGreat.Q7
namespace Go.Proofs.YtglikkmmbdnmbaaGreat.Q7
section
variable {ops:Array Oper} {a:Act} {o og:Oper} {g:Nat} {t:Tmp} {u:Bool}
theorem fZ {v:Value}(h:a.tmps[t]? =some v):a.eval (.tmp t)=v:=by simp[Act.eval,h]
end
end Go.Proofs.YtglikkmmbdnmbaaGreat.Q7
end
namespace Go.Proofs.YtglikkmmbdnmbaaGreat.Q7
open Go.RowKit
section
section
variable {P:Program} {ops:Array Oper} {rest:List Oper} {o:Oper} {a:Act} {Q:Exit→Act→World→Prop} {W:World}
theorem j4 (hw:Region.wanted o (yielded ops a.tmps)=true)(h:wpList P ops Q ({ o with guard:=none } :: rest) a W):wpList P ops Q (o :: rest) a W:=by
 have h1:Region.wanted { o with guard:=none } (yielded ops a.tmps)=true:=rfl
 unfold wpList at h ⊢;rw[if_pos h1]at h;rw[if_pos hw];exact h
end
end
end Go.Proofs.YtglikkmmbdnmbaaGreat.Q7
section
namespace Go.Proofs.YtglikkmmbdnmbaaGreat.Q7
open Go.RowKit
namespace Kd
section
variable {α:Type} {d:Kd α} {e base n cap g:Nat} {ok ok' okp:Nat→Prop} {w w1 W:World} {v v1:Value} {xs ys:List α}
theorem Ae {rows news:List (List Value)}(h0:∀ k,v.ownBlock=some k->ok k)(hl:rows.length=xs.length)(hf:∀(j:Nat)(x:α)(c:List Value),xs[j]? =some x->rows[j]? =some c->FK d W (fun k=>ok k/\some k≠v.ownBlock) x c)
 (hl2:news.length=ys.length) (hf2:∀(j:Nat) (x:α) (c:List Value),ys[j]? =some x->news[j]? =some c->FK d W okp x c) (hokp:∀ k,okp k->ok k/\some k≠v.ownBlock) (hfresh:∀ k,W.heap.size<=k->ok k)
 (hR:(raw d.sz).R e w1 base (fun _=>True) v1 (rows++news)) (hg:W.grownBy w1 v.ownBlock) (hat:v1.ownBlock=v.ownBlock\/∃ b,v1.ownBlock=some b/\W.heap.size<=b):N d e w1 base ok v1 (xs++ys):=by
 have hne:∀ k,some k≠v.ownBlock->k<W.heap.size->some k≠v1.ownBlock:=by
  intro k hk hlt
  rcases hat with hat|⟨b,hb,hle⟩
  . rw[hat];exact hk
  . rw[hb];intro he;injection he with he
    omega
 have step:∀{x:α} {c:List Value} {o:Nat->Prop},FK d W o x c->(∀ k,o k->ok k/\some k≠v.ownBlock)->FK d w1 (fun k=>ok k/\some k≠v1.ownBlock) x c:=by
  intro x c o hq ho;exact vE (zM (xH hq) (fun k hk hlt=>hg.block k hlt (ho k hk.1).2)) (fun k hk=>⟨(ho k hk.1).1,hne k (ho k hk.1).2 hk.2⟩)
 refine⟨fun k hk=>?_,rows++news,by rw[List.length_append,List.length_append,hl,hl2],DX hR,fun j x c hx hc=>?_⟩
 . rcases hat with hat|⟨b,hb,hle⟩
   . exact h0 k (hat▸hk)
   . rw[hb]at hk;injection hk with hk
     exact hfresh k (by omega)
 . rcases Nat.lt_or_ge j xs.length with hlt|hge
   . rw[List.getElem?_append_left hlt]at hx;rw[List.getElem?_append_left (by omega)]at hc
     exact step (hf j x c hx hc) (fun _ hk=>hk)
   . rw[List.getElem?_append_right hge]at hx;rw[List.getElem?_append_right (by omega),hl]at hc
     exact step (hf2 _ x c hx hc) hokp
theorem FK_raw {x:α}{c:List Value}(h:FK d W ok x c):c=c/\c.length=d.sz/\∀ u∈c,u.oneCell'=true:=⟨rfl,d.K_len (uH h),d.K_one (uH h)⟩
end
section
variable {P:Program} {ops:Array Oper} {rest:List Oper} {o:Oper} {a:Act} {Q:Exit→Act→World→Prop} {Kc:Act→World→Prop} {α:Type}
theorem qf (d:Kd α){w0 W:World}(base:Nat)(hw:Region.wanted o (yielded ops a.tmps)=true)(s x:Operand)(t e:TypeId)(z:Value)(bytes:Nat)
 (ho:o.op=.call { callee:=.builtin .append,args:=#[s,x],argTypes:=#[t,t] })
 (ht:P.underlying t=some (.slice e)) (hinfo:(P.info? e).map (fun i=>(i.zero,i.size,i.bytes))=some (some z,d.sz,bytes)) (hz:z.cells.size=d.sz) (hs0:0<d.sz) (hb0:0<bytes)
 (v:Value) (xs:List α) (p:α) (cs:List Value) (ok okp:Nat->Prop) (hs:a.eval s=v) (hx:a.eval x=.slice (some ⟨W.heap.size,0,none⟩) 1 1) (hp:FK d W okp p cs) (hokp:∀ k,okp k->ok k/\some k≠v.ownBlock) (hfresh:∀ k,W.heap.size<=k->ok k)
 (HO:N d e W base ok v xs) (HB:Below base w0 W) (hbase:base<=W.heap.size) (hl:(xs.length+1)*bytes<=140737488355328)
 (h:∀ v1 w1,N d e w1 base ok v1 (xs++[p])->Below base w0 w1->W.grownBy w1 v.ownBlock->(v1.ownBlock=v.ownBlock\/∃ b,v1.ownBlock=some b/\W.heap.size<=b)->Kc (a.put o.dst v1) w1):
 if Region.wanted o (yielded ops a.tmps)=true then Oper.wp P o a (W.alloc (.cells cs.toArray e)) Kc Q else Kc (a.put o.dst undef) (W.alloc (.cells cs.toArray e)):=by
 obtain⟨h0,rows,hlr,hR,hf⟩:=HO;refine wJ (raw d.sz) base hw s x t e z bytes ho ht hinfo hz hs0 hb0 v rows cs cs (fun _=>True) (fun _=>False) hs hx (FK_raw hp) (fun _ hk=>hk.elim) (fun _ _=>trivial) (raw_any hR) HB hbase (by rw[hlr];exact hl) ?_
 intro v1 w1 hr hb hg hat
 exact h v1 w1 (Ae h0 hlr hf (ys:=[p]) (news:=[cs]) rfl (fun j y c hy hc=>by
  rcases j with _|j
  . simp only[List.getElem?_cons_zero,Option.some.injEq]at hy hc;rw[<-hy,<-hc];exact hp
  . simp at hy) hokp hfresh hr hg hat) hb hg hat
end
end Kd
end Go.Proofs.YtglikkmmbdnmbaaGreat.Q7
end
section
namespace Go.Proofs.YtglikkmmbdnmbaaGreat.Q7
open Go.RowKit Q7
namespace Kd
open Q7.Kd
end Kd
namespace Kd
open Q7.Kd
section
variable {α:Type} {d:Kd α} {e base g N:Nat} {ok:Nat→Prop} {W w1:World} {u v:Value} {xs:List α}
end
end Kd
theorem lJ (k k':IntKind)(x y:Int):Builtin.max2 (.int k x) (.int k' y)=pure (.int k (if x<y then y else x)):=by simp only[Builtin.max2,gt_iff_lt]
theorem lZ (k k':IntKind)(x y:Int):Builtin.min2 (.int k x) (.int k' y)=pure (.int k (if y<x then y else x)):=by simp only[Builtin.min2]
theorem mY (ats:Array TypeId)(ty:TypeId)(a b:Value):Builtin.max_ ats ty #[a,b]=(Builtin.max2 a b>>=fun s=>pure s):=by simp only[Builtin.max_,List.foldlM_cons,List.foldlM_nil]
theorem nz (ats:Array TypeId)(ty:TypeId)(a b:Value):Builtin.min_ ats ty #[a,b]=(Builtin.min2 a b>>=fun s=>pure s):=by simp only[Builtin.min_,List.foldlM_cons,List.foldlM_nil]
theorem lm (ats:Array TypeId)(ty:TypeId)(a b c:Value):Builtin.max_ ats ty #[a,b,c]=(Builtin.max2 a b>>=fun s=>Builtin.max2 s c>>=fun s=>pure s):=by simp only[Builtin.max_,List.foldlM_cons,List.foldlM_nil]
theorem kW (ats:Array TypeId)(ty:TypeId)(a b c:Value):Builtin.min_ ats ty #[a,b,c]=(Builtin.min2 a b>>=fun s=>Builtin.min2 s c>>=fun s=>pure s):=by simp only[Builtin.min_,List.foldlM_cons,List.foldlM_nil]
theorem lY (ats:Array TypeId)(ty:TypeId)(a b c d:Value):Builtin.max_ ats ty #[a,b,c,d]=(Builtin.max2 a b>>=fun s=>Builtin.max2 s c>>=fun s=>Builtin.max2 s d>>=fun s=>pure s):=by simp only[Builtin.max_,List.foldlM_cons,List.foldlM_nil]
theorem lK (ats:Array TypeId)(ty:TypeId)(a b c d:Value):Builtin.min_ ats ty #[a,b,c,d]=(Builtin.min2 a b>>=fun s=>Builtin.min2 s c>>=fun s=>Builtin.min2 s d>>=fun s=>pure s):=by simp only[Builtin.min_,List.foldlM_cons,List.foldlM_nil]
end Go.Proofs.YtglikkmmbdnmbaaGreat.Q7
namespace Go.Proofs.YtglikkmmbdnmbaaGreat.Q7
open Go.RowKit
section
variable {P:Program} {ops:Array Oper} {rest:List Oper} {o:Oper} {a:Act} {Q:Exit→Act→World→Prop} {W:World}
theorem oP {f:FuncId}{as:Array Operand}{ts:Array TypeId}(_ho:o.op=.call { callee:=.value (.func f),args:=as,argTypes:=ts })(h:wpList P ops Q (o :: rest) a W):wpList P ops Q (o :: rest) a W:=h
theorem iK {b:Builtin}{xs:Array Operand}{ts:Array TypeId}(_ho:o.op=.call { callee:=.builtin b,args:=xs,argTypes:=ts })(h:wpList P ops Q (o :: rest) a W):wpList P ops Q (o :: rest) a W:=h
end
namespace Kd
section
variable {α:Type} {d:Kd α} {e base:Nat} {ok:Nat→Prop} {W w1:World} {v:Value} {xs:List α}
end
section
variable {α:Type} {d:Kd α} {e base g n cap:Nat} {ok oki okp:Nat→Prop} {W:World} {xs:List α} {i:Int} {c:List Value}
end
section
variable {α:Type} {d:Kd α} {e base b b' g N:Nat} {ok ok1:Nat→Prop} {W W2 w1:World} {u v:Value} {xs ys:List α} {S:Nat→Prop}
end
end Kd
end Go.Proofs.YtglikkmmbdnmbaaGreat.Q7
namespace Go.Proofs.YtglikkmmbdnmbaaGreat.Q7
open Go.RowKit
namespace Kd
def V {α:Type}(d:Kd α)(_e:Nat)(W:World)(_base:Nat)(ok:Nat->Prop)(v:Value)(xs:List α):Prop:=∃ A c,v=.slice A xs.length c/\xs.length<=c/\F d W ok A xs.length xs
section
variable {α β:Type} {d:Kd α} {e base base' n m c g N' lo hi:Nat} {ok ok' S:Nat→Prop} {w W w1:World} {A:Option Addr} {ad:Addr} {u v v1:Value} {xs:List α}
theorem l9 (h:V d e W base ok v xs)(hF:∀ A,F d W ok A xs.length xs->F d w1 ok' A xs.length xs):V d e w1 base' ok' v xs:=by
 obtain⟨A,c,hv,hl,hf⟩:=h;exact⟨A,c,hv,hl,hF A hf⟩
theorem V_mk (hl:xs.length<=c)(hf:F d W ok A xs.length xs):V d e W base ok (.slice A xs.length c) xs:=⟨A,c,rfl,hl,hf⟩
theorem lh (h:V d e W base ok v xs):∃ A c,v=.slice A xs.length c:=by
 obtain⟨A,c,hv,_⟩:=h;exact⟨A,c,hv⟩
theorem V_at (h:V d e W base ok (.slice A n c) xs):n=xs.length/\n<=c/\F d W ok A xs.length xs:=by
 obtain⟨A',c',hv,hl,hf⟩:=h;injection hv with ha hn hc
 subst ha;subst hc;exact⟨hn,by rw[hn];exact hl,hf⟩
theorem dE (h:V d e W base ok (.slice A n c) xs):n=xs.length/\n<=c/\d.C W A xs.length xs:=⟨(V_at h).1,(V_at h).2.1,F_now (V_at h).2.2⟩
theorem V_F (h:V d e W base ok (.slice A n c) xs):F d W ok A n xs:=by
 obtain⟨hn,_,hf⟩:=V_at h;rw[hn];exact hf
theorem tT (d:Kd α)(e:Nat)(W:World)(base:Nat)(ok:Nat->Prop):V d e W base ok (.slice none 0 0) []:=⟨none,0,rfl,Nat.le_refl _,F_nil d W ok⟩
theorem R_V (h:d.R e W base ok v xs):V d e W base' ok v xs:=by
 obtain⟨A,c,rfl⟩:=aD h;exact⟨A,c,rfl,(bI h).2.1,R_F h⟩
theorem N_V (h:N d e W base ok v xs):V d e W base' ok v xs:=by
 obtain⟨A,c,rfl⟩:=o6 h;exact⟨A,c,rfl,(yl h).2.1,N_F h⟩
theorem dU (h:V d e W base ok v xs)(hok:∀ k,ok k->ok' k):V d e W base ok' v xs:=l9 h (fun _ hf=>uE hf hok)
theorem ko (h:V d e W base ok v xs)(hb:Below W.heap.size W w1):V d e w1 base ok v xs:=l9 h (fun _ hf=>rf hf hb)
theorem bJ (h:V d e W base ok v xs)(o:Obj):V d e (W.alloc o) base ok v xs:=l9 h (fun _ hf=>F_alloc hf o)
theorem bQ (h:V d e W base ok v xs):V d e W.drew base ok v xs:=l9 h (fun _ hf=>F_drew hf)
theorem bK (h:V d e W base ok v xs)(m:Nat):V d e (W.drewN m) base ok v xs:=l9 h (fun _ hf=>F_drewN hf m)
theorem mP (h:V d e W base ok v xs){p:Addr}(hok:∀ k,ok k->k≠p.block)(u:Value):V d e (W.setCell p u) base ok v xs:=l9 h (fun _ hf=>F_far hf hok u)
theorem DJ (h:V d e W base ok v xs)(hk:kC W w1 g none)(hok:∀ k,ok k->k≠g):V d e w1 base ok v xs:=l9 h (fun _ hf=>F_keep hf hk hok)
theorem V_after (h:V d e W base (fun k=>ok k/\some k≠u.ownBlock) v xs)(hg:W.grownBy w1 u.ownBlock)(hat:v1.ownBlock=u.ownBlock\/∃ b,v1.ownBlock=some b/\W.heap.size<=b):V d e w1 base (fun k=>ok k/\some k≠v1.ownBlock) v xs:=l9 h (fun _ hf=>F_after hf hg hat)
theorem jg (h:V d e W base (fun k=>ok k/\some k≠v.ownBlock) u xs)(hg:W.grownBy w1 v.ownBlock)(hat:v1.ownBlock=v.ownBlock\/∃ b,v1.ownBlock=some b/\W.heap.size<=b):V d e w1 base (fun k=>ok k/\some k≠v1.ownBlock) u xs:=V_after h hg hat
theorem Ey (h:N d e W base (fun k=>ok k/\some k≠v.ownBlock) u xs)(hg:W.grownBy w1 v.ownBlock)(hat:v1.ownBlock=v.ownBlock\/∃ b,v1.ownBlock=some b/\W.heap.size<=b):N d e w1 base (fun k=>ok k/\some k≠v1.ownBlock) u xs:=N_after h hg hat
theorem jc (h:V d e W base ok v xs)(hbase:∀ k,u.ownBlock=some k->W.heap.size<=k)(hb:Below W.heap.size W w1):V d e w1 base (fun k=>ok k/\some k≠u.ownBlock) v xs:=l9 h (fun _ hf=>Et hf hbase hb)
theorem jC (h:V d e W base ok v xs)(a:Nat)(ha:W.heap.size<=a):V d e W base (fun k=>ok k/\k≠a) v xs:=l9 h (fun _ hf=>Ed hf a ha)
theorem V_get (h:V d e W base ok (.slice (some ad) n c) xs)(z:α)(i:Int)(h0:0<=i)(h1:i<n):
 ∃ cs,cs.length=d.sz/\FK d W ok (xs.getD i.toNat z) cs/\∀ j u,cs[j]? =some u->W.cell? (ad.add (i.toNat*d.sz+j))=some u:=by
 obtain⟨ad',cs,he,hcl,hK,hcc,_⟩:=F_get (V_F h) z i h0 h1;injection he with he
 subst he;exact⟨cs,hcl,hK,hcc⟩
theorem mD {M:Nat->Prop}(h:d.R e w1 W.heap.size ok v xs)(hle:w.heap.size<=W.heap.size)(hM:∀ k,w.heap.size<=k->M k):d.R e w1 W.heap.size (fun k=>M k/\ok k) v xs:=bY (fO h) (fun k hk=>⟨hM k (Nat.le_trans hle hk.2.1),hk.1⟩)
end
end Kd
end Go.Proofs.YtglikkmmbdnmbaaGreat.Q7
end

/- One operation's run: loads, addresses, builds of the shapes' types. -/
import Derived.Test.YtglikkmmbdnmbaaGreatQ02
import Derived.Maps.Own
import Derived.Maps.OwnOps
import Derived.Maps.OwnSet
import Derived.Maps.Views
import Derived.Laws.ResultCell
import Derived.RangeFuncNested
import Derived.RangeFuncBound
import Derived.RangeFuncCalls
import Derived.RangeFuncLeaves
import Derived.RangeFuncBox
import Derived.Shelf.Abstract
import Derived.Shelf.RegionOpen
import Derived.WalkKit
import Derived.OwnWalkIn
import Derived.TacticsInMore
import Derived.LoopNIn
import Derived.LoopIn
set_option maxHeartbeats 8000000
set_option maxRecDepth 100000
namespace Go.Proofs.YtglikkmmbdnmbaaGreat.Im
open Go.RowKit Q7
open YtglikkmmbdnmbaaGreat.Own PCan Wv
set_option linter.unusedVariables false
set_option linter.unusedSimpArgs false
section
section
variable {o:Oper} {a:Act} {W:World}
theorem aC {x:Operand}{v:Value}(ho:o.op=.move x)(hx:a.eval x=v):(execOp a.eval o).run Tryz.prog W=.ok (.value v) W:=by
 unfold execOp;simp only[ho,hx]
 go_simp
theorem zl {x:Operand}{v:Value}(ho:o.op=.assign x)(hx:a.eval x=v):(execOp a.eval o).run Tryz.prog W=.ok (.value v) W:=by
 unfold execOp;simp only[ho,hx]
 go_simp
theorem jh {x:Operand}{p:Addr}{v:Value}(ho:o.op=.load 38 x)(hx:a.eval x=.pointer (some p))(hc:W.cell? p=some v):(execOp a.eval o).run Tryz.prog W=.ok (.value v) W:=by
 unfold execOp;simp only[ho,hx]
 go_simp
theorem mf {x:Operand}{p:Addr}{v:Value}(ho:o.op=.load 43 x)(hx:a.eval x=.pointer (some p))(hc:W.cell? p=some v):(execOp a.eval o).run Tryz.prog W=.ok (.value v) W:=by
 unfold execOp;simp only[ho,hx]
 go_simp
theorem jJ {x:Operand}{p:Addr}{v:Value}(ho:o.op=.load 44 x)(hx:a.eval x=.pointer (some p))(hc:W.cell? p=some v):(execOp a.eval o).run Tryz.prog W=.ok (.value v) W:=by
 unfold execOp;simp only[ho,hx]
 go_simp
theorem qN {x:Operand}{p:Addr}{v:Value}(ho:o.op=.load 62 x)(hx:a.eval x=.pointer (some p))(hc:W.cell? p=some v):(execOp a.eval o).run Tryz.prog W=.ok (.value v) W:=by
 unfold execOp;simp only[ho,hx]
 go_simp
theorem dx {x:Operand}{p:Addr}{v:Value}(ho:o.op=.load 3 x)(hx:a.eval x=.pointer (some p))(hc:W.cell? p=some v):(execOp a.eval o).run Tryz.prog W=.ok (.value v) W:=by
 unfold execOp;simp only[ho,hx]
 go_simp
theorem gB {x:Operand}{p:Addr}{v:Value}(ho:o.op=.load 5 x)(hx:a.eval x=.pointer (some p))(hc:W.cell? p=some v):(execOp a.eval o).run Tryz.prog W=.ok (.value v) W:=by
 unfold execOp;simp only[ho,hx]
 go_simp
theorem nW {x:Operand}{p:Addr}{v:Value}(ho:o.op=.load 138 x)(hx:a.eval x=.pointer (some p))(hc:W.cell? p=some v):(execOp a.eval o).run Tryz.prog W=.ok (.value v) W:=by
 unfold execOp;simp only[ho,hx]
 go_simp
theorem gW {x:Operand}{g i:Nat}(hi:i<3)(ho:o.op=.fieldAddr 46 x i)(hx:a.eval x=.pointer (some ⟨g,0,none⟩)):(execOp a.eval o).run Tryz.prog W=.ok (.value (.pointer (some ⟨g,i,none⟩))) W:=by
 have hu:=Tryz.underlying46
 match i,hi with
 |0,_|1,_|2,_=>
  unfold execOp;simp only[ho,hx]
  go_simp
theorem mQ {x:Operand}{g i:Nat}(hi:i<2)(ho:o.op=.fieldAddr 61 x i)(hx:a.eval x=.pointer (some ⟨g,0,none⟩)):(execOp a.eval o).run Tryz.prog W=.ok (.value (.pointer (some ⟨g,i,none⟩))) W:=by
 have hu:=Tryz.underlying61
 match i,hi with
 |0,_|1,_=>
  unfold execOp;simp only[ho,hx]
  go_simp
theorem tZ {x:Operand}{g i:Nat}(hi:i<2)(ho:o.op=.fieldAddr 64 x i)(hx:a.eval x=.pointer (some ⟨g,0,none⟩)):(execOp a.eval o).run Tryz.prog W=.ok (.value (.pointer (some ⟨g,i,none⟩))) W:=by
 have hu:=Tryz.underlying64
 match i,hi with
 |0,_|1,_=>
  unfold execOp;simp only[ho,hx]
  go_simp
theorem qi {x y:Operand}{A0 A1:Option Addr}{n0 c0 n1 c1:Nat}(ho:o.op=.build 61 #[(0,x),(1,y)])(hx:a.eval x=.slice A0 n0 c0)(hy:a.eval y=.slice A1 n1 c1):(execOp a.eval o).run Tryz.prog W=.ok (.value (.agg #[.slice A0 n0 c0,.slice A1 n1 c1])) W:=by
 have hu:=Tryz.underlying61;generalize a.eval=E at hx hy ⊢;unfold execOp;simp only[ho]
 go_simp
theorem A8 {x:Operand}{A0 A1:Option Addr}{n0 c0 n1 c1:Nat}(ho:o.op=.buildSlice 43 1 #[(0,x)])(hx:a.eval x=.agg #[.slice A0 n0 c0,.slice A1 n1 c1]):
 (execOp a.eval o).run Tryz.prog W=.ok (.value (.slice (some ⟨W.heap.size,0,none⟩) 1 1)) (W.alloc (.cells #[.slice A0 n0 c0,.slice A1 n1 c1] 61)):=by
 generalize a.eval=E at hx ⊢;unfold execOp;simp only[ho]
 go_simp
theorem sK:(Tryz.prog.info? 61).map (fun i=>(i.zero,i.size,i.bytes))=some (some (.agg #[.slice none 0 0,.slice none 0 0]),bn.sz,48):=by kernel_rfl
theorem qg {x y:Operand}{A0 A1:Option Addr}{n0 c0 n1 c1:Nat}(ho:o.op=.build 64 #[(0,x),(1,y)])(hx:a.eval x=.slice A0 n0 c0)(hy:a.eval y=.slice A1 n1 c1):(execOp a.eval o).run Tryz.prog W=.ok (.value (.agg #[.slice A0 n0 c0,.slice A1 n1 c1])) W:=by
 have hu:=Tryz.underlying64;generalize a.eval=E at hx hy ⊢;unfold execOp;simp only[ho]
 go_simp
theorem z8 {x:Operand}{A0 A1:Option Addr}{n0 c0 n1 c1:Nat}(ho:o.op=.buildSlice 44 1 #[(0,x)])(hx:a.eval x=.agg #[.slice A0 n0 c0,.slice A1 n1 c1]):
 (execOp a.eval o).run Tryz.prog W=.ok (.value (.slice (some ⟨W.heap.size,0,none⟩) 1 1)) (W.alloc (.cells #[.slice A0 n0 c0,.slice A1 n1 c1] 64)):=by
 generalize a.eval=E at hx ⊢;unfold execOp;simp only[ho]
 go_simp
theorem sQ:(Tryz.prog.info? 64).map (fun i=>(i.zero,i.size,i.bytes))=some (some (.agg #[.slice none 0 0,.slice none 0 0]),bn.sz,48):=by kernel_rfl
theorem yg {x y:Operand}{A0 A1:Option Addr}{n0 c0 n1 c1:Nat}(ho:o.op=.build 46 #[(1,x),(2,y)])(hx:a.eval x=.slice A0 n0 c0)(hy:a.eval y=.slice A1 n1 c1):(execOp a.eval o).run Tryz.prog W=.ok (.value (.agg #[.slice none 0 0,.slice A0 n0 c0,.slice A1 n1 c1])) W:=by
 have hu:=Tryz.underlying46;generalize a.eval=E at hx hy ⊢;unfold execOp;simp only[ho]
 go_simp
def z89:List Value:=[.slice none 0 0,.slice none 0 0,.slice none 0 0]
theorem xA (ho:o.op=.alloc 46):(execOp a.eval o).run Tryz.prog W=.ok (.value (.pointer (some ⟨W.heap.size,0,none⟩))) (W.alloc (.cells z89.toArray 46)):=by
 unfold execOp;simp only[ho]
 go_simp
 rfl
theorem eU:(Tryz.prog.info? 46).map (·.size)=some 3:=by kernel_rfl
theorem size128:(Tryz.prog.info? 61).map (·.size)=some 2:=by kernel_rfl
theorem zN:(Tryz.prog.info? 64).map (·.size)=some 2:=by kernel_rfl
end
end
section
theorem dW {α:Type}{d:Kd α}{e g t B:Nat}{w w1:World}{ok:Nat->Prop}{u:Value}{xs:List α}{cs:List Value}(h:d.R e w B ok u xs)(hh:Holds w g t cs)(ht:∀ q,q∈e :: d.E->q≠t)(hs:bH w w1 g):d.R e w1 B ok u xs:=
 Kd.bY (Kd.R_keep (Kd.dD h hh ht) hs.keep (fun k hk=>hk.2)) (fun k hk=>hk.1)
theorem OI.other {k:IntKind}{e g t B:Nat}{w w1:World}{v u:Value}{xs:List Int}{cs:List Value}(h:OI k e w B v u xs)(hh:Holds w g t cs)(ht:e≠t)(hs:bH w w1 g):OI k e w1 B v u xs:=
 dW h hh (fun q hq=>by rcases List.mem_cons.1 hq with rfl|hq;exact ht;cases hq) hs
theorem Els.other {α:Type}{f0 f1:α->List Int}{k:IntKind}{e g t B:Nat}{w w1:World}{v:Value}{ps:List (Value×Value)}{T:List α}{cs:List Value}(h:Els f0 f1 k e w B v ps T)(hh:Holds w g t cs)(h3:3≠t)(ht:e≠t)(hs:bH w w1 g):Els f0 f1 k e w1 B v ps T:=
 ⟨h.1,fun i p t' hp ht'=>⟨(h.2 i p t' hp ht').1.other hh h3 hs,(h.2 i p t' hp ht').2.other hh ht hs⟩⟩
def A5a (B:Nat)(s2:Value)(G:List Int)(v:Value)(w:World):Prop:=∃ u,v=.agg #[.slice none 0 0,u,s2]/\OI .i64 3 w B (.slice none 0 0) u G
def A6a (B:Nat)(v:Value)(w:World):Prop:=∃ g,v=.pointer (some ⟨g,0,none⟩)/\B<=g/\Holds w g 46 z89
def V99a (S:Sh)(b B B1:Nat)(s1 s2:Value):Nat->Value->World->Prop
 |0,v,_=>v=.pointer (some ⟨b,1,none⟩)
 |1,v,_=>v=s1
 |2,v,w=>OI .i64 3 w B (.slice none 0 0) v S.G
 |3,v,_=>v=.pointer (some ⟨b,2,none⟩)
 |4,v,_=>v=s2
 |5,v,w=>A5a B s2 S.G v w
 |6,v,w=>A6a B1 v w
 |_,_,_=>True
theorem Bb (S:Sh)(b B B1:Nat)(s1 s2:Value)(j:Nat)(v:Value)(w w':World)(h:V99a S b B B1 s1 s2 j v w)(hb:Below w.heap.size w w'):V99a S b B B1 s1 s2 j v w':=by
 unfold V99a at h ⊢
 split at h<;>first|exact h|exact Kd.aX h hb|(obtain⟨u,h1,h2⟩:=h;exact⟨u,h1,Kd.aX h2 hb⟩)|(obtain⟨g,h1,h2,h3⟩:=h;exact⟨g,h1,h2,h3.below hb⟩)|trivial
theorem oz {w:World}{p:Value×Value}{cs:List Value}(h:bn.K w p cs):fF (bn.K w) bn.sz [p] cs:=by
 refine⟨by rw[bn.K_len h];rfl,fun j q hq=>?_⟩
 cases j with
 |zero=>
  obtain rfl:p=q:=by simpa using hq
  rw[Nat.zero_mul,List.drop_zero,List.take_of_length_le (by rw[bn.K_len h];exact Nat.le_refl _)]
  exact h
 |succ j=>simp at hq
theorem qX {o:Oper}{a:Act}{W:World}{ty:TypeId}{x y:Operand}{g i t:Nat}{cs:List Value}{A:Option Addr}{n c:Nat}(hty:ty=43\/ty=44\/ty=38\/ty=62)(ho:o.op=.store ty x y)(hx:a.eval x=.pointer (some ⟨g,i,none⟩))(hy:a.eval y=.slice A n c)(hh:Holds W g t cs)(hi:i<cs.length):
 (execOp a.eval o).run Tryz.prog W=.ok .skip (W.setCells g i [.slice A n c]):=by
 have hc:W.cell? ⟨g,i,none⟩=some cs[i]:=(hh.cell i).trans (List.getElem?_eq_getElem hi);have hf:W.frozen? ⟨g,i,none⟩=false:=ak hh i;show(execOp a.eval o).run Tryz.prog W=.ok .skip (W.setCell ⟨g,i,none⟩ (.slice A n c))
 generalize a.eval=E at hx hy ⊢
 rcases hty with rfl|rfl|rfl|rfl<;>
  (unfold execOp
   simp only[ho,hx,hy]
   go_simp)
def A8b (t:S88)(B:Nat)(vT v:Value)(w:World):Prop:=∃ a b,v=.agg #[a,b]/\OI .i64 3 w B vT a t.f0/\OI .i64 3 w B vT b t.f1
def A9b (t:S88)(B:Nat)(vT v:Value)(w:World):Prop:=∃ a b A,v=.slice (some ⟨A,0,none⟩) 1 1/\Holds w A 61 [a,b]/\some A≠vT.ownBlock/\OI .i64 3 w B vT a t.f0/\OI .i64 3 w B vT b t.f1
def A10b (T:List S88)(t:S88)(G:List Int)(B:Nat)(ps:List (Value×Value))(u v:Value)(w:World):Prop:=∃ p,Kd.R bn 61 w B (fun _=>True) v (ps++[p])/\Els S88.f0 S88.f1 .i64 3 w B v (ps++[p]) (T++[t])/\OI .i64 3 w B v u G
def G99 (own:Option Nat)(k:Nat)(w w':World):Prop:=if k=10 then w.grownBy w' own else Below w.heap.size w w'
theorem G99.grown {own:Option Nat}{k:Nat}{w w':World}(h:G99 own k w w'):w.grownBy w' own:=by
 unfold G99 at h
 split at h
 . exact h
 . exact cK h own
theorem G99.other {own:Option Nat}{k:Nat}{w w':World}(h:G99 own k w w')(hk:k≠10):Below w.heap.size w w':=by
 unfold G99 at h
 rwa [if_neg hk]at h
theorem aY {w w1:World}{g t:Nat}{cs:List Value}{row:Option Nat}(h:Holds w g t cs)(hg:w.grownBy w1 row)(hne:some g≠row):Holds w1 g t cs:=(hg.block g h.lt hne).trans h
def V99b (T:List S88)(t:S88)(G:List Int)(B g g5:Nat)(ps:List (Value×Value))(vT u x0 x1:Value):Nat->Value->World->Prop
 |0,v,_=>v=.pointer (some ⟨g,0,none⟩)
 |1,v,_=>v=vT
 |2,v,_=>v=.pointer (some ⟨g5,0,none⟩)
 |3,v,_=>v=x0
 |4,v,w=>OI .i64 3 w B vT v t.f0
 |5,v,_=>v=.pointer (some ⟨g5,1,none⟩)
 |6,v,_=>v=x1
 |7,v,w=>OI .i64 3 w B vT v t.f1
 |8,v,w=>A8b t B vT v w
 |9,v,w=>A9b t B vT v w
 |10,v,w=>A10b T t G B ps u v w
 |11,v,_=>v=.pointer (some ⟨g,0,none⟩)
 |_,_,_=>True
theorem Bd (T:List S88)(t:S88)(G:List Int)(B g g5:Nat)(ps:List (Value×Value))(vT u x0 x1:Value)(i j:Nat)(v:Value)(w w':World)(hij:i≠j)(h:V99b T t G B g g5 ps vT u x0 x1 j v w)(hb:G99 vT.ownBlock i w w'):V99b T t G B g g5 ps vT u x0 x1 j v w':=by
 by_cases hj:j=10
 . subst hj;have hb:=hb.other hij;obtain⟨p,h1,h2,h3⟩:=(show A10b T t G B ps u v w from h)
   exact(show A10b T t G B ps u v w' from⟨p,Kd.aX h1 hb,h2.below hb,Kd.aX h3 hb⟩)
 . have hg:=hb.grown;unfold V99b at h ⊢
   split at h<;>first|exact h|exact Kd.iU h hg (fun q hq=>hq.2)|(obtain⟨a,b,h1,h2,h3⟩:=h;exact⟨a,b,h1,Kd.iU h2 hg (fun q hq=>hq.2),Kd.iU h3 hg (fun q hq=>hq.2)⟩)|(obtain⟨a,b,A,h1,h2,h3,h4,h5⟩:=h;exact⟨a,b,A,h1,aY h2 hg h3,h3,Kd.iU h4 hg (fun q hq=>hq.2),Kd.iU h5 hg (fun q hq=>hq.2)⟩)|exact absurd rfl hj|trivial
theorem oH (S:Sh)(hS:Small S)(A0:Option Addr)(c0:Nat)(A1:Option Addr)(c1:Nat)(A2:Option Addr)(c2:Nat)(w:World)(l0:S.T.length<=c0)(h0:Kd.C k88 w A0 S.T.length S.T)(l1:S.G.length<=c1)(h1:Kd.C (Kd.int .i64) w A1 S.G.length S.G):
 Calls Tryz.prog 79 #[.agg #[.slice A0 S.T.length c0,.slice A1 S.G.length c1,.slice A2 S.N.length c2]] w fun e w'=>∃ vT vG ps,e=.returned (.agg #[vT,vG,.slice A2 S.N.length c2])/\Kd.R bn 61 w' w.heap.size (fun _=>True) vT ps/\Els S88.f0 S88.f1 .i64 3 w' w.heap.size vT ps S.T/\OI .i64 3 w' w.heap.size vT vG S.G/\Below w.heap.size w w':=by
 have HS:=Y hS;have H0:=Y h0;have H1:=Y h1;have HL1:=Y l1;have HL0:=Y l0;have hu89:=Tryz.underlying46;clear hS h0 h1 l1 l0;have HW:=Y (show Below w.heap.size w ((w.alloc (.cells #[.slice A0 S.T.length c0,.slice A1 S.G.length c1,.slice A2 S.N.length c2] 46)).alloc (.cells #[.slice none 0 0,.slice none 0 0,.slice none 0 0] 46))from ae (ae zc _) _)
 have HA:aa (Holds ((w.alloc (.cells #[.slice A0 S.T.length c0,.slice A1 S.G.length c1,.slice A2 S.N.length c2] 46)).alloc (.cells #[.slice none 0 0,.slice none 0 0,.slice none 0 0] 46)) w.heap.size 46 [.slice A0 S.T.length c0,.slice A1 S.G.length c1,.slice A2 S.N.length c2]):=⟨Holds.below (aK _ _) (ae zc _)⟩;have HR:aa (Holds ((w.alloc (.cells #[.slice A0 S.T.length c0,.slice A1 S.G.length c1,.slice A2 S.N.length c2] 46)).alloc (.cells #[.slice none 0 0,.slice none 0 0,.slice none 0 0] 46)) (w.heap.size+1) 46 z89):=⟨by have h:=aK (w.alloc (.cells #[.slice A0 S.T.length c0,.slice A1 S.G.length c1,.slice A2 S.N.length c2] 46)) (.cells #[.slice none 0 0,.slice none 0 0,.slice none 0 0] 46);rw[World.size_alloc]at h;exact h⟩
 go_enter Tryz.func79,Tryz.ntmps79;go_upto_region 1 with(fail)
 obtain⟨W1,hW1⟩:∃ W1,W1=((w.alloc (.cells #[.slice A0 S.T.length c0,.slice A1 S.G.length c1,.slice A2 S.N.length c2] 46)).alloc (.cells #[.slice none 0 0,.slice none 0 0,.slice none 0 0] 46)):=⟨_,rfl⟩;have hsz:W1.heap.size=w.heap.size+2:=by rw[hW1];simp
 rw[<-hW1]at HW HA HR ⊢;clear hW1
 go_cut [3] (fun v3 wc=>∃ g u,v3=.pointer (some ⟨g,0,none⟩)/\aa (W1.heap.size<=g)/\aa (Holds wc g 46 [.slice none 0 0,u,.slice A2 S.N.length c2])/\aa (OI .i64 3 wc w.heap.size (.slice none 0 0) u S.G)/\aa (Below W1.heap.size W1 wc))
 case first=>
  refine weave 7 33 (V99a S w.heap.size w.heap.size W1.heap.size (.slice A1 S.G.length c1) (.slice A2 S.N.length c2)) (by kernel_rfl) (by rfl) (by kernel_rfl) (Bb _ _ _ _ _ _) ?st ?en
  case st=>
   refine Steps.cons (fun a w1 fr hb hd K hK=>?_) ?_
   . exact af (gW (i:=1) (by decide) rfl ((fr 1 (by kernel_rfl)).trans rfl)) (hK _ _ zc rfl)
   refine Steps.cons (fun a w1 fr hb hd K hK=>?_) ?_
   . exact af (jh rfl (hd 0 6 (by kernel_rfl)) (((HA.out.below hb).cell 1).trans rfl)) (hK _ _ zc rfl)
   refine Steps.cons (fun a w1 fr hb hd K hK=>?_) ?_
   . have e1:a.eval (.tmp 7)=.slice A1 S.G.length c1:=(hd 1 7 (by kernel_rfl))
     refine ek Tryz.func76 (by kernel_rfl) rfl #[.slice A1 S.G.length c1] rfl (by simp only[List.map_toArray,List.map_cons,List.map_nil,e1]) ?_
     refine(c98 _ S.G _ ⟨A1,c1,rfl,HL1.out,Kd.aU H1.out (ag HW.out HW.out.size hb)⟩ (by have:=HS.out.G;omega)).mono ?_
     rintro e w2 ⟨v0,rfl,hr,hb2⟩;exact⟨_,rfl,hK _ _ hb2 (show OI .i64 3 _ _ _ _ _ from Kd.cB (Kd.bY hr (fun q _=>⟨trivial,by simp[Value.ownBlock]⟩)) (Nat.le_trans HW.out.size hb.size))⟩
   refine Steps.cons (fun a w1 fr hb hd K hK=>?_) ?_
   . exact af (gW (i:=2) (by decide) rfl ((fr 1 (by kernel_rfl)).trans rfl)) (hK _ _ zc rfl)
   refine Steps.cons (fun a w1 fr hb hd K hK=>?_) ?_
   . exact af (jJ rfl (hd 3 9 (by kernel_rfl)) (((HA.out.below hb).cell 2).trans rfl)) (hK _ _ zc rfl)
   refine Steps.cons (fun a w1 fr hb hd K hK=>?_) ?_
   . have h2:OI .i64 3 w1 w.heap.size (.slice none 0 0) (a.eval (.tmp 8)) S.G:=(hd 2 8 (by kernel_rfl))
     obtain⟨Ag,cg,eg⟩:=Kd.aD h2;exact af (yg rfl eg (hd 4 10 (by kernel_rfl))) (hK _ _ zc (show A5a _ _ _ _ _ from⟨_,rfl,by rw[<-eg];exact h2⟩))
   refine Steps.cons (fun a w1 fr hb hd K hK=>?_) ?_
   . exact af (xA rfl) (hK _ _ (ae zc _) (show A6a _ _ _ from⟨w1.heap.size,rfl,hb.size,aK _ _⟩))
   exact Steps.nil
  case en=>
   intro vs w' hb hv;have h5:A5a w.heap.size (.slice A2 S.N.length c2) S.G (vs 5) w':=hv 5 11 (by decide) (by kernel_rfl)
   have h6:A6a W1.heap.size (vs 6) w':=hv 6 3 (by decide) (by kernel_rfl)
   obtain⟨u,e5,hu⟩:=h5;obtain⟨Au,cu,rfl⟩:=Kd.aD hu;obtain⟨g,e6,hg,hh⟩:=h6;refine ll rfl ?_;simp only[List.take_succ_cons,List.take_zero,bA,Act.put,zj,zr,ya,e5,e6];refine Wv.wp_skip (w':=w'.setCells g 0 [.slice none 0 0,.slice Au S.G.length cu,.slice A2 S.N.length c2]) rfl ?hr ?_
   case hr=>exact lC (g:=g) (off:=0) (t:=46) (cs:=z89) (vs:=#[.slice none 0 0,.slice Au S.G.length cu,.slice A2 S.N.length c2]) rfl (by rfl) (by rfl) hh (by show 3<=3;decide) eU (by simp[Value.oneCell'])
   have hs:=dR w' g 0 [.slice none 0 0,.slice Au S.G.length cu,.slice A2 S.N.length c2]
   go_wp2
   go_meet
   case rel=>exact⟨g,_,rfl,⟨hg⟩,⟨eX hh (by show 0+3<=3;decide)⟩,⟨hu.other hh (by decide) hs⟩,⟨hs.below hb hg⟩⟩
 case rest=>
  obtain⟨g,u,rfl,HG,HH,HU,HBW⟩:=hcut;have x0:wc.cell? ⟨w.heap.size,0,none⟩=some (.slice A0 S.T.length c0):=((HA.out.below HBW.out).cell 0).trans rfl;have HA2:=Y (HA.out.below HBW.out);have HR2:=Y (HR.out.below HBW.out);have HB2:=Y (ag HW.out HW.out.size HBW.out);have HGE:=Y (show w.heap.size<=g by have:=HG.out;omega)
  have HN1:=Y (show g≠w.heap.size by have:=HG.out;omega)
  have HN2:=Y (show g≠w.heap.size+1 by have:=HG.out;omega)
  obtain⟨Au,cu,rfl⟩:=Kd.aD HU.out;clear HA HR HBW HW;go_wp2_with fail
  go_loopg [15] S.T.length (fun kq v15 w'=>∃(i:Nat) (vT:Value) (ps:List (Value×Value)),v15=.int .i64 (i:Int)/\i+kq=S.T.length/\aa (Holds w' g 46 [vT,.slice Au S.G.length cu,.slice A2 S.N.length c2])/\aa (Holds w' w.heap.size 46 [.slice A0 S.T.length c0,.slice A1 S.G.length c1,.slice A2 S.N.length c2])/\aa (Holds w' (w.heap.size+1) 46 z89)/\aa (Kd.R bn 61 w' w.heap.size (fun _=>True) vT ps)/\aa (Els S88.f0 S88.f1 .i64 3 w' w.heap.size vT ps (S.T.take i))/\aa (OI .i64 3 w' w.heap.size vT (.slice Au S.G.length cu) S.G)/\aa (Below w.heap.size w w'))
  case atStart=>exact⟨0,.slice none 0 0,[],rfl,by omega,HH,HA2,HR2,⟨Kd.fo _ _ _ _ _⟩,⟨Els.nil⟩,HU,HB2⟩
  case round=>
   clear HH HA2 HR2 HU HB2 x0;obtain⟨i,vT,ps,rfl,hi,HH,HA,HR,HT,HE,HU,HB⟩:=hrel;obtain⟨W0,rfl⟩:∃ W0,W0=wr:=⟨wr,rfl⟩;cases gk with
   |zero=>
    have q1:decide ((i:Int)<(S.T.length:Int))=false:=yd (by omega)
    have q2:decide (i<S.T.length)=false:=yd (by omega)
    obtain⟨AT,cT,hTe,hcT,_⟩:=Kd.lX HT.out;have hps:ps.length=S.T.length:=by rw[HE.out.1,List.length_take];omega
    subst hTe
    go_wp2_with (first
     |((with_reducible refine aW (N:=32) rfl ?_);refine bE (g:=g) (off:=0) (t:=46) (cs:=[.slice AT ps.length cT,.slice Au S.G.length cu,.slice A2 S.N.length c2]) (seg:=[.slice AT ps.length cT,.slice Au S.G.length cu,.slice A2 S.N.length c2]) rfl rfl (by rfl) HH.out (by rfl) Tryz.underlying46 rfl eU ?_)
     |((with_reducible refine bg (t:=46) (p:=2) rfl ?_);refine aG rfl (ty:=46) rfl rfl (g:=w.heap.size+1) (off:=0) (vs:=#[.slice AT ps.length cT,.slice Au S.G.length cu,.slice A2 S.N.length c2]) rfl rfl HR.out (by show 3<=3;decide) eU (by simp[Value.oneCell']) ?_;intro w5 hh5 hs5;have HH5:=Y hh5;have HS5:=Y hs5;clear hh5 hs5))
    refine bodyPost_ret (results_cell_row rfl _ _ (w.heap.size+1) 46 #[.slice AT ps.length cT,.slice Au S.G.length cu,.slice A2 S.N.length c2] (0,0) _ rfl HH5.out Tryz.underlying46 rfl eU) rfl ?_;have hE:=HE.out;rw[List.take_of_length_le (by omega)]at hE
    exact⟨_,_,rfl,ps,dW HT.out HR.out (fun q hq=>by rcases List.mem_cons.1 hq with rfl|hq;decide;cases hq) HS5.out,hE.other HR.out (by decide) (by decide) HS5.out,HU.out.other HR.out (by decide) HS5.out,HS5.out.below HB.out (by omega)⟩
   |succ k1=>
    have hil:i<S.T.length:=by omega
    have q1:decide ((i:Int)<(S.T.length:Int))=true:=yb (by omega)
    have q2:decide (i<S.T.length)=true:=yb (by omega)
    have q3:(0:Int)<=(i:Int):=by omega
    have q4:(i:Int)<(S.T.length:Int):=by omega
    have hin:i<1000000000:=by have:=HS.out.T;omega
    obtain⟨ad,x0,x1,rfl,hx,hv0,hv1⟩:=atT H0.out i hil;have HV0:=Y hv0;have HV1:=Y hv1;obtain⟨t,ht⟩:∃ t,t=S.T[i]:=⟨_,rfl⟩;rw[<-ht]at HV0 HV1 hv0 hv1;have HTT:=Y (show S.T.take (i+1)=S.T.take i++[t] by rw[List.take_succ_eq_append_getElem hil,ht])
    have HSM:=Y (show xR t by rw[ht];exact HS.out.t _ (List.getElem_mem hil))
    obtain⟨Ax,cx,rfl,_,_⟩:=hv0;obtain⟨Ay,cy,rfl,_,_⟩:=hv1;obtain⟨hx0,hx1⟩:=hx W0 HB.out;have HI:=Y hi;clear ht hi hx;go_upto_region 5 with(fail)
    obtain⟨W5,hW5⟩:∃ W5,W5=(W0.alloc (.cells #[.slice Ax t.f0.length cx,.slice Ay t.f1.length cy] 61)):=⟨_,rfl⟩;have hb5:Below W0.heap.size W0 W5:=by rw[hW5];exact ae zc _
    have hg5':Holds W5 W0.heap.size 61 [.slice Ax t.f0.length cx,.slice Ay t.f1.length cy]:=by rw[hW5];exact aK _ _
    rw[<-hW5];clear hW5;have hbs:w.heap.size<=W5.heap.size:=Nat.le_trans HB.out.size hb5.size;have HT5:=Y (Kd.aX HT.out hb5);have hlt:∀ k,vT.ownBlock=some k->k<W5.heap.size:=Kd.fT HT5.out;have hown:∀ k,vT.ownBlock=some k->w.heap.size<=k:=Kd.dG HT5.out;have hne:∀(g' t':Nat) (cs:List Value),Holds W5 g' t' cs->61≠t'->some g'≠vT.ownBlock:=fun g' t' cs h h1=>Kd.dL HT5.out h h1
    have hgg:∀ w1,W5.grownBy w1 vT.ownBlock->Holds w1 g 46 [vT,.slice Au S.G.length cu,.slice A2 S.N.length c2]:=fun w1 hg=>aY (HH.out.below hb5) hg (hne g 46 _ (HH.out.below hb5) (by decide))
    have hg5:∀ w1,W5.grownBy w1 vT.ownBlock->Holds w1 W0.heap.size 61 [.slice Ax t.f0.length cx,.slice Ay t.f1.length cy]:=fun w1 hg=>aY hg5' hg (fun e=>by have h1:=Kd.fT HT.out _ e.symm;omega)
    have hbw:∀ w1,W5.grownBy w1 vT.ownBlock->Below w.heap.size w w1:=fun w1 hg=>(ag HB.out HB.out.size hb5).grown hg hbs hown
    have hels:∀ w1,W5.grownBy w1 vT.ownBlock->Els S88.f0 S88.f1 .i64 3 w1 w.heap.size vT ps (S.T.take i):=fun w1 hg=>(HE.out.below hb5).grown hg
    have hou:∀ w1,W5.grownBy w1 vT.ownBlock->OI .i64 3 w1 w.heap.size vT (.slice Au S.G.length cu) S.G:=fun w1 hg=>Kd.iU (Kd.aX HU.out hb5) hg (fun q hq=>hq.2)
    have hps:ps.length<=S.T.length:=by rw[HE.out.1,List.length_take];omega
    refine pz 12 33 (V99b (S.T.take i) t S.G w.heap.size g W0.heap.size ps vT (.slice Au S.G.length cu) (.slice Ax t.f0.length cx) (.slice Ay t.f1.length cy)) (fun L w1=>W5.grownBy w1 vT.ownBlock/\(L.getD 10 false=false->Kd.R bn 61 w1 w.heap.size (fun _=>True) vT ps)) (G99 vT.ownBlock) (by kernel_rfl) (by rfl) (by kernel_rfl) ?j0 ?jj ?vv ?st ?en
    case j0=>exact⟨cK (bv zc) _,fun _=>Kd.bP HT5.out⟩
    case jj=>
     intro k L w1 w2 hk hL hk0 hJ hG;refine⟨hJ.1.trans hG.grown,fun h10=>?_⟩
     by_cases he:k=10
     . subst he;rw[Array.getD_eq_getD_getElem?,Array.getElem?_setIfInBounds_self_of_lt (by rw[hL];decide)]at h10
       cases h10
     . rw[getD_set_ne false he]at h10;exact Kd.aX (hJ.2 h10) (hG.other he)
    case vv=>exact fun k j v w1 w2 _ hkj _ h hG=>Bd _ _ _ _ _ _ _ _ _ _ _ k j v w1 w2 hkj h hG
    case st=>
     refine au.cons (fun a w1 L fr hL hj hdf hd K hK=>?_) ?_
     . exact af (gW (i:=0) (by decide) rfl ((fr 3 (by kernel_rfl)).trans rfl)) (hK _ _ (show G99 _ _ _ _ from zc) rfl)
     refine au.cons (fun a w1 L fr hL hj hdf hd K hK=>?_) ?_
     . exact af (mf rfl (hd 0 19 (by kernel_rfl)) (((hgg w1 hj.1).cell 0).trans rfl)) (hK _ _ (show G99 _ _ _ _ from zc) rfl)
     refine au.cons (fun a w1 L fr hL hj hdf hd K hK=>?_) ?_
     . exact af (mQ (i:=0) (by decide) rfl ((fr 5 (by kernel_rfl)).trans rfl)) (hK _ _ (show G99 _ _ _ _ from zc) rfl)
     refine au.cons (fun a w1 L fr hL hj hdf hd K hK=>?_) ?_
     . exact af (jh rfl (hd 2 21 (by kernel_rfl)) (((hg5 w1 hj.1).cell 0).trans rfl)) (hK _ _ (show G99 _ _ _ _ from zc) rfl)
     refine au.cons (fun a w1 L fr hL hj hdf hd K hK=>?_) ?_
     . have e1:a.eval (.tmp 22)=(.slice Ax t.f0.length cx):=(hd 3 22 (by kernel_rfl))
       refine ek Tryz.func76 (by kernel_rfl) rfl #[(.slice Ax t.f0.length cx)] rfl (by simp only[List.map_toArray,List.map_cons,List.map_nil,e1]) ?_
       refine(c98 _ t.f0 _ (HV0.out.below (hbw w1 hj.1)) (by have:=HSM.out.1;omega)).mono ?_
       rintro e w2 ⟨v0,rfl,hr,hb2⟩;exact⟨_,rfl,hK _ _ (show G99 _ _ _ _ from hb2) (show OI .i64 3 _ _ _ _ _ from Kd.cB (Kd.bY (Kd.fO hr) (fun q hq=>⟨trivial,fun e=>by have h1:=hlt q e.symm;have h2:=hj.1.size;have h3:=hq.2.1;omega⟩)) (by have:=hj.1.size;have:=hbs;omega))⟩
     refine au.cons (fun a w1 L fr hL hj hdf hd K hK=>?_) ?_
     . exact af (mQ (i:=1) (by decide) rfl ((fr 5 (by kernel_rfl)).trans rfl)) (hK _ _ (show G99 _ _ _ _ from zc) rfl)
     refine au.cons (fun a w1 L fr hL hj hdf hd K hK=>?_) ?_
     . exact af (jh rfl (hd 5 24 (by kernel_rfl)) (((hg5 w1 hj.1).cell 1).trans rfl)) (hK _ _ (show G99 _ _ _ _ from zc) rfl)
     refine au.cons (fun a w1 L fr hL hj hdf hd K hK=>?_) ?_
     . have e1:a.eval (.tmp 25)=(.slice Ay t.f1.length cy):=(hd 6 25 (by kernel_rfl))
       refine ek Tryz.func76 (by kernel_rfl) rfl #[(.slice Ay t.f1.length cy)] rfl (by simp only[List.map_toArray,List.map_cons,List.map_nil,e1]) ?_
       refine(c98 _ t.f1 _ (HV1.out.below (hbw w1 hj.1)) (by have:=HSM.out.2;omega)).mono ?_
       rintro e w2 ⟨v0,rfl,hr,hb2⟩;exact⟨_,rfl,hK _ _ (show G99 _ _ _ _ from hb2) (show OI .i64 3 _ _ _ _ _ from Kd.cB (Kd.bY (Kd.fO hr) (fun q hq=>⟨trivial,fun e=>by have h1:=hlt q e.symm;have h2:=hj.1.size;have h3:=hq.2.1;omega⟩)) (by have:=hj.1.size;have:=hbs;omega))⟩
     refine au.cons (fun a w1 L fr hL hj hdf hd K hK=>?_) ?_
     . have h4:OI .i64 3 w1 w.heap.size vT (a.eval (.tmp 23)) t.f0:=(hd 4 23 (by kernel_rfl))
       have h7:OI .i64 3 w1 w.heap.size vT (a.eval (.tmp 26)) t.f1:=(hd 7 26 (by kernel_rfl))
       obtain⟨Aa,ca,ea⟩:=Kd.aD h4;obtain⟨Ab,cb,eb⟩:=Kd.aD h7;rw[ea]at h4;rw[eb]at h7;exact af (qi rfl ea eb) (hK _ _ (show G99 _ _ _ _ from zc) (show A8b _ _ _ _ _ from⟨_,_,rfl,h4,h7⟩))
     refine au.cons (fun a w1 L fr hL hj hdf hd K hK=>?_) ?_
     . obtain⟨va,vb,e8,h4,h7⟩:A8b t w.heap.size vT (a.eval (.tmp 27)) w1:=(hd 8 27 (by kernel_rfl))
       obtain⟨Aa,ca,rfl⟩:=Kd.aD h4;obtain⟨Ab,cb,rfl⟩:=Kd.aD h7;exact af (A8 rfl e8) (hK _ _ (show G99 _ _ _ _ from ae zc _) (show A9b _ _ _ _ _ from⟨_,_,w1.heap.size,rfl,aK _ _,fun e=>by(have h1:=hlt _ e.symm;have h2:=hj.1.size;omega),Kd.bF h4 _,Kd.bF h7 _⟩))
     refine au.cons (fun a w1 L fr hL hj hdf hd K hK=>?_) ?_
     . obtain⟨va,vb,Ap,e9,hh9,hne9,h4,h7⟩:A9b t w.heap.size vT (a.eval (.tmp 28)) w1:=(hd 9 28 (by kernel_rfl))
       have e1:a.eval (.tmp 20)=vT:=(hd 1 20 (by kernel_rfl))
       have hrow:=hj.2 hL;have hc9:Kd.C bn w1 (some ⟨Ap,0,none⟩) 1 [(va,vb)]:=kX bn hh9 (oz (zB w1 (va,vb) (jN h4).one (jN h7).one)) (by simp)
       refine gQ bn (w0:=w) w.heap.size 43 61 (.agg #[.slice none 0 0,.slice none 0 0]) 48 rfl Tryz.underlying43 sK rfl (by decide) (by decide) vT ps [(va,vb)] (some ⟨Ap,0,none⟩) 1 1 (fun _=>True) e1 e9 (fun _ _ _ _ h=>h) (fun _ _=>trivial) hrow hc9 (hbw w1 hj.1) (hbw w1 hj.1).size (by have:=hps;have:=HS.out.T;omega) ?_
       intro v1 w2 hr1 hb1 hg1 hat;exact hK _ _ (show G99 _ _ _ _ from hg1) (show A10b _ _ _ _ _ _ _ _ from⟨_,hr1,(((hels w1 hj.1).after hg1 hat).push (Kd.lQ h4 hg1 hat) (Kd.lQ h7 hg1 hat)),Kd.lQ (hou w1 hj.1) hg1 hat⟩)
     refine au.cons (fun a w1 L fr hL hj hdf hd K hK=>?_) ?_
     . exact af (gW (i:=0) (by decide) rfl ((fr 3 (by kernel_rfl)).trans rfl)) (hK _ _ (show G99 _ _ _ _ from zc) rfl)
     exact au.nil
    case en=>
     intro vs w' L hJ hl hv;have h10:A10b (S.T.take i) t S.G w.heap.size ps (.slice Au S.G.length cu) (vs 10) w':=hv 10 29 (by decide) (by kernel_rfl)
     have h11:vs 11=.pointer (some ⟨g,0,none⟩):=hv 11 30 (by decide) (by kernel_rfl)
     obtain⟨p,hr,he,hu⟩:=h10;obtain⟨AN,cN,eN⟩:=Kd.aD hr;rw[eN]at hr he hu;have hle:(ps++[p]).length=ps.length+1:=by simp
     rw[hle]at eN hr he hu;have hh:=hgg w' hJ.1;have hA':=aY (HA.out.below hb5) hJ.1 (hne _ 46 _ (HA.out.below hb5) (by decide))
     have hR':=aY (HR.out.below hb5) hJ.1 (hne _ 46 _ (HR.out.below hb5) (by decide))
     refine ll rfl ?_;simp only[List.take_succ_cons,List.take_zero,bA,Act.put,zj,zr,ya,h11,eN];have hs:=dR w' g 0 [.slice AN (ps.length+1) cN];refine Wv.wp_skip (w':=w'.setCells g 0 [.slice AN (ps.length+1) cN]) rfl ?hr ?_
     case hr=>exact qX (.inl rfl) rfl (by rfl) (by rfl) hh (by show 0<3;decide)
     go_wp2_with fail;go_roundg k1
     case measure=>have:=HI.out;omega
     case rel=>
      refine⟨i+1,_,ps++[p],rfl,by have:=HI.out;omega,⟨eX hh (by show 0+1<=3;decide)⟩,⟨hs.holds hA' HN1.out.symm⟩,⟨hs.holds hR' HN2.out.symm⟩,⟨dW hr hh (fun q hq=>by rcases List.mem_cons.1 hq with rfl|hq;decide;cases hq) hs⟩,⟨by rw[HTT.out];exact he.other hh (by decide) (by decide) hs⟩,⟨hu.other hh (by decide) hs⟩,⟨hs.below (hbw w' hJ.1) HGE.out⟩⟩
end
section
def dQ (nm:List Int)(x:Int):List Int×Int:=if x=0 then(nm,0)else if x∈nm then(nm,(nm.idxOf x:Int)+1)else(nm++[x],(nm.length:Int)+1)
def bC (nm:List Int):List Int->List Int×List Int
 |[]=>(nm,[])
 |x :: l=>((bC (dQ nm x).1 l).1,(dQ nm x).2 :: (bC (dQ nm x).1 l).2)
theorem oC:∀(l m:List Int) (nm:List Int),bC nm (l++m)=((bC (bC nm l).1 m).1,(bC nm l).2++(bC (bC nm l).1 m).2)
 |[],m,nm=>rfl
 |x :: l,m,nm=>by
  rw[List.cons_append];show((bC (dQ nm x).1 (l++m)).1,(dQ nm x).2 :: (bC (dQ nm x).1 (l++m)).2)=_
  rw[oC l m];rfl
theorem qZ (l:List Int)(x:Int)(nm:List Int):bC nm (l++[x])=((dQ (bC nm l).1 x).1,(bC nm l).2++[(dQ (bC nm l).1 x).2]):=by
 rw[oC];rfl
theorem jM:∀(l nm:List Int),(bC nm l).2.length=l.length
 |[],_=>rfl
 |x :: l,nm=>by
  show(_ :: _:List Int).length=_
  rw[List.length_cons,jM l,List.length_cons]
theorem EQ (nm:List Int)(x:Int):nm.length<=(dQ nm x).1.length/\(dQ nm x).1.length<=nm.length+1:=by
 unfold dQ
 split
 . exact⟨Nat.le_refl _,Nat.le_succ _⟩
 . split
   . exact⟨Nat.le_refl _,Nat.le_succ _⟩
   . simp
theorem lS:∀(l nm:List Int),nm.length<=(bC nm l).1.length/\(bC nm l).1.length<=nm.length+l.length
 |[],nm=>⟨Nat.le_refl _,Nat.le_refl _⟩
 |x :: l,nm=>by
  have h1:=EQ nm x;have h2:=lS l (dQ nm x).1;have h3:(bC nm (x :: l)).1=(bC (dQ nm x).1 l).1:=rfl;rw[h3,List.length_cons];omega
def NumD (nm:List Int)(D:DataW Unit):Prop:=Maps.IsMap D/\(∀ x:Int,Maps.has D (.int .i64 x)=decide (x∈nm))/\∀ x∈nm,D.atKey (.int .i64 x) (.lit (.int .i64 0))=.lit (.int .i64 ((nm.idxOf x:Int)+1))
theorem EL:NumD [] (.map []):=⟨Maps.isMap_empty,fun x=>rfl,fun x hx=>by cases hx⟩
theorem EX {nm:List Int}{D:DataW Unit}(h:NumD nm D){x:Int}(hx:x∉nm):NumD (nm++[x]) (D.put (.int .i64 x) (.lit (.int .i64 ((nm.length:Int)+1)))):=by
 have hk:WideAt.IsKeyLit (.int .i64 x):=trivial;refine⟨h.1.put _ _,fun y=>?_,fun y hy=>?_⟩
 . by_cases e:y=x
   . subst e;rw[Maps.has_put_same h.1 hk];simp
   . rw[Maps.has_put_other (fun e2=>e (by injection e2)),h.2.1 y]
     simp [e]
 . by_cases e:y=x
   . subst e;rw[Maps.atKey_put_same h.1 hk,List.idxOf_append,if_neg hx];simp
   . have hy':y∈nm:=by
      rcases List.mem_append.1 hy with hy|hy
      . exact hy
      . exact absurd (List.mem_singleton.1 hy) e
     rw[Maps.atKey_put_other (fun e2=>e (by injection e2)),h.2.2 y hy',List.idxOf_append,if_pos hy']
structure NS (w:World)(B m1 m2 b:Nat)(vN:Value)(nm:List Int):Prop where
 c1:Holds w m1 161 [.map (some b)]
 c2:Holds w m2 38 [vN]
 map:∃ D:DataW Unit,w.ownsMap Tryz.prog 3 (plainElem Tryz.prog 3) b nm.length D/\NumD nm D
 row:Kd.R (Kd.int .i64) 3 w B (fun _=>True) vN nm
structure Kp (S:Nat->Prop)(w w':World):Prop where
 os:w'.os=w.os
 tape:w'.tape=w.tape
 output:w'.output=w.output
 size:w.heap.size<=w'.heap.size
 block:∀ k,k<w.heap.size->¬ S k->w'.heap[k]? =w.heap[k]?
theorem Kp.refl (S:Nat->Prop)(w:World):Kp S w w:=⟨rfl,rfl,rfl,Nat.le_refl _,fun _ _ _=>rfl⟩
theorem Kp.trans {S S':Nat->Prop}{w w1 w2:World}(h:Kp S w w1)(k:Kp S' w1 w2)(hs:∀ q,q<w.heap.size->S' q->S q):Kp S w w2:=
 ⟨k.os.trans h.os,k.tape.trans h.tape,k.output.trans h.output,Nat.le_trans h.size k.size,fun q hq hn=>(k.block q (Nat.lt_of_lt_of_le hq h.size) (fun h2=>hn (hs q hq h2))).trans (h.block q hq hn)⟩
theorem Kp.jQ {w w1:World}{row:Option Nat}(h:w.grownBy w1 row):Kp (fun q=>some q=row) w w1:=⟨h.os,h.tape,h.output,h.size,fun k hk hn=>h.block k hk hn⟩
theorem Kp.below {S:Nat->Prop}{w0 w w1:World}{B:Nat}(h:Kp S w w1)(hb:Below B w0 w)(hB:B<=w.heap.size)(hs:∀ k,S k->B<=k):Below B w0 w1:=
 hb.trans ⟨h.os,h.tape,h.output,h.size,fun k hk=>h.block k (by omega) (fun h2=>by have:=hs k h2;omega)⟩
theorem Kp.mono {S S':Nat->Prop}{w w1:World}(h:Kp S w w1)(hs:∀ q,q<w.heap.size->S q->S' q):Kp S' w w1:=⟨h.os,h.tape,h.output,h.size,fun k hk hn=>h.block k hk (fun h2=>hn (hs k hk h2))⟩
theorem Kp.holds {S:Nat->Prop}{w w1:World}{g t:Nat}{cs:List Value}(h:Kp S w w1)(hh:Holds w g t cs)(hn:¬ S g):Holds w1 g t cs:=(h.block g hh.lt hn).trans hh
theorem Kp.R {S:Nat->Prop}{α:Type}{d:Kd α}{e B:Nat}{ok:Nat->Prop}{w w1:World}{v:Value}{xs:List α}(h:Kp S w w1)(hr:d.R e w B ok v xs)(hn:∀ k,ok k->k<w.heap.size->¬ S k):d.R e w1 B ok v xs:=Kd.nI hr (fun k hk hlt=>h.block k hlt (hn k hk hlt))
theorem Kp.RI {S:Nat->Prop}{k:IntKind}{e B:Nat}{ok:Nat->Prop}{w w1:World}{v:Value}{xs:List Int}(h:Kp S w w1)(hr:Kd.R (Kd.int k) e w B ok v xs)(hn:∀ q,v.ownBlock=some q->¬ S q):Kd.R (Kd.int k) e w1 B ok v xs:=by
 have h1:Kd.R (Kd.int k) e w B (fun q=>some q=v.ownBlock) v xs:=⟨fun q hq=>hq.symm,hr.2.iO (fun _ _ hp=>hp)⟩
 have h2:=h.R h1 (fun q hq _=>hn q hq.symm)
 exact⟨hr.1,h2.2.iO (fun _ _ hp=>hp)⟩
theorem mU (w:World)(g i:Nat)(u:Value):Kp (fun k=>k=g) w (w.setCell ⟨g,i,none⟩ u):=by
 have h:=(dR w g i [u]);exact⟨h.os,h.tape,h.output,Nat.le_of_eq h.size.symm,fun k _ hk=>h.block k hk⟩
theorem kz {k:IntKind}{e B b n:Nat}{ok:Nat->Prop}{w:World}{v:Value}{xs:List Int}{D:DataW Unit}(hr:Kd.R (Kd.int k) e w B ok v xs)(hD:w.ownsMap Tryz.prog 3 (plainElem Tryz.prog 3) b n D):∀ q,v.ownBlock=some q->q≠b:=by
 intro q hq e1;subst e1;obtain⟨inner,ho⟩:=Kd.gF hr;obtain⟨cells,hc⟩:=dO ho q hq;obtain⟨es,clock,hb,_⟩:=hD;rw[hc]at hb;injection hb with hb
 cases hb
theorem kG {b n g t:Nat}{w:World}{cs:List Value}{D:DataW Unit}(hh:Holds w g t cs)(hD:w.ownsMap Tryz.prog 3 (plainElem Tryz.prog 3) b n D):g≠b:=by
 intro e1;subst e1;obtain⟨es,clock,hb,_⟩:=hD;rw[show w.heap[g]? =_ from hh]at hb
 injection hb with hb
 cases hb
theorem NS.grow {w1 w2:World}{B m1 m2 b:Nat}{vM:Value}{A2:Option Addr}{n2 c2:Nat}{nn nn':List Int}{D:DataW Unit}(c1:Holds w1 m1 161 [.map (some b)])(c2':Holds w1 m2 38 [vM])(hr1:Kd.R (Kd.int .i64) 3 w1 B (fun _=>True) vM nn)(hD:w1.ownsMap Tryz.prog 3 (plainElem Tryz.prog 3) b nn'.length D)(hN:NumD nn' D)
 (hg:w1.grownBy w2 vM.ownBlock) (hr2:Kd.R (Kd.int .i64) 3 w2 B (fun _=>True) (.slice A2 n2 c2) nn'):NS (w2.setCell ⟨m2,0,none⟩ (.slice A2 n2 c2)) B m1 m2 b (.slice A2 n2 c2) nn'/\Kp (fun k=>k=m2\/some k=vM.ownBlock) w1 (w2.setCell ⟨m2,0,none⟩ (.slice A2 n2 c2)):=by
 have hk:=mU w2 m2 0 (.slice A2 n2 c2);have hne2:=Kd.dL hr1 c2' (by decide)
 have hne1:=Kd.dL hr1 c1 (by decide)
 have h2:Holds w2 m2 38 [vM]:=aY c2' hg hne2;have h1:Holds w2 m1 161 [.map (some b)]:=aY c1 hg hne1
 have hm:m1≠m2:=fun e=>by
  subst e;have h3:=(show _=_ from h1).symm.trans (show _=_ from h2)
  injection h3 with h3
  injection h3 with _ h4
  exact absurd h4 (by decide)
 have hD2:w2.ownsMap Tryz.prog 3 (plainElem Tryz.prog 3) b nn'.length D:=hD.kept hg (fun e=>kz hr1 hD b e.symm rfl)
 refine⟨⟨hk.holds h1 hm,eX (vs:=[.slice A2 n2 c2]) h2 (by show 0+1<=1;decide),⟨D,hD2.kept (row:=some m2) ⟨hk.os,hk.tape,hk.output,hk.size,fun k hk1 hk2=>hk.block k hk1 (fun e=>hk2 (by rw[e]))⟩ (fun e=>kG h2 hD2 (by injection e with e;exact e.symm)),hN⟩,hk.RI hr2 (fun q hq e=>Kd.dL hr2 h2 (by decide) (by rw[hq,e]))⟩,?_⟩
 exact((Kp.jQ hg).mono (S':=fun k=>k=m2\/some k=vM.ownBlock) (fun q _ hq=>.inr hq)).trans hk (fun q _ hq=>.inl hq)
theorem NS.set {w w1:World}{B m1 m2 b g:Nat}{vM v:Value}{nn xs:List Int}(h:NS w B m1 m2 b vM nn)(hv:OI .i64 3 w B vM v xs)(hg:v.ownBlock=some g)(hk:Kp (fun k=>k=g) w w1):NS w1 B m1 m2 b vM nn:=by
 obtain⟨D,hD,hN⟩:=h.map;refine⟨hk.holds h.c1 (fun e=>Kd.dL hv h.c1 (by decide) (by rw[hg,e])),hk.holds h.c2 (fun e=>Kd.dL hv h.c2 (by decide) (by rw[hg,e])),⟨D,hD.kept (row:=some g) ⟨hk.os,hk.tape,hk.output,hk.size,fun k hk1 hk2=>hk.block k hk1 (fun e=>hk2 (by rw[e]))⟩ (fun e=>kz hv hD g hg (by injection e with e;exact e.symm)),hN⟩,hk.RI h.row (fun q hq e=>(hv.1 g hg).2 (by rw[hq,e]))⟩
def Sn (b m2:Nat)(vN v:Value)(k:Nat):Prop:=k=b\/k=m2\/some k=vN.ownBlock\/some k=v.ownBlock
theorem wy (l nm:List Int)(v vN:Value)(w:World)(B m1 m2 b:Nat)(hns:NS w B m1 m2 b vN nm)(hv:OI .i64 3 w B vN v l)(hl:nm.length+l.length<=1000000)(hx:∀ x∈l,0<=x/\x<=1000000)(hB:B<=w.heap.size)(hb2:B<=m2):
 Calls Tryz.prog 99 #[v,.pointer (some ⟨m1,0,none⟩),.pointer (some ⟨m2,0,none⟩)] w fun e w'=>e=.returned (.tuple #[])/\∃ vN',NS w' B m1 m2 b vN' (bC nm l).1/\OI .i64 3 w' B vN' v (bC nm l).2/\(vN'.ownBlock=vN.ownBlock\/∃ q,vN'.ownBlock=some q/\w.heap.size<=q)/\Kp (Sn b m2 vN v) w w':=by
 have HNS:=Y hns;have HV:=Y hv;have HX:=Y hx;have HL:=Y hl;have HBB:=Y hB;have HB2:=Y hb2;obtain⟨A,c,rfl⟩:=Kd.aD hv;clear hns hv hx hB hb2;go_enter Tryz.func99,Tryz.ntmps99;go_wp2_with fail
 go_loopg [10] l.length (fun kq v10 w'=>∃(i:Nat) (vN':Value),v10=.int .i64 (i:Int)/\i+kq=l.length/\aa (NS w' B m1 m2 b vN' (bC nm (l.take i)).1)/\aa (OI .i64 3 w' B vN' (.slice A l.length c) ((bC nm (l.take i)).2++l.drop i))/\aa (vN'.ownBlock=vN.ownBlock\/∃ q,vN'.ownBlock=some q/\w.heap.size<=q)/\aa (Kp (Sn b m2 vN (.slice A l.length c)) w w'))
 case atStart=>exact⟨0,vN,rfl,by omega,HNS,HV,⟨.inl rfl⟩,⟨Kp.refl _ _⟩⟩
 case round=>
  clear HNS HV;obtain⟨i,vM,rfl,hi,HN,HV,HO,HK⟩:=hrel;obtain⟨W0,rfl⟩:∃ W0,W0=wr:=⟨wr,rfl⟩;cases gk with
  |zero=>
   have q1:decide ((i:Int)<(l.length:Int))=false:=yd (by omega)
   have q2:decide (i<l.length)=false:=yd (by omega)
   have hil:i=l.length:=by omega
   subst hil;go_wp2_with fail
   go_end0
   have h1:=HN.out;have h2:=HV.out;rw[List.take_length]at h1 h2;rw[List.drop_length,List.append_nil]at h2;exact⟨rfl,vM,h1,h2,HO.out,HK.out⟩
  |succ k1=>
   have hil:i<l.length:=by omega
   have q1:decide ((i:Int)<(l.length:Int))=true:=yb (by omega)
   have q2:decide (i<l.length)=true:=yb (by omega)
   have q3:(0:Int)<=(i:Int):=by omega
   have q4:(i:Int)<(l.length:Int):=by omega
   have hin:i<1000000000:=by omega
   have hlen:((bC nm (l.take i)).2++l.drop i).length=l.length:=by rw[List.length_append,jM,List.length_take,List.length_drop];omega
   obtain⟨g,cap,he,hgw,hgl,_⟩:=Kd.uw HV.out (by rw[hlen];omega)
   rw[hlen]at he;injection he with he1 he2 he3
   subst he1 he3;have hRR:=(show Kd.R (Kd.int .i64) 3 W0 B (fun q=>True/\some q≠vM.ownBlock) (.slice (some ⟨g,0,none⟩) ((bC nm (l.take i)).2++l.drop i).length c) ((bC nm (l.take i)).2++l.drop i) by rw[hlen];exact HV.out)
   have hcl:=(Kd.lG (0:Int) hRR (i:Int) (by omega) (by omega)).1
   have hfr:=(Kd.lG (0:Int) hRR (i:Int) (by omega) (by omega)).2
   have hrd:qa (0:Int) ((bC nm (l.take i)).2++l.drop i) (i:Int)=l[i]:=by
    unfold qa;rw[Int.toNat_natCast,List.getD_eq_getElem?_getD,List.getElem?_append_right (by rw[jM,List.length_take];omega),jM,List.length_take,Nat.min_eq_left (by omega),Nat.sub_self,List.drop_eq_getElem_cons hil]
    rfl
   rw[hrd,Int.toNat_natCast]at hcl;rw[Int.toNat_natCast]at hfr;have HTK:=Y (show l.take (i+1)=l.take i++[l[i]]from List.take_succ_eq_append_getElem hil)
   have HDR:=Y (show l.drop i=l[i] :: l.drop (i+1)from List.drop_eq_getElem_cons hil)
   have hxi:=HX.out l[i] (List.getElem_mem hil);have HI:=Y hi;obtain⟨x,hxx⟩:∃ x,x=l[i]:=⟨_,rfl⟩;rw[<-hxx]at hcl HTK HDR hxi;clear hrd hRR hxx
   by_cases h0:x=0
   . have d0:(x==0)=true:=beq_iff_eq.2 h0;go_wp2_with fail;go_roundg k1
     case measure=>omega
     case rel=>
      have hn:dQ (bC nm (l.take i)).1 x=((bC nm (l.take i)).1,0):=by unfold dQ;rw[if_pos h0]
      refine⟨i+1,vM,rfl,by omega,⟨?_⟩,⟨?_⟩,HO,HK⟩
      . rw[HTK.out,qZ,hn];exact HN.out
      . rw[HTK.out,qZ,hn];have h:=HV.out;rw[HDR.out,h0]at h
        simpa using h
   . have d0:(x==0)=false:=beq_eq_false_iff_ne.2 h0
     have hwf:(Lit.int .i64 x).wf=true:=by
      simp only[Lit.wf,Bool.and_eq_true,decide_eq_true_eq];have hmin:IntKind.i64.min= -9223372036854775808:=rfl;have hmax:IntKind.i64.max=9223372036854775807:=rfl;omega
     have hkey:keyOf Tryz.prog 3 (.int .i64 x)=some (.int .i64 x):=Maps.keyOf_int_mk Tryz.underlying3 hwf;obtain⟨D,hD,hND⟩:=HN.out.map;obtain⟨AM,cM,rfl⟩:=Kd.aD HN.out.row
     have hnl:(bC nm (l.take i)).1.length<=1000000:=by
      have h1:=(lS (l.take i) nm).2;rw[List.length_take]at h1;have:=HL.out;omega
     have hn1:dQ (bC nm (l.take i)).1 x=if x∈(bC nm (l.take i)).1 then((bC nm (l.take i)).1,(((bC nm (l.take i)).1.idxOf x:Nat):Int)+1)else((bC nm (l.take i)).1++[x],((bC nm (l.take i)).1.length:Int)+1):=by
      unfold dQ;rw[if_neg h0]
     have HN1:=Y hn1;have hyl:(bC nm (l.take i)).2.length=i:=by rw[jM,List.length_take];omega
     have HYL:=Y hyl;have HNN:=Y (show(bC nm (l.take (i+1)))=((dQ (bC nm (l.take i)).1 x).1,(bC nm (l.take i)).2++[(dQ (bC nm (l.take i)).1 x).2]) by rw[HTK.out,qZ])
     obtain⟨nn,hnn⟩:∃ nn,nn=(bC nm (l.take i)).1:=⟨_,rfl⟩;obtain⟨ys,hys⟩:∃ ys,ys=(bC nm (l.take i)).2:=⟨_,rfl⟩;rw[<-hnn]at HN hD hND hnl HN1 HNN HV HO;rw[<-hys]at HNN HV HYL;clear hn1 hyl hnn hys HTK;have HNL:=Y hnl;have x1:W0.cell? ⟨m1,0,none⟩=some (.map (some b)):=(HN.out.c1.cell 0).trans rfl;have x2:W0.cell? ⟨m2,0,none⟩=some (.slice AM nn.length cM):=(HN.out.c2.cell 0).trans rfl;have HG:=Y hgw;have HCL:=Y hcl;have HFR:=Y hfr;have HHD:=Y hD;have HND:=Y hND;have HWF:=Y hwf
     have hsetl:∀ y:Int,(ys++l.drop i).set i y=(ys++[y])++l.drop (i+1):=fun y=>by
      rw[HDR.out,List.set_append_right _ _ (by have:=HYL.out;omega),HYL.out,Nat.sub_self,zr,List.append_assoc]
      rfl
     have HSL:=Y hsetl;have HLN:=Y (show(ys++l.drop i).length=l.length by rw[List.length_append,HYL.out,List.length_drop];omega)
     clear hcl hfr hD hND hwf hgw hgl hnl hsetl hlen hxi
     by_cases hm:x∈nn
     . have HHAS:=Y (show Maps.has D (.int .i64 x)=true by rw[HND.out.2.1 x,yb hm])
       have HAT:=Y (HND.out.2.2 x hm);have HM1:=Y (show dQ nn x=(nn,((nn.idxOf x:Nat):Int)+1) by rw[HN1.out,if_pos hm])
       obtain⟨y,hy⟩:∃ y:Int,y=((nn.idxOf x:Nat):Int)+1:=⟨_,rfl⟩;rw[<-hy]at HAT HM1;clear hm hy HN1;have hcl:=HCL.out;go_upto_region 8 with(at_lookup;refine wpList_lookup_own_ok_int _ rfl _ _ 161 rfl 3 3 .i64 (Maps.int_keyed Tryz.underlying3) Tryz.underlying161 Tryz.underlying3 (Tryz.zeroValue3 _) b nn.length D rfl HHD.out _ _ rfl hkey ?_;intro c1 hat hwc;rw[HHAS.out];clear hat hwc)
       have hfr:=HFR.out;go_wp2_with (at_lookup;refine wpList_lookup_own_int _ rfl _ _ 161 rfl 3 3 .i64 (Maps.int_keyed Tryz.underlying3) Tryz.underlying161 Tryz.underlying3 (Tryz.zeroValue3 _) b nn.length D rfl HHD.out _ _ rfl hkey ?_;intro c2 hat hwc;obtain rfl:c2=y:=(by have h:=hat.symm.trans HAT.out;injection h with h;injection h);clear hat hwc)
       go_roundg k1
       case measure=>have:=HI.out;omega
       case rel=>
        have hkp:=mU W0 g i (.int .i64 c2);have hput:=(Kd.R_put (show Kd.R (Kd.int .i64) 3 W0 B (fun q=>True/\some q≠(Value.slice AM nn.length cM).ownBlock) (.slice (some ⟨g,0,none⟩) (ys++l.drop i).length c) (ys++l.drop i) by rw[HLN.out];exact HV.out) (i:Int) c2).1
        rw[Int.toNat_natCast,HSL.out,HLN.out]at hput;refine⟨i+1,.slice AM nn.length cM,rfl,by have:=HI.out;omega,⟨?_⟩,⟨?_⟩,HO,⟨HK.out.trans hkp (fun q _ hq=>.inr (.inr (.inr (by rw[hq];rfl))))⟩⟩
        . rw[HNN.out,HM1.out];exact HN.out.set HV.out rfl hkp
        . rw[HNN.out,HM1.out];exact hput
     . have HHAS:=Y (show Maps.has D (.int .i64 x)=false by rw[HND.out.2.1 x,yd hm])
       have HM1:=Y (show dQ nn x=(nn++[x],(nn.length:Int)+1) by rw[HN1.out,if_neg hm])
       have HND2:=Y (EX HND.out hm);have HNM:=Y hm;have hnl2:nn.length<1000000000:=by have:=HNL.out;omega
       have HWF2:aa ((Lit.int .i64 ((nn.length:Int)+1)).wf=true):=⟨by
        simp only[Lit.wf,Bool.and_eq_true,decide_eq_true_eq];have hmin:IntKind.i64.min= -9223372036854775808:=rfl;have hmax:IntKind.i64.max=9223372036854775807:=rfl
        omega⟩
       clear hm HN1 HND;have hcl:=HCL.out
       go_upto_region 7 with(first
        |(at_lookup;refine wpList_lookup_own_ok_int _ rfl _ _ 161 rfl 3 3 .i64 (Maps.int_keyed Tryz.underlying3) Tryz.underlying161 Tryz.underlying3 (Tryz.zeroValue3 _) b nn.length D rfl HHD.out _ _ rfl hkey ?_;intro c1 hat hwc;rw[HHAS.out];clear hat hwc)
        |(at_mapUpdate;refine wpList_mapUpdate_own _ rfl _ _ _ 161 rfl 3 3 (Maps.int_keyed Tryz.underlying3) Tryz.underlying161 (plainElem Tryz.prog 3) b nn.length D rfl HHD.out (by have:=HNL.out;unfold maxLen;omega) _ _ (.int .i64 x) rfl rfl hkey (.lit (.int .i64 ((nn.length:Int)+1))) [] (plainElem_int Tryz.underlying3 HWF2.out) ?_;intro w1 hD1 hg1))
       have hk1:Kp (fun k=>k=b) W0 w1:=(Kp.jQ hg1).mono (fun q _ hq=>by injection hq)
       have hc2:Holds w1 m2 38 [.slice AM nn.length cM]:=hk1.holds HN.out.c2 (kG HN.out.c2 HHD.out);have hr1:Kd.R (Kd.int .i64) 3 w1 B (fun _=>True) (.slice AM nn.length cM) nn:=hk1.RI HN.out.row (fun q hq=>kz HN.out.row HHD.out q hq)
       have hv1:OI .i64 3 w1 B (.slice AM nn.length cM) (.slice (some ⟨g,0,none⟩) l.length c) (ys++l.drop i):=hk1.RI HV.out (fun q hq=>kz HV.out HHD.out q hq)
       have hc1:Holds w1 m1 161 [.map (some b)]:=hk1.holds HN.out.c1 (kG HN.out.c1 HHD.out);have HK1:=Y hk1;have HR1:=Y hr1;have HV1:=Y hv1;have HC1:=Y hc1;have HC2:=Y hc2;have HD1:=Y hD1;have HBS:=Y (show B<=w1.heap.size by have:=hk1.size;have:=HK.out.size;have:=HBB.out;omega)
       have y2:w1.cell? ⟨m2,0,none⟩=some (.slice AM nn.length cM):=(hc2.cell 0).trans rfl;clear hk1 hc2 hr1 hv1 hc1 hD1 hg1;go_upto_region 8 with(at_builtin;refine Kd.fD (Kd.int .i64) (w0:=w1) B rfl (.tmp 30) (.tmp 32) 38 3 (.int .i64 0) 8 rfl Tryz.underlying38 kI rfl (by decide) (by omega) _ nn x [.int .i64 x] (fun _=>True) (fun _=>False) rfl rfl rfl (fun _ hk=>hk.elim) (fun _ _=>trivial) HR1.out zc HBS.out (by have:=HNL.out;omega) ?_;intro v2 w2 ho2 hb2 hg2 hat2;obtain⟨A2,c2,rfl⟩:=Kd.aD ho2;rw[show(nn++[x]).length=nn.length+1 by simp]at ho2 hat2 ⊢;have HO2:=Y ho2;have HG2:=Y hg2;have HA2:=Y hat2;have HC22:=Y (aY HC2.out hg2 (Kd.dL HR1.out HC2.out (by decide)));have z2:=(HC22.out.cell 0).trans rfl;have z3:=ak HC22.out 0;clear ho2 hb2 hg2 hat2)
       obtain⟨W3,hW3⟩:∃ W3,W3=w2.setCell ⟨m2,0,none⟩ (.slice A2 (nn.length+1) c2):=⟨_,rfl⟩;rw[<-hW3];have hns:=NS.grow HC1.out HC2.out HR1.out (show w1.ownsMap Tryz.prog 3 (plainElem Tryz.prog 3) b (nn++[x]).length _ by rw[List.length_append,List.length_singleton];exact HD1.out) HND2.out HG2.out HO2.out
       rw[<-hW3]at hns;have hv2:OI .i64 3 w2 B (.slice A2 (nn.length+1) c2) (.slice (some ⟨g,0,none⟩) l.length c) (ys++l.drop i):=Kd.lQ HV1.out HG2.out HA2.out
       have hv3:OI .i64 3 W3 B (.slice A2 (nn.length+1) c2) (.slice (some ⟨g,0,none⟩) l.length c) (ys++l.drop i):=by
        rw[hW3];exact(mU w2 m2 0 _).RI hv2 (fun q hq e=>Kd.dL hv2 HC22.out (by decide) (by rw[hq,e]))
       clear hW3 z2 z3 y2 hcl;have HN3:=Y hns.1;have HK3:=Y hns.2;have HV3:=Y hv3;obtain⟨D3,hD3,hND3⟩:=hns.1.map;have HD3:=Y hD3;have HAT:=Y (hND3.2.2 x (by simp))
       have hix:(((nn++[x]).idxOf x:Nat):Int)+1=(nn.length:Int)+1:=by
        rw[List.idxOf_append,if_neg (by
         exact HNM.out)]
        simp
       rw[hix]at HAT;have hRR:=(show Kd.R (Kd.int .i64) 3 W3 B (fun q=>True/\some q≠(Value.slice A2 (nn.length+1) c2).ownBlock) (.slice (some ⟨g,0,none⟩) (ys++l.drop i).length c) (ys++l.drop i) by rw[HLN.out];exact hv3)
       have hli:i<(ys++l.drop i).length:=by rw[HLN.out];exact hil
       have hcl:=(Kd.lG (0:Int) hRR (i:Int) (by omega) (by omega)).1
       have hfr:=(Kd.lG (0:Int) hRR (i:Int) (by omega) (by omega)).2
       rw[Int.toNat_natCast]at hcl hfr;have x1:W3.cell? ⟨m1,0,none⟩=some (.map (some b)):=(hns.1.c1.cell 0).trans rfl;clear hns hv2 hv3 hRR hD3 hND3 hix;go_wp2_with (at_lookup;refine wpList_lookup_own_int _ rfl _ _ 161 rfl 3 3 .i64 (Maps.int_keyed Tryz.underlying3) Tryz.underlying161 Tryz.underlying3 (Tryz.zeroValue3 _) b (nn++[x]).length D3 rfl HD3.out _ _ rfl hkey ?_;intro c3 hat hwc;obtain rfl:c3=(nn.length:Int)+1:=(by have h:=hat.symm.trans HAT.out;injection h with h;injection h);clear hat hwc)
       go_roundg k1
       case measure=>have:=HI.out;omega
       case rel=>
        have hkp:=mU W3 g i (.int .i64 ((nn.length:Int)+1));have hput:=(Kd.R_put (show Kd.R (Kd.int .i64) 3 W3 B (fun q=>True/\some q≠(Value.slice A2 (nn.length+1) c2).ownBlock) (.slice (some ⟨g,0,none⟩) (ys++l.drop i).length c) (ys++l.drop i) by rw[HLN.out];exact HV3.out) (i:Int) ((nn.length:Int)+1)).1
        rw[Int.toNat_natCast,HSL.out,HLN.out]at hput;refine⟨i+1,.slice A2 (nn.length+1) c2,rfl,by have:=HI.out;omega,⟨?_⟩,⟨?_⟩,⟨?_⟩,⟨?_⟩⟩
        . rw[HNN.out,HM1.out];exact HN3.out.set HV3.out rfl hkp
        . rw[HNN.out,HM1.out];exact hput
        . rcases HA2.out with h|⟨q,h,hq⟩
          . rw[h];exact HO.out
          . exact .inr ⟨q,h,Nat.le_trans HK.out.size (Nat.le_trans HK1.out.size hq)⟩
        . refine((HK.out.trans HK1.out (fun q _ hq=>.inl hq)).trans HK3.out (fun q hq hs=>?_)).trans hkp (fun q _ hq=>.inr (.inr (.inr (by rw[hq];rfl))))
          rcases hs with hs|hs
          . exact .inr (.inl hs)
          . rcases HO.out with h|⟨q2,h,hq2⟩
            . exact .inr (.inr (.inl (by rw[<-h];exact hs)))
            . rw[h]at hs;injection hs with hs
              omega
end
section
theorem ql {P:Program}{fn:Func}{p u:Tmp}{ty:TypeId}(h:fn.results=#[.cell p ty,.tmp u])(tmps:Array Value)(w:World)(g:Nat)(t:TypeId)(cs:Array Value)(fr:Nat×Nat)(d:TypeDesc)
 (hp:tmps.getD p undef=.pointer (some ⟨g,0,none⟩)) (hg:w.heap[g]? =some (.cells cs t fr))
 (hu:P.underlying ty=some d) (hd:(match d with|.struct _|.array _ _=>true|_=>false)=true) (hi:(P.info? ty).map (·.size)=some cs.size):
 (results fn tmps).run P w=.ok (.tuple #[.agg cs,tmps.getD u undef]) w:=by
 rw[results_cell_tmp h,hp];have h2:(asAddr (.pointer (some ⟨g,0,none⟩))).run P w=.ok ⟨g,0,none⟩ w:=rfl;rw[h2];simp only[Result.andThen,run_loadVar_row w g t ty cs fr d hg hu hd hi]
section
variable {P:Program} {Q:Exit→Act→World→Prop}
theorem sM {o:Oper}{a:Act}{w:World}{K:Act->World->Prop}{f:FuncId}{fn:Func}{t:Tmp}{xs:Array Operand}{ts:Array TypeId}{cap:Array Value}(hf:P.funcs[f]? =some fn)(hname:(fn.name== "runtime.NumGoroutine")=false)(hb:fn.body.isSome=true)(args:Array Value)
 (hop:o.op=.call { callee:=.value (.tmp t),args:=xs,argTypes:=ts }) (ht:a.eval (.tmp t)=.func (.func f) #[] cap) (hargs:xs.map a.eval++cap=args)
 (h:Calls P f args w fun e w'=>∃ v,e=.returned v/\K (a.put o.dst v) w'):Oper.wp P o a w K Q:=by
 have he:=kw hf hname hb args w
 have hrun:(execOp a.eval o).run P w=.ok (.enter f args) w:=by
  unfold execOp;simp [hop,resolve,Deferred.ofValue,invoke,ht,hargs,he]
 unfold Oper.wp;rw[hrun,Oper.upon_enter];refine h.mono fun e w'' hh=>?_
 obtain⟨v,rfl,hk⟩:=hh;exact hk
end
section
variable {o:Oper} {a:Act} {W:World}
theorem qV {x:Operand}{ad:Addr}{m:Nat}(ho:o.op=.fieldAddr 64 x 0)(hx:a.eval x=.pointer (some (ad.add m))):(execOp a.eval o).run Tryz.prog W=.ok (.value (.pointer (some (ad.add m)))) W:=by
 have hu:=Tryz.underlying64;unfold execOp;simp only[ho,hx]
 go_simp
theorem qz {x:Operand}{ad:Addr}{m:Nat}(ho:o.op=.fieldAddr 64 x 1)(hx:a.eval x=.pointer (some (ad.add m))):(execOp a.eval o).run Tryz.prog W=.ok (.value (.pointer (some ⟨(ad.add m).block,(ad.add m).off+1,none⟩))) W:=by
 have hu:=Tryz.underlying64;unfold execOp;simp only[ho,hx]
 go_simp
theorem mX {x y:Operand}{ad:Addr}{n c k:Nat}(ho:o.op=.indexAddr 44 x y)(hx:a.eval x=.slice (some ad) n c)(hy:a.eval y=.int .i64 (k:Int))(hk:k<n):(execOp a.eval o).run Tryz.prog W=.ok (.value (.pointer (some (ad.add (k*2))))) W:=by
 unfold execOp;have h1:(0:Int)<=(k:Int):=by omega
 have h2:(k:Int)<(n:Int):=by omega
 simp only[ho,hx,hy]
 go_simp
theorem sV {x:Operand}{i:Nat}(hi:i<1000000000)(ho:o.op=.binOp .sub 3 x (.const (.int .i64 1)) 3)(hx:a.eval x=.int .i64 ((i:Int)+1)):(execOp a.eval o).run Tryz.prog W=.ok (.value (.int .i64 (i:Int))) W:=by
 have h1:wrap64 ((i:Int)+1 - 1)=(i:Int):=by rw[Int.add_sub_cancel];exact jK (by omega) (by omega)
 generalize hE:a.eval=E at hx ⊢;have hc:E (.const (.int .i64 1))=.int .i64 1:=by rw[<-hE];rfl
 unfold execOp;simp only[ho,hx,hc]
 go_simp
 rw[aJ];exact jK (by omega) (by omega)
end
def z131:List Value:=[.slice none 0 0,.slice none 0 0]
abbrev RT (B:Nat)(xs:List Int)(v:Value)(w:World):Prop:=Kd.R (Kd.int .i64) 3 w B (fun _=>True) v xs
theorem RT.other {g t B:Nat}{w w1:World}{u:Value}{xs:List Int}{cs:List Value}(h:RT B xs u w)(hh:Holds w g t cs)(ht:3≠t)(hs:bH w w1 g):RT B xs u w1:=
 dW h hh (fun q hq=>by rcases List.mem_cons.1 hq with rfl|hq;exact ht;cases hq) hs
def A14 (B:Nat)(xs:List Int)(x1 v:Value)(w:World):Prop:=∃ a,v=.agg #[a,x1]/\RT B xs a w
def gZ (B g4:Nat)(xs:List Int)(x1:Value)(k:Nat)(w w':World):Prop:=match k with
 |15=>bH w w' g4/\(∃ va,Holds w' g4 64 [va,x1]/\RT B xs va w')/\∀ u,RT B xs u w->RT B xs u w'
 |_=>Below w.heap.size w w'
theorem gZ.other {B g4:Nat}{xs:List Int}{x1:Value}{k:Nat}{w w':World}(h:gZ B g4 xs x1 k w w')(hk:k≠15):Below w.heap.size w w':=by
 unfold gZ at h
 split at h
 . exact absurd rfl hk
 . exact h
theorem gZ.keeps {B g4:Nat}{xs:List Int}{x1:Value}{k:Nat}{w w':World}(h:gZ B g4 xs x1 k w w')(u:Value)(hu:RT B xs u w):RT B xs u w':=by
 by_cases hk:k=15
 . subst hk;exact h.2.2 u hu
 . exact Kd.aX hu (h.other hk)
theorem gZ.kp {B g4:Nat}{xs:List Int}{x1:Value}{k:Nat}{w w':World}(h:gZ B g4 xs x1 k w w'):Kp (fun q=>q=g4) w w':=by
 by_cases hk:k=15
 . subst hk;exact⟨h.1.os,h.1.tape,h.1.output,Nat.le_of_eq h.1.size.symm,fun q _ hq=>h.1.block q hq⟩
 . have hb:=h.other hk;exact⟨hb.os,hb.tape,hb.output,hb.size,fun q hq _=>hb.block q hq⟩
def V101 (B:Nat)(xs:List Int)(A:Option Addr)(ad:Addr)(n c i:Nat)(p3:Addr)(x0 x1:Value):Nat->Value->World->Prop
 |0,v,_=>v=.func (.func 78) #[] #[.pointer (some p3)]
 |1,v,_=>v=.slice (some ad) n c
 |2,v,_=>v=.int .i64 ((i:Int)+1)
 |3,v,_=>v=.int .i64 (i:Int)
 |4,v,_=>v=.pointer (some (ad.add (i*2)))
 |5,v,_=>v=.pointer (some (ad.add (i*2)))
 |6,v,_=>v=x0
 |7,v,w=>RT B xs v w
 |8,v,_=>v=.slice (some ad) n c
 |9,v,_=>v=.int .i64 ((i:Int)+1)
 |10,v,_=>v=.int .i64 (i:Int)
 |11,v,_=>v=.pointer (some (ad.add (i*2)))
 |12,v,_=>v=.pointer (some ⟨(ad.add (i*2)).block,(ad.add (i*2)).off+1,none⟩)
 |13,v,_=>v=x1
 |14,v,w=>A14 B xs x1 v w
 |_,_,_=>True
theorem BR (B g4:Nat)(xs:List Int)(A:Option Addr)(ad:Addr)(n c i:Nat)(p3:Addr)(x0 x1:Value)(k j:Nat)(v:Value)(w w':World)(h:V101 B xs A ad n c i p3 x0 x1 j v w)(hb:gZ B g4 xs x1 k w w'):V101 B xs A ad n c i p3 x0 x1 j v w':=by
 unfold V101 at h ⊢
 split at h<;>first|exact h|exact hb.keeps _ h|(obtain⟨a,h1,h2⟩:=h;exact⟨a,h1,hb.keeps _ h2⟩)|trivial
theorem Ew (N:List S89)(hN:N.length<=1000000)(A2:Option Addr)(c2:Nat)(p3 p4:Addr)(i:Nat)(hi:i<N.length)(hsm:xD N[i])(w0 w:World)(h2:Kd.C k89 w0 A2 N.length N)(hbb:Below w0.heap.size w0 w)(hp3:w.cell? p3=some (.slice A2 N.length c2))(hp4:w.cell? p4=some (.func (.func 78) #[] #[.pointer (some p3)])):
 Calls Tryz.prog 81 #[.int .i64 ((i:Int)+1),.pointer (some p4),.pointer (some p3)] w fun e w'=>∃ va x1,e=.returned (.tuple #[.agg #[va,x1],.bool true])/\RT w.heap.size (inF N.length N[i].f0) va w'/\IV .u64 w0 x1 N[i].f1/\Below w.heap.size w w':=by
 have hin:i<1000000000:=by omega
 obtain⟨ad,x0,x1,rfl,hx0,hv00,hv1⟩:=atN h2 i hi;have hx:=fun(w1:World) (h:Below w.heap.size w w1)=>hx0 w1 (ag hbb hbb.size h)
 have hv0:=hv00.below hbb;have HSM:=Y hsm;have HP3:=Y hp3;have HP4:=Y hp4;have HV0:=Y hv0;have HV1:=Y hv1;obtain⟨t,ht⟩:∃ t,t=N[i]:=⟨_,rfl⟩;rw[<-ht]at HV0 HV1 HSM hv0 hv1 ⊢;obtain⟨Ay,cy,rfl,_,_⟩:=hv1;clear hp3 hp4 hv0 hsm ht h2 hx0 hv00;go_enter Tryz.func81,Tryz.ntmps81;go_upto_region 1 with(fail)
 obtain⟨W1,hW1⟩:∃ W1,W1=w.alloc (.cells #[.slice none 0 0,.slice none 0 0] 64):=⟨_,rfl⟩;have hb0:Below w.heap.size w W1:=by rw[hW1];exact ae zc _
 have hz:Holds W1 w.heap.size 64 z131:=by rw[hW1];exact aK _ _
 rw[<-hW1];clear hW1;have HB0:=Y hb0;obtain⟨g4,hg4⟩:∃ g4,g4=w.heap.size:=⟨_,rfl⟩;have hbw:∀ w1,Kp (fun q=>q=g4) W1 w1->Below w.heap.size w w1:=fun w1 hk=>hk.below HB0.out HB0.out.size (fun k hk=>by omega)
 have hp3:∀ w1,Kp (fun q=>q=g4) W1 w1->w1.cell? p3=some (.slice (some ad) N.length c2):=fun w1 hk=>jB (hbw w1 hk) HP3.out
 have hp4:∀ w1,Kp (fun q=>q=g4) W1 w1->w1.cell? p4=some (.func (.func 78) #[] #[.pointer (some p3)]):=fun w1 hk=>jB (hbw w1 hk) HP4.out
 go_cut [4,5] (fun v4 v5 wc=>v5=.bool true/\v4=.pointer (some ⟨g4,0,none⟩)/\aa (∃ va,Holds wc g4 64 [va,.slice Ay t.f1.length cy]/\RT w.heap.size (inF N.length t.f0) va wc)/\aa (Below w.heap.size w wc))
 case first=>
  rw[<-hg4]at hz;rw[<-hg4];refine pz 16 21 (V101 w.heap.size (inF N.length t.f0) none ad N.length c2 i p3 x0 (.slice Ay t.f1.length cy)) (fun L w1=>Kp (fun q=>q=g4) W1 w1/\(L.getD 15 false=false->Holds w1 g4 64 z131)/\(L.getD 15 false=true->∃ va,Holds w1 g4 64 [va,.slice Ay t.f1.length cy]/\RT w.heap.size (inF N.length t.f0) va w1)) (gZ w.heap.size g4 (inF N.length t.f0) (.slice Ay t.f1.length cy)) (by kernel_rfl) (by rfl) (by kernel_rfl) ?j0 ?jj ?vv ?st ?en
  case j0=>exact⟨⟨rfl,rfl,rfl,Nat.le_refl _,fun _ _ _=>rfl⟩,fun _=>hz,fun h=>by simp at h⟩
  case jj=>
   intro k L w1 w2 hk hL hk0 hJ hG;refine⟨hJ.1.trans hG.kp (fun q _ hq=>hq),fun h=>?_,fun h=>?_⟩
   . by_cases he:k=15
     . subst he;rw[Array.getD_eq_getD_getElem?,Array.getElem?_setIfInBounds_self_of_lt (by rw[hL];decide)]at h
       cases h
     . rw[getD_set_ne false he]at h;exact(hJ.2.1 h).below (hG.other he)
   . by_cases he:k=15
     . subst he;exact hG.2.1
     . rw[getD_set_ne false he]at h;obtain⟨va,h1,h2⟩:=hJ.2.2 h;exact⟨va,h1.below (hG.other he),Kd.aX h2 (hG.other he)⟩
  case vv=>exact fun k j v w1 w2 _ _ _ h hG=>BR _ _ _ _ _ _ _ _ _ _ _ k j v w1 w2 h hG
  case st=>
   refine au.cons (fun a w1 L fr hL hj hdf hd K hK=>?_) ?_
   . exact af (nW rfl ((fr 1 (by kernel_rfl)).trans rfl) (hp4 w1 hj.1)) (hK _ _ (show gZ _ _ _ _ _ _ _ from zc) rfl)
   refine au.cons (fun a w1 L fr hL hj hdf hd K hK=>?_) ?_
   . exact af (jJ rfl ((fr 2 (by kernel_rfl)).trans rfl) (hp3 w1 hj.1)) (hK _ _ (show gZ _ _ _ _ _ _ _ from zc) rfl)
   refine au.cons (fun a w1 L fr hL hj hdf hd K hK=>?_) ?_
   . exact af (aC rfl ((fr 0 (by kernel_rfl)).trans rfl)) (hK _ _ (show gZ _ _ _ _ _ _ _ from zc) rfl)
   refine au.cons (fun a w1 L fr hL hj hdf hd K hK=>?_) ?_
   . exact af (sV hin rfl (hd 2 8 (by kernel_rfl))) (hK _ _ (show gZ _ _ _ _ _ _ _ from zc) rfl)
   refine au.cons (fun a w1 L fr hL hj hdf hd K hK=>?_) ?_
   . exact af (mX rfl (hd 1 7 (by kernel_rfl)) (hd 3 9 (by kernel_rfl)) hi) (hK _ _ (show gZ _ _ _ _ _ _ _ from zc) rfl)
   refine au.cons (fun a w1 L fr hL hj hdf hd K hK=>?_) ?_
   . exact af (qV rfl (hd 4 10 (by kernel_rfl))) (hK _ _ (show gZ _ _ _ _ _ _ _ from zc) rfl)
   refine au.cons (fun a w1 L fr hL hj hdf hd K hK=>?_) ?_
   . exact af (jh rfl (hd 5 11 (by kernel_rfl)) (hx w1 (hbw w1 hj.1)).1) (hK _ _ (show gZ _ _ _ _ _ _ _ from zc) rfl)
   refine au.cons (fun a w1 L fr hL hj hdf hd K hK=>?_) ?_
   . have e1:a.eval (.tmp 12)=x0:=(hd 6 12 (by kernel_rfl))
     have e2:a.eval (.tmp 6)=.func (.func 78) #[] #[.pointer (some p3)]:=(hd 0 6 (by kernel_rfl))
     refine sM Tryz.func78 (by kernel_rfl) rfl #[x0,.pointer (some p3)] rfl e2 (by simp only[List.map_toArray,List.map_cons,List.map_nil,e1];rfl) ?_
     refine(c97 x0 t.f0 N.length (some ad) c2 p3 _ (HV0.out.below (hbw w1 hj.1)) HSM.out.1 hN (hp3 w1 hj.1)).mono ?_;rintro e w2 ⟨v0,rfl,hr,hb2⟩;exact⟨_,rfl,hK _ _ (show gZ _ _ _ _ _ _ _ from hb2) (show RT _ _ _ _ from Kd.cB hr (Nat.le_trans HB0.out.size hj.1.size))⟩
   refine au.cons (fun a w1 L fr hL hj hdf hd K hK=>?_) ?_
   . exact af (jJ rfl ((fr 2 (by kernel_rfl)).trans rfl) (hp3 w1 hj.1)) (hK _ _ (show gZ _ _ _ _ _ _ _ from zc) rfl)
   refine au.cons (fun a w1 L fr hL hj hdf hd K hK=>?_) ?_
   . exact af (aC rfl ((fr 0 (by kernel_rfl)).trans rfl)) (hK _ _ (show gZ _ _ _ _ _ _ _ from zc) rfl)
   refine au.cons (fun a w1 L fr hL hj hdf hd K hK=>?_) ?_
   . exact af (sV hin rfl (hd 9 15 (by kernel_rfl))) (hK _ _ (show gZ _ _ _ _ _ _ _ from zc) rfl)
   refine au.cons (fun a w1 L fr hL hj hdf hd K hK=>?_) ?_
   . exact af (mX rfl (hd 8 14 (by kernel_rfl)) (hd 10 16 (by kernel_rfl)) hi) (hK _ _ (show gZ _ _ _ _ _ _ _ from zc) rfl)
   refine au.cons (fun a w1 L fr hL hj hdf hd K hK=>?_) ?_
   . exact af (qz rfl (hd 11 17 (by kernel_rfl))) (hK _ _ (show gZ _ _ _ _ _ _ _ from zc) rfl)
   refine au.cons (fun a w1 L fr hL hj hdf hd K hK=>?_) ?_
   . exact af (qN rfl (hd 12 18 (by kernel_rfl)) (hx w1 (hbw w1 hj.1)).2) (hK _ _ (show gZ _ _ _ _ _ _ _ from zc) rfl)
   refine au.cons (fun a w1 L fr hL hj hdf hd K hK=>?_) ?_
   . have h7:RT w.heap.size (inF N.length t.f0) (a.eval (.tmp 13)) w1:=(hd 7 13 (by kernel_rfl))
     obtain⟨Aa,ca,ea⟩:=Kd.aD h7;exact af (qg rfl ea (hd 13 19 (by kernel_rfl))) (hK _ _ (show gZ _ _ _ _ _ _ _ from zc) (show A14 _ _ _ _ _ from⟨_,rfl,by rw[<-ea];exact h7⟩))
   refine au.cons (fun a w1 L fr hL hj hdf hd K hK=>?_) ?_
   . obtain⟨va,e14,h7⟩:A14 w.heap.size (inF N.length t.f0) (.slice Ay t.f1.length cy) (a.eval (.tmp 20)) w1:=(hd 14 20 (by kernel_rfl))
     obtain⟨Aa,ca,rfl⟩:=Kd.aD h7;have hh4:=hj.2.1 hL;have hs:=dR w1 g4 0 [.slice Aa (inF N.length t.f0).length ca,.slice Ay t.f1.length cy];refine Wv.wp_skip (w':=w1.setCells g4 0 [.slice Aa (inF N.length t.f0).length ca,.slice Ay t.f1.length cy]) rfl ?_ ?_
     . exact lC (g:=g4) (off:=0) (t:=64) (cs:=z131) (vs:=#[.slice Aa (inF N.length t.f0).length ca,.slice Ay t.f1.length cy]) rfl ((fr 4 (by kernel_rfl)).trans rfl) e14 hh4 (by show 2<=2;decide) zN (by simp[Value.oneCell'])
     . exact hK undef _ (show gZ _ _ _ _ _ _ _ from⟨hs,⟨_,eX hh4 (by show 0+2<=2;decide),RT.other h7 hh4 (by decide) hs⟩,fun u hu=>RT.other hu hh4 (by decide) hs⟩) trivial
   exact au.nil
  case en=>
   intro vs w' L hJ hl hv;have h15:=hJ.2.2 (hl 15 (by decide))
   refine ll rfl ?_;simp only[List.take_succ_cons,List.take_zero,bA,Act.put,zj,zr,ya];refine af (zl rfl rfl) ?_
   go_wp2
   go_meet
   case rel=>exact⟨rfl,rfl,⟨h15⟩,⟨hbw _ hJ.1⟩⟩
 case rest=>
  obtain⟨rfl,rfl,HH,HB⟩:=hcut;obtain⟨va,hh,hr⟩:=HH.out;obtain⟨Aa,ca,rfl⟩:=Kd.aD hr
  go_wp2
  refine bodyPost_ret (ql rfl _ _ g4 64 #[.slice Aa (inF N.length t.f0).length ca,.slice Ay t.f1.length cy] (0,0) _ rfl hh Tryz.underlying64 rfl zN) rfl ?_;exact⟨_,_,rfl,hr,HV1.out,HB.out⟩
end
end Go.Proofs.YtglikkmmbdnmbaaGreat.Im
namespace Go.Proofs.YtglikkmmbdnmbaaGreat.Im
open Go.RowKit Go.Shelf Q7
open YtglikkmmbdnmbaaGreat.Own PCan Wv
set_option linter.unusedVariables false
set_option linter.unusedSimpArgs false
attribute [local go_sem] Oper.semAt_some
section
structure KT (W W':World):Prop where
 size:W.heap.size<=W'.heap.size
 same:∀(k:Nat) (cs:Array Value) (t:TypeId) (fr:Nat×Nat),W.heap[k]? =some (.cells cs t fr)->t≠3->t≠38->W'.heap[k]? =some (.cells cs t fr)
theorem KT.trans {A B C:World}(h:KT A B)(k:KT B C):KT A C:=⟨Nat.le_trans h.size k.size,fun i cs t fr hi h3 h26=>k.same i cs t fr (h.same i cs t fr hi h3 h26) h3 h26⟩
theorem KT.below {W W':World}(h:Below W.heap.size W W'):KT W W':=⟨h.size,fun k cs t fr hk _ _=>(h.block k (Array.getElem?_eq_some_iff.1 hk).1).trans hk⟩
theorem KT.putObj (W:World)(l:Nat)(o o':Obj)(h:W.heap[l]? =some o)(hc:o.isCells=false):KT W (W.putObj l o'):=
 ⟨by simp,fun k cs t fr hk _ _=>by
  have hne:k≠l:=fun e=>by
   subst e;rw[h]at hk;injection hk with hk
   subst hk;cases hc
  exact(World.putObj_heap_other hne).trans hk⟩
theorem KT.holds {W W':World}{g t:Nat}{cs:List Value}(h:KT W W')(hh:Holds W g t cs)(h3:t≠3)(h26:t≠38):Holds W' g t cs:=h.same _ _ _ _ hh h3 h26
theorem KT.raw {W W':World}{B:Nat}{ok:Nat->Prop}{v:Value}{ps:List (Value×Value)}(h:KT W W')(hr:Kd.R bn 61 W B ok v ps):Kd.R bn 61 W' B ok v ps:=by
 refine Kd.bY (Kd.nJ (Kd.fO hr) (fun k hk=>?_)) (fun k hk=>hk.1)
 obtain⟨_,_,_,q,hq,cells,hc⟩:=hk
 rcases List.mem_cons.1 hq with rfl|hq
 . exact(h.same _ _ _ _ hc (by decide) (by decide)).trans hc.symm
 . cases hq
def fu (ps:List (Value×Value))(vG:Value):List Value:=ps.flatMap (fun p=>[p.1,p.2])++[vG]
theorem qw (ps:List (Value×Value))(vG:Value):(fu ps vG).length=2*ps.length+1:=by
 have h:∀ ps:List (Value×Value),(ps.flatMap (fun p=>[p.1,p.2])).length=2*ps.length:=fun ps=>by
  induction ps with
  |nil=>rfl
  |cons p ps ih=>rw[List.flatMap_cons,List.length_append,ih];simp;omega
 unfold fu;rw[List.length_append,h];rfl
theorem uR:∀(ps:List (Value×Value)) (r:List Value) (i:Nat) (p:Value×Value),ps[i]? =some p->(ps.flatMap (fun p=>[p.1,p.2])++r)[2*i]? =some p.1/\(ps.flatMap (fun p=>[p.1,p.2])++r)[2*i+1]? =some p.2
 |[],r,i,p,h=>by simp at h
 |q :: ps,r,0,p,h=>by
  obtain rfl:q=p:=by simpa using h
  exact⟨rfl,rfl⟩
 |q :: ps,r,i+1,p,h=>by
  have ih:=uR ps r i p (by simpa using h)
  rw[List.flatMap_cons,List.append_assoc];exact⟨ih.1,ih.2⟩
def encR (rows:List Value)(j:Nat):Array Value:=#[rows.getD j (.slice none 0 0)]
theorem vH {rows:List Value}{j:Nat}{v:Value}(h:rows[j]? =some v):encR rows j=#[v]:=by
 unfold encR;rw[List.getD_eq_getElem?_getD,h];rfl
theorem El (F:Fence)(n:Nat)(h117:F.fn 122)(hro:F.round=none)(hn:1<=n)(l bS g2 B:Nat)(ps:List (Value×Value))(AT:Option Addr)(cT:Nat)(AG:Option Addr)(nG cG:Nat)(vN:Value)(hps:ps.length<=100000)(J Jx:List Nat->World->Prop)
 (hsl:∀ p∈ps,∃ A0 n0 c0 A1 n1 c1,p=(.slice A0 n0 c0,.slice A1 n1 c1))
 (hJ:∀ pre W W',J pre W->Below W.heap.size W W'->J pre W')
 (hY:∀ pre x W,J pre W->pre.length<2*ps.length+1->YieldAt F (n - 1) Tryz.prog l (encR (fu ps (.slice AG nG cG)) x) W fun e W'=>
  (e=.returned (.bool true)/\J (pre++[x]) W'/\KT W W')\/(e=.returned (.bool false)/\Jx (pre++[x]) W'))
 (W:World) (hb:Holds W bS 175 [.pointer (some ⟨g2,0,none⟩)]) (h2:Holds W g2 46 [.slice AT ps.length cT,.slice AG nG cG,vN]) (hr:Kd.R bn 61 W B (fun _=>True) (.slice AT ps.length cT) ps) (h0:J [] W):
 CallsIn F n Tryz.prog 122 #[.func (.yield l) #[] #[],.pointer (some ⟨bS,0,none⟩)] W fun e W'=>(∃ v,e=.returned v)/\
  ((∃ ys,ys=List.range (2*ps.length+1)/\J ys W')\/(∃ pre,Jx pre W')):=by
 refine callsIn_of_wp Tryz.func122 rfl h117 ?_ hro;simp only[Tryz.ntmps122,List.size_toArray,List.length_cons,List.length_nil,Nat.reduceAdd,Nat.reduceSub,Array.replicate_succ,Array.replicate_zero,List.push_toArray,List.append_toArray,List.nil_append,List.cons_append];have hu89:=Tryz.underlying46;have x0:=(hb.cell 0).trans rfl;have x1:=(h2.cell 0).trans rfl
 gi_wp2
 gi_loopw [10] (fun i wr=>∃ k:Nat,k<=ps.length/\i=.int .i64 k/\J (List.range (2*k)) wr/\KT W wr)
  (fun i _=>ps.length - (intOf i).toNat)
 case atStart=>exact⟨0,Nat.zero_le _,rfl,h0,⟨Nat.le_refl _,fun _ _ _ _ h _ _=>h⟩⟩
 case round=>
  obtain⟨k,hk,rfl,hJs,hnx⟩:=hrel;have hrw:=hnx.raw hr
  by_cases hlt:k<ps.length
  . obtain⟨ad,c',e',_,hK,hcell⟩:=Kd.j5 (Kd.bI hrw).2.2 ((.slice none 0 0,.slice none 0 0):Value×Value) (k:Int) (by omega) (by omega)
    subst e'
    have hpk:ps[k]? =some (ps.getD (k:Int).toNat (.slice none 0 0,.slice none 0 0)):=by
     rw[Int.toNat_natCast,List.getD_eq_getElem?_getD,List.getElem?_eq_getElem hlt];rfl
    obtain⟨p,hp⟩:∃ p,p=ps.getD (k:Int).toNat (.slice none 0 0,.slice none 0 0):=⟨_,rfl⟩;rw[<-hp]at hK hpk;obtain⟨rfl,_,_⟩:=hK;obtain⟨A0,n0,c0,A1,n1,c1,rfl⟩:=hsl p (List.mem_of_getElem? hpk)
    have hx0:wr.cell? (ad.add (k*2))=some (.slice A0 n0 c0):=by
     have h:wr.cell? (ad.add ((k:Int).toNat*2+0))=_:=hcell 0 _ rfl;rw[Int.toNat_natCast,Nat.add_zero]at h;exact h
    have hx1:wr.cell? ⟨(ad.add (k*2)).block,(ad.add (k*2)).off+1,none⟩=some (.slice A1 n1 c1):=by
     have h:wr.cell? (ad.add ((k:Int).toNat*2+1))=_:=hcell 1 _ rfl;rw[Int.toNat_natCast]at h;rw[<-dN _ _ 1 (by omega)]
     exact h
    have hro:=uR ps [.slice AG nG cG] k _ hpk;have q1:decide ((k:Int)<(ps.length:Int))=true:=yb (by omega)
    have q2:decide (k<ps.length)=true:=yb hlt;have q3:(0:Int)<=(k:Int):=by omega
    have q4:(k:Int)<(ps.length:Int):=by omega
    have hin:k<1000000000:=by omega
    obtain⟨W4,hW4⟩:∃ W4,W4=wr.alloc (.cells #[.slice A0 n0 c0,.slice A1 n1 c1] 61):=⟨_,rfl⟩;have hb4:Below wr.heap.size wr W4:=by rw[hW4];exact ae zc _
    have h4:Holds W4 wr.heap.size 61 [.slice A0 n0 c0,.slice A1 n1 c1]:=by rw[hW4];exact aK _ _
    have hY1:=hY (List.range (2*k)) (2*k) W4 (hJ _ _ _ hJs hb4) (by rw[List.length_range];omega)
    rw[show encR (fu ps (.slice AG nG cG)) (2*k)=#[.slice A0 n0 c0]from vH hro.1]at hY1
    obtain⟨fn,tmps,assign,body,hy,hR⟩:=hY1;rw[hW4]at hy hR
    gi_wp2
    refine hR.mono ?_;rw[<-hW4];rintro e W5 (⟨rfl,hJ5,hk5⟩|⟨rfl,hJx5⟩)
    . have hz1:W5.cell? ⟨wr.heap.size,1,none⟩=some (.slice A1 n1 c1):=((hk5.holds h4 (by decide) (by decide)).cell 1).trans rfl
      have hY2:=hY (List.range (2*k)++[2*k]) (2*k+1) W5 hJ5 (by rw[List.length_append,List.length_range,List.length_singleton];omega)
      rw[show encR (fu ps (.slice AG nG cG)) (2*k+1)=#[.slice A1 n1 c1]from vH hro.2]at hY2
      clear hy hR;obtain⟨fn,tmps,assign,body,hy,hR⟩:=hY2
      gi_wp2
      refine hR.mono ?_;rintro e W6 (⟨rfl,hJ6,hk6⟩|⟨rfl,hJx6⟩)
      . gi_wp2
        go_roundw
        case rel=>
         refine⟨k+1,by omega,by simp,?_,((hnx.trans (KT.below hb4)).trans hk5).trans hk6⟩
         rw[show 2*(k+1)=2*k+1+1 by omega,List.range_succ,List.range_succ]
         exact hJ6
        case measure=>simp[intOf];omega
      . gi_wp2
        refine bodyPost_ret (results_none rfl _ _ _) rfl ?_;exact⟨⟨_,rfl⟩,.inr ⟨_,hJx6⟩⟩
    . gi_wp2
      refine⟨fun _ h=>(by cases h),?_⟩
      gi_wp2
      refine bodyPost_ret (results_none rfl _ _ _) rfl ?_;exact⟨⟨_,rfl⟩,.inr ⟨_,hJx5⟩⟩
  . obtain rfl:k=ps.length:=by omega
    have q1:decide ((ps.length:Int)<(ps.length:Int))=false:=yd (by omega)
    have x2:wr.cell? ⟨bS,0,none⟩=some (.pointer (some ⟨g2,0,none⟩)):=((hnx.holds hb (by decide) (by decide)).cell 0).trans rfl
    have x3:wr.cell? ⟨g2,1,none⟩=some (.slice AG nG cG):=((hnx.holds h2 (by decide) (by decide)).cell 1).trans rfl
    have hY1:=hY (List.range (2*ps.length)) (2*ps.length) wr hJs (by rw[List.length_range];omega)
    rw[show encR (fu ps (.slice AG nG cG)) (2*ps.length)=#[.slice AG nG cG]from vH (by
     have h:=qw ps (.slice AG nG cG);unfold fu at h ⊢;rw[List.length_append,List.length_singleton]at h;rw[List.getElem?_append_right (by omega),show 2*ps.length - (ps.flatMap fun p=>[p.1,p.2]).length=0 by omega]
     rfl)]at hY1
    obtain⟨fn,tmps,assign,body,hy,hR⟩:=hY1
    gi_wp2
    refine hR.mono ?_;rintro e W6 (⟨rfl,hJ6,hk6⟩|⟨rfl,hJx6⟩)
    . gi_wp2
      go_end0
      exact⟨⟨_,rfl⟩,.inl ⟨_,rfl,by rw[List.range_succ];exact hJ6⟩⟩
    . gi_wp2
      go_end0
      exact⟨⟨_,rfl⟩,.inr ⟨_,hJx6⟩⟩
theorem BF (F:Fence)(n:Nat)(h117:F.fn 122)(hro:F.round=none)(hn:1<=n)(bS g2 B:Nat)(ps:List (Value×Value))(AT:Option Addr)(cT:Nat)(AG:Option Addr)(nG cG:Nat)(vN:Value)(hps:ps.length<=100000)
 (hsl:∀ p∈ps,∃ A0 n0 c0 A1 n1 c1,p=(.slice A0 n0 c0,.slice A1 n1 c1)) (w:World)
 (hb:Holds w bS 175 [.pointer (some ⟨g2,0,none⟩)]) (h2:Holds w g2 46 [.slice AT ps.length cT,.slice AG nG cG,vN]) (hr:Kd.R bn 61 w B (fun _=>True) (.slice AT ps.length cT) ps):
 SeqStopsK F n Tryz.prog 122 #[.pointer (some ⟨bS,0,none⟩)] (encR (fu ps (.slice AG nG cG))) KT (fun ys=>ys=List.range (2*ps.length+1)) (fun _=>True) (2*ps.length+1) w:=fun l J Jx W hW hJ hJx hY h0=>by
 refine(El F n h117 hro hn l bS g2 B ps AT cT AG nG cG vN hps J Jx hsl (fun pre W1 W2 h k=>hJ pre W1 W2 none h (cK k none) (fun r e=>by cases e)) hY W (hb.below hW) (h2.below hW) (Kd.aX hr hW) h0).mono ?_
 rintro e W' ⟨he,⟨ys,rfl,hj⟩|⟨pre,hj⟩⟩
 . exact⟨he,.inl ⟨_,rfl,hj⟩⟩
 . exact⟨he,.inr ⟨_,trivial,hj⟩⟩
theorem rows_in (F:Fence)(n:Nat)(h113:F.fn 100)(hro:F.round=none)(g2:Nat)(w:World):
 CallsIn F n Tryz.prog 100 #[.pointer (some ⟨g2,0,none⟩)] w fun e w'=>e=.returned (.func (.func 122) #[] #[.pointer (some ⟨w.heap.size,0,none⟩)])/\w'=w.alloc (.cells #[.pointer (some ⟨g2,0,none⟩)] 175):=by
 refine callsIn_of_wp Tryz.func100 rfl h113 ?_ hro;simp only[Tryz.ntmps100,List.size_toArray,List.length_cons,List.length_nil,Nat.reduceAdd,Nat.reduceSub,Array.replicate_succ,Array.replicate_zero,List.push_toArray,List.append_toArray,List.nil_append,List.cons_append]
 gi_wp2
 go_ret
 exact⟨rfl,rfl⟩
end
end Go.Proofs.YtglikkmmbdnmbaaGreat.Im
namespace Go.Proofs.YtglikkmmbdnmbaaGreat.Im
open Go.RowKit Go.Shelf Q7
open YtglikkmmbdnmbaaGreat.Own PCan Wv
set_option linter.unusedVariables false
set_option linter.unusedSimpArgs false
section
theorem num1_in (nm:List Int)(x:Int):0<=(dQ nm x).2/\(dQ nm x).2<=(dQ nm x).1.length:=by
 unfold dQ
 split
 . exact⟨Int.le_refl _,by simp⟩
 . split
   . rename_i h1 h2
     have:=List.idxOf_lt_length_of_mem h2;constructor<;>simp only<;>omega
   . constructor
     . simp only;omega
     . simp
theorem vC:∀(l nm:List Int),∀ x∈(bC nm l).2,0<=x/\x<=(bC nm l).1.length
 |[],_,x,hx=>by cases hx
 |y :: l,nm,x,hx=>by
  have h1:=num1_in nm y;have h2:=(lS l (dQ nm y).1).1
  rcases List.mem_cons.1 (show x∈(dQ nm y).2 :: (bC (dQ nm y).1 l).2 from hx)with rfl|hx
  . refine⟨h1.1,?_⟩;show _<=(((bC (dQ nm y).1 l).1.length:Nat):Int)
    omega
  . exact vC l _ x hx
def uO (s:List Int×(Nat->List Int))(j:Nat):List Int×(Nat->List Int):=((bC s.1 (s.2 j)).1,fun k=>if k=j then(bC s.1 (s.2 j)).2 else s.2 k)
def stR (c:Nat->List Int)(pre:List Nat):List Int×(Nat->List Int):=pre.foldl uO ([],c)
theorem kM (c:Nat->List Int)(pre:List Nat)(j:Nat):stR c (pre++[j])=uO (stR c pre) j:=by
 unfold stR;rw[List.foldl_append];rfl
structure StOk (s:List Int×(Nat->List Int))(m R:Nat):Prop where
 nm:s.1.length<=m*R
 len:∀ j,(s.2 j).length<=R
 val:∀ j,∀ x∈s.2 j,0<=x/\x<=1000000
theorem Cc {s:List Int×(Nat->List Int)}{m R:Nat}(h:StOk s m R)(hm:(m+1)*R<=1000000)(j:Nat):StOk (uO s j) (m+1) R:=by
 have h1:=(lS (s.2 j) s.1).2;have h2:=h.len j;have h3:=h.nm;have e:(m+1)*R=m*R+R:=Nat.succ_mul m R;refine⟨?_,fun k=>?_,fun k x hx=>?_⟩
 . show(bC s.1 (s.2 j)).1.length<=_
   omega
 . show(if k=j then(bC s.1 (s.2 j)).2 else s.2 k).length<=R
   split
   . rw[jM];exact h2
   . exact h.len k
 . by_cases hk:k=j
   . have hx':x∈(bC s.1 (s.2 j)).2:=by
      have h4:x∈(if k=j then(bC s.1 (s.2 j)).2 else s.2 k):=hx
      rwa [if_pos hk]at h4
     have h4:=vC (s.2 j) s.1 x hx';exact⟨h4.1,by omega⟩
   . have hx':x∈s.2 k:=by
      have h4:x∈(if k=j then(bC s.1 (s.2 j)).2 else s.2 k):=hx
      rwa [if_neg hk]at h4
     exact h.val k x hx'
theorem stOk_R {c:Nat->List Int}{R M:Nat}(hc:∀ j,(c j).length<=R)(hv:∀ j,∀ x∈c j,0<=x/\x<=1000000)(hM:M*R<=1000000):∀(q:Nat) (pre:List Nat),pre.length=q->q<=M->StOk (stR c pre) q R:=by
 intro q
 induction q with
 |zero=>
  intro pre hp hq;obtain rfl:=List.length_eq_zero_iff.1 hp;exact⟨by simp[stR],hc,hv⟩
 |succ q ih=>
  intro pre hp hq
  obtain⟨pre',j,rfl⟩:∃ pre' j,pre=pre'++[j]:=by
   rcases List.eq_nil_or_concat pre with h|⟨L,b,h⟩
   . subst h;simp at hp
   . exact⟨L,b,by rw[h,List.concat_eq_append]⟩
  rw[List.length_append,List.length_singleton]at hp;rw[kM];exact Cc (ih pre' (by omega) (by omega)) (Nat.le_trans (Nat.mul_le_mul_right R hq) hM) j
structure RI (c:Nat->List Int)(rows:List Value)(B m1 m2 b:Nat)(HL:List (Nat×Nat×List Value))(vT:Value)(ps:List (Value×Value))(w00:World)(pre:List Nat)(W:World):Prop where
 ns:∃ vN,NS W B m1 m2 b vN (stR c pre).1/\∀ j,OI .i64 3 W B vN (rows.getD j (.slice none 0 0)) ((stR c pre).2 j)
 hs:∀ x∈HL,Holds W x.1 x.2.1 x.2.2
 raw:Kd.R bn 61 W B (fun _=>True) vT ps
 below:Below B w00 W
 size:B<=W.heap.size
theorem OI.turn {k:IntKind}{e B:Nat}{W W':World}{vN vM u:Value}{xs:List Int}(h:OI k e W' B vN u xs)(hlt:∀ q,u.ownBlock=some q->q<W.heap.size)(hat:vM.ownBlock=vN.ownBlock\/∃ q,vM.ownBlock=some q/\W.heap.size<=q):OI k e W' B vM u xs:=by
 refine⟨fun q hq=>⟨trivial,fun e1=>?_⟩,h.2.iO (fun _ _ hp=>hp)⟩
 rcases hat with h1|⟨q2,h1,h2⟩
 . exact(h.1 q hq).2 (by rw[e1,h1])
 . rw[h1]at e1;injection e1 with e1
   have:=hlt q hq;omega
theorem yt {k:IntKind}{e B:Nat}{ok:Nat->Prop}{W W':World}{v:Value}{xs:List Int}{row:Option Nat}(hr:Kd.R (Kd.int k) e W B ok v xs)(hg:W.grownBy W' row)(hn:∀ q,row=some q->∃ o:Obj,W.heap[q]? =some o/\o.isCells=false):Kd.R (Kd.int k) e W' B ok v xs:=by
 refine(Kp.jQ hg).RI hr (fun q hq e1=>?_)
 obtain⟨o,ho,hc⟩:=hn q e1.symm;obtain⟨inner,hw⟩:=Kd.gF hr;obtain⟨cells,hcell⟩:=dO hw q hq;rw[hcell]at ho;injection ho with ho
 subst ho;cases hc
theorem oO {W W':World}{g t:Nat}{cs:List Value}{row:Option Nat}(hh:Holds W g t cs)(hg:W.grownBy W' row)(hn:∀ q,row=some q->∃ o:Obj,W.heap[q]? =some o/\o.isCells=false):Holds W' g t cs:=by
 refine aY hh hg (fun e1=>?_)
 obtain⟨o,ho,hc⟩:=hn g e1.symm;rw[show W.heap[g]? =_ from hh]at ho
 injection ho with ho
 subst ho;cases hc
theorem Ck {B:Nat}{W W':World}{v:Value}{ps:List (Value×Value)}{row:Option Nat}(hr:Kd.R bn 61 W B (fun _=>True) v ps)(hg:W.grownBy W' row)(hn:∀ q,row=some q->∃ o:Obj,W.heap[q]? =some o/\o.isCells=false):Kd.R bn 61 W' B (fun _=>True) v ps:=by
 refine Kd.bY (Kd.iU (Kd.fO hr) hg (fun k hk e1=>?_)) (fun k hk=>hk.1)
 obtain⟨o,ho,hc⟩:=hn k e1.symm;obtain⟨_,_,_,q,_,cells,hcell⟩:=hk;rw[hcell]at ho;injection ho with ho
 subst ho;cases hc
theorem RI.own {c:Nat->List Int}{rows:List Value}{B m1 m2 b:Nat}{HL:List (Nat×Nat×List Value)}{vT:Value}{ps:List (Value×Value)}{w00:World}{W0:World}(hb:b<W0.heap.size)(hB:B<=W0.heap.size):OwnFrom W0.heap.size (RI c rows B m1 m2 b HL vT ps w00):=by
 intro pre W W' row h hg hn;have hn':∀ q,row=some q->∃ o:Obj,W.heap[q]? =some o/\o.isCells=false:=fun q hq=>(hn q hq).2
 obtain⟨vN,hns,ho⟩:=h.ns;obtain⟨D,hD,hN⟩:=hns.map;refine⟨⟨vN,⟨oO hns.c1 hg hn',oO hns.c2 hg hn',⟨D,hD.kept hg (fun e=>by have:=(hn b e.symm).1;omega),hN⟩,yt hns.row hg hn'⟩,fun j=>yt (ho j) hg hn'⟩,fun x hx=>oO (h.hs x hx) hg hn',Ck h.raw hg hn',h.below.grown hg h.size (fun q hq=>by have:=(hn q hq).1;omega),Nat.le_trans h.size hg.size⟩
theorem RI.round {c:Nat->List Int}{rows:List Value}{B m1 m2 b:Nat}{HL:List (Nat×Nat×List Value)}{vT:Value}{ps:List (Value×Value)}{w00 W W':World}{pre:List Nat}{j:Nat}{vN vN':Value}(h:RI c rows B m1 m2 b HL vT ps w00 pre W)(ht:∀ x∈HL,x.2.1≠3/\x.2.1≠38)(hb:B<=b)(hm:B<=m2)
 (hns:NS W B m1 m2 b vN (stR c pre).1) (ho:∀ k,OI .i64 3 W B vN (rows.getD k (.slice none 0 0)) ((stR c pre).2 k))
 (hap:∀ k q,k≠j->(rows.getD k (.slice none 0 0)).ownBlock=some q->(rows.getD j (.slice none 0 0)).ownBlock≠some q)
 (hns':NS W' B m1 m2 b vN' (bC (stR c pre).1 ((stR c pre).2 j)).1) (ho':OI .i64 3 W' B vN' (rows.getD j (.slice none 0 0)) (bC (stR c pre).1 ((stR c pre).2 j)).2) (hat:vN'.ownBlock=vN.ownBlock\/∃ q,vN'.ownBlock=some q/\W.heap.size<=q)
 (hk:Kp (Sn b m2 vN (rows.getD j (.slice none 0 0))) W W'):RI c rows B m1 m2 b HL vT ps w00 (pre++[j]) W'/\KT W W':=by
 obtain⟨D,hD,_⟩:=hns.map
 have hkt:KT W W':=by
  refine⟨hk.size,fun k cs t fr hk1 h3 h26=>(hk.block k (Array.getElem?_eq_some_iff.1 hk1).1 (fun hs=>?_)).trans hk1⟩
  rcases hs with e|e|e|e
  . subst e;obtain⟨es,clock,hb,_⟩:=hD;rw[hk1]at hb;injection hb with hb
    cases hb
  . subst e;have h1:=(show _=_ from hns.c2).symm.trans hk1
    injection h1 with h1
    injection h1 with _ h1
    exact h26 h1.symm
  . obtain⟨inner,hw⟩:=Kd.gF hns.row;obtain⟨cells,hc⟩:=dO hw k e.symm;rw[hc]at hk1;injection hk1 with hk1
    injection hk1 with _ hk1
    exact h3 hk1.symm
  . obtain⟨inner,hw⟩:=Kd.gF (ho j);obtain⟨cells,hc⟩:=dO hw k e.symm;rw[hc]at hk1;injection hk1 with hk1
    injection hk1 with _ hk1
    exact h3 hk1.symm
 refine⟨⟨⟨vN',?_,fun k=>?_⟩,fun x hx=>hkt.holds (h.hs x hx) (ht x hx).1 (ht x hx).2,hkt.raw h.raw,hk.below h.below h.size (fun k hs=>?_),Nat.le_trans h.size hk.size⟩,hkt⟩
 . rw[kM];exact hns'
 . rw[kM]
   by_cases hkj:k=j
   . subst hkj;show OI .i64 3 W' B vN' _ (if k=k then _ else _)
     rw[if_pos rfl];exact ho'
   . show OI .i64 3 W' B vN' _ (if k=j then _ else _)
     rw[if_neg hkj];refine OI.turn (W:=W) (vN:=vN) (hk.RI (ho k) (fun q hq hs=>?_)) (fun q hq=>Kd.fT (ho k) q hq) hat
     rcases hs with e|e|e|e
     . exact kz (ho k) hD q hq e
     . exact Kd.dL (ho k) hns.c2 (by decide) (by rw[hq,e])
     . exact((ho k).1 q hq).2 e
     . exact hap k q hkj hq e.symm
 . rcases hs with e|e|e|e
   . omega
   . omega
   . exact Kd.dG hns.row k e.symm
   . exact Kd.dG (ho j) k e.symm
end
end Go.Proofs.YtglikkmmbdnmbaaGreat.Im
namespace Go.Proofs.YtglikkmmbdnmbaaGreat.Im
open Go.RowKit Q7
open YtglikkmmbdnmbaaGreat.Own PCan Wv
set_option linter.unusedVariables false
set_option linter.unusedSimpArgs false
section
theorem yf:∀(n:Nat) (l:List Int),l.Nodup->(∀ x∈l,1<=x/\x<=n)->l.length<=n
 |0,l,hn,h=>by
  rcases l with _|⟨x,l⟩
  . exact Nat.le_refl _
  . have:=h x List.mem_cons_self;omega
 |n+1,l,hn,h=>by
  have ih:=yf n (l.erase ((n:Int)+1)) (hn.erase _) (fun x hx=>by
   have h1:=(hn.mem_erase_iff).1 hx;have h2:=h x h1.2;have h3:=h1.1
   omega)
  rw[List.length_erase]at ih
  split at ih<;>omega
structure jA (n:Nat)(nm:List Int):Prop where
 nodup:nm.Nodup
 val:∀ x∈nm,1<=x/\x<=n
theorem jA.len {n:Nat}{nm:List Int}(h:jA n nm):nm.length<=n:=yf n nm h.nodup h.val
theorem zQ {n:Nat}{nm:List Int}(h:jA n nm){x:Int}(hx:0<=x/\x<=n):jA n (dQ nm x).1:=by
 unfold dQ
 split
 . exact h
 . split
   . exact h
   . rename_i h0 hm
     refine⟨?_,fun y hy=>?_⟩
     . rw[List.nodup_append];exact⟨h.nodup,by simp,fun a ha b hb e=>hm (by rw[List.mem_singleton]at hb;rw[<-hb,<-e];exact ha)⟩
     . rcases List.mem_append.1 hy with hy|hy
       . exact h.val y hy
       . obtain rfl:=List.mem_singleton.1 hy;omega
theorem nA {n:Nat}:∀{l nm:List Int},jA n nm->(∀ x∈l,0<=x/\x<=n)->jA n (bC nm l).1
 |[],_,h,_=>h
 |x :: l,nm,h,hx=>by
  show jA n (bC (dQ nm x).1 l).1
  exact nA (l:=l) (nm:=(dQ nm x).1) (zQ h (hx x List.mem_cons_self)) (fun y hy=>hx y (List.mem_cons_of_mem _ hy))
theorem ym {n:Nat}{c:Nat->List Int}(hc:∀ j,∀ x∈c j,0<=x/\x<=n):∀(q:Nat) (pre:List Nat),pre.length=q->jA n (stR c pre).1/\∀ j,∀ x∈(stR c pre).2 j,0<=x/\x<=n:=by
 intro q
 induction q with
 |zero=>
  intro pre hp;obtain rfl:=List.length_eq_zero_iff.1 hp;exact⟨⟨List.nodup_nil,fun x hx=>by cases hx⟩,hc⟩
 |succ q ih=>
  intro pre hp
  obtain⟨pre',j,rfl⟩:∃ pre' j,pre=pre'++[j]:=by
   rcases List.eq_nil_or_concat pre with h|⟨L,b,h⟩
   . subst h;simp at hp
   . exact⟨L,b,by rw[h,List.concat_eq_append]⟩
  rw[List.length_append,List.length_singleton]at hp;obtain⟨h1,h2⟩:=ih pre' (by omega)
  rw[kM];have h3:=nA h1 (h2 j);refine⟨h3,fun k x hx=>?_⟩
  by_cases hk:k=j
  . have hx':x∈(bC (stR c pre').1 ((stR c pre').2 j)).2:=by
     have h4:x∈(if k=j then(bC (stR c pre').1 ((stR c pre').2 j)).2 else(stR c pre').2 k):=hx
     rwa [if_pos hk]at h4
    have h4:=vC _ _ x hx';have h5:=h3.len;omega
  . have hx':x∈(stR c pre').2 k:=by
     have h4:x∈(if k=j then(bC (stR c pre').1 ((stR c pre').2 j)).2 else(stR c pre').2 k):=hx
     rwa [if_neg hk]at h4
    exact h2 k x hx'
theorem nk (n:Nat)(l:List Int):∀ x∈inF n l,0<=x/\x<=n:=by
 intro x hx;unfold inF at hx;obtain⟨y,_,rfl⟩:=List.mem_map.1 hx
 split<;>omega
def gy:S89:=⟨[],[]⟩
def dF (N:List S89):Nat->Nat->List Int->List S89->List Int×List S89
 |0,_,nm,acc=>(nm,acc)
 |f+1,i,nm,acc=>if i<nm.length then dF N f (i+1) (bC nm (inF N.length (N.getD ((nm.getD i 0).toNat - 1) gy).f0)).1 (acc++[⟨(bC nm (inF N.length (N.getD ((nm.getD i 0).toNat - 1) gy).f0)).2,(N.getD ((nm.getD i 0).toNat - 1) gy).f1⟩])else(nm,acc)
theorem yX (N:List S89)(f i:Nat)(nm:List Int)(acc:List S89)(h:nm.length<=i):dF N f i nm acc=(nm,acc):=by
 cases f with
 |zero=>rfl
 |succ f=>
  unfold dF;rw[if_neg (by omega)]
def kg (S:Sh):List (List Int):=S.T.flatMap (fun t=>[inF S.N.length t.f0,inF S.N.length t.f1])++[inF S.N.length S.G]
def fw (S:Sh)(j:Nat):List Int:=(kg S).getD j []
def stC (S:Sh):List Int×(Nat->List Int):=stR (fw S) (List.range (2*S.T.length+1))
def dV (S:Sh):Sh:=⟨(List.range S.T.length).map (fun i=>⟨(stC S).2 (2*i),(stC S).2 (2*i+1)⟩),(stC S).2 (2*S.T.length),(dF S.N S.N.length 0 (stC S).1 []).2⟩
theorem qL (S:Sh)(j:Nat):∀ x∈fw S j,0<=x/\x<=S.N.length:=by
 intro x hx;unfold fw at hx;rw[List.getD_eq_getElem?_getD]at hx;cases h:(kg S)[j]? with
 |none=>rw[h]at hx;cases hx
 |some l=>
  rw[h]at hx;have hl:=List.mem_of_getElem? h;unfold kg at hl
  rcases List.mem_append.1 hl with hl|hl
  . obtain⟨t,_,ht⟩:=List.mem_flatMap.1 hl
    rcases List.mem_cons.1 ht with rfl|ht
    . exact nk _ _ x hx
    . rcases List.mem_cons.1 ht with rfl|ht
      . exact nk _ _ x hx
      . cases ht
  . obtain rfl:=List.mem_singleton.1 hl;exact nk _ _ x hx
end
end Go.Proofs.YtglikkmmbdnmbaaGreat.Im

/- A shape as the document has it: of the program's (10), of the document's graph (13). -/
import Derived.Test.YtglikkmmbdnmbaaGreatQ10
import Derived.Test.YtglikkmmbdnmbaaGreatQ02
set_option maxHeartbeats 8000000
set_option maxRecDepth 100000
namespace Go.Proofs.YtglikkmmbdnmbaaGreat.Im
open Go.RowKit Q7
open YtglikkmmbdnmbaaGreat.Own PCan Wv
set_option linter.unusedVariables false
set_option linter.unusedSimpArgs false
section
theorem mF:(Tryz.prog.info? 41).map (·.size)=some 3:=by kernel_rfl
theorem zC:(Tryz.prog.info? 88).map (fun i=>(i.zero,i.size,i.bytes))=some (some (.agg #[.slice none 0 0,.slice none 0 0]),bn.sz,48):=by kernel_rfl
theorem zY:(Tryz.prog.info? 89).map (fun i=>(i.zero,i.size,i.bytes))=some (some (.agg #[.slice none 0 0,.slice none 0 0]),bn.sz,48):=by kernel_rfl
section
variable {o:Oper} {a:Act} {W:World}
theorem jH {x:Operand}{p:Addr}{v:Value}(ho:o.op=.load 37 x)(hx:a.eval x=.pointer (some p))(hc:W.cell? p=some v):(execOp a.eval o).run Tryz.prog W=.ok (.value v) W:=by
 unfold execOp;simp only[ho,hx]
 go_simp
theorem iF {x:Operand}{p:Addr}{v:Value}(ho:o.op=.load 39 x)(hx:a.eval x=.pointer (some p))(hc:W.cell? p=some v):(execOp a.eval o).run Tryz.prog W=.ok (.value v) W:=by
 unfold execOp;simp only[ho,hx]
 go_simp
theorem fG {x:Operand}{g i:Nat}(hi:i<3)(ho:o.op=.fieldAddr 41 x i)(hx:a.eval x=.pointer (some ⟨g,0,none⟩)):(execOp a.eval o).run Tryz.prog W=.ok (.value (.pointer (some ⟨g,i,none⟩))) W:=by
 have hu:=Tryz.underlying41
 match i,hi with
 |0,_|1,_|2,_=>
  unfold execOp;simp only[ho,hx]
  go_simp
theorem ze {x:Operand}{ad:Addr}{m:Nat}(ho:o.op=.fieldAddr 61 x 0)(hx:a.eval x=.pointer (some (ad.add m))):(execOp a.eval o).run Tryz.prog W=.ok (.value (.pointer (some (ad.add m)))) W:=by
 have hu:=Tryz.underlying61;unfold execOp;simp only[ho,hx]
 go_simp
theorem zw {x:Operand}{ad:Addr}{m:Nat}(ho:o.op=.fieldAddr 61 x 1)(hx:a.eval x=.pointer (some (ad.add m))):(execOp a.eval o).run Tryz.prog W=.ok (.value (.pointer (some ⟨(ad.add m).block,(ad.add m).off+1,none⟩))) W:=by
 have hu:=Tryz.underlying61;unfold execOp;simp only[ho,hx]
 go_simp
theorem tu {x:Operand}{g m i:Nat}(hi:i<2)(ho:o.op=.fieldAddr 77 x i)(hx:a.eval x=.pointer (some ⟨g,m,none⟩)):(execOp a.eval o).run Tryz.prog W=.ok (.value (.pointer (some ⟨g,m+i,none⟩))) W:=by
 have hu:=Tryz.underlying77
 match i,hi with
 |0,_|1,_=>
  unfold execOp;simp only[ho,hx]
  go_simp
theorem uy {x:Operand}{g m i:Nat}(hi:i<2)(ho:o.op=.fieldAddr 97 x i)(hx:a.eval x=.pointer (some ⟨g,m,none⟩)):(execOp a.eval o).run Tryz.prog W=.ok (.value (.pointer (some ⟨g,m+i,none⟩))) W:=by
 have hu:=Tryz.underlying97
 match i,hi with
 |0,_|1,_=>
  unfold execOp;simp only[ho,hx]
  go_simp
theorem uQ {x y:Operand}{b n c k:Nat}(ho:o.op=.indexAddr 74 x y)(hx:a.eval x=.slice (some ⟨b,0,none⟩) n c)(hy:a.eval y=.int .i64 (k:Int))(hk:k<n):(execOp a.eval o).run Tryz.prog W=.ok (.value (.pointer (some ⟨b,k*2,none⟩))) W:=by
 have h1:(0:Int)<=(k:Int):=by omega
 have h2:(k:Int)<(n:Int):=by omega
 generalize a.eval=E at hx hy ⊢;unfold execOp;simp only[ho,hx,hy]
 go_simp
theorem tN {x y:Operand}{A0 A1:Option Addr}{n0 c0 n1 c1:Nat}(ho:o.op=.build 88 #[(0,x),(1,y)])(hx:a.eval x=.slice A0 n0 c0)(hy:a.eval y=.slice A1 n1 c1):(execOp a.eval o).run Tryz.prog W=.ok (.value (.agg #[.slice A0 n0 c0,.slice A1 n1 c1])) W:=by
 have hu:=Tryz.underlying88;generalize a.eval=E at hx hy ⊢;unfold execOp;simp only[ho]
 go_simp
theorem uo {x:Operand}{A0 A1:Option Addr}{n0 c0 n1 c1:Nat}(ho:o.op=.buildSlice 37 1 #[(0,x)])(hx:a.eval x=.agg #[.slice A0 n0 c0,.slice A1 n1 c1]):
 (execOp a.eval o).run Tryz.prog W=.ok (.value (.slice (some ⟨W.heap.size,0,none⟩) 1 1)) (W.alloc (.cells #[.slice A0 n0 c0,.slice A1 n1 c1] 88)):=by
 generalize a.eval=E at hx ⊢;unfold execOp;simp only[ho]
 go_simp
theorem uh {x y:Operand}{A0 A1:Option Addr}{n0 c0 n1 c1:Nat}(ho:o.op=.build 89 #[(0,x),(1,y)])(hx:a.eval x=.slice A0 n0 c0)(hy:a.eval y=.slice A1 n1 c1):(execOp a.eval o).run Tryz.prog W=.ok (.value (.agg #[.slice A0 n0 c0,.slice A1 n1 c1])) W:=by
 have hu:=Tryz.underlying89;generalize a.eval=E at hx hy ⊢;unfold execOp;simp only[ho]
 go_simp
theorem sZ {x:Operand}{A0 A1:Option Addr}{n0 c0 n1 c1:Nat}(ho:o.op=.buildSlice 39 1 #[(0,x)])(hx:a.eval x=.agg #[.slice A0 n0 c0,.slice A1 n1 c1]):
 (execOp a.eval o).run Tryz.prog W=.ok (.value (.slice (some ⟨W.heap.size,0,none⟩) 1 1)) (W.alloc (.cells #[.slice A0 n0 c0,.slice A1 n1 c1] 89)):=by
 generalize a.eval=E at hx ⊢;unfold execOp;simp only[ho]
 go_simp
end
def z41:List Value:=[.slice none 0 0,.slice none 0 0,.slice none 0 0]
def EIV {α:Type}(f0 f1:α->List Int)(k:IntKind)(w:World)(ps:List (Value×Value))(T:List α):Prop:=ps.length=T.length/\∀(i:Nat) (p:Value×Value) (t:α),ps[i]? =some p->T[i]? =some t->IV .i64 w p.1 (f0 t)/\IV k w p.2 (f1 t)
theorem EIV.nil {α:Type}{f0 f1:α->List Int}{k:IntKind}{w:World}:EIV f0 f1 k w [] []:=⟨rfl,fun i p t h=>by simp at h⟩
theorem EIV.push {α:Type}{f0 f1:α->List Int}{k:IntKind}{w:World}{ps:List (Value×Value)}{T:List α}(h:EIV f0 f1 k w ps T){p:Value×Value}{u:α}(h0:IV .i64 w p.1 (f0 u))(h1:IV k w p.2 (f1 u)):EIV f0 f1 k w (ps++[p]) (T++[u]):=by
 refine⟨by rw[List.length_append,List.length_append,h.1];rfl,fun i q v hq hv=>?_⟩
 by_cases hi:i<ps.length
 . rw[List.getElem?_append_left hi]at hq;rw[List.getElem?_append_left (by rw[<-h.1];exact hi)]at hv
   exact h.2 i q v hq hv
 . have hlt:=(List.getElem?_eq_some_iff.1 hq).1;rw[List.length_append,List.length_singleton]at hlt;have hil:i=ps.length:=by omega
   rw[hil,List.getElem?_concat_length]at hq;rw[hil,h.1,List.getElem?_concat_length]at hv;injection hq with hq
   injection hv with hv
   subst hq hv;exact⟨h0,h1⟩
theorem EIV.below {α:Type}{f0 f1:α->List Int}{k:IntKind}{w w1:World}{ps:List (Value×Value)}{T:List α}(h:EIV f0 f1 k w ps T)(hb:Below w.heap.size w w1):EIV f0 f1 k w1 ps T:=⟨h.1,fun i p t hp ht=>⟨(h.2 i p t hp ht).1.below hb,(h.2 i p t hp ht).2.below hb⟩⟩
structure SB (b1 t1:Nat)(cs1:List Value)(b2 b3:Nat)(w:World)(vT vG vN:Value)(ps qs:List (Value×Value))(T:List S88)(N:List S89)(W:World):Prop where
 h1:Holds W b1 t1 cs1
 n1:t1≠41/\t1≠88/\t1≠89
 h2:Holds W b2 41 z41
 h3:Holds W b3 41 [vT,vG,vN]
 rT:Kd.R bn 88 W w.heap.size (fun _=>True) vT ps
 eT:EIV S88.f0 S88.f1 .i64 w ps T
 rN:Kd.R bn 89 W w.heap.size (fun _=>True) vN qs
 eN:EIV S89.f0 S89.f1 .u64 w qs N
 hb:Below w.heap.size w W
 ne:b2≠b3
 le:w.heap.size<=b2/\w.heap.size<=b3
section
variable {b1 t1 b2 b3:Nat} {cs1:List Value} {w W w2:World} {vT vG vN:Value} {ps qs:List (Value×Value)} {T:List S88} {N:List S89}
theorem SB.uz (h:SB b1 t1 cs1 b2 b3 w vT vG vN ps qs T N W){p:Value×Value}{u:S88}{vT':Value}(h0:IV .i64 w p.1 u.f0)(h1:IV .i64 w p.2 u.f1)(ho:Kd.R bn 88 w2 w.heap.size (fun _=>True) vT' (ps++[p]))(hg:W.grownBy w2 vT.ownBlock)(hbw:Below w.heap.size w w2):
 SB b1 t1 cs1 b2 b3 w vT' vG vN (ps++[p]) qs (T++[u]) N (w2.setCell ⟨b3,0,none⟩ vT'):=by
 have hk:Tk 88 W w2:=Tk.grown h.rT hg;have hs:=bu w2 b3 0 vT';have h3:=hk b3 41 _ (by decide) h.h3
 have hk2:Tk 41 w2 (w2.setCell ⟨b3,0,none⟩ vT'):=Tk.stored h3 hs;exact⟨hk2 _ _ _ h.n1.1 (hk _ _ _ h.n1.2.1 h.h1),h.n1,hs.holds (hk b2 41 _ (by decide) h.h2) h.ne,bB h3 (k:=0) (by show 0<3;decide) vT',ji ho (by decide) hk2,h.eT.push h0 h1,ji (ji h.rN (by decide) hk) (by decide) hk2,h.eN,hs.below hbw h.le.2,h.ne,h.le⟩
theorem SB.uN (h:SB b1 t1 cs1 b2 b3 w vT vG vN ps qs T N W){p:Value×Value}{u:S89}{vN':Value}(h0:IV .i64 w p.1 u.f0)(h1:IV .u64 w p.2 u.f1)(ho:Kd.R bn 89 w2 w.heap.size (fun _=>True) vN' (qs++[p]))(hg:W.grownBy w2 vN.ownBlock)(hbw:Below w.heap.size w w2):
 SB b1 t1 cs1 b2 b3 w vT vG vN' ps (qs++[p]) T (N++[u]) (w2.setCell ⟨b3,2,none⟩ vN'):=by
 have hk:Tk 89 W w2:=Tk.grown h.rN hg;have hs:=bu w2 b3 2 vN';have h3:=hk b3 41 _ (by decide) h.h3
 have hk2:Tk 41 w2 (w2.setCell ⟨b3,2,none⟩ vN'):=Tk.stored h3 hs;exact⟨hk2 _ _ _ h.n1.1 (hk _ _ _ h.n1.2.2 h.h1),h.n1,hs.holds (hk b2 41 _ (by decide) h.h2) h.ne,bB h3 (k:=2) (by show 2<3;decide) vN',ji (ji h.rT (by decide) hk) (by decide) hk2,h.eT,ji ho (by decide) hk2,h.eN.push h0 h1,hs.below hbw h.le.2,h.ne,h.le⟩
theorem Dw {e B:Nat}{ps:List (Value×Value)}{T:List S88}{AT:Option Addr}{cT:Nat}(hr:Kd.R bn e W B (fun _=>True) (.slice AT T.length cT) ps)(h:EIV S88.f0 S88.f1 .i64 W ps T):T.length<=cT/\Kd.C k88 W AT T.length T:=by
 obtain⟨h1,h2,h3⟩:=Kd.bI hr;exact⟨h2,pM rfl h.1 h3 (fun i p t hp ht=>yx (h.2 i p t hp ht).1 (h.2 i p t hp ht).2)⟩
theorem CR {e B:Nat}{ps:List (Value×Value)}{T:List S89}{AT:Option Addr}{cT:Nat}(hr:Kd.R bn e W B (fun _=>True) (.slice AT T.length cT) ps)(h:EIV S89.f0 S89.f1 .u64 W ps T):T.length<=cT/\Kd.C k89 W AT T.length T:=by
 obtain⟨h1,h2,h3⟩:=Kd.bI hr;exact⟨h2,pM rfl h.1 h3 (fun i p t hp ht=>tV (h.2 i p t hp ht).1 (h.2 i p t hp ht).2)⟩
end
def JB (n:Nat)(own:Option Nat)(w W0:World)(L:Array Bool)(w1:World):Prop:=W0.grownBy w1 own/\Below w.heap.size w w1/\(L.getD n false=false->Below W0.heap.size W0 w1)
theorem JB.step {n k:Nat}{own:Option Nat}{w W0 w1 w2:World}{L:Array Bool}(hB:w.heap.size<=W0.heap.size)(ho:∀ q,own=some q->w.heap.size<=q)(hk:k<L.size)(h:JB n own w W0 L w1)(hG:GrN n own k w1 w2):JB n own w W0 (L.setIfInBounds k true) w2:=by
 have hg:=hG.grown;refine⟨h.1.trans hg,⟨hg.os.trans h.2.1.os,hg.tape.trans h.2.1.tape,hg.output.trans h.2.1.output,Nat.le_trans h.2.1.size hg.size,fun q hq=>(hg.block q (Nat.lt_of_lt_of_le hq h.2.1.size) (fun e=>by have:=ho q e.symm;omega)).trans (h.2.1.block q hq)⟩,fun h13=>?_⟩
 by_cases e:k=n
 . subst e;rw[Array.getD_eq_getD_getElem?,Array.getElem?_setIfInBounds_self_of_lt hk]at h13;cases h13
 . rw[getD_set_ne false e]at h13;exact ag (h.2.2 h13) (h.2.2 h13).size (hG.1 e)
def V10T (B:Nat)(w0:World)(P P0 P1:Addr)(b1 b3 k n c:Nat)(A:Option Addr)(vO x0 x1:Value)(ps:List (Value×Value)):Nat->Value->World->Prop
 |0,v,_=>v=.pointer (some ⟨b3,0,none⟩)
 |1,v,_=>v=vO
 |2,v,_=>v=.pointer (some ⟨b1,0,none⟩)
 |3,v,_=>v=.slice A n c
 |4,v,_=>v=.int .i64 (k:Int)
 |5,v,_=>v=.pointer (some P)
 |6,v,_=>v=.pointer (some P0)
 |7,v,_=>v=x0
 |8,v,_=>v=.pointer (some ⟨b1,0,none⟩)
 |9,v,_=>v=.slice A n c
 |10,v,_=>v=.int .i64 (k:Int)
 |11,v,_=>v=.pointer (some P)
 |12,v,_=>v=.pointer (some P1)
 |13,v,_=>v=x1
 |14,v,_=>v=.agg #[x0,x1]
 |15,v,w=>∃ L,v=.slice (some ⟨L,0,none⟩) 1 1/\w0.heap.size<=L/\Holds w L 88 [x0,x1]
 |16,v,w=>Kd.R bn 88 w B (fun _=>True) v (ps++[(x0,x1)])
 |_,_,_=>True
theorem BS {B:Nat}{w0:World}{P P0 P1:Addr}{b1 b3 k n c:Nat}{A:Option Addr}{vO x0 x1:Value}{ps:List (Value×Value)}{i j:Nat}{v:Value}{w w':World}(hij:i≠j)(ho:∀ q,vO.ownBlock=some q->q<w0.heap.size)(h:V10T B w0 P P0 P1 b1 b3 k n c A vO x0 x1 ps j v w)(hG:GrN 16 vO.ownBlock i w w'):V10T B w0 P P0 P1 b1 b3 k n c A vO x0 x1 ps j v w':=by
 have hg:=hG.grown;unfold V10T at h ⊢
 split at h
 case h_16=>obtain⟨L,h1,h0,h2⟩:=h;exact⟨L,h1,h0,aY h2 hg (fun e=>by have:=ho L e.symm;omega)⟩
 case h_17=>exact Kd.aX h (hG.1 (fun e=>hij e))
 all_goals first|exact h|trivial
def V10N (B:Nat)(w0:World)(P P0 P1:Addr)(b1 b3 k n c:Nat)(A:Option Addr)(vO x0 x1:Value)(ps:List (Value×Value)):Nat->Value->World->Prop
 |0,v,_=>v=.pointer (some ⟨b3,2,none⟩)
 |1,v,_=>v=vO
 |2,v,_=>v=.pointer (some ⟨b1,2,none⟩)
 |3,v,_=>v=.slice A n c
 |4,v,_=>v=.int .i64 (k:Int)
 |5,v,_=>v=.pointer (some P)
 |6,v,_=>v=.pointer (some P0)
 |7,v,_=>v=x0
 |8,v,_=>v=.pointer (some ⟨b1,2,none⟩)
 |9,v,_=>v=.slice A n c
 |10,v,_=>v=.int .i64 (k:Int)
 |11,v,_=>v=.pointer (some P)
 |12,v,_=>v=.pointer (some P1)
 |13,v,_=>v=x1
 |14,v,_=>v=.agg #[x0,x1]
 |15,v,w=>∃ L,v=.slice (some ⟨L,0,none⟩) 1 1/\w0.heap.size<=L/\Holds w L 89 [x0,x1]
 |16,v,w=>Kd.R bn 89 w B (fun _=>True) v (ps++[(x0,x1)])
 |_,_,_=>True
theorem Be {B:Nat}{w0:World}{P P0 P1:Addr}{b1 b3 k n c:Nat}{A:Option Addr}{vO x0 x1:Value}{ps:List (Value×Value)}{i j:Nat}{v:Value}{w w':World}(hij:i≠j)(ho:∀ q,vO.ownBlock=some q->q<w0.heap.size)(h:V10N B w0 P P0 P1 b1 b3 k n c A vO x0 x1 ps j v w)(hG:GrN 16 vO.ownBlock i w w'):V10N B w0 P P0 P1 b1 b3 k n c A vO x0 x1 ps j v w':=by
 have hg:=hG.grown;unfold V10N at h ⊢
 split at h
 case h_16=>obtain⟨L,h1,h0,h2⟩:=h;exact⟨L,h1,h0,aY h2 hg (fun e=>by have:=ho L e.symm;omega)⟩
 case h_17=>exact Kd.aX h (hG.1 (fun e=>hij e))
 all_goals first|exact h|trivial
def V13T (B:Nat)(w0:World)(P P0 P1:Addr)(b1 b3 k n c:Nat)(A:Option Addr)(vO x0 x1:Value)(ps:List (Value×Value)):Nat->Value->World->Prop
 |0,v,_=>v=.pointer (some ⟨b3,0,none⟩)
 |1,v,_=>v=vO
 |2,v,_=>v=.pointer (some ⟨b1,0,none⟩)
 |3,v,_=>v=.pointer (some ⟨b1,0,none⟩)
 |4,v,_=>v=.pointer (some ⟨b1,0,none⟩)
 |5,v,_=>v=.slice A n c
 |6,v,_=>v=.int .i64 (k:Int)
 |7,v,_=>v=.pointer (some P)
 |8,v,_=>v=.pointer (some P0)
 |9,v,_=>v=x0
 |10,v,_=>v=.pointer (some ⟨b1,0,none⟩)
 |11,v,_=>v=.pointer (some ⟨b1,0,none⟩)
 |12,v,_=>v=.pointer (some ⟨b1,0,none⟩)
 |13,v,_=>v=.slice A n c
 |14,v,_=>v=.int .i64 (k:Int)
 |15,v,_=>v=.pointer (some P)
 |16,v,_=>v=.pointer (some P1)
 |17,v,_=>v=x1
 |18,v,_=>v=.agg #[x0,x1]
 |19,v,w=>∃ L,v=.slice (some ⟨L,0,none⟩) 1 1/\w0.heap.size<=L/\Holds w L 88 [x0,x1]
 |20,v,w=>Kd.R bn 88 w B (fun _=>True) v (ps++[(x0,x1)])
 |_,_,_=>True
theorem BN {B:Nat}{w0:World}{P P0 P1:Addr}{b1 b3 k n c:Nat}{A:Option Addr}{vO x0 x1:Value}{ps:List (Value×Value)}{i j:Nat}{v:Value}{w w':World}(hij:i≠j)(ho:∀ q,vO.ownBlock=some q->q<w0.heap.size)(h:V13T B w0 P P0 P1 b1 b3 k n c A vO x0 x1 ps j v w)(hG:GrN 20 vO.ownBlock i w w'):V13T B w0 P P0 P1 b1 b3 k n c A vO x0 x1 ps j v w':=by
 have hg:=hG.grown;unfold V13T at h ⊢
 split at h
 case h_20=>obtain⟨L,h1,h0,h2⟩:=h;exact⟨L,h1,h0,aY h2 hg (fun e=>by have:=ho L e.symm;omega)⟩
 case h_21=>exact Kd.aX h (hG.1 (fun e=>hij e))
 all_goals first|exact h|trivial
def V13N (B:Nat)(w0:World)(P P0 P1:Addr)(b1 b3 k n c:Nat)(A:Option Addr)(vO x0 x1:Value)(ps:List (Value×Value)):Nat->Value->World->Prop
 |0,v,_=>v=.pointer (some ⟨b3,2,none⟩)
 |1,v,_=>v=vO
 |2,v,_=>v=.pointer (some ⟨b1,0,none⟩)
 |3,v,_=>v=.pointer (some ⟨b1,0,none⟩)
 |4,v,_=>v=.pointer (some ⟨b1,2,none⟩)
 |5,v,_=>v=.slice A n c
 |6,v,_=>v=.int .i64 (k:Int)
 |7,v,_=>v=.pointer (some P)
 |8,v,_=>v=.pointer (some P0)
 |9,v,_=>v=x0
 |10,v,_=>v=.pointer (some ⟨b1,0,none⟩)
 |11,v,_=>v=.pointer (some ⟨b1,0,none⟩)
 |12,v,_=>v=.pointer (some ⟨b1,2,none⟩)
 |13,v,_=>v=.slice A n c
 |14,v,_=>v=.int .i64 (k:Int)
 |15,v,_=>v=.pointer (some P)
 |16,v,_=>v=.pointer (some P1)
 |17,v,_=>v=x1
 |18,v,_=>v=.agg #[x0,x1]
 |19,v,w=>∃ L,v=.slice (some ⟨L,0,none⟩) 1 1/\w0.heap.size<=L/\Holds w L 89 [x0,x1]
 |20,v,w=>Kd.R bn 89 w B (fun _=>True) v (ps++[(x0,x1)])
 |_,_,_=>True
theorem Ah {B:Nat}{w0:World}{P P0 P1:Addr}{b1 b3 k n c:Nat}{A:Option Addr}{vO x0 x1:Value}{ps:List (Value×Value)}{i j:Nat}{v:Value}{w w':World}(hij:i≠j)(ho:∀ q,vO.ownBlock=some q->q<w0.heap.size)(h:V13N B w0 P P0 P1 b1 b3 k n c A vO x0 x1 ps j v w)(hG:GrN 20 vO.ownBlock i w w'):V13N B w0 P P0 P1 b1 b3 k n c A vO x0 x1 ps j v w':=by
 have hg:=hG.grown;unfold V13N at h ⊢
 split at h
 case h_20=>obtain⟨L,h1,h0,h2⟩:=h;exact⟨L,h1,h0,aY h2 hg (fun e=>by have:=ho L e.symm;omega)⟩
 case h_21=>exact Kd.aX h (hG.1 (fun e=>hij e))
 all_goals first|exact h|trivial
theorem rq {n:Int}(h:0<=n/\n<=100000000):IntKind.i64.wrap n=n:=by rw[IntKind.wrap_i64];omega
theorem Ao (S:Sh)(hS:Mid S)(v:Value)(w:World)(hv:iD w v S):
 Calls Tryz.prog 10 #[v] w fun e w'=>∃ v',e=.returned v'/\iD w' v' S/\Below w.heap.size w w':=by
 obtain⟨A0,c0,A1,c1,A2,c2,rfl,l0,h0,l1,h1,l2,h2⟩:=hv;have HS:=Y (show S.T.length<=100000/\S.N.length<=100000 from⟨by have:=hS.T;omega,hS.N⟩)
 have HC:=Y (And.intro h0 h2);have HG1:=Y (And.intro l1 h1);have hu41:=Tryz.underlying41
 obtain⟨W1,hW1,k1,k2,kb,ks⟩:∃ W1,W1=(w.alloc (.cells #[.slice A0 S.T.length c0,.slice A1 S.G.length c1,.slice A2 S.N.length c2] 46)).alloc (.cells #[.slice none 0 0,.slice none 0 0,.slice none 0 0] 41)/\Holds W1 w.heap.size 46 [.slice A0 S.T.length c0,.slice A1 S.G.length c1,.slice A2 S.N.length c2]/\Holds W1 (w.heap.size+1) 41 z41/\Below w.heap.size w W1/\W1.heap.size=w.heap.size+2:=by
  refine⟨_,rfl,Holds.below (aK _ _) (ae zc _),?_,ae (ae zc _) _,by simp⟩
  have h:=aK (w.alloc (.cells #[.slice A0 S.T.length c0,.slice A1 S.G.length c1,.slice A2 S.N.length c2] 46)) (.cells #[.slice none 0 0,.slice none 0 0,.slice none 0 0] 41);rw[World.size_alloc]at h;exact h
 have z0:W1.cell? ⟨w.heap.size,1,none⟩=some (.slice A1 S.G.length c1):=(k1.cell 1).trans rfl;have hb2:=ae (Below.refl W1.heap.size W1) (.cells #[.slice none 0 0,.slice none 0 0,.slice none 0 0] 41);have h3:Holds (W1.alloc (.cells #[.slice none 0 0,.slice none 0 0,.slice none 0 0] 41)) W1.heap.size 41 z41:=aK _ _;have H3:=Y h3;have HK:=Y (And.intro (k1.below hb2) (And.intro (k2.below hb2) (And.intro (ag kb (by omega) hb2) ks)))
 clear l0 h0 l1 h1 l2 h2 hS k1 k2 kb hb2 h3 ks;go_enter Tryz.func10,Tryz.ntmps10;go_upto_region 1 with(fail)
 rw[<-hW1];clear hW1;go_upto_region 2 with((with_reducible refine bg (t:=41) (p:=3) rfl ?_);refine aG rfl (ty:=41) rfl rfl (g:=W1.heap.size) (off:=0) (vs:=#[.slice none 0 0,.slice A1 S.G.length c1,.slice none 0 0]) rfl rfl H3.out (by show 3<=3;decide) mF (by simp[Value.oneCell']) ?_;intro w5 hh5 hs5;have HH5:=Y hh5;have HS5:=Y hs5;clear hh5 hs5)
 rw[HK.out.2.2.2]
 have HST0:=Y (show SB w.heap.size 46 [.slice A0 S.T.length c0,.slice A1 S.G.length c1,.slice A2 S.N.length c2] (w.heap.size+1) (w.heap.size+2) w (.slice none 0 0) (.slice A1 S.G.length c1) (.slice none 0 0) [] [] [] [] w5 by
  have hsz:=HK.out.2.2.2;have hh5:=HH5.out;have hs5:=HS5.out;rw[hsz]at hh5 hs5
  exact⟨hs5.holds HK.out.1 (by omega),by decide,hs5.holds HK.out.2.1 (by omega),hh5,Kd.fo _ _ _ _ _,.nil,Kd.fo _ _ _ _ _,.nil,hs5.below HK.out.2.2.1 (by omega),by omega,by omega,by omega⟩)
 clear HK H3 HH5 HS5 z0;go_wp2_with fail
 go_loopg [4] S.T.length (fun kq v4 w'=>∃(i:Nat) (vT:Value) (ps:List (Value×Value)),v4=.int .i64 (i:Int)/\aa (i+kq=S.T.length)/\aa (SB w.heap.size 46 [.slice A0 S.T.length c0,.slice A1 S.G.length c1,.slice A2 S.N.length c2] (w.heap.size+1) (w.heap.size+2) w vT (.slice A1 S.G.length c1) (.slice none 0 0) ps [] (S.T.take i) [] w'))
 case atStart=>exact⟨0,_,[],rfl,⟨by omega⟩,HST0⟩
 case round=>
  clear HST0;obtain⟨i,vT,ps,rfl,HI,HSB⟩:=hrel;obtain⟨W0,rfl⟩:∃ W0,W0=wr:=⟨wr,rfl⟩;have z1:=(HSB.out.h1.cell 0).trans rfl;cases gk with
  |zero=>
   have r1:decide ((i:Int)<(S.T.length:Int))=false:=yd (by have:=HI.out;omega)
   have r2:decide (i<S.T.length)=false:=yd (by have:=HI.out;omega)
   have HSN:=Y (show SB w.heap.size 46 [.slice A0 S.T.length c0,.slice A1 S.G.length c1,.slice A2 S.N.length c2] (w.heap.size+1) (w.heap.size+2) w vT (.slice A1 S.G.length c1) (.slice none 0 0) ps [] S.T [] W0 by have:=HSB.out;rw[List.take_of_length_le (by have:=HI.out;omega)]at this;exact this)
   clear HSB HI;go_wp2_with fail
   go_loopg [5] S.N.length (fun kq v5 w'=>∃(i:Nat) (vN:Value) (qs:List (Value×Value)),v5=.int .i64 (i:Int)/\aa (i+kq=S.N.length)/\aa (SB w.heap.size 46 [.slice A0 S.T.length c0,.slice A1 S.G.length c1,.slice A2 S.N.length c2] (w.heap.size+1) (w.heap.size+2) w vT (.slice A1 S.G.length c1) vN ps qs S.T (S.N.take i) w'))
   case atStart=>exact⟨0,_,[],rfl,⟨by omega⟩,HSN⟩
   case round=>
    clear HSN;obtain⟨i,vN,qs,rfl,HI,HSB⟩:=hrel;obtain⟨W0,rfl⟩:∃ W0,W0=wr:=⟨wr,rfl⟩;have z1:=(HSB.out.h1.cell 2).trans rfl;cases gk with
    |zero=>
     have r1:decide ((i:Int)<(S.N.length:Int))=false:=yd (by have:=HI.out;omega)
     have r2:decide (i<S.N.length)=false:=yd (by have:=HI.out;omega)
     have HSE:=Y (show SB w.heap.size 46 [.slice A0 S.T.length c0,.slice A1 S.G.length c1,.slice A2 S.N.length c2] (w.heap.size+1) (w.heap.size+2) w vT (.slice A1 S.G.length c1) vN ps qs S.T S.N W0 by have:=HSB.out;rw[List.take_of_length_le (by have:=HI.out;omega)]at this;exact this)
     clear HSB;obtain⟨AT,cT,eT⟩:=Kd.aD HSE.out.rT;obtain⟨AN,cN,eN⟩:=Kd.aD HSE.out.rN;subst eT eN;go_wp2_with (first|((with_reducible refine aW (N:=59) rfl ?_);refine bE (g:=w.heap.size+2) (off:=0) (t:=41) (cs:=[.slice AT ps.length cT,.slice A1 S.G.length c1,.slice AN qs.length cN]) (seg:=[.slice AT ps.length cT,.slice A1 S.G.length c1,.slice AN qs.length cN]) rfl rfl (by rfl) HSE.out.h3 (by rfl) Tryz.underlying41 rfl mF ?_)|((with_reducible refine bg (t:=41) (p:=2) rfl ?_);refine aG rfl (ty:=41) rfl rfl (g:=w.heap.size+1) (off:=0) (vs:=#[.slice AT ps.length cT,.slice A1 S.G.length c1,.slice AN qs.length cN]) rfl rfl HSE.out.h2 (by show 3<=3;decide) mF (by simp[Value.oneCell']) ?_;intro w9 hh9 hs9;have HH9:=Y hh9;have HS9:=Y hs9;clear hh9 hs9))
     refine bodyPost_ret (results_cell_row rfl _ _ (w.heap.size+1) 41 #[.slice AT ps.length cT,.slice A1 S.G.length c1,.slice AN qs.length cN] (0,0) _ rfl HH9.out Tryz.underlying41 rfl mF) rfl ?_;have hk:Tk 41 W0 w9:=Tk.stored HSE.out.h2 HS9.out;have hbw:Below w.heap.size w w9:=HS9.out.below HSE.out.hb (Nat.le_succ _);have rT:=ji HSE.out.rT (by decide) hk
     have rN:=ji HSE.out.rN (by decide) hk
     rw[HSE.out.eT.1]at rT ⊢;rw[HSE.out.eN.1]at rN ⊢;obtain⟨t1,t2⟩:=Dw rT (HSE.out.eT.below hbw);obtain⟨n1,n2⟩:=CR rN (HSE.out.eN.below hbw);exact⟨_,rfl,⟨AT,cT,A1,c1,AN,cN,rfl,t1,t2,HG1.out.1,Kd.aU HG1.out.2 hbw,n1,n2⟩,hbw⟩
    |succ kN=>
     have HIL:=Y (show i<S.N.length by have:=HI.out;omega)
     have r1:decide ((i:Int)<(S.N.length:Int))=true:=yb (by have:=HI.out;omega)
     have r2:decide (i<S.N.length)=true:=yb (by have:=HI.out;omega)
     obtain⟨ad,X0,X1,rfl,hx,hv0,hv1⟩:=atN HC.out.2 i HIL.out;obtain⟨AX0,cX0,e0,_,_⟩:=id hv0;obtain⟨AX1,cX1,e1,_,_⟩:=id hv1;subst e0 e1;obtain⟨nX0,en0⟩:∃ n,n=(S.N[i]'HIL.out).f0.length:=⟨_,rfl⟩;obtain⟨nX1,en1⟩:∃ n,n=(S.N[i]'HIL.out).f1.length:=⟨_,rfl⟩;rw[<-en0]at hv0 hx;rw[<-en1]at hv1 hx;have HX:=Y hx;have HXI:=Y (And.intro hv0 hv1);have HO:=Y (And.intro (jr AX0 nX0 cX0) (jr AX1 nX1 cX1));have HTK:=Y (show S.N.take i++[S.N[i]'HIL.out]=S.N.take (i+1)from(List.take_succ_eq_append_getElem HIL.out).symm)
     have HLN:=Y (show qs.length<=100000 by rw[HSB.out.eN.1,List.length_take];have:=HS.out;have:=HIL.out;omega)
     have hw1:IntKind.i64.wrap ((i:Int)+1)=(i:Int)+1:=rq (by have:=HS.out;have:=HIL.out;omega)
     clear hx hv0 hv1 en0 en1;obtain⟨AO,cO,eO⟩:=Kd.aD HSB.out.rN;subst eO;have HOW:=Y (And.intro (fun q (hq:(Value.slice AO qs.length cO).ownBlock=some q)=>Kd.fT HSB.out.rN q hq) (fun q (hq:(Value.slice AO qs.length cO).ownBlock=some q)=>oZ HSB.out.rN q hq))
     go_upto_region 9 with(fail)
     clear z1;refine mH 17 60 [] (V10N w.heap.size W0 (ad.add (i*2)) (ad.add (i*2)) (⟨(ad.add (i*2)).block,(ad.add (i*2)).off+1,none⟩) w.heap.size (w.heap.size+2) i S.N.length c2 (some ad) (.slice AO qs.length cO) (.slice AX0 nX0 cX0) (.slice AX1 nX1 cX1) qs) (JB 16 (Value.slice AO qs.length cO).ownBlock w W0) (GrN 16 (Value.slice AO qs.length cO).ownBlock) (by kernel_rfl) (by rfl) (by kernel_rfl) ⟨cK (bv zc) _,bv HSB.out.hb,fun _=>bv zc⟩ (fun kk L1 w1 w2 hk1 hL hk0 hJ hG=>JB.step HSB.out.hb.size HOW.out.2 (by rw[hL];exact Nat.lt_of_lt_of_le hk1 (by decide)) hJ hG) (fun i j v w1 w2 hi hij _ _ h hG=>Be hij HOW.out.1 h hG) ?st ?en
     case st=>
      refine au.cons (fun a w1 L fr hL hj hdf hd K hK=>?_) ?_
      . exact af (fG (i:=2) (by decide) rfl ((fr 3 (by kernel_rfl)).trans rfl)) (hK _ _ ⟨fun _=>zc,fun h=>(by cases h)⟩ rfl)
      refine au.cons (fun a w1 L fr hL hj hdf hd K hK=>?_) ?_
      . exact af (iF rfl (hd 0 41 (by kernel_rfl)) (((aY HSB.out.h3 hj.1 (fun e=>Kd.dL HSB.out.rN HSB.out.h3 (by decide) e)).cell 2).trans rfl)) (hK _ _ ⟨fun _=>zc,fun h=>(by cases h)⟩ rfl)
      refine au.cons (fun a w1 L fr hL hj hdf hd K hK=>?_) ?_
      . exact af (gW (i:=2) (by decide) rfl ((fr 1 (by kernel_rfl)).trans rfl)) (hK _ _ ⟨fun _=>zc,fun h=>(by cases h)⟩ rfl)
      refine au.cons (fun a w1 L fr hL hj hdf hd K hK=>?_) ?_
      . exact af (jJ rfl (hd 2 43 (by kernel_rfl)) (((aY HSB.out.h1 hj.1 (fun e=>Kd.dL HSB.out.rN HSB.out.h1 (by decide) e)).cell 2).trans rfl)) (hK _ _ ⟨fun _=>zc,fun h=>(by cases h)⟩ rfl)
      refine au.cons (fun a w1 L fr hL hj hdf hd K hK=>?_) ?_
      . exact af (aC rfl ((fr 5 (by kernel_rfl)).trans rfl)) (hK _ _ ⟨fun _=>zc,fun h=>(by cases h)⟩ rfl)
      refine au.cons (fun a w1 L fr hL hj hdf hd K hK=>?_) ?_
      . exact af (mX rfl (hd 3 44 (by kernel_rfl)) (hd 4 45 (by kernel_rfl)) HIL.out) (hK _ _ ⟨fun _=>zc,fun h=>(by cases h)⟩ rfl)
      refine au.cons (fun a w1 L fr hL hj hdf hd K hK=>?_) ?_
      . exact af (qV rfl (hd 5 46 (by kernel_rfl))) (hK _ _ ⟨fun _=>zc,fun h=>(by cases h)⟩ rfl)
      refine au.cons (fun a w1 L fr hL hj hdf hd K hK=>?_) ?_
      . exact af (dz rfl (hd 6 47 (by kernel_rfl)) (HX.out w1 hj.2.1).1) (hK _ _ ⟨fun _=>zc,fun h=>(by cases h)⟩ rfl)
      refine au.cons (fun a w1 L fr hL hj hdf hd K hK=>?_) ?_
      . exact af (gW (i:=2) (by decide) rfl ((fr 1 (by kernel_rfl)).trans rfl)) (hK _ _ ⟨fun _=>zc,fun h=>(by cases h)⟩ rfl)
      refine au.cons (fun a w1 L fr hL hj hdf hd K hK=>?_) ?_
      . exact af (jJ rfl (hd 8 49 (by kernel_rfl)) (((aY HSB.out.h1 hj.1 (fun e=>Kd.dL HSB.out.rN HSB.out.h1 (by decide) e)).cell 2).trans rfl)) (hK _ _ ⟨fun _=>zc,fun h=>(by cases h)⟩ rfl)
      refine au.cons (fun a w1 L fr hL hj hdf hd K hK=>?_) ?_
      . exact af (aC rfl ((fr 5 (by kernel_rfl)).trans rfl)) (hK _ _ ⟨fun _=>zc,fun h=>(by cases h)⟩ rfl)
      refine au.cons (fun a w1 L fr hL hj hdf hd K hK=>?_) ?_
      . exact af (mX rfl (hd 9 50 (by kernel_rfl)) (hd 10 51 (by kernel_rfl)) HIL.out) (hK _ _ ⟨fun _=>zc,fun h=>(by cases h)⟩ rfl)
      refine au.cons (fun a w1 L fr hL hj hdf hd K hK=>?_) ?_
      . exact af (qz rfl (hd 11 52 (by kernel_rfl))) (hK _ _ ⟨fun _=>zc,fun h=>(by cases h)⟩ rfl)
      refine au.cons (fun a w1 L fr hL hj hdf hd K hK=>?_) ?_
      . exact af (gJ rfl (hd 12 53 (by kernel_rfl)) (HX.out w1 hj.2.1).2) (hK _ _ ⟨fun _=>zc,fun h=>(by cases h)⟩ rfl)
      refine au.cons (fun a w1 L fr hL hj hdf hd K hK=>?_) ?_
      . exact af (uh rfl (hd 7 48 (by kernel_rfl)) (hd 13 54 (by kernel_rfl))) (hK _ _ ⟨fun _=>zc,fun h=>(by cases h)⟩ rfl)
      refine au.cons (fun a w1 L fr hL hj hdf hd K hK=>?_) ?_
      . have e1:a.eval (.tmp 55)=.agg #[(.slice AX0 nX0 cX0),(.slice AX1 nX1 cX1)]:=(hd 14 55 (by kernel_rfl))
        exact af (sZ rfl e1) (hK _ _ ⟨fun _=>ae zc _,fun h=>(by cases h)⟩ (show ∃ L,_ from⟨w1.heap.size,rfl,hj.1.size,aK _ _⟩))
      refine au.cons (fun a w1 L fr hL hj hdf hd K hK=>?_) ?_
      . have e1:a.eval (.tmp 42)=(.slice AO qs.length cO):=(hd 1 42 (by kernel_rfl))
        obtain⟨L,e2,hL2,hL3⟩:∃ L,a.eval (.tmp 56)=.slice (some ⟨L,0,none⟩) 1 1/\W0.heap.size<=L/\Holds w1 L 89 [(.slice AX0 nX0 cX0),(.slice AX1 nX1 cX1)]:=(hd 15 56 (by kernel_rfl))
        have hb:=hj.2.2 hL;have hrow:=Kd.aX HSB.out.rN hb;have hc9:Kd.C bn w1 (some ⟨L,0,none⟩) 1 [((.slice AX0 nX0 cX0),(.slice AX1 nX1 cX1))]:=kX bn hL3 (oz ⟨rfl,HO.out.1,HO.out.2⟩) (by simp)
        refine gQ bn (w0:=w1) w.heap.size 39 89 (.agg #[.slice none 0 0,.slice none 0 0]) 48 rfl Tryz.underlying39 zY rfl (by decide) (by decide) _ qs [((.slice AX0 nX0 cX0),(.slice AX1 nX1 cX1))] (some ⟨L,0,none⟩) 1 1 (fun _=>True) e1 e2 (fun _ _ _ _ h=>h) (fun _ _=>trivial) hrow hc9 zc hj.2.1.size (by have:=HLN.out;omega) ?_
        intro v1 w2 hr1 hb1 hg1 hat;exact hK _ _ ⟨fun h=>absurd rfl h,fun _=>hg1⟩ hr1
      exact au.nil
     case en=>
      intro vs w6 L1 hJ hl hv;have e0:Kd.R bn 89 w6 w.heap.size (fun _=>True) (vs 16) (qs++[((.slice AX0 nX0 cX0),(.slice AX1 nX1 cX1))]):=hv 16 57 (by decide) (by kernel_rfl) (fun _ _ h=>by cases h)
      obtain⟨A2,c2,e2⟩:=Kd.aD e0;rw[List.length_append,List.length_singleton]at e2;rw[e2]at e0;simp only[List.take_succ_cons,List.take_zero,List.drop_succ_cons,List.drop_zero,bA,Act.put,zj,zr,ya,e2];have hh3:=aY HSB.out.h3 hJ.1 (fun e=>Kd.dL HSB.out.rN HSB.out.h3 (by decide) e)
      have y2:=(hh3.cell 2).trans rfl;have y3:=ak hh3 2;have HST:=Y (HSB.out.uN (u:=S.N[i]'HIL.out) HXI.out.1 HXI.out.2 e0 hJ.1 hJ.2.1);rw[HTK.out]at HST;clear hv hl hJ e0 e2 hh3;go_wp2_with fail;go_roundg kN
      case measure=>have:=HI.out;omega
      case rel=>exact⟨i+1,.slice A2 (qs.length+1) c2,qs++[((.slice AX0 nX0 cX0),(.slice AX1 nX1 cX1))],rfl,⟨by have:=HI.out;omega⟩,HST⟩
  |succ kT=>
   have HIL:=Y (show i<S.T.length by have:=HI.out;omega)
   have r1:decide ((i:Int)<(S.T.length:Int))=true:=yb (by have:=HI.out;omega)
   have r2:decide (i<S.T.length)=true:=yb (by have:=HI.out;omega)
   obtain⟨ad,X0,X1,rfl,hx,hv0,hv1⟩:=atT HC.out.1 i HIL.out;obtain⟨AX0,cX0,e0,_,_⟩:=id hv0;obtain⟨AX1,cX1,e1,_,_⟩:=id hv1;subst e0 e1;obtain⟨nX0,en0⟩:∃ n,n=(S.T[i]'HIL.out).f0.length:=⟨_,rfl⟩;obtain⟨nX1,en1⟩:∃ n,n=(S.T[i]'HIL.out).f1.length:=⟨_,rfl⟩;rw[<-en0]at hv0 hx;rw[<-en1]at hv1 hx;have HX:=Y hx;have HXI:=Y (And.intro hv0 hv1);have HO:=Y (And.intro (jr AX0 nX0 cX0) (jr AX1 nX1 cX1));have HTK:=Y (show S.T.take i++[S.T[i]'HIL.out]=S.T.take (i+1)from(List.take_succ_eq_append_getElem HIL.out).symm)
   have HLN:=Y (show ps.length<=100000 by rw[HSB.out.eT.1,List.length_take];have:=HS.out;have:=HIL.out;omega)
   have hw1:IntKind.i64.wrap ((i:Int)+1)=(i:Int)+1:=rq (by have:=HS.out;have:=HIL.out;omega)
   clear hx hv0 hv1 en0 en1;obtain⟨AO,cO,eO⟩:=Kd.aD HSB.out.rT;subst eO;have HOW:=Y (And.intro (fun q (hq:(Value.slice AO ps.length cO).ownBlock=some q)=>Kd.fT HSB.out.rT q hq) (fun q (hq:(Value.slice AO ps.length cO).ownBlock=some q)=>oZ HSB.out.rT q hq))
   go_upto_region 5 with(fail)
   clear z1;refine mH 17 60 [] (V10T w.heap.size W0 (ad.add (i*2)) (ad.add (i*2)) (⟨(ad.add (i*2)).block,(ad.add (i*2)).off+1,none⟩) w.heap.size (w.heap.size+2) i S.T.length c0 (some ad) (.slice AO ps.length cO) (.slice AX0 nX0 cX0) (.slice AX1 nX1 cX1) ps) (JB 16 (Value.slice AO ps.length cO).ownBlock w W0) (GrN 16 (Value.slice AO ps.length cO).ownBlock) (by kernel_rfl) (by rfl) (by kernel_rfl) ⟨cK (bv zc) _,bv HSB.out.hb,fun _=>bv zc⟩ (fun kk L1 w1 w2 hk1 hL hk0 hJ hG=>JB.step HSB.out.hb.size HOW.out.2 (by rw[hL];exact Nat.lt_of_lt_of_le hk1 (by decide)) hJ hG) (fun i j v w1 w2 hi hij _ _ h hG=>BS hij HOW.out.1 h hG) ?st ?en
   case st=>
    refine au.cons (fun a w1 L fr hL hj hdf hd K hK=>?_) ?_
    . exact af (fG (i:=0) (by decide) rfl ((fr 3 (by kernel_rfl)).trans rfl)) (hK _ _ ⟨fun _=>zc,fun h=>(by cases h)⟩ rfl)
    refine au.cons (fun a w1 L fr hL hj hdf hd K hK=>?_) ?_
    . exact af (jH rfl (hd 0 16 (by kernel_rfl)) (((aY HSB.out.h3 hj.1 (fun e=>Kd.dL HSB.out.rT HSB.out.h3 (by decide) e)).cell 0).trans rfl)) (hK _ _ ⟨fun _=>zc,fun h=>(by cases h)⟩ rfl)
    refine au.cons (fun a w1 L fr hL hj hdf hd K hK=>?_) ?_
    . exact af (gW (i:=0) (by decide) rfl ((fr 1 (by kernel_rfl)).trans rfl)) (hK _ _ ⟨fun _=>zc,fun h=>(by cases h)⟩ rfl)
    refine au.cons (fun a w1 L fr hL hj hdf hd K hK=>?_) ?_
    . exact af (mf rfl (hd 2 18 (by kernel_rfl)) (((aY HSB.out.h1 hj.1 (fun e=>Kd.dL HSB.out.rT HSB.out.h1 (by decide) e)).cell 0).trans rfl)) (hK _ _ ⟨fun _=>zc,fun h=>(by cases h)⟩ rfl)
    refine au.cons (fun a w1 L fr hL hj hdf hd K hK=>?_) ?_
    . exact af (aC rfl ((fr 4 (by kernel_rfl)).trans rfl)) (hK _ _ ⟨fun _=>zc,fun h=>(by cases h)⟩ rfl)
    refine au.cons (fun a w1 L fr hL hj hdf hd K hK=>?_) ?_
    . exact af (pQ rfl (hd 3 19 (by kernel_rfl)) (hd 4 20 (by kernel_rfl)) HIL.out) (hK _ _ ⟨fun _=>zc,fun h=>(by cases h)⟩ rfl)
    refine au.cons (fun a w1 L fr hL hj hdf hd K hK=>?_) ?_
    . exact af (ze rfl (hd 5 21 (by kernel_rfl))) (hK _ _ ⟨fun _=>zc,fun h=>(by cases h)⟩ rfl)
    refine au.cons (fun a w1 L fr hL hj hdf hd K hK=>?_) ?_
    . exact af (dz rfl (hd 6 22 (by kernel_rfl)) (HX.out w1 hj.2.1).1) (hK _ _ ⟨fun _=>zc,fun h=>(by cases h)⟩ rfl)
    refine au.cons (fun a w1 L fr hL hj hdf hd K hK=>?_) ?_
    . exact af (gW (i:=0) (by decide) rfl ((fr 1 (by kernel_rfl)).trans rfl)) (hK _ _ ⟨fun _=>zc,fun h=>(by cases h)⟩ rfl)
    refine au.cons (fun a w1 L fr hL hj hdf hd K hK=>?_) ?_
    . exact af (mf rfl (hd 8 24 (by kernel_rfl)) (((aY HSB.out.h1 hj.1 (fun e=>Kd.dL HSB.out.rT HSB.out.h1 (by decide) e)).cell 0).trans rfl)) (hK _ _ ⟨fun _=>zc,fun h=>(by cases h)⟩ rfl)
    refine au.cons (fun a w1 L fr hL hj hdf hd K hK=>?_) ?_
    . exact af (aC rfl ((fr 4 (by kernel_rfl)).trans rfl)) (hK _ _ ⟨fun _=>zc,fun h=>(by cases h)⟩ rfl)
    refine au.cons (fun a w1 L fr hL hj hdf hd K hK=>?_) ?_
    . exact af (pQ rfl (hd 9 25 (by kernel_rfl)) (hd 10 26 (by kernel_rfl)) HIL.out) (hK _ _ ⟨fun _=>zc,fun h=>(by cases h)⟩ rfl)
    refine au.cons (fun a w1 L fr hL hj hdf hd K hK=>?_) ?_
    . exact af (zw rfl (hd 11 27 (by kernel_rfl))) (hK _ _ ⟨fun _=>zc,fun h=>(by cases h)⟩ rfl)
    refine au.cons (fun a w1 L fr hL hj hdf hd K hK=>?_) ?_
    . exact af (dz rfl (hd 12 28 (by kernel_rfl)) (HX.out w1 hj.2.1).2) (hK _ _ ⟨fun _=>zc,fun h=>(by cases h)⟩ rfl)
    refine au.cons (fun a w1 L fr hL hj hdf hd K hK=>?_) ?_
    . exact af (tN rfl (hd 7 23 (by kernel_rfl)) (hd 13 29 (by kernel_rfl))) (hK _ _ ⟨fun _=>zc,fun h=>(by cases h)⟩ rfl)
    refine au.cons (fun a w1 L fr hL hj hdf hd K hK=>?_) ?_
    . have e1:a.eval (.tmp 30)=.agg #[(.slice AX0 nX0 cX0),(.slice AX1 nX1 cX1)]:=(hd 14 30 (by kernel_rfl))
      exact af (uo rfl e1) (hK _ _ ⟨fun _=>ae zc _,fun h=>(by cases h)⟩ (show ∃ L,_ from⟨w1.heap.size,rfl,hj.1.size,aK _ _⟩))
    refine au.cons (fun a w1 L fr hL hj hdf hd K hK=>?_) ?_
    . have e1:a.eval (.tmp 17)=(.slice AO ps.length cO):=(hd 1 17 (by kernel_rfl))
      obtain⟨L,e2,hL2,hL3⟩:∃ L,a.eval (.tmp 31)=.slice (some ⟨L,0,none⟩) 1 1/\W0.heap.size<=L/\Holds w1 L 88 [(.slice AX0 nX0 cX0),(.slice AX1 nX1 cX1)]:=(hd 15 31 (by kernel_rfl))
      have hb:=hj.2.2 hL;have hrow:=Kd.aX HSB.out.rT hb;have hc9:Kd.C bn w1 (some ⟨L,0,none⟩) 1 [((.slice AX0 nX0 cX0),(.slice AX1 nX1 cX1))]:=kX bn hL3 (oz ⟨rfl,HO.out.1,HO.out.2⟩) (by simp)
      refine gQ bn (w0:=w1) w.heap.size 37 88 (.agg #[.slice none 0 0,.slice none 0 0]) 48 rfl Tryz.underlying37 zC rfl (by decide) (by decide) _ ps [((.slice AX0 nX0 cX0),(.slice AX1 nX1 cX1))] (some ⟨L,0,none⟩) 1 1 (fun _=>True) e1 e2 (fun _ _ _ _ h=>h) (fun _ _=>trivial) hrow hc9 zc hj.2.1.size (by have:=HLN.out;omega) ?_
      intro v1 w2 hr1 hb1 hg1 hat;exact hK _ _ ⟨fun h=>absurd rfl h,fun _=>hg1⟩ hr1
    exact au.nil
   case en=>
    intro vs w6 L1 hJ hl hv;have e0:Kd.R bn 88 w6 w.heap.size (fun _=>True) (vs 16) (ps++[((.slice AX0 nX0 cX0),(.slice AX1 nX1 cX1))]):=hv 16 32 (by decide) (by kernel_rfl) (fun _ _ h=>by cases h)
    obtain⟨A2,c2,e2⟩:=Kd.aD e0;rw[List.length_append,List.length_singleton]at e2;rw[e2]at e0;simp only[List.take_succ_cons,List.take_zero,List.drop_succ_cons,List.drop_zero,bA,Act.put,zj,zr,ya,e2];have hh3:=aY HSB.out.h3 hJ.1 (fun e=>Kd.dL HSB.out.rT HSB.out.h3 (by decide) e)
    have y2:=(hh3.cell 0).trans rfl;have y3:=ak hh3 0;have HST:=Y (HSB.out.uz (u:=S.T[i]'HIL.out) HXI.out.1 HXI.out.2 e0 hJ.1 hJ.2.1);rw[HTK.out]at HST;clear hv hl hJ e0 e2 hh3;go_wp2_with fail;go_roundg kT
    case measure=>have:=HI.out;omega
    case rel=>exact⟨i+1,.slice A2 (ps.length+1) c2,ps++[((.slice AX0 nX0 cX0),(.slice AX1 nX1 cX1))],rfl,⟨by have:=HI.out;omega⟩,HST⟩
end
end Go.Proofs.YtglikkmmbdnmbaaGreat.Im
namespace Go.Proofs.YtglikkmmbdnmbaaGreat.PCan
open Go.RowKit Q7
section
theorem ic {α:Type}{d:Kd α}{e B g:Nat}{W:World}{ok:Nat->Prop}{A:Option Addr}{n c:Nat}{xs:List α}(h:Kd.V d e W B ok (.slice A n c) xs)(h0:0<xs.length)(hsz:0<d.sz)(hok:∀ k,ok k->k≠g):some g≠(Value.slice A n c).ownBlock:=by
 intro hg;obtain⟨hn,_,hF⟩:=Kd.V_at h;have hC:=Kd.F_now hF;obtain⟨ad,ea,hk⟩:=hC.2.2 h0;subst ea
 have hgb:g=ad.block:=by
  have:some g=some ad.block:=hg;injection this
 obtain⟨x,hx⟩:∃ x,xs[0]? =some x:=⟨_,List.getElem?_eq_getElem h0⟩
 have hC2:d.C { W with heap:=W.heap.setIfInBounds g (.map #[] 0) } (some ad) xs.length xs:=hF _ (fun k hk _=>by
  show(W.heap.setIfInBounds g (.map #[] 0))[k]? =W.heap[k]?
  rw[Array.getElem?_setIfInBounds_ne (fun e=>hok k hk e.symm)])
 obtain⟨cs,k1,_,k3⟩:=hk 0 x hx;obtain⟨u,hu⟩:∃ u,cs[0]? =some u:=⟨_,List.getElem?_eq_getElem (by omega)⟩
 have hc1:=k3 0 u hu;have hlt:=World.block_lt_of_cell? W _ hc1;obtain⟨ad',ea',hk'⟩:=hC2.2.2 h0;injection ea' with ea'
 subst ea';obtain⟨cs',k1',_,k3'⟩:=hk' 0 x hx;obtain⟨u',hu'⟩:∃ u,cs'[0]? =some u:=⟨_,List.getElem?_eq_getElem (by omega)⟩
 have hc2:=k3' 0 u' hu'
 have hb:(ad.add (0*d.sz+0)).block=ad.block:=by
  unfold Addr.add
  split<;>rfl
 rw[hb]at hlt;unfold World.cell? at hc2;rw[hb,<-hgb]at hc2
 have hz:(W.heap.setIfInBounds g (.map #[] 0))[g]? =some (Obj.map #[] 0):=by
  rw[Array.getElem?_setIfInBounds_self_of_lt (by omega)]
 simp only[hz]at hc2;cases hc2
end
end Go.Proofs.YtglikkmmbdnmbaaGreat.PCan
namespace Go.Proofs.YtglikkmmbdnmbaaGreat.PCan
open Go.RowKit Q7
attribute [local go_sem] lJ lZ mY nz lm kW lY lK -- for this text's walks alone
set_option linter.unusedVariables false
set_option linter.unusedSimpArgs false
section
def demesneref28_Shape_all.l0:Nat->List Int->Int->List (S88)->List Int->List (S89)->Option (List Int)
 |0,_,_,_,_,_=>none
 |k+1,x3,x4,x371000,x371001,x371002=>if x4<(x371000.length:Int)then(if 0<=x4 then(if x3.length+((df x371000 x4).f0).length<17592186044416 then((some (x3++((df x371000 x4).f0):List Int)).bind fun y372=>(if y372.length+((df x371000 x4).f1).length<17592186044416 then(demesneref28_Shape_all.l0 k (y372++((df x371000 x4).f1)) (wrap64 (x4+1)) x371000 x371001 x371002)else(none)))else(none))else(none))else(if x3.length+x371001.length<17592186044416 then(some (x3++x371001))else(none))
def demesneref28_Shape_all.f (k:Nat)(l0_0:List (S88))(l0_1:List Int)(l0_2:List (S89)):Option (List Int):=demesneref28_Shape_all.l0 k ([]:List Int) 0 l0_0 l0_1 l0_2
theorem demesneref28_Shape_all.calls (k:Nat)(A0_0:Option Addr)(c0_0:Nat)(l0_0:List (S88))(A0_1:Option Addr)(c0_1:Nat)(l0_1:List Int)(A0_2:Option Addr)(c0_2:Nat)(l0_2:List (S89))(r:List Int)(w:World)(hr0_0:Kd.C k88 w A0_0 l0_0.length l0_0)(hc0_0:l0_0.length<=c0_0)(hr0_1:Kd.C (Kd.int .i64) w A0_1 l0_1.length l0_1)(hc0_1:l0_1.length<=c0_1)(hr0_2:Kd.C k89 w A0_2 l0_2.length l0_2)(hc0_2:l0_2.length<=c0_2)(h:demesneref28_Shape_all.f k l0_0 l0_1 l0_2=some r):
 Calls Tryz.prog 101 #[.agg #[.slice A0_0 l0_0.length c0_0,.slice A0_1 l0_1.length c0_1,.slice A0_2 l0_2.length c0_2]] w fun e w'=>∃ v0_:Value,e=.returned (v0_)/\Kd.R (Kd.int .i64) 3 w' w.heap.size (fun _=>True) v0_ r/\Below w.heap.size w w':=by
 have hu41:=Tryz.underlying41;have HR0_0:=Y hr0_0;have HC0_0:=Y hc0_0;clear hr0_0 hc0_0;have HR0_1:=Y hr0_1;have HC0_1:=Y hc0_1;clear hr0_1 hc0_1;have HR0_2:=Y hr0_2;have HC0_2:=Y hc0_2;clear hr0_2 hc0_2;have HB:=Y (Below.refl w.heap.size w);have H:(demesneref28_Shape_all.l0 k ([]:List Int) 0 l0_0 l0_1 l0_2)=some r:=h;clear h;have H':=Y H;clear H;go_enter Tryz.func101,Tryz.ntmps101;go_wp2_with (first|((with_reducible refine aW (N:=1) rfl ?_);refine j3 ?hg (N:=1) ?hd (cs:=#[.slice A0_0 l0_0.length c0_0,.slice A0_1 l0_1.length c0_1,.slice A0_2 l0_2.length c0_2]) (t:=41) ?hr ?_;(case hd=>rfl);(case hg=>rfl);(case hr=>first|(go_simp;done)|(go_simp;rfl));intro gb370 hg w2 hbox hb;have n0_:=Y (ed (by repeat (first|(with_reducible first|exact HB.out|apply ae|apply ah|apply av)|exact HB.out)) hb);have n1_:=Y (hbox);have n2_:=Y ((by rw[hg];exact(bq (by repeat (first|(with_reducible first|exact HB.out|apply ae|apply ah|apply av)|exact HB.out))):w.heap.size<=gb370));have n3_:=Y ((by rw[hg];exact(bq (by repeat (first|(with_reducible first|exact HB.out|apply ae|apply ah|apply av)|exact HB.out))):w.heap.size<=gb370));clear HB;have HB:=n0_;have BK370:=n1_;have GW370:=n2_;have GE370:=n3_;clear n0_ n1_ n2_ n3_;clear hb hbox hg))
 go_loopg [3,4] k (fun kq v3 v4 w'=>∃(x3_1:List Int) (x4_1:Int),v4=.int .i64 x4_1/\aa (demesneref28_Shape_all.l0 kq x3_1 x4_1 l0_0 l0_1 l0_2=some r)/\aa (kq<=k)/\aa (Kd.R (Kd.int .i64) 3 w' w.heap.size (fun _=>True) v3 x3_1)/\aa (w'.heap[gb370]? =some (.cells #[(.slice A0_0 l0_0.length c0_0),(.slice A0_1 l0_1.length c0_1),(.slice A0_2 l0_2.length c0_2)] 41 (0,0)))/\aa (Below w.heap.size w w'))
 case atStart=>exact⟨(([]:List Int)),(0),(by first|rfl|(simp;done)|(simp[*];done)),H',⟨Nat.le_refl _⟩,⟨by first|exact Kd.fo _ _ _ _ _|exact Kd.tY _ _ _ _ _|exact Kd.tT _ _ _ _ _|exact Kd.Q_nil _ _ _ _ _|exact Kd.S_nil _ _ _ _ _⟩,⟨by(with_reducible repeat (first|refine ay ?_ _|refine az ?_|refine ax ?_ _));exact BK370.out⟩,⟨by repeat (first|(with_reducible first|exact HB.out|apply ae|apply ah|apply av|refine aj ?_ GE370.out)|exact HB.out)⟩⟩
 case round=>
  clear H'
  try clear c1
  try clear p2
  obtain⟨x3_1,x4_1,rfl,HA,HK1,HO_3,BK370,HB⟩:=hrel;cases gk with
  |zero=>exact absurd HA.out (by simp[demesneref28_Shape_all.l0])
  |succ k1=>
   have H:=HA.out;clear HA;simp only[demesneref28_Shape_all.l0]at H
   by_cases c3:x4_1<(l0_0.length:Int)
   . rw[if_pos c3]at H;have c3b0:decide (x4_1<(l0_0.length:Int))=true:=yb c3;clear c3
     by_cases c4:0<=x4_1
     . rw[if_pos c4]at H;have c4b0:decide (0<=x4_1)=true:=yb c4;clear c4
       by_cases c5:x3_1.length+((df l0_0 x4_1).f0).length<17592186044416
       . rw[if_pos c5]at H;have LMc5:=Y c5;clear c5;obtain⟨y372,hy372⟩:∃ y_:List Int,y_=(x3_1++((df l0_0 x4_1).f0)):=⟨_,rfl⟩
         replace H:(if y372.length+((df l0_0 x4_1).f1).length<17592186044416 then(demesneref28_Shape_all.l0 k1 (y372++((df l0_0 x4_1).f1)) (wrap64 (x4_1+1)) l0_0 l0_1 l0_2)else(none))=some r:=by first|(rw[hy372];with_reducible exact H)|(have H2_:=(Option.bind_some _ _).symm.trans H;rw[hy372];with_reducible exact H2_)|(have H2_:=(Option.bind_some _ _).symm.trans H;with_reducible exact H2_)|with_reducible exact H|(rw[hy372];exact H)|exact H
         have Ny372:=Y hy372;clear hy372
         by_cases c6:y372.length+((df l0_0 x4_1).f1).length<17592186044416
         . rw[if_pos c6]at H;have LMc6:=Y c6;clear c6;obtain⟨y376,hy376⟩:∃ y_:List Int,y_=(y372++((df l0_0 x4_1).f1)):=⟨_,rfl⟩
           replace H:(demesneref28_Shape_all.l0 k1 y376 (wrap64 (x4_1+1)) l0_0 l0_1 l0_2)=some r:=by first|(rw[hy376];with_reducible exact H)|(have H2_:=(Option.bind_some _ _).symm.trans H;rw[hy376];with_reducible exact H2_)|(have H2_:=(Option.bind_some _ _).symm.trans H;with_reducible exact H2_)|with_reducible exact H|(rw[hy376];exact H)|exact H
           have Ny376:=Y hy376;clear hy376;have H':=Y H;clear H;have hcz7_0:wr.cell? ⟨gb370,0,none⟩=some (.slice A0_0 l0_0.length c0_0):=(aA BK370.out 0).trans rfl;have hcz7_1:wr.cell? ⟨gb370,1,none⟩=some (.slice A0_1 l0_1.length c0_1):=(aA BK370.out 1).trans rfl;have hcz7_2:wr.cell? ⟨gb370,2,none⟩=some (.slice A0_2 l0_2.length c0_2):=(aA BK370.out 2).trans rfl;have hfz7_0:=ak BK370.out 0;have hfz7_1:=ak BK370.out 1;have hfz7_2:=ak BK370.out 2;have p371:0<=(x4_1:Int):=of_decide_eq_true (by first|(with_reducible assumption)|assumption)
           have q371:x4_1<(l0_0.length:Int):=of_decide_eq_true (by first|(with_reducible assumption)|assumption)
           obtain⟨ad371,A371_0,c371_0,A371_1,c371_1,e371,hx371_0,hx371_1,hl371_0,hi371_0,hl371_1,hi371_1⟩:=nH HR0_0.out x4_1 p371 q371;cases e371
           replace hx371_0:=(HB.out.cell (World.block_lt_of_cell? w _ hx371_0)).trans hx371_0
           replace hx371_1:=(HB.out.cell (World.block_lt_of_cell? w _ hx371_1)).trans hx371_1
           have HR371_0:=Y hi371_0;have HC371_0:=Y hl371_0;clear hi371_0 hl371_0;have HR371_1:=Y hi371_1;have HC371_1:=Y hl371_1;clear hi371_1 hl371_1
           replace p371:=eq_true p371
           replace q371:=eq_true q371
           go_wp2_with (first|((with_reducible refine iK (b:=.append) (xs:=#[.tmp 12,.tmp 18]) rfl ?_);at_builtin;refine Kd.mK (Kd.int .i64) (w0:=w) w.heap.size rfl (.tmp 12) (.tmp 18) 38 3 (.int .i64 0) 8 rfl Tryz.underlying38 info3 rfl (by decide) (by omega) u3 x3_1 ((df l0_0 x4_1).f0) _ _ _ (fun _=>True) (fun _=>False) rfl rfl ?aO ?aR (fun _ _ h=>h) (fun _ h=>h.elim) ?aF ?aB ?aS ?aL ?_;(case aR=>repeat (first|exact(Kd.aU HR371_0.out HB.out)|(with_reducible refine Kd.dn ?_ _)|(with_reducible refine Kd.dB ?_ _)|(with_reducible refine Kd.dS ?_)));(case aB=>exact(by repeat (first|(with_reducible first|exact HB.out|apply ae|apply ah|apply av|refine aj ?_ GE370.out)|exact HB.out)));(case aF=>exact(fun _ _=>trivial));(case aO=>exact(by(with_reducible repeat (first|apply Kd.bF|apply Kd.bL|apply Kd.bP));exact HO_3.out));(case aS=>exact(bq (by repeat (first|(with_reducible first|exact HB.out|apply ae|apply ah|apply av|refine aj ?_ GE370.out)|exact HB.out))));(case aL=>have:=LMc5.out;omega);intro v373 w8 ho hb hg hat;rw[<-Ny372.out]at ho;have n0_:=Y (fQ (g:=gb370) (o:=.cells #[.slice (some ad371) l0_0.length c0_0,.slice A0_1 l0_1.length c0_1,.slice A0_2 l0_2.length c0_2] 41 (0,0)) (by(with_reducible repeat (first|refine ay ?_ _|refine az ?_|refine ax ?_ _));exact BK370.out) hg (Kd.dL HO_3.out BK370.out (by decide)));have n1_:=Y (hb);have n2_:=Y (ho);clear BK370;clear HB;clear HO_3;have BK370:=n0_;have HB:=n1_;have HO374:=n2_;clear n0_ n1_ n2_;clear ho hb hg hat;have hcz9_0:w8.cell? ⟨gb370,0,none⟩=some (.slice (some ad371) l0_0.length c0_0):=(aA BK370.out 0).trans rfl;have hcz9_1:w8.cell? ⟨gb370,1,none⟩=some (.slice A0_1 l0_1.length c0_1):=(aA BK370.out 1).trans rfl;have hcz9_2:w8.cell? ⟨gb370,2,none⟩=some (.slice A0_2 l0_2.length c0_2):=(aA BK370.out 2).trans rfl;have hfz9_0:=ak BK370.out 0;have hfz9_1:=ak BK370.out 1;have hfz9_2:=ak BK370.out 2;have p375:0<=(x4_1:Int):=of_decide_eq_true (by first|(with_reducible assumption)|assumption);have q375:x4_1<(l0_0.length:Int):=of_decide_eq_true (by first|(with_reducible assumption)|assumption);obtain⟨ad375,A375_0,c375_0,A375_1,c375_1,e375,hx375_0,hx375_1,hl375_0,hi375_0,hl375_1,hi375_1⟩:=nH HR0_0.out x4_1 p375 q375;obtain rfl:ad371=ad375:=(by injection e375);replace hx375_0:=(HB.out.cell (World.block_lt_of_cell? w _ hx375_0)).trans hx375_0;replace hx375_1:=(HB.out.cell (World.block_lt_of_cell? w _ hx375_1)).trans hx375_1;have HR375_0:=Y hi375_0;have HC375_0:=Y hl375_0;clear hi375_0 hl375_0;have HR375_1:=Y hi375_1;have HC375_1:=Y hl375_1;clear hi375_1 hl375_1;replace p375:=eq_true p375;replace q375:=eq_true q375)|((with_reducible refine iK (b:=.append) (xs:=#[.tmp 20,.tmp 26]) rfl ?_);at_builtin;refine Kd.mK (Kd.int .i64) (w0:=w) w.heap.size rfl (.tmp 20) (.tmp 26) 38 3 (.int .i64 0) 8 rfl Tryz.underlying38 info3 rfl (by decide) (by omega) v373 y372 ((df l0_0 x4_1).f1) _ _ _ (fun _=>True) (fun _=>False) rfl rfl ?aO ?aR (fun _ _ h=>h) (fun _ h=>h.elim) ?aF ?aB ?aS ?aL ?_;(case aR=>repeat (first|exact(Kd.aU HR375_1.out HB.out)|(with_reducible refine Kd.dn ?_ _)|(with_reducible refine Kd.dB ?_ _)|(with_reducible refine Kd.dS ?_)));(case aB=>exact(by repeat (first|(with_reducible first|exact HB.out|apply ae|apply ah|apply av|refine aj ?_ GE370.out)|exact HB.out)));(case aF=>exact(fun _ _=>trivial));(case aO=>exact(by(with_reducible repeat (first|apply Kd.bF|apply Kd.bL|apply Kd.bP));exact HO374.out));(case aS=>exact(bq (by repeat (first|(with_reducible first|exact HB.out|apply ae|apply ah|apply av|refine aj ?_ GE370.out)|exact HB.out))));(case aL=>have:=LMc6.out;omega);intro v377 w10 ho hb hg hat;rw[<-Ny376.out]at ho;have n0_:=Y (fQ (g:=gb370) (o:=.cells #[.slice (some ad371) l0_0.length c0_0,.slice A0_1 l0_1.length c0_1,.slice A0_2 l0_2.length c0_2] 41 (0,0)) (by(with_reducible repeat (first|refine ay ?_ _|refine az ?_|refine ax ?_ _));exact BK370.out) hg (Kd.dL HO374.out BK370.out (by decide)));have n1_:=Y (hb);have n2_:=Y (ho);clear BK370;clear HB;clear HO374;have BK370:=n0_;have HB:=n1_;have HO378:=n2_;clear n0_ n1_ n2_;clear ho hb hg hat))
           go_roundg k1
           case measure=>have:=HK1.out;omega
           case rel=>exact⟨(y376),(wrap64 (x4_1+1)),(by first|rfl|(simp;done)|(simp[*];done)),H',⟨by have:=HK1.out;omega⟩,⟨by(with_reducible repeat (first|apply Kd.bF|apply Kd.bL|apply Kd.bP));exact HO378.out⟩,⟨by(with_reducible repeat (first|refine ay ?_ _|refine az ?_|refine ax ?_ _));exact BK370.out⟩,⟨by repeat (first|(with_reducible first|exact HB.out|apply ae|apply ah|apply av|refine aj ?_ GE370.out)|exact HB.out)⟩⟩
         . rw[if_neg c6]at H;exact absurd H (by simp)
       . rw[if_neg c5]at H;exact absurd H (by simp)
     . rw[if_neg c4]at H;exact absurd H (by simp)
   . rw[if_neg c3]at H;have c3b0:decide (x4_1<(l0_0.length:Int))=false:=yd c3;clear c3
     by_cases c11:x3_1.length+l0_1.length<17592186044416
     . rw[if_pos c11]at H;have LMc11:=Y c11;clear c11;obtain⟨y379,hy379⟩:∃ y_:List Int,y_=(x3_1++l0_1):=⟨_,rfl⟩
       replace H:(some y379)=some r:=by first|(rw[hy379];with_reducible exact H)|(have H2_:=(Option.bind_some _ _).symm.trans H;rw[hy379];with_reducible exact H2_)|(have H2_:=(Option.bind_some _ _).symm.trans H;with_reducible exact H2_)|with_reducible exact H|(rw[hy379];exact H)|exact H
       have Ny379:=Y hy379;clear hy379;obtain rfl:=Option.some.inj H;have hcz12_0:wr.cell? ⟨gb370,0,none⟩=some (.slice A0_0 l0_0.length c0_0):=(aA BK370.out 0).trans rfl;have hcz12_1:wr.cell? ⟨gb370,1,none⟩=some (.slice A0_1 l0_1.length c0_1):=(aA BK370.out 1).trans rfl;have hcz12_2:wr.cell? ⟨gb370,2,none⟩=some (.slice A0_2 l0_2.length c0_2):=(aA BK370.out 2).trans rfl;have hfz12_0:=ak BK370.out 0;have hfz12_1:=ak BK370.out 1;have hfz12_2:=ak BK370.out 2;go_wp2_with (first|((with_reducible refine iK (b:=.append) (xs:=#[.tmp 28,.tmp 30]) rfl ?_);at_builtin;refine Kd.mK (Kd.int .i64) (w0:=w) w.heap.size rfl (.tmp 28) (.tmp 30) 38 3 (.int .i64 0) 8 rfl Tryz.underlying38 info3 rfl (by decide) (by omega) u3 x3_1 l0_1 _ _ _ (fun _=>True) (fun _=>False) rfl rfl ?aO ?aR (fun _ _ h=>h) (fun _ h=>h.elim) ?aF ?aB ?aS ?aL ?_;(case aR=>repeat (first|exact(Kd.aU HR0_1.out HB.out)|(with_reducible refine Kd.dn ?_ _)|(with_reducible refine Kd.dB ?_ _)|(with_reducible refine Kd.dS ?_)));(case aB=>exact(by repeat (first|(with_reducible first|exact HB.out|apply ae|apply ah|apply av|refine aj ?_ GE370.out)|exact HB.out)));(case aF=>exact(fun _ _=>trivial));(case aO=>exact(by(with_reducible repeat (first|apply Kd.bF|apply Kd.bL|apply Kd.bP));exact HO_3.out));(case aS=>exact(bq (by repeat (first|(with_reducible first|exact HB.out|apply ae|apply ah|apply av|refine aj ?_ GE370.out)|exact HB.out))));(case aL=>have:=LMc11.out;omega);intro v380 w13 ho hb hg hat;rw[<-Ny379.out]at ho;have n0_:=Y (fQ (g:=gb370) (o:=.cells #[.slice A0_0 l0_0.length c0_0,.slice A0_1 l0_1.length c0_1,.slice A0_2 l0_2.length c0_2] 41 (0,0)) (by(with_reducible repeat (first|refine ay ?_ _|refine az ?_|refine ax ?_ _));exact BK370.out) hg (Kd.dL HO_3.out BK370.out (by decide)));have n1_:=Y (hb);have n2_:=Y (ho);clear BK370;clear HB;clear HO_3;have BK370:=n0_;have HB:=n1_;have HO381:=n2_;clear n0_ n1_ n2_;clear ho hb hg hat))
       go_ret
       exact⟨_,by first|rfl|(simp[jv,jw]<;>rfl)|(simp[*,jv,jw]<;>rfl),by(with_reducible repeat (first|apply Kd.bF|apply Kd.bL|apply Kd.bP));exact HO381.out,by repeat (first|(with_reducible first|exact HB.out|apply ae|apply ah|apply av|refine aj ?_ GE370.out)|exact HB.out)⟩
     . rw[if_neg c11]at H;exact absurd H (by simp)
def demesneref28_at.l0:Nat->List Int->Int->Int->Option (Int)
 |0,_,_,_=>none
 |k+1,x0,x1,x5=>if x5<(x0.length:Int)then(if 0<=x5 then(if(rd x0 x5)=x1 then(some x5)else(demesneref28_at.l0 k x0 x1 (wrap64 (x5+1))))else(none))else(some (-1))
def demesneref28_at.f (k:Nat)(l0:List Int)(a1:Int):Option (Int):=demesneref28_at.l0 k l0 a1 0
theorem demesneref28_at.calls (k:Nat)(A0:Option Addr)(c0:Nat)(l0:List Int)(a1:Int)(r:Int)(w:World)(hr0:Kd.C (Kd.int .i64) w A0 l0.length l0)(hc0:l0.length<=c0)(h:demesneref28_at.f k l0 a1=some r):
 Calls Tryz.prog 102 #[.slice A0 l0.length c0,.int .i64 a1] w fun e w'=>e=.returned (.int .i64 r)/\cz w w':=by
 have HR0:=Y hr0;have HC0:=Y hc0;clear hr0 hc0;have H:(demesneref28_at.l0 k l0 a1 0)=some r:=h;clear h;have H':=Y H;clear H;go_enter Tryz.func102,Tryz.ntmps102
 go_wp2
 go_loopg [5] k (fun kq v5 w'=>∃(x5_1:Int),v5=.int .i64 x5_1/\aa (demesneref28_at.l0 kq l0 a1 x5_1=some r)/\aa (kq<=k)/\cz w w')
 case atStart=>exact⟨(0),(by first|rfl|(simp;done)|(simp[*];done)),H',⟨Nat.le_refl _⟩,by repeat (first|exact cz.refl _|apply cz.step)⟩
 case round=>
  clear H'
  try clear c1
  try clear p2
  obtain⟨x5_1,rfl,HA,HK1,⟨m1,rfl⟩⟩:=hrel;cases gk with
  |zero=>exact absurd HA.out (by simp[demesneref28_at.l0])
  |succ k1=>
   have H:=HA.out;clear HA;simp only[demesneref28_at.l0]at H
   by_cases c3:x5_1<(l0.length:Int)
   . rw[if_pos c3]at H;have c3b0:decide (x5_1<(l0.length:Int))=true:=yb c3;clear c3
     by_cases c4:0<=x5_1
     . rw[if_pos c4]at H;have c4b0:decide (0<=x5_1)=true:=yb c4;clear c4
       by_cases c5:(rd l0 x5_1)=a1
       . rw[if_pos c5]at H;have c5b0:((rd l0 x5_1)==a1)=true:=beq_iff_eq.mpr c5;have c5b1:((rd l0 x5_1) != a1)=false:=bne_eq_false_iff_eq.mpr c5;clear c5;obtain rfl:=Option.some.inj H;have p382:0<=(x5_1:Int):=of_decide_eq_true (by first|(with_reducible assumption)|assumption)
         have q382:x5_1<(l0.length:Int):=of_decide_eq_true (by first|(with_reducible assumption)|assumption)
         obtain⟨ad382,e382,hx382_0⟩:=Kd.fH HR0.out x5_1 p382 q382;cases e382
         replace p382:=eq_true p382
         replace q382:=eq_true q382
         go_wp2
         go_ret
         exact⟨by first|rfl|(simp;done)|(simp[*];done),by repeat (first|exact cz.refl _|apply cz.step)⟩
       . rw[if_neg c5]at H;have c5b0:((rd l0 x5_1)==a1)=false:=beq_eq_false_iff_ne.mpr c5;have c5b1:((rd l0 x5_1) != a1)=true:=bne_iff_ne.mpr c5;have H':=Y H;clear H;have p382:0<=(x5_1:Int):=of_decide_eq_true (by first|(with_reducible assumption)|assumption)
         have q382:x5_1<(l0.length:Int):=of_decide_eq_true (by first|(with_reducible assumption)|assumption)
         obtain⟨ad382,e382,hx382_0⟩:=Kd.fH HR0.out x5_1 p382 q382;cases e382
         replace p382:=eq_true p382
         replace q382:=eq_true q382
         go_wp2
         go_roundg k1
         case measure=>have:=HK1.out;omega
         case rel=>exact⟨(wrap64 (x5_1+1)),(by first|rfl|(simp;done)|(simp[*];done)),H',⟨by have:=HK1.out;omega⟩,by repeat (first|exact cz.refl _|apply cz.step)⟩
     . rw[if_neg c4]at H;exact absurd H (by simp)
   . rw[if_neg c3]at H;have c3b0:decide (x5_1<(l0.length:Int))=false:=yd c3;clear c3;obtain rfl:=Option.some.inj H
     go_wp2
     go_ret
     exact⟨by first|rfl|(simp;done)|(simp[*];done),by repeat (first|exact cz.refl _|apply cz.step)⟩
end
end Go.Proofs.YtglikkmmbdnmbaaGreat.PCan

/- The player's place, taken, agrees: functions 92, 89, 52, at three known events. -/
import Derived.Test.YtglikkmmbdnmbaaGreatQ09
import Derived.Test.YtglikkmmbdnmbaaGreatQ10
import Derived.Test.YtglikkmmbdnmbaaGreatQ11
import Derived.Test.YtglikkmmbdnmbaaGreatQ16
import Derived.Test.YtglikkmmbdnmbaaGreatQ02
import Derived.WalkSpells
import Derived.WalkLawsBesides
set_option maxHeartbeats 8000000
set_option maxRecDepth 100000
namespace Go.Proofs.YtglikkmmbdnmbaaGreat.Im
open Go.RowKit Q7
open YtglikkmmbdnmbaaGreat.Own PCan Wv
set_option linter.unusedVariables false
set_option linter.unusedSimpArgs false
section
section
variable {o:Oper} {a:Act} {W:World}
theorem jb {x:Operand}{g i:Nat}(hi:i<3)(ho:o.op=.fieldAddr 151 x i)(hx:a.eval x=.pointer (some ⟨g,0,none⟩)):(execOp a.eval o).run Tryz.prog W=.ok (.value (.pointer (some ⟨g,i,none⟩))) W:=by
 have hu:=Tryz.underlying151
 match i,hi with
 |0,_|1,_|2,_=>
  unfold execOp;simp only[ho,hx]
  go_simp
theorem j6 {x:Operand}{g:Nat}(ho:o.op=.fieldAddr 104 x 2)(hx:a.eval x=.pointer (some ⟨g,0,none⟩)):(execOp a.eval o).run Tryz.prog W=.ok (.value (.pointer (some ⟨g,5,none⟩))) W:=by
 have hu:=Tryz.underlying104;unfold execOp;simp only[ho,hx]
 go_simp
theorem kD {x:Operand}{g i:Nat}(hi:i<3)(ho:o.op=.fieldAddr 102 x i)(hx:a.eval x=.pointer (some ⟨g,5,none⟩)):(execOp a.eval o).run Tryz.prog W=.ok (.value (.pointer (some ⟨g,5+i,none⟩))) W:=by
 have hu:=Tryz.underlying102
 match i,hi with
 |0,_|1,_|2,_=>
  unfold execOp;simp only[ho,hx]
  go_simp
theorem pJ {x:Operand}{p:Addr}{v:Value}(ho:o.op=.load 26 x)(hx:a.eval x=.pointer (some p))(hc:W.cell? p=some v):(execOp a.eval o).run Tryz.prog W=.ok (.value v) W:=by
 have hu:=Tryz.underlying26;unfold execOp;simp only[ho,hx]
 go_simp
theorem jI {x:Operand}{p:Addr}{v:Value}(ho:o.op=.load 31 x)(hx:a.eval x=.pointer (some p))(hc:W.cell? p=some v):(execOp a.eval o).run Tryz.prog W=.ok (.value v) W:=by
 have hu:=Tryz.underlying31;unfold execOp;simp only[ho,hx]
 go_simp
theorem wu {x y:Operand}{p q:Int}(ho:o.op=.binOp .eql 3 x y 3)(hx:a.eval x=.int .i64 p)(hy:a.eval y=.int .i64 q):(execOp a.eval o).run Tryz.prog W=.ok (.value (.bool (p==q))) W:=by
 generalize a.eval=E at hx hy ⊢;unfold execOp;simp only[ho,hx,hy]
 go_simp
theorem pG {x y:Operand}{p q:Int}(ho:o.op=.binOp .eql 26 x y 26)(hx:a.eval x=.int .i64 p)(hy:a.eval y=.int .i64 q):(execOp a.eval o).run Tryz.prog W=.ok (.value (.bool (p==q))) W:=by
 have hu:=Tryz.underlying26;generalize a.eval=E at hx hy ⊢;unfold execOp;simp only[ho,hx,hy]
 go_simp
theorem pI {x y:Operand}{p q:Int}(ho:o.op=.binOp .eql 31 x y 31)(hx:a.eval x=.int .u64 p)(hy:a.eval y=.int .u64 q):(execOp a.eval o).run Tryz.prog W=.ok (.value (.bool (p==q))) W:=by
 have hu:=Tryz.underlying31;generalize a.eval=E at hx hy ⊢;unfold execOp;simp only[ho,hx,hy]
 go_simp
theorem iW {x y z:Operand}{v:Value}(ho:o.op=.pick x y z)(hx:a.eval x=.bool true)(hy:a.eval y=v):(execOp a.eval o).run Tryz.prog W=.ok (.value v) W:=by
 generalize a.eval=E at hx hy ⊢;unfold execOp;simp only[ho,hx,hy]
 go_simp
theorem BI {x y z:Operand}{v:Value}(ho:o.op=.pick x y z)(hx:a.eval x=.bool false)(hz:a.eval z=v):(execOp a.eval o).run Tryz.prog W=.ok (.value v) W:=by
 generalize a.eval=E at hx hz ⊢;unfold execOp;simp only[ho,hx,hz]
 go_simp
end
theorem vB:(Tryz.prog.info? 100).map (·.size)=some 4:=by kernel_rfl
theorem vD:(Tryz.prog.info? 151).map (·.zero)=some (some (.agg #[.int .i64 0,.int .u64 0,.int .i64 0])):=by kernel_rfl
def G0:Gm:=kQ 1 2 1
def G1:Gm:=⟨[([1,0],[])],[0],[([],[0])]⟩
def G2:Gm:=⟨[([1,0],[])],[0],[([],[7])]⟩
theorem g1_w:bM G0 0 0 0 1=(G1,1,0):=by kernel_rfl
theorem g2_w:dM G1 0 0 0 7=(G2,0,0):=by kernel_rfl
theorem g3_w:bW G2 0 0 0=(G2,7,0):=by kernel_rfl
theorem oo {F:Nat->Prop}{w w':World}{g b:Nat}{x:Gw}{M:Gm}(h:GL F w g x M)(hs:bH w w' b)(hn:¬ F b):GL F w' g x M:=h.kp (bR hs) (fun q hq _ e=>hn ((show q=b from e)▸hq))
theorem place0 {P g:Nat}{vP:Value}{w:World}(hP:Holds w P 108 [.pointer (some ⟨g,0,none⟩),vP]):
 Calls Tryz.prog 92 #[.pointer (some ⟨P,0,none⟩),.int .i64 0] w fun e w'=>e=.returned (.int .i64 0)/\w'=w:=by
 clear hP;go_enter Tryz.func92,Tryz.ntmps92;go_wp2_with fail
 go_ret
 exact⟨rfl,rfl⟩
theorem place1 {P g bp c:Nat}{w:World}{cs:List Value}(hP:Holds w P 108 [.pointer (some ⟨g,0,none⟩),.slice (some ⟨bp,0,none⟩) 1 c])(hb:Holds w bp 3 cs)(hc:cs[0]? =some (.int .i64 40)):
 Calls Tryz.prog 92 #[.pointer (some ⟨P,0,none⟩),.int .i64 1] w fun e w'=>e=.returned (.int .i64 40)/\w'=w:=by
 have z1:w.cell? ⟨P,1,none⟩=some (.slice (some ⟨bp,0,none⟩) 1 c):=(hP.cell 1).trans rfl;have z2:w.cell? ⟨bp,0,none⟩=some (.int .i64 40):=(hb.cell 0).trans hc;clear hP hb hc;go_enter Tryz.func92,Tryz.ntmps92;go_wp2_with fail
 go_ret
 exact⟨rfl,rfl⟩
theorem taken89 {F:Nat->Prop}{w:World}{g P:Nat}{x:Gw}{vP:Value}(h:GL F w g x G0)(hP:Holds w P 108 [.pointer (some ⟨g,0,none⟩),vP]):
 Calls Tryz.prog 89 #[.pointer (some ⟨P,0,none⟩),.int .i64 40] w fun e w'=>e=.returned (.bool false)/\Below w.heap.size w w':=by
 have HR:=Y (Ep h);have z0:w.cell? ⟨P,0,none⟩=some (.pointer (some ⟨g,0,none⟩)):=(hP.cell 0).trans rfl;clear h hP;go_enter Tryz.func89,Tryz.ntmps89;go_wp2_with (go_at_call 108;refine HR.out.mono ?_;rintro e w1 ⟨rfl,hb1⟩;have HB1:=Y hb1;clear hb1);clear z0
 go_loopg [13] 0 (fun kq v13 w'=>v13=.int .i64 0/\w'=w1)
 case atStart=>exact⟨rfl,rfl⟩
 case round=>
  obtain⟨rfl,e0⟩:=hrel;subst e0;go_wp2_with fail
  go_ret
  exact⟨rfl,HB1.out⟩
structure PS (w0:World)(P g bp c ex:Nat)(M:Gm)(cs es:List Value)(w:World):Prop where
 gl:∃ F x,GL F w g x M/\¬ F P/\¬ F bp/\¬ F ex/\∀ q,F q->w0.heap.size<=q
 hp:Holds w P 108 [.pointer (some ⟨g,0,none⟩),.slice (some ⟨bp,0,none⟩) 1 c]
 hb:Holds w bp 3 cs
 he:Holds w ex 104 es
 c0:cs[0]? =some (.int .i64 40)
 lo:w0.heap.size<=P/\w0.heap.size<=bp/\ex≠P
 below:Below w0.heap.size w0 w
theorem PS.next {w0 w w':World}{P g bp c ex:Nat}{M:Gm}{cs es:List Value}(h:PS w0 P g bp c ex M cs es w)(hb:Below w.heap.size w w'):PS w0 P g bp c ex M cs es w':=by
 obtain⟨F,x,h1,h2⟩:=h.gl;exact⟨⟨F,x,h1.below hb,h2⟩,h.hp.below hb,h.hb.below hb,h.he.below hb,h.c0,h.lo,ag h.below h.below.size hb⟩
theorem int_row {W:World}{B:Nat}{y:Int}{ok:Nat->Prop}{v:Value}(h:Kd.R (Kd.int .i64) 3 W B ok v [y]):∃ bT cT cs,v=.slice (some ⟨bT,0,none⟩) 1 cT/\B<=bT/\Holds W bT 3 cs/\cs[0]? =some (.int .i64 y):=by
 obtain⟨_,inner,⟨hil,hown⟩,hr⟩:=h
 rcases hown with⟨rfl,h0⟩|⟨bT,cap,cur,rfl,hbT,hh,hcap,hmax,hsz,htk⟩
 . exact absurd h0 (by simp)
 . refine⟨bT,cap,cur.toList,rfl,hbT,by show W.heap[bT]? =some (.cells cur.toList.toArray 3 (0,0));rw[Array.toArray_toList];exact hh,?_⟩
   obtain⟨hlen,hat⟩:=hr;have hb3:(inner.drop (0*1)).take 1=[.int .i64 y]:=hat 0 y rfl
   have hb4:inner[0]? =some (.int .i64 y):=by
    have:=congrArg (fun l=>l[0]?) hb3
    simpa [List.getElem?_take,List.getElem?_drop] using this
   rw[<-htk,List.getElem?_take]at hb4
   split at hb4
   . exact hb4
   . cases hb4
def V9 (w0:World)(P db:Nat):Nat->Value->World->Prop
 |0,v,_=>v=.pointer (some ⟨P,0,none⟩)
 |1,v,_=>v=.pointer (some ⟨P,0,none⟩)
 |2,v,_=>v=.pointer (some ⟨P,0,none⟩)
 |3,v,_=>v=.pointer (some ⟨P,1,none⟩)
 |4,v,_=>v=.slice none 0 0
 |5,v,_=>v=.pointer (some ⟨db,5,none⟩)
 |6,v,_=>v=.pointer (some ⟨db,6,none⟩)
 |7,v,_=>v=.int .i64 40
 |8,v,w=>L1 40 v w
 |9,v,w=>∃(bp c:Nat) (cs:List Value),v=.slice (some ⟨bp,0,none⟩) 1 c/\w0.heap.size<=bp/\Holds w bp 3 cs/\cs[0]? =some (Value.int .i64 40)
 |10,v,_=>v=.pointer (some ⟨P,0,none⟩)
 |11,v,_=>v=.pointer (some ⟨P,1,none⟩)
 |_,_,_=>True
theorem EC (w0:World)(P db:Nat)(j:Nat)(v:Value)(w w':World)(h:V9 w0 P db j v w)(hb:Below w.heap.size w w'):V9 w0 P db j v w':=by
 unfold V9 at h ⊢
 split at h<;>first|exact h|(obtain⟨b,e,hh⟩:=h;exact⟨b,e,hh.below hb⟩)|(obtain⟨bp,c,cs,e,hB,hh,h0⟩:=h;exact⟨bp,c,cs,e,hB,hh.below hb,h0⟩)|trivial
def P52_1 (P db xb:Nat):Nat->Value
 |0=>.bool true
 |1=>.bool true
 |2=>.pointer (some ⟨xb,2,none⟩)
 |3=>.int .i64 0
 |4=>.bool true
 |5=>.bool true
 |6=>.bool true
 |7=>.pointer (some ⟨db,5,none⟩)
 |8=>.pointer (some ⟨db,7,none⟩)
 |9=>.int .u64 0
 |10=>.pointer (some ⟨xb,1,none⟩)
 |11=>.int .u64 0
 |12=>.bool true
 |13=>.bool true
 |14=>.bool true
 |15=>.pointer (some ⟨db,5,none⟩)
 |16=>.pointer (some ⟨db,6,none⟩)
 |17=>.int .i64 40
 |18=>.pointer (some ⟨P,0,none⟩)
 |19=>.pointer (some ⟨xb,0,none⟩)
 |20=>.int .i64 1
 |21=>.int .i64 40
 |22=>.bool true
 |23=>.bool true
 |_=>undef
theorem agrees1 {F:Nat->Prop}{w0 w:World}{g P:Nat}{x:Gw}(h:GL F w g x G0)(hP:Holds w P 108 [.pointer (some ⟨g,0,none⟩),.slice none 0 0])(hF:¬ F P)(hlo:∀ q,F q->w0.heap.size<=q)(hPl:w0.heap.size<=P)(hb:Below w0.heap.size w0 w){ex:Nat}{es:List Value}(hE:Holds w ex 104 es)(hEF:¬ F ex)(hEP:ex≠P):
 Calls Tryz.prog 52 #[.pointer (some ⟨P,0,none⟩),.agg #[.int .u8 0,.int .u8 1,.int .u8 0,.int .u8 0,.int .u8 1,.int .i64 0,.int .i64 40,.int .u64 0,.int .i64 0,.int .i64 1,.int .i64 0]] w fun e w'=>e=.returned (.bool true)/\∃ bp c cs,PS w0 P g bp c ex G1 cs es w':=by
 have HLO:=Y hPl;obtain⟨W1,hW1⟩:∃ W1,W1=w.alloc (.cells #[.int .u8 0,.int .u8 1,.int .u8 0,.int .u8 0,.int .u8 1,.int .i64 0,.int .i64 40,.int .u64 0,.int .i64 0,.int .i64 1,.int .i64 0] 104):=⟨_,rfl⟩;obtain⟨db,hdb⟩:∃ db,db=w.heap.size:=⟨_,rfl⟩;have hb1:Below w.heap.size w W1:=by rw[hW1];exact ae zc _
 have hd:Holds W1 db 104 [.int .u8 0,.int .u8 1,.int .u8 0,.int .u8 0,.int .u8 1,.int .i64 0,.int .i64 40,.int .u64 0,.int .i64 0,.int .i64 1,.int .i64 0]:=by rw[hW1,hdb];exact aK _ _
 have HFD:=Y (show ¬ F db from fun e=>by have:=h.lt _ e;omega)
 have HLT:=Y h.lt;have HDB:=Y hdb;have HG1:=Y (h.below hb1);have HP1:=Y (hP.below hb1);have HPD:=Y (show P≠db from fun e=>by have:=hP.lt;omega)
 have HFP:=Y hF;have HQ:=Y hlo;have HB0:=Y hb;have HB1:=Y hb1;have HD1:=Y hd;have HE1:=Y (hE.below hb1);have HEF:=Y hEF;have HEP:=Y hEP;have y1:W1.cell? ⟨db,1,none⟩=some (.int .u8 1):=(hd.cell 1).trans rfl;have y5:W1.cell? ⟨db,5,none⟩=some (.int .i64 0):=(hd.cell 5).trans rfl;have y6:W1.cell? ⟨db,6,none⟩=some (.int .i64 40):=(hd.cell 6).trans rfl;clear h hP hF hlo hb hb1 hd hE hEF hEP hPl;go_enter Tryz.func52,Tryz.ntmps52;go_upto_region 1 with fail
 rw[<-hW1,<-hdb];clear hW1 hdb;go_upto_region 6 with(go_at_call 89;refine(taken89 HG1.out HP1.out).mono ?_;rintro e w2 ⟨rfl,hb2⟩;have HB2:=Y hb2;have y5':w2.cell? ⟨db,5,none⟩=some (.int .i64 0):=((HD1.out.below hb2).cell 5).trans rfl;clear hb2)
 clear y5';clear y1 y5 y6;have HG2:=Y (HG1.out.below HB2.out);have HP2:=Y (HP1.out.below HB2.out);have HD2:=Y (HD1.out.below HB2.out);have y0:w2.cell? ⟨P,0,none⟩=some (.pointer (some ⟨g,0,none⟩)):=(HP2.out.cell 0).trans rfl;go_upto_region 7 with(go_at_call 90;refine(vL HG2.out 0 0 rfl (by decide)).mono ?_;rintro e w3 ⟨g',x',vG,vs,rfl,hgw,hb3,hlo3⟩;have HGW:=Y hgw;have HLO3:=Y hlo3;have HB3:=Y hb3;clear hgw hb3 hlo3)
 clear y0;have HG3:=Y (HG2.out.below HB3.out);have HP3:=Y (HP2.out.below HB3.out);have HD3:=Y (HD2.out.below HB3.out);have y0:w3.cell? ⟨db,0,none⟩=some (.int .u8 0):=(HD3.out.cell 0).trans rfl;have HS:=Y (Bz (HG3.out) (by decide) P 0 0 0 1 _ ⟨by decide,by decide,by decide⟩ HP3.out HFP.out)
 rw[g1_w]at HS
 go_upto_region 8 with(first
  |(go_at_call 91;refine HS.out.mono ?_;rintro r w4 ⟨rfl,hgs⟩;obtain⟨F',x4,hg1,hk1,hF1⟩:=hgs;have HG4:=Y hg1;have HK4:=Y hk1;have HF4:=Y hF1;clear hg1 hk1 hF1)
  |((with_reducible refine aW (N:=61) rfl ?_);refine bE rfl (ty:=100) rfl (g:=db) (off:=1) (seg:=[.int .u8 1,.int .u8 0,.int .u8 0,.int .u8 1]) rfl HD3.out rfl Tryz.underlying100 rfl vB ?_)
  |((with_reducible refine aW (N:=7) rfl ?_);refine gI rfl rfl vD ?_;intro xb hxb w5 hh5 hb5;have HXB:=Y hxb;have HH5:=Y hh5;have HB5:=Y hb5;clear hxb hh5 hb5)
  |((with_reducible refine bg (t:=151) (p:=7) rfl ?_);refine aG rfl (ty:=151) rfl rfl (g:=xb) (off:=0) (vs:=#[.int .i64 1,.int .u64 0,.int .i64 0]) rfl rfl HH5.out (by show 3<=3;decide) fB (by simp[Value.oneCell']) ?_;intro w6 hh6 hs6;have HX6:=Y (show Holds w6 xb 151 [.int .i64 1,.int .u64 0,.int .i64 0]from hh6);have HS6:=Y hs6;clear hh6 hs6))
 clear y0;have HP4:=Y (HK4.out.holds HP3.out HFP.out);have HD4:=Y (HK4.out.holds HD3.out HFD.out);have HP6:=Y (HS6.out.holds (HP4.out.below HB5.out) (by have:=HP4.out.lt;have:=HXB.out;omega))
 have HD6:=Y (HS6.out.holds (HD4.out.below HB5.out) (by have:=HD4.out.lt;have:=HXB.out;omega))
 have HG6:=Y (oo (HG4.out.below HB5.out) HS6.out (fun e=>by have:=HG4.out.lt _ e;have:=HXB.out;omega))
 have HSZ:=Y (show w0.heap.size<=w3.heap.size from Nat.le_trans HB0.out.size (Nat.le_trans HB1.out.size (Nat.le_trans HB2.out.size HB3.out.size)))
 have HBW6:aa (Below w0.heap.size w0 w6):=⟨by
  have k3:Below w0.heap.size w0 w3:=ag (ag (ag HB0.out HB0.out.size HB1.out) (Nat.le_trans HB0.out.size HB1.out.size) HB2.out) (Nat.le_trans (Nat.le_trans HB0.out.size HB1.out.size) HB2.out.size) HB3.out;have k4:Below w0.heap.size w0 w4:=nR k3 HK4.out HQ.out;have k5:=ag k4 k4.size HB5.out
  exact HS6.out.below k5 (by rw[HXB.out];exact k4.size)⟩
 have HE4:=Y (HK4.out.holds ((HE1.out.below HB2.out).below HB3.out) HEF.out);have HE6:=Y (HS6.out.holds (HE4.out.below HB5.out) (by have:=HE4.out.lt;have:=HXB.out;omega))
 have HNE:aa (¬ F' ex):=⟨fun e=>by
  have hE:=HE1.out.lt;have h2:=HB2.out.size;have h3:=HB3.out.size
  rcases HF4.out _ e with h|h
  . exact HEF.out h
  . omega⟩
 have HNF:aa (¬ F' P/\¬ F' db/\¬ F' xb/\(∀ q,F' q->w0.heap.size<=q)):=⟨by
  have hP:=HP3.out.lt;have hD:=HD3.out.lt;refine⟨fun e=>?_,fun e=>?_,fun e=>?_,fun q hq=>?_⟩
  . rcases HF4.out _ e with h|h
    . exact HFP.out h
    . omega
  . rcases HF4.out _ e with h|h
    . exact HFD.out h
    . omega
  . have:=HG4.out.lt _ e;have:=HXB.out;omega
  . rcases HF4.out _ hq with h|h
    . exact HQ.out q h
    . exact Nat.le_trans HSZ.out h
 ⟩
 have y2:w6.cell? ⟨xb,2,none⟩=some (.int .i64 0):=(HX6.out.cell 2).trans rfl;go_upto_region 9 with fail
 clear y2;refine jZ 12 111 (V9 w6 P db) (by kernel_rfl) (by rfl) (by kernel_rfl) (fun j v w1 w2 h hb=>EC _ _ _ j v w1 w2 h hb) ?st ?en
 case st=>
  refine Steps.cons (fun a w1 fr hb hd K hK=>?_) ?_
  . exact af (aC rfl ((fr 0 (by kernel_rfl)).trans rfl)) (hK _ _ zc rfl)
  refine Steps.cons (fun a w1 fr hb hd K hK=>?_) ?_
  . exact af (aC rfl ((fr 0 (by kernel_rfl)).trans rfl)) (hK _ _ zc rfl)
  refine Steps.cons (fun a w1 fr hb hd K hK=>?_) ?_
  . exact af (bZ rfl (hd 1 72 (by kernel_rfl))) (hK _ _ zc rfl)
  refine Steps.cons (fun a w1 fr hb hd K hK=>?_) ?_
  . exact af (lw (i:=1) (by decide) rfl (hd 2 73 (by kernel_rfl))) (hK _ _ zc rfl)
  refine Steps.cons (fun a w1 fr hb hd K hK=>?_) ?_
  . exact af (dz rfl (hd 3 74 (by kernel_rfl)) (((HP6.out.below hb).cell 1).trans rfl)) (hK _ _ zc rfl)
  refine Steps.cons (fun a w1 fr hb hd K hK=>?_) ?_
  . exact af (j6 rfl ((fr 3 (by kernel_rfl)).trans rfl)) (hK _ _ zc rfl)
  refine Steps.cons (fun a w1 fr hb hd K hK=>?_) ?_
  . exact af (kD (i:=1) (by decide) rfl (hd 5 76 (by kernel_rfl))) (hK _ _ zc rfl)
  refine Steps.cons (fun a w1 fr hb hd K hK=>?_) ?_
  . exact af (dx rfl (hd 6 77 (by kernel_rfl)) (((HD6.out.below hb).cell 6).trans rfl)) (hK _ _ zc rfl)
  refine Steps.cons (fun a w1 fr hb hd K hK=>?_) ?_
  . exact af (uk rfl (hd 7 78 (by kernel_rfl))) (hK _ _ (ae zc _) ⟨w1.heap.size,rfl,aK _ _⟩)
  refine Steps.cons (fun a w1 fr hb hd K hK=>?_) ?_
  . have e4:a.eval (.tmp 75)=.slice none 0 0:=(hd 4 75 (by kernel_rfl))
    obtain⟨b1,e1,hh1⟩:L1 40 (a.eval (.tmp 79)) w1:=(hd 8 79 (by kernel_rfl))
    refine gQ (Kd.int .i64) (w0:=w1) w1.heap.size 38 3 (.int .i64 0) 8 rfl Tryz.underlying38 kI rfl (by decide) (by decide) (.slice none 0 0) [] [40] (some ⟨b1,0,none⟩) 1 1 (fun _=>True) e4 e1 (fun _ _ _ _ h=>h) (fun _ _=>trivial) (Kd.fo _ _ _ _ _) (one_C hh1) zc (Nat.le_refl _) (by decide) ?_
    intro v1 w2 hr1 hb1 hg1 hat;obtain⟨bp,c,cs,r1,r2,r3,r4⟩:=int_row hr1;exact hK _ _ hb1 ⟨bp,c,cs,r1,Nat.le_trans hb.size r2,r3,r4⟩
  refine Steps.cons (fun a w1 fr hb hd K hK=>?_) ?_
  . exact af (bZ rfl (hd 0 71 (by kernel_rfl))) (hK _ _ zc rfl)
  refine Steps.cons (fun a w1 fr hb hd K hK=>?_) ?_
  . exact af (lw (i:=1) (by decide) rfl (hd 10 81 (by kernel_rfl))) (hK _ _ zc rfl)
  exact Steps.nil
 case en=>
  intro us w7 hb hv;obtain⟨bp,c,cs,h9,hB9,hH9,hc9⟩:∃(bp c:Nat) (cs:List Value),us 9=.slice (some ⟨bp,0,none⟩) 1 c/\w6.heap.size<=bp/\Holds w7 bp 3 cs/\cs[0]? =some (Value.int .i64 40):=hv 9 80 (by decide) (by kernel_rfl)
  have h11:us 11=.pointer (some ⟨P,1,none⟩):=hv 11 82 (by decide) (by kernel_rfl)
  simp only[List.take_succ_cons,List.take_zero,List.drop_succ_cons,List.drop_zero,bA,Act.put,zj,zr,ya,h9,h11];have HP7:=Y (HP6.out.below hb);have HB7:=Y hb;have HR7:=Y (And.intro hB9 (And.intro hH9 hc9));have y2:w7.cell? ⟨P,1,none⟩=some (.slice none 0 0):=(HP7.out.cell 1).trans rfl;have y3:=ak HP7.out 1;clear hb hv h9 h11 hB9 hH9 hc9;go_upto_region 10 with fail
  obtain⟨w8,hw8⟩:∃ w8,w8=w7.setCell ⟨P,1,none⟩ (.slice (some ⟨bp,0,none⟩) 1 c):=⟨_,rfl⟩;have hs8:bH w7 w8 P:=by rw[hw8];exact bu _ P 1 _
  have HP8:=Y (show Holds w8 P 108 [.pointer (some ⟨g,0,none⟩),.slice (some ⟨bp,0,none⟩) 1 c] by rw[hw8];exact bB HP7.out (k:=1) (by show 1<2;decide) _)
  rw[<-hw8];have hPl7:=HP6.out.lt;have HE8:=Y (hs8.holds (HE6.out.below HB7.out) HEP.out);have HR8:=Y (hs8.holds HR7.out.2.1 (by have:=HR7.out.1;omega))
  have HX8:=Y (hs8.holds (HX6.out.below HB7.out) (by have:=HP3.out.lt;have:=HK4.out.size;have:=HXB.out;omega))
  have HD8:=Y (hs8.holds (HD6.out.below HB7.out) (Ne.symm HPD.out));have HG8:=Y (oo (HG6.out.below HB7.out) hs8 HNF.out.1);have HBW8:=Y (hs8.below (ag HBW6.out HBW6.out.size HB7.out) HLO.out);have HFB8:=Y (show ¬ F' bp from fun e=>by have:=HG6.out.lt _ e;have:=HR7.out.1;omega)
  clear y2 y3 hs8 hw8 hPl7;refine mE 111 (IC w8 [(0,83),(1,84),(2,85),(3,86),(4,87),(5,88),(6,89),(7,90),(8,91),(9,92),(10,93),(11,94),(12,95),(13,96),(14,97),(15,98),(16,99),(17,100),(18,101),(19,102),(20,103),(21,104),(22,105),(23,106)] (P52_1 P db xb) [] (fun _=>0)) (by kernel_rfl) (by rfl) (by kernel_rfl) ⟨bv zc,fun y hy h=>by(rw[dI]at h;cases h),fun y hy h=>(by cases hy),fun y hy z hz _ h=>(by cases hy),fun y hy h=>(by cases hy)⟩ ?st2 ?en2
  case st2=>
   refine aZ.cons (fun a w1 L fr hl hi hI hdf hs hd K hK=>?_) ?_
   . exact .inl ⟨(bU rfl),af (aC rfl ((fr 8 (by kernel_rfl)).trans rfl)) (hK _ _ (hI.pure (i:=0) (t:=83) (by rw[hs];decide) (by rw[hl];decide) (by decide)))⟩
   refine aZ.cons (fun a w1 L fr hl hi hI hdf hs hd K hK=>?_) ?_
   . exact .inl ⟨(bU rfl),af (aC rfl (show a.eval (.tmp 83)=.bool true from hI.p (0,83) (by decide) (hd 0 83 (by kernel_rfl)))) (hK _ _ (hI.pure (i:=1) (t:=84) (by rw[hs];decide) (by rw[hl];decide) (by decide)))⟩
   refine aZ.cons (fun a w1 L fr hl hi hI hdf hs hd K hK=>?_) ?_
   . exact .inl ⟨(aM rfl (t:=84) rfl (show a.eval (.tmp 84)=.bool true from hI.p (1,84) (by decide) (hd 1 84 (by kernel_rfl))) rfl),af (jb (i:=2) (by decide) rfl ((fr 7 (by kernel_rfl)).trans rfl)) (hK _ _ (hI.pure (i:=2) (t:=85) (by rw[hs];decide) (by rw[hl];decide) (by decide)))⟩
   refine aZ.cons (fun a w1 L fr hl hi hI hdf hs hd K hK=>?_) ?_
   . exact .inl ⟨(aM rfl (t:=84) rfl (show a.eval (.tmp 84)=.bool true from hI.p (1,84) (by decide) (hd 1 84 (by kernel_rfl))) rfl),af (pJ rfl (show a.eval (.tmp 85)=.pointer (some ⟨xb,2,none⟩)from hI.p (2,85) (by decide) (hd 2 85 (by kernel_rfl))) (((HX8.out.below hI.below).cell 2).trans rfl)) (hK _ _ (hI.pure (i:=3) (t:=86) (by rw[hs];decide) (by rw[hl];decide) (by decide)))⟩
   refine aZ.cons (fun a w1 L fr hl hi hI hdf hs hd K hK=>?_) ?_
   . exact .inl ⟨(aM rfl (t:=84) rfl (show a.eval (.tmp 84)=.bool true from hI.p (1,84) (by decide) (hd 1 84 (by kernel_rfl))) rfl),af (pG rfl (show a.eval (.tmp 86)=.int .i64 0 from hI.p (3,86) (by decide) (hd 3 86 (by kernel_rfl))) rfl) (hK _ _ (hI.pure (i:=4) (t:=87) (by rw[hs];decide) (by rw[hl];decide) (by decide)))⟩
   refine aZ.cons (fun a w1 L fr hl hi hI hdf hs hd K hK=>?_) ?_
   . exact .inl ⟨(bU rfl),af (iW rfl (show a.eval (.tmp 84)=.bool true from hI.p (1,84) (by decide) (hd 1 84 (by kernel_rfl))) (show a.eval (.tmp 87)=.bool true from hI.p (4,87) (by decide) (hd 4 87 (by kernel_rfl)))) (hK _ _ (hI.pure (i:=5) (t:=88) (by rw[hs];decide) (by rw[hl];decide) (by decide)))⟩
   refine aZ.cons (fun a w1 L fr hl hi hI hdf hs hd K hK=>?_) ?_
   . exact .inl ⟨(bU rfl),af (aC rfl (show a.eval (.tmp 88)=.bool true from hI.p (5,88) (by decide) (hd 5 88 (by kernel_rfl)))) (hK _ _ (hI.pure (i:=6) (t:=89) (by rw[hs];decide) (by rw[hl];decide) (by decide)))⟩
   refine aZ.cons (fun a w1 L fr hl hi hI hdf hs hd K hK=>?_) ?_
   . exact .inl ⟨(aM rfl (t:=89) rfl (show a.eval (.tmp 89)=.bool true from hI.p (6,89) (by decide) (hd 6 89 (by kernel_rfl))) rfl),af (j6 rfl ((fr 3 (by kernel_rfl)).trans rfl)) (hK _ _ (hI.pure (i:=7) (t:=90) (by rw[hs];decide) (by rw[hl];decide) (by decide)))⟩
   refine aZ.cons (fun a w1 L fr hl hi hI hdf hs hd K hK=>?_) ?_
   . exact .inl ⟨(aM rfl (t:=89) rfl (show a.eval (.tmp 89)=.bool true from hI.p (6,89) (by decide) (hd 6 89 (by kernel_rfl))) rfl),af (kD (i:=2) (by decide) rfl (show a.eval (.tmp 90)=.pointer (some ⟨db,5,none⟩)from hI.p (7,90) (by decide) (hd 7 90 (by kernel_rfl)))) (hK _ _ (hI.pure (i:=8) (t:=91) (by rw[hs];decide) (by rw[hl];decide) (by decide)))⟩
   refine aZ.cons (fun a w1 L fr hl hi hI hdf hs hd K hK=>?_) ?_
   . exact .inl ⟨(aM rfl (t:=89) rfl (show a.eval (.tmp 89)=.bool true from hI.p (6,89) (by decide) (hd 6 89 (by kernel_rfl))) rfl),af (jI rfl (show a.eval (.tmp 91)=.pointer (some ⟨db,7,none⟩)from hI.p (8,91) (by decide) (hd 8 91 (by kernel_rfl))) (((HD8.out.below hI.below).cell 7).trans rfl)) (hK _ _ (hI.pure (i:=9) (t:=92) (by rw[hs];decide) (by rw[hl];decide) (by decide)))⟩
   refine aZ.cons (fun a w1 L fr hl hi hI hdf hs hd K hK=>?_) ?_
   . exact .inl ⟨(aM rfl (t:=89) rfl (show a.eval (.tmp 89)=.bool true from hI.p (6,89) (by decide) (hd 6 89 (by kernel_rfl))) rfl),af (jb (i:=1) (by decide) rfl ((fr 7 (by kernel_rfl)).trans rfl)) (hK _ _ (hI.pure (i:=10) (t:=93) (by rw[hs];decide) (by rw[hl];decide) (by decide)))⟩
   refine aZ.cons (fun a w1 L fr hl hi hI hdf hs hd K hK=>?_) ?_
   . exact .inl ⟨(aM rfl (t:=89) rfl (show a.eval (.tmp 89)=.bool true from hI.p (6,89) (by decide) (hd 6 89 (by kernel_rfl))) rfl),af (jI rfl (show a.eval (.tmp 93)=.pointer (some ⟨xb,1,none⟩)from hI.p (10,93) (by decide) (hd 10 93 (by kernel_rfl))) (((HX8.out.below hI.below).cell 1).trans rfl)) (hK _ _ (hI.pure (i:=11) (t:=94) (by rw[hs];decide) (by rw[hl];decide) (by decide)))⟩
   refine aZ.cons (fun a w1 L fr hl hi hI hdf hs hd K hK=>?_) ?_
   . exact .inl ⟨(aM rfl (t:=89) rfl (show a.eval (.tmp 89)=.bool true from hI.p (6,89) (by decide) (hd 6 89 (by kernel_rfl))) rfl),af (pI rfl (show a.eval (.tmp 92)=.int .u64 0 from hI.p (9,92) (by decide) (hd 9 92 (by kernel_rfl))) (show a.eval (.tmp 94)=.int .u64 0 from hI.p (11,94) (by decide) (hd 11 94 (by kernel_rfl)))) (hK _ _ (hI.pure (i:=12) (t:=95) (by rw[hs];decide) (by rw[hl];decide) (by decide)))⟩
   refine aZ.cons (fun a w1 L fr hl hi hI hdf hs hd K hK=>?_) ?_
   . exact .inl ⟨(bU rfl),af (iW rfl (show a.eval (.tmp 89)=.bool true from hI.p (6,89) (by decide) (hd 6 89 (by kernel_rfl))) (show a.eval (.tmp 95)=.bool true from hI.p (12,95) (by decide) (hd 12 95 (by kernel_rfl)))) (hK _ _ (hI.pure (i:=13) (t:=96) (by rw[hs];decide) (by rw[hl];decide) (by decide)))⟩
   refine aZ.cons (fun a w1 L fr hl hi hI hdf hs hd K hK=>?_) ?_
   . exact .inl ⟨(bU rfl),af (aC rfl (show a.eval (.tmp 96)=.bool true from hI.p (13,96) (by decide) (hd 13 96 (by kernel_rfl)))) (hK _ _ (hI.pure (i:=14) (t:=97) (by rw[hs];decide) (by rw[hl];decide) (by decide)))⟩
   refine aZ.cons (fun a w1 L fr hl hi hI hdf hs hd K hK=>?_) ?_
   . exact .inl ⟨(aM rfl (t:=97) rfl (show a.eval (.tmp 97)=.bool true from hI.p (14,97) (by decide) (hd 14 97 (by kernel_rfl))) rfl),af (j6 rfl ((fr 3 (by kernel_rfl)).trans rfl)) (hK _ _ (hI.pure (i:=15) (t:=98) (by rw[hs];decide) (by rw[hl];decide) (by decide)))⟩
   refine aZ.cons (fun a w1 L fr hl hi hI hdf hs hd K hK=>?_) ?_
   . exact .inl ⟨(aM rfl (t:=97) rfl (show a.eval (.tmp 97)=.bool true from hI.p (14,97) (by decide) (hd 14 97 (by kernel_rfl))) rfl),af (kD (i:=1) (by decide) rfl (show a.eval (.tmp 98)=.pointer (some ⟨db,5,none⟩)from hI.p (15,98) (by decide) (hd 15 98 (by kernel_rfl)))) (hK _ _ (hI.pure (i:=16) (t:=99) (by rw[hs];decide) (by rw[hl];decide) (by decide)))⟩
   refine aZ.cons (fun a w1 L fr hl hi hI hdf hs hd K hK=>?_) ?_
   . exact .inl ⟨(aM rfl (t:=97) rfl (show a.eval (.tmp 97)=.bool true from hI.p (14,97) (by decide) (hd 14 97 (by kernel_rfl))) rfl),af (dx rfl (show a.eval (.tmp 99)=.pointer (some ⟨db,6,none⟩)from hI.p (16,99) (by decide) (hd 16 99 (by kernel_rfl))) (((HD8.out.below hI.below).cell 6).trans rfl)) (hK _ _ (hI.pure (i:=17) (t:=100) (by rw[hs];decide) (by rw[hl];decide) (by decide)))⟩
   refine aZ.cons (fun a w1 L fr hl hi hI hdf hs hd K hK=>?_) ?_
   . exact .inl ⟨(aM rfl (t:=97) rfl (show a.eval (.tmp 97)=.bool true from hI.p (14,97) (by decide) (hd 14 97 (by kernel_rfl))) rfl),af (aC rfl ((fr 0 (by kernel_rfl)).trans rfl)) (hK _ _ (hI.pure (i:=18) (t:=101) (by rw[hs];decide) (by rw[hl];decide) (by decide)))⟩
   refine aZ.cons (fun a w1 L fr hl hi hI hdf hs hd K hK=>?_) ?_
   . exact .inl ⟨(aM rfl (t:=97) rfl (show a.eval (.tmp 97)=.bool true from hI.p (14,97) (by decide) (hd 14 97 (by kernel_rfl))) rfl),af (jb (i:=0) (by decide) rfl ((fr 7 (by kernel_rfl)).trans rfl)) (hK _ _ (hI.pure (i:=19) (t:=102) (by rw[hs];decide) (by rw[hl];decide) (by decide)))⟩
   refine aZ.cons (fun a w1 L fr hl hi hI hdf hs hd K hK=>?_) ?_
   . exact .inl ⟨(aM rfl (t:=97) rfl (show a.eval (.tmp 97)=.bool true from hI.p (14,97) (by decide) (hd 14 97 (by kernel_rfl))) rfl),af (dx rfl (show a.eval (.tmp 102)=.pointer (some ⟨xb,0,none⟩)from hI.p (19,102) (by decide) (hd 19 102 (by kernel_rfl))) (((HX8.out.below hI.below).cell 0).trans rfl)) (hK _ _ (hI.pure (i:=20) (t:=103) (by rw[hs];decide) (by rw[hl];decide) (by decide)))⟩
   refine aZ.cons (fun a w1 L fr hl hi hI hdf hs hd K hK=>?_) ?_
   . refine .inl ⟨(aM rfl (t:=97) rfl (show a.eval (.tmp 97)=.bool true from hI.p (14,97) (by decide) (hd 14 97 (by kernel_rfl))) rfl),?_⟩
     have e1:a.eval (.tmp 101)=.pointer (some ⟨P,0,none⟩):=(show a.eval (.tmp 101)=.pointer (some ⟨P,0,none⟩)from hI.p (18,101) (by decide) (hd 18 101 (by kernel_rfl)))
     have e2:a.eval (.tmp 103)=.int .i64 1:=(show a.eval (.tmp 103)=.int .i64 1 from hI.p (20,103) (by decide) (hd 20 103 (by kernel_rfl)))
     refine ek Tryz.func92 (by kernel_rfl) rfl #[.pointer (some ⟨P,0,none⟩),.int .i64 1] rfl (by simp only[List.map_toArray,List.map_cons,List.map_nil,e1,e2]) ?_
     refine(place1 (HP8.out.below hI.below) (HR8.out.below hI.below) HR7.out.2.2).mono ?_;rintro e w2 ⟨rfl,rfl⟩;exact⟨_,rfl,hK _ _ (hI.pure (i:=21) (t:=104) (by rw[hs];decide) (by rw[hl];decide) (by decide))⟩
   refine aZ.cons (fun a w1 L fr hl hi hI hdf hs hd K hK=>?_) ?_
   . exact .inl ⟨(aM rfl (t:=97) rfl (show a.eval (.tmp 97)=.bool true from hI.p (14,97) (by decide) (hd 14 97 (by kernel_rfl))) rfl),af (wu rfl (show a.eval (.tmp 100)=.int .i64 40 from hI.p (17,100) (by decide) (hd 17 100 (by kernel_rfl))) (show a.eval (.tmp 104)=.int .i64 40 from hI.p (21,104) (by decide) (hd 21 104 (by kernel_rfl)))) (hK _ _ (hI.pure (i:=22) (t:=105) (by rw[hs];decide) (by rw[hl];decide) (by decide)))⟩
   refine aZ.cons (fun a w1 L fr hl hi hI hdf hs hd K hK=>?_) ?_
   . exact .inl ⟨(bU rfl),af (iW rfl (show a.eval (.tmp 97)=.bool true from hI.p (14,97) (by decide) (hd 14 97 (by kernel_rfl))) (show a.eval (.tmp 105)=.bool true from hI.p (22,105) (by decide) (hd 22 105 (by kernel_rfl)))) (hK _ _ (hI.pure (i:=23) (t:=106) (by rw[hs];decide) (by rw[hl];decide) (by decide)))⟩
   exact aZ.nil
  case en2=>
   intro vs2 w9 L hI hall hval;have e23:vs2 23=.bool true:=(hval 23 106 (by kernel_rfl)).symm.trans (hI.p (23,106) (by decide) (hall 23 (by decide)))
   have HB9:=Y hI.below;simp only[bA,Act.put,zj,zr,ya,e23];clear hI hall hval e23;go_wp2_with fail
   go_ret
   exact⟨rfl,bp,c,cs,PS.next ⟨⟨F',x4,HG8.out,HNF.out.1,HFB8.out,HNE.out,HNF.out.2.2.2⟩,HP8.out,HR8.out,HE8.out,HR7.out.2.2,⟨HLO.out,Nat.le_trans HBW6.out.size HR7.out.1,HEP.out⟩,HBW8.out⟩ HB9.out⟩
def P52_2 (P db xb:Nat):Nat->Value
 |0=>.bool true
 |1=>.bool true
 |2=>.pointer (some ⟨xb,2,none⟩)
 |3=>.int .i64 0
 |4=>.bool true
 |5=>.bool true
 |6=>.bool true
 |7=>.pointer (some ⟨db,5,none⟩)
 |8=>.pointer (some ⟨db,7,none⟩)
 |9=>.int .u64 0
 |10=>.pointer (some ⟨xb,1,none⟩)
 |11=>.int .u64 0
 |12=>.bool true
 |13=>.bool true
 |14=>.bool true
 |15=>.pointer (some ⟨db,5,none⟩)
 |16=>.pointer (some ⟨db,6,none⟩)
 |17=>.int .i64 0
 |18=>.pointer (some ⟨P,0,none⟩)
 |19=>.pointer (some ⟨xb,0,none⟩)
 |20=>.int .i64 0
 |21=>.int .i64 0
 |22=>.bool true
 |23=>.bool true
 |_=>undef
theorem agrees2 {w0 w:World}{P g bp c ex:Nat}{cs es:List Value}(H:PS w0 P g bp c ex G1 cs es w):
 Calls Tryz.prog 52 #[.pointer (some ⟨P,0,none⟩),.agg #[.int .u8 0,.int .u8 5,.int .u8 0,.int .u8 0,.int .u8 7,.int .i64 0,.int .i64 0,.int .u64 0,.int .i64 0,.int .i64 2,.int .i64 0]] w fun e w'=>e=.returned (.bool true)/\PS w0 P g bp c ex G2 cs es w':=by
 obtain⟨F,x,h,hF,hFb,hEF,hlo⟩:=H.gl;have hE:=H.he;have hEP:=H.lo.2.2;have hP:=H.hp;have hR:=H.hb;have HC0:=Y H.c0;have HLO:=Y H.lo;have hb:=H.below;clear H;obtain⟨W1,hW1⟩:∃ W1,W1=w.alloc (.cells #[.int .u8 0,.int .u8 5,.int .u8 0,.int .u8 0,.int .u8 7,.int .i64 0,.int .i64 0,.int .u64 0,.int .i64 0,.int .i64 2,.int .i64 0] 104):=⟨_,rfl⟩;obtain⟨db,hdb⟩:∃ db,db=w.heap.size:=⟨_,rfl⟩;have hb1:Below w.heap.size w W1:=by rw[hW1];exact ae zc _
 have hd:Holds W1 db 104 [.int .u8 0,.int .u8 5,.int .u8 0,.int .u8 0,.int .u8 7,.int .i64 0,.int .i64 0,.int .u64 0,.int .i64 0,.int .i64 2,.int .i64 0]:=by rw[hW1,hdb];exact aK _ _
 have HFD:=Y (show ¬ F db from fun e=>by have:=h.lt _ e;omega)
 have HLT:=Y h.lt;have HDB:=Y hdb;have HG1:=Y (h.below hb1);have HP1:=Y (hP.below hb1);have HPD:=Y (show P≠db from fun e=>by have:=hP.lt;omega)
 have HFP:=Y hF;have HQ:=Y hlo;have HB0:=Y hb;have HB1:=Y hb1;have HD1:=Y hd;have HE1:=Y (hE.below hb1);have HEF:=Y hEF;have HEP:=Y hEP;have HR1:=Y (hR.below hb1);have HFB:=Y hFb;have y1:W1.cell? ⟨db,1,none⟩=some (.int .u8 5):=(hd.cell 1).trans rfl;have y5:W1.cell? ⟨db,5,none⟩=some (.int .i64 0):=(hd.cell 5).trans rfl;have y6:W1.cell? ⟨db,6,none⟩=some (.int .i64 0):=(hd.cell 6).trans rfl;clear h hP hF hlo hb hb1 hd hE hEF hEP hR hFb;go_enter Tryz.func52,Tryz.ntmps52;go_upto_region 1 with fail
 rw[<-hW1,<-hdb];clear hW1 hdb;go_upto_region 6 with fail
 obtain⟨w2,hw2⟩:∃ w2,w2=W1:=⟨_,rfl⟩;have HB2:aa (Below W1.heap.size W1 w2):=⟨by rw[hw2];exact zc⟩
 rw[<-hw2];rw[<-hw2]at y1 y5 y6;clear hw2;clear y1 y5 y6;have HG2:=Y (HG1.out.below HB2.out);have HP2:=Y (HP1.out.below HB2.out);have HD2:=Y (HD1.out.below HB2.out);have y0:w2.cell? ⟨P,0,none⟩=some (.pointer (some ⟨g,0,none⟩)):=(HP2.out.cell 0).trans rfl;go_upto_region 7 with(go_at_call 90;refine(vL HG2.out 1 0 rfl (by decide)).mono ?_;rintro e w3 ⟨g',x',vG,vs,rfl,hgw,hb3,hlo3⟩;have HGW:=Y hgw;have HLO3:=Y hlo3;have HB3:=Y hb3;clear hgw hb3 hlo3)
 clear y0;have HG3:=Y (HG2.out.below HB3.out);have HP3:=Y (HP2.out.below HB3.out);have HD3:=Y (HD2.out.below HB3.out);have y0:w3.cell? ⟨db,0,none⟩=some (.int .u8 0):=(HD3.out.cell 0).trans rfl;have HS:=Y (Bt (HG3.out) P 0 0 0 7 _ ⟨by decide,by decide,by decide⟩ HP3.out HFP.out)
 rw[g2_w]at HS
 go_upto_region 8 with(first
  |(go_at_call 91;refine HS.out.mono ?_;rintro r w4 ⟨rfl,hgs⟩;obtain⟨F',x4,hg1,hk1,hF1⟩:=hgs;have HG4:=Y hg1;have HK4:=Y hk1;have HF4:=Y hF1;clear hg1 hk1 hF1)
  |((with_reducible refine aW (N:=61) rfl ?_);refine bE rfl (ty:=100) rfl (g:=db) (off:=1) (seg:=[.int .u8 5,.int .u8 0,.int .u8 0,.int .u8 7]) rfl HD3.out rfl Tryz.underlying100 rfl vB ?_)
  |((with_reducible refine aW (N:=7) rfl ?_);refine gI rfl rfl vD ?_;intro xb hxb w5 hh5 hb5;have HXB:=Y hxb;have HH5:=Y hh5;have HB5:=Y hb5;clear hxb hh5 hb5)
  |((with_reducible refine bg (t:=151) (p:=7) rfl ?_);refine aG rfl (ty:=151) rfl rfl (g:=xb) (off:=0) (vs:=#[.int .i64 0,.int .u64 0,.int .i64 0]) rfl rfl HH5.out (by show 3<=3;decide) fB (by simp[Value.oneCell']) ?_;intro w6 hh6 hs6;have HX6:=Y (show Holds w6 xb 151 [.int .i64 0,.int .u64 0,.int .i64 0]from hh6);have HS6:=Y hs6;clear hh6 hs6))
 clear y0;have HP4:=Y (HK4.out.holds HP3.out HFP.out);have HD4:=Y (HK4.out.holds HD3.out HFD.out);have HP6:=Y (HS6.out.holds (HP4.out.below HB5.out) (by have:=HP4.out.lt;have:=HXB.out;omega))
 have HD6:=Y (HS6.out.holds (HD4.out.below HB5.out) (by have:=HD4.out.lt;have:=HXB.out;omega))
 have HG6:=Y (oo (HG4.out.below HB5.out) HS6.out (fun e=>by have:=HG4.out.lt _ e;have:=HXB.out;omega))
 have HSZ:=Y (show w0.heap.size<=w3.heap.size from Nat.le_trans HB0.out.size (Nat.le_trans HB1.out.size (Nat.le_trans HB2.out.size HB3.out.size)))
 have HBW6:aa (Below w0.heap.size w0 w6):=⟨by
  have k3:Below w0.heap.size w0 w3:=ag (ag (ag HB0.out HB0.out.size HB1.out) (Nat.le_trans HB0.out.size HB1.out.size) HB2.out) (Nat.le_trans (Nat.le_trans HB0.out.size HB1.out.size) HB2.out.size) HB3.out;have k4:Below w0.heap.size w0 w4:=nR k3 HK4.out HQ.out;have k5:=ag k4 k4.size HB5.out
  exact HS6.out.below k5 (by rw[HXB.out];exact k4.size)⟩
 have HE4:=Y (HK4.out.holds ((HE1.out.below HB2.out).below HB3.out) HEF.out);have HE6:=Y (HS6.out.holds (HE4.out.below HB5.out) (by have:=HE4.out.lt;have:=HXB.out;omega))
 have HNE:aa (¬ F' ex):=⟨fun e=>by
  have hE:=HE1.out.lt;have h2:=HB2.out.size;have h3:=HB3.out.size
  rcases HF4.out _ e with h|h
  . exact HEF.out h
  . omega⟩
 have HNF:aa (¬ F' P/\¬ F' db/\¬ F' xb/\(∀ q,F' q->w0.heap.size<=q)/\¬ F' bp):=⟨by
  have hP:=HP3.out.lt;have hD:=HD3.out.lt;refine⟨fun e=>?_,fun e=>?_,fun e=>?_,fun q hq=>?_,fun e=>?_⟩
  . rcases HF4.out _ e with h|h
    . exact HFP.out h
    . omega
  . rcases HF4.out _ e with h|h
    . exact HFD.out h
    . omega
  . have:=HG4.out.lt _ e;have:=HXB.out;omega
  . rcases HF4.out _ hq with h|h
    . exact HQ.out q h
    . exact Nat.le_trans HSZ.out h
  . have hR:=HR1.out.lt;have h2:=HB2.out.size;have h3:=HB3.out.size
    rcases HF4.out _ e with h|h
    . exact HFB.out h
    . omega
 ⟩
 have HR4:=Y (HK4.out.holds ((HR1.out.below HB2.out).below HB3.out) HFB.out);have HR6:=Y (HS6.out.holds (HR4.out.below HB5.out) (by have:=HR4.out.lt;have:=HXB.out;omega))
 have y2:w6.cell? ⟨xb,2,none⟩=some (.int .i64 0):=(HX6.out.cell 2).trans rfl;go_upto_region 10 with fail
 clear y2;obtain⟨w8,hw8⟩:∃ w8,w8=w6:=⟨_,rfl⟩;have HP8:=HP6;have HX8:=HX6;have HD8:=HD6;have HG8:=HG6;have HR8:=HR6;have HE8:=HE6;have HBW8:=HBW6;rw[<-hw8]at HP8 HX8 HD8 HG8 HR8 HE8 HBW8 ⊢;clear hw8;refine mE 111 (IC w8 [(0,83),(1,84),(2,85),(3,86),(4,87),(5,88),(6,89),(7,90),(8,91),(9,92),(10,93),(11,94),(12,95),(13,96),(14,97),(15,98),(16,99),(17,100),(18,101),(19,102),(20,103),(21,104),(22,105),(23,106)] (P52_2 P db xb) [] (fun _=>0)) (by kernel_rfl) (by rfl) (by kernel_rfl) ⟨bv zc,fun y hy h=>by(rw[dI]at h;cases h),fun y hy h=>(by cases hy),fun y hy z hz _ h=>(by cases hy),fun y hy h=>(by cases hy)⟩ ?st2 ?en2
 case st2=>
  refine aZ.cons (fun a w1 L fr hl hi hI hdf hs hd K hK=>?_) ?_
  . exact .inl ⟨(bU rfl),af (aC rfl ((fr 8 (by kernel_rfl)).trans rfl)) (hK _ _ (hI.pure (i:=0) (t:=83) (by rw[hs];decide) (by rw[hl];decide) (by decide)))⟩
  refine aZ.cons (fun a w1 L fr hl hi hI hdf hs hd K hK=>?_) ?_
  . exact .inl ⟨(bU rfl),af (aC rfl (show a.eval (.tmp 83)=.bool true from hI.p (0,83) (by decide) (hd 0 83 (by kernel_rfl)))) (hK _ _ (hI.pure (i:=1) (t:=84) (by rw[hs];decide) (by rw[hl];decide) (by decide)))⟩
  refine aZ.cons (fun a w1 L fr hl hi hI hdf hs hd K hK=>?_) ?_
  . exact .inl ⟨(aM rfl (t:=84) rfl (show a.eval (.tmp 84)=.bool true from hI.p (1,84) (by decide) (hd 1 84 (by kernel_rfl))) rfl),af (jb (i:=2) (by decide) rfl ((fr 7 (by kernel_rfl)).trans rfl)) (hK _ _ (hI.pure (i:=2) (t:=85) (by rw[hs];decide) (by rw[hl];decide) (by decide)))⟩
  refine aZ.cons (fun a w1 L fr hl hi hI hdf hs hd K hK=>?_) ?_
  . exact .inl ⟨(aM rfl (t:=84) rfl (show a.eval (.tmp 84)=.bool true from hI.p (1,84) (by decide) (hd 1 84 (by kernel_rfl))) rfl),af (pJ rfl (show a.eval (.tmp 85)=.pointer (some ⟨xb,2,none⟩)from hI.p (2,85) (by decide) (hd 2 85 (by kernel_rfl))) (((HX8.out.below hI.below).cell 2).trans rfl)) (hK _ _ (hI.pure (i:=3) (t:=86) (by rw[hs];decide) (by rw[hl];decide) (by decide)))⟩
  refine aZ.cons (fun a w1 L fr hl hi hI hdf hs hd K hK=>?_) ?_
  . exact .inl ⟨(aM rfl (t:=84) rfl (show a.eval (.tmp 84)=.bool true from hI.p (1,84) (by decide) (hd 1 84 (by kernel_rfl))) rfl),af (pG rfl (show a.eval (.tmp 86)=.int .i64 0 from hI.p (3,86) (by decide) (hd 3 86 (by kernel_rfl))) rfl) (hK _ _ (hI.pure (i:=4) (t:=87) (by rw[hs];decide) (by rw[hl];decide) (by decide)))⟩
  refine aZ.cons (fun a w1 L fr hl hi hI hdf hs hd K hK=>?_) ?_
  . exact .inl ⟨(bU rfl),af (iW rfl (show a.eval (.tmp 84)=.bool true from hI.p (1,84) (by decide) (hd 1 84 (by kernel_rfl))) (show a.eval (.tmp 87)=.bool true from hI.p (4,87) (by decide) (hd 4 87 (by kernel_rfl)))) (hK _ _ (hI.pure (i:=5) (t:=88) (by rw[hs];decide) (by rw[hl];decide) (by decide)))⟩
  refine aZ.cons (fun a w1 L fr hl hi hI hdf hs hd K hK=>?_) ?_
  . exact .inl ⟨(bU rfl),af (aC rfl (show a.eval (.tmp 88)=.bool true from hI.p (5,88) (by decide) (hd 5 88 (by kernel_rfl)))) (hK _ _ (hI.pure (i:=6) (t:=89) (by rw[hs];decide) (by rw[hl];decide) (by decide)))⟩
  refine aZ.cons (fun a w1 L fr hl hi hI hdf hs hd K hK=>?_) ?_
  . exact .inl ⟨(aM rfl (t:=89) rfl (show a.eval (.tmp 89)=.bool true from hI.p (6,89) (by decide) (hd 6 89 (by kernel_rfl))) rfl),af (j6 rfl ((fr 3 (by kernel_rfl)).trans rfl)) (hK _ _ (hI.pure (i:=7) (t:=90) (by rw[hs];decide) (by rw[hl];decide) (by decide)))⟩
  refine aZ.cons (fun a w1 L fr hl hi hI hdf hs hd K hK=>?_) ?_
  . exact .inl ⟨(aM rfl (t:=89) rfl (show a.eval (.tmp 89)=.bool true from hI.p (6,89) (by decide) (hd 6 89 (by kernel_rfl))) rfl),af (kD (i:=2) (by decide) rfl (show a.eval (.tmp 90)=.pointer (some ⟨db,5,none⟩)from hI.p (7,90) (by decide) (hd 7 90 (by kernel_rfl)))) (hK _ _ (hI.pure (i:=8) (t:=91) (by rw[hs];decide) (by rw[hl];decide) (by decide)))⟩
  refine aZ.cons (fun a w1 L fr hl hi hI hdf hs hd K hK=>?_) ?_
  . exact .inl ⟨(aM rfl (t:=89) rfl (show a.eval (.tmp 89)=.bool true from hI.p (6,89) (by decide) (hd 6 89 (by kernel_rfl))) rfl),af (jI rfl (show a.eval (.tmp 91)=.pointer (some ⟨db,7,none⟩)from hI.p (8,91) (by decide) (hd 8 91 (by kernel_rfl))) (((HD8.out.below hI.below).cell 7).trans rfl)) (hK _ _ (hI.pure (i:=9) (t:=92) (by rw[hs];decide) (by rw[hl];decide) (by decide)))⟩
  refine aZ.cons (fun a w1 L fr hl hi hI hdf hs hd K hK=>?_) ?_
  . exact .inl ⟨(aM rfl (t:=89) rfl (show a.eval (.tmp 89)=.bool true from hI.p (6,89) (by decide) (hd 6 89 (by kernel_rfl))) rfl),af (jb (i:=1) (by decide) rfl ((fr 7 (by kernel_rfl)).trans rfl)) (hK _ _ (hI.pure (i:=10) (t:=93) (by rw[hs];decide) (by rw[hl];decide) (by decide)))⟩
  refine aZ.cons (fun a w1 L fr hl hi hI hdf hs hd K hK=>?_) ?_
  . exact .inl ⟨(aM rfl (t:=89) rfl (show a.eval (.tmp 89)=.bool true from hI.p (6,89) (by decide) (hd 6 89 (by kernel_rfl))) rfl),af (jI rfl (show a.eval (.tmp 93)=.pointer (some ⟨xb,1,none⟩)from hI.p (10,93) (by decide) (hd 10 93 (by kernel_rfl))) (((HX8.out.below hI.below).cell 1).trans rfl)) (hK _ _ (hI.pure (i:=11) (t:=94) (by rw[hs];decide) (by rw[hl];decide) (by decide)))⟩
  refine aZ.cons (fun a w1 L fr hl hi hI hdf hs hd K hK=>?_) ?_
  . exact .inl ⟨(aM rfl (t:=89) rfl (show a.eval (.tmp 89)=.bool true from hI.p (6,89) (by decide) (hd 6 89 (by kernel_rfl))) rfl),af (pI rfl (show a.eval (.tmp 92)=.int .u64 0 from hI.p (9,92) (by decide) (hd 9 92 (by kernel_rfl))) (show a.eval (.tmp 94)=.int .u64 0 from hI.p (11,94) (by decide) (hd 11 94 (by kernel_rfl)))) (hK _ _ (hI.pure (i:=12) (t:=95) (by rw[hs];decide) (by rw[hl];decide) (by decide)))⟩
  refine aZ.cons (fun a w1 L fr hl hi hI hdf hs hd K hK=>?_) ?_
  . exact .inl ⟨(bU rfl),af (iW rfl (show a.eval (.tmp 89)=.bool true from hI.p (6,89) (by decide) (hd 6 89 (by kernel_rfl))) (show a.eval (.tmp 95)=.bool true from hI.p (12,95) (by decide) (hd 12 95 (by kernel_rfl)))) (hK _ _ (hI.pure (i:=13) (t:=96) (by rw[hs];decide) (by rw[hl];decide) (by decide)))⟩
  refine aZ.cons (fun a w1 L fr hl hi hI hdf hs hd K hK=>?_) ?_
  . exact .inl ⟨(bU rfl),af (aC rfl (show a.eval (.tmp 96)=.bool true from hI.p (13,96) (by decide) (hd 13 96 (by kernel_rfl)))) (hK _ _ (hI.pure (i:=14) (t:=97) (by rw[hs];decide) (by rw[hl];decide) (by decide)))⟩
  refine aZ.cons (fun a w1 L fr hl hi hI hdf hs hd K hK=>?_) ?_
  . exact .inl ⟨(aM rfl (t:=97) rfl (show a.eval (.tmp 97)=.bool true from hI.p (14,97) (by decide) (hd 14 97 (by kernel_rfl))) rfl),af (j6 rfl ((fr 3 (by kernel_rfl)).trans rfl)) (hK _ _ (hI.pure (i:=15) (t:=98) (by rw[hs];decide) (by rw[hl];decide) (by decide)))⟩
  refine aZ.cons (fun a w1 L fr hl hi hI hdf hs hd K hK=>?_) ?_
  . exact .inl ⟨(aM rfl (t:=97) rfl (show a.eval (.tmp 97)=.bool true from hI.p (14,97) (by decide) (hd 14 97 (by kernel_rfl))) rfl),af (kD (i:=1) (by decide) rfl (show a.eval (.tmp 98)=.pointer (some ⟨db,5,none⟩)from hI.p (15,98) (by decide) (hd 15 98 (by kernel_rfl)))) (hK _ _ (hI.pure (i:=16) (t:=99) (by rw[hs];decide) (by rw[hl];decide) (by decide)))⟩
  refine aZ.cons (fun a w1 L fr hl hi hI hdf hs hd K hK=>?_) ?_
  . exact .inl ⟨(aM rfl (t:=97) rfl (show a.eval (.tmp 97)=.bool true from hI.p (14,97) (by decide) (hd 14 97 (by kernel_rfl))) rfl),af (dx rfl (show a.eval (.tmp 99)=.pointer (some ⟨db,6,none⟩)from hI.p (16,99) (by decide) (hd 16 99 (by kernel_rfl))) (((HD8.out.below hI.below).cell 6).trans rfl)) (hK _ _ (hI.pure (i:=17) (t:=100) (by rw[hs];decide) (by rw[hl];decide) (by decide)))⟩
  refine aZ.cons (fun a w1 L fr hl hi hI hdf hs hd K hK=>?_) ?_
  . exact .inl ⟨(aM rfl (t:=97) rfl (show a.eval (.tmp 97)=.bool true from hI.p (14,97) (by decide) (hd 14 97 (by kernel_rfl))) rfl),af (aC rfl ((fr 0 (by kernel_rfl)).trans rfl)) (hK _ _ (hI.pure (i:=18) (t:=101) (by rw[hs];decide) (by rw[hl];decide) (by decide)))⟩
  refine aZ.cons (fun a w1 L fr hl hi hI hdf hs hd K hK=>?_) ?_
  . exact .inl ⟨(aM rfl (t:=97) rfl (show a.eval (.tmp 97)=.bool true from hI.p (14,97) (by decide) (hd 14 97 (by kernel_rfl))) rfl),af (jb (i:=0) (by decide) rfl ((fr 7 (by kernel_rfl)).trans rfl)) (hK _ _ (hI.pure (i:=19) (t:=102) (by rw[hs];decide) (by rw[hl];decide) (by decide)))⟩
  refine aZ.cons (fun a w1 L fr hl hi hI hdf hs hd K hK=>?_) ?_
  . exact .inl ⟨(aM rfl (t:=97) rfl (show a.eval (.tmp 97)=.bool true from hI.p (14,97) (by decide) (hd 14 97 (by kernel_rfl))) rfl),af (dx rfl (show a.eval (.tmp 102)=.pointer (some ⟨xb,0,none⟩)from hI.p (19,102) (by decide) (hd 19 102 (by kernel_rfl))) (((HX8.out.below hI.below).cell 0).trans rfl)) (hK _ _ (hI.pure (i:=20) (t:=103) (by rw[hs];decide) (by rw[hl];decide) (by decide)))⟩
  refine aZ.cons (fun a w1 L fr hl hi hI hdf hs hd K hK=>?_) ?_
  . refine .inl ⟨(aM rfl (t:=97) rfl (show a.eval (.tmp 97)=.bool true from hI.p (14,97) (by decide) (hd 14 97 (by kernel_rfl))) rfl),?_⟩
    have e1:a.eval (.tmp 101)=.pointer (some ⟨P,0,none⟩):=(show a.eval (.tmp 101)=.pointer (some ⟨P,0,none⟩)from hI.p (18,101) (by decide) (hd 18 101 (by kernel_rfl)))
    have e2:a.eval (.tmp 103)=.int .i64 0:=(show a.eval (.tmp 103)=.int .i64 0 from hI.p (20,103) (by decide) (hd 20 103 (by kernel_rfl)))
    refine ek Tryz.func92 (by kernel_rfl) rfl #[.pointer (some ⟨P,0,none⟩),.int .i64 0] rfl (by simp only[List.map_toArray,List.map_cons,List.map_nil,e1,e2]) ?_
    refine(place0 (HP8.out.below hI.below)).mono ?_;rintro e w2 ⟨rfl,rfl⟩;exact⟨_,rfl,hK _ _ (hI.pure (i:=21) (t:=104) (by rw[hs];decide) (by rw[hl];decide) (by decide))⟩
  refine aZ.cons (fun a w1 L fr hl hi hI hdf hs hd K hK=>?_) ?_
  . exact .inl ⟨(aM rfl (t:=97) rfl (show a.eval (.tmp 97)=.bool true from hI.p (14,97) (by decide) (hd 14 97 (by kernel_rfl))) rfl),af (wu rfl (show a.eval (.tmp 100)=.int .i64 0 from hI.p (17,100) (by decide) (hd 17 100 (by kernel_rfl))) (show a.eval (.tmp 104)=.int .i64 0 from hI.p (21,104) (by decide) (hd 21 104 (by kernel_rfl)))) (hK _ _ (hI.pure (i:=22) (t:=105) (by rw[hs];decide) (by rw[hl];decide) (by decide)))⟩
  refine aZ.cons (fun a w1 L fr hl hi hI hdf hs hd K hK=>?_) ?_
  . exact .inl ⟨(bU rfl),af (iW rfl (show a.eval (.tmp 97)=.bool true from hI.p (14,97) (by decide) (hd 14 97 (by kernel_rfl))) (show a.eval (.tmp 105)=.bool true from hI.p (22,105) (by decide) (hd 22 105 (by kernel_rfl)))) (hK _ _ (hI.pure (i:=23) (t:=106) (by rw[hs];decide) (by rw[hl];decide) (by decide)))⟩
  exact aZ.nil
 case en2=>
  intro vs2 w9 L hI hall hval;have e23:vs2 23=.bool true:=(hval 23 106 (by kernel_rfl)).symm.trans (hI.p (23,106) (by decide) (hall 23 (by decide)))
  have HB9:=Y hI.below;simp only[bA,Act.put,zj,zr,ya,e23];clear hI hall hval e23;go_wp2_with fail
  go_ret
  exact⟨rfl,PS.next ⟨⟨F',x4,HG8.out,HNF.out.1,HNF.out.2.2.2.2,HNE.out,HNF.out.2.2.2.1⟩,HP8.out,HR8.out,HE8.out,HC0.out,HLO.out,HBW8.out⟩ HB9.out⟩
def P52_3 (P db xb:Nat):Nat->Value
 |0=>.bool true
 |1=>.bool true
 |2=>.pointer (some ⟨xb,2,none⟩)
 |3=>.int .i64 0
 |4=>.bool true
 |5=>.bool true
 |6=>.bool true
 |7=>.pointer (some ⟨db,5,none⟩)
 |8=>.pointer (some ⟨db,7,none⟩)
 |9=>.int .u64 8
 |10=>.pointer (some ⟨xb,1,none⟩)
 |11=>.int .u64 7
 |12=>.bool false
 |13=>.bool false
 |14=>.bool false
 |15=>undef
 |16=>undef
 |17=>undef
 |18=>undef
 |19=>undef
 |20=>undef
 |21=>undef
 |22=>undef
 |23=>.bool false
 |_=>undef
theorem agrees3 {w0 w:World}{P g bp c ex:Nat}{cs es:List Value}(H:PS w0 P g bp c ex G2 cs es w):
 Calls Tryz.prog 52 #[.pointer (some ⟨P,0,none⟩),.agg #[.int .u8 0,.int .u8 4,.int .u8 0,.int .u8 0,.int .u8 0,.int .i64 0,.int .i64 0,.int .u64 8,.int .i64 0,.int .i64 3,.int .i64 0]] w fun e w'=>e=.returned (.bool false)/\∃ g' x' vG vs vP,Holds w' P 108 [.pointer (some ⟨g',0,none⟩),vP]/\GW w' g' x' G2 vG vs/\Below w0.heap.size w0 w':=by
 obtain⟨F,x,h,hF,hFb,hEF,hlo⟩:=H.gl;have hE:=H.he;have hEP:=H.lo.2.2;have hP:=H.hp;have hR:=H.hb;have HC0:=Y H.c0;have HLO:=Y H.lo;have hb:=H.below;clear H;obtain⟨W1,hW1⟩:∃ W1,W1=w.alloc (.cells #[.int .u8 0,.int .u8 4,.int .u8 0,.int .u8 0,.int .u8 0,.int .i64 0,.int .i64 0,.int .u64 8,.int .i64 0,.int .i64 3,.int .i64 0] 104):=⟨_,rfl⟩;obtain⟨db,hdb⟩:∃ db,db=w.heap.size:=⟨_,rfl⟩;have hb1:Below w.heap.size w W1:=by rw[hW1];exact ae zc _
 have hd:Holds W1 db 104 [.int .u8 0,.int .u8 4,.int .u8 0,.int .u8 0,.int .u8 0,.int .i64 0,.int .i64 0,.int .u64 8,.int .i64 0,.int .i64 3,.int .i64 0]:=by rw[hW1,hdb];exact aK _ _
 have HFD:=Y (show ¬ F db from fun e=>by have:=h.lt _ e;omega)
 have HLT:=Y h.lt;have HDB:=Y hdb;have HG1:=Y (h.below hb1);have HP1:=Y (hP.below hb1);have HPD:=Y (show P≠db from fun e=>by have:=hP.lt;omega)
 have HFP:=Y hF;have HQ:=Y hlo;have HB0:=Y hb;have HB1:=Y hb1;have HD1:=Y hd;have HE1:=Y (hE.below hb1);have HEF:=Y hEF;have HEP:=Y hEP;have HR1:=Y (hR.below hb1);have HFB:=Y hFb;have y1:W1.cell? ⟨db,1,none⟩=some (.int .u8 4):=(hd.cell 1).trans rfl;have y5:W1.cell? ⟨db,5,none⟩=some (.int .i64 0):=(hd.cell 5).trans rfl;have y6:W1.cell? ⟨db,6,none⟩=some (.int .i64 0):=(hd.cell 6).trans rfl;clear h hP hF hlo hb hb1 hd hE hEF hEP hR hFb;go_enter Tryz.func52,Tryz.ntmps52;go_upto_region 1 with fail
 rw[<-hW1,<-hdb];clear hW1 hdb;go_upto_region 6 with fail
 obtain⟨w2,hw2⟩:∃ w2,w2=W1:=⟨_,rfl⟩;have HB2:aa (Below W1.heap.size W1 w2):=⟨by rw[hw2];exact zc⟩
 rw[<-hw2];rw[<-hw2]at y1 y5 y6;clear hw2;clear y1 y5 y6;have HG2:=Y (HG1.out.below HB2.out);have HP2:=Y (HP1.out.below HB2.out);have HD2:=Y (HD1.out.below HB2.out);have y0:w2.cell? ⟨P,0,none⟩=some (.pointer (some ⟨g,0,none⟩)):=(HP2.out.cell 0).trans rfl;go_upto_region 7 with(go_at_call 90;refine(vL HG2.out 1 0 rfl (by decide)).mono ?_;rintro e w3 ⟨g',x',vG,vs,rfl,hgw,hb3,hlo3⟩;have HGW:=Y hgw;have HLO3:=Y hlo3;have HB3:=Y hb3;clear hgw hb3 hlo3)
 clear y0;have HG3:=Y (HG2.out.below HB3.out);have HP3:=Y (HP2.out.below HB3.out);have HD3:=Y (HD2.out.below HB3.out);have y0:w3.cell? ⟨db,0,none⟩=some (.int .u8 0):=(HD3.out.cell 0).trans rfl;have HS:=Y (BV (HG3.out) P 0 0 0 0 _ ⟨by decide,by decide,by decide⟩ HP3.out HFP.out)
 rw[g3_w]at HS
 go_upto_region 8 with(first
  |(go_at_call 91;refine HS.out.mono ?_;rintro r w4 ⟨rfl,hgs⟩;obtain⟨F',x4,hg1,hk1,hF1⟩:=hgs;have HG4:=Y hg1;have HK4:=Y hk1;have HF4:=Y hF1;clear hg1 hk1 hF1)
  |((with_reducible refine aW (N:=61) rfl ?_);refine bE rfl (ty:=100) rfl (g:=db) (off:=1) (seg:=[.int .u8 4,.int .u8 0,.int .u8 0,.int .u8 0]) rfl HD3.out rfl Tryz.underlying100 rfl vB ?_)
  |((with_reducible refine aW (N:=7) rfl ?_);refine gI rfl rfl vD ?_;intro xb hxb w5 hh5 hb5;have HXB:=Y hxb;have HH5:=Y hh5;have HB5:=Y hb5;clear hxb hh5 hb5)
  |((with_reducible refine bg (t:=151) (p:=7) rfl ?_);refine aG rfl (ty:=151) rfl rfl (g:=xb) (off:=0) (vs:=#[.int .i64 0,.int .u64 7,.int .i64 0]) rfl rfl HH5.out (by show 3<=3;decide) fB (by simp[Value.oneCell']) ?_;intro w6 hh6 hs6;have HX6:=Y (show Holds w6 xb 151 [.int .i64 0,.int .u64 7,.int .i64 0]from hh6);have HS6:=Y hs6;clear hh6 hs6))
 clear y0;have HP4:=Y (HK4.out.holds HP3.out HFP.out);have HD4:=Y (HK4.out.holds HD3.out HFD.out);have HP6:=Y (HS6.out.holds (HP4.out.below HB5.out) (by have:=HP4.out.lt;have:=HXB.out;omega))
 have HD6:=Y (HS6.out.holds (HD4.out.below HB5.out) (by have:=HD4.out.lt;have:=HXB.out;omega))
 have HG6:=Y (oo (HG4.out.below HB5.out) HS6.out (fun e=>by have:=HG4.out.lt _ e;have:=HXB.out;omega))
 have HSZ:=Y (show w0.heap.size<=w3.heap.size from Nat.le_trans HB0.out.size (Nat.le_trans HB1.out.size (Nat.le_trans HB2.out.size HB3.out.size)))
 have HBW6:aa (Below w0.heap.size w0 w6):=⟨by
  have k3:Below w0.heap.size w0 w3:=ag (ag (ag HB0.out HB0.out.size HB1.out) (Nat.le_trans HB0.out.size HB1.out.size) HB2.out) (Nat.le_trans (Nat.le_trans HB0.out.size HB1.out.size) HB2.out.size) HB3.out;have k4:Below w0.heap.size w0 w4:=nR k3 HK4.out HQ.out;have k5:=ag k4 k4.size HB5.out
  exact HS6.out.below k5 (by rw[HXB.out];exact k4.size)⟩
 have HE4:=Y (HK4.out.holds ((HE1.out.below HB2.out).below HB3.out) HEF.out);have HE6:=Y (HS6.out.holds (HE4.out.below HB5.out) (by have:=HE4.out.lt;have:=HXB.out;omega))
 have HNE:aa (¬ F' ex):=⟨fun e=>by
  have hE:=HE1.out.lt;have h2:=HB2.out.size;have h3:=HB3.out.size
  rcases HF4.out _ e with h|h
  . exact HEF.out h
  . omega⟩
 have HNF:aa (¬ F' P/\¬ F' db/\¬ F' xb/\(∀ q,F' q->w0.heap.size<=q)/\¬ F' bp):=⟨by
  have hP:=HP3.out.lt;have hD:=HD3.out.lt;refine⟨fun e=>?_,fun e=>?_,fun e=>?_,fun q hq=>?_,fun e=>?_⟩
  . rcases HF4.out _ e with h|h
    . exact HFP.out h
    . omega
  . rcases HF4.out _ e with h|h
    . exact HFD.out h
    . omega
  . have:=HG4.out.lt _ e;have:=HXB.out;omega
  . rcases HF4.out _ hq with h|h
    . exact HQ.out q h
    . exact Nat.le_trans HSZ.out h
  . have hR:=HR1.out.lt;have h2:=HB2.out.size;have h3:=HB3.out.size
    rcases HF4.out _ e with h|h
    . exact HFB.out h
    . omega
 ⟩
 have HR4:=Y (HK4.out.holds ((HR1.out.below HB2.out).below HB3.out) HFB.out);have HR6:=Y (HS6.out.holds (HR4.out.below HB5.out) (by have:=HR4.out.lt;have:=HXB.out;omega))
 have y2:w6.cell? ⟨xb,2,none⟩=some (.int .i64 0):=(HX6.out.cell 2).trans rfl;go_upto_region 10 with fail
 clear y2;obtain⟨w8,hw8⟩:∃ w8,w8=w6:=⟨_,rfl⟩;have HP8:=HP6;have HX8:=HX6;have HD8:=HD6;have HG8:=HG6;have HR8:=HR6;have HE8:=HE6;have HBW8:=HBW6
 have HGW8:aa (GW w6 g' x' G2 vG vs):=⟨by
  refine(HGW.out.kept HLO3.out ⟨HK4.out.size,fun q hq hlt=>HK4.out.block q hlt (fun e=>?_)⟩).kept HLO3.out ⟨Nat.le_trans HB5.out.size (Nat.le_of_eq HS6.out.size.symm),fun q hq hlt=>(HS6.out.block q (by have:=HXB.out;omega)).trans (HB5.out.block q hlt)⟩
  have:=HLT.out q e;have:=HB1.out.size;have:=HB2.out.size
  omega⟩
 rw[<-hw8]at HP8 HX8 HD8 HG8 HR8 HBW8 HGW8 ⊢;clear hw8;refine mE 111 (IC w8 [(0,83),(1,84),(2,85),(3,86),(4,87),(5,88),(6,89),(7,90),(8,91),(9,92),(10,93),(11,94),(12,95),(13,96),(14,97),(15,98),(16,99),(17,100),(18,101),(19,102),(20,103),(21,104),(22,105),(23,106)] (P52_3 P db xb) [] (fun _=>0)) (by kernel_rfl) (by rfl) (by kernel_rfl) ⟨bv zc,fun y hy h=>by(rw[dI]at h;cases h),fun y hy h=>(by cases hy),fun y hy z hz _ h=>(by cases hy),fun y hy h=>(by cases hy)⟩ ?st2 ?en2
 case st2=>
  refine aZ.cons (fun a w1 L fr hl hi hI hdf hs hd K hK=>?_) ?_
  . exact .inl ⟨(bU rfl),af (aC rfl ((fr 8 (by kernel_rfl)).trans rfl)) (hK _ _ (hI.pure (i:=0) (t:=83) (by rw[hs];decide) (by rw[hl];decide) (by decide)))⟩
  refine aZ.cons (fun a w1 L fr hl hi hI hdf hs hd K hK=>?_) ?_
  . exact .inl ⟨(bU rfl),af (aC rfl (show a.eval (.tmp 83)=.bool true from hI.p (0,83) (by decide) (hd 0 83 (by kernel_rfl)))) (hK _ _ (hI.pure (i:=1) (t:=84) (by rw[hs];decide) (by rw[hl];decide) (by decide)))⟩
  refine aZ.cons (fun a w1 L fr hl hi hI hdf hs hd K hK=>?_) ?_
  . exact .inl ⟨(aM rfl (t:=84) rfl (show a.eval (.tmp 84)=.bool true from hI.p (1,84) (by decide) (hd 1 84 (by kernel_rfl))) rfl),af (jb (i:=2) (by decide) rfl ((fr 7 (by kernel_rfl)).trans rfl)) (hK _ _ (hI.pure (i:=2) (t:=85) (by rw[hs];decide) (by rw[hl];decide) (by decide)))⟩
  refine aZ.cons (fun a w1 L fr hl hi hI hdf hs hd K hK=>?_) ?_
  . exact .inl ⟨(aM rfl (t:=84) rfl (show a.eval (.tmp 84)=.bool true from hI.p (1,84) (by decide) (hd 1 84 (by kernel_rfl))) rfl),af (pJ rfl (show a.eval (.tmp 85)=.pointer (some ⟨xb,2,none⟩)from hI.p (2,85) (by decide) (hd 2 85 (by kernel_rfl))) (((HX8.out.below hI.below).cell 2).trans rfl)) (hK _ _ (hI.pure (i:=3) (t:=86) (by rw[hs];decide) (by rw[hl];decide) (by decide)))⟩
  refine aZ.cons (fun a w1 L fr hl hi hI hdf hs hd K hK=>?_) ?_
  . exact .inl ⟨(aM rfl (t:=84) rfl (show a.eval (.tmp 84)=.bool true from hI.p (1,84) (by decide) (hd 1 84 (by kernel_rfl))) rfl),af (pG rfl (show a.eval (.tmp 86)=.int .i64 0 from hI.p (3,86) (by decide) (hd 3 86 (by kernel_rfl))) rfl) (hK _ _ (hI.pure (i:=4) (t:=87) (by rw[hs];decide) (by rw[hl];decide) (by decide)))⟩
  refine aZ.cons (fun a w1 L fr hl hi hI hdf hs hd K hK=>?_) ?_
  . exact .inl ⟨(bU rfl),af (iW rfl (show a.eval (.tmp 84)=.bool true from hI.p (1,84) (by decide) (hd 1 84 (by kernel_rfl))) (show a.eval (.tmp 87)=.bool true from hI.p (4,87) (by decide) (hd 4 87 (by kernel_rfl)))) (hK _ _ (hI.pure (i:=5) (t:=88) (by rw[hs];decide) (by rw[hl];decide) (by decide)))⟩
  refine aZ.cons (fun a w1 L fr hl hi hI hdf hs hd K hK=>?_) ?_
  . exact .inl ⟨(bU rfl),af (aC rfl (show a.eval (.tmp 88)=.bool true from hI.p (5,88) (by decide) (hd 5 88 (by kernel_rfl)))) (hK _ _ (hI.pure (i:=6) (t:=89) (by rw[hs];decide) (by rw[hl];decide) (by decide)))⟩
  refine aZ.cons (fun a w1 L fr hl hi hI hdf hs hd K hK=>?_) ?_
  . exact .inl ⟨(aM rfl (t:=89) rfl (show a.eval (.tmp 89)=.bool true from hI.p (6,89) (by decide) (hd 6 89 (by kernel_rfl))) rfl),af (j6 rfl ((fr 3 (by kernel_rfl)).trans rfl)) (hK _ _ (hI.pure (i:=7) (t:=90) (by rw[hs];decide) (by rw[hl];decide) (by decide)))⟩
  refine aZ.cons (fun a w1 L fr hl hi hI hdf hs hd K hK=>?_) ?_
  . exact .inl ⟨(aM rfl (t:=89) rfl (show a.eval (.tmp 89)=.bool true from hI.p (6,89) (by decide) (hd 6 89 (by kernel_rfl))) rfl),af (kD (i:=2) (by decide) rfl (show a.eval (.tmp 90)=.pointer (some ⟨db,5,none⟩)from hI.p (7,90) (by decide) (hd 7 90 (by kernel_rfl)))) (hK _ _ (hI.pure (i:=8) (t:=91) (by rw[hs];decide) (by rw[hl];decide) (by decide)))⟩
  refine aZ.cons (fun a w1 L fr hl hi hI hdf hs hd K hK=>?_) ?_
  . exact .inl ⟨(aM rfl (t:=89) rfl (show a.eval (.tmp 89)=.bool true from hI.p (6,89) (by decide) (hd 6 89 (by kernel_rfl))) rfl),af (jI rfl (show a.eval (.tmp 91)=.pointer (some ⟨db,7,none⟩)from hI.p (8,91) (by decide) (hd 8 91 (by kernel_rfl))) (((HD8.out.below hI.below).cell 7).trans rfl)) (hK _ _ (hI.pure (i:=9) (t:=92) (by rw[hs];decide) (by rw[hl];decide) (by decide)))⟩
  refine aZ.cons (fun a w1 L fr hl hi hI hdf hs hd K hK=>?_) ?_
  . exact .inl ⟨(aM rfl (t:=89) rfl (show a.eval (.tmp 89)=.bool true from hI.p (6,89) (by decide) (hd 6 89 (by kernel_rfl))) rfl),af (jb (i:=1) (by decide) rfl ((fr 7 (by kernel_rfl)).trans rfl)) (hK _ _ (hI.pure (i:=10) (t:=93) (by rw[hs];decide) (by rw[hl];decide) (by decide)))⟩
  refine aZ.cons (fun a w1 L fr hl hi hI hdf hs hd K hK=>?_) ?_
  . exact .inl ⟨(aM rfl (t:=89) rfl (show a.eval (.tmp 89)=.bool true from hI.p (6,89) (by decide) (hd 6 89 (by kernel_rfl))) rfl),af (jI rfl (show a.eval (.tmp 93)=.pointer (some ⟨xb,1,none⟩)from hI.p (10,93) (by decide) (hd 10 93 (by kernel_rfl))) (((HX8.out.below hI.below).cell 1).trans rfl)) (hK _ _ (hI.pure (i:=11) (t:=94) (by rw[hs];decide) (by rw[hl];decide) (by decide)))⟩
  refine aZ.cons (fun a w1 L fr hl hi hI hdf hs hd K hK=>?_) ?_
  . exact .inl ⟨(aM rfl (t:=89) rfl (show a.eval (.tmp 89)=.bool true from hI.p (6,89) (by decide) (hd 6 89 (by kernel_rfl))) rfl),af (pI rfl (show a.eval (.tmp 92)=.int .u64 8 from hI.p (9,92) (by decide) (hd 9 92 (by kernel_rfl))) (show a.eval (.tmp 94)=.int .u64 7 from hI.p (11,94) (by decide) (hd 11 94 (by kernel_rfl)))) (hK _ _ (hI.pure (i:=12) (t:=95) (by rw[hs];decide) (by rw[hl];decide) (by decide)))⟩
  refine aZ.cons (fun a w1 L fr hl hi hI hdf hs hd K hK=>?_) ?_
  . exact .inl ⟨(bU rfl),af (iW rfl (show a.eval (.tmp 89)=.bool true from hI.p (6,89) (by decide) (hd 6 89 (by kernel_rfl))) (show a.eval (.tmp 95)=.bool false from hI.p (12,95) (by decide) (hd 12 95 (by kernel_rfl)))) (hK _ _ (hI.pure (i:=13) (t:=96) (by rw[hs];decide) (by rw[hl];decide) (by decide)))⟩
  refine aZ.cons (fun a w1 L fr hl hi hI hdf hs hd K hK=>?_) ?_
  . exact .inl ⟨(bU rfl),af (aC rfl (show a.eval (.tmp 96)=.bool false from hI.p (13,96) (by decide) (hd 13 96 (by kernel_rfl)))) (hK _ _ (hI.pure (i:=14) (t:=97) (by rw[hs];decide) (by rw[hl];decide) (by decide)))⟩
  refine aZ.cons (fun a w1 L fr hl hi hI hdf hs hd K hK=>?_) ?_
  . exact .inr ⟨(aM rfl (t:=97) rfl (show a.eval (.tmp 97)=.bool false from hI.p (14,97) (by decide) (hd 14 97 (by kernel_rfl))) rfl),hK undef _ (hI.pure (i:=15) (t:=98) (by rw[hs];decide) (by rw[hl];decide) (by decide))⟩
  refine aZ.cons (fun a w1 L fr hl hi hI hdf hs hd K hK=>?_) ?_
  . exact .inr ⟨(aM rfl (t:=97) rfl (show a.eval (.tmp 97)=.bool false from hI.p (14,97) (by decide) (hd 14 97 (by kernel_rfl))) rfl),hK undef _ (hI.pure (i:=16) (t:=99) (by rw[hs];decide) (by rw[hl];decide) (by decide))⟩
  refine aZ.cons (fun a w1 L fr hl hi hI hdf hs hd K hK=>?_) ?_
  . exact .inr ⟨(aM rfl (t:=97) rfl (show a.eval (.tmp 97)=.bool false from hI.p (14,97) (by decide) (hd 14 97 (by kernel_rfl))) rfl),hK undef _ (hI.pure (i:=17) (t:=100) (by rw[hs];decide) (by rw[hl];decide) (by decide))⟩
  refine aZ.cons (fun a w1 L fr hl hi hI hdf hs hd K hK=>?_) ?_
  . exact .inr ⟨(aM rfl (t:=97) rfl (show a.eval (.tmp 97)=.bool false from hI.p (14,97) (by decide) (hd 14 97 (by kernel_rfl))) rfl),hK undef _ (hI.pure (i:=18) (t:=101) (by rw[hs];decide) (by rw[hl];decide) (by decide))⟩
  refine aZ.cons (fun a w1 L fr hl hi hI hdf hs hd K hK=>?_) ?_
  . exact .inr ⟨(aM rfl (t:=97) rfl (show a.eval (.tmp 97)=.bool false from hI.p (14,97) (by decide) (hd 14 97 (by kernel_rfl))) rfl),hK undef _ (hI.pure (i:=19) (t:=102) (by rw[hs];decide) (by rw[hl];decide) (by decide))⟩
  refine aZ.cons (fun a w1 L fr hl hi hI hdf hs hd K hK=>?_) ?_
  . exact .inr ⟨(aM rfl (t:=97) rfl (show a.eval (.tmp 97)=.bool false from hI.p (14,97) (by decide) (hd 14 97 (by kernel_rfl))) rfl),hK undef _ (hI.pure (i:=20) (t:=103) (by rw[hs];decide) (by rw[hl];decide) (by decide))⟩
  refine aZ.cons (fun a w1 L fr hl hi hI hdf hs hd K hK=>?_) ?_
  . exact .inr ⟨(aM rfl (t:=97) rfl (show a.eval (.tmp 97)=.bool false from hI.p (14,97) (by decide) (hd 14 97 (by kernel_rfl))) rfl),hK undef _ (hI.pure (i:=21) (t:=104) (by rw[hs];decide) (by rw[hl];decide) (by decide))⟩
  refine aZ.cons (fun a w1 L fr hl hi hI hdf hs hd K hK=>?_) ?_
  . exact .inr ⟨(aM rfl (t:=97) rfl (show a.eval (.tmp 97)=.bool false from hI.p (14,97) (by decide) (hd 14 97 (by kernel_rfl))) rfl),hK undef _ (hI.pure (i:=22) (t:=105) (by rw[hs];decide) (by rw[hl];decide) (by decide))⟩
  refine aZ.cons (fun a w1 L fr hl hi hI hdf hs hd K hK=>?_) ?_
  . exact .inl ⟨(bU rfl),af (BI rfl (show a.eval (.tmp 97)=.bool false from hI.p (14,97) (by decide) (hd 14 97 (by kernel_rfl))) rfl) (hK _ _ (hI.pure (i:=23) (t:=106) (by rw[hs];decide) (by rw[hl];decide) (by decide)))⟩
  exact aZ.nil
 case en2=>
  intro vs2 w9 L hI hall hval;have e23:vs2 23=.bool false:=(hval 23 106 (by kernel_rfl)).symm.trans (hI.p (23,106) (by decide) (hall 23 (by decide)))
  have HB9:=Y hI.below;simp only[bA,Act.put,zj,zr,ya,e23];clear hI hall hval e23;have HP9:=Y (HP8.out.below HB9.out);have y2:w9.cell? ⟨P,0,none⟩=some (.pointer (some ⟨g,0,none⟩)):=(HP9.out.cell 0).trans rfl;have y3:=ak HP9.out 0;go_wp2_with fail
  go_ret
  have hs9:=bu w9 P 0 (.pointer (some ⟨g',0,none⟩));refine⟨rfl,g',x',vG,vs,_,bB HP9.out (k:=0) (by show 0<2;decide) _,((HGW8.out.below HB9.out).kept HLO3.out ⟨Nat.le_of_eq hs9.size.symm,fun q hq hlt=>hs9.block q (fun e=>?_)⟩),hs9.below (ag HBW8.out HBW8.out.size HB9.out) HLO.out.1⟩
  have:=HP2.out.lt;omega
end
section
theorem ui (w:World):∃ ge W,ge=w.heap.size/\W=w.alloc (.cells #[.int .i64 0] 26)/\Holds W ge 26 [.int .i64 0]/\Below w.heap.size w W/\w.heap.size<=ge:=
 ⟨_,_,rfl,rfl,bN rfl,ae zc _,Nat.le_refl _⟩
theorem n66 (w:World):Calls Tryz.prog 66 #[.pointer none,.int .i64 0] w fun e w'=>e=.panicked (iQ 1)/\w'=w:=by
 have r2:∀ b,b=false->Calls Tryz.prog 61 #[.bool b,.int .i64 1] w fun x w'=>x=.panicked (iQ 1)/\w'=w:=fun b hb=>hb▸jq 1 w
 go_enter Tryz.func66,Tryz.ntmps66;go_wp2_with (go_at_call 61;refine(r2 _ rfl).mono ?_;rintro e w2 ⟨rfl,rfl⟩);exact⟨rfl,rfl,rfl⟩
theorem n43 (w:World):Calls Tryz.prog 43 #[.pointer none,.int .i64 0] w fun e w'=>(∃ v1 v2,e=.returned (.tuple #[v1,v2,.int .i64 1]))/\Below w.heap.size w w':=by
 obtain⟨ge,W1,hge,hW,h3,hb,hle⟩:=ui w;have H3:=Y h3;have HB:=Y hb;have HL:=Y hle;have HA:=Y (n66 W1);clear h3 hb hle
 go_enter_defers Tryz.func43,Tryz.ntmps43
 go_upto_region 2 with(fail)
 rw[<-hW,<-hge];clear hW hge;go_wp2_with (go_at_call 66;refine HA.out.mono ?_;rintro e w2 ⟨rfl,hw2⟩;subst w2);exact jD rfl H3.out (fun W'=>ma (t1:=4) (t2:=5) (u:=6) rfl rfl rfl rfl W') (fun W' hs=>⟨⟨_,_,rfl⟩,hs.below HB.out HL.out⟩)
theorem n45 (w:World):Calls Tryz.prog 45 #[.pointer none,.int .i64 1] w fun e w'=>(∃ v1 v2,e=.returned (.tuple #[v1,v2,.int .i64 1]))/\Below w.heap.size w w':=by
 obtain⟨ge,W1,hge,hW,h3,hb,hle⟩:=ui w;have H3:=Y h3;have HB:=Y hb;have HL:=Y hle;have r2:∀ b,b=false->Calls Tryz.prog 61 #[.bool b,.int .i64 1] W1 fun x w'=>x=.panicked (iQ 1)/\w'=W1:=fun b hb=>hb▸jq 1 W1
 clear h3 hb hle
 go_enter_defers Tryz.func45,Tryz.ntmps45
 go_upto_region 2 with(fail)
 rw[<-hW,<-hge];clear hW hge;go_wp2_with (go_at_call 61;refine(r2 _ rfl).mono ?_;rintro e w2 ⟨rfl,hw2⟩;subst w2);exact jD rfl H3.out (fun W'=>ma (t1:=4) (t2:=5) (u:=6) rfl rfl rfl rfl W') (fun W' hs=>⟨⟨_,_,rfl⟩,hs.below HB.out HL.out⟩)
theorem n44 (w:World):Calls Tryz.prog 44 #[.pointer none] w fun e w'=>e=.returned (.slice none 0 0)/\w'=w:=by
 go_enter Tryz.func44,Tryz.ntmps44;go_wp2_with fail
 go_ret
 exact⟨rfl,rfl⟩
def S0:Sh:=⟨[],[],[]⟩
theorem canon0:dV S0=S0:=by kernel_rfl
theorem mid0:Mid S0:=⟨by decide,fun t ht=>(by cases ht),by decide,by decide,fun t ht=>(by cases ht)⟩
theorem ish0 (w:World):iD w (.agg #[.slice none 0 0,.slice none 0 0,.slice none 0 0]) S0:=⟨none,0,none,0,none,0,rfl,Nat.le_refl _,Kd.ol _ _,Nat.le_refl _,Kd.ol _ _,Nat.le_refl _,Kd.ol _ _⟩
theorem n11 (w:World):Calls Tryz.prog 11 #[.pointer none] w fun e w'=>∃ v,e=.returned v/\iD w' v S0/\Below w.heap.size w w':=by
 obtain⟨W1,hW1⟩:∃ W1,W1=(w.alloc (.cells #[.slice none 0 0,.slice none 0 0,.slice none 0 0] 46)).alloc (.cells #[.slice none 0 0,.slice none 0 0,.slice none 0 0] 46):=⟨_,rfl⟩;have hb1:Below w.heap.size w W1:=by rw[hW1];exact ae (ae zc _) _
 have h2:Holds W1 w.heap.size 46 z46:=by rw[hW1];exact Holds.below (aK _ _) (ae zc _)
 have h3:Holds W1 (w.heap.size+1) 46 z46:=by
  have h:=aK (w.alloc (.cells #[.slice none 0 0,.slice none 0 0,.slice none 0 0] 46)) (.cells #[.slice none 0 0,.slice none 0 0,.slice none 0 0] 46);rw[World.size_alloc]at h;rw[hW1];exact h
 have HB1:=Y hb1;have H2:=Y h2;have H3:=Y h3;clear hb1 h2 h3;go_enter Tryz.func11,Tryz.ntmps11;go_upto_region 2 with(fail)
 rw[<-hW1];clear hW1;obtain⟨r2,hr2⟩:∃ r2,r2=w.heap.size:=⟨_,rfl⟩;obtain⟨r3,hr3⟩:∃ r3,r3=w.heap.size+1:=⟨_,rfl⟩;rw[<-hr3]at H3 ⊢;rw[<-hr2]at H2 hr3 ⊢;have HN:=Y (And.intro hr2 hr3);clear hr2 hr3;go_wp2_with fail
 go_loopg [4] 0 (fun kq v4 w'=>v4=.int .i64 0/\w'=W1)
 case atStart=>exact⟨rfl,rfl⟩
 case round=>
  obtain⟨rfl,e0⟩:=hrel;subst e0;go_upto_region 7 with(go_at_call 43;refine(n43 _).mono ?_;rintro e w2 ⟨⟨v1,v2,rfl⟩,hb2⟩;have HB2:=Y hb2;clear hb2)
  have HC2:=Y (H3.out.below HB2.out);have z2:w2.cell? ⟨r3,1,none⟩=some (.slice none 0 0):=(HC2.out.cell 1).trans rfl;have z3:=ak HC2.out 1;go_upto_region 8 with(go_at_call 44;refine(n44 _).mono ?_;rintro e w3 ⟨rfl,rfl⟩)
  obtain⟨w4,hw4⟩:∃ w4,w4=w3.setCell ⟨r3,1,none⟩ (.slice none 0 0):=⟨_,rfl⟩;have hs4:bH w3 w4 r3:=by rw[hw4];exact bu _ r3 1 _
  have HC4:=Y (show Holds w4 r3 46 z46 by rw[hw4];exact bB HC2.out (k:=1) (by show 1<3;decide) _)
  have HH4:=Y (hs4.holds (H2.out.below HB2.out) (by have:=HN.out;omega))
  have HB4:=Y (hs4.below (ag HB1.out HB1.out.size HB2.out) (by have:=HN.out;omega))
  rw[<-hw4];clear z2 z3 hs4 hw4;go_wp2_with fail
  go_loopg [8] 0 (fun kq v8 w'=>v8=.int .i64 1/\w'=w4)
  case atStart=>exact⟨rfl,rfl⟩
  case round=>
   obtain⟨rfl,e0⟩:=hrel;subst e0;go_upto_region 13 with(go_at_call 45;refine(n45 _).mono ?_;rintro e w5 ⟨⟨v1,v2,rfl⟩,hb5⟩;have HB5:=Y hb5;clear hb5)
   have HC5:=Y (HC4.out.below HB5.out);have HH5:=Y (HH4.out.below HB5.out);have HBW5:=Y (ag HB4.out HB4.out.size HB5.out);have HCA:=Y (qp S0 mid0 _ w5 (ish0 w5))
   go_wp2_with (first
    |((with_reducible refine aW (N:=53) rfl ?_);refine bE (g:=r3) (off:=0) (t:=46) (cs:=z46) (seg:=z46) rfl rfl (by rfl) HC5.out (by rfl) Tryz.underlying46 rfl eU ?_)
    |(go_at_call 46;refine HCA.out.mono ?_;rintro e w7 ⟨B7,qs7,ns7,AT7,AG7,cT7,nG7,cG7,vX7,vN7,rfl,hs7,hb7⟩;obtain⟨AX7,cX7,eX7⟩:=Kd.aD hs7.hn;subst eX7;have HS7:=Y hs7;have HB7:=Y hb7;have HH7:=Y (HH5.out.below hb7);clear hs7 hb7)
    |((with_reducible refine bg (t:=46) (p:=2) rfl ?_);refine aG rfl (ty:=46) rfl rfl (g:=r2) (off:=0) (vs:=#[.slice AT7 qs7.length cT7,.slice AG7 nG7 cG7,.slice AX7 ns7.length cX7]) rfl rfl HH7.out (by show 3<=3;decide) eU (by simp[Value.oneCell']) ?_;intro w9 hh9 hs9;have HH9:=Y hh9;have HS9:=Y hs9;clear hh9 hs9))
   refine bodyPost_ret (results_cell_row rfl _ _ r2 46 #[.slice AT7 qs7.length cT7,.slice AG7 nG7 cG7,.slice AX7 ns7.length cX7] (0,0) _ rfl HH9.out Tryz.underlying46 rfl eU) rfl ?_;refine⟨_,rfl,?_,HS9.out.below (ag HBW5.out HBW5.out.size HB7.out) (by rw[HN.out.1];exact Nat.le_refl _)⟩
   have h:=(HS7.out.other HH7.out HS9.out).ish;rw[canon0]at h;exact h
end
end Go.Proofs.YtglikkmmbdnmbaaGreat.Im
namespace Go.Proofs.YtglikkmmbdnmbaaGreat.Ev
open Go.RowKit Q7
open YtglikkmmbdnmbaaGreat.Own PCan
set_option linter.unusedVariables false
set_option linter.unusedSimpArgs false
section
theorem nu {i:Int}(h0: -9223372036854775808<=i)(h1:i<=9223372036854775807):wrap64 i=i:=by
 unfold wrap64;omega
theorem DT {W:World}(base:Nat)(W1:World)(ok':Nat->Prop)(q:aQ)(cs:List Value)(h:fE.K W q cs):fE.M W1 base ok' q cs:=by
 obtain rfl:=qP h;exact pK _ _ _ _
theorem el72 {w W:World}{A:Option Addr}{l:List aQ}(h:Kd.C fE w A l.length l)(hb:Below w.heap.size w W)(i:Nat)(hi:i<l.length):∃ ad,A=some ad/\∃ d,l[i]? =some d/\W.cell? (ad.add (i*11))=some (.int .u8 d.f0)/\W.cell? ⟨(ad.add (i*11)).block,(ad.add (i*11)).off+1,none⟩=some (.int .u8 d.f1.f0)/\W.cell? ⟨(ad.add (i*11)).block,(ad.add (i*11)).off+2,none⟩=some (.int .u8 d.f1.f1)/\W.cell? ⟨(ad.add (i*11)).block,(ad.add (i*11)).off+3,none⟩=some (.int .u8 d.f1.f2)/\W.cell? ⟨(ad.add (i*11)).block,(ad.add (i*11)).off+4,none⟩=some (.int .u8 d.f1.f3)/\W.cell? ⟨(ad.add (i*11)).block,(ad.add (i*11)).off+5,none⟩=some (.int .i64 d.f2.f0)/\W.cell? ⟨(ad.add (i*11)).block,(ad.add (i*11)).off+6,none⟩=some (.int .i64 d.f2.f1)/\W.cell? ⟨(ad.add (i*11)).block,(ad.add (i*11)).off+7,none⟩=some (.int .u64 d.f2.f2)/\W.cell? ⟨(ad.add (i*11)).block,(ad.add (i*11)).off+8,none⟩=some (.int .i64 d.f3)/\W.cell? ⟨(ad.add (i*11)).block,(ad.add (i*11)).off+9,none⟩=some (.int .i64 d.f4)/\W.cell? ⟨(ad.add (i*11)).block,(ad.add (i*11)).off+10,none⟩=some (.int .i64 d.f5):=by
 obtain⟨ad,he,hx0,hx1,hx2,hx3,hx4,hx5,hx6,hx7,hx8,hx9,hx10⟩:=at_T104 (Kd.aU h hb) i (by omega) (by omega)
 refine⟨ad,he,l[i],List.getElem?_eq_getElem hi,?_⟩
 have e:iG l i=l[i]:=by
  unfold iG;rw[Int.toNat_natCast,List.getD_eq_getElem?_getD,List.getElem?_eq_getElem hi];rfl
 simp only[Int.toNat_natCast]at hx0 hx1 hx2 hx3 hx4 hx5 hx6 hx7 hx8 hx9 hx10;rw[e]at hx0 hx1 hx2 hx3 hx4 hx5 hx6 hx7 hx8 hx9 hx10;exact⟨hx0,hx1,hx2,hx3,hx4,hx5,hx6,hx7,hx8,hx9,hx10⟩
theorem oH (A:Option Addr)(c:Nat)(l:List aQ)(w:World)(hr:Kd.C fE w A l.length l)(hc:l.length<=c)(hl:l.length*56<=140737488355328):
 Calls Tryz.prog 104 #[.slice A l.length c] w fun e w'=>∃ v0_:Value,e=.returned v0_/\Kd.R fE 104 w' w.heap.size (fun _=>True) v0_ l/\Below w.heap.size w w':=by
 have q51:∀(w:World) (a:Option Addr) (n c n' c':Nat),(binOp .eql 53 (.slice a n c) (.slice none n' c')).run Tryz.prog w=.ok (.bool a.isNone) w:=fun w a n c n' c'=>Lib.run_eql_slice_nil w _ _ a n c n' c' Tryz.underlying53
 rcases A with _|ad
 . have hl0:l=[]:=by
    rcases l with _|⟨x,l⟩
    . rfl
    . obtain⟨ad,h,_⟩:=hr.2.2 (by simp)
      cases h
   subst hl0;clear hr hc hl;go_enter Tryz.func104,Tryz.ntmps104
   go_wp2
   go_ret
   exact⟨_,rfl,Kd.fo _ _ _ _ _,zc⟩
 . have HR:=Y hr;clear hr hc;go_enter Tryz.func104,Tryz.ntmps104;go_wp2_with (at_builtin;refine jR fE (w0:=w) w.heap.size rfl (.tmp 5) (.tmp 6) 53 104 (.agg #[.int .u8 0,.int .u8 0,.int .u8 0,.int .u8 0,.int .u8 0,.int .i64 0,.int .i64 0,.int .u64 0,.int .i64 0,.int .i64 0,.int .i64 0]) 56 rfl Tryz.underlying53 rJ rfl (by decide) (by omega) (.slice (some ⟨w.heap.size,0,none⟩) 0 0) [] l (some ad) l.length c (fun _=>True) rfl rfl (DT _) (fun _ _=>trivial) ?aO ?aR ?aB ?aS ?aL ?_)
   case aO=>exact xU _ _ _ _ _ (Nat.le_refl _) trivial
   case aR=>exact Kd.dn HR.out _
   case aB=>exact(Below.refl _ w).alloc (Nat.le_refl _) _
   case aS=>simp
   case aL=>simpa using hl
   intro v1 w1 ho hb hg hat
   go_wp2
   go_ret
   exact⟨_,rfl,by simpa using ho,hb⟩
structure qy (g:FuncId)(lb:Array Value)(B:Nat)(W0:World)(p:aQ->Bool):Prop where
 enters:∀ args w,(callFunc g args).run Tryz.prog w=.ok (.enter g args) w
 calls:∀(W:World) (d:aQ),Below B W0 W->B<=W.heap.size->Calls Tryz.prog g (#[ev d]++lb) W fun e W'=>e=.returned (.bool (p d))/\Below W.heap.size W W'
def lq (p:aQ->Bool)(l:List aQ):Int:=if l.findIdx p<l.length then(l.findIdx p:Int)else -1
theorem rR (g:FuncId)(lb:Array Value)(B:Nat)(W0:World)(p:aQ->Bool)(hP:qy g lb B W0 p)(l:List aQ)(A0:Option Addr)(c0:Nat)(w:World)(hb0:Below B W0 w)(hB:B<=w.heap.size)(hr0:Kd.C fE w A0 l.length l)(hc0:l.length<=c0)(hll:l.length<4611686018427387904):
 Calls Tryz.prog 123 #[.slice A0 l.length c0,.func (.func g) #[] lb] w fun e w'=>e=.returned (.int .i64 (lq p l))/\Below w.heap.size w w':=by
 have HR0:=Y hr0;have HC0:=Y hc0;have HB0:=Y hb0;have HBS:=Y hB;have HCL:=Y hP.calls;have en:=hP.enters;have hu72:=Tryz.underlying104;clear hr0 hc0 hb0 hB hP;go_enter Tryz.func123,Tryz.ntmps123
 go_wp2
 go_loopg [5,8] l.length (fun kq v5 v8 w'=>∃ i:Nat,v8=.int .i64 i/\i+kq=l.length/\aa ((l.take i).any p=false)/\aa (Below w.heap.size w w'))
 case atStart=>exact⟨0,rfl,by omega,⟨rfl⟩,⟨zc⟩⟩
 case round=>
  obtain⟨i,rfl,hi,HN,HB⟩:=hrel;cases gk with
  |zero=>
   obtain rfl:i=l.length:=by omega
   clear hi;have c1:decide (((l.length:Nat):Int)<(l.length:Int))=false:=yd (by omega)
   have HF:aa (lq p l= -1):=⟨by
    have h:=HN.out;rw[List.take_length,List.any_eq_false]at h;unfold lq;rw[if_neg];intro hh;have:=List.findIdx_getElem (w:=hh)
    exact h _ (List.getElem_mem _) this⟩
   clear en
   go_wp2
   go_ret
   exact⟨by rw[HF.out];rfl,HB.out⟩
  |succ k1=>
   have c1:decide ((i:Int)<(l.length:Int))=true:=yb (by omega)
   have hil:i<l.length:=by omega
   obtain⟨ad,he,d,hd,hx0,hx1,hx2,hx3,hx4,hx5,hx6,hx7,hx8,hx9,hx10⟩:=el72 HR0.out HB.out i hil;cases he;have HD:=Y hd;have HI:=Y hi;have HBB:=Y (ag HB0.out HBS.out (HB.out.mono (Nat.le_refl _)));have HBZ:=Y (Nat.le_trans HBS.out HB.out.size);have p1:=eq_true (show 0<=((i:Nat):Int) by omega)
   have q1:=eq_true (show((i:Nat):Int)<(l.length:Int) by omega)
   have q2:=eq_true hil;clear hd hi hil;cases hbad:p d with
   |true=>
    have HF:aa (lq p l=(i:Int)):=⟨by
     have hil:=of_eq_true q2
     have e:l.findIdx p=i:=by
      rw[List.findIdx_eq hil];refine⟨?_,fun j hj=>?_⟩
      . have h:=HD.out;rw[List.getElem?_eq_getElem hil]at h;injection h with h
        rw[h];exact hbad
      . have h:=HN.out;rw[List.any_eq_false]at h
        have hm:l[j]∈l.take i:=by
         rw[List.mem_take_iff_getElem];exact⟨j,by omega,rfl⟩
        simpa using h _ hm
     unfold lq
     rw[e,if_pos hil]⟩
    go_wp2_with ((refine(HCL.out _ d HBB.out HBZ.out).mono ?_);rintro e w2 ⟨rfl,hb2⟩;rw[hbad]);have HB2:=Y (ag HB.out HB.out.size hb2);clear hb2
    go_ret
    exact⟨by rw[HF.out];rfl,HB2.out⟩
   |false=>
    go_wp2_with ((refine(HCL.out _ d HBB.out HBZ.out).mono ?_);rintro e w2 ⟨rfl,hb2⟩;rw[hbad];have HB2:=Y (ag HB.out HB.out.size hb2);clear hb2);go_roundg k1
    case measure=>omega
    case rel=>
     refine⟨i+1,by have:=HI.out;rw[nu (by omega) (by omega)];rfl,by have:=HI.out;omega,⟨?_⟩,HB2⟩
     have h:l.take (i+1)=l.take i++[d]:=by
      rw[List.take_add_one,HD.out];rfl
     rw[h,List.any_append,HN.out];simp [hbad]
theorem yI {p:aQ->Bool}{l:List aQ}(h:l.any p=false):lq p l= -1:=by
 unfold lq;rw[if_neg];intro hh;rw[List.any_eq_false]at h;exact h _ (List.getElem_mem _) (List.findIdx_getElem (w:=hh))
theorem zn {p:aQ->Bool}{l:List aQ}(h:l.any p=true):∃ i:Nat,lq p l=(i:Int)/\i<l.length/\(l.take (i+1)).filter (fun d=>!p d)=l.take i:=by
 rw[List.any_eq_true]at h;obtain⟨d,hd,hp⟩:=h;have hh:l.findIdx p<l.length:=List.findIdx_lt_length_of_exists ⟨d,hd,hp⟩;refine⟨l.findIdx p,by unfold lq;rw[if_pos hh],hh,?_⟩
 have h1:∀ x∈l.take (l.findIdx p),(!p x)=true:=by
  intro x hx;rw[List.mem_take_iff_getElem]at hx;obtain⟨j,hj,rfl⟩:=hx;have h2:=List.not_of_lt_findIdx (p:=p) (xs:=l) (i:=j) (by omega)
  simpa using h2
 rw[List.take_add_one,List.getElem?_eq_getElem hh,List.filter_append,List.filter_eq_self.2 h1];have h3:p l[l.findIdx p]=true:=List.findIdx_getElem (w:=hh);simp [h3]
theorem yJ (f:FuncId)(lb:Array Value)(B:Nat)(W0:World)(p:aQ->Bool)(hP:qy f lb B W0 p)(l:List aQ)(A:Option Addr)(c:Nat)(w:World)(hb0:Below B W0 w)(hB:B<=w.heap.size)(hr:Kd.C fE w A l.length l)(hc:l.length<=c)(hll:l.length<4611686018427387904)(hn:l.any p=false):
 Calls Tryz.prog 103 #[.slice A l.length c,.func (.func f) #[] lb] w fun e w'=>e=.returned (.slice A l.length c)/\Below w.heap.size w w':=by
 have HC:=Y (rR f lb B W0 p hP l A c w hb0 hB hr hc hll);have HN:=Y (yI hn);clear hP hb0 hB hr hc hn;go_enter Tryz.func103,Tryz.ntmps103;go_wp2_with (go_at_call 123;refine HC.out.mono ?_;rintro e w1 ⟨rfl,hb1⟩;rw[HN.out])
 go_ret
 exact⟨rfl,hb1⟩
def z11:Array Value:=#[.int .u8 0,.int .u8 0,.int .u8 0,.int .u8 0,.int .u8 0,.int .i64 0,.int .i64 0,.int .u64 0,.int .i64 0,.int .i64 0,.int .i64 0]
theorem z11_one:∀ k,k<11->(z11[k]!).oneCell'=true:=by
 intro k hk;have:k=0\/k=1\/k=2\/k=3\/k=4\/k=5\/k=6\/k=7\/k=8\/k=9\/k=10:=by omega
 rcases this with rfl|rfl|rfl|rfl|rfl|rfl|rfl|rfl|rfl|rfl|rfl<;>rfl
theorem zeros_length (m:Nat):(Builtin.zeroCells z11 m).toList.length=m*11:=by
 unfold Builtin.zeroCells;simp [z11]
theorem Ct (m:Nat):∀ v∈(Builtin.zeroCells z11 m).toList,v.oneCell'=true:=by
 intro v hv;unfold Builtin.zeroCells at hv;simp only[Array.toList_map,Array.toList_range,List.mem_map]at hv;obtain⟨k,_,rfl⟩:=hv;exact z11_one _ (Nat.mod_lt _ (by decide))
theorem zero72 (W:World):(zeroValue 104).run Tryz.prog W=.ok (.agg z11) W:=by kernel_rfl
theorem CZ {W:World}{g i m c:Nat}{xs:List aQ}(h:Row W g xs)(him:i+m=xs.length)(hm:0<m)(ty:TypeId):
 ∃ w1,(Builtin.clear_ #[53] ty #[.slice (some ⟨g,i*11,none⟩) m c]).run Tryz.prog W=.ok (.tuple #[]) w1/\Row w1 g (xs.take i)/\bH W w1 g:=by
 obtain⟨r,h⟩:=h;have hl:∀ j,j<m*11->i*11+j<(rc xs++r).length:=fun j hj=>by rw[List.length_append,iV];omega
 have h1:=run_storeCells_cells (P:=Tryz.prog) g (i*11) (Builtin.zeroCells z11 m).toList 0 W (fun k hk=>by
  rw[zeros_length]at hk;show(W.cell? ⟨g,i*11+0+k,none⟩).isSome=true
  rw[Nat.add_zero,h.cell,List.getElem?_eq_getElem (hl k hk)]
  rfl) (fun k hk=>ak h _) (Ct m)
 rw[Nat.add_zero]at h1;refine⟨_,?_,⟨(Builtin.zeroCells z11 m).toList++r,?_⟩,dR W g (i*11) (Builtin.zeroCells z11 m).toList⟩
 . unfold Builtin.clear_;obtain⟨m',rfl⟩:∃ k,m=k+1:=⟨m - 1,by omega⟩
   simp only[z11]at h1;simp [run_underlying Tryz.underlying53,zero72,Value.cells,z11,h1]
 . have h2:=eX (vs:=(Builtin.zeroCells z11 m).toList) h (o:=i*11) (by rw[zeros_length,List.length_append,iV];omega)
   have e:splice (rc xs++r) (i*11) (Builtin.zeroCells z11 m).toList=rc (xs.take i)++((Builtin.zeroCells z11 m).toList++r):=by
    unfold splice;rw[zeros_length];have h3:i*11=(rc (xs.take i)).length:=by rw[iV,List.length_take];omega
    have h4:i*11+m*11=(rc xs).length:=by rw[iV];omega
    rw[h4,List.drop_left,h3,show rc xs++r=rc (xs.take i)++(rc (xs.drop i)++r) by rw[<-List.append_assoc,<-rc_take],List.take_left,List.append_assoc]
   rw[e]at h2;exact h2
theorem AQ {o:Oper}{a:Act}{W:World}{g i m c:Nat}{xs:List aQ}{x:Operand}(ho:o.op=.call { callee:=.builtin .clear,args:=#[x],argTypes:=#[53] })(hx:a.eval x=.slice (some ⟨g,i*11,none⟩) m c)(h:Row W g xs)(him:i+m=xs.length)(hm:0<m):
 ∃ w1,(execOp a.eval o).run Tryz.prog W=.ok (.value (.tuple #[])) w1/\Row w1 g (xs.take i)/\bH W w1 g:=by
 obtain⟨w1,hr,h1,h2⟩:=CZ (c:=c) h him hm o.type;refine⟨w1,?_,h1,h2⟩;unfold execOp;simp only[ho,resolve,invoke,builtin,Sem.run_bind,Sem.run_pure,Result.andThen_ok,List.map_toArray,List.map_cons,List.map_nil,hx,hr]
theorem Aw {ops:Array Oper}{rest:List Oper}{o:Oper}{a:Act}{Q:Exit->Act->World->Prop}{W:World}{x:Tmp}(_ho:o.op=.call { callee:=.builtin .clear,args:=#[.tmp x],argTypes:=#[53] })(h:wpList Tryz.prog ops Q (o :: rest) a W):wpList Tryz.prog ops Q (o :: rest) a W:=h
theorem zb {ops:Array Oper}{rest:List Oper}{o:Oper}{a:Act}{Q:Exit->Act->World->Prop}{W:World}{g i m c:Nat}{xs:List aQ}{x:Operand}(hgd:o.guard=none)(ho:o.op=.call { callee:=.builtin .clear,args:=#[x],argTypes:=#[53] })(hx:a.eval x=.slice (some ⟨g,i*11,none⟩) m c)(h:Row W g xs)(him:i+m=xs.length)(hm:0<m)
 (hk:∀ w1,Row w1 g (xs.take i)->bH W w1 g->wpList Tryz.prog ops Q rest (a.put o.dst (.tuple #[])) w1):wpList Tryz.prog ops Q (o :: rest) a W:=by
 obtain⟨w1,hr,h1,h2⟩:=AQ ho hx h him hm;exact Kd.fA hgd hr (hk w1 h1 h2)
def Del (w:World)(g:Nat)(zs:List aQ)(c:Nat)(e:Ending)(w':World):Prop:=e=.returned (.slice (some ⟨g,0,none⟩) zs.length c)/\Row w' g zs/\w.grownBy w' (some g)
theorem grown_of {w W W1:World}{g:Nat}(h:w.grownBy W (some g))(hb:Below W.heap.size W W1):w.grownBy W1 (some g):=
 ⟨hb.os.trans h.os,hb.tape.trans h.tape,hb.output.trans h.output,Nat.le_trans h.size hb.size,fun k hk hne=>(hb.block k (Nat.lt_of_lt_of_le hk h.size)).trans (h.block k hk hne)⟩
theorem lD {w W W1:World}{g:Nat}(h:w.grownBy W (some g))(hs:bH W W1 g):w.grownBy W1 (some g):=
 ⟨hs.os.trans h.os,hs.tape.trans h.tape,hs.output.trans h.output,by rw[hs.size];exact h.size,fun k hk hne=>(hs.block k (fun e=>hne (by rw[e]))).trans (h.block k hk hne)⟩
theorem below_grown {B:Nat}{W0 w W:World}{g:Nat}(hb:Below B W0 w)(h:w.grownBy W (some g))(hB:B<=g)(hs:B<=w.heap.size):Below B W0 W:=
 hb.trans ⟨h.os,h.tape,h.output,h.size,fun k hk=>h.block k (by omega) (fun e=>by injection e with e;omega)⟩
end
end Go.Proofs.YtglikkmmbdnmbaaGreat.Ev

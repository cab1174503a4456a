/- The player's closures: functions 110, 114, 109, 113, 115. -/
import Derived.Test.YtglikkmmbdnmbaaGreatQ08
import Derived.Maps.OwnSet
import Derived.Test.YtglikkmmbdnmbaaGreatQ04
import Derived.Test.YtglikkmmbdnmbaaGreatQ06
import Derived.Laws.IdiomRangeMap
set_option maxHeartbeats 8000000
set_option maxRecDepth 100000
namespace Go.Proofs.YtglikkmmbdnmbaaGreat.Im
open Go.RowKit Q7
open YtglikkmmbdnmbaaGreat.Own PCan Wv
set_option linter.unusedVariables false
set_option linter.unusedSimpArgs false
section
theorem dI (n j:Nat):(Array.replicate n false).getD j false=false:=by
 rw[Array.getD_eq_getD_getElem?]
 by_cases h:j<n
 . rw[Array.getElem?_eq_getElem (by rw[Array.size_replicate];exact h),Array.getElem_replicate];rfl
 . rw[Array.getElem?_eq_none (by rw[Array.size_replicate];omega)];rfl
theorem fB:(Tryz.prog.info? 151).map (·.size)=some 3:=by kernel_rfl
def qx:List Value:=[.int .i64 0,.int .u64 0,.int .i64 0]
abbrev an (n v e:Int):Value:=.agg #[.int .i64 n,.int .u64 v,.int .i64 e]
section
variable {o:Oper} {a:Act} {W:World}
theorem nO {x:Operand}{p:Addr}{v:Value}(ho:o.op=.load 106 x)(hx:a.eval x=.pointer (some p))(hc:W.cell? p=some v):(execOp a.eval o).run Tryz.prog W=.ok (.value v) W:=by
 have hu:=Tryz.underlying106;unfold execOp;simp only[ho,hx]
 go_simp
theorem oI {x:Operand}{p:Addr}{v:Value}(ho:o.op=.load 25 x)(hx:a.eval x=.pointer (some p))(hc:W.cell? p=some v):(execOp a.eval o).run Tryz.prog W=.ok (.value v) W:=by
 have hu:=Tryz.underlying25;unfold execOp;simp only[ho,hx]
 go_simp
theorem lw {x:Operand}{g i:Nat}(hi:i<2)(ho:o.op=.fieldAddr 108 x i)(hx:a.eval x=.pointer (some ⟨g,0,none⟩)):(execOp a.eval o).run Tryz.prog W=.ok (.value (.pointer (some ⟨g,i,none⟩))) W:=by
 have hu:=Tryz.underlying108
 match i,hi with
 |0,_|1,_=>
  unfold execOp;simp only[ho,hx]
  go_simp
theorem gL {x:Operand}{g i:Nat}(hi:i<4)(ho:o.op=.fieldAddr 100 x i)(hx:a.eval x=.pointer (some ⟨g,0,none⟩)):(execOp a.eval o).run Tryz.prog W=.ok (.value (.pointer (some ⟨g,i,none⟩))) W:=by
 have hu:=Tryz.underlying100
 match i,hi with
 |0,_|1,_|2,_|3,_=>
  unfold execOp;simp only[ho,hx]
  go_simp
theorem wz {x:Operand}{u v:Value}(ho:o.op=.extract x 0)(hx:a.eval x=.tuple #[u,v]):(execOp a.eval o).run Tryz.prog W=.ok (.value u) W:=by
 unfold execOp;simp only[ho,hx]
 go_simp
theorem vR {x:Operand}{u v:Value}(ho:o.op=.extract x 1)(hx:a.eval x=.tuple #[u,v]):(execOp a.eval o).run Tryz.prog W=.ok (.value v) W:=by
 unfold execOp;simp only[ho,hx]
 go_simp
theorem gM {x:Operand}{n:Int}(ho:o.op=.convert 5 3 x)(hx:a.eval x=.int .u8 n)(h:0<=n/\n<=255):(execOp a.eval o).run Tryz.prog W=.ok (.value (.int .i64 n)) W:=by
 have e:wrap64 n=n:=jK (by omega) (by omega)
 unfold execOp;simp only[ho,hx]
 go_simp
 rw[aJ,e]
theorem xV {x:Operand}{n:Int}(ho:o.op=.convert 5 31 x)(hx:a.eval x=.int .u8 n)(h:0<=n/\n<=255):(execOp a.eval o).run Tryz.prog W=.ok (.value (.int .u64 n)) W:=by
 have e:IntKind.u64.wrap n=n:=by simp only[IntKind.wrap,IntKind.bits,IntKind.signed];simp;omega
 unfold execOp;simp only[ho,hx]
 go_simp
theorem gG (ho:o.op=.alloc 3):(execOp a.eval o).run Tryz.prog W=.ok (.value (.pointer (some ⟨W.heap.size,0,none⟩))) (W.alloc (.cells #[.int .i64 0] 3)):=by
 unfold execOp;simp only[ho]
 go_simp
theorem gH {x y:Operand}{q:Nat}{n:Int}{v:Value}(ho:o.op=.store 3 x y)(hx:a.eval x=.pointer (some ⟨q,0,none⟩))(hy:a.eval y=.int .i64 n)(hh:Holds W q 3 [v]):(execOp a.eval o).run Tryz.prog W=.ok .skip (W.setCell ⟨q,0,none⟩ (.int .i64 n)):=by
 have h1:=(hh.cell 0).trans rfl;have h2:=ak hh 0;generalize a.eval=E at hx hy ⊢;unfold execOp;simp only[ho,hx,hy]
 go_simp
end
theorem Dp (n e:Int)(w:World):Calls Tryz.prog 110 #[.int .i64 n,.int .i64 e] w fun r w'=>r=.returned (an n 0 e)/\Below w.heap.size w w':=by
 have hu:=Tryz.underlying151;have hb:=ae (Below.refl w.heap.size w) (.cells #[.int .i64 0,.int .u64 0,.int .i64 0] 151);have hh:Holds (w.alloc (.cells #[.int .i64 0,.int .u64 0,.int .i64 0] 151)) w.heap.size 151 qx:=aK _ _;go_enter Tryz.func110,Tryz.ntmps110;go_upto_region 1 with fail
 obtain⟨W1,hW1⟩:∃ W1,W1=w.alloc (.cells #[.int .i64 0,.int .u64 0,.int .i64 0] 151):=⟨_,rfl⟩;rw[<-hW1]at hb hh ⊢;have HB:=Y hb;have HH:=Y hh;clear hW1 hb hh;go_wp2_with ((with_reducible refine bg (t:=151) (p:=4) rfl ?_);refine aG rfl (ty:=151) rfl rfl (g:=w.heap.size) (off:=0) (vs:=#[.int .i64 n,.int .u64 0,.int .i64 e]) rfl rfl HH.out (by show 3<=3;decide) fB (by simp[Value.oneCell']) ?_;intro w5 hh5 hs5;have HH5:=Y hh5;have HS5:=Y hs5;clear hh5 hs5)
 refine bodyPost_ret (results_cell_row rfl _ _ w.heap.size 151 #[.int .i64 n,.int .u64 0,.int .i64 e] (0,0) _ rfl HH5.out Tryz.underlying151 rfl fB) rfl ?_;exact⟨rfl,HS5.out.below HB.out (Nat.le_refl _)⟩
theorem Ej (v e:Int)(w:World):Calls Tryz.prog 114 #[.int .u64 v,.int .i64 e] w fun r w'=>r=.returned (an 0 v e)/\Below w.heap.size w w':=by
 have hu:=Tryz.underlying151;have hb:=ae (Below.refl w.heap.size w) (.cells #[.int .i64 0,.int .u64 0,.int .i64 0] 151);have hh:Holds (w.alloc (.cells #[.int .i64 0,.int .u64 0,.int .i64 0] 151)) w.heap.size 151 qx:=aK _ _;go_enter Tryz.func114,Tryz.ntmps114;go_upto_region 1 with fail
 obtain⟨W1,hW1⟩:∃ W1,W1=w.alloc (.cells #[.int .i64 0,.int .u64 0,.int .i64 0] 151):=⟨_,rfl⟩;rw[<-hW1]at hb hh ⊢;have HB:=Y hb;have HH:=Y hh;clear hW1 hb hh;go_wp2_with ((with_reducible refine bg (t:=151) (p:=4) rfl ?_);refine aG rfl (ty:=151) rfl rfl (g:=w.heap.size) (off:=0) (vs:=#[.int .i64 0,.int .u64 v,.int .i64 e]) rfl rfl HH.out (by show 3<=3;decide) fB (by simp[Value.oneCell']) ?_;intro w5 hh5 hs5;have HH5:=Y hh5;have HS5:=Y hs5;clear hh5 hs5)
 refine bodyPost_ret (results_cell_row rfl _ _ w.heap.size 151 #[.int .i64 0,.int .u64 v,.int .i64 e] (0,0) _ rfl HH5.out Tryz.underlying151 rfl fB) rfl ?_;exact⟨rfl,HS5.out.below HB.out (Nat.le_refl _)⟩
theorem wf_u64b {y:Int}(h:0<=y/\y<=255):(Lit.int .u64 y).wf=true:=by
 simp only[Lit.wf,IntKind.min,IntKind.max,Bool.and_eq_true,decide_eq_true_eq];constructor
 . simp[IntKind.signed];omega
 . simp[IntKind.signed,IntKind.bits];omega
theorem oF {F F':Nat->Prop}{w W1 w6 w7:World}{g:Nat}{x':Gw}{M:Gm}(hb:Below w.heap.size w W1)(hlt:w.heap.size<W1.heap.size)(hF:¬ F w.heap.size)(h:GL F' w6 g x' M/\Kp F W1 w6/\∀ q,F' q->F q\/W1.heap.size<=q)(hs:bH w6 w7 w.heap.size):GStep F w g M w7:=by
 obtain⟨h1,h2,h3⟩:=h;have hk:=bR hs;refine⟨F',x',h1.kp hk (fun q hq _ e=>?_),?_,fun q hq=>(h3 q hq).imp id (fun e=>Nat.le_trans hb.size e)⟩
 . have e':q=w.heap.size:=e
   rcases h3 q hq with h4|h4
   . exact hF (e'▸h4)
   . omega
 . refine((bX F hb).trans h2 (fun _ _ e=>e)).trans hk (fun q hq e=>?_)
   have e':q=w.heap.size:=e;omega
def P109 (M:Gm)(P g:Nat)(ti ai bi ci:Int):Nat->Value
 |0=>.pointer (some ⟨P,0,none⟩)
 |1=>.pointer (some ⟨P,0,none⟩)
 |2=>.pointer (some ⟨P,0,none⟩)
 |3=>.pointer (some ⟨g,0,none⟩)
 |4=>.int .i64 ti
 |5=>.int .i64 ai
 |6=>.int .i64 bi
 |7=>.int .i64 ci
 |8=>.tuple #[.int .i64 (bM M ti ai bi ci).2.1,.int .i64 (bM M ti ai bi ci).2.2]
 |9=>.int .i64 (bM M ti ai bi ci).2.1
 |10=>.int .i64 (bM M ti ai bi ci).2.2
 |11=>an (bM M ti ai bi ci).2.1 0 (bM M ti ai bi ci).2.2
 |_=>undef
theorem EP {F:Nat->Prop}{w:World}{g:Nat}{x:Gw}{M:Gm}(h:GL F w g x M)(hO:M.O.length<1000)(P cp ct ca cb cc:Nat)(ti ai bi ci:Int)(vP:Value)(hcp:Holds w cp 106 [.pointer (some ⟨P,0,none⟩)])(hct:Holds w ct 3 [.int .i64 ti])(hca:Holds w ca 3 [.int .i64 ai])(hcb:Holds w cb 3 [.int .i64 bi])(hcc:Holds w cc 3 [.int .i64 ci])(hP:Holds w P 108 [.pointer (some ⟨g,0,none⟩),vP])(hF:¬ F cp/\¬ F ct/\¬ F ca/\¬ F cb/\¬ F cc/\¬ F P):
 Calls Tryz.prog 109 #[.pointer (some ⟨cp,0,none⟩),.pointer (some ⟨ct,0,none⟩),.pointer (some ⟨ca,0,none⟩),.pointer (some ⟨cb,0,none⟩),.pointer (some ⟨cc,0,none⟩)] w fun r w'=>r=.returned (an (bM M ti ai bi ci).2.1 0 (bM M ti ai bi ci).2.2)/\GStep F w g ((bM M ti ai bi ci).1) w':=by
 have hu:=Tryz.underlying151;have hb:=ae (Below.refl w.heap.size w) (.cells #[.int .i64 0,.int .u64 0,.int .i64 0] 151);have hh:Holds (w.alloc (.cells #[.int .i64 0,.int .u64 0,.int .i64 0] 151)) w.heap.size 151 qx:=aK _ _;have Hcp:=Y (hcp.below hb);have Hct:=Y (hct.below hb);have Hca:=Y (hca.below hb);have Hcb:=Y (hcb.below hb);have Hcc:=Y (hcc.below hb);have HP:=Y (hP.below hb);have HG:=Y (h.below hb);have HF:=Y hF;have HO:=Y hO;have HFO:=Y (show ¬ F w.heap.size from fun e=>Nat.lt_irrefl _ (h.lt _ e))
 clear h hcp hct hca hcb hcc hP hF;go_enter Tryz.func109,Tryz.ntmps109;go_upto_region 1 with fail
 obtain⟨W1,hW1⟩:∃ W1,W1=w.alloc (.cells #[.int .i64 0,.int .u64 0,.int .i64 0] 151):=⟨_,rfl⟩;rw[<-hW1]at hb hh HG Hcp Hct Hca Hcb Hcc HP ⊢;have HB:=Y hb;have HH:=Y hh;clear hW1 hb hh
 have HRM:aa (∀ w1 w2:World,GStep F W1 g ((bM M ti ai bi ci).1) w1->Below w1.heap.size w1 w2->GStep F W1 g ((bM M ti ai bi ci).1) w2):=⟨fun w1 w2 hg hb=>by
  obtain⟨F',x',h1,h2,h3⟩:=hg
  exact⟨F',x',h1.below hb,h2.trans (bX F hb) (fun _ _ e=>e),h3⟩⟩
 refine pu 12 18 (IR W1 F 8 (GStep F W1 g ((bM M ti ai bi ci).1)) [(0,6),(1,7),(2,8),(3,9),(4,10),(5,11),(6,12),(7,13),(8,14),(9,15),(10,16),(11,17)] (P109 M P g ti ai bi ci)) (by kernel_rfl) (by rfl) (by kernel_rfl) ⟨fun _=>bv zc,fun h=>by(rw[dI]at h;cases h),bX F (bv zc),fun y hy h=>by(rw[dI]at h;cases h)⟩ ?st ?en
 case st=>
  refine aN.cons (fun a w1 L fr hl hi hI hdf hs hd K hK=>?_) ?_
  . exact af (nO rfl ((fr 0 (by kernel_rfl)).trans rfl) (((hI.k.holds Hcp.out HF.out.1).cell 0).trans rfl)) (hK _ _ (hI.pure HRM.out (i:=0) (t:=6) (by rw[hs];decide) (by decide) (by decide) zc))
  refine aN.cons (fun a w1 L fr hl hi hI hdf hs hd K hK=>?_) ?_
  . exact af (bZ rfl (show a.eval (.tmp 6)=.pointer (some ⟨P,0,none⟩)from hI.p (0,6) (by decide) (hd 0 6 (by kernel_rfl)))) (hK _ _ (hI.pure HRM.out (i:=1) (t:=7) (by rw[hs];decide) (by decide) (by decide) zc))
  refine aN.cons (fun a w1 L fr hl hi hI hdf hs hd K hK=>?_) ?_
  . exact af (lw (i:=0) (by decide) rfl (show a.eval (.tmp 7)=.pointer (some ⟨P,0,none⟩)from hI.p (1,7) (by decide) (hd 1 7 (by kernel_rfl)))) (hK _ _ (hI.pure HRM.out (i:=2) (t:=8) (by rw[hs];decide) (by decide) (by decide) zc))
  refine aN.cons (fun a w1 L fr hl hi hI hdf hs hd K hK=>?_) ?_
  . exact af (oI rfl (show a.eval (.tmp 8)=.pointer (some ⟨P,0,none⟩)from hI.p (2,8) (by decide) (hd 2 8 (by kernel_rfl))) (((hI.k.holds HP.out HF.out.2.2.2.2.2).cell 0).trans rfl)) (hK _ _ (hI.pure HRM.out (i:=3) (t:=9) (by rw[hs];decide) (by decide) (by decide) zc))
  refine aN.cons (fun a w1 L fr hl hi hI hdf hs hd K hK=>?_) ?_
  . exact af (dx rfl ((fr 1 (by kernel_rfl)).trans rfl) (((hI.k.holds Hct.out HF.out.2.1).cell 0).trans rfl)) (hK _ _ (hI.pure HRM.out (i:=4) (t:=10) (by rw[hs];decide) (by decide) (by decide) zc))
  refine aN.cons (fun a w1 L fr hl hi hI hdf hs hd K hK=>?_) ?_
  . exact af (dx rfl ((fr 2 (by kernel_rfl)).trans rfl) (((hI.k.holds Hca.out HF.out.2.2.1).cell 0).trans rfl)) (hK _ _ (hI.pure HRM.out (i:=5) (t:=11) (by rw[hs];decide) (by decide) (by decide) zc))
  refine aN.cons (fun a w1 L fr hl hi hI hdf hs hd K hK=>?_) ?_
  . exact af (dx rfl ((fr 3 (by kernel_rfl)).trans rfl) (((hI.k.holds Hcb.out HF.out.2.2.2.1).cell 0).trans rfl)) (hK _ _ (hI.pure HRM.out (i:=6) (t:=12) (by rw[hs];decide) (by decide) (by decide) zc))
  refine aN.cons (fun a w1 L fr hl hi hI hdf hs hd K hK=>?_) ?_
  . exact af (dx rfl ((fr 4 (by kernel_rfl)).trans rfl) (((hI.k.holds Hcc.out HF.out.2.2.2.2.1).cell 0).trans rfl)) (hK _ _ (hI.pure HRM.out (i:=7) (t:=13) (by rw[hs];decide) (by decide) (by decide) zc))
  refine aN.cons (fun a w1 L fr hl hi hI hdf hs hd K hK=>?_) ?_
  . have e9:a.eval (.tmp 9)=.pointer (some ⟨g,0,none⟩):=hI.p (3,9) (by decide) (hd 3 9 (by kernel_rfl))
    have e10:a.eval (.tmp 10)=.int .i64 ti:=hI.p (4,10) (by decide) (hd 4 10 (by kernel_rfl))
    have e11:a.eval (.tmp 11)=.int .i64 ai:=hI.p (5,11) (by decide) (hd 5 11 (by kernel_rfl))
    have e12:a.eval (.tmp 12)=.int .i64 bi:=hI.p (6,12) (by decide) (hd 6 12 (by kernel_rfl))
    have e13:a.eval (.tmp 13)=.int .i64 ci:=hI.p (7,13) (by decide) (hd 7 13 (by kernel_rfl))
    refine ek Tryz.func19 (by kernel_rfl) rfl #[.pointer (some ⟨g,0,none⟩),.int .i64 ti,.int .i64 ai,.int .i64 bi,.int .i64 ci] rfl (by simp only[List.map_toArray,List.map_cons,List.map_nil,e9,e10,e11,e12,e13]) ?_
    have hb1:=hI.b hi;refine(sD (HG.out.below hb1) HO.out ti ai bi ci).mono ?_;rintro r w2 ⟨rfl,hg2⟩;have hg3:=hg2.from hb1
    exact⟨_,rfl,hK _ _ (hI.call (t:=14) (n:=8) (by rw[hs];decide) (by rw[hl];decide) (by decide) hg3 (by obtain⟨_,_,_,hk,_⟩:=hg3;exact hk))⟩
  refine aN.cons (fun a w1 L fr hl hi hI hdf hs hd K hK=>?_) ?_
  . exact af (wz rfl (show a.eval (.tmp 14)=.tuple #[.int .i64 (bM M ti ai bi ci).2.1,.int .i64 (bM M ti ai bi ci).2.2]from hI.p (8,14) (by decide) (hd 8 14 (by kernel_rfl)))) (hK _ _ (hI.pure HRM.out (i:=9) (t:=15) (by rw[hs];decide) (by decide) (by decide) zc))
  refine aN.cons (fun a w1 L fr hl hi hI hdf hs hd K hK=>?_) ?_
  . exact af (vR rfl (show a.eval (.tmp 14)=.tuple #[.int .i64 (bM M ti ai bi ci).2.1,.int .i64 (bM M ti ai bi ci).2.2]from hI.p (8,14) (by decide) (hd 8 14 (by kernel_rfl)))) (hK _ _ (hI.pure HRM.out (i:=10) (t:=16) (by rw[hs];decide) (by decide) (by decide) zc))
  refine aN.cons (fun a w1 L fr hl hi hI hdf hs hd K hK=>?_) ?_
  . have e15:a.eval (.tmp 15)=.int .i64 (bM M ti ai bi ci).2.1:=hI.p (9,15) (by decide) (hd 9 15 (by kernel_rfl))
    have e16:a.eval (.tmp 16)=.int .i64 (bM M ti ai bi ci).2.2:=hI.p (10,16) (by decide) (hd 10 16 (by kernel_rfl))
    refine ek Tryz.func110 (by kernel_rfl) rfl #[.int .i64 (bM M ti ai bi ci).2.1,.int .i64 (bM M ti ai bi ci).2.2] rfl (by simp only[List.map_toArray,List.map_cons,List.map_nil,e15,e16]) ?_
    refine(Dp _ _ w1).mono ?_;rintro r w2 ⟨rfl,hb2⟩;exact⟨_,rfl,hK _ _ (hI.pure HRM.out (i:=11) (t:=17) (by rw[hs];decide) (by decide) (by decide) hb2)⟩
  exact aN.nil
 case en=>
  intro vs w6 L hI hall hval;have e11:vs 11=an (bM M ti ai bi ci).2.1 0 (bM M ti ai bi ci).2.2:=(hval 11 17 (by kernel_rfl)).symm.trans (hI.p (11,17) (by decide) (hall 11 (by decide)))
  have hg:=hI.r (hall 8 (by decide))
  obtain⟨F',x',hg1,hk1,hF1⟩:=hg;have HG6:=Y (And.intro hg1 (And.intro hk1 hF1));have HH6:=Y (hk1.holds HH.out HFO.out);simp only[List.take_succ_cons,List.take_zero,List.drop_succ_cons,List.drop_zero,bA,Act.put,zj,zr,ya,e11];clear hI hall hval hg1 hk1 hF1 e11;go_wp2_with ((with_reducible refine bg (t:=151) (p:=5) rfl ?_);refine aG rfl (ty:=151) rfl rfl (g:=w.heap.size) (off:=0) (vs:=#[.int .i64 (bM M ti ai bi ci).2.1,.int .u64 0,.int .i64 (bM M ti ai bi ci).2.2]) rfl rfl HH6.out (by show 3<=3;decide) fB (by simp[Value.oneCell']) ?_;intro w7 hh7 hs7;have HH7:=Y hh7;have HS7:=Y hs7;clear hh7 hs7)
  refine bodyPost_ret (results_cell_row rfl _ _ w.heap.size 151 #[.int .i64 (bM M ti ai bi ci).2.1,.int .u64 0,.int .i64 (bM M ti ai bi ci).2.2] (0,0) _ rfl HH7.out Tryz.underlying151 rfl fB) rfl ?_;exact⟨rfl,oF HB.out HH.out.lt HFO.out HG6.out HS7.out⟩
def P113 (M:Gm)(P g:Nat)(ti ai bi:Int):Nat->Value
 |0=>.pointer (some ⟨P,0,none⟩)
 |1=>.pointer (some ⟨P,0,none⟩)
 |2=>.pointer (some ⟨P,0,none⟩)
 |3=>.pointer (some ⟨g,0,none⟩)
 |4=>.int .i64 ti
 |5=>.int .i64 ai
 |6=>.int .i64 bi
 |7=>.tuple #[.int .u64 (bW M ti ai bi).2.1,.int .i64 (bW M ti ai bi).2.2]
 |8=>.int .u64 (bW M ti ai bi).2.1
 |9=>.int .i64 (bW M ti ai bi).2.2
 |10=>an 0 (bW M ti ai bi).2.1 (bW M ti ai bi).2.2
 |_=>undef
theorem read113 {F:Nat->Prop}{w:World}{g:Nat}{x:Gw}{M:Gm}(h:GL F w g x M)(P cp ct ca cb:Nat)(ti ai bi:Int)(vP:Value)(hcp:Holds w cp 106 [.pointer (some ⟨P,0,none⟩)])(hct:Holds w ct 3 [.int .i64 ti])(hca:Holds w ca 3 [.int .i64 ai])(hcb:Holds w cb 3 [.int .i64 bi])(hP:Holds w P 108 [.pointer (some ⟨g,0,none⟩),vP])(hF:¬ F cp/\¬ F ct/\¬ F ca/\¬ F cb/\¬ F P):
 Calls Tryz.prog 113 #[.pointer (some ⟨cp,0,none⟩),.pointer (some ⟨ct,0,none⟩),.pointer (some ⟨ca,0,none⟩),.pointer (some ⟨cb,0,none⟩)] w fun r w'=>r=.returned (an 0 (bW M ti ai bi).2.1 (bW M ti ai bi).2.2)/\GStep F w g ((bW M ti ai bi).1) w':=by
 have hu:=Tryz.underlying151;have hb:=ae (Below.refl w.heap.size w) (.cells #[.int .i64 0,.int .u64 0,.int .i64 0] 151);have hh:Holds (w.alloc (.cells #[.int .i64 0,.int .u64 0,.int .i64 0] 151)) w.heap.size 151 qx:=aK _ _;have Hcp:=Y (hcp.below hb);have Hct:=Y (hct.below hb);have Hca:=Y (hca.below hb);have Hcb:=Y (hcb.below hb);have HP:=Y (hP.below hb);have HG:=Y (h.below hb);have HF:=Y hF;have HFO:=Y (show ¬ F w.heap.size from fun e=>Nat.lt_irrefl _ (h.lt _ e))
 clear h hcp hct hca hcb hP hF;go_enter Tryz.func113,Tryz.ntmps113;go_upto_region 1 with fail
 obtain⟨W1,hW1⟩:∃ W1,W1=w.alloc (.cells #[.int .i64 0,.int .u64 0,.int .i64 0] 151):=⟨_,rfl⟩;rw[<-hW1]at hb hh HG Hcp Hct Hca Hcb HP ⊢;have HB:=Y hb;have HH:=Y hh;clear hW1 hb hh
 have HRM:aa (∀ w1 w2:World,GStep F W1 g ((bW M ti ai bi).1) w1->Below w1.heap.size w1 w2->GStep F W1 g ((bW M ti ai bi).1) w2):=⟨fun w1 w2 hg hb=>by
  obtain⟨F',x',h1,h2,h3⟩:=hg
  exact⟨F',x',h1.below hb,h2.trans (bX F hb) (fun _ _ e=>e),h3⟩⟩
 refine pu 11 16 (IR W1 F 7 (GStep F W1 g ((bW M ti ai bi).1)) [(0,5),(1,6),(2,7),(3,8),(4,9),(5,10),(6,11),(7,12),(8,13),(9,14),(10,15)] (P113 M P g ti ai bi)) (by kernel_rfl) (by rfl) (by kernel_rfl) ⟨fun _=>bv zc,fun h=>by(rw[dI]at h;cases h),bX F (bv zc),fun y hy h=>by(rw[dI]at h;cases h)⟩ ?st ?en
 case st=>
  refine aN.cons (fun a w1 L fr hl hi hI hdf hs hd K hK=>?_) ?_
  . exact af (nO rfl ((fr 0 (by kernel_rfl)).trans rfl) (((hI.k.holds Hcp.out HF.out.1).cell 0).trans rfl)) (hK _ _ (hI.pure HRM.out (i:=0) (t:=5) (by rw[hs];decide) (by decide) (by decide) zc))
  refine aN.cons (fun a w1 L fr hl hi hI hdf hs hd K hK=>?_) ?_
  . exact af (bZ rfl (show a.eval (.tmp 5)=.pointer (some ⟨P,0,none⟩)from hI.p (0,5) (by decide) (hd 0 5 (by kernel_rfl)))) (hK _ _ (hI.pure HRM.out (i:=1) (t:=6) (by rw[hs];decide) (by decide) (by decide) zc))
  refine aN.cons (fun a w1 L fr hl hi hI hdf hs hd K hK=>?_) ?_
  . exact af (lw (i:=0) (by decide) rfl (show a.eval (.tmp 6)=.pointer (some ⟨P,0,none⟩)from hI.p (1,6) (by decide) (hd 1 6 (by kernel_rfl)))) (hK _ _ (hI.pure HRM.out (i:=2) (t:=7) (by rw[hs];decide) (by decide) (by decide) zc))
  refine aN.cons (fun a w1 L fr hl hi hI hdf hs hd K hK=>?_) ?_
  . exact af (oI rfl (show a.eval (.tmp 7)=.pointer (some ⟨P,0,none⟩)from hI.p (2,7) (by decide) (hd 2 7 (by kernel_rfl))) (((hI.k.holds HP.out HF.out.2.2.2.2).cell 0).trans rfl)) (hK _ _ (hI.pure HRM.out (i:=3) (t:=8) (by rw[hs];decide) (by decide) (by decide) zc))
  refine aN.cons (fun a w1 L fr hl hi hI hdf hs hd K hK=>?_) ?_
  . exact af (dx rfl ((fr 1 (by kernel_rfl)).trans rfl) (((hI.k.holds Hct.out HF.out.2.1).cell 0).trans rfl)) (hK _ _ (hI.pure HRM.out (i:=4) (t:=9) (by rw[hs];decide) (by decide) (by decide) zc))
  refine aN.cons (fun a w1 L fr hl hi hI hdf hs hd K hK=>?_) ?_
  . exact af (dx rfl ((fr 2 (by kernel_rfl)).trans rfl) (((hI.k.holds Hca.out HF.out.2.2.1).cell 0).trans rfl)) (hK _ _ (hI.pure HRM.out (i:=5) (t:=10) (by rw[hs];decide) (by decide) (by decide) zc))
  refine aN.cons (fun a w1 L fr hl hi hI hdf hs hd K hK=>?_) ?_
  . exact af (dx rfl ((fr 3 (by kernel_rfl)).trans rfl) (((hI.k.holds Hcb.out HF.out.2.2.2.1).cell 0).trans rfl)) (hK _ _ (hI.pure HRM.out (i:=6) (t:=11) (by rw[hs];decide) (by decide) (by decide) zc))
  refine aN.cons (fun a w1 L fr hl hi hI hdf hs hd K hK=>?_) ?_
  . have e8:a.eval (.tmp 8)=.pointer (some ⟨g,0,none⟩):=hI.p (3,8) (by decide) (hd 3 8 (by kernel_rfl))
    have e9:a.eval (.tmp 9)=.int .i64 ti:=hI.p (4,9) (by decide) (hd 4 9 (by kernel_rfl))
    have e10:a.eval (.tmp 10)=.int .i64 ai:=hI.p (5,10) (by decide) (hd 5 10 (by kernel_rfl))
    have e11:a.eval (.tmp 11)=.int .i64 bi:=hI.p (6,11) (by decide) (hd 6 11 (by kernel_rfl))
    refine ek Tryz.func22 (by kernel_rfl) rfl #[.pointer (some ⟨g,0,none⟩),.int .i64 ti,.int .i64 ai,.int .i64 bi] rfl (by simp only[List.map_toArray,List.map_cons,List.map_nil,e8,e9,e10,e11]) ?_
    have hb1:=hI.b hi;refine(uq (HG.out.below hb1) ti ai bi).mono ?_;rintro r w2 ⟨rfl,hg2⟩;have hg3:=hg2.from hb1
    exact⟨_,rfl,hK _ _ (hI.call (t:=12) (n:=7) (by rw[hs];decide) (by rw[hl];decide) (by decide) hg3 (by obtain⟨_,_,_,hk,_⟩:=hg3;exact hk))⟩
  refine aN.cons (fun a w1 L fr hl hi hI hdf hs hd K hK=>?_) ?_
  . exact af (wz rfl (show a.eval (.tmp 12)=.tuple #[.int .u64 (bW M ti ai bi).2.1,.int .i64 (bW M ti ai bi).2.2]from hI.p (7,12) (by decide) (hd 7 12 (by kernel_rfl)))) (hK _ _ (hI.pure HRM.out (i:=8) (t:=13) (by rw[hs];decide) (by decide) (by decide) zc))
  refine aN.cons (fun a w1 L fr hl hi hI hdf hs hd K hK=>?_) ?_
  . exact af (vR rfl (show a.eval (.tmp 12)=.tuple #[.int .u64 (bW M ti ai bi).2.1,.int .i64 (bW M ti ai bi).2.2]from hI.p (7,12) (by decide) (hd 7 12 (by kernel_rfl)))) (hK _ _ (hI.pure HRM.out (i:=9) (t:=14) (by rw[hs];decide) (by decide) (by decide) zc))
  refine aN.cons (fun a w1 L fr hl hi hI hdf hs hd K hK=>?_) ?_
  . have e13:a.eval (.tmp 13)=.int .u64 (bW M ti ai bi).2.1:=hI.p (8,13) (by decide) (hd 8 13 (by kernel_rfl))
    have e14:a.eval (.tmp 14)=.int .i64 (bW M ti ai bi).2.2:=hI.p (9,14) (by decide) (hd 9 14 (by kernel_rfl))
    refine ek Tryz.func114 (by kernel_rfl) rfl #[.int .u64 (bW M ti ai bi).2.1,.int .i64 (bW M ti ai bi).2.2] rfl (by simp only[List.map_toArray,List.map_cons,List.map_nil,e13,e14]) ?_
    refine(Ej _ _ w1).mono ?_;rintro r w2 ⟨rfl,hb2⟩;exact⟨_,rfl,hK _ _ (hI.pure HRM.out (i:=10) (t:=15) (by rw[hs];decide) (by decide) (by decide) hb2)⟩
  exact aN.nil
 case en=>
  intro vs w6 L hI hall hval;have e11:vs 10=an 0 (bW M ti ai bi).2.1 (bW M ti ai bi).2.2:=(hval 10 15 (by kernel_rfl)).symm.trans (hI.p (10,15) (by decide) (hall 10 (by decide)))
  have hg:=hI.r (hall 7 (by decide))
  obtain⟨F',x',hg1,hk1,hF1⟩:=hg;have HG6:=Y (And.intro hg1 (And.intro hk1 hF1));have HH6:=Y (hk1.holds HH.out HFO.out);simp only[List.take_succ_cons,List.take_zero,List.drop_succ_cons,List.drop_zero,bA,Act.put,zj,zr,ya,e11];clear hI hall hval hg1 hk1 hF1 e11;go_wp2_with ((with_reducible refine bg (t:=151) (p:=4) rfl ?_);refine aG rfl (ty:=151) rfl rfl (g:=w.heap.size) (off:=0) (vs:=#[.int .i64 0,.int .u64 (bW M ti ai bi).2.1,.int .i64 (bW M ti ai bi).2.2]) rfl rfl HH6.out (by show 3<=3;decide) fB (by simp[Value.oneCell']) ?_;intro w7 hh7 hs7;have HH7:=Y hh7;have HS7:=Y hs7;clear hh7 hs7)
  refine bodyPost_ret (results_cell_row rfl _ _ w.heap.size 151 #[.int .i64 0,.int .u64 (bW M ti ai bi).2.1,.int .i64 (bW M ti ai bi).2.2] (0,0) _ rfl HH7.out Tryz.underlying151 rfl fB) rfl ?_;exact⟨rfl,oF HB.out HH.out.lt HFO.out HG6.out HS7.out⟩
theorem yS {o:Oper}{a:Act}{W:World}{x:Operand}{e:Int}(ho:o.op=.build 151 #[(2,x)])(hx:a.eval x=.int .i64 e):(execOp a.eval o).run Tryz.prog W=.ok (.value (an 0 0 e)) W:=by
 have hu:=Tryz.underlying151;generalize a.eval=E at hx ⊢;unfold execOp;simp only[ho]
 go_simp
def P115 (M:Gm)(P g co:Nat)(ti ai bi vi:Int):Nat->Value
 |0=>.pointer (some ⟨P,0,none⟩)
 |1=>.pointer (some ⟨P,0,none⟩)
 |2=>.pointer (some ⟨P,0,none⟩)
 |3=>.pointer (some ⟨g,0,none⟩)
 |4=>.int .i64 ti
 |5=>.int .i64 ai
 |6=>.int .i64 bi
 |7=>.pointer (some ⟨co,3,none⟩)
 |8=>.int .u8 vi
 |9=>.int .u64 vi
 |10=>.int .i64 (dM M ti ai bi vi).2.2
 |11=>an 0 0 (dM M ti ai bi vi).2.2
 |_=>undef
theorem Ez {F:Nat->Prop}{w:World}{g:Nat}{x:Gw}{M:Gm}(h:GL F w g x M)(P cp ct ca cb co:Nat)(ti ai bi d0 d1 d2 vi:Int)(vP:Value)(hv:0<=vi/\vi<=255)(hcp:Holds w cp 106 [.pointer (some ⟨P,0,none⟩)])(hct:Holds w ct 3 [.int .i64 ti])(hca:Holds w ca 3 [.int .i64 ai])(hcb:Holds w cb 3 [.int .i64 bi])(hco:Holds w co 100 [.int .u8 d0,.int .u8 d1,.int .u8 d2,.int .u8 vi])(hP:Holds w P 108 [.pointer (some ⟨g,0,none⟩),vP])(hF:¬ F cp/\¬ F ct/\¬ F ca/\¬ F cb/\¬ F co/\¬ F P):
 Calls Tryz.prog 115 #[.pointer (some ⟨cp,0,none⟩),.pointer (some ⟨ct,0,none⟩),.pointer (some ⟨ca,0,none⟩),.pointer (some ⟨cb,0,none⟩),.pointer (some ⟨co,0,none⟩)] w fun r w'=>r=.returned (an 0 0 (dM M ti ai bi vi).2.2)/\GStep F w g ((dM M ti ai bi vi).1) w':=by
 have hu:=Tryz.underlying151;have hb:=ae (Below.refl w.heap.size w) (.cells #[.int .i64 0,.int .u64 0,.int .i64 0] 151);have hh:Holds (w.alloc (.cells #[.int .i64 0,.int .u64 0,.int .i64 0] 151)) w.heap.size 151 qx:=aK _ _;have Hcp:=Y (hcp.below hb);have Hct:=Y (hct.below hb);have Hca:=Y (hca.below hb);have Hcb:=Y (hcb.below hb);have Hco:=Y (hco.below hb);have HP:=Y (hP.below hb);have HG:=Y (h.below hb);have HV:=Y hv;have HW:=Y (wf_u64b hv);clear hv;have HF:=Y hF;have HFO:=Y (show ¬ F w.heap.size from fun e=>Nat.lt_irrefl _ (h.lt _ e))
 clear h hcp hct hca hcb hco hP hF;go_enter Tryz.func115,Tryz.ntmps115;go_upto_region 1 with fail
 obtain⟨W1,hW1⟩:∃ W1,W1=w.alloc (.cells #[.int .i64 0,.int .u64 0,.int .i64 0] 151):=⟨_,rfl⟩;rw[<-hW1]at hb hh HG Hcp Hct Hca Hcb Hco HP ⊢;have HB:=Y hb;have HH:=Y hh;clear hW1 hb hh
 have HRM:aa (∀ w1 w2:World,GStep F W1 g ((dM M ti ai bi vi).1) w1->Below w1.heap.size w1 w2->GStep F W1 g ((dM M ti ai bi vi).1) w2):=⟨fun w1 w2 hg hb=>by
  obtain⟨F',x',h1,h2,h3⟩:=hg
  exact⟨F',x',h1.below hb,h2.trans (bX F hb) (fun _ _ e=>e),h3⟩⟩
 refine pu 12 18 (IR W1 F 10 (GStep F W1 g ((dM M ti ai bi vi).1)) [(0,6),(1,7),(2,8),(3,9),(4,10),(5,11),(6,12),(7,13),(8,14),(9,15),(10,16),(11,17)] (P115 M P g co ti ai bi vi)) (by kernel_rfl) (by rfl) (by kernel_rfl) ⟨fun _=>bv zc,fun h=>by(rw[dI]at h;cases h),bX F (bv zc),fun y hy h=>by(rw[dI]at h;cases h)⟩ ?st ?en
 case st=>
  refine aN.cons (fun a w1 L fr hl hi hI hdf hs hd K hK=>?_) ?_
  . exact af (nO rfl ((fr 0 (by kernel_rfl)).trans rfl) (((hI.k.holds Hcp.out HF.out.1).cell 0).trans rfl)) (hK _ _ (hI.pure HRM.out (i:=0) (t:=6) (by rw[hs];decide) (by decide) (by decide) zc))
  refine aN.cons (fun a w1 L fr hl hi hI hdf hs hd K hK=>?_) ?_
  . exact af (bZ rfl (show a.eval (.tmp 6)=.pointer (some ⟨P,0,none⟩)from hI.p (0,6) (by decide) (hd 0 6 (by kernel_rfl)))) (hK _ _ (hI.pure HRM.out (i:=1) (t:=7) (by rw[hs];decide) (by decide) (by decide) zc))
  refine aN.cons (fun a w1 L fr hl hi hI hdf hs hd K hK=>?_) ?_
  . exact af (lw (i:=0) (by decide) rfl (show a.eval (.tmp 7)=.pointer (some ⟨P,0,none⟩)from hI.p (1,7) (by decide) (hd 1 7 (by kernel_rfl)))) (hK _ _ (hI.pure HRM.out (i:=2) (t:=8) (by rw[hs];decide) (by decide) (by decide) zc))
  refine aN.cons (fun a w1 L fr hl hi hI hdf hs hd K hK=>?_) ?_
  . exact af (oI rfl (show a.eval (.tmp 8)=.pointer (some ⟨P,0,none⟩)from hI.p (2,8) (by decide) (hd 2 8 (by kernel_rfl))) (((hI.k.holds HP.out HF.out.2.2.2.2.2).cell 0).trans rfl)) (hK _ _ (hI.pure HRM.out (i:=3) (t:=9) (by rw[hs];decide) (by decide) (by decide) zc))
  refine aN.cons (fun a w1 L fr hl hi hI hdf hs hd K hK=>?_) ?_
  . exact af (dx rfl ((fr 1 (by kernel_rfl)).trans rfl) (((hI.k.holds Hct.out HF.out.2.1).cell 0).trans rfl)) (hK _ _ (hI.pure HRM.out (i:=4) (t:=10) (by rw[hs];decide) (by decide) (by decide) zc))
  refine aN.cons (fun a w1 L fr hl hi hI hdf hs hd K hK=>?_) ?_
  . exact af (dx rfl ((fr 2 (by kernel_rfl)).trans rfl) (((hI.k.holds Hca.out HF.out.2.2.1).cell 0).trans rfl)) (hK _ _ (hI.pure HRM.out (i:=5) (t:=11) (by rw[hs];decide) (by decide) (by decide) zc))
  refine aN.cons (fun a w1 L fr hl hi hI hdf hs hd K hK=>?_) ?_
  . exact af (dx rfl ((fr 3 (by kernel_rfl)).trans rfl) (((hI.k.holds Hcb.out HF.out.2.2.2.1).cell 0).trans rfl)) (hK _ _ (hI.pure HRM.out (i:=6) (t:=12) (by rw[hs];decide) (by decide) (by decide) zc))
  refine aN.cons (fun a w1 L fr hl hi hI hdf hs hd K hK=>?_) ?_
  . exact af (gL (i:=3) (by decide) rfl ((fr 4 (by kernel_rfl)).trans rfl)) (hK _ _ (hI.pure HRM.out (i:=7) (t:=13) (by rw[hs];decide) (by decide) (by decide) zc))
  refine aN.cons (fun a w1 L fr hl hi hI hdf hs hd K hK=>?_) ?_
  . exact af (gB rfl (show a.eval (.tmp 13)=.pointer (some ⟨co,3,none⟩)from hI.p (7,13) (by decide) (hd 7 13 (by kernel_rfl))) (((hI.k.holds Hco.out HF.out.2.2.2.2.1).cell 3).trans rfl)) (hK _ _ (hI.pure HRM.out (i:=8) (t:=14) (by rw[hs];decide) (by decide) (by decide) zc))
  refine aN.cons (fun a w1 L fr hl hi hI hdf hs hd K hK=>?_) ?_
  . exact af (xV rfl (show a.eval (.tmp 14)=.int .u8 vi from hI.p (8,14) (by decide) (hd 8 14 (by kernel_rfl))) HV.out) (hK _ _ (hI.pure HRM.out (i:=9) (t:=15) (by rw[hs];decide) (by decide) (by decide) zc))
  refine aN.cons (fun a w1 L fr hl hi hI hdf hs hd K hK=>?_) ?_
  . have e9:a.eval (.tmp 9)=.pointer (some ⟨g,0,none⟩):=hI.p (3,9) (by decide) (hd 3 9 (by kernel_rfl))
    have e10:a.eval (.tmp 10)=.int .i64 ti:=hI.p (4,10) (by decide) (hd 4 10 (by kernel_rfl))
    have e11:a.eval (.tmp 11)=.int .i64 ai:=hI.p (5,11) (by decide) (hd 5 11 (by kernel_rfl))
    have e12:a.eval (.tmp 12)=.int .i64 bi:=hI.p (6,12) (by decide) (hd 6 12 (by kernel_rfl))
    have e15:a.eval (.tmp 15)=.int .u64 vi:=hI.p (9,15) (by decide) (hd 9 15 (by kernel_rfl))
    refine ek Tryz.func23 (by kernel_rfl) rfl #[.pointer (some ⟨g,0,none⟩),.int .i64 ti,.int .i64 ai,.int .i64 bi,.int .u64 vi] rfl (by simp only[List.map_toArray,List.map_cons,List.map_nil,e9,e10,e11,e12,e15]) ?_
    have hb1:=hI.b hi;refine(rV (HG.out.below hb1) ti ai bi vi HW.out).mono ?_;rintro r w2 ⟨rfl,hg2⟩;have hg3:=hg2.from hb1
    exact⟨_,rfl,hK _ _ (hI.call (t:=16) (n:=10) (by rw[hs];decide) (by rw[hl];decide) (by decide) hg3 (by obtain⟨_,_,_,hk,_⟩:=hg3;exact hk))⟩
  refine aN.cons (fun a w1 L fr hl hi hI hdf hs hd K hK=>?_) ?_
  . exact af (yS rfl (show a.eval (.tmp 16)=.int .i64 (dM M ti ai bi vi).2.2 from hI.p (10,16) (by decide) (hd 10 16 (by kernel_rfl)))) (hK _ _ (hI.pure HRM.out (i:=11) (t:=17) (by rw[hs];decide) (by decide) (by decide) zc))
  exact aN.nil
 case en=>
  intro vs w6 L hI hall hval;have e11:vs 11=an 0 0 (dM M ti ai bi vi).2.2:=(hval 11 17 (by kernel_rfl)).symm.trans (hI.p (11,17) (by decide) (hall 11 (by decide)))
  have hg:=hI.r (hall 10 (by decide))
  obtain⟨F',x',hg1,hk1,hF1⟩:=hg;have HG6:=Y (And.intro hg1 (And.intro hk1 hF1));have HH6:=Y (hk1.holds HH.out HFO.out);simp only[List.take_succ_cons,List.take_zero,List.drop_succ_cons,List.drop_zero,bA,Act.put,zj,zr,ya,e11];clear hI hall hval hg1 hk1 hF1 e11;go_wp2_with ((with_reducible refine bg (t:=151) (p:=5) rfl ?_);refine aG rfl (ty:=151) rfl rfl (g:=w.heap.size) (off:=0) (vs:=#[.int .i64 0,.int .u64 0,.int .i64 (dM M ti ai bi vi).2.2]) rfl rfl HH6.out (by show 3<=3;decide) fB (by simp[Value.oneCell']) ?_;intro w7 hh7 hs7;have HH7:=Y hh7;have HS7:=Y hs7;clear hh7 hs7)
  refine bodyPost_ret (results_cell_row rfl _ _ w.heap.size 151 #[.int .i64 0,.int .u64 0,.int .i64 (dM M ti ai bi vi).2.2] (0,0) _ rfl HH7.out Tryz.underlying151 rfl fB) rfl ?_;exact⟨rfl,oF HB.out HH.out.lt HFO.out HG6.out HS7.out⟩
end
end Go.Proofs.YtglikkmmbdnmbaaGreat.Im
namespace Go.Proofs.YtglikkmmbdnmbaaGreat.Im
open Go.RowKit Q7
open YtglikkmmbdnmbaaGreat.Own PCan Wv
set_option linter.unusedVariables false
set_option linter.unusedSimpArgs false
open Classical in
section
noncomputable def Rf (caps:Nat->Array Value):Value->Option (DataW Unit×List MemPlace)
 |.func (.func f) b cap=>if b=#[]/\cap=caps f then some (.lit (.int .i64 (f:Int)),[])else none
 |.nilFunc=>some (.lit (.int .i64 (-1)),[])
 |_=>none
theorem Rf_mk (caps:Nat->Array Value)(f:Nat):Rf caps (.func (.func f) #[] (caps f))=some (.lit (.int .i64 (f:Int)),[]):=by
 simp [Rf]
theorem Rf_inv {caps:Nat->Array Value}{v:Value}{z:DataW Unit×List MemPlace}{f:Nat}(h:Rf caps v=some z)(hz:z.1=.lit (.int .i64 (f:Int))):v=.func (.func f) #[] (caps f):=by
 unfold Rf at h
 split at h
 . rename_i f' b cap
   split at h
   . rename_i hc
     obtain rfl:=Option.some.inj h;injection hz with hz
     injection hz with _ hz
     obtain rfl:=Int.ofNat.inj hz;rw[hc.1,hc.2]
   . cases h
 . obtain rfl:=Option.some.inj h;injection hz with hz
   injection hz with _ hz
   omega
 . cases h
def FnD (fs:List Nat)(D:DataW Unit):Prop:=Maps.Tidy D/\(∀ x:Int,Maps.has D (.int .u8 x)=decide (1<=x/\x<=(fs.length:Int)))/\∀(i f:Nat),fs[i]? =some f->∀ zd,D.atKey (.int .u8 ((i:Int)+1)) zd=.lit (.int .i64 (f:Int))
theorem uX:FnD [] (.map []):=⟨Maps.tidy_empty,fun x=>by rw[yd (by simp;omega)];rfl,fun i f h=>by simp at h⟩
theorem fnD_put {fs:List Nat}{D:DataW Unit}(h:FnD fs D){f:Nat}(ht:Maps.Tidy (D.put (.int .u8 ((fs.length:Int)+1)) (.lit (.int .i64 (f:Int))))):FnD (fs++[f]) (D.put (.int .u8 ((fs.length:Int)+1)) (.lit (.int .i64 (f:Int)))):=by
 have hk:WideAt.IsKeyLit (.int .u8 ((fs.length:Int)+1)):=trivial;refine⟨ht,fun x=>?_,fun i c hi zd=>?_⟩
 . by_cases e:x=(fs.length:Int)+1
   . subst e;rw[Maps.has_put_same h.1.isMap hk,yb (by simp;omega)]
   . rw[Maps.has_put_other (fun e2=>e (by injection e2)),h.2.1 x]
     simp only[List.length_append,List.length_singleton];exact decide_eq_decide.2 (by omega)
 . by_cases e:i=fs.length
   . subst e;rw[Maps.atKey_put_same h.1.isMap hk];have:f=c:=by simpa using hi
     rw[this]
   . have hl:i<fs.length:=by
      have:=(List.getElem?_eq_some_iff.1 hi).1;rw[List.length_append,List.length_singleton]at this;omega
     rw[List.getElem?_append_left hl]at hi;rw[Maps.atKey_put_other (fun e2=>e (by injection e2;omega)),h.2.2 i c hi zd]
theorem wf_u8 {y:Int}(h:0<=y/\y<=255):(Lit.int .u8 y).wf=true:=by
 simp [Lit.wf,IntKind.min,IntKind.max,IntKind.bits,IntKind.signed];omega
def HasF (caps:Nat->Array Value)(b:Nat)(fs:List Nat)(W:World):Prop:=∃ D,W.ownsMap Tryz.prog 5 (Rf caps) b fs.length D/\FnD fs D
theorem qB {W:World}{ops:Array Oper}{rest:List Oper}{o:Oper}{a:Act}{Q:Exit->Act->World->Prop}(hg:o.guard=none)(m x v:Operand)(hop:o.op=.insert 173 m x v)(caps:Nat->Array Value)(b f:Nat)(fs:List Nat)
 (hm:a.eval m=.map (some b)) (hx:a.eval x=.int .u8 ((fs.length:Int)+1)) (hv:a.eval v=.func (.func f) #[] (caps f)) (h:HasF caps b fs W) (hl:fs.length<200)
 (hK:∀ w',HasF caps b (fs++[f]) w'->W.grownBy w' (some b)->wpList Tryz.prog ops Q rest (a.put o.dst undef) w'):
 wpList Tryz.prog ops Q (o :: rest) a W:=by
 obtain⟨D,hD,hF⟩:=h
 have hml:fs.length<maxLen:=by
  have:(200:Nat)<maxLen:=by decide
  omega
 obtain⟨w',hrun,r1,r2⟩:=hD.update (t:=173) (Maps.int_keyed Tryz.underlying5) Tryz.underlying173 hml (Maps.keyOf_int_mk Tryz.underlying5 (wf_u8 (y:=(fs.length:Int)+1) (by omega))) (Rf_mk caps f)
 refine wpList_plain hg fun K' hK'=>?_
 unfold Oper.wp;simp [execOp,hop,hm,hx,hv,hrun,Result.andThen];exact hK' _ _ (hK w' ⟨_,by rw[List.length_append];exact r1,fnD_put hF (r1.tidy (Maps.int_keyed Tryz.underlying5))⟩ r2)
theorem HasF.look {caps:Nat->Array Value}{b:Nat}{fs:List Nat}{W:World}(h:HasF caps b fs W){i f:Nat}(hi:fs[i]? =some f)(hl:fs.length<200):(Instr.lookup 173 (.map (some b)) (.int .u8 ((i:Int)+1)) true).run Tryz.prog W=.ok (.tuple #[.func (.func f) #[] (caps f),.bool true]) W:=by
 obtain⟨D,hD,hF⟩:=h;have hlt:=(List.getElem?_eq_some_iff.1 hi).1;obtain⟨v,ps,hrun,hv⟩:=hD.look_ok (t:=173) (e:=171) (Maps.int_keyed Tryz.underlying5) Tryz.underlying173 (z:=.nilFunc) (Tryz.zeroValue171 _) (zd:=.lit (.int .i64 (-1))) (zp:=[]) rfl (Maps.keyOf_int_mk Tryz.underlying5 (wf_u8 (y:=(i:Int)+1) (by omega)))
 rw[hF.2.1,yb (by omega)]at hrun
 rw[hF.2.2 i f hi]at hv;rw[Rf_inv hv rfl]at hrun;exact hrun
theorem nS {F F':Nat->Prop}{w W1 w6 w7:World}{g b:Nat}{x':Gw}{M:Gm}(hb:Below w.heap.size w W1)(hle:w.heap.size<=b)(hlt:b<W1.heap.size)(hF:¬ F b)(h:GL F' w6 g x' M/\Kp F W1 w6/\∀ q,F' q->F q\/W1.heap.size<=q)(hs:bH w6 w7 b):GStep F w g M w7:=by
 obtain⟨h1,h2,h3⟩:=h;have hk:=bR hs;refine⟨F',x',h1.kp hk (fun q hq _ e=>?_),?_,fun q hq=>(h3 q hq).imp id (fun e=>Nat.le_trans hb.size e)⟩
 . have e':q=b:=e
   rcases h3 q hq with h4|h4
   . exact hF (e'▸h4)
   . omega
 . refine((bX F hb).trans h2 (fun _ _ e=>e)).trans hk (fun q hq e=>?_)
   have e':q=b:=e;omega
def pE (cp ct co q8 q9 q10:Nat):Nat->Array Value
 |109=>#[.pointer (some ⟨cp,0,none⟩),.pointer (some ⟨ct,0,none⟩),.pointer (some ⟨q8,0,none⟩),.pointer (some ⟨q9,0,none⟩),.pointer (some ⟨q10,0,none⟩)]
 |111=>#[.pointer (some ⟨cp,0,none⟩),.pointer (some ⟨ct,0,none⟩),.pointer (some ⟨q8,0,none⟩),.pointer (some ⟨q9,0,none⟩),.pointer (some ⟨q10,0,none⟩)]
 |112=>#[.pointer (some ⟨cp,0,none⟩),.pointer (some ⟨ct,0,none⟩),.pointer (some ⟨q8,0,none⟩),.pointer (some ⟨q9,0,none⟩),.pointer (some ⟨q10,0,none⟩)]
 |113=>#[.pointer (some ⟨cp,0,none⟩),.pointer (some ⟨ct,0,none⟩),.pointer (some ⟨q8,0,none⟩),.pointer (some ⟨q9,0,none⟩)]
 |115=>#[.pointer (some ⟨cp,0,none⟩),.pointer (some ⟨ct,0,none⟩),.pointer (some ⟨q8,0,none⟩),.pointer (some ⟨q9,0,none⟩),.pointer (some ⟨co,0,none⟩)]
 |116=>#[.pointer (some ⟨cp,0,none⟩),.pointer (some ⟨ct,0,none⟩),.pointer (some ⟨q8,0,none⟩),.pointer (some ⟨q9,0,none⟩)]
 |117=>#[.pointer (some ⟨cp,0,none⟩),.pointer (some ⟨ct,0,none⟩),.pointer (some ⟨q8,0,none⟩),.pointer (some ⟨q9,0,none⟩)]
 |118=>#[.pointer (some ⟨cp,0,none⟩),.pointer (some ⟨ct,0,none⟩),.pointer (some ⟨q8,0,none⟩),.pointer (some ⟨q9,0,none⟩)]
 |_=>#[.pointer (some ⟨cp,0,none⟩),.pointer (some ⟨ct,0,none⟩),.pointer (some ⟨q8,0,none⟩)]
def P91 (co:Nat)(ai bi ci:Int):Nat->Value
 |0=>.pointer (some ⟨co,1,none⟩)
 |1=>.int .u8 ai
 |2=>.int .i64 ai
 |3=>.pointer (some ⟨co,2,none⟩)
 |4=>.int .u8 bi
 |5=>.int .i64 bi
 |6=>.pointer (some ⟨co,3,none⟩)
 |7=>.int .u8 ci
 |8=>.int .i64 ci
 |_=>undef
def C91 (ai bi ci:Int):Nat->Int
 |9=>ai
 |10=>bi
 |11=>ci
 |_=>0
theorem Bz {F:Nat->Prop}{w:World}{g:Nat}{x:Gw}{M:Gm}(h:GL F w g x M)(hO:M.O.length<1000)(P:Nat)(ti ai bi ci:Int)(vP:Value)(hu:(0<=ai/\ai<=255)/\(0<=bi/\bi<=255)/\(0<=ci/\ci<=255))(hP:Holds w P 108 [.pointer (some ⟨g,0,none⟩),vP])(hF:¬ F P):
 Calls Tryz.prog 91 #[.pointer (some ⟨P,0,none⟩),.int .i64 ti,.agg #[.int .u8 1,.int .u8 ai,.int .u8 bi,.int .u8 ci]] w fun r w'=>r=.returned (.tuple #[an (bM M ti ai bi ci).2.1 0 (bM M ti ai bi ci).2.2,.bool true])/\GStep F w g ((bM M ti ai bi ci).1) w':=by
 have hu151:=Tryz.underlying151;have hu100:=Tryz.underlying100;have hmf:∀(fn:Fn) (first cap:Array Value) (w:World),(Instr.makeFunc fn first cap).run Tryz.prog w=.ok (.func fn first cap) w:=fun _ _ _ _=>rfl
 have hmm:∀(w:World),(Instr.makeMap 173 none).run Tryz.prog w=.ok (.map (some w.heap.size)) (w.alloc (.map #[] 0)):=fun w=>rfl
 obtain⟨W1,hW1⟩:∃ W1,W1=(((w.alloc (.cells #[.pointer (some ⟨P,0,none⟩)] 106)).alloc (.cells #[.int .i64 ti] 3)).alloc (.cells #[.int .u8 1,.int .u8 ai,.int .u8 bi,.int .u8 ci] 100)).alloc (.cells #[.int .i64 0,.int .u64 0,.int .i64 0] 151):=⟨_,rfl⟩;have hb1:Below w.heap.size w W1:=by rw[hW1];exact ae (ae (ae (ae zc _) _) _) _
 have k1:Holds W1 w.heap.size 106 [.pointer (some ⟨P,0,none⟩)]:=by rw[hW1];exact aI (aI (aI (bN (by simp)) _) _) _
 have k2:Holds W1 (w.heap.size+1) 3 [.int .i64 ti]:=by rw[hW1];exact aI (aI (bN (by simp)) _) _
 have k3:Holds W1 (w.heap.size+1+1) 100 [.int .u8 1,.int .u8 ai,.int .u8 bi,.int .u8 ci]:=by rw[hW1];exact aI (bN (by simp)) _
 have k4:Holds W1 (w.heap.size+1+1+1) 151 qx:=by rw[hW1];exact bN (by simp)
 have hz1:W1.heap.size=w.heap.size+1+1+1+1:=by rw[hW1];simp
 have HG:=Y (h.below hb1);have HFF:=Y (fun q hq=>h.lt q hq)
 have HPP:=Y (And.intro (hP.below hb1) hF);have HU:=Y hu;have HOL:=Y hO;clear hO;clear h hP hF hu;go_enter Tryz.func91,Tryz.ntmps91;go_upto_region 1 with fail
 rw[<-hW1];clear hW1;obtain⟨cp,hcp⟩:∃ cp,cp=w.heap.size:=⟨_,rfl⟩;obtain⟨ct,hct⟩:∃ ct,ct=w.heap.size+1:=⟨_,rfl⟩;obtain⟨co,hco⟩:∃ co,co=w.heap.size+1+1:=⟨_,rfl⟩;obtain⟨cr,hcr⟩:∃ cr,cr=w.heap.size+1+1+1:=⟨_,rfl⟩;rw[<-hcr]at k4 hz1 ⊢;rw[<-hco]at k3 hcr ⊢;rw[<-hct]at k2 hco ⊢;rw[<-hcp]at k1 hct ⊢;have HNUM:=Y (show cp=w.heap.size/\w.heap.size<ct/\w.heap.size<co/\w.heap.size<cr/\cr<W1.heap.size by omega)
 have HCP:=Y k1;have HCT:=Y k2;have HO:=Y k3;have HR:=Y k4;have HB1:=Y hb1;clear k1 k2 k3 k4 hz1 hcp hct hco hcr hb1;refine pu 15 48 (IC W1 [(0,14),(1,15),(2,16),(3,17),(4,18),(5,19),(6,20),(7,21),(8,22)] (P91 co ai bi ci) [(9,12,8),(10,13,9),(11,14,10)] (C91 ai bi ci)) (by kernel_rfl) (by rfl) (by kernel_rfl) ⟨bv zc,fun y hy h=>by(rw[dI]at h;cases h),fun y hy h=>by(rw[dI]at h;cases h),fun y hy z hz _ h=>by(rw[dI]at h;cases h),fun y hy h=>by(rw[dI]at h;cases h)⟩ ?st ?en
 case st=>
  refine aN.cons (fun a w1 L fr hl hi hI hdf hs hd K hK=>?_) ?_
  . exact af (gL (i:=1) (by decide) rfl ((fr 5 (by kernel_rfl)).trans rfl)) (hK _ _ (hI.pure (i:=0) (t:=14) (by rw[hs];decide) (by rw[hl];decide) (by decide)))
  refine aN.cons (fun a w1 L fr hl hi hI hdf hs hd K hK=>?_) ?_
  . exact af (gB rfl (show a.eval (.tmp 14)=.pointer (some ⟨co,1,none⟩)from hI.p (0,14) (by decide) (hd 0 14 (by kernel_rfl))) (((HO.out.below hI.below).cell 1).trans rfl)) (hK _ _ (hI.pure (i:=1) (t:=15) (by rw[hs];decide) (by rw[hl];decide) (by decide)))
  refine aN.cons (fun a w1 L fr hl hi hI hdf hs hd K hK=>?_) ?_
  . exact af (gM rfl (show a.eval (.tmp 15)=.int .u8 ai from hI.p (1,15) (by decide) (hd 1 15 (by kernel_rfl))) HU.out.1) (hK _ _ (hI.pure (i:=2) (t:=16) (by rw[hs];decide) (by rw[hl];decide) (by decide)))
  refine aN.cons (fun a w1 L fr hl hi hI hdf hs hd K hK=>?_) ?_
  . exact af (gL (i:=2) (by decide) rfl ((fr 5 (by kernel_rfl)).trans rfl)) (hK _ _ (hI.pure (i:=3) (t:=17) (by rw[hs];decide) (by rw[hl];decide) (by decide)))
  refine aN.cons (fun a w1 L fr hl hi hI hdf hs hd K hK=>?_) ?_
  . exact af (gB rfl (show a.eval (.tmp 17)=.pointer (some ⟨co,2,none⟩)from hI.p (3,17) (by decide) (hd 3 17 (by kernel_rfl))) (((HO.out.below hI.below).cell 2).trans rfl)) (hK _ _ (hI.pure (i:=4) (t:=18) (by rw[hs];decide) (by rw[hl];decide) (by decide)))
  refine aN.cons (fun a w1 L fr hl hi hI hdf hs hd K hK=>?_) ?_
  . exact af (gM rfl (show a.eval (.tmp 18)=.int .u8 bi from hI.p (4,18) (by decide) (hd 4 18 (by kernel_rfl))) HU.out.2.1) (hK _ _ (hI.pure (i:=5) (t:=19) (by rw[hs];decide) (by rw[hl];decide) (by decide)))
  refine aN.cons (fun a w1 L fr hl hi hI hdf hs hd K hK=>?_) ?_
  . exact af (gL (i:=3) (by decide) rfl ((fr 5 (by kernel_rfl)).trans rfl)) (hK _ _ (hI.pure (i:=6) (t:=20) (by rw[hs];decide) (by rw[hl];decide) (by decide)))
  refine aN.cons (fun a w1 L fr hl hi hI hdf hs hd K hK=>?_) ?_
  . exact af (gB rfl (show a.eval (.tmp 20)=.pointer (some ⟨co,3,none⟩)from hI.p (6,20) (by decide) (hd 6 20 (by kernel_rfl))) (((HO.out.below hI.below).cell 3).trans rfl)) (hK _ _ (hI.pure (i:=7) (t:=21) (by rw[hs];decide) (by rw[hl];decide) (by decide)))
  refine aN.cons (fun a w1 L fr hl hi hI hdf hs hd K hK=>?_) ?_
  . exact af (gM rfl (show a.eval (.tmp 21)=.int .u8 ci from hI.p (7,21) (by decide) (hd 7 21 (by kernel_rfl))) HU.out.2.2) (hK _ _ (hI.pure (i:=8) (t:=22) (by rw[hs];decide) (by rw[hl];decide) (by decide)))
  refine aN.cons (fun a w1 L fr hl hi hI hdf hs hd K hK=>?_) ?_
  . exact af (gG rfl) (hK _ _ (hI.alloc (i:=9) (k:=12) (t:=8) (by decide) (by rw[hs];decide) (by rw[hl];decide) hi (by decide)))
  refine aN.cons (fun a w1 L fr hl hi hI hdf hs hd K hK=>?_) ?_
  . exact af (gG rfl) (hK _ _ (hI.alloc (i:=10) (k:=13) (t:=9) (by decide) (by rw[hs];decide) (by rw[hl];decide) hi (by decide)))
  refine aN.cons (fun a w1 L fr hl hi hI hdf hs hd K hK=>?_) ?_
  . exact af (gG rfl) (hK _ _ (hI.alloc (i:=11) (k:=14) (t:=10) (by decide) (by rw[hs];decide) (by rw[hl];decide) hi (by decide)))
  refine aN.cons (fun a w1 L fr hl hi hI hdf hs hd K hK=>?_) ?_
  . obtain⟨q,e1,e2,e3⟩:=hI.c (9,12,8) (by decide) (hd 9 8 (by kernel_rfl))
    exact Wv.wp_skip rfl (gH rfl e1 (show a.eval (.tmp 16)=.int .i64 ai from hI.p (2,16) (by decide) (hd 2 16 (by kernel_rfl))) e3) (hK undef _ (hI.store (i:=9) (k:=12) (t:=8) (by decide) (by rw[hl];decide) (hd 9 8 (by kernel_rfl)) e1 (by decide)))
  refine aN.cons (fun a w1 L fr hl hi hI hdf hs hd K hK=>?_) ?_
  . obtain⟨q,e1,e2,e3⟩:=hI.c (10,13,9) (by decide) (hd 10 9 (by kernel_rfl))
    exact Wv.wp_skip rfl (gH rfl e1 (show a.eval (.tmp 19)=.int .i64 bi from hI.p (5,19) (by decide) (hd 5 19 (by kernel_rfl))) e3) (hK undef _ (hI.store (i:=10) (k:=13) (t:=9) (by decide) (by rw[hl];decide) (hd 10 9 (by kernel_rfl)) e1 (by decide)))
  refine aN.cons (fun a w1 L fr hl hi hI hdf hs hd K hK=>?_) ?_
  . obtain⟨q,e1,e2,e3⟩:=hI.c (11,14,10) (by decide) (hd 11 10 (by kernel_rfl))
    exact Wv.wp_skip rfl (gH rfl e1 (show a.eval (.tmp 22)=.int .i64 ci from hI.p (8,22) (by decide) (hd 8 22 (by kernel_rfl))) e3) (hK undef _ (hI.store (i:=11) (k:=14) (t:=10) (by decide) (by rw[hl];decide) (hd 11 10 (by kernel_rfl)) e1 (by decide)))
  exact aN.nil
 case en=>
  intro vs w6 L hI hall hval;obtain⟨q8,e8,b8,h8⟩:=hI.c (9,12,8) (by decide) (hall 9 (by decide))
  obtain⟨q9,e9,b9,h9⟩:=hI.c (10,13,9) (by decide) (hall 10 (by decide))
  obtain⟨q10,e10,b10,h10⟩:=hI.c (11,14,10) (by decide) (hall 11 (by decide))
  rw[if_pos (hall 12 (by decide))]at h8
  rw[if_pos (hall 13 (by decide))]at h9
  rw[if_pos (hall 14 (by decide))]at h10
  have g8:vs 9=.pointer (some ⟨q8,0,none⟩):=(hval 9 8 (by kernel_rfl)).symm.trans e8
  have g9:vs 10=.pointer (some ⟨q9,0,none⟩):=(hval 10 9 (by kernel_rfl)).symm.trans e9
  have g10:vs 11=.pointer (some ⟨q10,0,none⟩):=(hval 11 10 (by kernel_rfl)).symm.trans e10
  have HB6:=Y hI.below;have H8:=Y (show Holds w6 q8 3 [.int .i64 ai]from h8)
  have H9:=Y (show Holds w6 q9 3 [.int .i64 bi]from h9)
  have H10:=Y (show Holds w6 q10 3 [.int .i64 ci]from h10)
  have HBQ:=Y (And.intro b8 (And.intro b9 b10));simp only[List.take_succ_cons,List.take_zero,List.drop_succ_cons,List.drop_zero,bA,Act.put,zj,zr,ya,g8,g9,g10];clear hI hall hval e8 b8 h8 e9 b9 h9 e10 b10 h10 g8 g9 g10;have HM0:aa (HasF (pE cp ct co q8 q9 q10) w6.heap.size [] (w6.alloc (.map #[] 0))):=⟨⟨.map [],World.ownsMap_made w6 Tryz.prog 5 (Rf _),uX⟩⟩;have HBm:=Y (ae (Below.refl w6.heap.size w6) (.map #[] 0));go_upto_region 3 with(refine qB rfl _ _ _ rfl (pE cp ct co q8 q9 q10) w6.heap.size _ _ rfl rfl rfl HM0.out (by decide) ?_;intro wI hf hg;replace HM0:=Y hf;replace HBm:=Y (HBm.out.grown hg HBm.out.size (fun q e=>by injection e with e;rw[<-e];exact Nat.le_refl _));clear hf hg)
  have HBA:=Y (ag HB6.out HB6.out.size HBm.out);have hlk:(Instr.lookup 173 (.map (some w6.heap.size)) (.int .u8 1) true).run Tryz.prog wI=.ok (.tuple #[.func (.func 109) #[] #[.pointer (some ⟨cp,0,none⟩),.pointer (some ⟨ct,0,none⟩),.pointer (some ⟨q8,0,none⟩),.pointer (some ⟨q9,0,none⟩),.pointer (some ⟨q10,0,none⟩)],.bool true]) wI:=HM0.out.look (i:=0) (f:=109) rfl (by decide)
  have zd:wI.cell? ⟨co,0,none⟩=some (.int .u8 1):=((HO.out.below HBA.out).cell 0).trans rfl
  have HNF:aa (¬ F cp/\¬ F ct/\¬ F q8/\¬ F q9/\¬ F q10/\¬ F co/\¬ F cr/\¬ F P):=⟨by
   obtain⟨n1,n2,n3,n4,n5⟩:=HNUM.out;obtain⟨m1,m2,m3⟩:=HBQ.out;have hf:=HFF.out;refine⟨fun e=>?_,fun e=>?_,fun e=>?_,fun e=>?_,fun e=>?_,fun e=>?_,fun e=>?_,HPP.out.2⟩
   all_goals (have:=hf _ e;omega)⟩
  clear HM0
  go_wp2_with (first
   |(go_at_call 109;refine(EP (HG.out.below HBA.out) HOL.out P cp ct q8 q9 q10 ti ai bi ci vP (HCP.out.below HBA.out) (HCT.out.below HBA.out) (H8.out.below HBm.out) (H9.out.below HBm.out) (H10.out.below HBm.out) (HPP.out.1.below HBA.out) ⟨HNF.out.1,HNF.out.2.1,HNF.out.2.2.1,HNF.out.2.2.2.1,HNF.out.2.2.2.2.1,HNF.out.2.2.2.2.2.2.2⟩).mono ?_;rintro e w10 ⟨rfl,hgs⟩;obtain⟨F',x',hg1,hk1,hF1⟩:=hgs;have HG10:=Y (And.intro hg1 (And.intro hk1 hF1));have HR10:=Y (hk1.holds (HR.out.below HBA.out) HNF.out.2.2.2.2.2.2.1);clear hg1 hk1 hF1)
   |((with_reducible refine bg (t:=151) (p:=6) rfl ?_);refine aG rfl (ty:=151) rfl rfl (g:=cr) (off:=0) (vs:=#[.int .i64 (bM M ti ai bi ci).2.1,.int .u64 0,.int .i64 (bM M ti ai bi ci).2.2]) rfl rfl HR10.out (by show 3<=3;decide) fB (by simp[Value.oneCell']) ?_;intro w7 hh7 hs7;have HH7:=Y hh7;have HS7:=Y hs7;clear hh7 hs7))
  refine bodyPost_ret (fI rfl _ _ cr 151 #[.int .i64 (bM M ti ai bi ci).2.1,.int .u64 0,.int .i64 (bM M ti ai bi ci).2.2] (0,0) _ rfl HH7.out Tryz.underlying151 rfl fB) rfl ?_;exact⟨rfl,nS (ag HB1.out HB1.out.size HBA.out) (Nat.le_of_lt HNUM.out.2.2.2.1) (Nat.lt_of_lt_of_le HNUM.out.2.2.2.2 HBA.out.size) HNF.out.2.2.2.2.2.2.1 HG10.out HS7.out⟩
theorem BV {F:Nat->Prop}{w:World}{g:Nat}{x:Gw}{M:Gm}(h:GL F w g x M)(P:Nat)(ti ai bi ci:Int)(vP:Value)(hu:(0<=ai/\ai<=255)/\(0<=bi/\bi<=255)/\(0<=ci/\ci<=255))(hP:Holds w P 108 [.pointer (some ⟨g,0,none⟩),vP])(hF:¬ F P):
 Calls Tryz.prog 91 #[.pointer (some ⟨P,0,none⟩),.int .i64 ti,.agg #[.int .u8 4,.int .u8 ai,.int .u8 bi,.int .u8 ci]] w fun r w'=>r=.returned (.tuple #[an 0 (bW M ti ai bi).2.1 (bW M ti ai bi).2.2,.bool true])/\GStep F w g ((bW M ti ai bi).1) w':=by
 have hu151:=Tryz.underlying151;have hu100:=Tryz.underlying100;have hmf:∀(fn:Fn) (first cap:Array Value) (w:World),(Instr.makeFunc fn first cap).run Tryz.prog w=.ok (.func fn first cap) w:=fun _ _ _ _=>rfl
 have hmm:∀(w:World),(Instr.makeMap 173 none).run Tryz.prog w=.ok (.map (some w.heap.size)) (w.alloc (.map #[] 0)):=fun w=>rfl
 obtain⟨W1,hW1⟩:∃ W1,W1=(((w.alloc (.cells #[.pointer (some ⟨P,0,none⟩)] 106)).alloc (.cells #[.int .i64 ti] 3)).alloc (.cells #[.int .u8 4,.int .u8 ai,.int .u8 bi,.int .u8 ci] 100)).alloc (.cells #[.int .i64 0,.int .u64 0,.int .i64 0] 151):=⟨_,rfl⟩;have hb1:Below w.heap.size w W1:=by rw[hW1];exact ae (ae (ae (ae zc _) _) _) _
 have k1:Holds W1 w.heap.size 106 [.pointer (some ⟨P,0,none⟩)]:=by rw[hW1];exact aI (aI (aI (bN (by simp)) _) _) _
 have k2:Holds W1 (w.heap.size+1) 3 [.int .i64 ti]:=by rw[hW1];exact aI (aI (bN (by simp)) _) _
 have k3:Holds W1 (w.heap.size+1+1) 100 [.int .u8 4,.int .u8 ai,.int .u8 bi,.int .u8 ci]:=by rw[hW1];exact aI (bN (by simp)) _
 have k4:Holds W1 (w.heap.size+1+1+1) 151 qx:=by rw[hW1];exact bN (by simp)
 have hz1:W1.heap.size=w.heap.size+1+1+1+1:=by rw[hW1];simp
 have HG:=Y (h.below hb1);have HFF:=Y (fun q hq=>h.lt q hq)
 have HPP:=Y (And.intro (hP.below hb1) hF);have HU:=Y hu;clear h hP hF hu;go_enter Tryz.func91,Tryz.ntmps91;go_upto_region 1 with fail
 rw[<-hW1];clear hW1;obtain⟨cp,hcp⟩:∃ cp,cp=w.heap.size:=⟨_,rfl⟩;obtain⟨ct,hct⟩:∃ ct,ct=w.heap.size+1:=⟨_,rfl⟩;obtain⟨co,hco⟩:∃ co,co=w.heap.size+1+1:=⟨_,rfl⟩;obtain⟨cr,hcr⟩:∃ cr,cr=w.heap.size+1+1+1:=⟨_,rfl⟩;rw[<-hcr]at k4 hz1 ⊢;rw[<-hco]at k3 hcr ⊢;rw[<-hct]at k2 hco ⊢;rw[<-hcp]at k1 hct ⊢;have HNUM:=Y (show cp=w.heap.size/\w.heap.size<ct/\w.heap.size<co/\w.heap.size<cr/\cr<W1.heap.size by omega)
 have HCP:=Y k1;have HCT:=Y k2;have HO:=Y k3;have HR:=Y k4;have HB1:=Y hb1;clear k1 k2 k3 k4 hz1 hcp hct hco hcr hb1;refine pu 15 48 (IC W1 [(0,14),(1,15),(2,16),(3,17),(4,18),(5,19),(6,20),(7,21),(8,22)] (P91 co ai bi ci) [(9,12,8),(10,13,9),(11,14,10)] (C91 ai bi ci)) (by kernel_rfl) (by rfl) (by kernel_rfl) ⟨bv zc,fun y hy h=>by(rw[dI]at h;cases h),fun y hy h=>by(rw[dI]at h;cases h),fun y hy z hz _ h=>by(rw[dI]at h;cases h),fun y hy h=>by(rw[dI]at h;cases h)⟩ ?st ?en
 case st=>
  refine aN.cons (fun a w1 L fr hl hi hI hdf hs hd K hK=>?_) ?_
  . exact af (gL (i:=1) (by decide) rfl ((fr 5 (by kernel_rfl)).trans rfl)) (hK _ _ (hI.pure (i:=0) (t:=14) (by rw[hs];decide) (by rw[hl];decide) (by decide)))
  refine aN.cons (fun a w1 L fr hl hi hI hdf hs hd K hK=>?_) ?_
  . exact af (gB rfl (show a.eval (.tmp 14)=.pointer (some ⟨co,1,none⟩)from hI.p (0,14) (by decide) (hd 0 14 (by kernel_rfl))) (((HO.out.below hI.below).cell 1).trans rfl)) (hK _ _ (hI.pure (i:=1) (t:=15) (by rw[hs];decide) (by rw[hl];decide) (by decide)))
  refine aN.cons (fun a w1 L fr hl hi hI hdf hs hd K hK=>?_) ?_
  . exact af (gM rfl (show a.eval (.tmp 15)=.int .u8 ai from hI.p (1,15) (by decide) (hd 1 15 (by kernel_rfl))) HU.out.1) (hK _ _ (hI.pure (i:=2) (t:=16) (by rw[hs];decide) (by rw[hl];decide) (by decide)))
  refine aN.cons (fun a w1 L fr hl hi hI hdf hs hd K hK=>?_) ?_
  . exact af (gL (i:=2) (by decide) rfl ((fr 5 (by kernel_rfl)).trans rfl)) (hK _ _ (hI.pure (i:=3) (t:=17) (by rw[hs];decide) (by rw[hl];decide) (by decide)))
  refine aN.cons (fun a w1 L fr hl hi hI hdf hs hd K hK=>?_) ?_
  . exact af (gB rfl (show a.eval (.tmp 17)=.pointer (some ⟨co,2,none⟩)from hI.p (3,17) (by decide) (hd 3 17 (by kernel_rfl))) (((HO.out.below hI.below).cell 2).trans rfl)) (hK _ _ (hI.pure (i:=4) (t:=18) (by rw[hs];decide) (by rw[hl];decide) (by decide)))
  refine aN.cons (fun a w1 L fr hl hi hI hdf hs hd K hK=>?_) ?_
  . exact af (gM rfl (show a.eval (.tmp 18)=.int .u8 bi from hI.p (4,18) (by decide) (hd 4 18 (by kernel_rfl))) HU.out.2.1) (hK _ _ (hI.pure (i:=5) (t:=19) (by rw[hs];decide) (by rw[hl];decide) (by decide)))
  refine aN.cons (fun a w1 L fr hl hi hI hdf hs hd K hK=>?_) ?_
  . exact af (gL (i:=3) (by decide) rfl ((fr 5 (by kernel_rfl)).trans rfl)) (hK _ _ (hI.pure (i:=6) (t:=20) (by rw[hs];decide) (by rw[hl];decide) (by decide)))
  refine aN.cons (fun a w1 L fr hl hi hI hdf hs hd K hK=>?_) ?_
  . exact af (gB rfl (show a.eval (.tmp 20)=.pointer (some ⟨co,3,none⟩)from hI.p (6,20) (by decide) (hd 6 20 (by kernel_rfl))) (((HO.out.below hI.below).cell 3).trans rfl)) (hK _ _ (hI.pure (i:=7) (t:=21) (by rw[hs];decide) (by rw[hl];decide) (by decide)))
  refine aN.cons (fun a w1 L fr hl hi hI hdf hs hd K hK=>?_) ?_
  . exact af (gM rfl (show a.eval (.tmp 21)=.int .u8 ci from hI.p (7,21) (by decide) (hd 7 21 (by kernel_rfl))) HU.out.2.2) (hK _ _ (hI.pure (i:=8) (t:=22) (by rw[hs];decide) (by rw[hl];decide) (by decide)))
  refine aN.cons (fun a w1 L fr hl hi hI hdf hs hd K hK=>?_) ?_
  . exact af (gG rfl) (hK _ _ (hI.alloc (i:=9) (k:=12) (t:=8) (by decide) (by rw[hs];decide) (by rw[hl];decide) hi (by decide)))
  refine aN.cons (fun a w1 L fr hl hi hI hdf hs hd K hK=>?_) ?_
  . exact af (gG rfl) (hK _ _ (hI.alloc (i:=10) (k:=13) (t:=9) (by decide) (by rw[hs];decide) (by rw[hl];decide) hi (by decide)))
  refine aN.cons (fun a w1 L fr hl hi hI hdf hs hd K hK=>?_) ?_
  . exact af (gG rfl) (hK _ _ (hI.alloc (i:=11) (k:=14) (t:=10) (by decide) (by rw[hs];decide) (by rw[hl];decide) hi (by decide)))
  refine aN.cons (fun a w1 L fr hl hi hI hdf hs hd K hK=>?_) ?_
  . obtain⟨q,e1,e2,e3⟩:=hI.c (9,12,8) (by decide) (hd 9 8 (by kernel_rfl))
    exact Wv.wp_skip rfl (gH rfl e1 (show a.eval (.tmp 16)=.int .i64 ai from hI.p (2,16) (by decide) (hd 2 16 (by kernel_rfl))) e3) (hK undef _ (hI.store (i:=9) (k:=12) (t:=8) (by decide) (by rw[hl];decide) (hd 9 8 (by kernel_rfl)) e1 (by decide)))
  refine aN.cons (fun a w1 L fr hl hi hI hdf hs hd K hK=>?_) ?_
  . obtain⟨q,e1,e2,e3⟩:=hI.c (10,13,9) (by decide) (hd 10 9 (by kernel_rfl))
    exact Wv.wp_skip rfl (gH rfl e1 (show a.eval (.tmp 19)=.int .i64 bi from hI.p (5,19) (by decide) (hd 5 19 (by kernel_rfl))) e3) (hK undef _ (hI.store (i:=10) (k:=13) (t:=9) (by decide) (by rw[hl];decide) (hd 10 9 (by kernel_rfl)) e1 (by decide)))
  refine aN.cons (fun a w1 L fr hl hi hI hdf hs hd K hK=>?_) ?_
  . obtain⟨q,e1,e2,e3⟩:=hI.c (11,14,10) (by decide) (hd 11 10 (by kernel_rfl))
    exact Wv.wp_skip rfl (gH rfl e1 (show a.eval (.tmp 22)=.int .i64 ci from hI.p (8,22) (by decide) (hd 8 22 (by kernel_rfl))) e3) (hK undef _ (hI.store (i:=11) (k:=14) (t:=10) (by decide) (by rw[hl];decide) (hd 11 10 (by kernel_rfl)) e1 (by decide)))
  exact aN.nil
 case en=>
  intro vs w6 L hI hall hval;obtain⟨q8,e8,b8,h8⟩:=hI.c (9,12,8) (by decide) (hall 9 (by decide))
  obtain⟨q9,e9,b9,h9⟩:=hI.c (10,13,9) (by decide) (hall 10 (by decide))
  obtain⟨q10,e10,b10,h10⟩:=hI.c (11,14,10) (by decide) (hall 11 (by decide))
  rw[if_pos (hall 12 (by decide))]at h8
  rw[if_pos (hall 13 (by decide))]at h9
  rw[if_pos (hall 14 (by decide))]at h10
  have g8:vs 9=.pointer (some ⟨q8,0,none⟩):=(hval 9 8 (by kernel_rfl)).symm.trans e8
  have g9:vs 10=.pointer (some ⟨q9,0,none⟩):=(hval 10 9 (by kernel_rfl)).symm.trans e9
  have g10:vs 11=.pointer (some ⟨q10,0,none⟩):=(hval 11 10 (by kernel_rfl)).symm.trans e10
  have HB6:=Y hI.below;have H8:=Y (show Holds w6 q8 3 [.int .i64 ai]from h8)
  have H9:=Y (show Holds w6 q9 3 [.int .i64 bi]from h9)
  have H10:=Y (show Holds w6 q10 3 [.int .i64 ci]from h10)
  have HBQ:=Y (And.intro b8 (And.intro b9 b10));simp only[List.take_succ_cons,List.take_zero,List.drop_succ_cons,List.drop_zero,bA,Act.put,zj,zr,ya,g8,g9,g10];clear hI hall hval e8 b8 h8 e9 b9 h9 e10 b10 h10 g8 g9 g10;have HM0:aa (HasF (pE cp ct co q8 q9 q10) w6.heap.size [] (w6.alloc (.map #[] 0))):=⟨⟨.map [],World.ownsMap_made w6 Tryz.prog 5 (Rf _),uX⟩⟩;have HBm:=Y (ae (Below.refl w6.heap.size w6) (.map #[] 0));go_upto_region 3 with(refine qB rfl _ _ _ rfl (pE cp ct co q8 q9 q10) w6.heap.size _ _ rfl rfl rfl HM0.out (by decide) ?_;intro wI hf hg;replace HM0:=Y hf;replace HBm:=Y (HBm.out.grown hg HBm.out.size (fun q e=>by injection e with e;rw[<-e];exact Nat.le_refl _));clear hf hg)
  have HBA:=Y (ag HB6.out HB6.out.size HBm.out);have hlk:(Instr.lookup 173 (.map (some w6.heap.size)) (.int .u8 4) true).run Tryz.prog wI=.ok (.tuple #[.func (.func 113) #[] #[.pointer (some ⟨cp,0,none⟩),.pointer (some ⟨ct,0,none⟩),.pointer (some ⟨q8,0,none⟩),.pointer (some ⟨q9,0,none⟩)],.bool true]) wI:=HM0.out.look (i:=3) (f:=113) rfl (by decide)
  have zd:wI.cell? ⟨co,0,none⟩=some (.int .u8 4):=((HO.out.below HBA.out).cell 0).trans rfl
  have HNF:aa (¬ F cp/\¬ F ct/\¬ F q8/\¬ F q9/\¬ F q10/\¬ F co/\¬ F cr/\¬ F P):=⟨by
   obtain⟨n1,n2,n3,n4,n5⟩:=HNUM.out;obtain⟨m1,m2,m3⟩:=HBQ.out;have hf:=HFF.out;refine⟨fun e=>?_,fun e=>?_,fun e=>?_,fun e=>?_,fun e=>?_,fun e=>?_,fun e=>?_,HPP.out.2⟩
   all_goals (have:=hf _ e;omega)⟩
  clear HM0
  go_wp2_with (first
   |(go_at_call 113;refine(read113 (HG.out.below HBA.out) P cp ct q8 q9 ti ai bi vP (HCP.out.below HBA.out) (HCT.out.below HBA.out) (H8.out.below HBm.out) (H9.out.below HBm.out) (HPP.out.1.below HBA.out) ⟨HNF.out.1,HNF.out.2.1,HNF.out.2.2.1,HNF.out.2.2.2.1,HNF.out.2.2.2.2.2.2.2⟩).mono ?_;rintro e w10 ⟨rfl,hgs⟩;obtain⟨F',x',hg1,hk1,hF1⟩:=hgs;have HG10:=Y (And.intro hg1 (And.intro hk1 hF1));have HR10:=Y (hk1.holds (HR.out.below HBA.out) HNF.out.2.2.2.2.2.2.1);clear hg1 hk1 hF1)
   |((with_reducible refine bg (t:=151) (p:=6) rfl ?_);refine aG rfl (ty:=151) rfl rfl (g:=cr) (off:=0) (vs:=#[.int .i64 0,.int .u64 (bW M ti ai bi).2.1,.int .i64 (bW M ti ai bi).2.2]) rfl rfl HR10.out (by show 3<=3;decide) fB (by simp[Value.oneCell']) ?_;intro w7 hh7 hs7;have HH7:=Y hh7;have HS7:=Y hs7;clear hh7 hs7))
  refine bodyPost_ret (fI rfl _ _ cr 151 #[.int .i64 0,.int .u64 (bW M ti ai bi).2.1,.int .i64 (bW M ti ai bi).2.2] (0,0) _ rfl HH7.out Tryz.underlying151 rfl fB) rfl ?_;exact⟨rfl,nS (ag HB1.out HB1.out.size HBA.out) (Nat.le_of_lt HNUM.out.2.2.2.1) (Nat.lt_of_lt_of_le HNUM.out.2.2.2.2 HBA.out.size) HNF.out.2.2.2.2.2.2.1 HG10.out HS7.out⟩
theorem Bt {F:Nat->Prop}{w:World}{g:Nat}{x:Gw}{M:Gm}(h:GL F w g x M)(P:Nat)(ti ai bi ci:Int)(vP:Value)(hu:(0<=ai/\ai<=255)/\(0<=bi/\bi<=255)/\(0<=ci/\ci<=255))(hP:Holds w P 108 [.pointer (some ⟨g,0,none⟩),vP])(hF:¬ F P):
 Calls Tryz.prog 91 #[.pointer (some ⟨P,0,none⟩),.int .i64 ti,.agg #[.int .u8 5,.int .u8 ai,.int .u8 bi,.int .u8 ci]] w fun r w'=>r=.returned (.tuple #[an 0 0 (dM M ti ai bi ci).2.2,.bool true])/\GStep F w g ((dM M ti ai bi ci).1) w':=by
 have hu151:=Tryz.underlying151;have hu100:=Tryz.underlying100;have hmf:∀(fn:Fn) (first cap:Array Value) (w:World),(Instr.makeFunc fn first cap).run Tryz.prog w=.ok (.func fn first cap) w:=fun _ _ _ _=>rfl
 have hmm:∀(w:World),(Instr.makeMap 173 none).run Tryz.prog w=.ok (.map (some w.heap.size)) (w.alloc (.map #[] 0)):=fun w=>rfl
 obtain⟨W1,hW1⟩:∃ W1,W1=(((w.alloc (.cells #[.pointer (some ⟨P,0,none⟩)] 106)).alloc (.cells #[.int .i64 ti] 3)).alloc (.cells #[.int .u8 5,.int .u8 ai,.int .u8 bi,.int .u8 ci] 100)).alloc (.cells #[.int .i64 0,.int .u64 0,.int .i64 0] 151):=⟨_,rfl⟩;have hb1:Below w.heap.size w W1:=by rw[hW1];exact ae (ae (ae (ae zc _) _) _) _
 have k1:Holds W1 w.heap.size 106 [.pointer (some ⟨P,0,none⟩)]:=by rw[hW1];exact aI (aI (aI (bN (by simp)) _) _) _
 have k2:Holds W1 (w.heap.size+1) 3 [.int .i64 ti]:=by rw[hW1];exact aI (aI (bN (by simp)) _) _
 have k3:Holds W1 (w.heap.size+1+1) 100 [.int .u8 5,.int .u8 ai,.int .u8 bi,.int .u8 ci]:=by rw[hW1];exact aI (bN (by simp)) _
 have k4:Holds W1 (w.heap.size+1+1+1) 151 qx:=by rw[hW1];exact bN (by simp)
 have hz1:W1.heap.size=w.heap.size+1+1+1+1:=by rw[hW1];simp
 have HG:=Y (h.below hb1);have HFF:=Y (fun q hq=>h.lt q hq)
 have HPP:=Y (And.intro (hP.below hb1) hF);have HU:=Y hu;clear h hP hF hu;go_enter Tryz.func91,Tryz.ntmps91;go_upto_region 1 with fail
 rw[<-hW1];clear hW1;obtain⟨cp,hcp⟩:∃ cp,cp=w.heap.size:=⟨_,rfl⟩;obtain⟨ct,hct⟩:∃ ct,ct=w.heap.size+1:=⟨_,rfl⟩;obtain⟨co,hco⟩:∃ co,co=w.heap.size+1+1:=⟨_,rfl⟩;obtain⟨cr,hcr⟩:∃ cr,cr=w.heap.size+1+1+1:=⟨_,rfl⟩;rw[<-hcr]at k4 hz1 ⊢;rw[<-hco]at k3 hcr ⊢;rw[<-hct]at k2 hco ⊢;rw[<-hcp]at k1 hct ⊢;have HNUM:=Y (show cp=w.heap.size/\w.heap.size<ct/\w.heap.size<co/\w.heap.size<cr/\cr<W1.heap.size by omega)
 have HCP:=Y k1;have HCT:=Y k2;have HO:=Y k3;have HR:=Y k4;have HB1:=Y hb1;clear k1 k2 k3 k4 hz1 hcp hct hco hcr hb1;refine pu 15 48 (IC W1 [(0,14),(1,15),(2,16),(3,17),(4,18),(5,19),(6,20),(7,21),(8,22)] (P91 co ai bi ci) [(9,12,8),(10,13,9),(11,14,10)] (C91 ai bi ci)) (by kernel_rfl) (by rfl) (by kernel_rfl) ⟨bv zc,fun y hy h=>by(rw[dI]at h;cases h),fun y hy h=>by(rw[dI]at h;cases h),fun y hy z hz _ h=>by(rw[dI]at h;cases h),fun y hy h=>by(rw[dI]at h;cases h)⟩ ?st ?en
 case st=>
  refine aN.cons (fun a w1 L fr hl hi hI hdf hs hd K hK=>?_) ?_
  . exact af (gL (i:=1) (by decide) rfl ((fr 5 (by kernel_rfl)).trans rfl)) (hK _ _ (hI.pure (i:=0) (t:=14) (by rw[hs];decide) (by rw[hl];decide) (by decide)))
  refine aN.cons (fun a w1 L fr hl hi hI hdf hs hd K hK=>?_) ?_
  . exact af (gB rfl (show a.eval (.tmp 14)=.pointer (some ⟨co,1,none⟩)from hI.p (0,14) (by decide) (hd 0 14 (by kernel_rfl))) (((HO.out.below hI.below).cell 1).trans rfl)) (hK _ _ (hI.pure (i:=1) (t:=15) (by rw[hs];decide) (by rw[hl];decide) (by decide)))
  refine aN.cons (fun a w1 L fr hl hi hI hdf hs hd K hK=>?_) ?_
  . exact af (gM rfl (show a.eval (.tmp 15)=.int .u8 ai from hI.p (1,15) (by decide) (hd 1 15 (by kernel_rfl))) HU.out.1) (hK _ _ (hI.pure (i:=2) (t:=16) (by rw[hs];decide) (by rw[hl];decide) (by decide)))
  refine aN.cons (fun a w1 L fr hl hi hI hdf hs hd K hK=>?_) ?_
  . exact af (gL (i:=2) (by decide) rfl ((fr 5 (by kernel_rfl)).trans rfl)) (hK _ _ (hI.pure (i:=3) (t:=17) (by rw[hs];decide) (by rw[hl];decide) (by decide)))
  refine aN.cons (fun a w1 L fr hl hi hI hdf hs hd K hK=>?_) ?_
  . exact af (gB rfl (show a.eval (.tmp 17)=.pointer (some ⟨co,2,none⟩)from hI.p (3,17) (by decide) (hd 3 17 (by kernel_rfl))) (((HO.out.below hI.below).cell 2).trans rfl)) (hK _ _ (hI.pure (i:=4) (t:=18) (by rw[hs];decide) (by rw[hl];decide) (by decide)))
  refine aN.cons (fun a w1 L fr hl hi hI hdf hs hd K hK=>?_) ?_
  . exact af (gM rfl (show a.eval (.tmp 18)=.int .u8 bi from hI.p (4,18) (by decide) (hd 4 18 (by kernel_rfl))) HU.out.2.1) (hK _ _ (hI.pure (i:=5) (t:=19) (by rw[hs];decide) (by rw[hl];decide) (by decide)))
  refine aN.cons (fun a w1 L fr hl hi hI hdf hs hd K hK=>?_) ?_
  . exact af (gL (i:=3) (by decide) rfl ((fr 5 (by kernel_rfl)).trans rfl)) (hK _ _ (hI.pure (i:=6) (t:=20) (by rw[hs];decide) (by rw[hl];decide) (by decide)))
  refine aN.cons (fun a w1 L fr hl hi hI hdf hs hd K hK=>?_) ?_
  . exact af (gB rfl (show a.eval (.tmp 20)=.pointer (some ⟨co,3,none⟩)from hI.p (6,20) (by decide) (hd 6 20 (by kernel_rfl))) (((HO.out.below hI.below).cell 3).trans rfl)) (hK _ _ (hI.pure (i:=7) (t:=21) (by rw[hs];decide) (by rw[hl];decide) (by decide)))
  refine aN.cons (fun a w1 L fr hl hi hI hdf hs hd K hK=>?_) ?_
  . exact af (gM rfl (show a.eval (.tmp 21)=.int .u8 ci from hI.p (7,21) (by decide) (hd 7 21 (by kernel_rfl))) HU.out.2.2) (hK _ _ (hI.pure (i:=8) (t:=22) (by rw[hs];decide) (by rw[hl];decide) (by decide)))
  refine aN.cons (fun a w1 L fr hl hi hI hdf hs hd K hK=>?_) ?_
  . exact af (gG rfl) (hK _ _ (hI.alloc (i:=9) (k:=12) (t:=8) (by decide) (by rw[hs];decide) (by rw[hl];decide) hi (by decide)))
  refine aN.cons (fun a w1 L fr hl hi hI hdf hs hd K hK=>?_) ?_
  . exact af (gG rfl) (hK _ _ (hI.alloc (i:=10) (k:=13) (t:=9) (by decide) (by rw[hs];decide) (by rw[hl];decide) hi (by decide)))
  refine aN.cons (fun a w1 L fr hl hi hI hdf hs hd K hK=>?_) ?_
  . exact af (gG rfl) (hK _ _ (hI.alloc (i:=11) (k:=14) (t:=10) (by decide) (by rw[hs];decide) (by rw[hl];decide) hi (by decide)))
  refine aN.cons (fun a w1 L fr hl hi hI hdf hs hd K hK=>?_) ?_
  . obtain⟨q,e1,e2,e3⟩:=hI.c (9,12,8) (by decide) (hd 9 8 (by kernel_rfl))
    exact Wv.wp_skip rfl (gH rfl e1 (show a.eval (.tmp 16)=.int .i64 ai from hI.p (2,16) (by decide) (hd 2 16 (by kernel_rfl))) e3) (hK undef _ (hI.store (i:=9) (k:=12) (t:=8) (by decide) (by rw[hl];decide) (hd 9 8 (by kernel_rfl)) e1 (by decide)))
  refine aN.cons (fun a w1 L fr hl hi hI hdf hs hd K hK=>?_) ?_
  . obtain⟨q,e1,e2,e3⟩:=hI.c (10,13,9) (by decide) (hd 10 9 (by kernel_rfl))
    exact Wv.wp_skip rfl (gH rfl e1 (show a.eval (.tmp 19)=.int .i64 bi from hI.p (5,19) (by decide) (hd 5 19 (by kernel_rfl))) e3) (hK undef _ (hI.store (i:=10) (k:=13) (t:=9) (by decide) (by rw[hl];decide) (hd 10 9 (by kernel_rfl)) e1 (by decide)))
  refine aN.cons (fun a w1 L fr hl hi hI hdf hs hd K hK=>?_) ?_
  . obtain⟨q,e1,e2,e3⟩:=hI.c (11,14,10) (by decide) (hd 11 10 (by kernel_rfl))
    exact Wv.wp_skip rfl (gH rfl e1 (show a.eval (.tmp 22)=.int .i64 ci from hI.p (8,22) (by decide) (hd 8 22 (by kernel_rfl))) e3) (hK undef _ (hI.store (i:=11) (k:=14) (t:=10) (by decide) (by rw[hl];decide) (hd 11 10 (by kernel_rfl)) e1 (by decide)))
  exact aN.nil
 case en=>
  intro vs w6 L hI hall hval;obtain⟨q8,e8,b8,h8⟩:=hI.c (9,12,8) (by decide) (hall 9 (by decide))
  obtain⟨q9,e9,b9,h9⟩:=hI.c (10,13,9) (by decide) (hall 10 (by decide))
  obtain⟨q10,e10,b10,h10⟩:=hI.c (11,14,10) (by decide) (hall 11 (by decide))
  rw[if_pos (hall 12 (by decide))]at h8
  rw[if_pos (hall 13 (by decide))]at h9
  rw[if_pos (hall 14 (by decide))]at h10
  have g8:vs 9=.pointer (some ⟨q8,0,none⟩):=(hval 9 8 (by kernel_rfl)).symm.trans e8
  have g9:vs 10=.pointer (some ⟨q9,0,none⟩):=(hval 10 9 (by kernel_rfl)).symm.trans e9
  have g10:vs 11=.pointer (some ⟨q10,0,none⟩):=(hval 11 10 (by kernel_rfl)).symm.trans e10
  have HB6:=Y hI.below;have H8:=Y (show Holds w6 q8 3 [.int .i64 ai]from h8)
  have H9:=Y (show Holds w6 q9 3 [.int .i64 bi]from h9)
  have H10:=Y (show Holds w6 q10 3 [.int .i64 ci]from h10)
  have HBQ:=Y (And.intro b8 (And.intro b9 b10));simp only[List.take_succ_cons,List.take_zero,List.drop_succ_cons,List.drop_zero,bA,Act.put,zj,zr,ya,g8,g9,g10];clear hI hall hval e8 b8 h8 e9 b9 h9 e10 b10 h10 g8 g9 g10;have HM0:aa (HasF (pE cp ct co q8 q9 q10) w6.heap.size [] (w6.alloc (.map #[] 0))):=⟨⟨.map [],World.ownsMap_made w6 Tryz.prog 5 (Rf _),uX⟩⟩;have HBm:=Y (ae (Below.refl w6.heap.size w6) (.map #[] 0));go_upto_region 3 with(refine qB rfl _ _ _ rfl (pE cp ct co q8 q9 q10) w6.heap.size _ _ rfl rfl rfl HM0.out (by decide) ?_;intro wI hf hg;replace HM0:=Y hf;replace HBm:=Y (HBm.out.grown hg HBm.out.size (fun q e=>by injection e with e;rw[<-e];exact Nat.le_refl _));clear hf hg)
  have HBA:=Y (ag HB6.out HB6.out.size HBm.out);have hlk:(Instr.lookup 173 (.map (some w6.heap.size)) (.int .u8 5) true).run Tryz.prog wI=.ok (.tuple #[.func (.func 115) #[] #[.pointer (some ⟨cp,0,none⟩),.pointer (some ⟨ct,0,none⟩),.pointer (some ⟨q8,0,none⟩),.pointer (some ⟨q9,0,none⟩),.pointer (some ⟨co,0,none⟩)],.bool true]) wI:=HM0.out.look (i:=4) (f:=115) rfl (by decide)
  have zd:wI.cell? ⟨co,0,none⟩=some (.int .u8 5):=((HO.out.below HBA.out).cell 0).trans rfl
  have HNF:aa (¬ F cp/\¬ F ct/\¬ F q8/\¬ F q9/\¬ F q10/\¬ F co/\¬ F cr/\¬ F P):=⟨by
   obtain⟨n1,n2,n3,n4,n5⟩:=HNUM.out;obtain⟨m1,m2,m3⟩:=HBQ.out;have hf:=HFF.out;refine⟨fun e=>?_,fun e=>?_,fun e=>?_,fun e=>?_,fun e=>?_,fun e=>?_,fun e=>?_,HPP.out.2⟩
   all_goals (have:=hf _ e;omega)⟩
  clear HM0
  go_wp2_with (first
   |(go_at_call 115;refine(Ez (HG.out.below HBA.out) P cp ct q8 q9 co ti ai bi 5 ai bi ci vP HU.out.2.2 (HCP.out.below HBA.out) (HCT.out.below HBA.out) (H8.out.below HBm.out) (H9.out.below HBm.out) (HO.out.below HBA.out) (HPP.out.1.below HBA.out) ⟨HNF.out.1,HNF.out.2.1,HNF.out.2.2.1,HNF.out.2.2.2.1,HNF.out.2.2.2.2.2.1,HNF.out.2.2.2.2.2.2.2⟩).mono ?_;rintro e w10 ⟨rfl,hgs⟩;obtain⟨F',x',hg1,hk1,hF1⟩:=hgs;have HG10:=Y (And.intro hg1 (And.intro hk1 hF1));have HR10:=Y (hk1.holds (HR.out.below HBA.out) HNF.out.2.2.2.2.2.2.1);clear hg1 hk1 hF1)
   |((with_reducible refine bg (t:=151) (p:=6) rfl ?_);refine aG rfl (ty:=151) rfl rfl (g:=cr) (off:=0) (vs:=#[.int .i64 0,.int .u64 0,.int .i64 (dM M ti ai bi ci).2.2]) rfl rfl HR10.out (by show 3<=3;decide) fB (by simp[Value.oneCell']) ?_;intro w7 hh7 hs7;have HH7:=Y hh7;have HS7:=Y hs7;clear hh7 hs7))
  refine bodyPost_ret (fI rfl _ _ cr 151 #[.int .i64 0,.int .u64 0,.int .i64 (dM M ti ai bi ci).2.2] (0,0) _ rfl HH7.out Tryz.underlying151 rfl fB) rfl ?_;exact⟨rfl,nS (ag HB1.out HB1.out.size HBA.out) (Nat.le_of_lt HNUM.out.2.2.2.1) (Nat.lt_of_lt_of_le HNUM.out.2.2.2.2 HBA.out.size) HNF.out.2.2.2.2.2.2.1 HG10.out HS7.out⟩
end
end Go.Proofs.YtglikkmmbdnmbaaGreat.Im
namespace Go.Proofs.YtglikkmmbdnmbaaGreat.Im
open Go.RowKit Go.Shelf Q7
open YtglikkmmbdnmbaaGreat.Own PCan Wv
set_option linter.unusedVariables false
set_option linter.unusedSimpArgs false
attribute [local go_sem] Oper.semAt_some
section
theorem range0 {P:Program}(w:World)(t k e:TypeId)(gm:Nat)(ht:P.underlying t=some (.map k e))(h:w.heap[gm]? =some (.map #[] 0)):
 (Instr.range t (.map (some gm))).run P w=.ok (.pointer (some ⟨w.heap.size,0,none⟩)) (w.alloc (.mapIter (some gm) 0 #[] 0)):=run_range_map w t k e gm #[] 0 ht h
theorem next0 {P:Program}(w:World)(ty:TypeId)(gm:Nat)(h:w.heap[gm]? =some (.map #[] 0)):
 (Instr.next (.pointer (some ⟨w.heap.size,0,none⟩)) false ty).run P (w.alloc (.mapIter (some gm) 0 #[] 0))=.ok (.tuple #[.bool false]) (w.alloc (.mapIter (some gm) 0 #[] 0)):=by
 rcases run_next_map (P:=P) w ty gm 0 0 #[] #[] 0 h (fun x hx=>by simp at hx) (Nat.le_refl _)with h1|⟨e,he,_⟩
 . exact h1.2
 . exact absurd he (by simp[leftOf])
theorem Ee (F:Fence)(n:Nat)(h132:F.fn 132)(hro:F.round=none)(hn:1<=n)(l bS gm:Nat)(W:World)(hb:Holds W bS 180 [.map (some gm)])(hm:W.heap[gm]? =some (.map #[] 0)):
 CallsIn F n Tryz.prog 132 #[.func (.yield l) #[] #[],.pointer (some ⟨bS,0,none⟩)] W fun e W'=>(∃ v,e=.returned v)/\Below W.heap.size W W':=by
 refine callsIn_of_wp Tryz.func132 rfl h132 ?_ hro;simp only[Tryz.ntmps132,List.size_toArray,List.length_cons,List.length_nil,Nat.reduceAdd,Nat.reduceSub,Array.replicate_succ,Array.replicate_zero,List.push_toArray,List.append_toArray,List.nil_append,List.cons_append];have x0:=(hb.cell 0).trans rfl;have x1:=range0 W 180 3 4 gm Tryz.underlying180 hm;have x2:=fun ty=>next0 (P:=Tryz.prog) W ty gm hm
 have HB:=Y (ae (Below.refl W.heap.size W) (.mapIter (some gm) 0 #[] 0))
 gi_wp2
 gi_loopw [3] (fun _ wr=>wr=W.alloc (.mapIter (some gm) 0 #[] 0)) (fun _ _=>0)
 case atStart=>rfl
 case round=>
  subst hrel
  gi_wp2
  go_end0
  exact⟨⟨_,rfl⟩,HB.out⟩
def encU (x:Unit):Array Value:=#[.int .i64 0]
theorem zh (F:Fence)(n:Nat)(h132:F.fn 132)(hro:F.round=none)(hn:1<=n)(bS gm:Nat)(w:World)(hb:Holds w bS 180 [.map (some gm)])(hm:w.heap[gm]? =some (.map #[] 0)):
 SeqStopsK F n Tryz.prog 132 #[.pointer (some ⟨bS,0,none⟩)] encU (fun _ _=>True) (fun ys=>ys=[]) (fun _=>True) 0 w:=fun l J Jx W hW hJ hJx hY h0=>by
 refine(Ee F n h132 hro hn l bS gm W (hb.below hW) ((hW.block gm (Array.getElem?_eq_some_iff.1 hm).1).trans hm)).mono ?_;rintro e W' ⟨he,hbl⟩;exact⟨he,.inl ⟨[],rfl,hJ [] W W' none h0 (cK hbl none) (fun r e=>by cases e)⟩⟩
theorem keys128 (gm:Nat)(w:World):Calls Tryz.prog 128 #[.map (some gm)] w fun e w'=>e=.returned (.func (.func 132) #[] #[.pointer (some ⟨w.heap.size,0,none⟩)])/\w'=w.alloc (.cells #[.map (some gm)] 180):=by
 go_enter Tryz.func128,Tryz.ntmps128;go_wp2_with fail
 go_ret
 exact⟨rfl,rfl⟩
def AI (w:World)(xs:List Unit)(W:World):Prop:=xs=[]/\Holds W w.heap.size 38 [.slice none 0 0]/\Below w.heap.size w W
theorem AI.own (w:World)(B:Nat)(hB:w.heap.size<B):OwnFrom B (AI w):=by
 rintro xs W W' row ⟨h1,h2,h3⟩ hg hr;have hsz:=hg.size;refine⟨h1,?_,?_⟩
 . exact(hg.block _ h2.lt (fun e=>by have:=(hr _ e.symm).1;omega)).trans h2
 . exact h3.grown hg h3.size (fun r e=>by have:=(hr r e).1;omega)
theorem Dj (bS gm:Nat)(w:World)(hb:Holds w bS 180 [.map (some gm)])(hm:w.heap[gm]? =some (.map #[] 0)):
 Calls Tryz.prog 134 #[.slice none 0 0,.func (.func 132) #[] #[.pointer (some ⟨bS,0,none⟩)]] w fun e w'=>e=.returned (.slice none 0 0)/\Below w.heap.size w w':=by
 refine(callsIn_wide (n:=3)).1 ?_;refine callsIn_of_wp_marks Tryz.func134 rfl trivial ?_;refine wpIn_wide.2 ?_;simp only[Tryz.ntmps134,List.size_toArray,List.length_cons,List.length_nil,Nat.reduceAdd,Nat.reduceSub,Array.replicate_succ,Array.replicate_zero,List.push_toArray,List.append_toArray,List.nil_append,List.cons_append];obtain⟨W1,hW1⟩:∃ W1,W1=w.alloc (.cells #[.slice none 0 0] 38):=⟨_,rfl⟩;have hb1:Below w.heap.size w W1:=by rw[hW1];exact ae zc _
 have h1:Holds W1 w.heap.size 38 [.slice none 0 0]:=by rw[hW1];exact aK _ _
 have hz1:W1.heap.size=w.heap.size+1:=by rw[hW1];simp
 go_wp2_with fail;rw[<-hW1];refine(wpIn_wide (n:=3)).1 ?_
 refine wpIn_rangeFunc_ownG (n:=3) rfl (by decide) (gf:=132) (lb:=#[.pointer (some ⟨bS,0,none⟩)]) rfl trivial (kw Tryz.func132 (by kernel_rfl) rfl)
  (zh Fence.wide 2 trivial rfl (by decide) bS gm W1 (hb.below hb1) ((hb1.block gm (Array.getElem?_eq_some_iff.1 hm).1).trans hm)) (fun _ _=>trivial) (fun _ _ _ _ _ _ _ _=>trivial) zc (fun _=>rfl)
  (AI w) (fun _ _ _=>False) (AI.own w _ (by omega)) (fun _ _ _ _ _ h _ _=>h) ⟨rfl,h1,hb1⟩ (fun x=>{ tmps:=#[Value.slice none 0 0,Value.func (.func 132) #[] #[Value.pointer (some ⟨bS,0,none⟩)],Value.pointer (some ⟨w.heap.size,0,none⟩),undef,Value.slice none 0 0,Value.int .i64 0,Value.func (.func 132) #[] #[Value.pointer (some ⟨bS,0,none⟩)],Value.int .i64 0,undef,undef,undef,undef,undef],defers:=[] }) ?assign ?body ?done ?stop
 case stop=>exact fun _ _ _ _ _ _ h=>h.elim
 case body=>exact fun _ pre _ _ _ h=>absurd h (Nat.not_lt_zero _)
 case assign=>
  intro l x W K hK;unfold encU
  gi_wp2
  exact hK
 case done=>
  intro D xs W hD hxs hR hdef;obtain⟨_,h2,h3⟩:=hR;have z0:=(h2.cell 0).trans rfl;have H3:=Y h3;have HDL:=Y (show w.heap.size<=D by omega)
  clear h2 h3 hb1 h1 hz1 hW1;go_wp2_with fail;refine⟨by simp,.inl ⟨_,_,rfl,run_takeDeferred hdef,?_⟩⟩
  refine⟨_,results_tmp rfl _ _ _,rfl,?_⟩;exact H3.out.grown (grownBy_putObj' W D _) H3.out.size (fun r e=>by cases e;exact HDL.out)
theorem BM (bS gm:Nat)(w:World)(hb:Holds w bS 180 [.map (some gm)])(hm:w.heap[gm]? =some (.map #[] 0)):
 Calls Tryz.prog 130 #[.func (.func 132) #[] #[.pointer (some ⟨bS,0,none⟩)]] w fun e w'=>e=.returned (.slice none 0 0)/\Below w.heap.size w w':=by
 have HA:=Y (Dj bS gm w hb hm);clear hb hm;go_enter Tryz.func130,Tryz.ntmps130;go_wp2_with (go_at_call 134;refine HA.out.mono ?_;rintro e w1 ⟨rfl,hb1⟩;have HB1:=Y hb1;clear hb1)
 go_ret
 exact⟨rfl,HB1.out⟩
theorem ins137 (w:World):Calls Tryz.prog 137 #[.slice none 0 0,.int .i64 0,.int .i64 0] w fun e w'=>e=.returned (.tuple #[])/\w'=w:=by
 go_enter Tryz.func137,Tryz.ntmps137;go_wp2_with fail
 go_loopg [6] 0 (fun kq v6 w'=>v6=.int .i64 1/\w'=w)
 case atStart=>exact⟨rfl,rfl⟩
 case round=>
  obtain⟨rfl,e0⟩:=hrel;subst e0;go_wp2_with fail
  go_end0
  exact⟨rfl,rfl⟩
theorem pdq135 (w:World)(r:Int):Calls Tryz.prog 135 #[.slice none 0 0,.int .i64 0,.int .i64 0,.int .i64 r] w fun e w'=>e=.returned (.tuple #[])/\w'=w:=by
 have HA:=Y (ins137 w);go_enter Tryz.func135,Tryz.ntmps135;go_wp2_with fail
 go_loopg [1,2] 0 (fun kq v1 v2 w'=>v1=.int .i64 0/\v2=.int .i64 0/\w'=w)
 case atStart=>exact⟨rfl,rfl,rfl⟩
 case round=>
  obtain⟨rfl,rfl,e0⟩:=hrel;subst e0;go_wp2_with (go_at_call 137;refine HA.out.mono ?_;rintro e w1 ⟨rfl,e1⟩;subst e1);refine bodyPost_ret (results_none rfl _ _ _) rfl ?_;exact⟨rfl,rfl⟩
theorem len147 (w:World):Calls Tryz.prog 147 #[.int .u64 0] w fun e w'=>(∃ r,e=.returned (.int .i64 r))/\w'=w:=by
 go_enter Tryz.func147,Tryz.ntmps147;go_wp2_with fail
 go_ret
 exact⟨⟨_,rfl⟩,rfl⟩
theorem len136 (w:World):Calls Tryz.prog 136 #[.int .u64 0] w fun e w'=>(∃ r,e=.returned (.int .i64 r))/\Below w.heap.size w w':=by
 go_enter Tryz.func136,Tryz.ntmps136;go_wp2_with (go_at_call 147;refine(len147 _).mono ?_;rintro e w1 ⟨⟨r,rfl⟩,e1⟩;subst e1)
 go_ret
 exact⟨⟨_,rfl⟩,zc⟩
theorem sort131 (w:World):Calls Tryz.prog 131 #[.slice none 0 0] w fun e w'=>e=.returned (.tuple #[])/\Below w.heap.size w w':=by
 go_enter Tryz.func131,Tryz.ntmps131
 go_wp2_with (first
  |(go_at_call 136;refine(len136 _).mono ?_;rintro e w1 ⟨⟨r,rfl⟩,hd1⟩;have HB1:=Y hd1;clear hd1)
  |(go_at_call 135;refine(pdq135 _ _).mono ?_;rintro e w2 ⟨rfl,e2⟩;subst e2))
 go_end0
 exact⟨rfl,HB1.out⟩
theorem CB (bS gm:Nat)(w:World)(hb:Holds w bS 180 [.map (some gm)])(hm:w.heap[gm]? =some (.map #[] 0)):
 Calls Tryz.prog 127 #[.func (.func 132) #[] #[.pointer (some ⟨bS,0,none⟩)]] w fun e w'=>e=.returned (.slice none 0 0)/\Below w.heap.size w w':=by
 have HA:=Y (BM bS gm w hb hm);clear hb hm;go_enter Tryz.func127,Tryz.ntmps127
 go_wp2_with (first
  |(go_at_call 130;refine HA.out.mono ?_;rintro e w1 ⟨rfl,hb1⟩;have HB1:=Y hb1;clear hb1)
  |(go_at_call 131;refine(sort131 _).mono ?_;rintro e w2 ⟨rfl,hb2⟩;have HB2:=Y hb2;clear hb2))
 go_ret
 exact⟨rfl,ag HB1.out HB1.out.size HB2.out⟩
end
end Go.Proofs.YtglikkmmbdnmbaaGreat.Im

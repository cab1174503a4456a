/- A graph whose rows have whatever capacity, told: functions 66, 60, 43, 44, 45, 11. -/
import Derived.Test.YtglikkmmbdnmbaaGreatQ10
import Derived.Maps.RangeWalk
import Derived.Test.YtglikkmmbdnmbaaGreatQ02
import Derived.Test.YtglikkmmbdnmbaaGreatQ08
set_option maxHeartbeats 8000000
set_option maxRecDepth 100000
namespace Go.Proofs.YtglikkmmbdnmbaaGreat.Im
open Go.RowKit Q7
open YtglikkmmbdnmbaaGreat.Own PCan Wv
set_option linter.unusedVariables false
set_option linter.unusedSimpArgs false
section
structure GW (W:World)(g:Nat)(x:Gw)(M:Gm)(vG:Value)(vs:List (Value×Value)):Prop where
 hg:Holds W g 69 [.slice (some ⟨x.bT,0,none⟩) M.T.length x.cT,vG,.map (some x.gm)]
 hT:∃ cs,Holds W x.bT 70 cs/\∀(i b:Nat),x.bs[i]? =some b->cs[i]? =some (.pointer (some ⟨b,0,none⟩))
 hG:IV .i64 W vG M.G
 hM:∃ D,W.ownsMap Tryz.prog 3 Rp x.gm M.O.length D/\ObD (x.obs.map Ob.o) D
 lT:x.bs.length=M.T.length
 lO:x.obs.length=M.O.length
 lV:vs.length=M.O.length
 th:∀(i b:Nat) (t:LL),x.bs[i]? =some b->M.T[i]? =some t->∃ cs,Holds W b 119 cs/\fq cs t
 ob:∀(i:Nat) (o:Ob) (p:Value×Value) (t:LL),x.obs[i]? =some o->vs[i]? =some p->M.O[i]? =some t->Holds W o.o 126 [p.1,p.2]/\IV .i64 W p.1 t.1/\IV .u64 W p.2 t.2
 wf:Gwf M
section
variable {w W':World} {g:Nat} {x:Gw} {M:Gm} {vG:Value} {vs:List (Value×Value)}
theorem GW.below (h:GW w g x M vG vs)(hb:Below w.heap.size w W'):GW W' g x M vG vs:=by
 refine⟨h.hg.below hb,?_,h.hG.below hb,?_,h.lT,h.lO,h.lV,fun i b t hb' ht=>?_,fun i o p t ho hp ht=>?_,h.wf⟩
 . obtain⟨cs,hc,hk⟩:=h.hT;exact⟨cs,hc.below hb,hk⟩
 . obtain⟨D,hD,hO⟩:=h.hM;exact⟨D,dH hD (hb.block _ hD.lt),hO⟩
 . obtain⟨cs,hc,hk⟩:=h.th i b t hb' ht;exact⟨cs,hc.below hb,hk⟩
 . obtain⟨h1,h2,h3⟩:=h.ob i o p t ho hp ht;exact⟨h1.below hb,h2.below hb,h3.below hb⟩
theorem GW.thr (h:GW w g x M vG vs){k:Nat}{th:LL}(hk:M.T[k]? =some th):∃ b cs,x.bs[k]? =some b/\w.cell? ⟨x.bT,k,none⟩=some (.pointer (some ⟨b,0,none⟩))/\Holds w b 119 cs/\fq cs th/\ThOk M.O.length th:=by
 have hlt:k<x.bs.length:=by rw[h.lT];exact(List.getElem?_eq_some_iff.1 hk).1
 have hb:=List.getElem?_eq_getElem hlt;obtain⟨cs,h1,h2⟩:=h.th k _ th hb hk;obtain⟨ct,h3,h4⟩:=h.hT;exact⟨_,cs,hb,(h3.cell k).trans (h4 k _ hb),h1,h2,h.wf.ts th (List.mem_iff_getElem?.2 ⟨k,hk⟩)⟩
theorem GW.x0 (h:GW w g x M vG vs):w.cell? ⟨g,0,none⟩=some (.slice (some ⟨x.bT,0,none⟩) M.T.length x.cT):=(h.hg.cell 0).trans rfl
theorem GW.x1 (h:GW w g x M vG vs):w.cell? ⟨g,1,none⟩=some vG:=(h.hg.cell 1).trans rfl
theorem GW.x2 (h:GW w g x M vG vs):w.cell? ⟨g,2,none⟩=some (.map (some x.gm)):=(h.hg.cell 2).trans rfl
theorem GW.obj (h:GW w g x M vG vs){o:Nat}(ho:o<M.O.length):∃(p:Ob) (q:Value×Value),x.obs[o]? =some p/\Holds w p.o 126 [q.1,q.2]/\IV .i64 w q.1 (refsOf M o)/\IV .u64 w q.2 (bf M o)/\ObOk M.O.length (refsOf M o,bf M o):=by
 have hlt:o<x.obs.length:=by rw[h.lO];exact ho
 have hlv:o<vs.length:=by rw[h.lV];exact ho
 have e:M.O.getD o ([],[])=M.O[o]:=by rw[List.getD_eq_getElem?_getD,List.getElem?_eq_getElem ho];rfl
 have h1:=h.ob o _ _ _ (List.getElem?_eq_getElem hlt) (List.getElem?_eq_getElem hlv) (List.getElem?_eq_getElem ho);have h2:=h.wf.os _ (List.getElem_mem ho);unfold refsOf bf;rw[e];exact⟨_,_,List.getElem?_eq_getElem hlt,h1.1,h1.2.1,h1.2.2,h2⟩
theorem mV (h:GW w g x M vG vs):∃ ge W,ge=w.heap.size/\W=w.alloc (.cells #[.int .i64 0] 26)/\Holds W ge 26 [.int .i64 0]/\GW W g x M vG vs/\Below w.heap.size w W/\True/\w.heap.size<=ge:=by
 have hb:Below w.heap.size w (w.alloc (.cells #[.int .i64 0] 26)):=ae zc _;exact⟨_,_,rfl,rfl,bN rfl,h.below hb,hb,trivial,Nat.le_refl _⟩
theorem CX (h:GW w g x M vG vs)(k b:Nat)(hlt:k<M.T.length)(xT:w.cell? ⟨x.bT,k,none⟩=some (.pointer (some ⟨b,0,none⟩))):
 Calls Tryz.prog 66 #[.pointer (some ⟨g,0,none⟩),.int .i64 (k:Int)] w fun e w'=>e=.returned (.pointer (some ⟨b,0,none⟩))/\w'=w:=by
 have x0:=h.x0;have q1:decide ((k:Int)>=0)=true:=yb (by omega)
 have q1':decide (0<=(k:Int))=true:=yb (by omega)
 have q2:decide ((k:Int)<(M.T.length:Int))=true:=yb (by omega)
 have q2':decide (k<M.T.length)=true:=yb (by omega)
 have q3:(0:Int)<=(k:Int):=by omega
 have q4:(k:Int)<(M.T.length:Int):=by omega
 clear h;go_enter Tryz.func66,Tryz.ntmps66;go_wp2_with (go_at_call 61;refine(gu _ _).mono ?_;rintro e w2 ⟨rfl,rfl⟩)
 go_ret
 exact⟨rfl,rfl⟩
theorem w66_no (h:GW w g x M vG vs)(i:Int)(hi:atI M.T i=none):
 Calls Tryz.prog 66 #[.pointer (some ⟨g,0,none⟩),.int .i64 i] w fun e w'=>e=.panicked (iQ 2)/\w'=w:=by
 have x0:=h.x0;have hn:=gY hi;have r2:∀ b,b=false->Calls Tryz.prog 61 #[.bool b,.int .i64 2] w fun x w'=>x=.panicked (iQ 2)/\w'=w:=fun b hb=>hb▸jq 2 w
 clear h hi
 by_cases h0:i<0
 . have q1:decide (i>=0)=false:=yd (by omega)
   have q1':decide (0<=i)=false:=yd (by omega)
   clear hn h0;go_enter Tryz.func66,Tryz.ntmps66;go_wp2_with (go_at_call 61;first|(refine(r2 _ rfl).mono ?_;rintro e w2 ⟨rfl,rfl⟩)|(refine(gu _ _).mono ?_;rintro e w2 ⟨rfl,rfl⟩))
   exact⟨rfl,rfl,rfl⟩
 . have q1:decide (i>=0)=true:=yb (by omega)
   have q1':decide (0<=i)=true:=yb (by omega)
   have q2:decide (i<(M.T.length:Int))=false:=yd (by omega)
   clear hn h0;go_enter Tryz.func66,Tryz.ntmps66;go_wp2_with (go_at_call 61;first|(refine(r2 _ rfl).mono ?_;rintro e w2 ⟨rfl,rfl⟩)|(refine(gu _ _).mono ?_;rintro e w2 ⟨rfl,rfl⟩))
   exact⟨rfl,rfl,rfl⟩
theorem w60_ok (h:GW w g x M vG vs)(t i y:Int)(hs:bV M t i=some y):
 Calls Tryz.prog 60 #[.pointer (some ⟨g,0,none⟩),.int .i64 t,.int .i64 i] w fun e w'=>e=.returned (.int .i64 y)/\w'=w:=by
 unfold bV at hs;cases ht:atI M.T t with
 |none=>rw[ht]at hs;cases hs
 |some th=>
  rw[ht]at hs;obtain⟨k,rfl,hk,hlt⟩:=dC ht;obtain⟨j,rfl,hj,_⟩:=dC (show atI th.1 i=some y from hs)
  obtain⟨b,cs,hb,xT,hc,htc,hok⟩:=h.thr hk;have HA:=Y (CX h k b hlt xT);have HB:=Y (Cy hc htc j y hj hok.s8);clear hs ht hk hj hb xT hc htc hok h hlt;go_enter Tryz.func60,Tryz.ntmps60;go_wp2_with (first|(go_at_call 66;refine HA.out.mono ?_;rintro e w2 ⟨rfl,rfl⟩)|(go_at_call 93;refine HB.out.mono ?_;rintro e w2 ⟨rfl,rfl⟩)|(go_at_call 61;refine(gu _ _).mono ?_;rintro e w2 ⟨rfl,rfl⟩))
  go_ret
  exact⟨rfl,rfl⟩
theorem Eb (h:GW w g x M vG vs):
 Calls Tryz.prog 44 #[.pointer (some ⟨g,0,none⟩)] w fun e w'=>∃ v,e=.returned v/\Kd.R (Kd.int .i64) 3 w' w.heap.size (fun _=>True) v M.G/\Below w.heap.size w w':=by
 have x1:=h.x1;obtain⟨AG,cG,eG,hcG,hGC⟩:=h.hG;have HC:=Y (c98 vG M.G w h.hG (by have:=h.wf.g8;omega))
 subst eG;clear hcG hGC;clear h;go_enter Tryz.func44,Tryz.ntmps44;go_wp2_with (go_at_call 76;refine HC.out.mono ?_;rintro e w2 ⟨v,rfl,hr,hb⟩;have HR:=Y hr;have HB:=Y hb;clear hr hb)
 go_ret
 exact⟨_,rfl,HR.out,HB.out⟩
theorem wown_no (h:GW w g x M vG vs)(t:Int)(ht:atI M.T t=none):
 Calls Tryz.prog 43 #[.pointer (some ⟨g,0,none⟩),.int .i64 t] w fun e w'=>(∃ v1 v2,e=.returned (.tuple #[v1,v2,.int .i64 2]))/\Below w.heap.size w w':=by
 obtain⟨ge,W1,hge,hW,h3,hgl,hb,hF,hle⟩:=mV h;have H3:=Y h3;have HB:=Y hb;have HL:=Y hle;have HA:=Y (w66_no hgl t ht);clear h3 hgl hb hF hle h ht
 go_enter_defers Tryz.func43,Tryz.ntmps43
 go_upto_region 2 with(fail)
 rw[<-hW,<-hge];clear hW hge;go_wp2_with (go_at_call 66;refine HA.out.mono ?_;rintro e w2 ⟨rfl,hw2⟩;subst w2);exact jD rfl H3.out (fun W'=>ma (t1:=4) (t2:=5) (u:=6) rfl rfl rfl rfl W') (fun W' hs=>⟨⟨_,_,rfl⟩,hs.below HB.out HL.out⟩)
theorem wown_ok (h:GW w g x M vG vs)(k:Nat)(th:LL)(hk:M.T[k]? =some th):
 Calls Tryz.prog 43 #[.pointer (some ⟨g,0,none⟩),.int .i64 (k:Int)] w fun e w'=>∃ v1 v2,e=.returned (.tuple #[v1,v2,.int .i64 0])/\Kd.R (Kd.int .i64) 3 w' w.heap.size (fun _=>True) v1 th.1/\Kd.R (Kd.int .i64) 3 w' w.heap.size (fun _=>True) v2 th.2/\Below w.heap.size w w':=by
 obtain⟨ge,W1,hge,hW,h3,hgl,hb,hF,hle⟩:=mV h;have hlt:k<M.T.length:=(List.getElem?_eq_some_iff.1 hk).1;obtain⟨b,cs,hb2,xT,hc,htc,hok⟩:=hgl.thr hk;have H3:=Y h3;have HG:=Y hgl;have HB:=Y hb;have HL:=Y hle;have HA:=Y (CX hgl k b hlt xT);have HC:=Y (t74 hc htc);have HK:=Y (And.intro hk (And.intro hc (And.intro htc hok)));have HGE:=Y h3.lt;clear h3 hgl hb hF hle h hk hlt hb2 xT hc htc hok
 go_enter_defers Tryz.func43,Tryz.ntmps43
 go_upto_region 2 with(fail)
 rw[<-hW,<-hge];clear hW hge;go_wp2_with (first|(go_at_call 66;refine HA.out.mono ?_;rintro e w2 ⟨rfl,hw2⟩;subst w2)|(go_at_call 74;refine HC.out.mono ?_;rintro e w2 ⟨rfl,hw2⟩;subst w2))
 go_loopg [4,14] th.1.length (fun kq v4 v14 w'=>∃(i:Nat) (u4:Value),v4=u4/\v14=.int .i64 (i:Int)/\i+kq=th.1.length/\aa (Kd.R (Kd.int .i64) 3 w' W1.heap.size (fun _=>True) u4 (th.1.take i))/\aa (Below W1.heap.size W1 w'))
 case atStart=>exact⟨0,_,rfl,rfl,by omega,⟨Kd.fo _ _ _ _ _⟩,⟨zc⟩⟩
 case round=>
  obtain⟨i,u4,rfl,rfl,hi,HR,HBW⟩:=hrel;obtain⟨W0,rfl⟩:∃ W0,W0=wr:=⟨wr,rfl⟩;cases gk with
  |zero=>
   have r1:decide ((i:Int)<(th.1.length:Int))=false:=yd (by omega)
   have r2:decide (i<th.1.length)=false:=yd (by omega)
   have HCC:=Y (t75 (HK.out.2.1.below HBW.out) HK.out.2.2.1 HK.out.2.2.2.k);have H30:=Y (H3.out.below HBW.out);have HRI:=Y (show Kd.R (Kd.int .i64) 3 W0 W1.heap.size (fun _=>True) u4 th.1 by have:=HR.out;rw[List.take_of_length_le (by omega)]at this;exact this)
   obtain⟨A4,c4,e4⟩:=Kd.aD HRI.out;subst e4;clear HR hi;go_wp2_with (go_at_call 75;refine HCC.out.mono ?_;rintro e w3 ⟨v5,rfl,hi5,hb5⟩;have HI5:=Y hi5;have HB5:=Y hb5;have H33:=Y (H30.out.below hb5);have y3:=(H33.out.cell 0).trans rfl;have y4:=ak H33.out 0;clear hi5 hb5);refine mq rfl (bB H33.out (k:=0) (by show 0<1;decide) _) (fun W'=>ma (t1:=4) (t2:=5) (u:=6) rfl rfl rfl rfl W') (fun W' hb=>?_)
   have hs:=bu w3 ge 0 (.int .i64 0);have hro:∀{u:Value} {l:List Int} {B:Nat},Kd.R (Kd.int .i64) 3 w3 B (fun _=>True) u l->Kd.R (Kd.int .i64) 3 W' B (fun _=>True) u l:=fun hr=>Kd.aX (dW hr H33.out (fun q hq=>by rcases List.mem_cons.1 hq with rfl|hq;decide;cases hq) hs) hb
   refine⟨_,_,rfl,Kd.cB (hro (Kd.aX HRI.out HB5.out)) HB.out.size,Kd.cB (hro HI5.out) (Nat.le_trans HB.out.size HBW.out.size),?_⟩;have b1:=ag HB.out HB.out.size HBW.out;have b2:=ag b1 b1.size HB5.out;exact ag (hs.below b2 HL.out) (hs.below b2 HL.out).size hb
  |succ k1=>
   have hil:i<th.1.length:=by omega
   have r1:decide ((i:Int)<(th.1.length:Int))=true:=yb (by omega)
   have r2:decide (i<th.1.length)=true:=yb (by omega)
   have hw1:IntKind.i64.wrap ((i:Int)+1)=(i:Int)+1:=i64_in (by have:=HK.out.2.2.2.s8;omega)
   obtain⟨y,hy⟩:∃ y,th.1[i]? =some y:=⟨_,List.getElem?_eq_getElem hil⟩;have HCC:=Y (w60_ok (HG.out.below HBW.out) (k:Int) (i:Int) y (by unfold bV;rw[lc,HK.out.1];show atI th.1 i=_;rw[lc];exact hy))
   have HTK:=Y (show th.1.take i++[y]=th.1.take (i+1) by rw[List.take_add_one,hy];rfl)
   have HI:=Y (And.intro hi hil);have HLN:=Y (show(th.1.take i).length=i by rw[List.length_take];omega)
   obtain⟨A4,c4,e4⟩:=Kd.aD HR.out;rw[HLN.out]at e4;subst e4;clear hi hil hy;go_wp2_with (first|(go_at_call 60;refine HCC.out.mono ?_;rintro e w2 ⟨rfl,hw2⟩;subst w2)|(at_builtin;refine Kd.fD (Kd.int .i64) (w0:=W1) W1.heap.size rfl (.tmp 17) (.tmp 22) 38 3 (.int .i64 0) 8 rfl Tryz.underlying38 kI rfl (by decide) (by omega) _ (th.1.take i) y [.int .i64 y] (fun _=>True) (fun _=>False) rfl rfl rfl (fun _ hk=>hk.elim) (fun _ _=>trivial) HR.out HBW.out HBW.out.size (by rw[HLN.out];have:=HI.out.2;have:=HK.out.2.2.2.s8;omega) ?_;intro v2 w2 ho2 hb2 hg2 hat2;have HO2:=Y ho2;have HB2:=Y hb2;clear ho2 hb2 hg2 hat2))
   go_roundg k1
   case measure=>have:=HI.out;omega
   case rel=>exact⟨i+1,_,rfl,rfl,by have:=HI.out;omega,⟨by rw[<-HTK.out];exact HO2.out⟩,⟨HB2.out⟩⟩
theorem GW.look_ok (h:GW w g x M vG vs){n:Int}(hn: -1000000<=n/\n<=1000000):∃ v,(Instr.lookup 66 (.map (some x.gm)) (.int .i64 n) true).run Tryz.prog w=.ok (.tuple #[v,.bool (decide (1<=n/\n<=(M.O.length:Int)))]) w/\∀(p:Ob),1<=n->x.obs[n.toNat - 1]? =some p->v=.pointer (some ⟨p.o,0,none⟩):=by
 obtain⟨D,hD,hO⟩:=h.hM;have hwf:(Lit.int .i64 n).wf=true:=wf_i64 (by omega)
 obtain⟨v,ps,hrun,hv⟩:=hD.look_ok (t:=66) (e:=124) (Maps.int_keyed Tryz.underlying3) Tryz.underlying66 (z:=.pointer none) (Tryz.zeroValue124 _) (zd:=.lit (.int .i64 (-1))) (zp:=[]) rfl (Maps.keyOf_int_mk Tryz.underlying3 hwf);rw[hO.2.2.1,List.length_map,h.lO]at hrun;refine⟨v,hrun,fun p h1 hp=>?_⟩
 have h4:=hO.2.2.2 (n.toNat - 1) p.o (by rw[List.getElem?_map,hp];rfl)
 rw[show((n.toNat - 1:Nat):Int)+1=n by omega]at h4
 rw[h4]at hv;exact uf hv rfl
theorem zZ (h:GW w g x M vG vs)(n:Int)(hn: -1000000<=n/\n<=1000000)(hx:¬ (1<=n/\n<=(M.O.length:Int))):
 Calls Tryz.prog 45 #[.pointer (some ⟨g,0,none⟩),.int .i64 n] w fun e w'=>(∃ v1 v2,e=.returned (.tuple #[v1,v2,.int .i64 5]))/\Below w.heap.size w w':=by
 obtain⟨ge,W1,hge,hW,h3,hgl,hb,hF,hle⟩:=mV h;obtain⟨v,hlk,_⟩:=hgl.look_ok hn;rw[yd hx]at hlk;have x2:=hgl.x2;have H3:=Y h3;have HB:=Y hb;have HL:=Y hle;clear h3 hgl hb hF hle h hn hx
 go_enter_defers Tryz.func45,Tryz.ntmps45
 go_upto_region 2 with(fail)
 rw[<-hW,<-hge];clear hW hge;go_upto_region 4 with(go_at_call 61;refine(gu _ _).mono ?_;rintro e w2 ⟨rfl,hw2⟩;subst w2)
 go_wp2_with (go_at_call 61;refine(jq _ _).mono ?_;rintro e w2 ⟨rfl,hw2⟩;subst w2);exact jD rfl H3.out (fun W'=>ma (t1:=4) (t2:=5) (u:=6) rfl rfl rfl rfl W') (fun W' hs=>⟨⟨_,_,rfl⟩,hs.below HB.out HL.out⟩)
def V45w (B po:Nat)(vr vd:Value)(lr ld:List Int):Nat->Value->World->Prop
 |0,v,_=>v=.pointer (some ⟨po,0,none⟩)
 |1,v,_=>v=.pointer (some ⟨po,0,none⟩)
 |2,v,_=>v=.pointer (some ⟨po,0,none⟩)
 |3,v,_=>v=vr
 |4,v,w=>Kd.R (Kd.int .i64) 3 w B (fun _=>True) v lr
 |5,v,_=>v=.pointer (some ⟨po,0,none⟩)
 |6,v,_=>v=.pointer (some ⟨po,0,none⟩)
 |7,v,_=>v=.pointer (some ⟨po,1,none⟩)
 |8,v,_=>v=vd
 |9,v,w=>Kd.R (Kd.int .u64) 31 w B (fun _=>True) v ld
 |_,_,_=>True
theorem Az (B po:Nat)(vr vd:Value)(lr ld:List Int)(j:Nat)(v:Value)(w w':World)(h:V45w B po vr vd lr ld j v w)(hb:Below w.heap.size w w'):V45w B po vr vd lr ld j v w':=by
 unfold V45w at h ⊢
 split at h<;>first|exact h|exact Kd.aX h hb|trivial
theorem BA (h:GW w g x M vG vs)(k:Nat)(hk:k<M.O.length):
 Calls Tryz.prog 45 #[.pointer (some ⟨g,0,none⟩),.int .i64 ((k:Int)+1)] w fun e w'=>∃ v1 v2,e=.returned (.tuple #[v1,v2,.int .i64 0])/\Kd.R (Kd.int .i64) 3 w' w.heap.size (fun _=>True) v1 (refsOf M k)/\Kd.R (Kd.int .u64) 31 w' w.heap.size (fun _=>True) v2 (bf M k)/\Below w.heap.size w w':=by
 obtain⟨ge,W1,hge,hW,h3,hgl,hb,hF,hle⟩:=mV h;have hO:=h.wf.o;obtain⟨v,hlk,hv⟩:=hgl.look_ok (n:=(k:Int)+1) (by omega)
 rw[yb (by omega)]at hlk
 obtain⟨p,q,hp,ho1,ho2,ho3,hok⟩:=hgl.obj hk;obtain rfl:=hv p (by omega) (by rw[show((k:Int)+1).toNat - 1=k by omega];exact hp)
 have x2:=hgl.x2;have H3:=Y h3;have HB:=Y hb;have HL:=Y hle;have HO:=Y (And.intro ho1 (And.intro ho2 ho3));have HLR:=Y (show(refsOf M k).length<=95/\(bf M k).length<=95 from⟨by have:=hok.size;simp only at this;omega,by have:=hok.size;simp only at this;omega⟩)
 have HGE:=Y h3.lt;clear h3 hgl hb hF hle h hk hO hp ho1 ho2 ho3 hok hv
 go_enter_defers Tryz.func45,Tryz.ntmps45
 go_upto_region 2 with(fail)
 rw[<-hW,<-hge];clear hW hge;go_upto_region 5 with(go_at_call 61;refine(gu _ _).mono ?_;rintro e w2 ⟨rfl,hw2⟩;subst w2)
 refine jZ 10 33 (V45w W1.heap.size p.o q.1 q.2 (refsOf M k) (bf M k)) (by kernel_rfl) (by rfl) (by kernel_rfl) (fun j v w1 w2 h hb=>Az _ _ _ _ _ _ j v w1 w2 h hb) ?st ?en
 case st=>
  refine Steps.cons (fun a w1 fr hb hd K hK=>?_) ?_
  . exact af (aC rfl ((fr 7 (by kernel_rfl)).trans rfl)) (hK _ _ zc rfl)
  refine Steps.cons (fun a w1 fr hb hd K hK=>?_) ?_
  . exact af (bZ rfl (hd 0 23 (by kernel_rfl))) (hK _ _ zc rfl)
  refine Steps.cons (fun a w1 fr hb hd K hK=>?_) ?_
  . exact af (ky (i:=0) (by decide) rfl (hd 1 24 (by kernel_rfl))) (hK _ _ zc rfl)
  refine Steps.cons (fun a w1 fr hb hd K hK=>?_) ?_
  . exact af (dz rfl (hd 2 25 (by kernel_rfl)) (((HO.out.1.below hb).cell 0).trans rfl)) (hK _ _ zc rfl)
  refine Steps.cons (fun a w1 fr hb hd K hK=>?_) ?_
  . have e1:a.eval (.tmp 26)=q.1:=(hd 3 26 (by kernel_rfl))
    refine ek Tryz.func76 (by kernel_rfl) rfl #[q.1] rfl (by simp only[List.map_toArray,List.map_cons,List.map_nil,e1]) ?_
    refine(c98 _ (refsOf M k) w1 (HO.out.2.1.below hb) (by have:=HLR.out;omega)).mono ?_
    rintro e w2 ⟨v0,rfl,hr,hb2⟩;exact⟨_,rfl,hK _ _ hb2 (show Kd.R _ _ _ _ _ _ _ from Kd.cB hr hb.size)⟩
  refine Steps.cons (fun a w1 fr hb hd K hK=>?_) ?_
  . exact af (aC rfl ((fr 7 (by kernel_rfl)).trans rfl)) (hK _ _ zc rfl)
  refine Steps.cons (fun a w1 fr hb hd K hK=>?_) ?_
  . exact af (bZ rfl (hd 5 28 (by kernel_rfl))) (hK _ _ zc rfl)
  refine Steps.cons (fun a w1 fr hb hd K hK=>?_) ?_
  . exact af (ky (i:=1) (by decide) rfl (hd 6 29 (by kernel_rfl))) (hK _ _ zc rfl)
  refine Steps.cons (fun a w1 fr hb hd K hK=>?_) ?_
  . exact af (gJ rfl (hd 7 30 (by kernel_rfl)) (((HO.out.1.below hb).cell 1).trans rfl)) (hK _ _ zc rfl)
  refine Steps.cons (fun a w1 fr hb hd K hK=>?_) ?_
  . have e1:a.eval (.tmp 31)=q.2:=(hd 8 31 (by kernel_rfl))
    refine ek Tryz.func77 (by kernel_rfl) rfl #[q.2] rfl (by simp only[List.map_toArray,List.map_cons,List.map_nil,e1]) ?_
    refine(c114 _ (bf M k) w1 (HO.out.2.2.below hb) (by have:=HLR.out;omega)).mono ?_
    rintro e w2 ⟨v0,rfl,hr,hb2⟩;exact⟨_,rfl,hK _ _ hb2 (show Kd.R _ _ _ _ _ _ _ from Kd.cB hr hb.size)⟩
  exact Steps.nil
 case en=>
  intro vs w6 hb hv;have h4:Kd.R (Kd.int .i64) 3 w6 W1.heap.size (fun _=>True) (vs 4) (refsOf M k):=hv 4 27 (by decide) (by kernel_rfl)
  have h9:Kd.R (Kd.int .u64) 31 w6 W1.heap.size (fun _=>True) (vs 9) (bf M k):=hv 9 32 (by decide) (by kernel_rfl)
  obtain⟨A4,c4,e4⟩:=Kd.aD h4;obtain⟨A9,c9,e9⟩:=Kd.aD h9;simp only[List.take_succ_cons,List.take_zero,List.drop_succ_cons,List.drop_zero,bA,Act.put,zj,zr,ya,e4,e9];rw[e4]at h4;rw[e9]at h9;have HR4:=Y h4;have HR9:=Y h9;have HB6:=Y hb;have H36:=Y (H3.out.below hb);have y3:=(H36.out.cell 0).trans rfl;have y4:=ak H36.out 0;clear hv hb h4 h9 e4 e9 x2 hlk;go_wp2_with fail;refine mq rfl (bB H36.out (k:=0) (by show 0<1;decide) _) (fun W'=>ma (t1:=4) (t2:=5) (u:=6) rfl rfl rfl rfl W') (fun W' hb=>?_)
  have hs:=bu w6 ge 0 (.int .i64 0);refine⟨_,_,rfl,Kd.cB (Kd.aX (dW HR4.out H36.out (fun q hq=>by rcases List.mem_cons.1 hq with rfl|hq;decide;cases hq) hs) hb) HB.out.size,Kd.cB (Kd.aX (dW HR9.out H36.out (fun q hq=>by rcases List.mem_cons.1 hq with rfl|hq;decide;cases hq) hs) hb) HB.out.size,?_⟩
  have b1:=ag HB.out HB.out.size HB6.out;exact ag (hs.below b1 HL.out) (hs.below b1 HL.out).size hb
theorem wgraph (h:GW w g x M vG vs):
 Calls Tryz.prog 11 #[.pointer (some ⟨g,0,none⟩)] w fun e w'=>∃ v,e=.returned v/\iD w' v (dV (shM M))/\Below w.heap.size w w':=by
 obtain⟨W1,hW1,hS1⟩:=sw w;have HG:=Y h;have HS1:=Y hS1;have HW:=Y h.wf;clear h hS1;go_enter Tryz.func11,Tryz.ntmps11;go_upto_region 2 with(fail)
 rw[<-hW1];clear hW1;go_wp2_with fail
 go_loopg [4] (M.T.length+1) (fun kq v4 w'=>∃(i:Nat) (vT:Value) (ps:List (Value×Value)),v4=.int .i64 (i:Int)/\aa (i+kq=M.T.length+1/\i<=M.T.length)/\aa (SG w.heap.size w.heap.size (w.heap.size+1) w vT (.slice none 0 0) (.slice none 0 0) ps [] ((M.T.take i).map t88) [] [] w'))
 case atStart=>exact⟨0,_,[],rfl,⟨by omega,by omega⟩,HS1⟩
 case round=>
  clear HS1;obtain⟨i,vT,ps,rfl,HI,HSG⟩:=hrel;obtain⟨W0,rfl⟩:∃ W0,W0=wr:=⟨wr,rfl⟩;cases gk with
  |zero=>exact absurd HI.out.1 (by have:=HI.out.2;omega)
  |succ k1=>
   have HGL:=Y (HG.out.below HSG.out.hb)
   by_cases hi:i<M.T.length
   case neg=>
    have HOW:=Y (wown_no HGL.out (i:Int) (by rw[lc];exact List.getElem?_eq_none (by omega)))
    have HTI:=Y (show SG w.heap.size w.heap.size (w.heap.size+1) w vT (.slice none 0 0) (.slice none 0 0) ps [] (M.T.map t88) [] [] W0 by have:=HSG.out;rw[List.take_of_length_le (by omega)]at this;exact this)
    clear HSG hi HI;go_upto_region 7 with(go_at_call 43;refine HOW.out.mono ?_;rintro e w2 ⟨⟨v1,v2,rfl⟩,hb2⟩;have HB2:=Y hb2;clear hb2)
    have HS2:=Y (HTI.out.below HB2.out);have HGC:=Y (Eb (HG.out.below HS2.out.hb));clear HTI HB2 HOW HGL;go_upto_region 8 with(go_at_call 44;refine HGC.out.mono ?_;rintro e w3 ⟨vG,rfl,hr3,hb3⟩;obtain⟨AG,cG,eG⟩:=Kd.aD hr3;subst eG;have HR3:=Y (TR.kV hr3);have HS3:=Y (HS2.out.below hb3);have z2:=(HS3.out.h3.cell 1).trans rfl;have z3:=ak HS3.out.h3 1;clear hr3 hb3)
    have HS4:=Y (HS3.out.set (i:=1) (v:=.slice AG M.G.length cG) (vT':=vT) (vG':=.slice AG M.G.length cG) (vN':=.slice none 0 0) (by decide) rfl HS3.out.rT HS3.out.eT HR3.out HS3.out.rN HS3.out.eN)
    obtain⟨W4,hW4⟩:∃ W4,W4=w3.setCell ⟨w.heap.size+1,1,none⟩ (.slice AG M.G.length cG):=⟨_,rfl⟩;rw[<-hW4]at HS4 ⊢;clear hW4 HS3 HR3 HS2 HGC z2 z3;go_wp2_with fail
    go_loopg [8] (M.O.length+1) (fun kq v8 w'=>∃(j:Nat) (vN:Value) (qs:List (Value×Value)),v8=.int .i64 ((j:Int)+1)/\aa (j+kq=M.O.length+1/\j<=M.O.length)/\aa (SG w.heap.size w.heap.size (w.heap.size+1) w vT (.slice AG M.G.length cG) vN ps qs (M.T.map t88) M.G ((M.O.take j).map t89) w'))
    case atStart=>exact⟨0,_,[],rfl,⟨by omega,by omega⟩,HS4⟩
    case round=>
     clear HS4;obtain⟨j,vN,qs,rfl,HJ,HSN⟩:=hrel;obtain⟨W5,rfl⟩:∃ W5,W5=wr:=⟨wr,rfl⟩;cases gk with
     |zero=>exact absurd HJ.out.1 (by have:=HJ.out.2;omega)
     |succ k2=>
      have HGL:=Y (HG.out.below HSN.out.hb)
      by_cases hj:j<M.O.length
      case neg=>
       have HOW:=Y (zZ HGL.out ((j:Int)+1) (by have:=HW.out.o;have:=HJ.out.2;omega) (by omega))
       have HTI:=Y (show SG w.heap.size w.heap.size (w.heap.size+1) w vT (.slice AG M.G.length cG) vN ps qs (M.T.map t88) M.G (M.O.map t89) W5 by have:=HSN.out;rw[List.take_of_length_le (by omega)]at this;exact this)
       obtain⟨AT,cT,eT⟩:=Kd.aD HTI.out.rT;obtain⟨AN,cN,eN⟩:=Kd.aD HTI.out.rN;subst eT eN;clear HSN hj HJ;go_upto_region 13 with(go_at_call 45;refine HOW.out.mono ?_;rintro e w2 ⟨⟨v1,v2,rfl⟩,hb2⟩;have HB2:=Y hb2;clear hb2)
       have HS6:=Y (HTI.out.below HB2.out);have HMID:=Y (rC HW.out);have HCA:=Y (qp (shM M) HMID.out _ w2 (HS6.out.ish HMID.out.t HMID.out.G HMID.out.n));have HH6:=Y HS6.out.h3;have HB6:=Y HS6.out.hb;have HH2:=Y HS6.out.h2;clear HTI HS6 HOW HGL;go_wp2_with (first|((with_reducible refine aW (N:=53) rfl ?_);refine bE (g:=w.heap.size+1) (off:=0) (t:=46) (cs:=[.slice AT ps.length cT,.slice AG M.G.length cG,.slice AN qs.length cN]) (seg:=[.slice AT ps.length cT,.slice AG M.G.length cG,.slice AN qs.length cN]) rfl rfl (by rfl) HH6.out (by rfl) Tryz.underlying46 rfl eU ?_)|(go_at_call 46;refine HCA.out.mono ?_;rintro e w7 ⟨B7,qs7,ns7,AT7,AG7,cT7,nG7,cG7,vX7,vN7,rfl,hs7,hb7⟩;obtain⟨AX7,cX7,eX7⟩:=Kd.aD hs7.hn;subst eX7;have HS7:=Y hs7;have HB7:=Y hb7;have HH7:=Y (HH2.out.below hb7);clear hs7 hb7)|((with_reducible refine bg (t:=46) (p:=2) rfl ?_);refine aG rfl (ty:=46) rfl rfl (g:=w.heap.size) (off:=0) (vs:=#[.slice AT7 qs7.length cT7,.slice AG7 nG7 cG7,.slice AX7 ns7.length cX7]) rfl rfl HH7.out (by show 3<=3;decide) eU (by simp[Value.oneCell']) ?_;intro w9 hh9 hs9;have HH9:=Y hh9;have HS9:=Y hs9;clear hh9 hs9))
       refine bodyPost_ret (results_cell_row rfl _ _ w.heap.size 46 #[.slice AT7 qs7.length cT7,.slice AG7 nG7 cG7,.slice AX7 ns7.length cX7] (0,0) _ rfl HH9.out Tryz.underlying46 rfl eU) rfl ?_;refine⟨_,rfl,?_,HS9.out.below (ag HB6.out HB6.out.size HB7.out) (Nat.le_refl _)⟩;exact(HS7.out.other HH7.out HS9.out).ish
      case pos=>
       obtain⟨u,hu⟩:∃ u,M.O[j]? =some u:=⟨_,List.getElem?_eq_getElem hj⟩;have HU:=Y (lv hj);have HOW:=Y (BA HGL.out j hj);have HTK:=Y (show(M.O.take j).map t89++[t89 (refsOf M j,bf M j)]=(M.O.take (j+1)).map t89 by rw[List.take_add_one,HU.out,List.map_append];rfl)
       have HLN:=Y (show qs.length<=1000 by rw[HSN.out.eN.1,List.length_map,List.length_take];have:=HW.out.o;omega)
       have hw1:IntKind.i64.wrap ((j:Int)+1+1)=(j:Int)+1+1:=i64_in (by have:=HW.out.o;omega)
       have HJL:=Y hj;clear hj hu u;go_upto_region 11 with(go_at_call 45;refine HOW.out.mono ?_;rintro e w2 ⟨v1,v2,rfl,hr1,hr2,hb2⟩;obtain⟨A1',c1',e1⟩:=Kd.aD hr1;obtain⟨A2',c2',e2⟩:=Kd.aD hr2;subst e1 e2;have HR1:=Y (TR.kV hr1);have HR2:=Y (TR.kV hr2);have HSB:=Y (HSN.out.below hb2);clear hr1 hr2 hb2)
       have HO:=Y (And.intro HR1.out.one HR2.out.one);obtain⟨AN,cN,eN⟩:=Kd.aD HSB.out.rN;subst eN;have z1:=(HSB.out.h3.cell 2).trans rfl;clear HSN HOW HGL;go_wp2_with (at_builtin;refine Kd.fD bn (w0:=w) w.heap.size rfl (.tmp 46) (.tmp 50) 44 64 (.agg #[.slice none 0 0,.slice none 0 0]) 48 rfl Tryz.underlying44 sQ rfl (by decide) (by omega) _ qs ((.slice A1' (refsOf M j).length c1'),(.slice A2' (bf M j).length c2')) [(.slice A1' (refsOf M j).length c1'),(.slice A2' (bf M j).length c2')] (fun _=>True) (fun _=>False) rfl rfl ⟨rfl,HO.out.1,HO.out.2⟩ (fun _ hk=>hk.elim) (fun _ _=>trivial) HSB.out.rN HSB.out.hb HSB.out.size (by have:=HLN.out;omega) ?_;intro v2 w2 ho2 hb2 hg2 hat2;obtain⟨A2,c2,e2⟩:=Kd.aD ho2;rw[List.length_append,List.length_singleton]at e2;subst e2;have HO2:=Y ho2;have HG2:=Y hg2;have HB2:=Y hb2;have HH2:=Y (Tk.grown HSB.out.rN hg2 _ 46 _ (by decide) HSB.out.h3);have z2:=(HH2.out.cell 2).trans rfl;have z3:=ak HH2.out 2;clear ho2 hb2 hg2 hat2)
       go_roundg k2
       case measure=>have:=HJ.out;omega
       case rel=>
        refine⟨j+1,.slice A2 (qs.length+1) c2,qs++[((.slice A1' (refsOf M j).length c1'),(.slice A2' (bf M j).length c2'))],by rw[show((j+1:Nat):Int)+1=(j:Int)+1+1 by omega],⟨by have:=HJ.out;omega,by have:=HJL.out;omega⟩,⟨?_⟩⟩
        rw[<-HTK.out];exact HSB.out.uN (u:=t89 (refsOf M j,bf M j)) HR1.out HR2.out HO2.out HG2.out HB2.out
   case pos=>
    obtain⟨u,hu⟩:∃ u,M.T[i]? =some u:=⟨_,List.getElem?_eq_getElem hi⟩;have HOW:=Y (wown_ok HGL.out i u hu);have HTK:=Y (show(M.T.take i).map t88++[t88 u]=(M.T.take (i+1)).map t88 by rw[List.take_add_one,hu,List.map_append];rfl)
    have HLN:=Y (show ps.length<=1000 by rw[HSG.out.eT.1,List.length_map,List.length_take];have:=HW.out.t64;omega)
    have hw1:IntKind.i64.wrap ((i:Int)+1)=(i:Int)+1:=i64_in (by have:=HW.out.t64;omega)
    have HIL:=Y hi;clear hi hu;go_upto_region 5 with(go_at_call 43;refine HOW.out.mono ?_;rintro e w2 ⟨v1,v2,rfl,hr1,hr2,hb2⟩;obtain⟨A1',c1',e1⟩:=Kd.aD hr1;obtain⟨A2',c2',e2⟩:=Kd.aD hr2;subst e1 e2;have HR1:=Y (TR.kV hr1);have HR2:=Y (TR.kV hr2);have HSB:=Y (HSG.out.below hb2);clear hr1 hr2 hb2)
    have HO:=Y (And.intro HR1.out.one HR2.out.one);obtain⟨AT,cT,eT⟩:=Kd.aD HSB.out.rT;subst eT;have z1:=(HSB.out.h3.cell 0).trans rfl;clear HSG HOW HGL;go_wp2_with (at_builtin;refine Kd.fD bn (w0:=w) w.heap.size rfl (.tmp 24) (.tmp 28) 43 61 (.agg #[.slice none 0 0,.slice none 0 0]) 48 rfl Tryz.underlying43 sK rfl (by decide) (by omega) _ ps ((.slice A1' u.1.length c1'),(.slice A2' u.2.length c2')) [(.slice A1' u.1.length c1'),(.slice A2' u.2.length c2')] (fun _=>True) (fun _=>False) rfl rfl ⟨rfl,HO.out.1,HO.out.2⟩ (fun _ hk=>hk.elim) (fun _ _=>trivial) HSB.out.rT HSB.out.hb HSB.out.size (by have:=HLN.out;omega) ?_;intro v2 w2 ho2 hb2 hg2 hat2;obtain⟨A2,c2,e2⟩:=Kd.aD ho2;rw[List.length_append,List.length_singleton]at e2;subst e2;have HO2:=Y ho2;have HG2:=Y hg2;have HB2:=Y hb2;have HH2:=Y (Tk.grown HSB.out.rT hg2 _ 46 _ (by decide) HSB.out.h3);have z2:=(HH2.out.cell 0).trans rfl;have z3:=ak HH2.out 0;clear ho2 hb2 hg2 hat2)
    go_roundg k1
    case measure=>have:=HI.out;omega
    case rel=>
     refine⟨i+1,.slice A2 (ps.length+1) c2,ps++[((.slice A1' u.1.length c1'),(.slice A2' u.2.length c2'))],rfl,⟨by have:=HI.out;omega,by have:=HIL.out;omega⟩,⟨?_⟩⟩
     rw[<-HTK.out];exact HSB.out.uz (u:=t88 u) HR1.out HR2.out HO2.out HG2.out HB2.out
end
end
section
def Bv (B:Nat)(v:Value):Prop:=∀ ad n c,v=.slice (some ad) n c->B<=ad.block
theorem Bv.mono {B B':Nat}{v:Value}(h:Bv B v)(hB:B'<=B):Bv B' v:=fun ad n c e=>Nat.le_trans hB (h ad n c e)
theorem R_bv {k:IntKind}{e B:Nat}{ok:Nat->Prop}{W:World}{v:Value}{l:List Int}(h:Kd.R (Kd.int k) e W B ok v l):Bv B v:=by
 obtain⟨_,inner,⟨hil,hown⟩,hr⟩:=h
 rcases hown with⟨rfl,h0⟩|⟨bT,cap,cur,rfl,hbT,hh,hcap,hmax,hsz,htk⟩
 . intro ad n c e;cases e
 . intro ad n c e;cases e;exact hbT
def Kept (B:Nat)(W W':World):Prop:=W.heap.size<=W'.heap.size/\∀ q,B<=q->q<W.heap.size->W'.heap[q]? =W.heap[q]?
theorem IV.kept {k:IntKind}{B:Nat}{w W':World}{v:Value}{l:List Int}(h:IV k w v l)(hB:Bv B v)(hk:Kept B w W'):IV k W' v l:=by
 obtain⟨A,c,e,hc,h1,h2,h3⟩:=h;refine⟨A,c,e,hc,h1,h2,fun h0=>?_⟩
 obtain⟨ad,ea,hk3⟩:=h3 h0;refine⟨ad,ea,fun j p hj=>?_⟩
 obtain⟨cs,k1,k2,k3⟩:=hk3 j p hj;refine⟨cs,k1,k2,fun i u hi=>?_⟩
 have hcell:=k3 i u hi;rw[<-hcell];unfold World.cell?;have hlt:=World.block_lt_of_cell? w _ hcell;have eb:(ad.add (j*(Kd.int k).sz+i)).block=ad.block:=by unfold Addr.add;split<;>rfl
 rw[hk.2 _ (by rw[eb];exact hB ad _ _ (ea▸e)) hlt]
structure Lo (B g:Nat)(x:Gw)(vG:Value)(vs:List (Value×Value)):Prop where
 g:B<=g
 T:B<=x.bT
 m:B<=x.gm
 bs:∀ b∈x.bs,B<=b
 ob:∀ o∈x.obs,B<=o.o
 vG:Bv B vG
 vs:∀ p∈vs,Bv B p.1/\Bv B p.2
theorem GW.kept {B g:Nat}{W W':World}{x:Gw}{M:Gm}{vG:Value}{vs:List (Value×Value)}(h:GW W g x M vG vs)(hl:Lo B g x vG vs)(hk:Kept B W W'):GW W' g x M vG vs:=by
 have kh:∀{b t:Nat} {cs:List Value},B<=b->Holds W b t cs->Holds W' b t cs:=fun hb hh=>(hk.2 _ hb hh.lt).trans hh
 refine⟨kh hl.g h.hg,?_,h.hG.kept hl.vG hk,?_,h.lT,h.lO,h.lV,fun i b t hb' ht=>?_,fun i o p t ho hp ht=>?_,h.wf⟩
 . obtain⟨cs,hc,hkk⟩:=h.hT;exact⟨cs,kh hl.T hc,hkk⟩
 . obtain⟨D,hD,hO⟩:=h.hM;exact⟨D,dH hD (hk.2 _ hl.m hD.lt),hO⟩
 . obtain⟨cs,hc,hkk⟩:=h.th i b t hb' ht;exact⟨cs,kh (hl.bs _ (List.mem_of_getElem? hb')) hc,hkk⟩
 . obtain⟨h1,h2,h3⟩:=h.ob i o p t ho hp ht;have hv:=hl.vs _ (List.mem_of_getElem? hp);exact⟨kh (hl.ob _ (List.mem_of_getElem? ho)) h1,h2.kept hv.1 hk,h3.kept hv.2 hk⟩
theorem ve {α:Type}{C:α->Prop}{x:α}(h:C x):∀ y∈[x],C y:=fun y hy=>by
 rw[List.mem_singleton.1 hy];exact h
theorem map_mem {α β:Type}{C:β->Prop}{f:α->β}{l:List α}(h:∀ x∈l,C (f x)):∀ y∈l.map f,C y:=fun y hy=>by
 obtain⟨x,hx,rfl⟩:=List.mem_map.1 hy;exact h x hx
structure CO (w:World)(g' gm':Nat)(vG:Value)(M:Gm)(vs:List (Value×Value))(os:List Nat)(W:World):Prop where
 hg:Holds W g' 69 [.slice none 0 0,vG,.map (some gm')]
 hG:IV .i64 W vG M.G
 hM:∃ D,W.ownsMap Tryz.prog 3 Rp gm' os.length D/\ObD os D
 lV:vs.length=os.length
 ob:∀(i o:Nat) (p:Value×Value) (t:LL),os[i]? =some o->vs[i]? =some p->M.O[i]? =some t->Holds W o 126 [p.1,p.2]/\IV .i64 W p.1 t.1/\IV .u64 W p.2 t.2
 hb:Below w.heap.size w W
 lo:w.heap.size<=g'/\w.heap.size<=gm'/\g'≠gm'
 lx:Bv w.heap.size vG/\(∀ p∈vs,Bv w.heap.size p.1/\Bv w.heap.size p.2)/\∀ o∈os,w.heap.size<=o
theorem CO.below {w W W':World}{g' gm':Nat}{vG:Value}{M:Gm}{vs:List (Value×Value)}{os:List Nat}(h:CO w g' gm' vG M vs os W)(hb:Below W.heap.size W W'):CO w g' gm' vG M vs os W':=by
 refine⟨h.hg.below hb,h.hG.below hb,?_,h.lV,fun i o p t ho hp ht=>?_,ag h.hb h.hb.size hb,h.lo,h.lx⟩
 . obtain⟨D,hD,hO⟩:=h.hM;exact⟨D,dH hD (hb.block _ hD.lt),hO⟩
 . obtain⟨h1,h2,h3⟩:=h.ob i o p t ho hp ht;exact⟨h1.below hb,h2.below hb,h3.below hb⟩
theorem IV.turned {k:IntKind}{w W':World}{v:Value}{l:List Int}{b:Nat}(h:IV k w v l)(hg:w.grownBy W' (some b))(hb:∃ es c,w.heap[b]? =some (.map es c)):IV k W' v l:=by
 obtain⟨A,c,e,hc,h1,h2,h3⟩:=h;refine⟨A,c,e,hc,h1,h2,fun h0=>?_⟩
 obtain⟨ad,ea,hk⟩:=h3 h0;refine⟨ad,ea,fun j p hj=>?_⟩
 obtain⟨cs,k1,k2,k3⟩:=hk j p hj;refine⟨cs,k1,k2,fun i u hi=>?_⟩
 have hcell:=k3 i u hi;rw[<-hcell]
 have hne:(ad.add (j*(Kd.int k).sz+i)).block≠b:=fun e=>by
  obtain⟨es,c,hm⟩:=hb;unfold World.cell? at hcell;rw[e,hm]at hcell;cases hcell
 unfold World.cell?;rw[hg.block _ (World.block_lt_of_cell? w _ hcell) (fun e=>hne (Option.some.inj e))]
theorem CO.put {w W W':World}{g' gm' pb:Nat}{vG u1 u2:Value}{M:Gm}{D:DataW Unit}(h:CO w g' gm' vG M [] [] W)(hp:Holds W pb 126 [u1,u2])(h1:IV .i64 W u1 (refsOf M 0))(h2:IV .u64 W u2 (bf M 0))(hD0:W.ownsMap Tryz.prog 3 Rp gm' 0 D)(hO:ObD [] D)(l1:Bv w.heap.size u1)(l2:Bv w.heap.size u2)(lp:w.heap.size<=pb)
 (hD:W'.ownsMap Tryz.prog 3 Rp gm' (0+1) (D.put (.int .i64 1) (.lit (.int .i64 (pb:Int))))) (hg:W.grownBy W' (some gm')):CO w g' gm' vG M [(u1,u2)] [pb] W':=by
 have hm:∃ es c,W.heap[gm']? =some (.map es c):=by
  obtain⟨es,c,h3,_⟩:=hD0;exact⟨es,c,h3⟩
 have hpm:some pb≠some gm':=fun e=>by
  obtain⟨es,c,h3⟩:=hm;injection e with e
  have h4:=(show _=_ from hp).symm.trans (e▸h3)
  injection h4 with h4
  cases h4
 refine⟨aY h.hg hg (fun e=>h.lo.2.2 (Option.some.inj e)),h.hG.turned hg hm,⟨_,hD,zH hO (hD.tidy (Maps.int_keyed Tryz.underlying3))⟩,rfl,fun i o p t ho hp2 ht=>?_,h.hb.grown hg h.hb.size (fun q e=>by cases e;exact h.lo.2.1),h.lo,h.lx.1,ve (C:=fun p:Value×Value=>Bv w.heap.size p.1/\Bv w.heap.size p.2) ⟨l1,l2⟩,ve (C:=fun o=>w.heap.size<=o) lp⟩
 cases i with
 |succ i=>simp at ho
 |zero=>
  obtain rfl:pb=o:=by simpa using ho
  obtain rfl:(u1,u2)=p:=by simpa using hp2
  have e:M.O.getD 0 ([],[])=t:=by rw[List.getD_eq_getElem?_getD,ht];rfl
  unfold refsOf at h1;unfold bf at h2;rw[e]at h1 h2;exact⟨aY hp hg hpm,h1.turned hg hm,h2.turned hg hm⟩
theorem IV.stored {k:IntKind}{w W':World}{v:Value}{l:List Int}{b t:Nat}{cs:List Value}(h:IV k w v l)(hs:bH w W' b)(hb:Holds w b t cs)(hn:∀ u∈cs,∀(q:IntKind)(n:Int),u≠ .int q n):IV k W' v l:=by
 obtain⟨A,c,e,hc,h1,h2,h3⟩:=h;refine⟨A,c,e,hc,h1,h2,fun h0=>?_⟩
 obtain⟨ad,ea,hk⟩:=h3 h0;refine⟨ad,ea,fun j p hj=>?_⟩
 obtain⟨cs',k1,k2,k3⟩:=hk j p hj;refine⟨cs',k1,k2,fun i u hi=>?_⟩
 have hcell:=k3 i u hi;rw[<-hcell]
 have hu:u=.int k p:=by
  obtain rfl:cs'=[.int k p]:=k2;cases i with
  |succ i=>simp at hi
  |zero=>simpa using hi.symm
 have hne:(ad.add (j*(Kd.int k).sz+i)).block≠b:=fun e=>by
  unfold World.cell? at hcell;rw[e,show w.heap[b]? =_ from hb]at hcell
  simp only at hcell
  split at hcell
  . cases hcell
  . exact hn u (List.mem_of_getElem? (by simpa using hcell)) k p hu
 unfold World.cell?;rw[hs.block _ hne]
theorem En {W:World}{B b:Nat}{ok:Nat->Prop}{v:Value}(h:Kd.R pW 70 W B ok v [b]):∃ bT cT cs,v=.slice (some ⟨bT,0,none⟩) 1 cT/\B<=bT/\Holds W bT 70 cs/\cs[0]? =some (.pointer (some ⟨b,0,none⟩)):=by
 obtain⟨_,inner,⟨hil,hown⟩,hr⟩:=h
 rcases hown with⟨rfl,h0⟩|⟨bT,cap,cur,rfl,hbT,hh,hcap,hmax,hsz,htk⟩
 . exact absurd h0 (by simp)
 . refine⟨bT,cap,cur.toList,rfl,hbT,by show W.heap[bT]? =some (.cells cur.toList.toArray 70 (0,0));rw[Array.toArray_toList];exact hh,?_⟩
   obtain⟨hlen,hat⟩:=hr;have hb3:(inner.drop (0*1)).take 1=[.pointer (some ⟨b,0,none⟩)]:=hat 0 b rfl
   have hb4:inner[0]? =some (.pointer (some ⟨b,0,none⟩)):=by
    have:=congrArg (fun l=>l[0]?) hb3
    simpa [List.getElem?_take,List.getElem?_drop] using this
   rw[<-htk,List.getElem?_take]at hb4
   split at hb4
   . exact hb4
   . cases hb4
theorem CO.done {w W W':World}{g' gm' rb:Nat}{vG v2:Value}{M:Gm}{vs:List (Value×Value)}{os:List Nat}{y z:Int}{cs:List Value}(h:CO w g' gm' vG M vs os W)(hl:os.length=M.O.length)(hw:Gwf M)(hT:M.T=[([y,z],[])])
 (hr:Kd.R pW 70 W w.heap.size (fun _=>True) v2 [rb]) (hc:Holds W rb 119 cs) (ht:fq cs ([y,z],[])) (hs:bH W W' g') (hg:Holds W' g' 69 [v2,vG,.map (some gm')]) (hrb:w.heap.size<=rb):∃ x',GW W' g' x' M vG vs/\Below w.heap.size w W'/\Lo w.heap.size g' x' vG vs:=by
 obtain⟨bT,cT,ct,rfl,hbT,hTh,hTc⟩:=En hr;obtain⟨AG,cG,rfl,_,_⟩:=h.hG
 have hn:∀ u∈[Value.slice none 0 0,.slice AG M.G.length cG,.map (some gm')],∀(q:IntKind) (n:Int),u≠ .int q n:=fun u hu q n e=>by
  simp only[List.mem_cons,List.not_mem_nil,or_false]at hu
  rcases hu with rfl|rfl|rfl<;>cases e
 refine⟨⟨bT,cT,0,gm',[rb],os.map (fun o=>⟨o,0,0⟩)⟩,⟨by rw[hT];exact hg,⟨ct,hs.holds hTh (eH hTh h.hg (by decide)),fun i b hb=>?_⟩,h.hG.stored hs h.hg hn,?_,by rw[hT];rfl,by show(os.map _).length=_;rw[List.length_map];exact hl,by rw[h.lV];exact hl,fun i b t hb ht'=>?_,fun i o p t ho hp ht'=>?_,hw⟩,hs.below h.hb h.lo.1,h.lo.1,hbT,h.lo.2.1,ve (C:=fun b=>w.heap.size<=b) hrb,map_mem (C:=fun o:Ob=>w.heap.size<=o.o) h.lx.2.2,h.lx.1,h.lx.2.1⟩
 . cases i with
   |succ i=>simp at hb
   |zero=>
    obtain rfl:rb=b:=by simpa using hb
    exact hTc
 . obtain⟨D,hD,hO⟩:=h.hM;have e:(os.map (fun o=>(⟨o,0,0⟩:Ob))).map Ob.o=os:=by rw[List.map_map];exact List.map_id os
   refine⟨D,?_,by rw[e];exact hO⟩
   rw[<-hl];exact dH hD (hs.block _ (iN h.hg hD))
 . rw[hT]at ht';cases i with
   |succ i=>simp at hb
   |zero=>
    obtain rfl:rb=b:=by simpa using hb
    obtain rfl:([y,z],[])=t:=by simpa using ht'
    exact⟨cs,hs.holds hc (eH hc h.hg (by decide)),ht⟩
 . rw[List.getElem?_map]at ho;obtain⟨q,hq,rfl⟩:=Option.map_eq_some_iff.1 ho;obtain⟨h1,h2,h3⟩:=h.ob i q p t hq hp ht';exact⟨hs.holds h1 (eH h1 h.hg (by decide)),h2.stored hs h.hg hn,h3.stored hs h.hg hn⟩
theorem obD_one {o:Nat}{D:DataW Unit}(h:ObD [o] D)(xx:Int)(c:Value)(kl:Lit)(y:DataW Unit×List MemPlace)(hk:keyOf Tryz.prog 3 (.int .i64 xx)=some kl)(hl:Maps.has D kl=true)(hR:Rp c=some y)(hat:∀ zd,D.atKey kl zd=y.1):xx=1/\c=.pointer (some ⟨o,0,none⟩):=by
 obtain⟨x',e,rfl,_⟩:=Maps.keyOf_int_inv Tryz.underlying3 hk;injection e with _ e
 subst e;rw[h.2.2.1]at hl;have h1:=of_decide_eq_true hl
 obtain rfl:xx=1:=by
  have:(([o]:List Nat).length:Int)=1:=rfl;omega
 refine⟨rfl,uf hR ?_⟩;rw[<-hat (.lit (.int .i64 (-1)))];exact h.2.2.2 0 o rfl
def V90 (B g gm ob:Nat)(k:Int)(s1 s2:Value)(lr ld:List Int):Nat->Value->World->Prop
 |0,v,_=>v=.pointer (some ⟨g,0,none⟩)
 |1,v,_=>v=.pointer (some ⟨g,0,none⟩)
 |2,v,_=>v=.pointer (some ⟨g,2,none⟩)
 |3,v,_=>v=.map (some gm)
 |4,v,_=>v=.int .i64 k
 |5,v,_=>v=.pointer (some ⟨ob,0,none⟩)
 |6,v,_=>v=.pointer (some ⟨ob,0,none⟩)
 |7,v,_=>v=.pointer (some ⟨ob,0,none⟩)
 |8,v,_=>v=s1
 |9,v,w=>IV .i64 w v lr/\Bv B v
 |10,v,_=>v=.pointer (some ⟨ob,0,none⟩)
 |11,v,_=>v=.pointer (some ⟨ob,0,none⟩)
 |12,v,_=>v=.pointer (some ⟨ob,1,none⟩)
 |13,v,_=>v=s2
 |14,v,w=>IV .u64 w v ld/\Bv B v
 |15,v,w=>∃ u1 u2,v=.agg #[u1,u2]/\IV .i64 w u1 lr/\IV .u64 w u2 ld/\Bv B u1/\Bv B u2
 |16,v,w=>∃ pb u1 u2,v=.pointer (some ⟨pb,0,none⟩)/\B<=pb/\Holds w pb 126 [u1,u2]/\IV .i64 w u1 lr/\IV .u64 w u2 ld/\Bv B u1/\Bv B u2
 |_,_,_=>True
theorem Dt (B g gm ob:Nat)(k:Int)(s1 s2:Value)(lr ld:List Int)(j:Nat)(v:Value)(w w':World)(h:V90 B g gm ob k s1 s2 lr ld j v w)(hb:Below w.heap.size w w'):V90 B g gm ob k s1 s2 lr ld j v w':=by
 unfold V90 at h ⊢
 split at h<;>first|exact h|exact⟨IV.below h.1 hb,h.2⟩|(obtain⟨u1,u2,e,h1,h2,h3⟩:=h;exact⟨u1,u2,e,h1.below hb,h2.below hb,h3⟩)|(obtain⟨pb,u1,u2,e,hB,hh,h1,h2,h3⟩:=h;exact⟨pb,u1,u2,e,hB,hh.below hb,h1.below hb,h2.below hb,h3⟩)|trivial
section
variable {F:Nat→Prop} {w:World} {g:Nat} {x:Gw} {M:Gm}
theorem vL (h:GL F w g x M)(y z:Int)(hT:M.T=[([y,z],[])])(hO1:M.O.length<=1):
 Calls Tryz.prog 90 #[.pointer (some ⟨g,0,none⟩)] w fun e w'=>∃ g' x' vG vs,e=.returned (.pointer (some ⟨g',0,none⟩))/\GW w' g' x' M vG vs/\Below w.heap.size w w'/\Lo w.heap.size g' x' vG vs:=by
 have HC:=Y (c98 (.slice (some ⟨x.bG,0,none⟩) M.G.length M.G.length) M.G w ⟨_,_,rfl,Nat.le_refl _,iv_C h.hG (by have:=h.wf.g8;omega)⟩ (by have:=h.wf.g8;omega))
 have HG:=Y h;have HTT:=Y hT;have HO1:=Y hO1;have x1:=h.x1;clear h hT hO1;go_enter Tryz.func90,Tryz.ntmps90
 go_upto_region 4 with(first
  |(go_at_call 76;refine HC.out.mono ?_;rintro e w1 ⟨v0,rfl,hr,hb1⟩;obtain⟨A0,c0,e0⟩:=Kd.aD hr;subst e0;have HV:=Y (jN hr);have HBV:=Y (R_bv hr);have HB1:=Y hb1;clear hr hb1)
  |((with_reducible refine aW (N:=23) rfl ?_);refine Kd.fA rfl (qY rfl) ?_))
 obtain⟨Wc,hWc⟩:∃ Wc,Wc=(w1.alloc (.map #[] 0)).alloc (.cells #[.slice none 0 0,.slice A0 M.G.length c0,.map (some w1.heap.size)] 69):=⟨_,rfl⟩;have hbm:=ae (Below.refl w1.heap.size w1) (.map #[] 0);have hbc:Below (w1.alloc (.map #[] 0)).heap.size (w1.alloc (.map #[] 0)) Wc:=by rw[hWc];exact ae zc _
 have HCO:aa (CO w (w1.heap.size+1) w1.heap.size (.slice A0 M.G.length c0) M [] [] Wc):=⟨by
  have hbw:Below w1.heap.size w1 Wc:=ag hbm hbm.size hbc;refine⟨?_,HV.out.below hbw,⟨.map [],?_,zz⟩,rfl,fun i o p t ho _ _=>by simp at ho,ag HB1.out HB1.out.size hbw,⟨Nat.le_succ_of_le HB1.out.size,HB1.out.size,Nat.succ_ne_self _⟩,HBV.out,fun p hp=>by simp at hp,fun o ho=>by simp at ho⟩
  . have k:=aK (w1.alloc (.map #[] 0)) (.cells #[.slice none 0 0,.slice A0 M.G.length c0,.map (some w1.heap.size)] 69);rw[World.size_alloc,<-hWc]at k;exact k
  . exact dH (World.ownsMap_made w1 Tryz.prog 3 Rp) (hbc.block _ (by simp))⟩
 rw[<-hWc];obtain⟨g',hg'⟩:∃ g',g'=w1.heap.size+1:=⟨_,rfl⟩;obtain⟨gm',hgm'⟩:∃ gm',gm'=w1.heap.size:=⟨_,rfl⟩;obtain⟨vG,hvG⟩:∃ vG,vG=Value.slice A0 M.G.length c0:=⟨_,rfl⟩;rw[<-hg',<-hgm',<-hvG]at HCO;rw[<-hg',<-hvG];have z2:=(HG.out.below HCO.out.hb).x2;obtain⟨D,hD,hOD⟩:=(HG.out.below HCO.out.hb).hM;have HD:=Y hD;have HOD:=Y hOD;obtain⟨r,hr⟩:∃ r,r=Wc.heap.size:=⟨_,rfl⟩;have HR:=Y hr;clear hr hD hOD hWc hbm hbc hg' hgm' hvG x1 HC HV HB1;go_wp2_with (at_range;refine wpList_range_own _ rfl _ 66 rfl 3 124 (Maps.int_keyed Tryz.underlying3) Tryz.underlying66 Rp x.gm M.O.length D rfl HD.out ?_;intro w0 hrg0 hg0 hs0;rw[<-HR.out];have HRG:=Y (HR.out▸hrg0);have HG0:=Y hg0;clear hrg0 hg0 hs0);clear z2
 go_frame
 go_loopg [4] M.O.length (fun kq v4 w'=>∃(u4:Value),v4=u4/\((kq=1/\M.O.length=1/\aa (w'.ranges Tryz.prog 3 Rp x.gm r M.O.length D (Maps.has D) 1)/\aa (Below Wc.heap.size Wc w'))\/(∃(left:Lit->Bool) (vs:List (Value×Value)) (os:List Nat),kq=0/\aa (w'.ranges Tryz.prog 3 Rp x.gm r M.O.length D left 0)/\aa (os.length=M.O.length)/\aa (CO w g' gm' vG M vs os w'))))
 case atStart=>
  have hb:Below Wc.heap.size Wc w0:=⟨HG0.out.os,HG0.out.tape,HG0.out.output,HG0.out.size,fun i hi=>HG0.out.block i hi (by simp)⟩
  have hsz:Maps.size D=M.O.length:=by rw[HOD.out.2.1,List.length_map,HG.out.lO]
  refine⟨_,rfl,?_⟩;have hrg:=HRG.out
  rcases(show M.O.length=0\/M.O.length=1 by have:=HO1.out;omega)with e|e
  . rw[show Maps.size D=0 from hsz.trans e]at hrg
    exact .inr ⟨_,[],[],e,⟨hrg⟩,⟨e.symm⟩,⟨HCO.out.below hb⟩⟩
  . rw[show Maps.size D=1 from hsz.trans e]at hrg
    exact .inl ⟨e,e,⟨hrg⟩,⟨hb⟩⟩
 case round=>
  clear HRG HG0;obtain⟨u4,rfl,⟨rfl,hO1',HRG,HBW⟩|⟨left,vs,os,rfl,HRG,HOL,HCW⟩⟩:=hrel
  . obtain⟨W0,rfl⟩:∃ W0,W0=wr:=⟨wr,rfl⟩;obtain⟨p,hp,ho1,ho2,ho3,hok⟩:=(HG.out.below HCO.out.hb).obj (o:=0) (by omega)
    have hobs:x.obs.map Ob.o=[p.o]:=by
     have hl:x.obs.length=1:=by rw[HG.out.lO];exact hO1'
     rcases hx:x.obs with _|⟨q,_|⟨q2,qs⟩⟩
     . rw[hx]at hl;cases hl
     . rw[hx]at hp;obtain rfl:q=p:=by simpa using hp
       rfl
     . rw[hx]at hl;simp at hl
    have HKEY:=Y (obD_one (hobs▸HOD.out));have HOL:=Y hO1';obtain⟨lr,hlr⟩:∃ lr,lr=refsOf M 0:=⟨_,rfl⟩;obtain⟨ld,hld⟩:∃ ld,ld=bf M 0:=⟨_,rfl⟩;have HLR:=Y (show lr.length<=95/\ld.length<=95 from⟨by have:=hok.size;simp only at this;rw[hlr];omega,by have:=hok.size;simp only at this;rw[hld];omega⟩)
    rw[<-hlr]at ho1 ho2;rw[<-hld]at ho1 ho3;have HOW:=Y (And.intro ho1 (And.intro ho2 ho3));have HEQ:=Y (And.intro hlr hld);clear hp ho1 ho2 ho3 hok hobs hlr hld hO1';go_upto_region 7 with(at_next;refine wpList_next_ranges _ rfl _ rfl 3 (Maps.int_keyed Tryz.underlying3) Rp (Value.int .i64) (fun v:Value=>v) (fun key kl hkey=>by obtain⟨x,rfl,_⟩:=Maps.keyOf_int_inv Tryz.underlying3 hkey;exact⟨x,rfl⟩) (fun v y hv=>⟨v,rfl⟩) x.gm r M.O.length D (Maps.has D) 1 rfl HRG.out (fun h0=>absurd h0 (by decide)) ?_;intro xx c kl yv w5 cnt' hkey hlk hv hat hrg hlt hgr hsz hen;obtain⟨rfl,rfl⟩:=HKEY.out xx c kl yv hkey hlk hv hat;have HRG5:=Y (show w5.ranges Tryz.prog 3 Rp x.gm r M.O.length D _ 0 from(by omega:cnt'=0)▸hrg);have HGR:=Y hgr;clear hkey hlk hv hat hrg hlt hgr hsz)
    have hb5:Below Wc.heap.size Wc w5:=HBW.out.grown HGR.out HBW.out.size (fun q e=>by injection e with e;rw[<-e,HR.out];exact Nat.le_refl _)
    have HB5:=Y hb5;have HGC:=Y (HCO.out.hg.below hb5);have HO:=Y (And.intro (HOW.out.1.below hb5) (And.intro (HOW.out.2.1.below hb5) (HOW.out.2.2.below hb5)));clear hb5 HGR hen;refine jZ 17 110 (V90 w5.heap.size g' gm' p.o 1 (.slice (some ⟨p.r,0,none⟩) lr.length lr.length) (.slice (some ⟨p.d,0,none⟩) ld.length ld.length) lr ld) (by kernel_rfl) (by rfl) (by kernel_rfl) (fun j v w1 w2 h hb=>Dt _ _ _ _ _ _ _ _ _ j v w1 w2 h hb) ?st ?en
    case st=>
     refine Steps.cons (fun a w1 fr hb hd K hK=>?_) ?_
     . exact af (aC rfl ((fr 3 (by kernel_rfl)).trans rfl)) (hK _ _ zc rfl)
     refine Steps.cons (fun a w1 fr hb hd K hK=>?_) ?_
     . exact af (bZ rfl (hd 0 36 (by kernel_rfl))) (hK _ _ zc rfl)
     refine Steps.cons (fun a w1 fr hb hd K hK=>?_) ?_
     . exact af (wh (i:=2) (by decide) rfl (hd 1 37 (by kernel_rfl))) (hK _ _ zc rfl)
     refine Steps.cons (fun a w1 fr hb hd K hK=>?_) ?_
     . exact af (sH rfl (hd 2 38 (by kernel_rfl)) (((HGC.out.below hb).cell 2).trans rfl)) (hK _ _ zc rfl)
     refine Steps.cons (fun a w1 fr hb hd K hK=>?_) ?_
     . exact af (aC rfl ((fr 4 (by kernel_rfl)).trans rfl)) (hK _ _ zc rfl)
     refine Steps.cons (fun a w1 fr hb hd K hK=>?_) ?_
     . exact af (aC rfl ((fr 5 (by kernel_rfl)).trans rfl)) (hK _ _ zc rfl)
     refine Steps.cons (fun a w1 fr hb hd K hK=>?_) ?_
     . exact af (bZ rfl (hd 5 41 (by kernel_rfl))) (hK _ _ zc rfl)
     refine Steps.cons (fun a w1 fr hb hd K hK=>?_) ?_
     . exact af (ky (i:=0) (by decide) rfl (hd 6 42 (by kernel_rfl))) (hK _ _ zc rfl)
     refine Steps.cons (fun a w1 fr hb hd K hK=>?_) ?_
     . exact af (dz rfl (hd 7 43 (by kernel_rfl)) (((HO.out.1.below hb).cell 0).trans rfl)) (hK _ _ zc rfl)
     refine Steps.cons (fun a w1 fr hb hd K hK=>?_) ?_
     . have e1:a.eval (.tmp 44)=(.slice (some ⟨p.r,0,none⟩) lr.length lr.length):=(hd 8 44 (by kernel_rfl))
       refine ek Tryz.func76 (by kernel_rfl) rfl #[(.slice (some ⟨p.r,0,none⟩) lr.length lr.length)] rfl (by simp only[List.map_toArray,List.map_cons,List.map_nil,e1]) ?_
       refine(c98 (.slice (some ⟨p.r,0,none⟩) lr.length lr.length) lr w1 ⟨_,_,rfl,Nat.le_refl _,iv_C (HO.out.2.1.below hb) (by have:=HLR.out;omega)⟩ (by have:=HLR.out;omega)).mono ?_
       rintro e w2 ⟨v0,rfl,hr,hb2⟩;exact⟨_,rfl,hK _ _ hb2 (show IV .i64 w2 v0 lr/\Bv w5.heap.size v0 from⟨jN hr,(R_bv hr).mono hb.size⟩)⟩
     refine Steps.cons (fun a w1 fr hb hd K hK=>?_) ?_
     . exact af (aC rfl ((fr 5 (by kernel_rfl)).trans rfl)) (hK _ _ zc rfl)
     refine Steps.cons (fun a w1 fr hb hd K hK=>?_) ?_
     . exact af (bZ rfl (hd 10 46 (by kernel_rfl))) (hK _ _ zc rfl)
     refine Steps.cons (fun a w1 fr hb hd K hK=>?_) ?_
     . exact af (ky (i:=1) (by decide) rfl (hd 11 47 (by kernel_rfl))) (hK _ _ zc rfl)
     refine Steps.cons (fun a w1 fr hb hd K hK=>?_) ?_
     . exact af (gJ rfl (hd 12 48 (by kernel_rfl)) (((HO.out.1.below hb).cell 1).trans rfl)) (hK _ _ zc rfl)
     refine Steps.cons (fun a w1 fr hb hd K hK=>?_) ?_
     . have e1:a.eval (.tmp 49)=(.slice (some ⟨p.d,0,none⟩) ld.length ld.length):=(hd 13 49 (by kernel_rfl))
       refine ek Tryz.func77 (by kernel_rfl) rfl #[(.slice (some ⟨p.d,0,none⟩) ld.length ld.length)] rfl (by simp only[List.map_toArray,List.map_cons,List.map_nil,e1]) ?_
       refine(c114 (.slice (some ⟨p.d,0,none⟩) ld.length ld.length) ld w1 ⟨_,_,rfl,Nat.le_refl _,uv_C (HO.out.2.2.below hb) (by have:=HLR.out;omega)⟩ (by have:=HLR.out;omega)).mono ?_
       rintro e w2 ⟨v0,rfl,hr,hb2⟩;exact⟨_,rfl,hK _ _ hb2 (show IV .u64 w2 v0 ld/\Bv w5.heap.size v0 from⟨jN hr,(R_bv hr).mono hb.size⟩)⟩
     refine Steps.cons (fun a w1 fr hb hd K hK=>?_) ?_
     . obtain⟨⟨A9,c9,e9,hc9,hC9⟩,hb9⟩:IV .i64 w1 (a.eval (.tmp 45)) lr/\Bv w5.heap.size (a.eval (.tmp 45)):=(hd 9 45 (by kernel_rfl))
       obtain⟨⟨A14,c14,e14,hc14,hC14⟩,hb14⟩:IV .u64 w1 (a.eval (.tmp 50)) ld/\Bv w5.heap.size (a.eval (.tmp 50)):=(hd 14 50 (by kernel_rfl))
       rw[e9]at hb9;rw[e14]at hb14;exact af (qd rfl e9 e14) (hK _ _ zc ⟨_,_,rfl,⟨A9,c9,rfl,hc9,hC9⟩,⟨A14,c14,rfl,hc14,hC14⟩,hb9,hb14⟩)
     refine Steps.cons (fun a w1 fr hb hd K hK=>?_) ?_
     . obtain⟨u1,u2,e15,⟨A9,c9,rfl,hc9,hC9⟩,⟨A14,c14,rfl,hc14,hC14⟩,hb9,hb14⟩:∃ u1 u2,(a.eval (.tmp 51))=.agg #[u1,u2]/\IV .i64 w1 u1 lr/\IV .u64 w1 u2 ld/\Bv w5.heap.size u1/\Bv w5.heap.size u2:=(hd 15 51 (by kernel_rfl))
       have hb2:=ae (Below.refl w1.heap.size w1) (.cells #[.slice A9 lr.length c9,.slice A14 ld.length c14] 126);exact af (sI rfl e15) (hK _ _ hb2 ⟨w1.heap.size,_,_,rfl,hb.size,aK _ _,⟨A9,c9,rfl,hc9,Kd.aU hC9 hb2⟩,⟨A14,c14,rfl,hc14,Kd.aU hC14 hb2⟩,hb9,hb14⟩)
     exact Steps.nil
    case en=>
     intro us w6 hb hv;have h3:us 3=.map (some gm'):=hv 3 39 (by decide) (by kernel_rfl)
     have h4:us 4=.int .i64 1:=hv 4 40 (by decide) (by kernel_rfl)
     obtain⟨pb,u1,u2,h16,hpB,hpH,hu1,hu2,hw1,hw2⟩:∃ pb u1 u2,us 16=.pointer (some ⟨pb,0,none⟩)/\w5.heap.size<=pb/\Holds w6 pb 126 [u1,u2]/\IV .i64 w6 u1 lr/\IV .u64 w6 u2 ld/\Bv w5.heap.size u1/\Bv w5.heap.size u2:=hv 16 52 (by decide) (by kernel_rfl)
     simp only[List.take_succ_cons,List.take_zero,List.drop_succ_cons,List.drop_zero,bA,Act.put,zj,zr,ya,h3,h4,h16];have hCO6:=(HCO.out.below HB5.out).below hb;obtain⟨D0,hD0,hO0⟩:=hCO6.hM;have HD0:=Y hD0;have hle5:w.heap.size<=w5.heap.size:=Nat.le_trans HCO.out.hb.size HB5.out.size;have HPUT:=Y (fun W' hD hg=>CO.put (W':=W') hCO6 hpH (HEQ.out.1▸hu1) (HEQ.out.2▸hu2) hD0 hO0 (hw1.mono hle5) (hw2.mono hle5) (Nat.le_trans hle5 hpB) hD hg)
     have HRG6:=Y (HRG5.out.kept (cK hb none) (by simp) (by simp))
     have HNE:aa (some x.gm≠some gm'/\some r≠some gm'):=⟨by
      have h1:=HG.out.lt _ HG.out.fp.2.2.2.1;have h2:=HCO.out.lo.2.1;obtain⟨D1,hD1,_⟩:=HCO.out.hM;have h3:=hD1.lt;have h4:=HR.out
      exact⟨fun e=>by injection e;omega,fun e=>by injection e;omega⟩⟩
     clear hv hb h3 h4 h16 hpB hpH hu1 hu2 hw1 hw2 hle5 hCO6 hO0 hD0 HRG5 HO HGC;refine wpList_mapUpdate_own _ rfl _ _ _ 66 rfl 3 124 (Maps.int_keyed Tryz.underlying3) Tryz.underlying66 Rp gm' 0 D0 rfl HD0.out (by decide) (.int .i64 1) (.pointer (some ⟨pb,0,none⟩)) (.int .i64 1) rfl rfl (Maps.keyOf_int_mk Tryz.underlying3 (by decide)) (.lit (.int .i64 (pb:Int))) [] rfl ?_
     intro w7 hown7 hgr7;have HC7:=Y (HPUT.out w7 hown7 hgr7);have HRG7:=Y (HRG6.out.kept hgr7 HNE.out.1 HNE.out.2);clear hown7 hgr7 HPUT HRG6 HD0;go_wp2_with fail;go_roundg 0
     case measure=>decide
     case rel=>exact⟨_,rfl,.inr ⟨_,[(u1,u2)],[pb],rfl,HRG7,⟨HOL.out.symm⟩,HC7⟩⟩
  . obtain⟨W0,rfl⟩:∃ W0,W0=wr:=⟨wr,rfl⟩;have HGW:=Y (HG.out.below HCW.out.hb);have z0:W0.cell? ⟨g,0,none⟩=some (.slice (some ⟨x.bT,0,none⟩) 1 x.cT):=by have h:=HGW.out.x0;rw[HTT.out]at h;exact h
    have hy0:0<=y/\0<=z:=⟨((HG.out.wf.ts ([y,z],[]) (by rw[HTT.out];exact List.mem_cons_self)).rs y List.mem_cons_self).1,((HG.out.wf.ts ([y,z],[]) (by rw[HTT.out];exact List.mem_cons_self)).rs z (List.mem_cons_of_mem _ List.mem_cons_self)).1⟩
    have HY:=Y hy0;have HOW:=Y (Cv HGW.out 0 ([y,z],[]) (by rw[HTT.out];rfl))
    clear hy0
    go_upto_block 2 with(at_next;refine wpList_next_ranges _ rfl _ rfl 3 (Maps.int_keyed Tryz.underlying3) Rp (Value.int .i64) (fun v:Value=>v) (fun key kl hkey=>by obtain⟨x,rfl,_⟩:=Maps.keyOf_int_inv Tryz.underlying3 hkey;exact⟨x,rfl⟩) (fun v y hv=>⟨v,rfl⟩) x.gm r M.O.length D left 0 rfl HRG.out (fun _ hl=>?_) (fun x c kl y w' cnt' _ _ _ _ _ hlt=>absurd hlt (Nat.not_lt_zero _));clear hl)
    go_wp2_with fail
    go_loopg [58] 1 (fun kq v58 w'=>∃ i:Nat,v58=.int .i64 (i:Int)/\i+kq=1/\((i=0/\w'=W0)\/(i=1/\aa (∃ x',GW w' g' x' M vG vs/\Below w.heap.size w w'/\Lo w.heap.size g' x' vG vs))))
    case atStart=>exact⟨0,rfl,rfl,.inl ⟨rfl,rfl⟩⟩
    case round=>
     obtain⟨i,rfl,hi,⟨rfl,e0⟩|⟨rfl,HF⟩⟩:=hrel
     . subst e0;obtain⟨W0,rfl⟩:∃ W0,W0=wr:=⟨wr,rfl⟩;obtain rfl:gk=1:=by omega
       clear z0 hi;go_upto_region 12 with(go_at_call 43;refine HOW.out.mono ?_;rintro e w3 ⟨v1,v2,rfl,hr1,hr2,hb3⟩;obtain⟨A1,c1,e1⟩:=Kd.aD hr1;obtain⟨A2,c2,e2⟩:=Kd.aD hr2;subst e1 e2;have HR1:=Y hr1;have HB3:=Y hb3;clear hr1 hr2 hb3)
       go_upto_region 13 with(go_at_call 17;refine(c17 2 _ (by decide) (by decide)).mono ?_;rintro e w4 ⟨rfl,hw4⟩;obtain⟨rb,hrb⟩:∃ rb,rb=w3.heap.size:=⟨_,rfl⟩;rw[<-hrb];have HRB:=Y hrb;have HB4:=Y (show Below w3.heap.size w3 w4 by rw[hw4];exact ae zc _);have HTH:=Y (show Holds w4 rb 119 (lH 2) by rw[hw4,hrb];exact aK _ _);clear hw4 hrb)
       go_wp2_with fail
       go_loopg [76] 0 (fun kq v76 w'=>v76=.int .i64 0/\w'=w4)
       case atStart=>exact⟨rfl,rfl⟩
       case round=>
        obtain⟨rfl,e0⟩:=hrel;subst e0
        go_upto_block 6 with fail
        obtain⟨W4,rfl⟩:∃ W4,W4=wr:=⟨wr,rfl⟩;go_wp2_with fail
        go_loopg [88] 2 (fun kq v88 w'=>∃ i:Nat,v88=.int .i64 (i:Int)/\i+kq=2/\((i=0/\w'=W4)\/(i=1/\aa (bH W4 w' rb/\∃ cs',Holds w' rb 119 cs'/\fq cs' ([y,0],[])))\/(i=2/\aa (bH W4 w' rb/\∃ cs',Holds w' rb 119 cs'/\fq cs' ([y,z],[])))))
        case atStart=>exact⟨0,rfl,rfl,.inl ⟨rfl,rfl⟩⟩
        case round=>
         obtain⟨i,rfl,hi,⟨rfl,e0⟩|⟨rfl,HST1⟩|⟨rfl,HST⟩⟩:=hrel
         . subst e0;obtain rfl:gk=2:=by omega
           obtain⟨ad,rfl,hx0⟩:∃ ad,A1=some ad/\wr.cell? ad=some (.int .i64 y):=by
            obtain⟨ad,c',e,_,hK,hc0⟩:=Kd.j5 (Kd.bI (Kd.aX HR1.out HB4.out)).2.2 (0:Int) 0 (by decide) (by simp)
            refine⟨ad,e,?_⟩;obtain rfl:c'=[.int .i64 y]:=hK;exact hc0 0 _ rfl
           clear hi;go_wp2_with (go_at_call 94;refine(xq HTH.out (DL (s:=2) (by decide)) 0 y (by decide) (by decide) HY.out.1).mono ?_;rintro e w5 ⟨rfl,hs5,cs5,hc5,ht5⟩;have HST:=Y (show bH wr w5 rb/\∃ cs',Holds w5 rb 119 cs'/\fq cs' ([y,0],[])from⟨hs5,cs5,hc5,ht5⟩);clear hs5 hc5 ht5)
           go_roundg 1
           case measure=>omega
           case rel=>exact⟨1,rfl,rfl,.inr (.inl ⟨rfl,HST⟩)⟩
         . obtain rfl:gk=1:=by omega
           obtain⟨ad,rfl,hx1⟩:∃ ad,A1=some ad/\wr.cell? (ad.add 1)=some (.int .i64 z):=by
            obtain⟨ad,c',e,_,hK,hc0⟩:=Kd.j5 (Kd.bI HR1.out).2.2 (0:Int) 1 (by decide) (by simp)
            refine⟨ad,e,?_⟩;obtain rfl:c'=[.int .i64 z]:=hK;have h1:w3.cell? (ad.add 1)=some (.int .i64 z):=hc0 0 _ rfl;have hlt:=World.block_lt_of_cell? w3 _ h1;rw[<-h1];unfold World.cell?;rw[HST1.out.1.block _ (by rw[HRB.out];omega),HB4.out.block _ hlt]
           clear hi;have hx1:wr.cell? ⟨ad.block,ad.off+1,none⟩=some (.int .i64 z):=hx1;obtain⟨hs4,cs4,hc4,ht4⟩:=HST1.out;have HS4:=Y hs4;have HC4:=Y (xq hc4 ht4 1 z (by show 1<2;decide) (by show 2<=8;decide) HY.out.2)
           clear hs4 hc4 ht4;go_wp2_with (go_at_call 94;refine HC4.out.mono ?_;rintro e w5 ⟨rfl,hs5,cs5,hc5,ht5⟩;have HST:=Y (show bH W4 w5 rb/\∃ cs',Holds w5 rb 119 cs'/\fq cs' ([y,z],[])from⟨nK HS4.out hs5,cs5,hc5,ht5⟩);clear hs5 hc5 ht5)
           go_roundg 0
           case measure=>omega
           case rel=>exact⟨2,rfl,rfl,.inr (.inr ⟨rfl,HST⟩)⟩
         . obtain rfl:gk=0:=by omega
           clear hi;have hb5:Below W0.heap.size W0 wr:=HST.out.1.below (ag HB3.out HB3.out.size HB4.out) (by rw[HRB.out];exact HB3.out.size)
           have HC5:=Y (HCW.out.below hb5);have z3:=(HC5.out.hg.cell 0).trans rfl;clear hb5;go_upto_region 25 with(at_builtin;refine Kd.fD pW (w0:=w) w.heap.size rfl (.tmp 102) (.tmp 104) 67 70 (.pointer none) 8 rfl Tryz.underlying67 zO rfl (by decide) (by omega) (.slice none 0 0) [] rb [.pointer (some ⟨rb,0,none⟩)] (fun _=>True) (fun _=>False) rfl rfl rfl (fun _ hk=>hk.elim) (fun _ _=>trivial) (Kd.fo _ _ _ _ _) HC5.out.hb HC5.out.hb.size (by decide) ?_;intro v2 w6 ho2 hb2 hg2 hat2;obtain⟨A2,c2,rfl⟩:=Kd.aD ho2;have HO2:=Y (show Kd.R pW 70 w6 w.heap.size (fun _=>True) (.slice A2 1 c2) [rb]from ho2);have HB6:=Y (show Below wr.heap.size wr w6 from⟨hg2.os,hg2.tape,hg2.output,hg2.size,fun i hi=>hg2.block i hi (by simp[Value.ownBlock])⟩);have HC6:=Y (HC5.out.below HB6.out);have z4:=(HC6.out.hg.cell 0).trans rfl;have z5:=ak HC6.out.hg 0;clear ho2 hb2 hg2 hat2)
           obtain⟨hs5,cs5,hc5,ht5⟩:=HST.out;have HFIN:aa (∃ x',GW _ g' x' M vG vs/\Below w.heap.size w _/\Lo w.heap.size g' x' vG vs):=⟨CO.done HC6.out HOL.out HG.out.wf HTT.out HO2.out (hc5.below HB6.out) ht5 (bu _ g' 0 _) (bB HC6.out.hg (k:=0) (by show 0<3;decide) _) (by rw[HRB.out];exact Nat.le_trans HCW.out.hb.size HB3.out.size)⟩
           clear hc5 ht5 hs5 z3 z4 z5;go_wp2_with fail;go_roundg 0
           case measure=>omega
           case rel=>exact⟨1,rfl,rfl,.inr ⟨rfl,HFIN⟩⟩
     . obtain rfl:gk=0:=by omega
       go_wp2_with fail
       go_ret
       obtain⟨x',h1,h2,h3⟩:=HF.out;exact⟨g',rfl,x',vG,vs,h1,h2,h3⟩
end
end
end Go.Proofs.YtglikkmmbdnmbaaGreat.Im
namespace Go.Proofs.YtglikkmmbdnmbaaGreat.Ev
open Go.RowKit Q7
open YtglikkmmbdnmbaaGreat.Own PCan
set_option linter.unusedVariables false
set_option linter.unusedSimpArgs false
section
abbrev ec (d:aQ):List Value:=[.int .u8 d.f0,.int .u8 d.f1.f0,.int .u8 d.f1.f1,.int .u8 d.f1.f2,.int .u8 d.f1.f3,.int .i64 d.f2.f0,.int .i64 d.f2.f1,.int .u64 d.f2.f2,.int .i64 d.f3,.int .i64 d.f4,.int .i64 d.f5]
abbrev ev (d:aQ):Value:=.agg #[.int .u8 d.f0,.int .u8 d.f1.f0,.int .u8 d.f1.f1,.int .u8 d.f1.f2,.int .u8 d.f1.f3,.int .i64 d.f2.f0,.int .i64 d.f2.f1,.int .u64 d.f2.f2,.int .i64 d.f3,.int .i64 d.f4,.int .i64 d.f5]
theorem sz72:fE.sz=11:=rfl
theorem qA:(Tryz.prog.info? 104).map (·.zero)=some (some (.agg #[.int .u8 0,.int .u8 0,.int .u8 0,.int .u8 0,.int .u8 0,.int .i64 0,.int .i64 0,.int .u64 0,.int .i64 0,.int .i64 0,.int .i64 0])):=by kernel_rfl
theorem rJ:(Tryz.prog.info? 104).map (fun i=>(i.zero,i.size,i.bytes))=some (some (.agg #[.int .u8 0,.int .u8 0,.int .u8 0,.int .u8 0,.int .u8 0,.int .i64 0,.int .i64 0,.int .u64 0,.int .i64 0,.int .i64 0,.int .i64 0]),fE.sz,56):=by kernel_rfl
theorem fM:(Tryz.prog.info? 104).map (·.size)=some 11:=by kernel_rfl
theorem oq (d:aQ):(ec d).toArray.all (·.oneCell')=true:=by
 rw[List.all_toArray];rfl
def rc (xs:List aQ):List Value:=xs.flatMap ec
theorem vz (d:aQ)(xs:List aQ):rc (d :: xs)=ec d++rc xs:=rfl
theorem DV (xs ys:List aQ):rc (xs++ys)=rc xs++rc ys:=List.flatMap_append
theorem iV:∀ xs:List aQ,(rc xs).length=11*xs.length
 |[]=>rfl
 |d :: xs=>by
  rw[vz,List.length_append,iV xs];show 11+11*xs.length=11*(xs.length+1)
  omega
theorem wV:∀(xs:List aQ) (i:Nat) (d:aQ) (r:List Value),xs[i]? =some d->((rc xs++r).drop (i*11)).take 11=ec d
 |[],i,d,r,h=>by simp at h
 |x :: xs,0,d,r,h=>by
  simp at h;subst h;rfl
 |x :: xs,i+1,d,r,h=>by
  have ih:=wV xs i d r (by simpa using h)
  rw[<-ih,vz,List.append_assoc,show(i+1)*11=(ec x).length+i*11 by simp[ec];omega,List.drop_length_add_append]
theorem DY:∀(xs:List aQ) (i:Nat) (d:aQ) (r:List Value),i<xs.length->splice (rc xs++r) (i*11) (ec d)=rc (xs.set i d)++r
 |[],i,d,r,h=>by simp at h
 |x :: xs,0,d,r,h=>rfl
 |x :: xs,i+1,d,r,h=>by
  have ih:=DY xs i d r (by simpa using h)
  show splice (ec x++rc xs++r) ((i+1)*11) (ec d)=ec x++rc (xs.set i d)++r
  rw[List.append_assoc,List.append_assoc,<-ih];unfold splice;rw[show(i+1)*11=(ec x).length+i*11 by simp[ec];omega,List.take_length_add_append,show(ec x).length+i*11+(ec d).length=(ec x).length+(i*11+(ec d).length) by omega,List.drop_length_add_append]
  simp only[List.append_assoc]
theorem rc_take (xs:List aQ)(i:Nat):rc xs=rc (xs.take i)++rc (xs.drop i):=by rw[<-DV,List.take_append_drop]
theorem zI {W:World}:∀{xs:List aQ} {inner:List Value},fF (fE.K W) fE.sz xs inner->inner=rc xs
 |[],inner,h=>List.eq_nil_of_length_eq_zero (by rw[h.1];simp)
 |x :: xs,inner,h=>by
  have hl:=h.1;rw[sz72,List.length_cons]at hl;have h0:=qP (h.2 0 x rfl);rw[sz72,Nat.zero_mul,List.drop_zero]at h0
  have ht:fF (fE.K W) fE.sz xs (inner.drop 11):=by
   refine⟨by rw[List.length_drop,hl,sz72];omega,fun j p hj=>?_⟩
   have h2:=h.2 (j+1) p (by simpa using hj)
   rw[sz72]at h2 ⊢;rw[List.drop_drop,show 11+j*11=(j+1)*11 by omega]
   exact h2
  rw[vz,<-zI ht];have:=List.take_append_drop 11 inner;rw[h0]at this;exact this.symm
def Row (W:World)(g:Nat)(xs:List aQ):Prop:=∃ rest,Holds W g 104 (rc xs++rest)
theorem Row.lt {W:World}{g:Nat}{xs:List aQ}(h:Row W g xs):g<W.heap.size:=by
 obtain⟨r,h⟩:=h;exact h.lt
theorem Row.below {W W1:World}{g:Nat}{xs:List aQ}(h:Row W g xs)(hb:Below W.heap.size W W1):Row W1 g xs:=by
 obtain⟨r,h⟩:=h;exact⟨r,h.below hb⟩
theorem Row.drew {W:World}{g:Nat}{xs:List aQ}(h:Row W g xs):Row W.drew g xs:=h
theorem Row.C {W:World}{g:Nat}{xs:List aQ}(h:Row W g xs)(hl:xs.length<=9223372036854775807):Kd.C fE W (some ⟨g,0,none⟩) xs.length xs:=by
 obtain⟨r,h⟩:=h;refine⟨rfl,hl,fun _=>⟨_,rfl,fun j p hj=>⟨ec p,rfl,k104_mk W p,fun i u hu=>?_⟩⟩⟩
 have hi:i<11:=by
  have:=(List.getElem?_eq_some_iff.1 hu).1
  simpa [ec] using this
 rw[add_plain,sz72,h.cell];have h1:=wV xs j p r hj;rw[<-h1,List.getElem?_take,if_pos hi,List.getElem?_drop]at hu;exact hu
theorem row_of {W:World}{base:Nat}{ok:Nat->Prop}{v:Value}{xs:List aQ}(h:Kd.R fE 104 W base ok v xs)(hp:0<xs.length):∃ g c,v=.slice (some ⟨g,0,none⟩) xs.length c/\xs.length<=c/\base<=g/\Row W g xs:=by
 obtain⟨_,inner,ho,hr⟩:=h;obtain rfl:=zI (hr.iO (fun _ _ hq=>fE.K_of_M hq))
 rcases ho.2 with⟨rfl,hn⟩|⟨g,cap,cur,rfl,hg,hh,hcap,hm,hcs,hcur⟩
 . rw[hn]at hp;exact absurd hp (Nat.lt_irrefl 0)
 . refine⟨g,cap,rfl,hcap,hg,cur.toList.drop (rc xs).length,?_⟩;unfold Holds
   have e:rc xs++cur.toList.drop (rc xs).length=cur.toList:=by
    have hl:(rc xs).length=xs.length*fE.sz:=by rw[iV,sz72,Nat.mul_comm]
    rw[hl,<-hcur,List.take_append_drop]
   rw[e];exact hh
theorem nL {ops:Array Oper}{rest:List Oper}{o:Oper}{a:Act}{Q:Exit->Act->World->Prop}{W:World}{g:Nat}{xs:List aQ}{i:Nat}{d:aQ}(h:Row W g xs)(hi:xs[i]? =some d)(hgd:o.guard=none){x:Operand}(ho:o.op=.load 104 x)(hx:a.eval x=.pointer (some ⟨g,i*11,none⟩))
 (hk:wpList Tryz.prog ops Q rest (a.put o.dst (ev d)) W):wpList Tryz.prog ops Q (o :: rest) a W:=by
 obtain⟨r,h⟩:=h;exact bE hgd ho hx h (seg:=ec d) (wV xs i d r hi) Tryz.underlying104 rfl fM hk
theorem uV {W:World}{g:Nat}{xs:List aQ}{i:Nat}(h:Row W g xs)(hi:i<xs.length)(d:aQ):Row (W.setCells g (i*11) (ec d)) g (xs.set i d):=by
 obtain⟨r,h⟩:=h;refine⟨r,?_⟩;have h1:=eX (vs:=ec d) h (o:=i*11) (by rw[List.length_append,iV];show i*11+11<=_;omega)
 rw[DY xs i d r hi]at h1;exact h1
theorem Cj {ops:Array Oper}{rest:List Oper}{o:Oper}{a:Act}{Q:Exit->Act->World->Prop}{W:World}{g:Nat}{xs:List aQ}{i:Nat}{d:aQ}(h:Row W g xs)(hi:i<xs.length)(hgd:o.guard=none){x y:Operand}(ho:o.op=.store 104 x y)(hN:o.dst=none)(hx:a.eval x=.pointer (some ⟨g,i*11,none⟩))(hy:a.eval y=ev d)
 (hk:∀ w1,Row w1 g (xs.set i d)->bH W w1 g->wpList Tryz.prog ops Q rest a w1):wpList Tryz.prog ops Q (o :: rest) a W:=by
 have h2:=uV h hi d;obtain⟨r,h⟩:=h;refine wpList_plain hgd fun K hK=>?_
 unfold Oper.wp execOp;have hrun:=mI (P:=Tryz.prog) (off:=i*11) (vs:=(ec d).toArray) h (by rw[List.length_append,iV];show i*11+11<=_;omega) fM (oq d)
 simp only[ho,hx,hy,hrun,Sem.run_bind,Sem.run_pure,Result.andThen_ok];show K (a.put o.dst undef) _
 rw[hN];exact hK _ _ (hk _ h2 (dR _ _ _ _))
theorem oU {o:Oper}{a:Act}{W:World}{g:Nat}{xs:List aQ}{i:Nat}{d:aQ}(h:Row W g xs)(hi:i<xs.length){x y:Operand}(ho:o.op=.store 104 x y)(hx:a.eval x=.pointer (some ⟨g,i*11,none⟩))(hy:a.eval y=ev d):(execOp a.eval o).run Tryz.prog W=.ok .skip (W.setCells g (i*11) (ec d)):=by
 obtain⟨r,h⟩:=h;exact lC ho hx hy h (vs:=(ec d).toArray) (by rw[List.length_append,iV];show i*11+11<=_;omega) fM (oq d)
theorem iR {o:Oper}{a:Act}{W:World}{g:Nat}{xs:List aQ}{i:Nat}{d:aQ}(h:Row W g xs)(hi:xs[i]? =some d){x:Operand}(ho:o.op=.load 104 x)(hx:a.eval x=.pointer (some ⟨g,i*11,none⟩)):(execOp a.eval o).run Tryz.prog W=.ok (.value (ev d)) W:=by
 obtain⟨r,h⟩:=h;have h1:=lu (P:=Tryz.prog) (seg:=ec d) h (wV xs i d r hi) Tryz.underlying104 rfl fM;unfold execOp;simp only[ho,hx,h1,Sem.run_bind,Sem.run_pure,Result.andThen_ok]
end
end Go.Proofs.YtglikkmmbdnmbaaGreat.Ev
namespace Go.Proofs.YtglikkmmbdnmbaaGreat.Im
open Go.RowKit Q7
open YtglikkmmbdnmbaaGreat.Own PCan Wv
set_option linter.unusedVariables false
set_option linter.unusedSimpArgs false
section
theorem ol_ref (M:Gm)(o k:Nat)(x:Int):(iw M o k x).O.length=M.O.length:=by show(M.O.modify o _).length=_;simp
theorem ol_dat (M:Gm)(o k:Nat)(x:Int):(ik M o k x).O.length=M.O.length:=by show(M.O.modify o _).length=_;simp
theorem act_len (M:Gm)(d t a b c v:Int):(oG M d t a b c v).O.length<=M.O.length+1:=by
 unfold oG
 split
 . unfold bM
   split
   . exact Nat.le_succ _
   . split
     . show(M.O++[_]).length<=_
       rw[List.length_append];exact Nat.le_refl _
     . exact Nat.le_succ _
 have hs:∀(x:Gm),x.O.length=M.O.length->x.O.length<=M.O.length+1:=fun x h=>by omega
 split
 . unfold gq
   repeat' split
   all_goals exact Nat.le_succ _
 split
 . unfold fP
   repeat' split
   all_goals first|exact hs _ (ol_ref _ _ _ _)|exact Nat.le_succ _
 split
 . unfold bW
   repeat' split
   all_goals exact Nat.le_succ _
 split
 . unfold dM
   repeat' split
   all_goals first|exact hs _ (ol_dat _ _ _ _)|exact Nat.le_succ _
 split
 . unfold iP
   repeat' split
   all_goals exact Nat.le_succ _
 split
 . unfold jk
   repeat' split
   all_goals exact Nat.le_succ _
 split
 . unfold moveF
   repeat' split
   all_goals exact Nat.le_succ _
 split
 . unfold il
   repeat' split
   all_goals exact Nat.le_succ _
 split
 . unfold gK
   repeat' split
   all_goals exact Nat.le_succ _
 split
 . unfold je
   repeat' split
   all_goals exact Nat.le_succ _
 unfold ku
 split<;>exact Nat.le_succ _
structure A35 where
 d:Int
 t:Int
 a:Int
 b:Int
 c:Int
 v:Int
def z35:A35:=⟨0,0,0,0,0,0⟩
def c35 (x:A35):List Value:=[.int .u8 x.d,.int .i64 x.t,.int .i64 x.a,.int .i64 x.b,.int .i64 x.c,.int .u64 x.v]
abbrev e35 (x:A35):Value:=.agg #[.int .u8 x.d,.int .i64 x.t,.int .i64 x.a,.int .i64 x.b,.int .i64 x.c,.int .u64 x.v]
theorem c35_one (x:A35):∀ u∈c35 x,u.oneCell'=true:=by
 intro u hu;simp only[c35,List.mem_cons,List.not_mem_nil,or_false]at hu
 rcases hu with rfl|rfl|rfl|rfl|rfl|rfl<;>rfl
def k35:Kd A35 where
 sz:=6
 E:=[]
 K:=fun _ x cs=>cs=c35 x
 M:=fun _ _ _ x cs=>cs=c35 x
 K_len:=fun h=>by rw[h];rfl
 K_one:=fun {_ x _} h u hu=>by
  rw[h]at hu;exact c35_one x u hu
 K_below:=fun _ h=>h
 K_of_M:=fun h=>h
 M_mono:=fun _ h=>h
 M_bound:=fun h=>h
 M_move:=fun _ h=>h
 M_lower:=fun _ h=>h
section
variable {o:Oper} {a:Act} {W:World}
theorem sJ {x:Operand}{A:Option Addr}{l:List A35}{p:Addr}{i:Nat}{d:A35}(ho:o.op=.load 35 x)(hA:A=some p)(hx:a.eval x=.pointer (some (p.add (i*6))))(hC:Kd.C k35 W A l.length l)(hd:l[i]? =some d):(execOp a.eval o).run Tryz.prog W=.ok (.value (e35 d)) W:=by
 obtain⟨hi,rfl⟩:=List.getElem?_eq_some_iff.1 hd;obtain⟨ad',c,e,_,hK,hc0⟩:=Kd.j5 hC z35 (i:Int) (by omega) (by omega)
 have e1:ad'=p:=by rw[hA]at e;injection e with e;exact e.symm
 subst e1;have hc:∀ j u,c[j]? =some u->W.cell? (ad'.add (i*6+j))=some u:=hc0;have hg:l.getD (i:Int).toNat z35=l[i]:=by rw[Int.toNat_natCast,List.getD_eq_getElem?_getD,List.getElem?_eq_getElem hi];rfl
 rw[hg]at hK;obtain rfl:c=c35 l[i]:=hK;have hu:=Tryz.underlying35;have z0:W.cell? (ad'.add (i*6))=some (.int .u8 l[i].d):=hc 0 _ rfl
 have z1:W.cell? ⟨(ad'.add (i*6)).block,(ad'.add (i*6)).off+1,none⟩=some (.int .i64 l[i].t):=by
  rw[<-dN _ _ 1 (by omega)]
  exact hc 1 _ rfl
 have z2:W.cell? ⟨(ad'.add (i*6)).block,(ad'.add (i*6)).off+2,none⟩=some (.int .i64 l[i].a):=by
  rw[<-dN _ _ 2 (by omega)]
  exact hc 2 _ rfl
 have z3:W.cell? ⟨(ad'.add (i*6)).block,(ad'.add (i*6)).off+3,none⟩=some (.int .i64 l[i].b):=by
  rw[<-dN _ _ 3 (by omega)]
  exact hc 3 _ rfl
 have z4:W.cell? ⟨(ad'.add (i*6)).block,(ad'.add (i*6)).off+4,none⟩=some (.int .i64 l[i].c):=by
  rw[<-dN _ _ 4 (by omega)]
  exact hc 4 _ rfl
 have z5:W.cell? ⟨(ad'.add (i*6)).block,(ad'.add (i*6)).off+5,none⟩=some (.int .u64 l[i].v):=by
  rw[<-dN _ _ 5 (by omega)]
  exact hc 5 _ rfl
 unfold execOp;simp only[ho,hx]
 go_simp
end
end
end Go.Proofs.YtglikkmmbdnmbaaGreat.Im

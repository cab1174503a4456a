/- The document's graph: its shape (13). -/
import Derived.Test.YtglikkmmbdnmbaaGreatQ12
import Derived.Test.YtglikkmmbdnmbaaGreatQ14
import Derived.Test.YtglikkmmbdnmbaaGreatQ04
import Derived.Test.YtglikkmmbdnmbaaGreatQ13
import Derived.Test.YtglikkmmbdnmbaaGreatQ02
set_option maxHeartbeats 8000000
set_option maxRecDepth 100000
namespace Go.Proofs.YtglikkmmbdnmbaaGreat.Im
open Go.RowKit Q7
open YtglikkmmbdnmbaaGreat.Own PCan Wv
set_option linter.unusedVariables false
set_option linter.unusedSimpArgs false
section
theorem zR {I:Nat->Prop}{W:World}{A:Option Addr}{n c:Nat}{l:List Int}(h:dZ I W (.slice A n c) l)(hl:l.length<=1000):IV .i64 W (.slice A n c) l:=by
 obtain⟨A',c',e,hc,_⟩:=id h;injection e with e1 e2 e3
 subst e1 e3;exact⟨A,c,by rw[e2],hc,h.C (by rw[e2]) hl⟩
theorem zP {k:IntKind}{w W':World}{v:Value}{l:List Int}(h:IV k w v l)(hm:∀ q,q<w.heap.size->W'.heap[q]? =w.heap[q]?):IV k W' v l:=by
 obtain⟨A,c,e,hc,h1,h2,h3⟩:=h;refine⟨A,c,e,hc,h1,h2,fun h0=>?_⟩
 obtain⟨ad,ea,hk⟩:=h3 h0;refine⟨ad,ea,fun j p hj=>?_⟩
 obtain⟨cs,k1,k2,k3⟩:=hk j p hj;refine⟨cs,k1,k2,fun i u hi=>?_⟩
 have hcell:=k3 i u hi;rw[<-hcell];unfold World.cell?;rw[hm _ (World.block_lt_of_cell? w _ hcell)]
theorem foot_N {w W:World}{qs:List (Value×Value)}{N:List S89}{A:Option Addr}{c:Nat}(hr:Kd.R bn 89 W w.heap.size (fun _=>True) (.slice A N.length c) qs)(hE:EIV S89.f0 S89.f1 .u64 w qs N)(hb:Below w.heap.size w W):Kd.F k89 W (fun q=>q<w.heap.size\/(Value.slice A N.length c).ownBlock=some q) A N.length N:=by
 intro W' hW'
 have hR:Kd.R bn 89 W' w.heap.size (fun _=>True) (.slice A N.length c) qs:=by
  have hlt:=Kd.fT hr;obtain⟨h0,inner,hown,hrr⟩:=hr;exact⟨h0,inner,pY hown (fun q hq=>hW' q (.inr hq) (hlt q hq)),hrr⟩
 have hm:∀ q,q<w.heap.size->W'.heap[q]? =w.heap[q]?:=fun q hq=>(hW' q (.inl hq) (Nat.lt_of_lt_of_le hq hb.size)).trans (hb.block q hq)
 obtain⟨h1,h2,h3⟩:=Kd.bI hR;exact pM rfl hE.1 h3 (fun i p t hp ht=>tV (zP (hE.2 i p t hp ht).1 hm) (zP (hE.2 i p t hp ht).2 hm))
theorem of_says {F:Nat->Prop}{w:World}{g:Nat}{x:Rw}{M:Gm}(h:GR F w g x M)(hp:∃ k,demesneref28_Shape_Canon.f k (M.T.map t88) M.G (M.O.map t89)=some ((dV (shM M)).T,(dV (shM M)).G,(dV (shM M)).N)):
 Calls Tryz.prog 13 #[.pointer (some ⟨g,0,none⟩)] w fun e w'=>∃ v',e=.returned v'/\iD w' v' (dV (shM M))/\Below w.heap.size w w':=by
 have HG:=Y h;have HPL:=Y hp;have HS:=Y (show M.T.length<=100000/\M.O.length<=100000 from⟨by have:=h.wf.t64;omega,by have:=h.wf.o;omega⟩)
 have hu41:=Tryz.underlying41
 obtain⟨AV,cV,eV⟩:∃ A c,x.vO=.slice A M.O.length c:=by
  obtain⟨A,c,e⟩:=Kd.aD h.hO;exact⟨A,c,by rw[e,h.lP]⟩
 have HEV:=Y eV;have hb1:=ae (Below.refl w.heap.size w) (.cells #[.slice none 0 0,.slice none 0 0,.slice none 0 0] 41);have h2:Holds (w.alloc (.cells #[.slice none 0 0,.slice none 0 0,.slice none 0 0] 41)) w.heap.size 41 z41:=aK _ _;have hz:(w.alloc (.cells #[.slice none 0 0,.slice none 0 0,.slice none 0 0] 41)).heap.size=w.heap.size+1:=by simp
 have z0:(w.alloc (.cells #[.slice none 0 0,.slice none 0 0,.slice none 0 0] 41)).cell? ⟨g,1,none⟩=some (.slice (some ⟨x.bG,0,none⟩) M.G.length M.G.length):=((h.hg.below hb1).cell 1).trans rfl;have h1:=h.hg.below hb1;clear h hp eV;go_enter Tryz.func13,Tryz.ntmps13;go_upto_region 1 with(fail)
 obtain⟨W1,hW1⟩:∃ W1,W1=w.alloc (.cells #[.slice none 0 0,.slice none 0 0,.slice none 0 0] 41):=⟨_,rfl⟩;rw[<-hW1]at hb1 h2 hz z0 h1 ⊢;clear hW1;have hb2:=ae (Below.refl W1.heap.size W1) (.cells #[.slice none 0 0,.slice none 0 0,.slice none 0 0] 41);have h3:Holds (W1.alloc (.cells #[.slice none 0 0,.slice none 0 0,.slice none 0 0] 41)) W1.heap.size 41 z41:=aK _ _;have H3:=Y h3;have HK:=Y (And.intro (h1.below hb2) (And.intro (h2.below hb2) (And.intro (ag hb1 (by omega) hb2) hz)))
 clear h1 h2 hb1 hb2 h3 hz;go_upto_region 2 with((with_reducible refine bg (t:=41) (p:=3) rfl ?_);refine aG rfl (ty:=41) rfl rfl (g:=W1.heap.size) (off:=0) (vs:=#[.slice none 0 0,.slice (some ⟨x.bG,0,none⟩) M.G.length M.G.length,.slice none 0 0]) rfl rfl H3.out (by show 3<=3;decide) mF (by simp[Value.oneCell']) ?_;intro w5 hh5 hs5;have HH5:=Y hh5;have HS5:=Y hs5;clear hh5 hs5)
 rw[HK.out.2.2.2]
 have HST0:=Y (show SB g 76 [.slice (some ⟨x.bT,0,none⟩) M.T.length x.cT,.slice (some ⟨x.bG,0,none⟩) M.G.length M.G.length,x.vO] w.heap.size (w.heap.size+1) w (.slice none 0 0) (.slice (some ⟨x.bG,0,none⟩) M.G.length M.G.length) (.slice none 0 0) [] [] [] [] w5 by
  have hsz:=HK.out.2.2.2;have hh5:=HH5.out;have hs5:=HS5.out;rw[hsz]at hh5 hs5;have hgl:=HG.out.hg.lt
  exact⟨hs5.holds HK.out.1 (by omega),by decide,hs5.holds HK.out.2.1 (by omega),hh5,Kd.fo _ _ _ _ _,.nil,Kd.fo _ _ _ _ _,.nil,hs5.below HK.out.2.2.1 (by omega),by omega,by omega,by omega⟩)
 clear HK H3 HH5 HS5 z0;go_wp2_with fail
 go_loopg [4] M.T.length (fun kq v4 w'=>∃(i:Nat) (vT:Value) (ps:List (Value×Value)),v4=.int .i64 (i:Int)/\aa (i+kq=M.T.length)/\aa (SB g 76 [.slice (some ⟨x.bT,0,none⟩) M.T.length x.cT,.slice (some ⟨x.bG,0,none⟩) M.G.length M.G.length,x.vO] w.heap.size (w.heap.size+1) w vT (.slice (some ⟨x.bG,0,none⟩) M.G.length M.G.length) (.slice none 0 0) ps [] ((M.T.take i).map t88) [] w'))
 case atStart=>exact⟨0,_,[],rfl,⟨by omega⟩,HST0⟩
 case round=>
  clear HST0;obtain⟨i,vT,ps,rfl,HI,HSB⟩:=hrel;obtain⟨W0,rfl⟩:∃ W0,W0=wr:=⟨wr,rfl⟩;have z1:=(HSB.out.h1.cell 0).trans rfl;cases gk with
  |zero=>
   have r1:decide ((i:Int)<(M.T.length:Int))=false:=yd (by have:=HI.out;omega)
   have r2:decide (i<M.T.length)=false:=yd (by have:=HI.out;omega)
   have HSN:=Y (show SB g 76 [.slice (some ⟨x.bT,0,none⟩) M.T.length x.cT,.slice (some ⟨x.bG,0,none⟩) M.G.length M.G.length,x.vO] w.heap.size (w.heap.size+1) w vT (.slice (some ⟨x.bG,0,none⟩) M.G.length M.G.length) (.slice none 0 0) ps [] (M.T.map t88) [] W0 by have:=HSB.out;rw[List.take_of_length_le (by have:=HI.out;omega)]at this;exact this)
   clear HSB HI;go_wp2_with fail
   go_loopg [5] M.O.length (fun kq v5 w'=>∃(i:Nat) (vN:Value) (qs:List (Value×Value)),v5=.int .i64 (i:Int)/\aa (i+kq=M.O.length)/\aa (SB g 76 [.slice (some ⟨x.bT,0,none⟩) M.T.length x.cT,.slice (some ⟨x.bG,0,none⟩) M.G.length M.G.length,x.vO] w.heap.size (w.heap.size+1) w vT (.slice (some ⟨x.bG,0,none⟩) M.G.length M.G.length) vN ps qs (M.T.map t88) ((M.O.take i).map t89) w'))
   case atStart=>exact⟨0,_,[],rfl,⟨by omega⟩,HSN⟩
   case round=>
    clear HSN;obtain⟨i,vN,qs,rfl,HI,HSB⟩:=hrel;obtain⟨W0,rfl⟩:∃ W0,W0=wr:=⟨wr,rfl⟩;have z1:W0.cell? ⟨g,2,none⟩=some (.slice AV M.O.length cV):=(HSB.out.h1.cell 2).trans (by rw[<-HEV.out];rfl)
    cases gk with
    |zero=>
     have r1:decide ((i:Int)<(M.O.length:Int))=false:=yd (by have:=HI.out;omega)
     have r2:decide (i<M.O.length)=false:=yd (by have:=HI.out;omega)
     have HSE:=Y (show SB g 76 [.slice (some ⟨x.bT,0,none⟩) M.T.length x.cT,.slice (some ⟨x.bG,0,none⟩) M.G.length M.G.length,x.vO] w.heap.size (w.heap.size+1) w vT (.slice (some ⟨x.bG,0,none⟩) M.G.length M.G.length) vN ps qs (M.T.map t88) (M.O.map t89) W0 by have:=HSB.out;rw[List.take_of_length_le (by have:=HI.out;omega)]at this;exact this)
     clear HSB;obtain⟨AT,cT,eT⟩:=Kd.aD HSE.out.rT;obtain⟨AN,cN,eN⟩:=Kd.aD HSE.out.rN;subst eT eN;have rT:=HSE.out.rT;have rN:=HSE.out.rN;rw[HSE.out.eT.1]at rT;rw[HSE.out.eN.1]at rN;obtain⟨t1,t2⟩:=Dw rT (HSE.out.eT.below HSE.out.hb);obtain⟨n1,n2⟩:=CR rN (HSE.out.eN.below HSE.out.hb);have hgC:Kd.C (Kd.int .i64) W0 (some ⟨x.bG,0,none⟩) M.G.length M.G:=Kd.aU (iv_C HG.out.hG (by have:=HG.out.wf.g8;omega)) HSE.out.hb
     have hV:Kd.V k89 89 W0 W0.heap.size (fun q=>q<w.heap.size\/(Value.slice AN (M.O.map t89).length cN).ownBlock=some q) (.slice AN (M.O.map t89).length cN) (M.O.map t89):=Kd.V_mk n1 (foot_N rN HSE.out.eN HSE.out.hb)
     have hnb:∀ q,(Value.slice AN (M.O.map t89).length cN).ownBlock=some q->q≠w.heap.size:=fun q hq e=>by subst e;exact Kd.dL rN HSE.out.h2 (by decide) hq.symm
     have hl1:(M.T.map t88).length=ps.length:=HSE.out.eT.1.symm;have hl2:(M.O.map t89).length=qs.length:=HSE.out.eN.1.symm;obtain⟨kc,hkc⟩:=HPL.out;have HCA:=Y (demesneref28_Shape_Canon.calls kc AT cT (M.T.map t88) (some ⟨x.bG,0,none⟩) M.G.length M.G _ AN cN (M.O.map t89) _ _ _ W0 t2 t1 hgC (Nat.le_refl _) hV hkc);rw[hl1,hl2]at HCA;have HNB:=Y hnb;rw[hl2]at HNB;clear rT rN t1 t2 n1 n2 hgC hV hnb hkc;go_wp2_with (first|((with_reducible refine aW (N:=73) rfl ?_);refine bE (g:=w.heap.size+1) (off:=0) (t:=41) (cs:=[.slice AT ps.length cT,.slice (some ⟨x.bG,0,none⟩) M.G.length M.G.length,.slice AN qs.length cN]) (seg:=[.slice AT ps.length cT,.slice (some ⟨x.bG,0,none⟩) M.G.length M.G.length,.slice AN qs.length cN]) rfl rfl (by rfl) HSE.out.h3 (by rfl) Tryz.underlying41 rfl mF ?_)|(go_at_call 48;refine HCA.out.mono ?_;rintro e w7 ⟨u0,u1,u2,rfl,hs0,hs1,hs2,hb7⟩;obtain⟨Ar0,cr0,er0⟩:=Kd.lh (Kd.N_V (base':=0) hs0);obtain⟨Ar1,cr1,er1⟩:=Kd.aD hs1;obtain⟨Ar2,cr2,er2⟩:=Kd.lh (Kd.N_V (base':=0) hs2);subst er0 er1 er2;have HS0:=Y hs0;have HS1:=Y hs1;have HS2:=Y hs2;have HB7:=Y hb7;have HH7:=Y (HSE.out.h2.below hb7);clear hs0 hs1 hs2 hb7)|((with_reducible refine bg (t:=41) (p:=2) rfl ?_);refine aG rfl (ty:=41) rfl rfl (g:=w.heap.size) (off:=0) (vs:=#[.slice Ar0 (dV (shM M)).T.length cr0,.slice Ar1 (dV (shM M)).G.length cr1,.slice Ar2 (dV (shM M)).N.length cr2]) rfl rfl HH7.out (by show 3<=3;decide) mF (by simp[Value.oneCell']) ?_;intro w9 hh9 hs9;have HH9:=Y hh9;have HS9:=Y hs9;clear hh9 hs9))
     refine bodyPost_ret (results_cell_row rfl _ _ w.heap.size 41 #[.slice Ar0 (dV (shM M)).T.length cr0,.slice Ar1 (dV (shM M)).G.length cr1,.slice Ar2 (dV (shM M)).N.length cr2] (0,0) _ rfl HH9.out Tryz.underlying41 rfl mF) rfl ?_;have hlt0:=HSE.out.h2.lt
     have hne:∀ q,((q<w.heap.size\/(Value.slice AN qs.length cN).ownBlock=some q)\/W0.heap.size<=q)->q≠w.heap.size:=fun q hq e=>by
      rcases hq with(hq|hq)|hq
      . omega
      . exact HNB.out q hq e
      . omega
     have v0:=Kd.dE (Kd.DJ (Kd.N_V (base':=0) HS0.out) HS9.out.keep (fun q hq=>hne q hq.1))
     have v2:=Kd.dE (Kd.DJ (Kd.N_V (base':=0) HS2.out) HS9.out.keep (fun q hq=>hne q hq.1))
     have v1:=Kd.bI (dW HS1.out HH7.out (fun q hq=>by rcases List.mem_cons.1 hq with rfl|hq;decide;cases hq) HS9.out)
     exact⟨_,rfl,⟨Ar0,cr0,Ar1,cr1,Ar2,cr2,rfl,v0.2.1,v0.2.2,v1.2.1,v1.2.2,v2.2.1,v2.2.2⟩,HS9.out.below (ag HSE.out.hb HSE.out.hb.size HB7.out) (Nat.le_refl _)⟩
    |succ kN=>
     have HIL:=Y (show i<M.O.length by have:=HI.out;omega)
     have r1:decide ((i:Int)<(M.O.length:Int))=true:=yb (by have:=HI.out;omega)
     have r2:decide (i<M.O.length)=true:=yb (by have:=HI.out;omega)
     clear z1;obtain⟨q,bO,cO',hvO,hp,_,xa,xb,hr1,hr2,hok⟩:=HG.out.obj HIL.out;have hsz:=hok.size;simp only at hsz;have hv0:IV .i64 w (.slice (some ⟨q.r,0,none⟩) (refsOf M i).length (refsOf M i).length) (refsOf M i):=⟨_,_,rfl,Nat.le_refl _,iv_C hr1 (by omega)⟩
     have hv1:IV .u64 w (.slice (some ⟨q.d,0,none⟩) (bf M i).length (bf M i).length) (bf M i):=⟨_,_,rfl,Nat.le_refl _,uv_C hr2 (by omega)⟩
     have hx:∀ w',Below w.heap.size w w'->w'.cell? ⟨bO,i*2,none⟩=some (.slice (some ⟨q.r,0,none⟩) (refsOf M i).length (refsOf M i).length)/\w'.cell? ⟨bO,i*2+1,none⟩=some (.slice (some ⟨q.d,0,none⟩) (bf M i).length (bf M i).length):=fun w' hb=>⟨(hb.cell (World.block_lt_of_cell? w _ xa)).trans xa,(hb.cell (World.block_lt_of_cell? w _ xb)).trans xb⟩
     obtain⟨AX0,cX0,nX0,e0⟩:∃(A:Option Addr) (c n:Nat),(A,c,n)=(some ⟨q.r,0,none⟩,(refsOf M i).length,(refsOf M i).length):=⟨_,_,_,rfl⟩;obtain⟨AX1,cX1,nX1,e1⟩:∃(A:Option Addr) (c n:Nat),(A,c,n)=(some ⟨q.d,0,none⟩,(bf M i).length,(bf M i).length):=⟨_,_,_,rfl⟩;injection e0 with e0 e0'
     injection e0' with e0' e0''
     injection e1 with e1 e1'
     injection e1' with e1' e1''
     replace hv0:IV .i64 w (.slice AX0 nX0 cX0) (refsOf M i):=by rw[e0,e0',e0''];exact hv0
     replace hv1:IV .u64 w (.slice AX1 nX1 cX1) (bf M i):=by rw[e1,e1',e1''];exact hv1
     replace hx:∀ w',Below w.heap.size w w'->w'.cell? ⟨bO,i*2,none⟩=some (.slice AX0 nX0 cX0)/\w'.cell? ⟨bO,i*2+1,none⟩=some (.slice AX1 nX1 cX1):=by rw[e0,e0',e0'',e1,e1',e1''];exact hx
     have HTK:=Y (show(M.O.take i).map t89++[t89 (refsOf M i,bf M i)]=(M.O.take (i+1)).map t89 by rw[List.take_add_one,lv HIL.out,List.map_append];rfl)
     have HLN:=Y (show qs.length<=100000 by rw[HSB.out.eN.1,List.length_map,List.length_take];have:=HS.out;have:=HIL.out;omega)
     have hw1:IntKind.i64.wrap ((i:Int)+1)=(i:Int)+1:=rq (by have:=HS.out;have:=HIL.out;omega)
     have z1:W0.cell? ⟨g,2,none⟩=some (.slice (some ⟨bO,0,none⟩) M.O.length cO'):=(HSB.out.h1.cell 2).trans (by rw[<-hvO];rfl)
     have HVO:=Y hvO;have HX:=Y hx;have HXI:=Y (And.intro hv0 hv1);have HO:=Y (And.intro (jr AX0 nX0 cX0) (jr AX1 nX1 cX1));clear hx hv0 hv1 e0 e0' e0'' e1 e1' e1'' xa xb hp hr1 hr2 hok hsz hvO;obtain⟨AO,cO,eO⟩:=Kd.aD HSB.out.rN;subst eO;have HOW:=Y (And.intro (fun q (hq:(Value.slice AO qs.length cO).ownBlock=some q)=>Kd.fT HSB.out.rN q hq) (fun q (hq:(Value.slice AO qs.length cO).ownBlock=some q)=>oZ HSB.out.rN q hq))
     go_upto_region 9 with(fail)
     clear z1;refine mH 21 75 [] (V13N w.heap.size W0 (⟨bO,i*2,none⟩) (⟨bO,i*2,none⟩) (⟨bO,i*2+1,none⟩) g (w.heap.size+1) i M.O.length cO' (some ⟨bO,0,none⟩) (.slice AO qs.length cO) (.slice AX0 nX0 cX0) (.slice AX1 nX1 cX1) qs) (JB 20 (Value.slice AO qs.length cO).ownBlock w W0) (GrN 20 (Value.slice AO qs.length cO).ownBlock) (by kernel_rfl) (by rfl) (by kernel_rfl) ⟨cK (bv zc) _,bv HSB.out.hb,fun _=>bv zc⟩ (fun kk L1 w1 w2 hk1 hL hk0 hJ hG=>JB.step HSB.out.hb.size HOW.out.2 (by rw[hL];exact Nat.lt_of_lt_of_le hk1 (by decide)) hJ hG) (fun i j v w1 w2 hi hij _ _ h hG=>Ah hij HOW.out.1 h hG) ?st ?en
     case st=>
      refine au.cons (fun a w1 L fr hL hj hdf hd K hK=>?_) ?_
      . exact af (fG (i:=2) (by decide) rfl ((fr 3 (by kernel_rfl)).trans rfl)) (hK _ _ ⟨fun _=>zc,fun h=>(by cases h)⟩ rfl)
      refine au.cons (fun a w1 L fr hL hj hdf hd K hK=>?_) ?_
      . exact af (iF rfl (hd 0 51 (by kernel_rfl)) (((aY HSB.out.h3 hj.1 (fun e=>Kd.dL HSB.out.rN HSB.out.h3 (by decide) e)).cell 2).trans rfl)) (hK _ _ ⟨fun _=>zc,fun h=>(by cases h)⟩ rfl)
      refine au.cons (fun a w1 L fr hL hj hdf hd K hK=>?_) ?_
      . exact af (aC rfl ((fr 0 (by kernel_rfl)).trans rfl)) (hK _ _ ⟨fun _=>zc,fun h=>(by cases h)⟩ rfl)
      refine au.cons (fun a w1 L fr hL hj hdf hd K hK=>?_) ?_
      . exact af (bZ rfl (hd 2 53 (by kernel_rfl))) (hK _ _ ⟨fun _=>zc,fun h=>(by cases h)⟩ rfl)
      refine au.cons (fun a w1 L fr hL hj hdf hd K hK=>?_) ?_
      . exact af (iE (i:=2) (by decide) rfl (hd 3 54 (by kernel_rfl))) (hK _ _ ⟨fun _=>zc,fun h=>(by cases h)⟩ rfl)
      refine au.cons (fun a w1 L fr hL hj hdf hd K hK=>?_) ?_
      . exact af (oJ rfl (hd 4 55 (by kernel_rfl)) (((aY HSB.out.h1 hj.1 (fun e=>Kd.dL HSB.out.rN HSB.out.h1 (by decide) e)).cell 2).trans (by rw[<-HVO.out];rfl))) (hK _ _ ⟨fun _=>zc,fun h=>(by cases h)⟩ rfl)
      refine au.cons (fun a w1 L fr hL hj hdf hd K hK=>?_) ?_
      . exact af (aC rfl ((fr 5 (by kernel_rfl)).trans rfl)) (hK _ _ ⟨fun _=>zc,fun h=>(by cases h)⟩ rfl)
      refine au.cons (fun a w1 L fr hL hj hdf hd K hK=>?_) ?_
      . exact af (uQ rfl (hd 5 56 (by kernel_rfl)) (hd 6 57 (by kernel_rfl)) HIL.out) (hK _ _ ⟨fun _=>zc,fun h=>(by cases h)⟩ rfl)
      refine au.cons (fun a w1 L fr hL hj hdf hd K hK=>?_) ?_
      . exact af (uy (i:=0) (by decide) rfl (hd 7 58 (by kernel_rfl))) (hK _ _ ⟨fun _=>zc,fun h=>(by cases h)⟩ rfl)
      refine au.cons (fun a w1 L fr hL hj hdf hd K hK=>?_) ?_
      . exact af (dz rfl (hd 8 59 (by kernel_rfl)) (HX.out w1 hj.2.1).1) (hK _ _ ⟨fun _=>zc,fun h=>(by cases h)⟩ rfl)
      refine au.cons (fun a w1 L fr hL hj hdf hd K hK=>?_) ?_
      . exact af (aC rfl ((fr 0 (by kernel_rfl)).trans rfl)) (hK _ _ ⟨fun _=>zc,fun h=>(by cases h)⟩ rfl)
      refine au.cons (fun a w1 L fr hL hj hdf hd K hK=>?_) ?_
      . exact af (bZ rfl (hd 10 61 (by kernel_rfl))) (hK _ _ ⟨fun _=>zc,fun h=>(by cases h)⟩ rfl)
      refine au.cons (fun a w1 L fr hL hj hdf hd K hK=>?_) ?_
      . exact af (iE (i:=2) (by decide) rfl (hd 11 62 (by kernel_rfl))) (hK _ _ ⟨fun _=>zc,fun h=>(by cases h)⟩ rfl)
      refine au.cons (fun a w1 L fr hL hj hdf hd K hK=>?_) ?_
      . exact af (oJ rfl (hd 12 63 (by kernel_rfl)) (((aY HSB.out.h1 hj.1 (fun e=>Kd.dL HSB.out.rN HSB.out.h1 (by decide) e)).cell 2).trans (by rw[<-HVO.out];rfl))) (hK _ _ ⟨fun _=>zc,fun h=>(by cases h)⟩ rfl)
      refine au.cons (fun a w1 L fr hL hj hdf hd K hK=>?_) ?_
      . exact af (aC rfl ((fr 5 (by kernel_rfl)).trans rfl)) (hK _ _ ⟨fun _=>zc,fun h=>(by cases h)⟩ rfl)
      refine au.cons (fun a w1 L fr hL hj hdf hd K hK=>?_) ?_
      . exact af (uQ rfl (hd 13 64 (by kernel_rfl)) (hd 14 65 (by kernel_rfl)) HIL.out) (hK _ _ ⟨fun _=>zc,fun h=>(by cases h)⟩ rfl)
      refine au.cons (fun a w1 L fr hL hj hdf hd K hK=>?_) ?_
      . exact af (uy (i:=1) (by decide) rfl (hd 15 66 (by kernel_rfl))) (hK _ _ ⟨fun _=>zc,fun h=>(by cases h)⟩ rfl)
      refine au.cons (fun a w1 L fr hL hj hdf hd K hK=>?_) ?_
      . exact af (gJ rfl (hd 16 67 (by kernel_rfl)) (HX.out w1 hj.2.1).2) (hK _ _ ⟨fun _=>zc,fun h=>(by cases h)⟩ rfl)
      refine au.cons (fun a w1 L fr hL hj hdf hd K hK=>?_) ?_
      . exact af (uh rfl (hd 9 60 (by kernel_rfl)) (hd 17 68 (by kernel_rfl))) (hK _ _ ⟨fun _=>zc,fun h=>(by cases h)⟩ rfl)
      refine au.cons (fun a w1 L fr hL hj hdf hd K hK=>?_) ?_
      . have e1:a.eval (.tmp 69)=.agg #[(.slice AX0 nX0 cX0),(.slice AX1 nX1 cX1)]:=(hd 18 69 (by kernel_rfl))
        exact af (sZ rfl e1) (hK _ _ ⟨fun _=>ae zc _,fun h=>(by cases h)⟩ (show ∃ L,_ from⟨w1.heap.size,rfl,hj.1.size,aK _ _⟩))
      refine au.cons (fun a w1 L fr hL hj hdf hd K hK=>?_) ?_
      . have e1:a.eval (.tmp 52)=(.slice AO qs.length cO):=(hd 1 52 (by kernel_rfl))
        obtain⟨L,e2,hL2,hL3⟩:∃ L,a.eval (.tmp 70)=.slice (some ⟨L,0,none⟩) 1 1/\W0.heap.size<=L/\Holds w1 L 89 [(.slice AX0 nX0 cX0),(.slice AX1 nX1 cX1)]:=(hd 19 70 (by kernel_rfl))
        have hb:=hj.2.2 hL;have hrow:=Kd.aX HSB.out.rN hb;have hc9:Kd.C bn w1 (some ⟨L,0,none⟩) 1 [((.slice AX0 nX0 cX0),(.slice AX1 nX1 cX1))]:=kX bn hL3 (oz ⟨rfl,HO.out.1,HO.out.2⟩) (by simp)
        refine gQ bn (w0:=w1) w.heap.size 39 89 (.agg #[.slice none 0 0,.slice none 0 0]) 48 rfl Tryz.underlying39 zY rfl (by decide) (by decide) _ qs [((.slice AX0 nX0 cX0),(.slice AX1 nX1 cX1))] (some ⟨L,0,none⟩) 1 1 (fun _=>True) e1 e2 (fun _ _ _ _ h=>h) (fun _ _=>trivial) hrow hc9 zc hj.2.1.size (by have:=HLN.out;omega) ?_
        intro v1 w2 hr1 hb1 hg1 hat;exact hK _ _ ⟨fun h=>absurd rfl h,fun _=>hg1⟩ hr1
      exact au.nil
     case en=>
      intro vs w6 L1 hJ hl hv;have e0:Kd.R bn 89 w6 w.heap.size (fun _=>True) (vs 20) (qs++[((.slice AX0 nX0 cX0),(.slice AX1 nX1 cX1))]):=hv 20 71 (by decide) (by kernel_rfl) (fun _ _ h=>by cases h)
      obtain⟨A2,c2,e2⟩:=Kd.aD e0;rw[List.length_append,List.length_singleton]at e2;rw[e2]at e0;simp only[List.take_succ_cons,List.take_zero,List.drop_succ_cons,List.drop_zero,bA,Act.put,zj,zr,ya,e2];have hh3:=aY HSB.out.h3 hJ.1 (fun e=>Kd.dL HSB.out.rN HSB.out.h3 (by decide) e)
      have y2:=(hh3.cell 2).trans rfl;have y3:=ak hh3 2;have HST:=Y (HSB.out.uN (u:=t89 (refsOf M i,bf M i)) HXI.out.1 HXI.out.2 e0 hJ.1 hJ.2.1);rw[HTK.out]at HST;clear hv hl hJ e0 e2 hh3;go_wp2_with fail;go_roundg kN
      case measure=>have:=HI.out;omega
      case rel=>exact⟨i+1,.slice A2 (qs.length+1) c2,qs++[((.slice AX0 nX0 cX0),(.slice AX1 nX1 cX1))],rfl,⟨by have:=HI.out;omega⟩,HST⟩
  |succ kT=>
   have HIL:=Y (show i<M.T.length by have:=HI.out;omega)
   have r1:decide ((i:Int)<(M.T.length:Int))=true:=yb (by have:=HI.out;omega)
   have r2:decide (i<M.T.length)=true:=yb (by have:=HI.out;omega)
   obtain⟨p,A0',A1',c0',c1',hp,rfl,xa,xb,hr1,hr2,hok⟩:=HG.out.thr (List.getElem?_eq_getElem HIL.out);have hv0:IV .i64 w (.slice A0' (M.T[i]'HIL.out).1.length c0') (M.T[i]'HIL.out).1:=zR hr1 (by have:=hok.s8;omega)
   have hv1:IV .i64 w (.slice A1' (M.T[i]'HIL.out).2.length c1') (M.T[i]'HIL.out).2:=zR hr2 (by have:=hok.k;omega)
   have hx:∀ w',Below w.heap.size w w'->w'.cell? ⟨x.bT,i*2,none⟩=some (.slice A0' (M.T[i]'HIL.out).1.length c0')/\w'.cell? ⟨x.bT,i*2+1,none⟩=some (.slice A1' (M.T[i]'HIL.out).2.length c1'):=fun w' hb=>⟨(hb.cell (World.block_lt_of_cell? w _ xa)).trans xa,(hb.cell (World.block_lt_of_cell? w _ xb)).trans xb⟩
   obtain⟨AX0,cX0,nX0,e0⟩:∃ A c n,(A,c,n)=(A0',c0',(M.T[i]'HIL.out).1.length):=⟨_,_,_,rfl⟩;obtain⟨AX1,cX1,nX1,e1⟩:∃ A c n,(A,c,n)=(A1',c1',(M.T[i]'HIL.out).2.length):=⟨_,_,_,rfl⟩;injection e0 with e0 e0'
   injection e0' with e0' e0''
   injection e1 with e1 e1'
   injection e1' with e1' e1''
   rw[<-e0,<-e0',<-e0'']at hv0 hx;rw[<-e1,<-e1',<-e1'']at hv1 hx;have HTK:=Y (show(M.T.take i).map t88++[t88 (M.T[i]'HIL.out)]=(M.T.take (i+1)).map t88 by rw[List.take_succ_eq_append_getElem HIL.out,List.map_append];rfl)
   have HLN:=Y (show ps.length<=100000 by rw[HSB.out.eT.1,List.length_map,List.length_take];have:=HS.out;have:=HIL.out;omega)
   have hw1:IntKind.i64.wrap ((i:Int)+1)=(i:Int)+1:=rq (by have:=HS.out;have:=HIL.out;omega)
   have HX:=Y hx;have HXI:=Y (And.intro hv0 hv1);have HO:=Y (And.intro (jr AX0 nX0 cX0) (jr AX1 nX1 cX1));clear hx hv0 hv1 e0 e0' e0'' e1 e1' e1'' xa xb hp hr1 hr2 hok;obtain⟨AO,cO,eO⟩:=Kd.aD HSB.out.rT;subst eO;have HOW:=Y (And.intro (fun q (hq:(Value.slice AO ps.length cO).ownBlock=some q)=>Kd.fT HSB.out.rT q hq) (fun q (hq:(Value.slice AO ps.length cO).ownBlock=some q)=>oZ HSB.out.rT q hq))
   go_upto_region 5 with(fail)
   clear z1;refine mH 21 75 [] (V13T w.heap.size W0 (⟨x.bT,i*2,none⟩) (⟨x.bT,i*2,none⟩) (⟨x.bT,i*2+1,none⟩) g (w.heap.size+1) i M.T.length x.cT (some ⟨x.bT,0,none⟩) (.slice AO ps.length cO) (.slice AX0 nX0 cX0) (.slice AX1 nX1 cX1) ps) (JB 20 (Value.slice AO ps.length cO).ownBlock w W0) (GrN 20 (Value.slice AO ps.length cO).ownBlock) (by kernel_rfl) (by rfl) (by kernel_rfl) ⟨cK (bv zc) _,bv HSB.out.hb,fun _=>bv zc⟩ (fun kk L1 w1 w2 hk1 hL hk0 hJ hG=>JB.step HSB.out.hb.size HOW.out.2 (by rw[hL];exact Nat.lt_of_lt_of_le hk1 (by decide)) hJ hG) (fun i j v w1 w2 hi hij _ _ h hG=>BN hij HOW.out.1 h hG) ?st ?en
   case st=>
    refine au.cons (fun a w1 L fr hL hj hdf hd K hK=>?_) ?_
    . exact af (fG (i:=0) (by decide) rfl ((fr 3 (by kernel_rfl)).trans rfl)) (hK _ _ ⟨fun _=>zc,fun h=>(by cases h)⟩ rfl)
    refine au.cons (fun a w1 L fr hL hj hdf hd K hK=>?_) ?_
    . exact af (jH rfl (hd 0 20 (by kernel_rfl)) (((aY HSB.out.h3 hj.1 (fun e=>Kd.dL HSB.out.rT HSB.out.h3 (by decide) e)).cell 0).trans rfl)) (hK _ _ ⟨fun _=>zc,fun h=>(by cases h)⟩ rfl)
    refine au.cons (fun a w1 L fr hL hj hdf hd K hK=>?_) ?_
    . exact af (aC rfl ((fr 0 (by kernel_rfl)).trans rfl)) (hK _ _ ⟨fun _=>zc,fun h=>(by cases h)⟩ rfl)
    refine au.cons (fun a w1 L fr hL hj hdf hd K hK=>?_) ?_
    . exact af (bZ rfl (hd 2 22 (by kernel_rfl))) (hK _ _ ⟨fun _=>zc,fun h=>(by cases h)⟩ rfl)
    refine au.cons (fun a w1 L fr hL hj hdf hd K hK=>?_) ?_
    . exact af (iE (i:=0) (by decide) rfl (hd 3 23 (by kernel_rfl))) (hK _ _ ⟨fun _=>zc,fun h=>(by cases h)⟩ rfl)
    refine au.cons (fun a w1 L fr hL hj hdf hd K hK=>?_) ?_
    . exact af (jd rfl (hd 4 24 (by kernel_rfl)) (((aY HSB.out.h1 hj.1 (fun e=>Kd.dL HSB.out.rT HSB.out.h1 (by decide) e)).cell 0).trans rfl)) (hK _ _ ⟨fun _=>zc,fun h=>(by cases h)⟩ rfl)
    refine au.cons (fun a w1 L fr hL hj hdf hd K hK=>?_) ?_
    . exact af (aC rfl ((fr 4 (by kernel_rfl)).trans rfl)) (hK _ _ ⟨fun _=>zc,fun h=>(by cases h)⟩ rfl)
    refine au.cons (fun a w1 L fr hL hj hdf hd K hK=>?_) ?_
    . exact af (kr rfl (hd 5 25 (by kernel_rfl)) (hd 6 26 (by kernel_rfl)) HIL.out) (hK _ _ ⟨fun _=>zc,fun h=>(by cases h)⟩ rfl)
    refine au.cons (fun a w1 L fr hL hj hdf hd K hK=>?_) ?_
    . exact af (tu (i:=0) (by decide) rfl (hd 7 27 (by kernel_rfl))) (hK _ _ ⟨fun _=>zc,fun h=>(by cases h)⟩ rfl)
    refine au.cons (fun a w1 L fr hL hj hdf hd K hK=>?_) ?_
    . exact af (dz rfl (hd 8 28 (by kernel_rfl)) (HX.out w1 hj.2.1).1) (hK _ _ ⟨fun _=>zc,fun h=>(by cases h)⟩ rfl)
    refine au.cons (fun a w1 L fr hL hj hdf hd K hK=>?_) ?_
    . exact af (aC rfl ((fr 0 (by kernel_rfl)).trans rfl)) (hK _ _ ⟨fun _=>zc,fun h=>(by cases h)⟩ rfl)
    refine au.cons (fun a w1 L fr hL hj hdf hd K hK=>?_) ?_
    . exact af (bZ rfl (hd 10 30 (by kernel_rfl))) (hK _ _ ⟨fun _=>zc,fun h=>(by cases h)⟩ rfl)
    refine au.cons (fun a w1 L fr hL hj hdf hd K hK=>?_) ?_
    . exact af (iE (i:=0) (by decide) rfl (hd 11 31 (by kernel_rfl))) (hK _ _ ⟨fun _=>zc,fun h=>(by cases h)⟩ rfl)
    refine au.cons (fun a w1 L fr hL hj hdf hd K hK=>?_) ?_
    . exact af (jd rfl (hd 12 32 (by kernel_rfl)) (((aY HSB.out.h1 hj.1 (fun e=>Kd.dL HSB.out.rT HSB.out.h1 (by decide) e)).cell 0).trans rfl)) (hK _ _ ⟨fun _=>zc,fun h=>(by cases h)⟩ rfl)
    refine au.cons (fun a w1 L fr hL hj hdf hd K hK=>?_) ?_
    . exact af (aC rfl ((fr 4 (by kernel_rfl)).trans rfl)) (hK _ _ ⟨fun _=>zc,fun h=>(by cases h)⟩ rfl)
    refine au.cons (fun a w1 L fr hL hj hdf hd K hK=>?_) ?_
    . exact af (kr rfl (hd 13 33 (by kernel_rfl)) (hd 14 34 (by kernel_rfl)) HIL.out) (hK _ _ ⟨fun _=>zc,fun h=>(by cases h)⟩ rfl)
    refine au.cons (fun a w1 L fr hL hj hdf hd K hK=>?_) ?_
    . exact af (tu (i:=1) (by decide) rfl (hd 15 35 (by kernel_rfl))) (hK _ _ ⟨fun _=>zc,fun h=>(by cases h)⟩ rfl)
    refine au.cons (fun a w1 L fr hL hj hdf hd K hK=>?_) ?_
    . exact af (dz rfl (hd 16 36 (by kernel_rfl)) (HX.out w1 hj.2.1).2) (hK _ _ ⟨fun _=>zc,fun h=>(by cases h)⟩ rfl)
    refine au.cons (fun a w1 L fr hL hj hdf hd K hK=>?_) ?_
    . exact af (tN rfl (hd 9 29 (by kernel_rfl)) (hd 17 37 (by kernel_rfl))) (hK _ _ ⟨fun _=>zc,fun h=>(by cases h)⟩ rfl)
    refine au.cons (fun a w1 L fr hL hj hdf hd K hK=>?_) ?_
    . have e1:a.eval (.tmp 38)=.agg #[(.slice AX0 nX0 cX0),(.slice AX1 nX1 cX1)]:=(hd 18 38 (by kernel_rfl))
      exact af (uo rfl e1) (hK _ _ ⟨fun _=>ae zc _,fun h=>(by cases h)⟩ (show ∃ L,_ from⟨w1.heap.size,rfl,hj.1.size,aK _ _⟩))
    refine au.cons (fun a w1 L fr hL hj hdf hd K hK=>?_) ?_
    . have e1:a.eval (.tmp 21)=(.slice AO ps.length cO):=(hd 1 21 (by kernel_rfl))
      obtain⟨L,e2,hL2,hL3⟩:∃ L,a.eval (.tmp 39)=.slice (some ⟨L,0,none⟩) 1 1/\W0.heap.size<=L/\Holds w1 L 88 [(.slice AX0 nX0 cX0),(.slice AX1 nX1 cX1)]:=(hd 19 39 (by kernel_rfl))
      have hb:=hj.2.2 hL;have hrow:=Kd.aX HSB.out.rT hb;have hc9:Kd.C bn w1 (some ⟨L,0,none⟩) 1 [((.slice AX0 nX0 cX0),(.slice AX1 nX1 cX1))]:=kX bn hL3 (oz ⟨rfl,HO.out.1,HO.out.2⟩) (by simp)
      refine gQ bn (w0:=w1) w.heap.size 37 88 (.agg #[.slice none 0 0,.slice none 0 0]) 48 rfl Tryz.underlying37 zC rfl (by decide) (by decide) _ ps [((.slice AX0 nX0 cX0),(.slice AX1 nX1 cX1))] (some ⟨L,0,none⟩) 1 1 (fun _=>True) e1 e2 (fun _ _ _ _ h=>h) (fun _ _=>trivial) hrow hc9 zc hj.2.1.size (by have:=HLN.out;omega) ?_
      intro v1 w2 hr1 hb1 hg1 hat;exact hK _ _ ⟨fun h=>absurd rfl h,fun _=>hg1⟩ hr1
    exact au.nil
   case en=>
    intro vs w6 L1 hJ hl hv;have e0:Kd.R bn 88 w6 w.heap.size (fun _=>True) (vs 20) (ps++[((.slice AX0 nX0 cX0),(.slice AX1 nX1 cX1))]):=hv 20 40 (by decide) (by kernel_rfl) (fun _ _ h=>by cases h)
    obtain⟨A2,c2,e2⟩:=Kd.aD e0;rw[List.length_append,List.length_singleton]at e2;rw[e2]at e0;simp only[List.take_succ_cons,List.take_zero,List.drop_succ_cons,List.drop_zero,bA,Act.put,zj,zr,ya,e2];have hh3:=aY HSB.out.h3 hJ.1 (fun e=>Kd.dL HSB.out.rT HSB.out.h3 (by decide) e)
    have y2:=(hh3.cell 0).trans rfl;have y3:=ak hh3 0;have HST:=Y (HSB.out.uz (u:=t88 (M.T[i]'HIL.out)) HXI.out.1 HXI.out.2 e0 hJ.1 hJ.2.1);rw[HTK.out]at HST;clear hv hl hJ e0 e2 hh3;go_wp2_with fail;go_roundg kT
    case measure=>have:=HI.out;omega
    case rel=>exact⟨i+1,.slice A2 (ps.length+1) c2,ps++[((.slice AX0 nX0 cX0),(.slice AX1 nX1 cX1))],rfl,⟨by have:=HI.out;omega⟩,HST⟩
end
section
theorem w1n {i:Nat}(h:i<=1000000000):wrap64 ((i:Int)+1)=((i+1:Nat):Int):=by rw[jK (by omega) (by omega)];omega
theorem o5 {l:List Int}{i:Nat}(h:i<l.length):rd l (i:Int)=l[i]:=by
 unfold rd;rw[List.getD_eq_getElem?_getD,Int.toNat_natCast,List.getElem?_eq_getElem h];rfl
def atF (l:List Int)(x:Int):Int:=if x∈l then(l.idxOf x:Int)else -1
theorem zT (l:List Int)(x:Int)(hl:l.length<=1000000):∀(m i:Nat),i+m=l.length->x∉l.take i->Ev (fun k=>demesneref28_at.l0 k l x (i:Int)) (atF l x)
 |0,i,hi,hx=>by
  refine Ev.step (f:=fun _=>some (-1)) (fun k=>?_) ?_
  . show(if(i:Int)<(l.length:Int)then _ else some (-1))=some (-1)
    rw[if_neg (by omega)]
  . unfold atF;rw[List.take_of_length_le (by omega)]at hx
    rw[if_neg hx];exact Ev.now _
 |m+1,i,hi,hx=>by
  have hil:i<l.length:=by omega
  by_cases h:l[i]=x
  . refine Ev.step (f:=fun _=>some (i:Int)) (fun k=>?_) ?_
    . show(if(i:Int)<(l.length:Int)then(if 0<=(i:Int)then(if rd l (i:Int)=x then some (i:Int)else _)else none)else some (-1))=some (i:Int)
      rw[if_pos (by omega),if_pos (by omega),o5 hil,if_pos h]
    . have hm:x∈l:=by rw[<-h];exact List.getElem_mem hil
      have e:l.idxOf x=i:=by
       have h1:l=l.take i++l.drop i:=(List.take_append_drop i l).symm;rw[h1,List.idxOf_append,if_neg hx,List.length_take,List.drop_eq_getElem_cons hil,h,List.idxOf_cons_self];omega
      unfold atF;rw[if_pos hm,e];exact Ev.now _
  . refine Ev.step (f:=fun k=>demesneref28_at.l0 k l x ((i+1:Nat):Int)) (fun k=>?_) (zT l x hl m (i+1) (by omega) (fun hx2=>?_))
    . show(if(i:Int)<(l.length:Int)then(if 0<=(i:Int)then(if rd l (i:Int)=x then some (i:Int)else demesneref28_at.l0 k l x (wrap64 ((i:Int)+1)))else none)else some (-1))=_
      rw[if_pos (by omega),if_pos (by omega),o5 hil,if_neg h,w1n (by omega)]
    . rw[List.take_succ_eq_append_getElem hil]at hx2
      rcases List.mem_append.1 hx2 with h2|h2
      . exact hx h2
      . exact h (List.mem_singleton.1 h2).symm
theorem at_ev (l:List Int)(x:Int)(hl:l.length<=1000000):Ev (fun k=>demesneref28_at.f k l x) (atF l x):=zT l x hl l.length 0 (by omega) (by simp)
theorem atF_bd (l:List Int)(x:Int)(hl:l.length<=1000000): -1<=atF l x/\atF l x<=1000000:=by
 unfold atF
 split
 . have:=List.idxOf_le_length (a:=x) (l:=l);omega
 . omega
theorem ren_one (nm:List Int)(x:Int)(hl:nm.length<=1000000):wrap64 (atF nm x+1)=if x∈nm then(nm.idxOf x:Int)+1 else 0:=by
 have:=atF_bd nm x hl;rw[jK (by omega) (by omega)]
 unfold atF
 split<;>omega
theorem yc (l nm:List Int)(hl:l.length<=1000000)(hn:nm.length<=1000000):∀(m i:Nat),i+m=l.length->Ev (fun k=>demesneref28_renamed.l0 k l nm (eB nm (l.take i)) (i:Int)) (eB nm l)
 |0,i,hi=>by
  refine Ev.step (f:=fun _=>some (eB nm (l.take i))) (fun k=>?_) ?_
  . show(if(i:Int)<(l.length:Int)then _ else some (eB nm (l.take i)))=_
    rw[if_neg (by omega)]
  . rw[List.take_of_length_le (by omega)]
    exact Ev.now _
 |m+1,i,hi=>by
  have hil:i<l.length:=by omega
  refine Ev.step (f:=fun k=>(demesneref28_at.f k nm l[i]).bind fun t=>demesneref28_renamed.l0 k l nm (eB nm (l.take i)++[wrap64 (t+1)]) ((i+1:Nat):Int)) (fun k=>?_) ?_
  . show(if(i:Int)<(l.length:Int)then(if 0<=(i:Int)then((demesneref28_at.f k nm (rd l (i:Int))).bind fun t=>(if(eB nm (l.take i)).length<17592186044416 then(demesneref28_renamed.l0 k l nm (eB nm (l.take i)++[wrap64 (t+1)]) (wrap64 ((i:Int)+1)))else(none)))else(none))else(some _))=_
    rw[if_pos (by omega),if_pos (by omega),o5 hil,w1n (by omega)]
    refine congrArg _ (funext fun t=>?_)
    rw[if_pos (by unfold eB;rw[List.length_map,List.length_take];omega)]
  . refine Ev.bind (at_ev nm l[i] hn) ?_;rw[ren_one nm _ hn]
    have e:eB nm (l.take i)++[if l[i]∈nm then(nm.idxOf l[i]:Int)+1 else 0]=eB nm (l.take (i+1)):=by
     unfold eB;rw[List.take_succ_eq_append_getElem hil,List.map_append];rfl
    rw[e];exact yc l nm hl hn m (i+1) (by omega)
theorem uL (l nm:List Int)(hl:l.length<=1000000)(hn:nm.length<=1000000):Ev (fun k=>demesneref28_renamed.f k l nm) (eB nm l):=yc l nm hl hn l.length 0 (by omega)
def qO (T:List S88)(G:List Int):List Int:=T.flatMap (fun t=>t.f0++t.f1)++G
theorem rdT' (l:List S88)(i:Nat)(hi:i<l.length):df l (i:Int)=l[i]:=by
 unfold df;rw[List.getD_eq_getElem?_getD,Int.toNat_natCast,List.getElem?_eq_getElem hi];rfl
theorem rdN' (l:List S89)(i:Nat)(hi:i<l.length):aV l (i:Int)=l[i]:=by
 unfold aV;rw[List.getD_eq_getElem?_getD,Int.toNat_natCast,List.getElem?_eq_getElem hi];rfl
theorem uZ {T:List S88}{c:Nat}(h:∀ t∈T,t.f0.length<=c/\t.f1.length<=c):(T.flatMap (fun t=>t.f0++t.f1)).length<=T.length*(2*c):=by
 induction T with
 |nil=>simp
 |cons t T ih=>
  have h1:=h t List.mem_cons_self;have h2:=ih (fun u hu=>h u (List.mem_cons_of_mem _ hu))
  rw[List.flatMap_cons,List.length_append,List.length_append,List.length_cons,Nat.add_mul,Nat.one_mul];omega
theorem yn (T:List S88)(G:List Int)(N:List S89)(hT:T.length<=300)(ht:∀ t∈T,t.f0.length<=1000/\t.f1.length<=1000)(hG:G.length<=1000):∀(m i:Nat),i+m=T.length->Ev (fun k=>demesneref28_Shape_all.l0 k ((T.take i).flatMap (fun t=>t.f0++t.f1)) (i:Int) T G N) (qO T G)
 |0,i,hi=>by
  refine Ev.step (f:=fun _=>some (qO T G)) (fun k=>?_) (Ev.now _)
  have hb:=uZ ht;show(if(i:Int)<(T.length:Int)then _ else(if((T.take i).flatMap (fun t=>t.f0++t.f1)).length+G.length<17592186044416 then(some (((T.take i).flatMap (fun t=>t.f0++t.f1))++G))else(none)))=_
  rw[if_neg (by omega),List.take_of_length_le (by omega),if_pos (by omega)]
  rfl
 |m+1,i,hi=>by
  have hil:i<T.length:=by omega
  have hb:=uZ (T:=T.take i) (c:=1000) (fun t h=>ht t (List.mem_of_mem_take h))
  have hti:=ht _ (List.getElem_mem hil);rw[List.length_take]at hb;refine Ev.step (f:=fun k=>demesneref28_Shape_all.l0 k ((T.take (i+1)).flatMap (fun t=>t.f0++t.f1)) ((i+1:Nat):Int) T G N) (fun k=>?_) (yn T G N hT ht hG m (i+1) (by omega))
  show(if(i:Int)<(T.length:Int)then(if 0<=(i:Int)then(if((T.take i).flatMap (fun t=>t.f0++t.f1)).length+((df T (i:Int)).f0).length<17592186044416 then((some (((T.take i).flatMap (fun t=>t.f0++t.f1))++((df T (i:Int)).f0):List Int)).bind fun y=>(if y.length+((df T (i:Int)).f1).length<17592186044416 then(demesneref28_Shape_all.l0 k (y++((df T (i:Int)).f1)) (wrap64 ((i:Int)+1)) T G N)else(none)))else(none))else(none))else _)=_
  have hm:min i T.length*(2*1000)<=600000:=by
   have:min i T.length<=300:=by omega
   omega
  rw[if_pos (by omega),if_pos (by omega),rdT' T i hil,if_pos (by omega),Option.bind_some,if_pos (by rw[List.length_append];omega),w1n (by omega),List.take_succ_eq_append_getElem hil,List.flatMap_append,List.append_assoc]
  simp
theorem all_ev (T:List S88)(G:List Int)(N:List S89)(hT:T.length<=300)(ht:∀ t∈T,t.f0.length<=1000/\t.f1.length<=1000)(hG:G.length<=1000):Ev (fun k=>demesneref28_Shape_all.f k T G N) (qO T G):=yn T G N hT ht hG T.length 0 (by omega)
def nx (n:Nat)(x:Int):Int:=if x<1\/(n:Int)<x then 0 else x
theorem yw {T:List S88}{G:List Int}{N:List S89}{row:List Int}{next:Int}{R:List Int}(hN:N.length<=100000)(hr:row.length<=1000000):∀(m j:Nat) (out:List Int),j+m=row.length->jA N.length out->
 Ev (fun k=>demesneref28_Shape_met.l1 k (bC out (inF N.length (row.drop j))).1 row next (row.length:Int) T G N) R->Ev (fun k=>demesneref28_Shape_met.l1 k out row next (j:Int) T G N) R
 |0,j,out,hj,hok,h=>by
  obtain rfl:j=row.length:=by omega
  rw[List.drop_of_length_le (Nat.le_refl _)]at h;exact h
 |m+1,j,out,hj,hok,h=>by
  have hjl:j<row.length:=by omega
  have hol:=hok.len;have hd:row.drop j=row[j] :: row.drop (j+1):=List.drop_eq_getElem_cons hjl;have hval:0<=nx N.length row[j]/\nx N.length row[j]<=N.length:=by unfold nx;split<;>omega
  have hok':=zQ hok hval;have h':Ev (fun k=>demesneref28_Shape_met.l1 k (bC (dQ out (nx N.length row[j])).1 (inF N.length (row.drop (j+1)))).1 row next (row.length:Int) T G N) R:=by rw[hd]at h;exact h
  have ih:=yw hN hr m (j+1) (dQ out (nx N.length row[j])).1 (by omega) hok' h'
  refine Ev.step (f:=fun k=>if row[j]>=1 then(if row[j]<=(N.length:Int)then((demesneref28_at.f k out row[j]).bind fun t=>(if t<0 then demesneref28_Shape_met.l1 k (out++[row[j]]) row next ((j+1:Nat):Int) T G N else demesneref28_Shape_met.l1 k out row next ((j+1:Nat):Int) T G N))else demesneref28_Shape_met.l1 k out row next ((j+1:Nat):Int) T G N)else demesneref28_Shape_met.l1 k out row next ((j+1:Nat):Int) T G N) (fun k=>?_) ?_
  . show(if(j:Int)<(row.length:Int)then(if 0<=(j:Int)then(if(rd row (j:Int))>=1 then(if(rd row (j:Int))<=(N.length:Int)then((demesneref28_at.f k out (rd row (j:Int))).bind fun t=>(if t<0 then(if out.length<17592186044416 then(demesneref28_Shape_met.l1 k (out++[rd row (j:Int)]) row next (wrap64 ((j:Int)+1)) T G N)else(none))else(demesneref28_Shape_met.l1 k out row next (wrap64 ((j:Int)+1)) T G N)))else(demesneref28_Shape_met.l1 k out row next (wrap64 ((j:Int)+1)) T G N))else(demesneref28_Shape_met.l1 k out row next (wrap64 ((j:Int)+1)) T G N))else(none))else _)=_
    rw[if_pos (by omega),if_pos (by omega),o5 hjl,w1n (by omega),if_pos (show out.length<17592186044416 by omega)]
  . by_cases h1:row[j]>=1
    . by_cases h2:row[j]<=(N.length:Int)
      . simp only[if_pos h1,if_pos h2];have hnx:nx N.length row[j]=row[j]:=by unfold nx;rw[if_neg (by omega)]
        rw[hnx]at ih;refine Ev.bind (at_ev out row[j] (by omega)) ?_
        by_cases hm:row[j]∈out
        . have e:atF out row[j]=(out.idxOf row[j]:Int):=by unfold atF;rw[if_pos hm]
          simp only[e,if_neg (show ¬ ((out.idxOf row[j]:Int)<0) by omega)]
          have e2:(dQ out row[j]).1=out:=by unfold dQ;rw[if_neg (by omega),if_pos hm]
          rw[e2]at ih;exact ih
        . have e:atF out row[j]= -1:=by unfold atF;rw[if_neg hm]
          simp only[e,if_pos (show(-1:Int)<0 by decide)]
          have e2:(dQ out row[j]).1=out++[row[j]]:=by unfold dQ;rw[if_neg (by omega),if_neg hm]
          rw[e2]at ih;exact ih
      . simp only[if_pos h1,if_neg h2];have hnx:nx N.length row[j]=0:=by unfold nx;rw[if_pos (by omega)]
        rw[hnx]at ih;exact ih
    . simp only[if_neg h1];have hnx:nx N.length row[j]=0:=by unfold nx;rw[if_pos (by omega)]
      rw[hnx]at ih;exact ih
theorem tL {N:List S89}:∀(f i:Nat) (nm:List Int) (acc acc':List S89),(dF N f i nm acc).1=(dF N f i nm acc').1
 |0,_,_,_,_=>rfl
 |f+1,i,nm,acc,acc'=>by
  unfold dF
  split
  . exact tL f _ _ _ _
  . rfl
theorem yA (n:Nat)(l:List Int):∀ x∈inF n l,0<=x/\x<=n:=by
 intro x hx;unfold inF at hx;obtain⟨y,_,rfl⟩:=List.mem_map.1 hx
 split<;>omega
theorem EM {T:List S88}{G:List Int}{N:List S89}(hN:N.length<=100000)(hn:∀ t∈N,t.f0.length<=1000):∀(f next:Nat) (out row:List Int),row.length<=1000000->jA N.length out->N.length<=next+f->next<=out.length->
 Ev (fun k=>demesneref28_Shape_met.l0 k out row (next:Int) T G N) (dF N f next (bC out (inF N.length row)).1 []).1:=by
 intro f
 induction f with
 |zero=>
  intro next out row hr hok hf hx;have hok':=nA hok (yA N.length row);have hl:=hok'.len;have hle:out.length<=(bC out (inF N.length row)).1.length:=(kS _ _).length_le;have hen:next=(bC out (inF N.length row)).1.length:=by omega
  refine Ev.step (f:=fun k=>demesneref28_Shape_met.l1 k out row (next:Int) ((0:Nat):Int) T G N) (fun k=>rfl) (yw hN hr row.length 0 out (by omega) hok ?_)
  refine Ev.step (f:=fun _=>some (bC out (inF N.length row)).1) (fun k=>?_) (Ev.now _)
  show(if(row.length:Int)<(row.length:Int)then _ else(if(next:Int)=(((bC out (inF N.length (row.drop 0))).1.length:Nat):Int)then(some (bC out (inF N.length (row.drop 0))).1)else _))=_
  rw[if_neg (by omega),if_pos (by rw[List.drop_zero];omega),List.drop_zero]
 |succ f ih=>
  intro next out row hr hok hf hx;have hok':=nA hok (yA N.length row);have hl:=hok'.len;have hle:out.length<=(bC out (inF N.length row)).1.length:=(kS _ _).length_le;generalize hnm:(bC out (inF N.length row)).1=nm at hok' hl hle;refine Ev.step (f:=fun k=>demesneref28_Shape_met.l1 k out row (next:Int) ((0:Nat):Int) T G N) (fun k=>rfl) (yw hN hr row.length 0 out (by omega) hok ?_)
  rw[List.drop_zero,hnm]
  by_cases hen:next=nm.length
  . refine Ev.step (f:=fun _=>some nm) (fun k=>?_) ?_
    . show(if(row.length:Int)<(row.length:Int)then _ else(if(next:Int)=((nm.length:Nat):Int)then(some nm)else _))=_
      rw[if_neg (by omega),if_pos (by omega)]
    . unfold dF;rw[if_neg (by omega)]
      exact Ev.now _
  . have hlt:next<nm.length:=by omega
    have hv:=hok'.val nm[next] (List.getElem_mem hlt);obtain⟨p,hp⟩:∃ p:Nat,nm[next]=(p:Int)+1:=⟨(nm[next] - 1).toNat,by omega⟩
    have hpl:p<N.length:=by omega
    have hw:wrap64 (nm[next] - 1)=(p:Int):=by rw[hp,show(p:Int)+1 - 1=(p:Int) by omega];exact jK (by omega) (by omega)
    have ih2:=ih (next+1) nm N[p].f0 (by have:=hn _ (List.getElem_mem hpl);omega) hok' (by omega) (by omega)
    have e:(dF N (f+1) next nm []).1=(dF N f (next+1) (bC nm (inF N.length N[p].f0)).1 []).1:=by
     have e1:nm.getD next 0=(p:Int)+1:=by rw[List.getD_eq_getElem?_getD,List.getElem?_eq_getElem hlt];exact hp
     have e2:N.getD ((nm.getD next 0).toNat - 1) gy=N[p]:=by rw[e1,show((p:Int)+1).toNat - 1=p by omega,List.getD_eq_getElem?_getD,List.getElem?_eq_getElem hpl];rfl
     rw[show dF N (f+1) next nm []=_ from rfl]
     show(if next<nm.length then dF N f (next+1) (bC nm (inF N.length (N.getD ((nm.getD next 0).toNat - 1) gy).f0)).1 ([]++[⟨(bC nm (inF N.length (N.getD ((nm.getD next 0).toNat - 1) gy).f0)).2,(N.getD ((nm.getD next 0).toNat - 1) gy).f1⟩])else(nm,[])).1=_
     rw[if_pos hlt,e2];exact tL _ _ _ _ _
    rw[e];refine Ev.step (f:=fun k=>demesneref28_Shape_met.l0 k nm N[p].f0 ((next+1:Nat):Int) T G N) (fun k=>?_) ih2
    show(if(row.length:Int)<(row.length:Int)then _ else(if(next:Int)=((nm.length:Nat):Int)then(some nm)else(if 0<=(next:Int)then(if(next:Int)<(nm.length:Int)then(if 0<=(wrap64 ((rd nm (next:Int)) - 1))then(if(wrap64 ((rd nm (next:Int)) - 1))<(N.length:Int)then(demesneref28_Shape_met.l0 k nm ((aV N (wrap64 ((rd nm (next:Int)) - 1))).f0) (wrap64 ((next:Int)+1)) T G N)else(none))else(none))else(none))else(none))))=_
    rw[if_neg (by omega),if_neg (by omega),if_pos (by omega),if_pos (by omega),o5 hlt,hw,if_pos (by omega),if_pos (by omega),rdN' N p hpl,w1n (by omega)]
theorem BJ (rows:List (List Int)):(List.range rows.length).flatMap (fun j=>rows.getD j [])=rows.flatten:=by
 rw[List.flatMap_def]
 congr 1
 apply List.ext_getElem
 . simp
 . intro i h1 h2;simp only[List.getElem_map,List.getElem_range];rw[List.getD_eq_getElem?_getD,List.getElem?_eq_getElem h2];rfl
theorem stC_all (S:Sh):(stC S).1=(bC [] (inF S.N.length (qO S.T S.G))).1:=by
 have h:=(oh (c:=fw S) (2*S.T.length+1)).1
 have hl:(kg S).length=2*S.T.length+1:=by
  unfold kg;rw[List.length_append,pO];rfl
 unfold stC;rw[h,<-hl]
 have e:(List.range (kg S).length).flatMap (fw S)=inF S.N.length (qO S.T S.G):=by
  show(List.range (kg S).length).flatMap (fun j=>(kg S).getD j [])=_
  rw[BJ];unfold kg qO;unfold inF;rw[List.flatten_append,List.map_append]
  congr 1
  . induction S.T with
    |nil=>rfl
    |cons t T ih=>
     rw[List.flatMap_cons,List.flatMap_cons,List.flatten_append,List.map_append,ih];simp
  . simp
 rw[e]
theorem met_ev (S:Sh)(hS:Mid S):Ev (fun k=>demesneref28_Shape_met.f k S.T S.G S.N) (ig S):=by
 refine Ev.bind (f:=fun k t=>demesneref28_Shape_met.l0 k ([]:List Int) t 0 S.T S.G S.N) (all_ev S.T S.G S.N hS.T hS.t hS.G) ?_
 have h:=EM (T:=S.T) (G:=S.G) (N:=S.N) hS.N (fun t ht=>(hS.n t ht).1) S.N.length 0 [] (qO S.T S.G) (by
  unfold qO;rw[List.length_append];have:=uZ hS.t;have:=hS.T;have:=hS.G
  omega) ⟨List.nodup_nil,fun x hx=>by cases hx⟩ (by omega) (by simp)
 rw[<-stC_all]at h;exact h
end
end Go.Proofs.YtglikkmmbdnmbaaGreat.Im
namespace Go.Proofs.YtglikkmmbdnmbaaGreat.PCan
open Go.RowKit Q7
attribute [local go_sem] lJ lZ mY nz lm kW lY lK -- for this text's walks alone
set_option linter.unusedVariables false
set_option linter.unusedSimpArgs false
section
def demesneref28_row.l0:Nat->List Int->List Int->Int->Option (Bool)
 |0,_,_,_=>none
 |k+1,x0,x1,x5=>if x5<(x0.length:Int)then(if 0<=x5 then(if x5<(x1.length:Int)then(if(rd x0 x5)=(rd x1 x5)then(demesneref28_row.l0 k x0 x1 (wrap64 (x5+1)))else(some false))else(none))else(none))else(some true)
def demesneref28_row.f (k:Nat)(l0:List Int)(l1:List Int):Option (Bool):=if(l0.length:Int)=(l1.length:Int)then(demesneref28_row.l0 k l0 l1 0)else(some false)
theorem demesneref28_row.calls (k:Nat)(A0:Option Addr)(c0:Nat)(l0:List Int)(A1:Option Addr)(c1:Nat)(l1:List Int)(r:Bool)(w:World)(hr0:Kd.C (Kd.int .i64) w A0 l0.length l0)(hc0:l0.length<=c0)(hr1:Kd.C (Kd.int .i64) w A1 l1.length l1)(hc1:l1.length<=c1)(h:demesneref28_row.f k l0 l1=some r):
 Calls Tryz.prog 47 #[.slice A0 l0.length c0,.slice A1 l1.length c1] w fun e w'=>e=.returned (.bool r)/\cz w w':=by
 have HR0:=Y hr0;have HC0:=Y hc0;clear hr0 hc0;have HR1:=Y hr1;have HC1:=Y hc1;clear hr1 hc1;have H:(if(l0.length:Int)=(l1.length:Int)then(demesneref28_row.l0 k l0 l1 0)else(some false))=some r:=h
 clear h
 by_cases c3:(l0.length:Int)=(l1.length:Int)
 . rw[if_pos c3]at H;have c3b0:((l0.length:Int)==(l1.length:Int))=true:=beq_iff_eq.mpr c3;have c3b1:((l0.length:Int) != (l1.length:Int))=false:=bne_eq_false_iff_eq.mpr c3;have c3b2:(l0.length==l1.length)=true:=by first|simpa using c3|(simp at c3 ⊢;omega)
   clear c3;have H':=Y H;clear H;go_enter Tryz.func47,Tryz.ntmps47
   go_wp2
   repeat (go_quiet (fail);try go_wp2)
   go_loopg [5] k (fun kq v5 w'=>∃(x5_1:Int),v5=.int .i64 x5_1/\aa (demesneref28_row.l0 kq l0 l1 x5_1=some r)/\aa (kq<=k)/\cz w w')
   case atStart=>exact⟨(0),(by first|rfl|(simp;done)|(simp[*];done)),H',⟨Nat.le_refl _⟩,by repeat (first|exact cz.refl _|apply cz.step)⟩
   case round=>
    clear H'
    try clear c1
    try clear p2
    try clear c3
    try clear c3b0
    try clear c3b1
    try clear c3b2
    obtain⟨x5_1,rfl,HA,HK1,⟨m1,rfl⟩⟩:=hrel;cases gk with
    |zero=>exact absurd HA.out (by simp[demesneref28_row.l0])
    |succ k1=>
     have H:=HA.out;clear HA;simp only[demesneref28_row.l0]at H
     by_cases c4:x5_1<(l0.length:Int)
     . rw[if_pos c4]at H;have c4b0:decide (x5_1<(l0.length:Int))=true:=yb c4;clear c4
       by_cases c5:0<=x5_1
       . rw[if_pos c5]at H;have c5b0:decide (0<=x5_1)=true:=yb c5;clear c5
         by_cases c6:x5_1<(l1.length:Int)
         . rw[if_pos c6]at H;have c6b0:decide (x5_1<(l1.length:Int))=true:=yb c6;clear c6
           by_cases c7:(rd l0 x5_1)=(rd l1 x5_1)
           . rw[if_pos c7]at H;have c7b0:((rd l0 x5_1)==(rd l1 x5_1))=true:=beq_iff_eq.mpr c7;have c7b1:((rd l0 x5_1) != (rd l1 x5_1))=false:=bne_eq_false_iff_eq.mpr c7;clear c7;have H':=Y H;clear H;have p349:0<=(x5_1:Int):=of_decide_eq_true (by first|(with_reducible assumption)|assumption)
             have q349:x5_1<(l0.length:Int):=of_decide_eq_true (by first|(with_reducible assumption)|assumption)
             obtain⟨ad349,e349,hx349_0⟩:=Kd.fH HR0.out x5_1 p349 q349;cases e349
             replace p349:=eq_true p349
             replace q349:=eq_true q349
             have p350:0<=(x5_1:Int):=of_decide_eq_true (by first|(with_reducible assumption)|assumption)
             have q350:x5_1<(l1.length:Int):=of_decide_eq_true (by first|(with_reducible assumption)|assumption)
             obtain⟨ad350,e350,hx350_0⟩:=Kd.fH HR1.out x5_1 p350 q350;cases e350
             replace p350:=eq_true p350
             replace q350:=eq_true q350
             go_wp2
             repeat (go_quiet (fail);try go_wp2)
             go_roundg k1
             case measure=>have:=HK1.out;omega
             case rel=>exact⟨(wrap64 (x5_1+1)),(by first|rfl|(simp;done)|(simp[*];done)),H',⟨by have:=HK1.out;omega⟩,by repeat (first|exact cz.refl _|apply cz.step)⟩
           . rw[if_neg c7]at H;have c7b0:((rd l0 x5_1)==(rd l1 x5_1))=false:=beq_eq_false_iff_ne.mpr c7;have c7b1:((rd l0 x5_1) != (rd l1 x5_1))=true:=bne_iff_ne.mpr c7;obtain rfl:=Option.some.inj H;have p349:0<=(x5_1:Int):=of_decide_eq_true (by first|(with_reducible assumption)|assumption)
             have q349:x5_1<(l0.length:Int):=of_decide_eq_true (by first|(with_reducible assumption)|assumption)
             obtain⟨ad349,e349,hx349_0⟩:=Kd.fH HR0.out x5_1 p349 q349;cases e349
             replace p349:=eq_true p349
             replace q349:=eq_true q349
             have p350:0<=(x5_1:Int):=of_decide_eq_true (by first|(with_reducible assumption)|assumption)
             have q350:x5_1<(l1.length:Int):=of_decide_eq_true (by first|(with_reducible assumption)|assumption)
             obtain⟨ad350,e350,hx350_0⟩:=Kd.fH HR1.out x5_1 p350 q350;cases e350
             replace p350:=eq_true p350
             replace q350:=eq_true q350
             go_wp2
             repeat (go_quiet (fail);try go_wp2)
             go_ret
             exact⟨by first|rfl|(simp;done)|(simp[*];done),by repeat (first|exact cz.refl _|apply cz.step)⟩
         . rw[if_neg c6]at H;exact absurd H (by simp)
       . rw[if_neg c5]at H;exact absurd H (by simp)
     . rw[if_neg c4]at H;have c4b0:decide (x5_1<(l0.length:Int))=false:=yd c4;clear c4;obtain rfl:=Option.some.inj H
       go_wp2
       repeat (go_quiet (fail);try go_wp2)
       go_ret
       exact⟨by first|rfl|(simp;done)|(simp[*];done),by repeat (first|exact cz.refl _|apply cz.step)⟩
 . rw[if_neg c3]at H;have c3b0:((l0.length:Int)==(l1.length:Int))=false:=beq_eq_false_iff_ne.mpr c3;have c3b1:((l0.length:Int) != (l1.length:Int))=true:=bne_iff_ne.mpr c3;have c3b2:(l0.length==l1.length)=false:=by first|simpa using c3|(simp at c3 ⊢;omega)
   obtain rfl:=Option.some.inj H;go_enter Tryz.func47,Tryz.ntmps47
   go_wp2
   repeat (go_quiet (fail);try go_wp2)
   go_ret
   exact⟨by first|rfl|(simp;done)|(simp[*];done),by repeat (first|exact cz.refl _|apply cz.step)⟩
end
end Go.Proofs.YtglikkmmbdnmbaaGreat.PCan
namespace Go.Proofs.YtglikkmmbdnmbaaGreat.Im
open Go.RowKit Q7
open YtglikkmmbdnmbaaGreat.Own PCan Wv
set_option linter.unusedVariables false
set_option linter.unusedSimpArgs false
section
theorem xE (l:List Int)(hl:l.length<=1000000):∀(m i:Nat),i+m=l.length->Ev (fun k=>demesneref28_row.l0 k l l (i:Int)) true
 |0,i,hi=>by
  refine Ev.step (f:=fun _=>some true) (fun k=>?_) (Ev.now _)
  show(if(i:Int)<(l.length:Int)then _ else some true)=_
  rw[if_neg (by omega)]
 |m+1,i,hi=>by
  have hil:i<l.length:=by omega
  refine Ev.step (f:=fun k=>demesneref28_row.l0 k l l ((i+1:Nat):Int)) (fun k=>?_) (xE l hl m (i+1) (by omega))
  show(if(i:Int)<(l.length:Int)then(if 0<=(i:Int)then(if(i:Int)<(l.length:Int)then(if(rd l (i:Int))=(rd l (i:Int))then(demesneref28_row.l0 k l l (wrap64 ((i:Int)+1)))else(some false))else(none))else(none))else(some true))=_
  rw[if_pos (by omega),if_pos (by omega),if_pos (by omega),if_pos rfl,w1n (by omega)]
theorem Eh (l:List Int)(hl:l.length<=1000000):Ev (fun k=>demesneref28_row.f k l l) true:=by
 refine Ev.congr (f:=fun k=>demesneref28_row.l0 k l l 0) (fun k=>?_) (xE l hl l.length 0 (by omega))
 show(if(l.length:Int)=(l.length:Int)then _ else _)=_
 rw[if_pos rfl]
end
end Go.Proofs.YtglikkmmbdnmbaaGreat.Im

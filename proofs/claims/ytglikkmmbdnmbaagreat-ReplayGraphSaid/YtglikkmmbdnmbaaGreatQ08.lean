/- The document's graph: Push, Pop. -/
import Derived.Test.YtglikkmmbdnmbaaGreatQ07
import Derived.Test.YtglikkmmbdnmbaaGreatQ01
set_option maxHeartbeats 8000000
set_option maxRecDepth 100000
namespace Go.Proofs.YtglikkmmbdnmbaaGreat.Im
open Go.RowKit Q7
open YtglikkmmbdnmbaaGreat.Own PCan Wv
set_option linter.unusedVariables false
set_option linter.unusedSimpArgs false
section
def V40 (g bT n c k:Nat)(v1 v2:Value):Nat->Value->World->Prop
 |0,v,_=>v=.pointer (some ⟨g,0,none⟩)
 |1,v,_=>v=.pointer (some ⟨g,0,none⟩)
 |2,v,_=>v=.pointer (some ⟨g,0,none⟩)
 |3,v,_=>v=.slice (some ⟨bT,0,none⟩) n c
 |4,v,_=>v=.int .i64 (k:Int)
 |5,v,_=>v=.agg #[v1,v2]
 |6,v,_=>v=.pointer (some ⟨bT,k*2,none⟩)
 |_,_,_=>True
theorem vV (g bT n c k:Nat)(v1 v2:Value)(j:Nat)(v:Value)(w w':World)(h:V40 g bT n c k v1 v2 j v w):V40 g bT n c k v1 v2 j v w':=by
 unfold V40 at h ⊢
 split at h<;>first|exact h|trivial
theorem zJ {cs:List Value}{off:Nat}{v1 v2:Value}(h1:cs[off]? =some v1)(h2:cs[off+1]? =some v2):(cs.drop off).take [v1,v2].length=[v1,v2]:=by
 obtain⟨l1,e1⟩:=List.getElem?_eq_some_iff.1 h1;obtain⟨l2,e2⟩:=List.getElem?_eq_some_iff.1 h2;rw[List.drop_eq_getElem_cons l1,List.drop_eq_getElem_cons l2,e1,e2];rfl
theorem dZ.one {I:Nat->Prop}{w:World}{v:Value}{l:List Int}(h:dZ I w v l):v.oneCell'=true:=by
 obtain⟨A,c,e,_⟩:=h;rw[e];rfl
section
variable {F:Nat→Prop} {w:World} {g:Nat} {x:Rw} {M:Gm}
theorem Dy (h:GR F w g x M)(t i:Int):
 Calls Tryz.prog 40 #[.pointer (some ⟨g,0,none⟩),.int .i64 t,.int .i64 i] w fun e w'=>e=.returned (.int .i64 (gK M t i).2.2)/\GRS F w g (gK M t i).1 w':=by
 have HG:=Y h;have x0:=h.x0;cases ht:atI M.T t with
 |none=>
  rw[show gK M t i=(M,0,2) by unfold gK;rw[ht]]
  have hn:=gY ht
  by_cases h0:t<0
  . have q1:decide (t<0)=true:=yb h0;clear h ht hn h0;go_enter Tryz.func40,Tryz.ntmps40;go_wp2_with fail
    go_ret
    exact⟨rfl,GRS.same HG.out⟩
  . have q1:decide (t<0)=false:=yd h0;have q2:decide (t>=(M.T.length:Int))=true:=yb (by omega)
    have q2':decide ((M.T.length:Int)<=t)=true:=yb (by omega)
    clear h ht hn h0;go_enter Tryz.func40,Tryz.ntmps40;go_wp2_with fail
    go_ret
    exact⟨rfl,GRS.same HG.out⟩
 |some th=>
  obtain⟨k,rfl,hk,hlt⟩:=dC ht;obtain⟨p,A0,A1,c0,c1,hp,rfl,_,_,r1,r2,hok⟩:=h.thr hk;obtain⟨cs,hcs,hat⟩:=h.hT;obtain⟨p1,p2,p3,p4,p5,p6⟩:=Cg hk i;rw[p5];have HCS:=Y (And.intro hcs hat);have HK:=Y (And.intro hlt (hat k _ hp));have HP:=Y (And.intro p1 (And.intro p2 (And.intro p3 (And.intro p4 (p6 h.wf)))));have HW:=Y (r72 (I:=x.I) A0 th.1.length c0 A1 th.2.length c1 th r1 r2 hok.s8 hok.k i);have HSEG:=Y (zJ (hat k _ hp).1 (hat k _ hp).2)
  have HLC:=Y (show k*2+2<=cs.length by
   have:=(List.getElem?_eq_some_iff.1 (hat k _ hp).2).1
   omega)
  have q1:decide ((k:Int)<0)=false:=yd (by omega)
  have q2:decide ((k:Int)>=(M.T.length:Int))=false:=yd (by omega)
  have q2':decide ((M.T.length:Int)<=(k:Int))=false:=yd (by omega)
  have q2'':decide (M.T.length<=k)=false:=yd (by omega)
  have q3:(0:Int)<=(k:Int):=by omega
  have q4:(k:Int)<(M.T.length:Int):=by omega
  generalize (fU th i).2=code at HW ⊢;generalize (fU th i).1=th' at HW HP;generalize (gK M (k:Int) i).1=M' at HP ⊢;clear ht hk hp r1 r2 hok h hlt hcs hat p1 p2 p3 p4 p5 p6;go_enter Tryz.func40,Tryz.ntmps40;go_upto_region 4 with(first|((with_reducible refine aW (N:=27) rfl ?_);refine bE (g:=x.bT) (off:=k*2) (t:=77) (cs:=cs) (seg:=[.slice A0 th.1.length c0,.slice A1 th.2.length c1]) rfl rfl (by rfl) HCS.out.1 HSEG.out Tryz.underlying77 rfl dm ?_)|(go_at_call 72;refine HW.out.mono ?_;rintro e w3 ⟨v1,v2,rfl,hn3⟩;have HN3:=Y hn3;clear hn3)|((with_reducible refine bg (t:=77) (p:=7) rfl ?_);refine aG rfl (ty:=77) rfl rfl (g:=w3.heap.size) (off:=0) (cs:=[.slice none 0 0,.slice none 0 0]) (vs:=#[v1,v2]) rfl rfl (aK _ _) (by show 2<=2;decide) dm (by obtain⟨_,N,_,n1,n2⟩:=HN3.out;simp[n1.one,n2.one]) ?_;intro w5 hh5 hs5;have HH5:=Y (show Holds w5 w3.heap.size 77 [v1,v2]from hh5);have HS5:=Y hs5;clear hh5 hs5))
  have hal:=ae (Below.refl w3.heap.size w3) (.cells #[.slice none 0 0,.slice none 0 0] 77);have hb5:Below w3.heap.size w3 w5:=HS5.out.below hal (Nat.le_refl _);have hB5:Below w.heap.size w w5:=ag HN3.out.1 HN3.out.1.size hb5;have HG5:=Y (HG.out.below hB5);have HB5:=Y hB5;obtain⟨_,N,n0,n1,n2⟩:=HN3.out;have HR:=Y (And.intro (fun q (hq:N q)=>(⟨(n0 q hq).1,Nat.lt_of_lt_of_le (n0 q hq).2 hb5.size⟩:w.heap.size<=q/\q<w5.heap.size)) (And.intro (n1.below hb5) (n2.below hb5)))
  have HO:=Y (And.intro n1.one n2.one);have HC5:=Y (HCS.out.1.below hB5);clear hal hb5 hB5 n0 n1 n2 HN3 HS5 HW HSEG x0;refine jZ 7 40 (V40 g x.bT M.T.length x.cT k v1 v2) (by kernel_rfl) (by rfl) (by kernel_rfl) (fun i v w1 w2 h hb=>vV _ _ _ _ _ _ _ i v w1 w2 h) ?st ?en
  case st=>
   refine Steps.cons (fun a w1 fr hb hd K hK=>?_) ?_
   . exact af (aC rfl ((fr 0 (by kernel_rfl)).trans rfl)) (hK _ _ zc rfl)
   refine Steps.cons (fun a w1 fr hb hd K hK=>?_) ?_
   . exact af (bZ rfl (hd 0 32 (by kernel_rfl))) (hK _ _ zc rfl)
   refine Steps.cons (fun a w1 fr hb hd K hK=>?_) ?_
   . exact af (iE (i:=0) (by decide) rfl (hd 1 33 (by kernel_rfl))) (hK _ _ zc rfl)
   refine Steps.cons (fun a w1 fr hb hd K hK=>?_) ?_
   . exact af (jd rfl (hd 2 34 (by kernel_rfl)) (((HG5.out.hg.below hb).cell 0).trans rfl)) (hK _ _ zc rfl)
   refine Steps.cons (fun a w1 fr hb hd K hK=>?_) ?_
   . exact af (aC rfl ((fr 1 (by kernel_rfl)).trans rfl)) (hK _ _ zc rfl)
   refine Steps.cons (fun a w1 fr hb hd K hK=>?_) ?_
   . exact af (oK rfl ((fr 7 (by kernel_rfl)).trans rfl) (HH5.out.below hb)) (hK _ _ zc rfl)
   refine Steps.cons (fun a w1 fr hb hd K hK=>?_) ?_
   . exact af (kr rfl (hd 3 35 (by kernel_rfl)) (hd 4 36 (by kernel_rfl)) HK.out.1) (hK _ _ zc rfl)
   exact Steps.nil
  case en=>
   intro vs w6 hb hv;have e5:vs 5=.agg #[v1,v2]:=hv 5 37 (by decide) (by kernel_rfl)
   have e6:vs 6=.pointer (some ⟨x.bT,k*2,none⟩):=hv 6 38 (by decide) (by kernel_rfl)
   simp only[List.take_succ_cons,List.take_zero,List.drop_succ_cons,List.drop_zero,bA,Act.put,zj,zr,ya,e5,e6];have HB6:=Y hb;have HC6:=Y (HC5.out.below hb);clear hv hb e5 e6;go_wp2_with ((with_reducible refine bg (t:=77) (p:=38) rfl ?_);refine aG rfl (ty:=77) rfl rfl (g:=x.bT) (off:=k*2) (vs:=#[v1,v2]) rfl rfl HC6.out HLC.out dm (by simp[HO.out.1,HO.out.2]) ?_;intro w9 hh9 hs9;have HH9:=Y hh9;have HS9:=Y hs9;clear hh9 hs9)
   go_ret
   refine⟨rfl,?_⟩;have hG6:=HG5.out.below HB6.out;refine⟨_,_,hG6.setT (cs':=[]) (M':=M') (k:=k) (p':=(v1,v2)) (t':=th') (N:=N) HK.out.1 HC6.out HCS.out.2 HS9.out HH9.out (fun q hq=>⟨Nat.lt_of_lt_of_le (HR.out.1 q hq).2 HB6.out.size,fun hf=>?_⟩) (HR.out.2.1.below HB6.out) (HR.out.2.2.below HB6.out) HP.out.1 HP.out.2.1 HP.out.2.2.1 HP.out.2.2.2.1 HP.out.2.2.2.2,?_,fun q hq=>?_⟩
   . have:=HG.out.lt q hf;have:=(HR.out.1 q hq).1;omega
   . exact((bX F HB5.out).trans (bX F HB6.out) (fun q _ e=>e)).trans (bR HS9.out) (fun q _ e=>by rw[e];exact HG.out.fp.2.1)
   . exact hq.elim .inl (fun e=>.inr (HR.out.1 q e).1)
theorem Eu (h:GR F w g x M)(t i:Int):
 Calls Tryz.prog 41 #[.pointer (some ⟨g,0,none⟩),.int .i64 t,.int .i64 i] w fun e w'=>e=.returned (.int .i64 (je M t i).2.2)/\GRS F w g (je M t i).1 w':=by
 have HG:=Y h;have x0:=h.x0;cases ht:atI M.T t with
 |none=>
  rw[show je M t i=(M,0,2) by unfold je;rw[ht]]
  have hn:=gY ht
  by_cases h0:t<0
  . have q1:decide (t<0)=true:=yb h0;clear h ht hn h0;go_enter Tryz.func41,Tryz.ntmps41;go_wp2_with fail
    go_ret
    exact⟨rfl,GRS.same HG.out⟩
  . have q1:decide (t<0)=false:=yd h0;have q2:decide (t>=(M.T.length:Int))=true:=yb (by omega)
    have q2':decide ((M.T.length:Int)<=t)=true:=yb (by omega)
    clear h ht hn h0;go_enter Tryz.func41,Tryz.ntmps41;go_wp2_with fail
    go_ret
    exact⟨rfl,GRS.same HG.out⟩
 |some th=>
  obtain⟨k,rfl,hk,hlt⟩:=dC ht;obtain⟨p,A0,A1,c0,c1,hp,rfl,_,_,r1,r2,hok⟩:=h.thr hk;obtain⟨cs,hcs,hat⟩:=h.hT;obtain⟨p1,p2,p3,p4,p5,p6⟩:=pop_T hk i;rw[p5];have HCS:=Y (And.intro hcs hat);have HK:=Y (And.intro hlt (hat k _ hp));have HP:=Y (And.intro p1 (And.intro p2 (And.intro p3 (And.intro p4 (p6 h.wf)))));have HW:=Y (r73 (I:=x.I) A0 th.1.length c0 A1 th.2.length c1 th r1 r2 hok.s8 hok.k i);have HSEG:=Y (zJ (hat k _ hp).1 (hat k _ hp).2)
  have HLC:=Y (show k*2+2<=cs.length by
   have:=(List.getElem?_eq_some_iff.1 (hat k _ hp).2).1
   omega)
  have q1:decide ((k:Int)<0)=false:=yd (by omega)
  have q2:decide ((k:Int)>=(M.T.length:Int))=false:=yd (by omega)
  have q2':decide ((M.T.length:Int)<=(k:Int))=false:=yd (by omega)
  have q2'':decide (M.T.length<=k)=false:=yd (by omega)
  have q3:(0:Int)<=(k:Int):=by omega
  have q4:(k:Int)<(M.T.length:Int):=by omega
  generalize (iI th i).2=code at HW ⊢;generalize (iI th i).1=th' at HW HP;generalize (je M (k:Int) i).1=M' at HP ⊢;clear ht hk hp r1 r2 hok h hlt hcs hat p1 p2 p3 p4 p5 p6;go_enter Tryz.func41,Tryz.ntmps41;go_upto_region 4 with(first|((with_reducible refine aW (N:=27) rfl ?_);refine bE (g:=x.bT) (off:=k*2) (t:=77) (cs:=cs) (seg:=[.slice A0 th.1.length c0,.slice A1 th.2.length c1]) rfl rfl (by rfl) HCS.out.1 HSEG.out Tryz.underlying77 rfl dm ?_)|(go_at_call 73;refine HW.out.mono ?_;rintro e w3 ⟨v1,v2,rfl,hn3⟩;have HN3:=Y hn3;clear hn3)|((with_reducible refine bg (t:=77) (p:=7) rfl ?_);refine aG rfl (ty:=77) rfl rfl (g:=w3.heap.size) (off:=0) (cs:=[.slice none 0 0,.slice none 0 0]) (vs:=#[v1,v2]) rfl rfl (aK _ _) (by show 2<=2;decide) dm (by obtain⟨_,N,_,n1,n2⟩:=HN3.out;simp[n1.one,n2.one]) ?_;intro w5 hh5 hs5;have HH5:=Y (show Holds w5 w3.heap.size 77 [v1,v2]from hh5);have HS5:=Y hs5;clear hh5 hs5))
  have hal:=ae (Below.refl w3.heap.size w3) (.cells #[.slice none 0 0,.slice none 0 0] 77);have hb5:Below w3.heap.size w3 w5:=HS5.out.below hal (Nat.le_refl _);have hB5:Below w.heap.size w w5:=ag HN3.out.1 HN3.out.1.size hb5;have HG5:=Y (HG.out.below hB5);have HB5:=Y hB5;obtain⟨_,N,n0,n1,n2⟩:=HN3.out;have HR:=Y (And.intro (fun q (hq:N q)=>(⟨(n0 q hq).1,Nat.lt_of_lt_of_le (n0 q hq).2 hb5.size⟩:w.heap.size<=q/\q<w5.heap.size)) (And.intro (n1.below hb5) (n2.below hb5)))
  have HO:=Y (And.intro n1.one n2.one);have HC5:=Y (HCS.out.1.below hB5);clear hal hb5 hB5 n0 n1 n2 HN3 HS5 HW HSEG x0;refine jZ 7 40 (V40 g x.bT M.T.length x.cT k v1 v2) (by kernel_rfl) (by rfl) (by kernel_rfl) (fun i v w1 w2 h hb=>vV _ _ _ _ _ _ _ i v w1 w2 h) ?st ?en
  case st=>
   refine Steps.cons (fun a w1 fr hb hd K hK=>?_) ?_
   . exact af (aC rfl ((fr 0 (by kernel_rfl)).trans rfl)) (hK _ _ zc rfl)
   refine Steps.cons (fun a w1 fr hb hd K hK=>?_) ?_
   . exact af (bZ rfl (hd 0 32 (by kernel_rfl))) (hK _ _ zc rfl)
   refine Steps.cons (fun a w1 fr hb hd K hK=>?_) ?_
   . exact af (iE (i:=0) (by decide) rfl (hd 1 33 (by kernel_rfl))) (hK _ _ zc rfl)
   refine Steps.cons (fun a w1 fr hb hd K hK=>?_) ?_
   . exact af (jd rfl (hd 2 34 (by kernel_rfl)) (((HG5.out.hg.below hb).cell 0).trans rfl)) (hK _ _ zc rfl)
   refine Steps.cons (fun a w1 fr hb hd K hK=>?_) ?_
   . exact af (aC rfl ((fr 1 (by kernel_rfl)).trans rfl)) (hK _ _ zc rfl)
   refine Steps.cons (fun a w1 fr hb hd K hK=>?_) ?_
   . exact af (oK rfl ((fr 7 (by kernel_rfl)).trans rfl) (HH5.out.below hb)) (hK _ _ zc rfl)
   refine Steps.cons (fun a w1 fr hb hd K hK=>?_) ?_
   . exact af (kr rfl (hd 3 35 (by kernel_rfl)) (hd 4 36 (by kernel_rfl)) HK.out.1) (hK _ _ zc rfl)
   exact Steps.nil
  case en=>
   intro vs w6 hb hv;have e5:vs 5=.agg #[v1,v2]:=hv 5 37 (by decide) (by kernel_rfl)
   have e6:vs 6=.pointer (some ⟨x.bT,k*2,none⟩):=hv 6 38 (by decide) (by kernel_rfl)
   simp only[List.take_succ_cons,List.take_zero,List.drop_succ_cons,List.drop_zero,bA,Act.put,zj,zr,ya,e5,e6];have HB6:=Y hb;have HC6:=Y (HC5.out.below hb);clear hv hb e5 e6;go_wp2_with ((with_reducible refine bg (t:=77) (p:=38) rfl ?_);refine aG rfl (ty:=77) rfl rfl (g:=x.bT) (off:=k*2) (vs:=#[v1,v2]) rfl rfl HC6.out HLC.out dm (by simp[HO.out.1,HO.out.2]) ?_;intro w9 hh9 hs9;have HH9:=Y hh9;have HS9:=Y hs9;clear hh9 hs9)
   go_ret
   refine⟨rfl,?_⟩;have hG6:=HG5.out.below HB6.out;refine⟨_,_,hG6.setT (cs':=[]) (M':=M') (k:=k) (p':=(v1,v2)) (t':=th') (N:=N) HK.out.1 HC6.out HCS.out.2 HS9.out HH9.out (fun q hq=>⟨Nat.lt_of_lt_of_le (HR.out.1 q hq).2 HB6.out.size,fun hf=>?_⟩) (HR.out.2.1.below HB6.out) (HR.out.2.2.below HB6.out) HP.out.1 HP.out.2.1 HP.out.2.2.1 HP.out.2.2.2.1 HP.out.2.2.2.2,?_,fun q hq=>?_⟩
   . have:=HG.out.lt q hf;have:=(HR.out.1 q hq).1;omega
   . exact((bX F HB5.out).trans (bX F HB6.out) (fun q _ e=>e)).trans (bR HS9.out) (fun q _ e=>by rw[e];exact HG.out.fp.2.1)
   . exact hq.elim .inl (fun e=>.inr (HR.out.1 q e).1)
end
end
section
abbrev pr2 (b d r s:Nat):Value×Value:=(.slice (some ⟨b,0,none⟩) r r,.slice (some ⟨d,0,none⟩) s s)
theorem gP.grown {t:Nat}{k:IntKind}{B n b:Nat}{w w':World}{o:Option Nat}(h:gP t k B n b w)(hg:w.grownBy w' o)(ho:∀ q,o=some q->q<B):gP t k B n b w':=⟨h.1,aY h.2 hg (fun e=>by have:=ho b e.symm;have:=h.1;omega)⟩
theorem GR.addOb {F:Nat->Prop}{W w1:World}{g:Nat}{x:Rw}{M:Gm}(h:GR F W g x M)(hl:M.O.length<1000){r s:Nat}(hrs:r+s<=95){b d:Nat}{v:Value}(hg:W.grownBy w1 x.vO.ownBlock)(hr:Kd.R bn 97 w1 x.B (fun _=>True) v (x.ops++[pr2 b d r s]))
 (hat:v.ownBlock=x.vO.ownBlock\/∃ q,v.ownBlock=some q/\W.heap.size<=q) (h1:gP 3 .i64 W.heap.size r b w1) (h2:gP 31 .u64 W.heap.size s d w1):
 GR (fun q=>F q\/q=b\/q=d\/v.ownBlock=some q) (w1.setCell ⟨g,2,none⟩ v) g { x with vO:=v,ops:=x.ops++[pr2 b d r s],obs:=x.obs++[⟨0,b,d⟩] } (lF M r s)/\Kp F W (w1.setCell ⟨g,2,none⟩ v)/\∀ q,(F q\/q=b\/q=d\/v.ownBlock=some q)->F q\/W.heap.size<=q:=by
 obtain⟨f1,f2,f3,f4,f5⟩:=h.fp;have hh1:∀{q t:Nat} {cs:List Value},t≠97->Holds W q t cs->Holds w1 q t cs:=fun ht hq=>aY hq hg (fun e=>qc h ht hq _ e.symm rfl)
 have hg1:=hh1 (by decide) h.hg
 have hs:=bu w1 g 2 v;have hh2:∀{q t:Nat} {cs:List Value},t≠76->Holds w1 q t cs->Holds (w1.setCell ⟨g,2,none⟩ v) q t cs:=fun ht hq=>hs.holds hq (eH hq hg1 ht)
 have hh:∀{q t:Nat} {cs:List Value},t≠97->t≠76->Holds W q t cs->Holds (w1.setCell ⟨g,2,none⟩ v) q t cs:=fun ht ht2 hq=>hh2 ht2 (hh1 ht hq)
 have hlO:(lF M r s).O.length=M.O.length+1:=by show(M.O++[_]).length=_;simp
 have hnew:∀ q,v.ownBlock=some q->F q\/W.heap.size<=q:=fun q hq=>by
  rcases hat with e|⟨q2,e,hq2⟩
  . exact .inl (h.own q (by rw[<-e];exact hq))
  . rw[hq]at e;injection e with e
    exact .inr (by omega)
 have hflt:∀ q,F q->q<W.heap.size:=h.lt;have hob:∀ o∈x.obs,o.r<W.heap.size/\o.d<W.heap.size:=fun o ho=>⟨hflt _ (f5 o ho).1,hflt _ (f5 o ho).2⟩
 refine⟨⟨?_,?_,hh (by decide) (by decide) h.hG,dW hr hg1 (fun q hq=>by rcases List.mem_cons.1 hq with rfl|hq;decide;cases hq) hs,?_,fun q hq=>.inr (.inr (.inr hq)),h.lT,?_,?_,fun i p t hp ht=>?_,fun i p o t hp ho ht=>?_,⟨.inl f1,.inl f2,.inl f3,fun q hq=>.inl (f4 q hq),fun o ho=>?_⟩,?_,?_,⟨h.ni.1,fun o ho=>?_⟩,h.wf.yj hrs hl,fun q hq=>?_⟩,?_,fun q hq=>?_⟩
 . exact bB hg1 (k:=2) (by show 2<3;decide) v
 . obtain⟨cs,hc,hk⟩:=h.hT;exact⟨cs,hh (by decide) (by decide) hc,hk⟩
 . rw[hs.size];exact Nat.le_trans h.hB hg.size
 . show(x.ops++[_]).length=_
   rw[hlO,List.length_append,List.length_singleton,h.lP]
 . show(x.obs++[_]).length=_
   rw[hlO,List.length_append,List.length_singleton,h.lO]
 . obtain⟨k1,k2⟩:=h.th i p t hp ht;exact⟨k1.keep (fun q cs _=>hh (by decide) (by decide)),k2.keep (fun q cs _=>hh (by decide) (by decide))⟩
 . have ht':(M.O++[(List.replicate r 0,List.replicate s 0)])[i]? =some t:=ht;have hp2:(x.ops++[pr2 b d r s])[i]? =some p:=hp;have ho2:(x.obs++[(⟨0,b,d⟩:Ob)])[i]? =some o:=ho
   by_cases hi:i<M.O.length
   . rw[List.getElem?_append_left hi]at ht';rw[List.getElem?_append_left (by rw[h.lP];exact hi)]at hp2
     rw[List.getElem?_append_left (by rw[h.lO];exact hi)]at ho2
     obtain⟨k1,k2,k3⟩:=h.ob i p o t hp2 ho2 ht';exact⟨k1,hh (by decide) (by decide) k2,hh (by decide) (by decide) k3⟩
   . have hi2:i=M.O.length:=by
      have:=(List.getElem?_eq_some_iff.1 ht').1;rw[List.length_append,List.length_singleton]at this;omega
     subst hi2;have e1:(List.replicate r 0,List.replicate s 0)=t:=by simpa using ht'
     have e2:pr2 b d r s=p:=by rw[<-h.lP]at hp2;simpa using hp2
     have e3:(⟨0,b,d⟩:Ob)=o:=by rw[<-h.lO]at ho2;simpa using ho2
     subst e1 e2 e3;refine⟨by rw[List.length_replicate,List.length_replicate],?_,?_⟩
     . show Holds _ _ _ (List.map _ (List.replicate _ _));rw[List.map_replicate];exact hh2 (by decide) h1.2
     . show Holds _ _ _ (List.map _ (List.replicate _ _));rw[List.map_replicate];exact hh2 (by decide) h2.2
 . rcases List.mem_append.1 ho with ho|ho
   . exact⟨.inl (f5 o ho).1,.inl (f5 o ho).2⟩
   . obtain rfl:=List.mem_singleton.1 ho;exact⟨.inr (.inl rfl),.inr (.inr (.inl rfl))⟩
 . show(x.bG :: (x.obs++[(⟨0,b,d⟩:Ob)]).map Ob.r).Nodup
   rw[List.map_append,<-List.cons_append,List.nodup_append];refine⟨h.nr,by simp,fun a ha b2 hb2 e=>?_⟩
   have hb3:b2=b:=by simpa using hb2
   have:=h1.1
   rcases List.mem_cons.1 ha with rfl|ha
   . have:=hflt _ f3;omega
   . obtain⟨o,ho,rfl⟩:=List.mem_map.1 ha;have:=(hob o ho).1;omega
 . show((x.obs++[(⟨0,b,d⟩:Ob)]).map Ob.d).Nodup
   rw[List.map_append,List.nodup_append];refine⟨h.nd,by simp,fun a ha b2 hb2 e=>?_⟩
   have hb3:b2=d:=by simpa using hb2
   have:=h2.1;obtain⟨o,ho,rfl⟩:=List.mem_map.1 ha;have:=(hob o ho).2;omega
 . rcases List.mem_append.1 ho with ho|ho
   . exact h.ni.2 o ho
   . obtain rfl:=List.mem_singleton.1 ho;intro hI;have:=hflt _ (f4 _ hI);have:=h1.1;show False
     have e:(⟨0,b,d⟩:Ob).r=b:=rfl;omega
 . rw[hs.size]
   rcases hq with hq|rfl|rfl|hq
   . exact Nat.lt_of_lt_of_le (hflt q hq) hg.size
   . exact h1.2.lt
   . exact h2.2.lt
   . exact Kd.fT hr q hq
 . exact((Kp.jQ hg).mono (fun q _ e=>h.own q e.symm)).trans (bR hs) (fun q _ e=>by rw[e];exact f1)
 . rcases hq with hq|rfl|rfl|hq
   . exact .inl hq
   . exact .inr h1.1
   . exact .inr h2.1
   . exact hnew q hq
section
variable {o:Oper} {a:Act} {W:World}
theorem yD {x y:Operand}{A0 A1:Option Addr}{n0 c0 n1 c1:Nat}(ho:o.op=.build 97 #[(0,x),(1,y)])(hx:a.eval x=.slice A0 n0 c0)(hy:a.eval y=.slice A1 n1 c1):(execOp a.eval o).run Tryz.prog W=.ok (.value (.agg #[.slice A0 n0 c0,.slice A1 n1 c1])) W:=by
 have hu:=Tryz.underlying97;generalize a.eval=E at hx hy ⊢;unfold execOp;simp only[ho]
 go_simp
theorem Ak {x:Operand}{A0 A1:Option Addr}{n0 c0 n1 c1:Nat}(ho:o.op=.buildSlice 74 1 #[(0,x)])(hx:a.eval x=.agg #[.slice A0 n0 c0,.slice A1 n1 c1]):
 (execOp a.eval o).run Tryz.prog W=.ok (.value (.slice (some ⟨W.heap.size,0,none⟩) 1 1)) (W.alloc (.cells #[.slice A0 n0 c0,.slice A1 n1 c1] 97)):=by
 generalize a.eval=E at hx ⊢;unfold execOp;simp only[ho]
 go_simp
theorem info97r:(Tryz.prog.info? 97).map (fun i=>(i.zero,i.size,i.bytes))=some (some (.agg #[.slice none 0 0,.slice none 0 0]),bn.sz,48):=by kernel_rfl
end
def AL (B r s:Nat)(v:Value)(w:World):Prop:=∃ A b d,v=.slice (some ⟨A,0,none⟩) 1 1/\B<=A/\Holds w A 97 [(pr2 b d r s).1,(pr2 b d r s).2]/\gP 3 .i64 B r b w/\gP 31 .u64 B s d w
def AP (B B0:Nat)(vO:Value)(ops:List (Value×Value))(r s:Nat)(v:Value)(w:World):Prop:=∃ b d,Kd.R bn 97 w B0 (fun _=>True) v (ops++[pr2 b d r s])/\(v.ownBlock=vO.ownBlock\/∃ q,v.ownBlock=some q/\B<=q)/\gP 3 .i64 B r b w/\gP 31 .u64 B s d w
def VR31 (B B0 g:Nat)(vO:Value)(ops:List (Value×Value))(r s:Nat):Nat->Value->World->Prop
 |0,v,_=>v=.pointer (some ⟨g,0,none⟩)
 |1,v,_=>v=.pointer (some ⟨g,0,none⟩)
 |2,v,_=>v=.pointer (some ⟨g,0,none⟩)
 |3,v,_=>v=.pointer (some ⟨g,2,none⟩)
 |4,v,_=>v=vO
 |5,v,_=>v=.int .i64 (r:Int)
 |6,v,w=>A6 3 .i64 B r v w
 |7,v,_=>v=.int .i64 ((r:Int)+(s:Int))
 |8,v,_=>v=.int .i64 (r:Int)
 |9,v,_=>v=.int .i64 (s:Int)
 |10,v,w=>A6 31 .u64 B s v w
 |11,v,w=>A11 B r s v w
 |12,v,w=>AL B r s v w
 |13,v,w=>AP B B0 vO ops r s v w
 |_,_,_=>True
def GrA (B:Nat)(own:Option Nat)(k:Nat)(w w':World):Prop:=(k≠13->Below w.heap.size w w')/\(k=13->w.grownBy w' own)
theorem GrA.grown {B:Nat}{own:Option Nat}{k:Nat}{w w':World}(h:GrA B own k w w'):w.grownBy w' own:=by
 by_cases e:k=13
 . exact h.2 e
 . exact cK (h.1 e) own
theorem Bh (B B0 g:Nat)(vO:Value)(ops:List (Value×Value))(r s i j:Nat)(v:Value)(w w':World)(hij:i≠j)(ho:∀ q,vO.ownBlock=some q->q<B)(h:VR31 B B0 g vO ops r s j v w)(hG:GrA B vO.ownBlock i w w'):VR31 B B0 g vO ops r s j v w':=by
 have hg:=hG.grown;unfold VR31 at h ⊢
 split at h
 case h_7=>obtain⟨b,h1,h2⟩:=h;exact⟨b,h1,h2.grown hg ho⟩
 case h_11=>obtain⟨b,h1,h2⟩:=h;exact⟨b,h1,h2.grown hg ho⟩
 case h_12=>obtain⟨b,d,h1,h2,h3⟩:=h;exact⟨b,d,h1,h2.grown hg ho,h3.grown hg ho⟩
 case h_13=>obtain⟨A,b,d,h1,h0,h2,h3,h4⟩:=h;exact⟨A,b,d,h1,h0,aY h2 hg (fun e=>by have:=ho A e.symm;omega),h3.grown hg ho,h4.grown hg ho⟩
 case h_14=>
  have hb:=hG.1 (fun e=>hij e)
  obtain⟨b,d,h1,h2,h3,h4⟩:=h;exact⟨b,d,Kd.aX h1 hb,h2,h3.below hb,h4.below hb⟩
 all_goals first|exact h|trivial
section
variable {F:Nat→Prop} {w:World} {g:Nat} {x:Rw} {M:Gm}
theorem Bg (h:GR F w g x M)(hO:M.O.length<1000)(t d r0 s0:Int):
 Calls Tryz.prog 31 #[.pointer (some ⟨g,0,none⟩),.int .i64 t,.int .i64 d,.int .i64 r0,.int .i64 s0] w fun e w'=>e=.returned (.tuple #[.int .i64 (bM M t d r0 s0).2.1,.int .i64 (bM M t d r0 s0).2.2])/\GRS F w g (bM M t d r0 s0).1 w':=by
 have HG:=Y h;cases hs:bV M t d with
 |none=>
  rw[show bM M t d r0 s0=(M,0,2) by unfold bM;rw[hs]]
  have HA:=Y (jS h t d hs);clear h hs hO;go_enter Tryz.func31,Tryz.ntmps31;go_wp2_with (go_at_call 42;refine HA.out.mono ?_;rintro e w2 ⟨rfl,hw2⟩;subst w2)
  go_ret2
  exact⟨rfl,GRS.same HG.out⟩
 |some y=>
  have HA:=Y (jG h t d y hs)
  by_cases hc:0<=r0/\r0<=s0/\s0<=95
  case neg=>
   rw[show bM M t d r0 s0=(M,0,2) by unfold bM;rw[hs];simp only[];rw[if_neg hc]]
   clear h hs hO
   by_cases c1:0<=r0
   . have q1:decide (r0<0)=false:=yd (by omega)
     by_cases c2:r0<=s0
     . have q2:decide (r0>s0)=false:=yd (by omega)
       have q2':decide (s0<r0)=false:=yd (by omega)
       have q3:decide (s0>95)=true:=yb (by omega)
       have q3':decide (95<s0)=true:=yb (by omega)
       clear hc c1 c2;go_enter Tryz.func31,Tryz.ntmps31;go_wp2_with (go_at_call 42;refine HA.out.mono ?_;rintro e w2 ⟨rfl,hw2⟩;subst w2)
       go_ret2
       exact⟨rfl,GRS.same HG.out⟩
     . have q2:decide (r0>s0)=true:=yb (by omega)
       have q2':decide (s0<r0)=true:=yb (by omega)
       clear hc c1 c2;go_enter Tryz.func31,Tryz.ntmps31;go_wp2_with (go_at_call 42;refine HA.out.mono ?_;rintro e w2 ⟨rfl,hw2⟩;subst w2)
       go_ret2
       exact⟨rfl,GRS.same HG.out⟩
   . have q1:decide (r0<0)=true:=yb (by omega)
     clear hc c1;go_enter Tryz.func31,Tryz.ntmps31;go_wp2_with (go_at_call 42;refine HA.out.mono ?_;rintro e w2 ⟨rfl,hw2⟩;subst w2)
     go_ret2
     exact⟨rfl,GRS.same HG.out⟩
  case pos=>
   obtain⟨r,s,rfl,rfl⟩:∃ r s:Nat,r0=(r:Int)/\s0=(r:Int)+(s:Int):=⟨r0.toNat,(s0 - r0).toNat,by omega,by omega⟩
   rw[show bM M t d (r:Int) ((r:Int)+(s:Int))=(iA (lF M r s) t d ((M.O.length:Int)+1),(M.O.length:Int)+1,0) by
    unfold bM;rw[hs];simp only[]
    rw[if_pos hc,show((r:Int)).toNat=r from rfl,show((r:Int)+(s:Int) - (r:Int)).toNat=s by omega]]
   have hrs:r+s<=95:=by omega
   have HRS:=Y (And.intro hO hrs);have HLP:=Y h.lP;have HOW:=Y (fun q (hq:x.vO.ownBlock=some q)=>h.lt q (h.own q hq))
   have q1:decide ((r:Int)<0)=false:=yd (by omega)
   have q2:decide ((r:Int)>(r:Int)+(s:Int))=false:=yd (by omega)
   have q2':decide ((r:Int)+(s:Int)<(r:Int))=false:=yd (by omega)
   have q3:decide ((r:Int)+(s:Int)>95)=false:=yd (by omega)
   have q3':decide (95<(r:Int)+(s:Int))=false:=yd (by omega)
   have HS:=Y hs;clear h hs hc;go_enter Tryz.func31,Tryz.ntmps31;go_upto_region 6 with(go_at_call 42;refine HA.out.mono ?_;rintro e w2 ⟨rfl,hw2⟩;subst w2)
   refine mH 14 69 [] (VR31 w.heap.size x.B g x.vO x.ops r s) (fun L w1=>w.grownBy w1 x.vO.ownBlock/\(L.getD 13 false=false->Below w.heap.size w w1)) (GrA w.heap.size x.vO.ownBlock) (by kernel_rfl) (by rfl) (by kernel_rfl) ⟨cK (bv zc) _,fun _=>bv zc⟩ ?jj (fun i j v w1 w2 hi hij _ _ h hG=>Bh _ _ _ _ _ _ _ i j v w1 w2 hij HOW.out h hG) ?st ?en
   case jj=>
    intro k1 L1 w1 w2 hk1 hL hk0 hJ hG;refine⟨hJ.1.trans hG.grown,fun h13=>?_⟩
    by_cases e:k1=13
    . subst e;rw[Array.getD_eq_getD_getElem?,Array.getElem?_setIfInBounds_self_of_lt (by rw[hL];exact Nat.lt_of_lt_of_le hk1 (by decide))]at h13
      cases h13
    . rw[getD_set_ne false e]at h13;exact ag (hJ.2 h13) (hJ.2 h13).size (hG.1 e)
   case st=>
    refine au.cons (fun a w1 L fr hL hj hdf hd K hK=>?_) ?_
    . exact af (aC rfl ((fr 0 (by kernel_rfl)).trans rfl)) (hK _ _ ⟨fun _=>zc,fun h=>(by cases h)⟩ rfl)
    refine au.cons (fun a w1 L fr hL hj hdf hd K hK=>?_) ?_
    . exact af (aC rfl ((fr 0 (by kernel_rfl)).trans rfl)) (hK _ _ ⟨fun _=>zc,fun h=>(by cases h)⟩ rfl)
    refine au.cons (fun a w1 L fr hL hj hdf hd K hK=>?_) ?_
    . exact af (bZ rfl (hd 1 40 (by kernel_rfl))) (hK _ _ ⟨fun _=>zc,fun h=>(by cases h)⟩ rfl)
    refine au.cons (fun a w1 L fr hL hj hdf hd K hK=>?_) ?_
    . exact af (iE (i:=2) (by decide) rfl (hd 2 41 (by kernel_rfl))) (hK _ _ ⟨fun _=>zc,fun h=>(by cases h)⟩ rfl)
    refine au.cons (fun a w1 L fr hL hj hdf hd K hK=>?_) ?_
    . exact af (oJ rfl (hd 3 42 (by kernel_rfl)) (((aY HG.out.hg hj.1 (fun e=>qc HG.out (by decide) HG.out.hg _ e.symm rfl)).cell 2).trans rfl)) (hK _ _ ⟨fun _=>zc,fun h=>(by cases h)⟩ rfl)
    refine au.cons (fun a w1 L fr hL hj hdf hd K hK=>?_) ?_
    . exact af (aC rfl ((fr 3 (by kernel_rfl)).trans rfl)) (hK _ _ ⟨fun _=>zc,fun h=>(by cases h)⟩ rfl)
    refine au.cons (fun a w1 L fr hL hj hdf hd K hK=>?_) ?_
    . have e1:a.eval (.tmp 44)=.int .i64 (r:Int):=(hd 5 44 (by kernel_rfl))
      exact af (jf (by omega) rfl e1 e1) (hK _ _ ⟨fun _=>ae zc _,fun h=>(by cases h)⟩ (show A6 _ _ _ _ _ _ from⟨w1.heap.size,rfl,hj.1.size,by have h:=aK w1 (.cells (Array.replicate r (.int .i64 0)) 3);rw[<-List.toArray_replicate]at h ⊢;exact h⟩))
    refine au.cons (fun a w1 L fr hL hj hdf hd K hK=>?_) ?_
    . exact af (aC rfl ((fr 4 (by kernel_rfl)).trans rfl)) (hK _ _ ⟨fun _=>zc,fun h=>(by cases h)⟩ rfl)
    refine au.cons (fun a w1 L fr hL hj hdf hd K hK=>?_) ?_
    . exact af (aC rfl ((fr 3 (by kernel_rfl)).trans rfl)) (hK _ _ ⟨fun _=>zc,fun h=>(by cases h)⟩ rfl)
    refine au.cons (fun a w1 L fr hL hj hdf hd K hK=>?_) ?_
    . have e1:a.eval (.tmp 46)=.int .i64 ((r:Int)+(s:Int)):=(hd 7 46 (by kernel_rfl))
      have e2:a.eval (.tmp 47)=.int .i64 (r:Int):=(hd 8 47 (by kernel_rfl))
      exact af (kR (by omega) rfl e1 e2) (hK _ _ ⟨fun _=>zc,fun h=>(by cases h)⟩ (show _=Value.int .i64 (s:Int) by rw[show(r:Int)+(s:Int) - (r:Int)=(s:Int) by omega]))
    refine au.cons (fun a w1 L fr hL hj hdf hd K hK=>?_) ?_
    . have e1:a.eval (.tmp 48)=.int .i64 (s:Int):=(hd 9 48 (by kernel_rfl))
      exact af (rW (by omega) rfl e1 e1) (hK _ _ ⟨fun _=>ae zc _,fun h=>(by cases h)⟩ (show A6 _ _ _ _ _ _ from⟨w1.heap.size,rfl,hj.1.size,by have h:=aK w1 (.cells (Array.replicate s (.int .u64 0)) 31);rw[<-List.toArray_replicate]at h ⊢;exact h⟩))
    refine au.cons (fun a w1 L fr hL hj hdf hd K hK=>?_) ?_
    . obtain⟨b6,e6,h6⟩:A6 3 .i64 w.heap.size r (a.eval (.tmp 45)) w1:=(hd 6 45 (by kernel_rfl))
      obtain⟨b10,e10,h10⟩:A6 31 .u64 w.heap.size s (a.eval (.tmp 49)) w1:=(hd 10 49 (by kernel_rfl))
      exact af (yD rfl e6 e10) (hK _ _ ⟨fun _=>zc,fun h=>(by cases h)⟩ (show A11 _ _ _ _ _ from⟨_,_,rfl,h6,h10⟩))
    refine au.cons (fun a w1 L fr hL hj hdf hd K hK=>?_) ?_
    . obtain⟨b6,b10,e11,h6,h10⟩:A11 w.heap.size r s (a.eval (.tmp 50)) w1:=(hd 11 50 (by kernel_rfl))
      have hb2:=ae (Below.refl w1.heap.size w1) (.cells #[.slice (some ⟨b6,0,none⟩) r r,.slice (some ⟨b10,0,none⟩) s s] 97);exact af (Ak rfl e11) (hK _ _ ⟨fun _=>hb2,fun h=>(by cases h)⟩ (show AL _ _ _ _ _ from⟨w1.heap.size,b6,b10,rfl,hj.1.size,aK _ _,h6.below hb2,h10.below hb2⟩))
    refine au.cons (fun a w1 L fr hL hj hdf hd K hK=>?_) ?_
    . have e4:a.eval (.tmp 43)=x.vO:=(hd 4 43 (by kernel_rfl))
      obtain⟨A,b6,b10,e12,hA,hhA,h6,h10⟩:AL w.heap.size r s (a.eval (.tmp 51)) w1:=(hd 12 51 (by kernel_rfl))
      have hb:=hj.2 hL;have hrow:=Kd.aX HG.out.hO hb;have hc9:Kd.C bn w1 (some ⟨A,0,none⟩) 1 [pr2 b6 b10 r s]:=kX bn hhA (oz ⟨rfl,rfl,rfl⟩) (by simp)
      refine gQ bn (w0:=w1) x.B 74 97 (.agg #[.slice none 0 0,.slice none 0 0]) 48 rfl Tryz.underlying74 info97r rfl (by decide) (by decide) x.vO x.ops [pr2 b6 b10 r s] (some ⟨A,0,none⟩) 1 1 (fun _=>True) e4 e12 (fun _ _ _ _ h=>h) (fun _ _=>trivial) hrow hc9 zc (Nat.le_trans HG.out.hB hb.size) (by rw[HLP.out];omega) ?_
      intro v1 w2 hr1 hb1 hg1 hat;exact hK _ _ ⟨fun h=>absurd rfl h,fun _=>hg1⟩ (show AP _ _ _ _ _ _ _ _ from⟨b6,b10,hr1,hat.imp id (fun⟨q,e,hq⟩=>⟨q,e,Nat.le_trans hb.size hq⟩),h6.grown hg1 HOW.out,h10.grown hg1 HOW.out⟩)
    exact au.nil
   case en=>
    intro vs w6 L1 hJ hl hv;have e0:vs 0=.pointer (some ⟨g,0,none⟩):=hv 0 39 (by decide) (by kernel_rfl) (fun _ _ h=>by cases h)
    obtain⟨b,d2,hR,hat,hb6,hb10⟩:AP w.heap.size x.B x.vO x.ops r s (vs 13) w6:=hv 13 52 (by decide) (by kernel_rfl) (fun _ _ h=>by cases h)
    obtain⟨AO,cO,e13⟩:=Kd.aD hR;have hln:(x.ops++[pr2 b d2 r s]).length=M.O.length+1:=by rw[List.length_append,List.length_singleton,HLP.out]
    rw[hln]at e13;rw[e13]at hR hat;simp only[List.take_succ_cons,List.take_zero,List.drop_succ_cons,List.drop_zero,bA,Act.put,zj,zr,ya,e0,e13];have hg6:=aY HG.out.hg hJ.1 (fun e=>qc HG.out (by decide) HG.out.hg _ e.symm rfl)
    have y2:=(hg6.cell 2).trans rfl;have y3:=ak hg6 2;have HAO:=Y (HG.out.addOb HRS.out.1 HRS.out.2 hJ.1 hR hat hb6 hb10);clear hv hl hJ e0 hR hat hb6 hb10 e13 hln hg6;go_upto_region 7 with(fail)
    obtain⟨W7,hW7⟩:∃ W7,W7=w6.setCell ⟨g,2,none⟩ (.slice AO (M.O.length+1) cO):=⟨_,rfl⟩;rw[<-hW7]at HAO ⊢;clear hW7 y2 y3;have z2:W7.cell? ⟨g,2,none⟩=some (.slice AO (M.O.length+1) cO):=HAO.out.1.x2;have HC:=Y (r69 HAO.out.1 t d ((M.O.length:Int)+1) (by show(bV M t d).isSome=true;rw[HS.out];rfl) (by show 0<=(M.O.length:Int)+1/\(M.O.length:Int)+1<=((M.O++[_]).length:Int);rw[List.length_append,List.length_singleton];omega))
    have hcast:((M.O.length+1:Nat):Int)=(M.O.length:Int)+1:=by omega
    go_wp2_with (go_at_call 69;refine HC.out.mono ?_;rintro e w3 ⟨rfl,F3,x3,hg3,hk3,hf3⟩;have HG3:=Y hg3;have HK3:=Y hk3;have HF3:=Y hf3;obtain⟨A3,c3,e3⟩:=Kd.aD hg3.hO;have z3:w3.cell? ⟨g,2,none⟩=some (.slice A3 (M.O.length+1) c3):=hg3.x2.trans (by rw[e3,hg3.lP];show _=some (Value.slice A3 (M.O.length+1) c3);rw[show(iA (lF M r s) t d ((M.O.length:Int)+1)).O.length=M.O.length+1 from by show(M.O++[_]).length=_;simp]);clear hg3 hk3 hf3 e3)
    go_ret2
    refine⟨rfl,F3,x3,HG3.out,?_,fun q hq=>?_⟩
    . exact HAO.out.2.1.trans HK3.out (fun q hq e=>by
       rcases HAO.out.2.2 q e with h|h
       . exact h
       . omega)
    . rcases HF3.out q hq with h|h
      . exact HAO.out.2.2 q h
      . exact .inr (Nat.le_trans HAO.out.2.1.size h)
end
end
section
theorem info77r:(Tryz.prog.info? 77).map (fun i=>(i.zero,i.size,i.bytes))=some (some (.agg #[.slice none 0 0,.slice none 0 0]),bn.sz,48):=by kernel_rfl
theorem uJ {w:World}(n t:Nat)(v:Value):Holds (w.alloc (.cells (Array.replicate n v) t)) w.heap.size t (List.replicate n v):=by
 have h:=aK w (.cells (Array.replicate n v) t);rw[<-List.toArray_replicate]at h ⊢;exact h
theorem r18 (s:Nat)(w:World)(h8:s<=8):
 Calls Tryz.prog 18 #[.int .i64 (s:Int)] w fun e w'=>∃ b,e=.returned (.agg #[.slice (some ⟨b,0,none⟩) s s,.slice none 0 0])/\gP 3 .i64 w.heap.size s b w'/\Below w.heap.size w w':=by
 have HN:=Y (show s<=1000 by omega)
 have hu:=Tryz.underlying77;have h1:Holds (w.alloc (.cells #[.slice none 0 0,.slice none 0 0] 77)) w.heap.size 77 [.slice none 0 0,.slice none 0 0]:=aK _ _;have hb1:=ae (Below.refl w.heap.size w) (.cells #[.slice none 0 0,.slice none 0 0] 77);have hz:(w.alloc (.cells #[.slice none 0 0,.slice none 0 0] 77)).heap.size=w.heap.size+1:=by simp
 clear h8;go_enter Tryz.func18,Tryz.ntmps18;go_upto_region 1 with(fail)
 obtain⟨W1,hW1⟩:∃ W1,W1=w.alloc (.cells #[.slice none 0 0,.slice none 0 0] 77):=⟨_,rfl⟩;rw[<-hW1]at h1 hb1 hz ⊢;clear hW1;have hb2:=ae (Below.refl W1.heap.size W1) (.cells (Array.replicate s (.int .i64 0)) 3);have H1:=Y (h1.below hb2);have HB:=Y (And.intro hb1 hb2);have HR:=Y (uJ (w:=W1) s 3 (.int .i64 0));have HZ:=Y hz;clear h1 hb1 hb2 hz;go_wp2_with (first|((with_reducible refine aW (N:=4) rfl ?_);refine Kd.fA rfl (jf HN.out rfl rfl rfl) ?_)|((with_reducible refine bg (t:=77) (p:=2) rfl ?_);refine aG rfl (ty:=77) rfl rfl (g:=w.heap.size) (off:=0) (vs:=#[.slice (some ⟨W1.heap.size,0,none⟩) s s,.slice none 0 0]) rfl rfl H1.out (by show 2<=2;decide) dm (by simp[Value.oneCell']) ?_;intro w5 hh5 hs5;have HH5:=Y hh5;have HS5:=Y hs5;clear hh5 hs5))
 refine bodyPost_ret (results_cell_row rfl _ _ w.heap.size 77 #[.slice (some ⟨W1.heap.size,0,none⟩) s s,.slice none 0 0] (0,0) _ rfl HH5.out Tryz.underlying77 rfl dm) rfl ?_;exact⟨_,rfl,⟨by have:=HZ.out;omega,HS5.out.holds HR.out (by have:=HZ.out;omega)⟩,HS5.out.below (ag HB.out.1 (by have:=HZ.out;omega) HB.out.2) (Nat.le_refl _)⟩
abbrev tp (s b:Nat):Value×Value:=(.slice (some ⟨b,0,none⟩) s s,.slice none 0 0)
structure NGR (B n s g bG:Nat)(w:World)(v0:Value)(bs:List Nat)(W:World):Prop where
 hg:Holds W g 76 [v0,.slice (some ⟨bG,0,none⟩) n n,.slice none 0 0]
 hG:Holds W bG 3 (List.replicate n (.int .i64 0))
 row:Kd.R bn 77 W B (fun _=>True) v0 (bs.map (tp s))
 th:∀ b∈bs,gP 3 .i64 B s b W/\b≠bG
 hb:Below B w W
theorem NGR.kH {B n s g bG q t:Nat}{w W w2:World}{v0:Value}{bs:List Nat}{cs:List Value}(h:NGR B n s g bG w v0 bs W)(hg:W.grownBy w2 v0.ownBlock)(ht:t≠77)(hq:Holds W q t cs):Holds w2 q t cs:=aY hq hg (Kd.dL h.row hq (fun e=>ht e.symm))
theorem NGR.step {B n s g bG b:Nat}{w W w2:World}{v0 v2:Value}{bs:List Nat}(h:NGR B n s g bG w v0 bs W)(hB:B<=g)(hg:W.grownBy w2 v0.ownBlock)(ho:Kd.R bn 77 w2 B (fun _=>True) v2 ((bs++[b]).map (tp s)))(hn:gP 3 .i64 W.heap.size s b w2)(hbw:Below B w w2)(hBW:B<=W.heap.size):
 NGR B n s g bG w v2 (bs++[b]) (w2.setCell ⟨g,0,none⟩ v2):=by
 have hg2:=h.kH hg (by decide) h.hg
 have hs:=bu w2 g 0 v2;have hh:∀{q t:Nat} {cs:List Value},t≠76->Holds w2 q t cs->Holds (w2.setCell ⟨g,0,none⟩ v2) q t cs:=fun ht hq=>hs.holds hq (eH hq hg2 ht)
 refine⟨bB hg2 (k:=0) (by show 0<3;decide) v2,hh (by decide) (h.kH hg (by decide) h.hG),dW ho hg2 (fun q hq=>by rcases List.mem_cons.1 hq with rfl|hq;decide;cases hq) hs,fun q hq=>?_,hs.below hbw hB⟩
 rcases List.mem_append.1 hq with hq|hq
 . have k:=h.th q hq;exact⟨⟨k.1.1,hh (by decide) (h.kH hg (by decide) k.1.2)⟩,k.2⟩
 . obtain rfl:=List.mem_singleton.1 hq;exact⟨⟨Nat.le_trans hBW hn.1,hh (by decide) hn.2⟩,fun e=>by have:=hn.1;have:=h.hG.lt;omega⟩
theorem NGR.done {B n s g bG t:Nat}{w W:World}{v0:Value}{bs:List Nat}(h:NGR B n s g bG w v0 bs W)(hl:bs.length=t)(hB:B<=g/\B<=bG)(h1:1<=t)(hw:Gwf (kQ t s n))(hBW:B<=W.heap.size):
 ∃ F x,GR F W g x (kQ t s n)/\∀ q,F q->B<=q:=by
 obtain⟨_,inner,⟨hil,hown⟩,hr⟩:=h.row;have hlm:(bs.map (tp s)).length=t:=by rw[List.length_map,hl]
 rcases hown with⟨rfl,h0⟩|⟨bT,cap,cur,rfl,hbT,hh,hcap,hmax,hsz,htk⟩
 . exact absurd h0 (by omega)
 . have hT:Holds W bT 77 cur.toList:=by show W.heap[bT]? =some (.cells cur.toList.toArray 77 (0,0));rw[Array.toArray_toList];exact hh
   have hTl:(kQ t s n).T.length=t:=by show(List.replicate t _).length=t;exact List.length_replicate ..
   have hGl:(kQ t s n).G.length=n:=by show(List.replicate n _).length=n;exact List.length_replicate ..
   refine⟨fun q=>q=g\/q=bT\/q=bG\/q∈bs,⟨bT,cap,bG,.slice none 0 0,B,bs.map (tp s),[],[],fun q=>q∈bs⟩,⟨?_,⟨_,hT,fun i p hi=>?_⟩,?_,Kd.fo _ _ _ _ _,?_,fun k hk=>by simp[Value.ownBlock]at hk,by rw[hTl];exact hlm,rfl,rfl,fun i p t' hp ht'=>?_,fun i p o t' hp=>by simp at hp,⟨.inl rfl,.inr (.inl rfl),.inr (.inr (.inl rfl)),fun q hq=>.inr (.inr (.inr hq)),fun o ho=>by cases ho⟩,by simp,List.nodup_nil,⟨fun hI=>(h.th bG hI).2 rfl,fun o ho=>by cases ho⟩,hw,fun q hq=>?_⟩,fun q hq=>?_⟩
   . rw[hTl,hGl,<-hlm];exact h.hg
   . obtain⟨hlen,hat⟩:=hr;have hb2:(inner.drop (i*2)).take 2=[p.1,p.2]:=(hat i p hi).1
     have tk:∀(j:Nat) (v:Value),inner[j]? =some v->cur.toList[j]? =some v:=fun j v hj=>by
      rw[<-htk,List.getElem?_take]at hj
      split at hj
      . exact hj
      . cases hj
     refine⟨tk _ _ ?_,tk _ _ ?_⟩
     . have:=congrArg (fun l=>l[0]?) hb2
       simpa [List.getElem?_take,List.getElem?_drop] using this
     . have:=congrArg (fun l=>l[1]?) hb2
       simpa [List.getElem?_take,List.getElem?_drop] using this
   . show Holds W bG 3 (List.map _ (List.replicate n 0))
     rw[List.map_replicate];exact h.hG
   . exact hBW
   . have hp2:(bs.map (tp s))[i]? =some p:=hp
     obtain rfl:(List.replicate s 0,[])=t':=by
      have:(List.replicate t ((List.replicate s (0:Int),([]:List Int)):LL))[i]? =some t':=ht';rw[List.getElem?_replicate]at this
      split at this
      . injection this
      . cases this
     rw[List.getElem?_map]at hp2;obtain⟨b,hb,rfl⟩:=Option.map_eq_some_iff.1 hp2;have hbm:b∈bs:=List.mem_iff_getElem?.2 ⟨i,hb⟩;refine⟨⟨_,s,by rw[List.length_replicate],by rw[List.length_replicate];exact Nat.le_refl _,.inr ⟨b,_,rfl,hbm,(h.th b hbm).1.2,fun j y hj=>?_⟩⟩,⟨none,0,rfl,Nat.le_refl _,.inl ⟨rfl,rfl⟩⟩⟩
     have hj':(List.replicate s (0:Int))[j]? =some y:=hj;rw[List.getElem?_replicate]at hj' ⊢
     split at hj'
     . rename_i hlt
       injection hj' with hj'
       rw[if_pos hlt,hj']
     . cases hj'
   . rcases hq with rfl|rfl|rfl|hq
     . exact h.hg.lt
     . exact hT.lt
     . exact h.hG.lt
     . exact(h.th q hq).1.2.lt
   . rcases hq with rfl|rfl|rfl|hq
     . exact hB.1
     . exact hbT
     . exact hB.2
     . exact(h.th q hq).1.1
section
variable {o:Oper} {a:Act} {W:World}
theorem Ai {x:Operand}{A0 A1:Option Addr}{n0 c0 n1 c1:Nat}(ho:o.op=.buildSlice 73 1 #[(0,x)])(hx:a.eval x=.agg #[.slice A0 n0 c0,.slice A1 n1 c1]):
 (execOp a.eval o).run Tryz.prog W=.ok (.value (.slice (some ⟨W.heap.size,0,none⟩) 1 1)) (W.alloc (.cells #[.slice A0 n0 c0,.slice A1 n1 c1] 77)):=by
 generalize a.eval=E at hx ⊢;unfold execOp;simp only[ho]
 go_simp
end
def V7 (B B0 g:Nat)(v0:Value)(bs:List Nat)(s:Nat):Nat->Value->World->Prop
 |0,v,_=>v=.pointer (some ⟨g,0,none⟩)
 |1,v,_=>v=.pointer (some ⟨g,0,none⟩)
 |2,v,_=>v=.pointer (some ⟨g,0,none⟩)
 |3,v,_=>v=.pointer (some ⟨g,0,none⟩)
 |4,v,_=>v=v0
 |5,v,_=>v=.int .i64 (s:Int)
 |6,v,w=>∃ b,v=.agg #[(tp s b).1,(tp s b).2]/\gP 3 .i64 B s b w
 |7,v,w=>∃ A b,v=.slice (some ⟨A,0,none⟩) 1 1/\B<=A/\Holds w A 77 [(tp s b).1,(tp s b).2]/\gP 3 .i64 B s b w
 |8,v,w=>∃ b,Kd.R bn 77 w B0 (fun _=>True) v ((bs++[b]).map (tp s))/\gP 3 .i64 B s b w
 |_,_,_=>True
def GrN (n:Nat)(own:Option Nat)(k:Nat)(w w':World):Prop:=(k≠n->Below w.heap.size w w')/\(k=n->w.grownBy w' own)
theorem GrN.grown {n:Nat}{own:Option Nat}{k:Nat}{w w':World}(h:GrN n own k w w'):w.grownBy w' own:=by
 by_cases e:k=n
 . exact h.2 e
 . exact cK (h.1 e) own
theorem EK (B B0 g:Nat)(v0:Value)(bs:List Nat)(s i j:Nat)(v:Value)(w w':World)(hij:i≠j)(ho:∀ q,v0.ownBlock=some q->q<B)(h:V7 B B0 g v0 bs s j v w)(hG:GrN 8 v0.ownBlock i w w'):V7 B B0 g v0 bs s j v w':=by
 have hg:=hG.grown;unfold V7 at h ⊢
 split at h
 case h_7=>obtain⟨b,h1,h2⟩:=h;exact⟨b,h1,h2.grown hg ho⟩
 case h_8=>obtain⟨A,b,h1,h0,h2,h3⟩:=h;exact⟨A,b,h1,h0,aY h2 hg (fun e=>by have:=ho A e.symm;omega),h3.grown hg ho⟩
 case h_9=>
  have hb:=hG.1 (fun e=>hij e)
  obtain⟨b,h1,h2⟩:=h;exact⟨b,Kd.aX h1 hb,h2.below hb⟩
 all_goals first|exact h|trivial
theorem oZ {α:Type}{d:Kd α}{e B:Nat}{w:World}{ok:Nat->Prop}{v:Value}{xs:List α}(h:d.R e w B ok v xs):∀ k,v.ownBlock=some k->B<=k:=fun k hk=>by
 obtain⟨_,inner,⟨_,hown⟩,_⟩:=h
 rcases hown with⟨rfl,_⟩|⟨b,cap,cur,rfl,hB,_⟩
 . simp[Value.ownBlock]at hk
 . have:b=k:=by simpa [Value.ownBlock] using hk
   omega
theorem Er (t s n:Nat)(w:World)(h1:1<=t)(h2:t<=64)(h3:1<=s)(h4:s<=8)(h5:n<=8):
 Calls Tryz.prog 7 #[.int .i64 (t:Int),.int .i64 (s:Int),.int .i64 (n:Int)] w fun e w'=>∃ g F x,e=.returned (.pointer (some ⟨g,0,none⟩))/\GR F w' g x (kQ t s n)/\Below w.heap.size w w'/\∀ q,F q->w.heap.size<=q:=by
 have hu:=Tryz.underlying76;have HN:=Y (show n<=1000 by omega)
 have HT:=Y (And.intro h1 (And.intro h2 (And.intro h3 (And.intro h4 h5))));clear h1 h2 h3 h4 h5;go_enter Tryz.func7,Tryz.ntmps7;go_upto_region 2 with((with_reducible refine aW (N:=10) rfl ?_);refine Kd.fA rfl (jf HN.out rfl rfl rfl) ?_)
 obtain⟨W1,hW1⟩:∃ W1,W1=w.alloc (.cells (Array.replicate n (.int .i64 0)) 3):=⟨_,rfl⟩;obtain⟨W3,hW3⟩:∃ W3,W3=W1.alloc (.cells #[.slice none 0 0,.slice (some ⟨w.heap.size,0,none⟩) n n,.slice none 0 0] 76):=⟨_,rfl⟩;have hz1:W1.heap.size=w.heap.size+1:=by rw[hW1];simp
 rw[<-hW1,<-hW3];have hb1:Below w.heap.size w W1:=by rw[hW1];exact ae zc _
 have hb23:Below W1.heap.size W1 W3:=by rw[hW3];exact ae zc _
 have HG0:aa (NGR w.heap.size n s (w.heap.size+1) w.heap.size w (.slice none 0 0) [] W3):=by
  refine⟨⟨?_,?_,Kd.fo _ _ _ _ _,fun b hb=>by(cases hb),ag hb1 (by omega) hb23⟩⟩
  . rw[<-hz1,hW3];exact aK _ _
  . have k:Holds W1 w.heap.size 3 (List.replicate n (.int .i64 0)):=by rw[hW1];exact uJ n 3 _
    exact k.below hb23
 clear hW1 hW3 hz1 hb1 hb23;go_wp2_with fail
 go_loopg [8] t (fun kq v8 w'=>∃(i:Nat) (v0:Value) (bs:List Nat),v8=.int .i64 (i:Int)/\i+kq=t/\aa (bs.length=i)/\aa (NGR w.heap.size n s (w.heap.size+1) w.heap.size w v0 bs w'))
 case atStart=>exact⟨0,_,[],rfl,by omega,⟨rfl⟩,HG0⟩
 case round=>
  clear HG0;obtain⟨i,v0,bs,rfl,hi,HLN,HNG⟩:=hrel;obtain⟨W0,rfl⟩:∃ W0,W0=wr:=⟨wr,rfl⟩;cases gk with
  |zero=>
   have r1:decide ((i:Int)<(t:Int))=false:=yd (by omega)
   have r2:decide (i<t)=false:=yd (by omega)
   go_wp2_with fail
   go_ret
   obtain⟨F,x,hgl,hF⟩:=HNG.out.done (t:=t) (by have:=HLN.out;omega) (by omega) HT.out.1 (zW HT.out.1 HT.out.2.1 HT.out.2.2.1 HT.out.2.2.2.1 HT.out.2.2.2.2) HNG.out.hb.size
   exact⟨_,F,x,rfl,hgl,HNG.out.hb,hF⟩
  |succ k1=>
   have r1:decide ((i:Int)<(t:Int))=true:=yb (by omega)
   have r2:decide (i<t)=true:=yb (by omega)
   have hw1:IntKind.i64.wrap ((i:Int)+1)=(i:Int)+1:=i64_in (by have:=HT.out.2.1;omega)
   have HI:=Y hi;obtain⟨A0,c0,ev⟩:=Kd.aD HNG.out.row;rw[List.length_map]at ev;subst ev;have HOW:=Y (fun q (hq:(Value.slice A0 bs.length c0).ownBlock=some q)=>Kd.fT HNG.out.row q hq)
   clear hi;go_upto_region 5 with(fail)
   refine mH 9 30 [] (V7 W0.heap.size w.heap.size (w.heap.size+1) (.slice A0 bs.length c0) bs s) (fun L w1=>W0.grownBy w1 (Value.slice A0 bs.length c0).ownBlock/\(L.getD 8 false=false->Below W0.heap.size W0 w1)) (GrN 8 (Value.slice A0 bs.length c0).ownBlock) (by kernel_rfl) (by rfl) (by kernel_rfl) ⟨cK (bv zc) _,fun _=>bv zc⟩ ?jj (fun i j v w1 w2 hi hij _ _ h hG=>EK _ _ _ _ _ _ i j v w1 w2 hij HOW.out h hG) ?st ?en
   case jj=>
    intro k2 L1 w1 w2 hk1 hL hk0 hJ hG;refine⟨hJ.1.trans hG.grown,fun h13=>?_⟩
    by_cases e:k2=8
    . subst e;rw[Array.getD_eq_getD_getElem?,Array.getElem?_setIfInBounds_self_of_lt (by rw[hL];exact Nat.lt_of_lt_of_le hk1 (by decide))]at h13
      cases h13
    . rw[getD_set_ne false e]at h13;exact ag (hJ.2 h13) (hJ.2 h13).size (hG.1 e)
   case st=>
    refine au.cons (fun a w1 L fr hL hj hdf hd K hK=>?_) ?_
    . exact af (aC rfl ((fr 7 (by kernel_rfl)).trans rfl)) (hK _ _ ⟨fun _=>zc,fun h=>(by cases h)⟩ rfl)
    refine au.cons (fun a w1 L fr hL hj hdf hd K hK=>?_) ?_
    . exact af (aC rfl ((fr 7 (by kernel_rfl)).trans rfl)) (hK _ _ ⟨fun _=>zc,fun h=>(by cases h)⟩ rfl)
    refine au.cons (fun a w1 L fr hL hj hdf hd K hK=>?_) ?_
    . exact af (bZ rfl (hd 1 19 (by kernel_rfl))) (hK _ _ ⟨fun _=>zc,fun h=>(by cases h)⟩ rfl)
    refine au.cons (fun a w1 L fr hL hj hdf hd K hK=>?_) ?_
    . exact af (iE (i:=0) (by decide) rfl (hd 2 20 (by kernel_rfl))) (hK _ _ ⟨fun _=>zc,fun h=>(by cases h)⟩ rfl)
    refine au.cons (fun a w1 L fr hL hj hdf hd K hK=>?_) ?_
    . exact af (jd rfl (hd 3 21 (by kernel_rfl)) (((HNG.out.kH hj.1 (by decide) HNG.out.hg).cell 0).trans rfl)) (hK _ _ ⟨fun _=>zc,fun h=>(by cases h)⟩ rfl)
    refine au.cons (fun a w1 L fr hL hj hdf hd K hK=>?_) ?_
    . exact af (aC rfl ((fr 1 (by kernel_rfl)).trans rfl)) (hK _ _ ⟨fun _=>zc,fun h=>(by cases h)⟩ rfl)
    refine au.cons (fun a w1 L fr hL hj hdf hd K hK=>?_) ?_
    . have e1:a.eval (.tmp 23)=.int .i64 (s:Int):=(hd 5 23 (by kernel_rfl))
      refine ek Tryz.func18 (by kernel_rfl) rfl #[.int .i64 (s:Int)] rfl (by simp only[List.map_toArray,List.map_cons,List.map_nil,e1]) ?_
      refine(r18 s w1 HT.out.2.2.2.1).mono ?_;rintro e w2 ⟨b,rfl,hn,hb⟩;exact⟨_,rfl,hK _ _ ⟨fun _=>hb,fun h=>(by cases h)⟩ (show V7 _ _ _ _ _ _ 6 _ _ from⟨b,rfl,Nat.le_trans hj.1.size hn.1,hn.2⟩)⟩
    refine au.cons (fun a w1 L fr hL hj hdf hd K hK=>?_) ?_
    . have e1:∃ b,a.eval (.tmp 24)=.agg #[(tp s b).1,(tp s b).2]/\gP 3 .i64 W0.heap.size s b w1:=(hd 6 24 (by kernel_rfl))
      obtain⟨b,e2,hn⟩:=e1;have hb2:=ae (Below.refl w1.heap.size w1) (.cells #[.slice (some ⟨b,0,none⟩) s s,.slice none 0 0] 77);exact af (Ai rfl e2) (hK _ _ ⟨fun _=>hb2,fun h=>(by cases h)⟩ (show V7 _ _ _ _ _ _ 7 _ _ from⟨w1.heap.size,b,rfl,hj.1.size,aK _ _,hn.below hb2⟩))
    refine au.cons (fun a w1 L fr hL hj hdf hd K hK=>?_) ?_
    . have e4:a.eval (.tmp 22)=.slice A0 bs.length c0:=(hd 4 22 (by kernel_rfl))
      have e1:∃ A b,a.eval (.tmp 25)=.slice (some ⟨A,0,none⟩) 1 1/\W0.heap.size<=A/\Holds w1 A 77 [(tp s b).1,(tp s b).2]/\gP 3 .i64 W0.heap.size s b w1:=(hd 7 25 (by kernel_rfl))
      obtain⟨A,b,e7,hA,hhA,hn⟩:=e1;have hb:=hj.2 hL;have hrow:=Kd.aX HNG.out.row hb;have hc9:Kd.C bn w1 (some ⟨A,0,none⟩) 1 [tp s b]:=kX bn hhA (oz ⟨rfl,rfl,rfl⟩) (by simp)
      refine gQ bn (w0:=w1) w.heap.size 73 77 (.agg #[.slice none 0 0,.slice none 0 0]) 48 rfl Tryz.underlying73 info77r rfl (by decide) (by decide) _ (bs.map (tp s)) [tp s b] (some ⟨A,0,none⟩) 1 1 (fun _=>True) e4 e7 (fun _ _ _ _ h=>h) (fun _ _=>trivial) hrow hc9 zc (Nat.le_trans HNG.out.hb.size hb.size) (by rw[List.length_map,HLN.out];have:=HT.out.2.1;have:=HI.out;omega) ?_
      intro v1 w2 hr1 hb1 hg1 hat;exact hK _ _ ⟨fun h=>absurd rfl h,fun _=>hg1⟩ (show V7 _ _ _ _ _ _ 8 _ _ from⟨b,by rw[List.map_append];exact hr1,hn.grown hg1 HOW.out⟩)
    exact au.nil
   case en=>
    intro vs w6 L1 hJ hl hv;have e0:vs 0=.pointer (some ⟨w.heap.size+1,0,none⟩):=hv 0 18 (by decide) (by kernel_rfl) (fun _ _ h=>by cases h)
    have e8:∃ b,Kd.R bn 77 w6 w.heap.size (fun _=>True) (vs 8) ((bs++[b]).map (tp s))/\gP 3 .i64 W0.heap.size s b w6:=hv 8 26 (by decide) (by kernel_rfl) (fun _ _ h=>by cases h)
    obtain⟨b,hR,hn⟩:=e8;obtain⟨A2,c2,e8⟩:=Kd.aD hR;rw[List.length_map,List.length_append,List.length_singleton]at e8;rw[e8]at hR;simp only[List.take_succ_cons,List.take_zero,List.drop_succ_cons,List.drop_zero,bA,Act.put,zj,zr,ya,e0,e8];have hg6:=HNG.out.kH hJ.1 (by decide) HNG.out.hg
    have y2:=(hg6.cell 0).trans rfl;have y3:=ak hg6 0
    have hbw:Below w.heap.size w w6:=⟨hJ.1.os.trans HNG.out.hb.os,hJ.1.tape.trans HNG.out.hb.tape,hJ.1.output.trans HNG.out.hb.output,Nat.le_trans HNG.out.hb.size hJ.1.size,fun q hq=>by
     refine(hJ.1.block q (Nat.lt_of_lt_of_le hq HNG.out.hb.size) (fun e=>?_)).trans (HNG.out.hb.block q hq)
     have:=oZ HNG.out.row q e.symm
     omega⟩
    have HST:=Y (HNG.out.step (by omega) hJ.1 hR hn hbw HNG.out.hb.size)
    clear hv hl hJ e0 hR hn e8 hg6 hbw;go_wp2_with fail;go_roundg k1
    case measure=>omega
    case rel=>exact⟨i+1,_,bs++[b],rfl,by have:=HI.out;omega,⟨by rw[List.length_append,HLN.out];rfl⟩,HST⟩
end
section
theorem GStep.from {F:Nat->Prop}{w W w':World}{g:Nat}{M:Gm}(h:GStep F W g M w')(hb:Below w.heap.size w W):GStep F w g M w':=by
 obtain⟨F',x',h1,h2,h3⟩:=h;exact⟨F',x',h1,(bX F hb).trans h2 (fun _ _ e=>e),fun q hq=>(h3 q hq).imp id (fun e=>Nat.le_trans hb.size e)⟩
theorem GRS.from {F:Nat->Prop}{w W w':World}{g:Nat}{M:Gm}(h:GRS F W g M w')(hb:Below w.heap.size w W):GRS F w g M w':=by
 obtain⟨F',x',h1,h2,h3⟩:=h;exact⟨F',x',h1,(bX F hb).trans h2 (fun _ _ e=>e),fun q hq=>(h3 q hq).imp id (fun e=>Nat.le_trans hb.size e)⟩
def oG (M:Gm)(d t a b c v:Int):Gm:=
 if d=0 then(bM M t a b c).1 else if d=1 then(gq M t a b c).1 else if d=2 then(fP M t a b c).1 else if d=3 then(bW M t a b).1 else if d=4 then(dM M t a b v).1
 else if d=5 then(iP M t a b).1 else if d=6 then(jk M t a b).1 else if d=7 then(moveF M t a b).1 else if d=8 then(il M t a).1 else if d=9 then(gK M t a).1 else if d=10 then(je M t a).1 else(ku M t a).1
theorem dh (w:World)(d t a b c v:Int):∃ W1,W1=w.alloc (.cells #[.int .u8 d,.int .i64 t,.int .i64 a,.int .i64 b,.int .i64 c,.int .u64 v] 35)/\Holds W1 w.heap.size 35 [.int .u8 d,.int .i64 t,.int .i64 a,.int .i64 b,.int .i64 c,.int .u64 v]/\Below w.heap.size w W1:=⟨_,rfl,aK _ _,ae zc _⟩
section
variable {F:Nat→Prop} {w:World} {g:Nat} {x:Gw} {M:Gm}
theorem Bw (h:GL F w g x M)(hO:M.O.length<1000)(t a b c v:Int)(hv:(Lit.int .u64 v).wf=true):
 Calls Tryz.prog 8 #[.pointer (some ⟨g,0,none⟩),.agg #[.int .u8 0,.int .i64 t,.int .i64 a,.int .i64 b,.int .i64 c,.int .u64 v]] w fun e w'=>(∃ r,e=.returned r)/\GStep F w g (bM M t a b c).1 w':=by
 obtain⟨W1,hW1,hh,hb⟩:=dh w (0) t a b c v;have HC:=Y (sD (h.below hb) hO t a b c);have HB:=Y hb;have z0:=(hh.cell 0).trans rfl;have z1:=(hh.cell 1).trans rfl;have z2:=(hh.cell 2).trans rfl;have z3:=(hh.cell 3).trans rfl;have z4:=(hh.cell 4).trans rfl;have z5:=(hh.cell 5).trans rfl;clear h hO hb hh hv;go_enter Tryz.func8,Tryz.ntmps8;go_upto_region 1 with(fail)
 rw[<-hW1];clear hW1;go_wp2_with (go_at_call 19;refine HC.out.mono ?_;rintro e w3 ⟨rfl,hg3⟩;have HG3:=Y hg3;clear hg3)
 go_ret2
 exact⟨⟨_,rfl⟩,HG3.out.from HB.out⟩
theorem Bn (h:GL F w g x M)(hO:M.O.length<1000)(t a b c v:Int)(hv:(Lit.int .u64 v).wf=true):
 Calls Tryz.prog 8 #[.pointer (some ⟨g,0,none⟩),.agg #[.int .u8 1,.int .i64 t,.int .i64 a,.int .i64 b,.int .i64 c,.int .u64 v]] w fun e w'=>(∃ r,e=.returned r)/\GStep F w g (gq M t a b c).1 w':=by
 obtain⟨W1,hW1,hh,hb⟩:=dh w (1) t a b c v;have HC:=Y (Bo (h.below hb) t a b c);have HB:=Y hb;have z0:=(hh.cell 0).trans rfl;have z1:=(hh.cell 1).trans rfl;have z2:=(hh.cell 2).trans rfl;have z3:=(hh.cell 3).trans rfl;have z4:=(hh.cell 4).trans rfl;have z5:=(hh.cell 5).trans rfl;clear h hO hb hh hv;go_enter Tryz.func8,Tryz.ntmps8;go_upto_region 1 with(fail)
 rw[<-hW1];clear hW1;go_wp2_with (go_at_call 20;refine HC.out.mono ?_;rintro e w3 ⟨rfl,hg3⟩;have HG3:=Y hg3;clear hg3)
 go_ret2
 exact⟨⟨_,rfl⟩,HG3.out.from HB.out⟩
theorem AA (h:GL F w g x M)(hO:M.O.length<1000)(t a b c v:Int)(hv:(Lit.int .u64 v).wf=true):
 Calls Tryz.prog 8 #[.pointer (some ⟨g,0,none⟩),.agg #[.int .u8 2,.int .i64 t,.int .i64 a,.int .i64 b,.int .i64 c,.int .u64 v]] w fun e w'=>(∃ r,e=.returned r)/\GStep F w g (fP M t a b c).1 w':=by
 obtain⟨W1,hW1,hh,hb⟩:=dh w (2) t a b c v;have HC:=Y (zf (h.below hb) t a b c);have HB:=Y hb;have z0:=(hh.cell 0).trans rfl;have z1:=(hh.cell 1).trans rfl;have z2:=(hh.cell 2).trans rfl;have z3:=(hh.cell 3).trans rfl;have z4:=(hh.cell 4).trans rfl;have z5:=(hh.cell 5).trans rfl;clear h hO hb hh hv;go_enter Tryz.func8,Tryz.ntmps8;go_upto_region 1 with(fail)
 rw[<-hW1];clear hW1;go_wp2_with (go_at_call 21;refine HC.out.mono ?_;rintro e w3 ⟨rfl,hg3⟩;have HG3:=Y hg3;clear hg3)
 go_ret2
 exact⟨⟨_,rfl⟩,HG3.out.from HB.out⟩
theorem Bu (h:GL F w g x M)(hO:M.O.length<1000)(t a b c v:Int)(hv:(Lit.int .u64 v).wf=true):
 Calls Tryz.prog 8 #[.pointer (some ⟨g,0,none⟩),.agg #[.int .u8 3,.int .i64 t,.int .i64 a,.int .i64 b,.int .i64 c,.int .u64 v]] w fun e w'=>(∃ r,e=.returned r)/\GStep F w g (bW M t a b).1 w':=by
 obtain⟨W1,hW1,hh,hb⟩:=dh w (3) t a b c v;have HC:=Y (uq (h.below hb) t a b);have HB:=Y hb;have z0:=(hh.cell 0).trans rfl;have z1:=(hh.cell 1).trans rfl;have z2:=(hh.cell 2).trans rfl;have z3:=(hh.cell 3).trans rfl;have z4:=(hh.cell 4).trans rfl;have z5:=(hh.cell 5).trans rfl;clear h hO hb hh hv;go_enter Tryz.func8,Tryz.ntmps8;go_upto_region 1 with(fail)
 rw[<-hW1];clear hW1;go_wp2_with (go_at_call 22;refine HC.out.mono ?_;rintro e w3 ⟨rfl,hg3⟩;have HG3:=Y hg3;clear hg3)
 go_ret2
 exact⟨⟨_,rfl⟩,HG3.out.from HB.out⟩
theorem Bl (h:GL F w g x M)(hO:M.O.length<1000)(t a b c v:Int)(hv:(Lit.int .u64 v).wf=true):
 Calls Tryz.prog 8 #[.pointer (some ⟨g,0,none⟩),.agg #[.int .u8 4,.int .i64 t,.int .i64 a,.int .i64 b,.int .i64 c,.int .u64 v]] w fun e w'=>(∃ r,e=.returned r)/\GStep F w g (dM M t a b v).1 w':=by
 obtain⟨W1,hW1,hh,hb⟩:=dh w (4) t a b c v;have HC:=Y (rV (h.below hb) t a b v hv);have HB:=Y hb;have z0:=(hh.cell 0).trans rfl;have z1:=(hh.cell 1).trans rfl;have z2:=(hh.cell 2).trans rfl;have z3:=(hh.cell 3).trans rfl;have z4:=(hh.cell 4).trans rfl;have z5:=(hh.cell 5).trans rfl;clear h hO hb hh hv;go_enter Tryz.func8,Tryz.ntmps8;go_upto_region 1 with(fail)
 rw[<-hW1];clear hW1;go_wp2_with (go_at_call 23;refine HC.out.mono ?_;rintro e w3 ⟨rfl,hg3⟩;have HG3:=Y hg3;clear hg3)
 go_ret2
 exact⟨⟨_,rfl⟩,HG3.out.from HB.out⟩
theorem Al (h:GL F w g x M)(hO:M.O.length<1000)(t a b c v:Int)(hv:(Lit.int .u64 v).wf=true):
 Calls Tryz.prog 8 #[.pointer (some ⟨g,0,none⟩),.agg #[.int .u8 5,.int .i64 t,.int .i64 a,.int .i64 b,.int .i64 c,.int .u64 v]] w fun e w'=>(∃ r,e=.returned r)/\GStep F w g (iP M t a b).1 w':=by
 obtain⟨W1,hW1,hh,hb⟩:=dh w (5) t a b c v;have HC:=Y (C8 (h.below hb) t a b);have HB:=Y hb;have z0:=(hh.cell 0).trans rfl;have z1:=(hh.cell 1).trans rfl;have z2:=(hh.cell 2).trans rfl;have z3:=(hh.cell 3).trans rfl;have z4:=(hh.cell 4).trans rfl;have z5:=(hh.cell 5).trans rfl;clear h hO hb hh hv;go_enter Tryz.func8,Tryz.ntmps8;go_upto_region 1 with(fail)
 rw[<-hW1];clear hW1;go_wp2_with (go_at_call 24;refine HC.out.mono ?_;rintro e w3 ⟨rfl,hg3⟩;have HG3:=Y hg3;clear hg3)
 go_ret2
 exact⟨⟨_,rfl⟩,HG3.out.from HB.out⟩
theorem BU (h:GL F w g x M)(hO:M.O.length<1000)(t a b c v:Int)(hv:(Lit.int .u64 v).wf=true):
 Calls Tryz.prog 8 #[.pointer (some ⟨g,0,none⟩),.agg #[.int .u8 6,.int .i64 t,.int .i64 a,.int .i64 b,.int .i64 c,.int .u64 v]] w fun e w'=>(∃ r,e=.returned r)/\GStep F w g (jk M t a b).1 w':=by
 obtain⟨W1,hW1,hh,hb⟩:=dh w (6) t a b c v;have HC:=Y (DU (h.below hb) t a b);have HB:=Y hb;have z0:=(hh.cell 0).trans rfl;have z1:=(hh.cell 1).trans rfl;have z2:=(hh.cell 2).trans rfl;have z3:=(hh.cell 3).trans rfl;have z4:=(hh.cell 4).trans rfl;have z5:=(hh.cell 5).trans rfl;clear h hO hb hh hv;go_enter Tryz.func8,Tryz.ntmps8;go_upto_region 1 with(fail)
 rw[<-hW1];clear hW1;go_wp2_with (go_at_call 25;refine HC.out.mono ?_;rintro e w3 ⟨rfl,hg3⟩;have HG3:=Y hg3;clear hg3)
 go_ret2
 exact⟨⟨_,rfl⟩,HG3.out.from HB.out⟩
theorem A7 (h:GL F w g x M)(hO:M.O.length<1000)(t a b c v:Int)(hv:(Lit.int .u64 v).wf=true):
 Calls Tryz.prog 8 #[.pointer (some ⟨g,0,none⟩),.agg #[.int .u8 7,.int .i64 t,.int .i64 a,.int .i64 b,.int .i64 c,.int .u64 v]] w fun e w'=>(∃ r,e=.returned r)/\GStep F w g (moveF M t a b).1 w':=by
 obtain⟨W1,hW1,hh,hb⟩:=dh w (7) t a b c v;have HC:=Y (AJ (h.below hb) t a b);have HB:=Y hb;have z0:=(hh.cell 0).trans rfl;have z1:=(hh.cell 1).trans rfl;have z2:=(hh.cell 2).trans rfl;have z3:=(hh.cell 3).trans rfl;have z4:=(hh.cell 4).trans rfl;have z5:=(hh.cell 5).trans rfl;clear h hO hb hh hv;go_enter Tryz.func8,Tryz.ntmps8;go_upto_region 1 with(fail)
 rw[<-hW1];clear hW1;go_wp2_with (go_at_call 26;refine HC.out.mono ?_;rintro e w3 ⟨rfl,hg3⟩;have HG3:=Y hg3;clear hg3)
 go_ret2
 exact⟨⟨_,rfl⟩,HG3.out.from HB.out⟩
theorem BG (h:GL F w g x M)(hO:M.O.length<1000)(t a b c v:Int)(hv:(Lit.int .u64 v).wf=true):
 Calls Tryz.prog 8 #[.pointer (some ⟨g,0,none⟩),.agg #[.int .u8 8,.int .i64 t,.int .i64 a,.int .i64 b,.int .i64 c,.int .u64 v]] w fun e w'=>(∃ r,e=.returned r)/\GStep F w g (il M t a).1 w':=by
 obtain⟨W1,hW1,hh,hb⟩:=dh w (8) t a b c v;have HC:=Y (zu (h.below hb) t a);have HB:=Y hb;have z0:=(hh.cell 0).trans rfl;have z1:=(hh.cell 1).trans rfl;have z2:=(hh.cell 2).trans rfl;have z3:=(hh.cell 3).trans rfl;have z4:=(hh.cell 4).trans rfl;have z5:=(hh.cell 5).trans rfl;clear h hO hb hh hv;go_enter Tryz.func8,Tryz.ntmps8;go_upto_region 1 with(fail)
 rw[<-hW1];clear hW1;go_wp2_with (go_at_call 27;refine HC.out.mono ?_;rintro e w3 ⟨rfl,hg3⟩;have HG3:=Y hg3;clear hg3)
 go_ret2
 exact⟨⟨_,rfl⟩,HG3.out.from HB.out⟩
theorem Af (h:GL F w g x M)(hO:M.O.length<1000)(t a b c v:Int)(hv:(Lit.int .u64 v).wf=true):
 Calls Tryz.prog 8 #[.pointer (some ⟨g,0,none⟩),.agg #[.int .u8 9,.int .i64 t,.int .i64 a,.int .i64 b,.int .i64 c,.int .u64 v]] w fun e w'=>(∃ r,e=.returned r)/\GStep F w g (gK M t a).1 w':=by
 obtain⟨W1,hW1,hh,hb⟩:=dh w (9) t a b c v;have HC:=Y (BH (h.below hb) t a);have HB:=Y hb;have z0:=(hh.cell 0).trans rfl;have z1:=(hh.cell 1).trans rfl;have z2:=(hh.cell 2).trans rfl;have z3:=(hh.cell 3).trans rfl;have z4:=(hh.cell 4).trans rfl;have z5:=(hh.cell 5).trans rfl;clear h hO hb hh hv;go_enter Tryz.func8,Tryz.ntmps8;go_upto_region 1 with(fail)
 rw[<-hW1];clear hW1;go_wp2_with (go_at_call 28;refine HC.out.mono ?_;rintro e w3 ⟨rfl,hg3⟩;have HG3:=Y hg3;clear hg3)
 go_ret2
 exact⟨⟨_,rfl⟩,HG3.out.from HB.out⟩
theorem zi (h:GL F w g x M)(hO:M.O.length<1000)(t a b c v:Int)(hv:(Lit.int .u64 v).wf=true):
 Calls Tryz.prog 8 #[.pointer (some ⟨g,0,none⟩),.agg #[.int .u8 10,.int .i64 t,.int .i64 a,.int .i64 b,.int .i64 c,.int .u64 v]] w fun e w'=>(∃ r,e=.returned r)/\GStep F w g (je M t a).1 w':=by
 obtain⟨W1,hW1,hh,hb⟩:=dh w (10) t a b c v;have HC:=Y (CQ (h.below hb) t a);have HB:=Y hb;have z0:=(hh.cell 0).trans rfl;have z1:=(hh.cell 1).trans rfl;have z2:=(hh.cell 2).trans rfl;have z3:=(hh.cell 3).trans rfl;have z4:=(hh.cell 4).trans rfl;have z5:=(hh.cell 5).trans rfl;clear h hO hb hh hv;go_enter Tryz.func8,Tryz.ntmps8;go_upto_region 1 with(fail)
 rw[<-hW1];clear hW1;go_wp2_with (go_at_call 29;refine HC.out.mono ?_;rintro e w3 ⟨rfl,hg3⟩;have HG3:=Y hg3;clear hg3)
 go_ret2
 exact⟨⟨_,rfl⟩,HG3.out.from HB.out⟩
theorem yR (h:GL F w g x M)(hO:M.O.length<1000)(d t a b c v:Int)(hv:(Lit.int .u64 v).wf=true)(hd:d≠0/\d≠1/\d≠2/\d≠3/\d≠4/\d≠5/\d≠6/\d≠7/\d≠8/\d≠9/\d≠10):
 Calls Tryz.prog 8 #[.pointer (some ⟨g,0,none⟩),.agg #[.int .u8 d,.int .i64 t,.int .i64 a,.int .i64 b,.int .i64 c,.int .u64 v]] w fun e w'=>(∃ r,e=.returned r)/\GStep F w g (ku M t a).1 w':=by
 obtain⟨W1,hW1,hh,hb⟩:=dh w (d) t a b c v;have HC:=Y (AB (h.below hb) t a);have HB:=Y hb;have z0:=(hh.cell 0).trans rfl;have z1:=(hh.cell 1).trans rfl;have z2:=(hh.cell 2).trans rfl;have z3:=(hh.cell 3).trans rfl;have z4:=(hh.cell 4).trans rfl;have z5:=(hh.cell 5).trans rfl;obtain⟨n0,n1,n2,n3,n4,n5,n6,n7,n8,n9,n10⟩:=hd;have q0:decide (d=0)=false:=yd n0;have p0:(d==0)=false:=beq_eq_false_iff_ne.2 n0;have q1:decide (d=1)=false:=yd n1;have p1:(d==1)=false:=beq_eq_false_iff_ne.2 n1;have q2:decide (d=2)=false:=yd n2;have p2:(d==2)=false:=beq_eq_false_iff_ne.2 n2;have q3:decide (d=3)=false:=yd n3;have p3:(d==3)=false:=beq_eq_false_iff_ne.2 n3;have q4:decide (d=4)=false:=yd n4;have p4:(d==4)=false:=beq_eq_false_iff_ne.2 n4;have q5:decide (d=5)=false:=yd n5;have p5:(d==5)=false:=beq_eq_false_iff_ne.2 n5;have q6:decide (d=6)=false:=yd n6;have p6:(d==6)=false:=beq_eq_false_iff_ne.2 n6;have q7:decide (d=7)=false:=yd n7;have p7:(d==7)=false:=beq_eq_false_iff_ne.2 n7;have q8:decide (d=8)=false:=yd n8;have p8:(d==8)=false:=beq_eq_false_iff_ne.2 n8;have q9:decide (d=9)=false:=yd n9;have p9:(d==9)=false:=beq_eq_false_iff_ne.2 n9;have q10:decide (d=10)=false:=yd n10;have p10:(d==10)=false:=beq_eq_false_iff_ne.2 n10;clear n0 n1 n2 n3 n4 n5 n6 n7 n8 n9 n10;clear h hO hb hh hv;go_enter Tryz.func8,Tryz.ntmps8;go_upto_region 1 with(fail)
 rw[<-hW1];clear hW1;go_wp2_with (go_at_call 30;refine HC.out.mono ?_;rintro e w3 ⟨rfl,hg3⟩;have HG3:=Y hg3;clear hg3)
 go_ret2
 exact⟨⟨_,rfl⟩,HG3.out.from HB.out⟩
theorem ED (h:GL F w g x M)(hO:M.O.length<1000)(d t a b c v:Int)(hv:(Lit.int .u64 v).wf=true):
 Calls Tryz.prog 8 #[.pointer (some ⟨g,0,none⟩),.agg #[.int .u8 d,.int .i64 t,.int .i64 a,.int .i64 b,.int .i64 c,.int .u64 v]] w fun e w'=>(∃ r,e=.returned r)/\GStep F w g (oG M d t a b c v) w':=by
 unfold oG
 by_cases d0:d=0
 . rw[if_pos d0,d0];exact Bw h hO t a b c v hv
 rw[if_neg d0]
 by_cases d1:d=1
 . rw[if_pos d1,d1];exact Bn h hO t a b c v hv
 rw[if_neg d1]
 by_cases d2:d=2
 . rw[if_pos d2,d2];exact AA h hO t a b c v hv
 rw[if_neg d2]
 by_cases d3:d=3
 . rw[if_pos d3,d3];exact Bu h hO t a b c v hv
 rw[if_neg d3]
 by_cases d4:d=4
 . rw[if_pos d4,d4];exact Bl h hO t a b c v hv
 rw[if_neg d4]
 by_cases d5:d=5
 . rw[if_pos d5,d5];exact Al h hO t a b c v hv
 rw[if_neg d5]
 by_cases d6:d=6
 . rw[if_pos d6,d6];exact BU h hO t a b c v hv
 rw[if_neg d6]
 by_cases d7:d=7
 . rw[if_pos d7,d7];exact A7 h hO t a b c v hv
 rw[if_neg d7]
 by_cases d8:d=8
 . rw[if_pos d8,d8];exact BG h hO t a b c v hv
 rw[if_neg d8]
 by_cases d9:d=9
 . rw[if_pos d9,d9];exact Af h hO t a b c v hv
 rw[if_neg d9]
 by_cases d10:d=10
 . rw[if_pos d10,d10];exact zi h hO t a b c v hv
 rw[if_neg d10];exact yR h hO d t a b c v hv ⟨d0,d1,d2,d3,d4,d5,d6,d7,d8,d9,d10⟩
end
section
variable {F:Nat→Prop} {w:World} {g:Nat} {x:Rw} {M:Gm}
theorem D6 (h:GR F w g x M)(hO:M.O.length<1000)(t a b c v:Int)(hv:(Lit.int .u64 v).wf=true):
 Calls Tryz.prog 9 #[.pointer (some ⟨g,0,none⟩),.agg #[.int .u8 0,.int .i64 t,.int .i64 a,.int .i64 b,.int .i64 c,.int .u64 v]] w fun e w'=>(∃ r,e=.returned r)/\GRS F w g (bM M t a b c).1 w':=by
 obtain⟨W1,hW1,hh,hb⟩:=dh w (0) t a b c v;have HC:=Y (Bg (h.below hb) hO t a b c);have HB:=Y hb;have z0:=(hh.cell 0).trans rfl;have z1:=(hh.cell 1).trans rfl;have z2:=(hh.cell 2).trans rfl;have z3:=(hh.cell 3).trans rfl;have z4:=(hh.cell 4).trans rfl;have z5:=(hh.cell 5).trans rfl;clear h hO hb hh hv;go_enter Tryz.func9,Tryz.ntmps9;go_upto_region 1 with(fail)
 rw[<-hW1];clear hW1;go_wp2_with (go_at_call 31;refine HC.out.mono ?_;rintro e w3 ⟨rfl,hg3⟩;have HG3:=Y hg3;clear hg3)
 go_ret2
 exact⟨⟨_,rfl⟩,HG3.out.from HB.out⟩
theorem Dc (h:GR F w g x M)(hO:M.O.length<1000)(t a b c v:Int)(hv:(Lit.int .u64 v).wf=true):
 Calls Tryz.prog 9 #[.pointer (some ⟨g,0,none⟩),.agg #[.int .u8 1,.int .i64 t,.int .i64 a,.int .i64 b,.int .i64 c,.int .u64 v]] w fun e w'=>(∃ r,e=.returned r)/\GRS F w g (gq M t a b c).1 w':=by
 obtain⟨W1,hW1,hh,hb⟩:=dh w (1) t a b c v;have HC:=Y (DZ (h.below hb) t a b c);have HB:=Y hb;have z0:=(hh.cell 0).trans rfl;have z1:=(hh.cell 1).trans rfl;have z2:=(hh.cell 2).trans rfl;have z3:=(hh.cell 3).trans rfl;have z4:=(hh.cell 4).trans rfl;have z5:=(hh.cell 5).trans rfl;clear h hO hb hh hv;go_enter Tryz.func9,Tryz.ntmps9;go_upto_region 1 with(fail)
 rw[<-hW1];clear hW1;go_wp2_with (go_at_call 32;refine HC.out.mono ?_;rintro e w3 ⟨rfl,hg3⟩;have HG3:=Y hg3;clear hg3)
 go_ret2
 exact⟨⟨_,rfl⟩,HG3.out.from HB.out⟩
theorem D9 (h:GR F w g x M)(hO:M.O.length<1000)(t a b c v:Int)(hv:(Lit.int .u64 v).wf=true):
 Calls Tryz.prog 9 #[.pointer (some ⟨g,0,none⟩),.agg #[.int .u8 2,.int .i64 t,.int .i64 a,.int .i64 b,.int .i64 c,.int .u64 v]] w fun e w'=>(∃ r,e=.returned r)/\GRS F w g (fP M t a b c).1 w':=by
 obtain⟨W1,hW1,hh,hb⟩:=dh w (2) t a b c v;have HC:=Y (AY (h.below hb) t a b c);have HB:=Y hb;have z0:=(hh.cell 0).trans rfl;have z1:=(hh.cell 1).trans rfl;have z2:=(hh.cell 2).trans rfl;have z3:=(hh.cell 3).trans rfl;have z4:=(hh.cell 4).trans rfl;have z5:=(hh.cell 5).trans rfl;clear h hO hb hh hv;go_enter Tryz.func9,Tryz.ntmps9;go_upto_region 1 with(fail)
 rw[<-hW1];clear hW1;go_wp2_with (go_at_call 33;refine HC.out.mono ?_;rintro e w3 ⟨rfl,hg3⟩;have HG3:=Y hg3;clear hg3)
 go_ret2
 exact⟨⟨_,rfl⟩,HG3.out.from HB.out⟩
theorem Dm (h:GR F w g x M)(hO:M.O.length<1000)(t a b c v:Int)(hv:(Lit.int .u64 v).wf=true):
 Calls Tryz.prog 9 #[.pointer (some ⟨g,0,none⟩),.agg #[.int .u8 3,.int .i64 t,.int .i64 a,.int .i64 b,.int .i64 c,.int .u64 v]] w fun e w'=>(∃ r,e=.returned r)/\GRS F w g (bW M t a b).1 w':=by
 obtain⟨W1,hW1,hh,hb⟩:=dh w (3) t a b c v;have HC:=Y (BZ (h.below hb) t a b);have HB:=Y hb;have z0:=(hh.cell 0).trans rfl;have z1:=(hh.cell 1).trans rfl;have z2:=(hh.cell 2).trans rfl;have z3:=(hh.cell 3).trans rfl;have z4:=(hh.cell 4).trans rfl;have z5:=(hh.cell 5).trans rfl;clear h hO hb hh hv;go_enter Tryz.func9,Tryz.ntmps9;go_upto_region 1 with(fail)
 rw[<-hW1];clear hW1;go_wp2_with (go_at_call 34;refine HC.out.mono ?_;rintro e w3 ⟨rfl,hg3⟩;have HG3:=Y hg3;clear hg3)
 go_ret2
 exact⟨⟨_,rfl⟩,HG3.out.from HB.out⟩
theorem Da (h:GR F w g x M)(hO:M.O.length<1000)(t a b c v:Int)(hv:(Lit.int .u64 v).wf=true):
 Calls Tryz.prog 9 #[.pointer (some ⟨g,0,none⟩),.agg #[.int .u8 4,.int .i64 t,.int .i64 a,.int .i64 b,.int .i64 c,.int .u64 v]] w fun e w'=>(∃ r,e=.returned r)/\GRS F w g (dM M t a b v).1 w':=by
 obtain⟨W1,hW1,hh,hb⟩:=dh w (4) t a b c v;have HC:=Y (Bi (h.below hb) t a b v hv);have HB:=Y hb;have z0:=(hh.cell 0).trans rfl;have z1:=(hh.cell 1).trans rfl;have z2:=(hh.cell 2).trans rfl;have z3:=(hh.cell 3).trans rfl;have z4:=(hh.cell 4).trans rfl;have z5:=(hh.cell 5).trans rfl;clear h hO hb hh hv;go_enter Tryz.func9,Tryz.ntmps9;go_upto_region 1 with(fail)
 rw[<-hW1];clear hW1;go_wp2_with (go_at_call 35;refine HC.out.mono ?_;rintro e w3 ⟨rfl,hg3⟩;have HG3:=Y hg3;clear hg3)
 go_ret2
 exact⟨⟨_,rfl⟩,HG3.out.from HB.out⟩
theorem Ce (h:GR F w g x M)(hO:M.O.length<1000)(t a b c v:Int)(hv:(Lit.int .u64 v).wf=true):
 Calls Tryz.prog 9 #[.pointer (some ⟨g,0,none⟩),.agg #[.int .u8 5,.int .i64 t,.int .i64 a,.int .i64 b,.int .i64 c,.int .u64 v]] w fun e w'=>(∃ r,e=.returned r)/\GRS F w g (iP M t a b).1 w':=by
 obtain⟨W1,hW1,hh,hb⟩:=dh w (5) t a b c v;have HC:=Y (EE (h.below hb) t a b);have HB:=Y hb;have z0:=(hh.cell 0).trans rfl;have z1:=(hh.cell 1).trans rfl;have z2:=(hh.cell 2).trans rfl;have z3:=(hh.cell 3).trans rfl;have z4:=(hh.cell 4).trans rfl;have z5:=(hh.cell 5).trans rfl;clear h hO hb hh hv;go_enter Tryz.func9,Tryz.ntmps9;go_upto_region 1 with(fail)
 rw[<-hW1];clear hW1;go_wp2_with (go_at_call 36;refine HC.out.mono ?_;rintro e w3 ⟨rfl,hg3⟩;have HG3:=Y hg3;clear hg3)
 go_ret2
 exact⟨⟨_,rfl⟩,HG3.out.from HB.out⟩
theorem DI (h:GR F w g x M)(hO:M.O.length<1000)(t a b c v:Int)(hv:(Lit.int .u64 v).wf=true):
 Calls Tryz.prog 9 #[.pointer (some ⟨g,0,none⟩),.agg #[.int .u8 6,.int .i64 t,.int .i64 a,.int .i64 b,.int .i64 c,.int .u64 v]] w fun e w'=>(∃ r,e=.returned r)/\GRS F w g (jk M t a b).1 w':=by
 obtain⟨W1,hW1,hh,hb⟩:=dh w (6) t a b c v;have HC:=Y (EA (h.below hb) t a b);have HB:=Y hb;have z0:=(hh.cell 0).trans rfl;have z1:=(hh.cell 1).trans rfl;have z2:=(hh.cell 2).trans rfl;have z3:=(hh.cell 3).trans rfl;have z4:=(hh.cell 4).trans rfl;have z5:=(hh.cell 5).trans rfl;clear h hO hb hh hv;go_enter Tryz.func9,Tryz.ntmps9;go_upto_region 1 with(fail)
 rw[<-hW1];clear hW1;go_wp2_with (go_at_call 37;refine HC.out.mono ?_;rintro e w3 ⟨rfl,hg3⟩;have HG3:=Y hg3;clear hg3)
 go_ret2
 exact⟨⟨_,rfl⟩,HG3.out.from HB.out⟩
theorem DK (h:GR F w g x M)(hO:M.O.length<1000)(t a b c v:Int)(hv:(Lit.int .u64 v).wf=true):
 Calls Tryz.prog 9 #[.pointer (some ⟨g,0,none⟩),.agg #[.int .u8 7,.int .i64 t,.int .i64 a,.int .i64 b,.int .i64 c,.int .u64 v]] w fun e w'=>(∃ r,e=.returned r)/\GRS F w g (moveF M t a b).1 w':=by
 obtain⟨W1,hW1,hh,hb⟩:=dh w (7) t a b c v;have HC:=Y (CW (h.below hb) t a b);have HB:=Y hb;have z0:=(hh.cell 0).trans rfl;have z1:=(hh.cell 1).trans rfl;have z2:=(hh.cell 2).trans rfl;have z3:=(hh.cell 3).trans rfl;have z4:=(hh.cell 4).trans rfl;have z5:=(hh.cell 5).trans rfl;clear h hO hb hh hv;go_enter Tryz.func9,Tryz.ntmps9;go_upto_region 1 with(fail)
 rw[<-hW1];clear hW1;go_wp2_with (go_at_call 38;refine HC.out.mono ?_;rintro e w3 ⟨rfl,hg3⟩;have HG3:=Y hg3;clear hg3)
 go_ret2
 exact⟨⟨_,rfl⟩,HG3.out.from HB.out⟩
theorem Dg (h:GR F w g x M)(hO:M.O.length<1000)(t a b c v:Int)(hv:(Lit.int .u64 v).wf=true):
 Calls Tryz.prog 9 #[.pointer (some ⟨g,0,none⟩),.agg #[.int .u8 8,.int .i64 t,.int .i64 a,.int .i64 b,.int .i64 c,.int .u64 v]] w fun e w'=>(∃ r,e=.returned r)/\GRS F w g (il M t a).1 w':=by
 obtain⟨W1,hW1,hh,hb⟩:=dh w (8) t a b c v;have HC:=Y (Ba (h.below hb) t a);have HB:=Y hb;have z0:=(hh.cell 0).trans rfl;have z1:=(hh.cell 1).trans rfl;have z2:=(hh.cell 2).trans rfl;have z3:=(hh.cell 3).trans rfl;have z4:=(hh.cell 4).trans rfl;have z5:=(hh.cell 5).trans rfl;clear h hO hb hh hv;go_enter Tryz.func9,Tryz.ntmps9;go_upto_region 1 with(fail)
 rw[<-hW1];clear hW1;go_wp2_with (go_at_call 39;refine HC.out.mono ?_;rintro e w3 ⟨rfl,hg3⟩;have HG3:=Y hg3;clear hg3)
 go_ret2
 exact⟨⟨_,rfl⟩,HG3.out.from HB.out⟩
theorem Cb (h:GR F w g x M)(hO:M.O.length<1000)(t a b c v:Int)(hv:(Lit.int .u64 v).wf=true):
 Calls Tryz.prog 9 #[.pointer (some ⟨g,0,none⟩),.agg #[.int .u8 9,.int .i64 t,.int .i64 a,.int .i64 b,.int .i64 c,.int .u64 v]] w fun e w'=>(∃ r,e=.returned r)/\GRS F w g (gK M t a).1 w':=by
 obtain⟨W1,hW1,hh,hb⟩:=dh w (9) t a b c v;have HC:=Y (Dy (h.below hb) t a);have HB:=Y hb;have z0:=(hh.cell 0).trans rfl;have z1:=(hh.cell 1).trans rfl;have z2:=(hh.cell 2).trans rfl;have z3:=(hh.cell 3).trans rfl;have z4:=(hh.cell 4).trans rfl;have z5:=(hh.cell 5).trans rfl;clear h hO hb hh hv;go_enter Tryz.func9,Tryz.ntmps9;go_upto_region 1 with(fail)
 rw[<-hW1];clear hW1;go_wp2_with (go_at_call 40;refine HC.out.mono ?_;rintro e w3 ⟨rfl,hg3⟩;have HG3:=Y hg3;clear hg3)
 go_ret2
 exact⟨⟨_,rfl⟩,HG3.out.from HB.out⟩
theorem BD (h:GR F w g x M)(hO:M.O.length<1000)(t a b c v:Int)(hv:(Lit.int .u64 v).wf=true):
 Calls Tryz.prog 9 #[.pointer (some ⟨g,0,none⟩),.agg #[.int .u8 10,.int .i64 t,.int .i64 a,.int .i64 b,.int .i64 c,.int .u64 v]] w fun e w'=>(∃ r,e=.returned r)/\GRS F w g (je M t a).1 w':=by
 obtain⟨W1,hW1,hh,hb⟩:=dh w (10) t a b c v;have HC:=Y (Eu (h.below hb) t a);have HB:=Y hb;have z0:=(hh.cell 0).trans rfl;have z1:=(hh.cell 1).trans rfl;have z2:=(hh.cell 2).trans rfl;have z3:=(hh.cell 3).trans rfl;have z4:=(hh.cell 4).trans rfl;have z5:=(hh.cell 5).trans rfl;clear h hO hb hh hv;go_enter Tryz.func9,Tryz.ntmps9;go_upto_region 1 with(fail)
 rw[<-hW1];clear hW1;go_wp2_with (go_at_call 41;refine HC.out.mono ?_;rintro e w3 ⟨rfl,hg3⟩;have HG3:=Y hg3;clear hg3)
 go_ret2
 exact⟨⟨_,rfl⟩,HG3.out.from HB.out⟩
theorem BC (h:GR F w g x M)(hO:M.O.length<1000)(d t a b c v:Int)(hv:(Lit.int .u64 v).wf=true)(hd:d≠0/\d≠1/\d≠2/\d≠3/\d≠4/\d≠5/\d≠6/\d≠7/\d≠8/\d≠9/\d≠10):
 Calls Tryz.prog 9 #[.pointer (some ⟨g,0,none⟩),.agg #[.int .u8 d,.int .i64 t,.int .i64 a,.int .i64 b,.int .i64 c,.int .u64 v]] w fun e w'=>(∃ r,e=.returned r)/\GRS F w g (ku M t a).1 w':=by
 obtain⟨W1,hW1,hh,hb⟩:=dh w d t a b c v;have HB:=Y hb;have HG:=Y (h.below hb);have z0:=(hh.cell 0).trans rfl;have z1:=(hh.cell 1).trans rfl;have z2:=(hh.cell 2).trans rfl;have z3:=(hh.cell 3).trans rfl;have z4:=(hh.cell 4).trans rfl;have z5:=(hh.cell 5).trans rfl;obtain⟨n0,n1,n2,n3,n4,n5,n6,n7,n8,n9,n10⟩:=hd;have q0:decide (d=0)=false:=yd n0;have p0:(d==0)=false:=beq_eq_false_iff_ne.2 n0;have q1:decide (d=1)=false:=yd n1;have p1:(d==1)=false:=beq_eq_false_iff_ne.2 n1;have q2:decide (d=2)=false:=yd n2;have p2:(d==2)=false:=beq_eq_false_iff_ne.2 n2;have q3:decide (d=3)=false:=yd n3;have p3:(d==3)=false:=beq_eq_false_iff_ne.2 n3;have q4:decide (d=4)=false:=yd n4;have p4:(d==4)=false:=beq_eq_false_iff_ne.2 n4;have q5:decide (d=5)=false:=yd n5;have p5:(d==5)=false:=beq_eq_false_iff_ne.2 n5;have q6:decide (d=6)=false:=yd n6;have p6:(d==6)=false:=beq_eq_false_iff_ne.2 n6;have q7:decide (d=7)=false:=yd n7;have p7:(d==7)=false:=beq_eq_false_iff_ne.2 n7;have q8:decide (d=8)=false:=yd n8;have p8:(d==8)=false:=beq_eq_false_iff_ne.2 n8;have q9:decide (d=9)=false:=yd n9;have p9:(d==9)=false:=beq_eq_false_iff_ne.2 n9;have q10:decide (d=10)=false:=yd n10;have p10:(d==10)=false:=beq_eq_false_iff_ne.2 n10;clear n0 n1 n2 n3 n4 n5 n6 n7 n8 n9 n10;rw[show(ku M t a).1=M by unfold ku;split<;>rfl]
 cases hs:bV M t a with
 |none=>
  have HC:=Y (jS (h.below hb) t a hs);clear h hO hb hh hv hs;go_enter Tryz.func9,Tryz.ntmps9;go_upto_region 1 with(fail)
  rw[<-hW1];clear hW1;go_wp2_with (go_at_call 42;refine HC.out.mono ?_;rintro e w3 ⟨rfl,hw3⟩;subst w3)
  go_ret2
  exact⟨⟨_,rfl⟩,(GRS.same HG.out).from HB.out⟩
 |some y=>
  have HC:=Y (jG (h.below hb) t a y hs);clear h hO hb hh hv hs;go_enter Tryz.func9,Tryz.ntmps9;go_upto_region 1 with(fail)
  rw[<-hW1];clear hW1;go_wp2_with (go_at_call 42;refine HC.out.mono ?_;rintro e w3 ⟨rfl,hw3⟩;subst w3)
  go_ret2
  exact⟨⟨_,rfl⟩,(GRS.same HG.out).from HB.out⟩
theorem ES (h:GR F w g x M)(hO:M.O.length<1000)(d t a b c v:Int)(hv:(Lit.int .u64 v).wf=true):
 Calls Tryz.prog 9 #[.pointer (some ⟨g,0,none⟩),.agg #[.int .u8 d,.int .i64 t,.int .i64 a,.int .i64 b,.int .i64 c,.int .u64 v]] w fun e w'=>(∃ r,e=.returned r)/\GRS F w g (oG M d t a b c v) w':=by
 unfold oG
 by_cases d0:d=0
 . rw[if_pos d0,d0];exact D6 h hO t a b c v hv
 rw[if_neg d0]
 by_cases d1:d=1
 . rw[if_pos d1,d1];exact Dc h hO t a b c v hv
 rw[if_neg d1]
 by_cases d2:d=2
 . rw[if_pos d2,d2];exact D9 h hO t a b c v hv
 rw[if_neg d2]
 by_cases d3:d=3
 . rw[if_pos d3,d3];exact Dm h hO t a b c v hv
 rw[if_neg d3]
 by_cases d4:d=4
 . rw[if_pos d4,d4];exact Da h hO t a b c v hv
 rw[if_neg d4]
 by_cases d5:d=5
 . rw[if_pos d5,d5];exact Ce h hO t a b c v hv
 rw[if_neg d5]
 by_cases d6:d=6
 . rw[if_pos d6,d6];exact DI h hO t a b c v hv
 rw[if_neg d6]
 by_cases d7:d=7
 . rw[if_pos d7,d7];exact DK h hO t a b c v hv
 rw[if_neg d7]
 by_cases d8:d=8
 . rw[if_pos d8,d8];exact Dg h hO t a b c v hv
 rw[if_neg d8]
 by_cases d9:d=9
 . rw[if_pos d9,d9];exact Cb h hO t a b c v hv
 rw[if_neg d9]
 by_cases d10:d=10
 . rw[if_pos d10,d10];exact BD h hO t a b c v hv
 rw[if_neg d10];exact BC h hO d t a b c v hv ⟨d0,d1,d2,d3,d4,d5,d6,d7,d8,d9,d10⟩
end
end
section
theorem eval_put_same {a:Act}{t:Nat}{v:Value}(h:t<a.tmps.size):(a.put (some t) v).eval (.tmp t)=v:=jT (mo a t v h)
theorem eval_put_ne {a:Act}{t t':Nat}{v:Value}(h:t≠t'):(a.put (some t) v).eval (.tmp t')=a.eval (.tmp t'):=fZ (iq a (some t) v t' (fun e=>h (Option.some.inj e)))
theorem mJ {L:Array Bool}{i:Nat}(h:i<L.size):(L.setIfInBounds i true).getD i false=true:=by
 rw[Array.getD_eq_getD_getElem?,Array.getElem?_setIfInBounds_self_of_lt h];rfl
def okP (pt:List (Nat×Nat))(C:List (Nat×Nat×Nat))(i t:Nat):Bool:=(pt.all fun x=>if x.1=i then x.2==t else x.2 != t) && C.all fun y=>y.1 != i && y.2.1 != i && y.2.2 != t
def okA (pt:List (Nat×Nat))(C:List (Nat×Nat×Nat))(i k t:Nat):Bool:=(pt.all fun x=>x.1 != i && x.2 != t) && C.all fun y=>y.2.1 != i && (if y.1=i then y.2.1==k && y.2.2==t else y.2.2 != t)
def okS (pt:List (Nat×Nat))(C:List (Nat×Nat×Nat))(i k t:Nat):Bool:=(pt.all fun x=>x.1 != k) && C.all fun y=>y.1 != k && (if y.2.1=k then y.1==i && y.2.2==t else y.1 != i)
structure IC (w0:World)(pt:List (Nat×Nat))(pv:Nat->Value)(C:List (Nat×Nat×Nat))(cx:Nat->Int)(L:Array Bool)(a:Act)(w:World):Prop where
 below:Below w0.heap.size w0 w
 p:∀ x∈pt,L.getD x.1 false=true->a.eval (.tmp x.2)=pv x.1
 c:∀ x∈C,L.getD x.1 false=true->∃ q,a.eval (.tmp x.2.2)=.pointer (some ⟨q,0,none⟩)/\w0.heap.size<=q/\Holds w q 3 [.int .i64 (if L.getD x.2.1 false=true then cx x.1 else 0)]
 d:∀ x∈C,∀ y∈C,x.1≠y.1->L.getD x.1 false=true->L.getD y.1 false=true->a.eval (.tmp x.2.2)≠a.eval (.tmp y.2.2)
 o:∀ x∈C,L.getD x.2.1 false=true->L.getD x.1 false=true
section
variable {w0 w:World} {pt:List (Nat×Nat)} {pv:Nat→Value} {C:List (Nat×Nat×Nat)} {cx:Nat→Int} {L:Array Bool} {a:Act}
theorem IC.pure (h:IC w0 pt pv C cx L a w){i t:Nat}(ht:t<a.tmps.size)(hi:i<L.size)(hok:okP pt C i t=true):IC w0 pt pv C cx (L.setIfInBounds i true) (a.put (some t) (pv i)) w:=by
 unfold okP at hok;rw[Bool.and_eq_true,List.all_eq_true,List.all_eq_true]at hok
 have hC:∀ y∈C,y.1≠i/\y.2.1≠i/\y.2.2≠t:=fun y hy=>by
  have:=hok.2 y hy;simp only[Bool.and_eq_true,bne_iff_ne]at this;exact⟨this.1.1,this.1.2,this.2⟩
 refine⟨h.below,fun x hx hl=>?_,fun x hx hl=>?_,fun x hx y hy hne hl hl'=>?_,fun x hx hl=>?_⟩
 . have h1:=hok.1 x hx
   by_cases e:x.1=i
   . rw[if_pos e]at h1;have h2:x.2=t:=by simpa using h1
     rw[h2,e];exact eval_put_same ht
   . rw[if_neg e]at h1;rw[eval_put_ne (fun e2=>by rw[e2]at h1;simp at h1)]
     rw[getD_set_ne false (fun e2=>e e2.symm)]at hl
     exact h.p x hx hl
 . obtain⟨h1,h2,h3⟩:=hC x hx;rw[getD_set_ne false (Ne.symm h1)]at hl;rw[eval_put_ne (Ne.symm h3),getD_set_ne false (Ne.symm h2)];exact h.c x hx hl
 . obtain⟨h1,h2,h3⟩:=hC x hx;obtain⟨k1,k2,k3⟩:=hC y hy;rw[getD_set_ne false (Ne.symm h1)]at hl;rw[getD_set_ne false (Ne.symm k1)]at hl';rw[eval_put_ne (Ne.symm h3),eval_put_ne (Ne.symm k3)];exact h.d x hx y hy hne hl hl'
 . obtain⟨h1,h2,h3⟩:=hC x hx;rw[getD_set_ne false (Ne.symm h1)];rw[getD_set_ne false (Ne.symm h2)]at hl;exact h.o x hx hl
theorem IC.alloc (h:IC w0 pt pv C cx L a w){i k t:Nat}(hx:(i,k,t)∈C)(ht:t<a.tmps.size)(hi:i<L.size)(hn:L.getD i false=false)(hok:okA pt C i k t=true):IC w0 pt pv C cx (L.setIfInBounds i true) (a.put (some t) (.pointer (some ⟨w.heap.size,0,none⟩))) (w.alloc (.cells #[.int .i64 0] 3)):=by
 unfold okA at hok;rw[Bool.and_eq_true,List.all_eq_true,List.all_eq_true]at hok
 have hk:L.getD k false=false:=by
  cases e:L.getD k false with
  |false=>rfl
  |true=>exact absurd (h.o _ hx e) (by rw[hn];decide)
 have hb:=ae (Below.refl w.heap.size w) (.cells #[.int .i64 0] 3)
 have hC:∀ y∈C,y.2.1≠i/\(y.1=i->y=(i,k,t))/\(y.1≠i->y.2.2≠t):=fun y hy=>by
  have h1:=hok.2 y hy;rw[Bool.and_eq_true,bne_iff_ne]at h1;refine⟨h1.1,fun e=>?_,fun e=>?_⟩
  . have h2:=h1.2;rw[if_pos e,Bool.and_eq_true,beq_iff_eq,beq_iff_eq]at h2;obtain⟨y1,y2,y3⟩:=y;simp only at e h2;rw[e,h2.1,h2.2]
  . have h2:=h1.2;rw[if_neg e,bne_iff_ne]at h2;exact h2
 have hold:∀ y∈C,y.1≠i->L.getD y.1 false=true->∃ q,a.eval (.tmp y.2.2)=.pointer (some ⟨q,0,none⟩)/\q<w.heap.size:=fun y hy hne hl=>by
  obtain⟨q,e,_,hq⟩:=h.c y hy hl;exact⟨q,e,hq.lt⟩
 refine⟨ag h.below h.below.size hb,fun x hx' hl=>?_,fun y hy hl=>?_,fun x hx' y hy hne hl hl'=>?_,fun y hy hl=>?_⟩
 . have h1:=hok.1 x hx';rw[Bool.and_eq_true,bne_iff_ne,bne_iff_ne]at h1;rw[eval_put_ne (Ne.symm h1.2)];rw[getD_set_ne false (Ne.symm h1.1)]at hl;exact h.p x hx' hl
 . obtain⟨h1,h2,h3⟩:=hC y hy;rw[getD_set_ne false (Ne.symm h1)]
   by_cases e:y.1=i
   . obtain rfl:=h2 e;refine⟨w.heap.size,eval_put_same ht,h.below.size,?_⟩;rw[hk];exact aK _ _
   . rw[getD_set_ne false (Ne.symm e)]at hl;obtain⟨q,e1,e2,e3⟩:=h.c y hy hl;exact⟨q,by rw[eval_put_ne (Ne.symm (h3 e))];exact e1,e2,e3.below hb⟩
 . obtain⟨_,h2,h3⟩:=hC x hx';obtain⟨_,k2,k3⟩:=hC y hy
   by_cases e:x.1=i
   . have ey:y.1≠i:=fun e'=>hne (e.trans e'.symm)
     obtain rfl:=h2 e;rw[getD_set_ne false (Ne.symm ey)]at hl';obtain⟨q,e1,e2⟩:=hold y hy ey hl';rw[show(a.put (some t) (Value.pointer (some ⟨w.heap.size,0,none⟩))).eval (.tmp t)=_ from eval_put_same ht,eval_put_ne (Ne.symm (k3 ey)),e1]
     intro e3;injection e3 with e3
     injection e3 with e3
     injection e3 with e3
     omega
   . rw[getD_set_ne false (Ne.symm e)]at hl
     by_cases ey:y.1=i
     . obtain rfl:=k2 ey;obtain⟨q,e1,e2⟩:=hold x hx' e hl;rw[show(a.put (some t) (Value.pointer (some ⟨w.heap.size,0,none⟩))).eval (.tmp t)=_ from eval_put_same ht,eval_put_ne (Ne.symm (h3 e)),e1]
       intro e3;injection e3 with e3
       injection e3 with e3
       injection e3 with e3
       omega
     . rw[getD_set_ne false (Ne.symm ey)]at hl';rw[eval_put_ne (Ne.symm (h3 e)),eval_put_ne (Ne.symm (k3 ey))];exact h.d x hx' y hy hne hl hl'
 . obtain⟨h1,h2,_⟩:=hC y hy;rw[getD_set_ne false (Ne.symm h1)]at hl;have h3:=h.o y hy hl
   by_cases e:y.1=i
   . rw[e];exact mJ hi
   . rw[getD_set_ne false (Ne.symm e)];exact h3
theorem IC.store (h:IC w0 pt pv C cx L a w){i k t q:Nat}{v:Value}(hx:(i,k,t)∈C)(hk:k<L.size)(hd:L.getD i false=true)(hq:a.eval (.tmp t)=.pointer (some ⟨q,0,none⟩))(hok:okS pt C i k t=true):IC w0 pt pv C cx (L.setIfInBounds k true) (a.put none v) (w.setCell ⟨q,0,none⟩ (.int .i64 (cx i))):=by
 unfold okS at hok;rw[Bool.and_eq_true,List.all_eq_true,List.all_eq_true]at hok
 have hC:∀ y∈C,y.1≠k/\(y.2.1=k->y=(i,k,t))/\(y.2.1≠k->y.1≠i):=fun y hy=>by
  have h1:=hok.2 y hy;rw[Bool.and_eq_true,bne_iff_ne]at h1;refine⟨h1.1,fun e=>?_,fun e=>?_⟩
  . have h2:=h1.2;rw[if_pos e,Bool.and_eq_true,beq_iff_eq,beq_iff_eq]at h2;obtain⟨y1,y2,y3⟩:=y;simp only at e h2;rw[e,h2.1,h2.2]
  . have h2:=h1.2;rw[if_neg e,bne_iff_ne]at h2;exact h2
 obtain⟨q',e1,hB,hh⟩:=h.c _ hx hd
 obtain rfl:q=q':=by
  have:=hq.symm.trans e1;injection this with this
  injection this with this
  injection this
 have hs:=bu w q 0 (.int .i64 (cx i));show IC w0 pt pv C cx (L.setIfInBounds k true) a _
 refine⟨hs.below h.below hB,fun x hx' hl=>?_,fun y hy hl=>?_,fun x hx' y hy hne hl hl'=>?_,fun y hy hl=>?_⟩
 . have h1:=hok.1 x hx';rw[bne_iff_ne]at h1;rw[getD_set_ne false (Ne.symm h1)]at hl;exact h.p x hx' hl
 . obtain⟨h1,h2,h3⟩:=hC y hy;rw[getD_set_ne false (Ne.symm h1)]at hl
   by_cases e:y.2.1=k
   . obtain rfl:=h2 e;refine⟨q,e1,hB,?_⟩;rw[if_pos (mJ hk)];exact bB hh (k:=0) (by show 0<1;decide) _
   . rw[getD_set_ne false (Ne.symm e)];obtain⟨q2,e2,e3,e4⟩:=h.c y hy hl;refine⟨q2,e2,e3,hs.holds e4 (fun eq=>?_)⟩
     exact h.d _ hx y hy (Ne.symm (h3 e)) hd hl (by rw[show a.eval (.tmp t)=_ from hq,e2,eq])
 . rw[getD_set_ne false (Ne.symm (hC x hx').1)]at hl;rw[getD_set_ne false (Ne.symm (hC y hy).1)]at hl';exact h.d x hx' y hy hne hl hl'
 . obtain⟨h1,h2,h3⟩:=hC y hy;rw[getD_set_ne false (Ne.symm h1)]
   by_cases e:y.2.1=k
   . obtain rfl:=h2 e;exact hd
   . rw[getD_set_ne false (Ne.symm e)]at hl;exact h.o y hy hl
end
structure IR (w0:World)(F:Nat->Prop)(n:Nat)(R:World->Prop)(pt:List (Nat×Nat))(pv:Nat->Value)(L:Array Bool)(a:Act)(w:World):Prop where
 b:L.getD n false=false->Below w0.heap.size w0 w
 r:L.getD n false=true->R w
 k:Kp F w0 w
 p:∀ x∈pt,L.getD x.1 false=true->a.eval (.tmp x.2)=pv x.1
section
variable {w0 w w':World} {F:Nat→Prop} {n:Nat} {R:World→Prop} {pt:List (Nat×Nat)} {pv:Nat→Value} {L:Array Bool} {a:Act}
theorem IR.vals (h:IR w0 F n R pt pv L a w){i t:Nat}(ht:t<a.tmps.size)(hok:okP pt [] i t=true):∀ x∈pt,(L.setIfInBounds i true).getD x.1 false=true->(a.put (some t) (pv i)).eval (.tmp x.2)=pv x.1:=by
 unfold okP at hok;rw[Bool.and_eq_true,List.all_eq_true]at hok;intro x hx hl;have h1:=hok.1 x hx
 by_cases e:x.1=i
 . rw[if_pos e]at h1;have h2:x.2=t:=by simpa using h1
   rw[h2,e];exact eval_put_same ht
 . rw[if_neg e]at h1;rw[eval_put_ne (fun e2=>by rw[e2]at h1;simp at h1)]
   rw[getD_set_ne false (fun e2=>e e2.symm)]at hl
   exact h.p x hx hl
theorem IR.pure (h:IR w0 F n R pt pv L a w)(hR:∀ w w',R w->Below w.heap.size w w'->R w'){i t:Nat}(ht:t<a.tmps.size)(hin:i≠n)(hok:okP pt [] i t=true)(hb:Below w.heap.size w w'):IR w0 F n R pt pv (L.setIfInBounds i true) (a.put (some t) (pv i)) w':=by
 refine⟨fun hl=>?_,fun hl=>?_,h.k.trans (bX F hb) (fun _ _ e=>e),h.vals ht hok⟩
 . rw[getD_set_ne false hin]at hl;exact ag (h.b hl) (h.b hl).size hb
 . rw[getD_set_ne false hin]at hl;exact hR _ _ (h.r hl) hb
theorem IR.call (h:IR w0 F n R pt pv L a w){t:Nat}(ht:t<a.tmps.size)(hn:n<L.size)(hok:okP pt [] n t=true)(hr:R w')(hk:Kp F w0 w'):IR w0 F n R pt pv (L.setIfInBounds n true) (a.put (some t) (pv n)) w':=by
 refine⟨fun hl=>?_,fun _=>hr,hk,h.vals ht hok⟩
 rw[mJ hn]at hl;cases hl
end
end
end Go.Proofs.YtglikkmmbdnmbaaGreat.Im

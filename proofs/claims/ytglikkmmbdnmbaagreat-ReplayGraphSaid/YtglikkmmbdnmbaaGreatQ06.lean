/- The graph's stacks: to push a slot's value, to pop one. -/
import Derived.Test.YtglikkmmbdnmbaaGreatQ05
set_option maxHeartbeats 8000000
set_option maxRecDepth 100000
namespace Go.Proofs.YtglikkmmbdnmbaaGreat.Im
open Go.RowKit Q7
open YtglikkmmbdnmbaaGreat.Own PCan Wv
set_option linter.unusedVariables false
set_option linter.unusedSimpArgs false
section
theorem fq.push {cs:List Value}{t:LL}(h:fq cs t)(h8:t.1.length<=8)(hd:t.2.length<16)(y:Int):fq ((cs.set (9+t.2.length) (.int .i64 y)).set 25 (.int .i64 ((t.2.length:Int)+1))) (t.1,t.2++[y]):=by
 refine⟨by rw[List.length_set,List.length_set];exact h.len,fun i z hi=>?_,?_,fun i z hi=>?_,?_⟩
 . have hi':t.1[i]? =some z:=hi;have:=(List.getElem?_eq_some_iff.1 hi').1;rw[List.getElem?_set_ne (by omega),List.getElem?_set_ne (by omega)]
   exact h.sl i z hi'
 . rw[List.getElem?_set_ne (by omega),List.getElem?_set_ne (by omega)]
   exact h.n
 . have hi':(t.2++[y])[i]? =some z:=hi;have hlt:=(List.getElem?_eq_some_iff.1 hi').1;rw[List.length_append,List.length_singleton]at hlt;rw[List.getElem?_set_ne (by omega)]
   by_cases e:i=t.2.length
   . subst e;rw[List.getElem?_set_self (by rw[h.len];omega)]
     have:y=z:=by simpa using hi'
     rw[this]
   . rw[List.getElem?_append_left (by omega)]at hi'
     rw[List.getElem?_set_ne (by omega)]
     exact h.st i z hi'
 . rw[List.getElem?_set_self (by rw[List.length_set,h.len];omega)]
   show _=some (Value.int .i64 (((t.2++[y]).length:Nat):Int))
   rw[List.length_append,List.length_singleton];rfl
theorem fq.pop {cs:List Value}{t:LL}(h:fq cs t)(h8:t.1.length<=8){d:Nat}(hd:t.2.length=d+1)(h16:t.2.length<=16):fq (cs.set 25 (.int .i64 (d:Int))) (t.1,t.2.dropLast):=by
 refine⟨by rw[List.length_set];exact h.len,fun i z hi=>?_,?_,fun i z hi=>?_,?_⟩
 . have hi':t.1[i]? =some z:=hi;have:=(List.getElem?_eq_some_iff.1 hi').1;rw[List.getElem?_set_ne (by omega)]
   exact h.sl i z hi'
 . rw[List.getElem?_set_ne (by omega)]
   exact h.n
 . have hi':t.2.dropLast[i]? =some z:=hi;have hlt:=(List.getElem?_eq_some_iff.1 hi').1;rw[List.length_dropLast]at hlt;rw[List.getElem?_dropLast,if_pos (by omega)]at hi'
   rw[List.getElem?_set_ne (by omega)]
   exact h.st i z hi'
 . rw[List.getElem?_set_self (by rw[h.len];omega)]
   show _=some (Value.int .i64 ((t.2.dropLast.length:Nat):Int))
   rw[List.length_dropLast,hd];rfl
def fU (t:LL)(i:Int):LL×Int:=match atI t.1 i with
 |none=>(t,2)
 |some x=>if t.2.length=16 then(t,4)else((t.1,t.2++[x]),0)
def iI (t:LL)(i:Int):LL×Int:=match atI t.1 i with
 |none=>(t,2)
 |some _=>match t.2.getLast? with
  |none=>(t,5)
  |some x=>((t.1.set i.toNat x,t.2.dropLast),0)
theorem Cg {M:Gm}{k:Nat}{th:LL}(hk:M.T[k]? =some th)(i:Int):(∀ j,(gK M k i).1.T[j]? =if k=j then some (fU th i).1 else M.T[j]?)/\(gK M k i).1.T.length=M.T.length/\(gK M k i).1.G=M.G/\(gK M k i).1.O=M.O/\(gK M k i).2.2=(fU th i).2/\(Gwf M->Gwf (gK M k i).1):=by
 have same:∀ j,M.T[j]? =if k=j then some th else M.T[j]?:=fun j=>by
  by_cases e:k=j
  . rw[if_pos e,<-e,hk]
  . rw[if_neg e]
 unfold gK fU;rw[lc,hk];simp only[];cases hi:atI th.1 i with
 |none=>exact⟨same,rfl,rfl,rfl,rfl,id⟩
 |some x=>
  simp only[]
  by_cases h16:th.2.length=16
  . rw[if_pos h16,if_pos h16];exact⟨same,rfl,rfl,rfl,rfl,id⟩
  . rw[if_neg h16,if_neg h16];refine⟨fun j=>gD M.T _ k j hk,List.length_modify ..,rfl,rfl,rfl,fun hw=>?_⟩
    have ho:=hw.ts th (List.mem_iff_getElem?.2 ⟨k,hk⟩);obtain⟨n,_,hn,_⟩:=dC hi;refine hw.zX _ (by have:=ho.k;rw[List.length_append,List.length_singleton];omega) (fun y hy=>?_)
    rcases List.mem_append.1 hy with hy|hy
    . exact ho.rk y hy
    . obtain rfl:=List.mem_singleton.1 hy;exact ho.rs y (List.mem_iff_getElem?.2 ⟨n,hn⟩)
theorem pop_T {M:Gm}{k:Nat}{th:LL}(hk:M.T[k]? =some th)(i:Int):(∀ j,(je M k i).1.T[j]? =if k=j then some (iI th i).1 else M.T[j]?)/\(je M k i).1.T.length=M.T.length/\(je M k i).1.G=M.G/\(je M k i).1.O=M.O/\(je M k i).2.2=(iI th i).2/\(Gwf M->Gwf (je M k i).1):=by
 have same:∀ j,M.T[j]? =if k=j then some th else M.T[j]?:=fun j=>by
  by_cases e:k=j
  . rw[if_pos e,<-e,hk]
  . rw[if_neg e]
 unfold je iI;rw[lc,hk];simp only[];cases hi:atI th.1 i with
 |none=>exact⟨same,rfl,rfl,rfl,rfl,id⟩
 |some x=>
  simp only[];cases hl:th.2.getLast? with
  |none=>exact⟨same,rfl,rfl,rfl,rfl,id⟩
  |some z=>
   have hk2:(setK M k th.2.dropLast).T[k]? =some (th.1,th.2.dropLast):=by
    show(M.T.modify _ _)[k]? =_
    rw[show((k:Int)).toNat=k from rfl,gD M.T _ k k hk,if_pos rfl]
   refine⟨fun j=>?_,by show((M.T.modify _ _).modify _ _).length=_;rw[List.length_modify,List.length_modify],rfl,rfl,rfl,fun hw=>?_⟩
   . show((setK M k th.2.dropLast).T.modify _ _)[j]? =_
     rw[show((k:Int)).toNat=k from rfl,gD _ _ k j hk2]
     by_cases e:k=j
     . rw[if_pos e,if_pos e]
     . rw[if_neg e,if_neg e];show(M.T.modify _ _)[j]? =_
       rw[show((k:Int)).toNat=k from rfl,gD M.T _ k j hk,if_neg e]
   . have ho:=hw.ts th (List.mem_iff_getElem?.2 ⟨k,hk⟩);refine(hw.zX _ (by have:=ho.k;rw[List.length_dropLast];omega) (fun y hy=>ho.rk y (List.dropLast_subset _ hy))).vw _ _ ?_
     exact ho.rk z (List.mem_of_getLast? hl)
theorem i64_in {n:Int}(h:0<=n/\n<=65535):IntKind.i64.wrap n=n:=by rw[IntKind.wrap_i64];omega
theorem sG {w:World}(b i:Nat)(v:Value):bH w (w.setCell ⟨b,i,none⟩ v).drew b:=by
 have h:=bu w b i v;exact⟨h.os,h.tape,h.output,h.size,h.block⟩
theorem nK {w w1 w2:World}{b:Nat}(h:bH w w1 b)(k:bH w1 w2 b):bH w w2 b:=⟨k.os.trans h.os,k.tape.trans h.tape,k.output.trans h.output,k.size.trans h.size,fun q hq=>(k.block q hq).trans (h.block q hq)⟩
section
variable {b:Nat} {cs:List Value} {t:LL} {w:World}
theorem c67 (hc:Holds w b 119 cs)(ht:fq cs t)(hl:t.1.length<=8)(hd:t.2.length<=16)(i:Int):
 Calls Tryz.prog 67 #[.pointer (some ⟨b,0,none⟩),.int .i64 i] w fun e w'=>e=.returned (.int .i64 (fU t i).2)/\bH w w' b/\∃ cs',Holds w' b 119 cs'/\fq cs' (fU t i).1:=by
 have HH:=Y hc;have HT:=Y (And.intro ht (And.intro hl hd));have x25:w.cell? ⟨b,25,none⟩=some (.int .i64 (t.2.length:Int)):=(hc.cell 25).trans ht.deep;cases hi:atI t.1 i with
 |none=>
  have HC:=Y (xJ hc ht i hi);rw[show fU t i=(t,2) by unfold fU;rw[hi]]
  clear hc ht hl hd hi;go_enter Tryz.func67,Tryz.ntmps67;go_wp2_with (go_at_call 95;refine HC.out.mono ?_;rintro e w2 ⟨rfl,hw2⟩;subst w2)
  go_ret
  exact⟨rfl,⟨rfl,rfl,rfl,rfl,fun _ _=>rfl⟩,_,HH.out,HT.out.1⟩
 |some y=>
  obtain⟨k,rfl,hk,hlt⟩:=dC hi;have HC:=Y (tq hc ht k hlt hl);have xk:w.cell? ⟨b,k,none⟩=some (.int .i64 y):=(hc.cell k).trans (ht.sl k y hk)
  by_cases h16:t.2.length=16
  . rw[show fU t (k:Int)=(t,4) by unfold fU;rw[hi];simp only[];rw[if_pos h16]]
    rw[h16,show((16:Nat):Int)=16 from rfl]at x25
    clear hc ht hl hd hi hk hlt h16;go_enter Tryz.func67,Tryz.ntmps67;go_wp2_with (go_at_call 95;refine HC.out.mono ?_;rintro e w2 ⟨rfl,hw2⟩;subst w2)
    go_ret
    exact⟨rfl,⟨rfl,rfl,rfl,rfl,fun _ _=>rfl⟩,_,HH.out,HT.out.1⟩
  . rw[show fU t (k:Int)=((t.1,t.2++[y]),0) by unfold fU;rw[hi];simp only[];rw[if_neg h16]]
    have q1:decide ((t.2.length:Int)=16)=false:=yd (by omega)
    have q1':decide (t.2.length=16)=false:=yd h16;have q2:(0:Int)<=(t.2.length:Int):=by omega
    have q3:(t.2.length:Int)<16:=by omega
    have HD:=Y (show t.2.length<16 by omega)
    obtain⟨v9,hv9⟩:∃ v,w.cell? ⟨b,9+t.2.length,none⟩=some v:=by
     have:=hc.cell (9+t.2.length);rw[List.getElem?_eq_getElem (by rw[ht.len];omega)]at this
     exact⟨_,this⟩
    have y9:w.drew.cell? ⟨b,9+t.2.length,none⟩=some v9:=hv9;have z9:=ak (show Holds w.drew b 119 cs from hc) (9+t.2.length)
    have HST:=Y (sG (w:=w) b (9+t.2.length) (.int .i64 y));have HH2:=Y (show Holds (w.setCell ⟨b,9+t.2.length,none⟩ (.int .i64 y)).drew b 119 _ from bB hc (k:=9+t.2.length) (by rw[ht.len];omega) (.int .i64 y))
    have HL:=Y ht.len;clear hc ht hl hd hi hk hlt h16 hv9;go_enter Tryz.func67,Tryz.ntmps67;go_upto_region 6 with(go_at_call 95;refine HC.out.mono ?_;rintro e w2 ⟨rfl,hw2⟩;subst w2)
    go_still_tail 11,(by kernel_rfl)
    change wpList _ _ _ _ _ w.drew
    go_upto_region 7 with(fail)
    obtain⟨W2,hW2⟩:∃ W2,W2=(w.setCell ⟨b,9+t.2.length,none⟩ (.int .i64 y)).drew:=⟨_,rfl⟩;rw[<-hW2]at HST HH2 ⊢;clear hW2 y9 z9;have x26:W2.cell? ⟨b,25,none⟩=some (.int .i64 (t.2.length:Int)):=(HH2.out.cell 25).trans (by rw[List.getElem?_set_ne (by have:=HD.out;omega)];exact HT.out.1.deep)
    have z26:=ak HH2.out 25;have hw1:IntKind.i64.wrap ((t.2.length:Int)+1)=(t.2.length:Int)+1:=i64_in (by omega)
    go_wp2_with fail
    go_ret
    exact⟨rfl,nK HST.out (bu _ _ _ _),_,bB HH2.out (k:=25) (by rw[List.length_set,HL.out];decide) _,HT.out.1.push HT.out.2.1 HD.out y⟩
theorem c68 (hc:Holds w b 119 cs)(ht:fq cs t)(hl:t.1.length<=8)(hd:t.2.length<=16)(i:Int):
 Calls Tryz.prog 68 #[.pointer (some ⟨b,0,none⟩),.int .i64 i] w fun e w'=>e=.returned (.int .i64 (iI t i).2)/\bH w w' b/\∃ cs',Holds w' b 119 cs'/\fq cs' (iI t i).1:=by
 have HH:=Y hc;have HT:=Y (And.intro ht (And.intro hl hd));have x25:w.cell? ⟨b,25,none⟩=some (.int .i64 (t.2.length:Int)):=(hc.cell 25).trans ht.deep;cases hi:atI t.1 i with
 |none=>
  have HC:=Y (xJ hc ht i hi);rw[show iI t i=(t,2) by unfold iI;rw[hi]]
  clear hc ht hl hd hi;go_enter Tryz.func68,Tryz.ntmps68;go_wp2_with (go_at_call 95;refine HC.out.mono ?_;rintro e w2 ⟨rfl,hw2⟩;subst w2)
  go_ret
  exact⟨rfl,⟨rfl,rfl,rfl,rfl,fun _ _=>rfl⟩,_,HH.out,HT.out.1⟩
 |some y=>
  obtain⟨k,rfl,hk,hlt⟩:=dC hi;have HC:=Y (tq hc ht k hlt hl);cases hg:t.2.getLast? with
  |none=>
   rw[show iI t (k:Int)=(t,5) by unfold iI;rw[hi];simp only[];rw[hg]]
   have h0:t.2.length=0:=by rw[List.getLast?_eq_none_iff]at hg;rw[hg];rfl
   rw[h0,show((0:Nat):Int)=0 from rfl]at x25
   clear hc ht hl hd hi hk hlt h0 hg;go_enter Tryz.func68,Tryz.ntmps68;go_wp2_with (go_at_call 95;refine HC.out.mono ?_;rintro e w2 ⟨rfl,hw2⟩;subst w2)
   go_ret
   exact⟨rfl,⟨rfl,rfl,rfl,rfl,fun _ _=>rfl⟩,_,HH.out,HT.out.1⟩
  |some z=>
   rw[show iI t (k:Int)=((t.1.set k z,t.2.dropLast),0) by unfold iI;rw[hi];simp only[];rw[hg];rfl]
   obtain⟨d,hd1⟩:∃ d,t.2.length=d+1:=by
    cases e:t.2 with
    |nil=>rw[e]at hg;cases hg
    |cons a l=>exact⟨l.length,rfl⟩
   have hz:t.2[d]? =some z:=by rw[List.getLast?_eq_getElem?,hd1]at hg;exact hg
   rw[hd1,show((d+1:Nat):Int)=(d:Int)+1 by omega]at x25
   have q1:decide ((d:Int)+1=0)=false:=yd (by omega)
   have hw1:IntKind.i64.wrap ((d:Int)+1 - 1)=(d:Int):=by rw[i64_in (by omega)];omega
   have hw2:IntKind.i64.wrap (d:Int)=(d:Int):=i64_in (by omega)
   have z25:=ak hc 25;have HST:=Y (bu w b 25 (.int .i64 (d:Int)));have HH2:=Y (bB hc (k:=25) (by rw[ht.len];decide) (.int .i64 (d:Int)))
   have HT2:=Y (ht.pop hl hd1 hd);have HL:=Y ht.len;have HK:=Y (And.intro hk (And.intro hlt hl));have q2:(0:Int)<=(d:Int):=by omega
   have q3:(d:Int)<16:=by omega
   have HZ:=Y (ht.st d z hz);clear hc ht hl hd hi hk hlt hg hd1 hz;go_enter Tryz.func68,Tryz.ntmps68;go_upto_region 7 with(go_at_call 95;refine HC.out.mono ?_;rintro e w2 ⟨rfl,hw2⟩;subst w2)
   obtain⟨W2,hW2⟩:∃ W2,W2=w.setCell ⟨b,25,none⟩ (.int .i64 (d:Int)):=⟨_,rfl⟩;rw[<-hW2]at HST HH2 ⊢;clear hW2 x25 z25 hw1 hw2 q1;have x26:W2.cell? ⟨b,25,none⟩=some (.int .i64 (d:Int)):=(HH2.out.cell 25).trans (List.getElem?_set_self (by rw[HL.out];decide))
   have x27:W2.cell? ⟨b,9+d,none⟩=some (.int .i64 z):=(HH2.out.cell (9+d)).trans (by rw[List.getElem?_set_ne (by omega)];exact HZ.out)
   go_still_tail 11,(by kernel_rfl)
   change wpList _ _ _ _ _ W2.drew
   have y9:W2.drew.cell? ⟨b,k,none⟩=some (.int .i64 y):=(HH2.out.cell k).trans (by rw[List.getElem?_set_ne (by have:=HK.out.2;omega)];exact HT.out.1.sl k y HK.out.1)
   have z9:=ak (show Holds W2.drew b 119 _ from HH2.out) k
   go_wp2_with fail
   go_ret
   refine⟨rfl,nK HST.out (sG _ _ _),_,(show Holds (W2.setCell ⟨b,k,none⟩ (.int .i64 z)).drew b 119 _ from bB HH2.out (k:=k) (by rw[List.length_set,HL.out];have:=HK.out.2;omega) _),?_⟩
   exact HT2.out.set HK.out.2.1 HK.out.2.2 z
end
section
variable {F:Nat→Prop} {w:World} {g:Nat} {x:Gw} {M:Gm}
theorem BH (h:GL F w g x M)(t i:Int):
 Calls Tryz.prog 28 #[.pointer (some ⟨g,0,none⟩),.int .i64 t,.int .i64 i] w fun e w'=>e=.returned (.int .i64 (gK M t i).2.2)/\GStep F w g (gK M t i).1 w':=by
 obtain⟨ge,W1,hge,hW,h3,hgl,hb,hF,hle⟩:=eY F w g x M h;have H3:=Y h3;have HG:=Y hgl;have HB:=Y hb;have HF:=Y hF;have HL:=Y hle;cases ht:atI M.T t with
 |none=>
  rw[show gK M t i=(M,0,2) by unfold gK;rw[ht]]
  have HA:=Y (uP hgl t ht);clear h3 hgl hb hF hle h ht
  go_enter_defers Tryz.func28,Tryz.ntmps28
  go_upto_region 2 with(fail)
  rw[<-hW,<-hge];clear hW hge;go_wp2_with (go_at_call 66;refine HA.out.mono ?_;rintro e w2 ⟨rfl,hw2⟩;subst w2);exact dA rfl H3.out HG.out HF.out HB.out HL.out (fun W'=>iC rfl rfl W')
 |some th=>
  obtain⟨k,rfl,hk,hlt⟩:=dC ht;obtain⟨b,cs,hb2,xT,hc,htc,hok⟩:=hgl.thr hk;have HA:=Y (qF hgl k b hlt xT);have HC:=Y (c67 hc htc hok.s8 hok.k i);obtain⟨p1,p2,p3,p4,p5,p6⟩:=Cg hk i;rw[p5];have HP:=Y (And.intro hb2 (And.intro p1 (And.intro p2 (And.intro p3 (And.intro p4 (p6 h.wf))))));have HBF:=Y (hgl.fp.2.2.2.2.1 b (List.mem_iff_getElem?.2 ⟨k,hb2⟩));have z3:=(h3.cell 0).trans rfl;clear h3 hgl hb hF hle h ht hk hlt hb2 xT hc htc hok p1 p2 p3 p4 p5 p6;generalize (fU th i).2=code at HC ⊢;generalize (fU th i).1=th' at HC HP;generalize (gK M (k:Int) i).1=M' at HP ⊢
  go_enter_defers Tryz.func28,Tryz.ntmps28
  go_upto_region 2 with(fail)
  rw[<-hW,<-hge];clear hW hge;go_wp2_with (first|(go_at_call 66;refine HA.out.mono ?_;rintro e w2 ⟨rfl,hw2⟩;subst w2)|(go_at_call 67;refine HC.out.mono ?_;rintro e w3 ⟨rfl,hs3,cs',hc3,ht3⟩;have HG3:=Y (HG.out.xY (M':=M') HP.out.1 hs3 hc3 ht3 HP.out.2.1 HP.out.2.2.1 HP.out.2.2.2.1 HP.out.2.2.2.2.1 HP.out.2.2.2.2.2);have HK3:=Y (bR hs3);have H33:=Y (hs3.holds H3.out (fun e1=>HF.out (e1▸HBF.out)));have y3:=(H33.out.cell 0).trans rfl;have y4:=ak H33.out 0;clear hs3 hc3 ht3))
  refine ib rfl (bB H33.out (k:=0) (by show 0<1;decide) _) ?_ (fun W'=>iC rfl rfl W')
  have hk:=bR (bu w3 ge 0 (.int .i64 code));exact .refl (HG3.out.kp hk (fun q hq _ e1=>HF.out (e1▸hq))) (((bX F HB.out).trans HK3.out (fun q _ e=>by rw[e];exact HBF.out)).trans hk (fun q hq e1=>absurd hq (by rw[e1];have:=HL.out;omega)))
theorem CQ (h:GL F w g x M)(t i:Int):
 Calls Tryz.prog 29 #[.pointer (some ⟨g,0,none⟩),.int .i64 t,.int .i64 i] w fun e w'=>e=.returned (.int .i64 (je M t i).2.2)/\GStep F w g (je M t i).1 w':=by
 obtain⟨ge,W1,hge,hW,h3,hgl,hb,hF,hle⟩:=eY F w g x M h;have H3:=Y h3;have HG:=Y hgl;have HB:=Y hb;have HF:=Y hF;have HL:=Y hle;cases ht:atI M.T t with
 |none=>
  rw[show je M t i=(M,0,2) by unfold je;rw[ht]]
  have HA:=Y (uP hgl t ht);clear h3 hgl hb hF hle h ht
  go_enter_defers Tryz.func29,Tryz.ntmps29
  go_upto_region 2 with(fail)
  rw[<-hW,<-hge];clear hW hge;go_wp2_with (go_at_call 66;refine HA.out.mono ?_;rintro e w2 ⟨rfl,hw2⟩;subst w2);exact dA rfl H3.out HG.out HF.out HB.out HL.out (fun W'=>iC rfl rfl W')
 |some th=>
  obtain⟨k,rfl,hk,hlt⟩:=dC ht;obtain⟨b,cs,hb2,xT,hc,htc,hok⟩:=hgl.thr hk;have HA:=Y (qF hgl k b hlt xT);have HC:=Y (c68 hc htc hok.s8 hok.k i);obtain⟨p1,p2,p3,p4,p5,p6⟩:=pop_T hk i;rw[p5];have HP:=Y (And.intro hb2 (And.intro p1 (And.intro p2 (And.intro p3 (And.intro p4 (p6 h.wf))))));have HBF:=Y (hgl.fp.2.2.2.2.1 b (List.mem_iff_getElem?.2 ⟨k,hb2⟩));have z3:=(h3.cell 0).trans rfl;clear h3 hgl hb hF hle h ht hk hlt hb2 xT hc htc hok p1 p2 p3 p4 p5 p6;generalize (iI th i).2=code at HC ⊢;generalize (iI th i).1=th' at HC HP;generalize (je M (k:Int) i).1=M' at HP ⊢
  go_enter_defers Tryz.func29,Tryz.ntmps29
  go_upto_region 2 with(fail)
  rw[<-hW,<-hge];clear hW hge;go_wp2_with (first|(go_at_call 66;refine HA.out.mono ?_;rintro e w2 ⟨rfl,hw2⟩;subst w2)|(go_at_call 68;refine HC.out.mono ?_;rintro e w3 ⟨rfl,hs3,cs',hc3,ht3⟩;have HG3:=Y (HG.out.xY (M':=M') HP.out.1 hs3 hc3 ht3 HP.out.2.1 HP.out.2.2.1 HP.out.2.2.2.1 HP.out.2.2.2.2.1 HP.out.2.2.2.2.2);have HK3:=Y (bR hs3);have H33:=Y (hs3.holds H3.out (fun e1=>HF.out (e1▸HBF.out)));have y3:=(H33.out.cell 0).trans rfl;have y4:=ak H33.out 0;clear hs3 hc3 ht3))
  refine ib rfl (bB H33.out (k:=0) (by show 0<1;decide) _) ?_ (fun W'=>iC rfl rfl W')
  have hk:=bR (bu w3 ge 0 (.int .i64 code));exact .refl (HG3.out.kp hk (fun q hq _ e1=>HF.out (e1▸hq))) (((bX F HB.out).trans HK3.out (fun q _ e=>by rw[e];exact HBF.out)).trans hk (fun q hq e1=>absurd hq (by rw[e1];have:=HL.out;omega)))
end
end
section
theorem xh (v:Value)(n:Nat):madeCells #[v] n=Array.replicate n v:=by
 unfold madeCells;apply Array.ext
 . simp
 . intro i h1 h2;simp [Nat.mod_one]
theorem vo {s:Sem Value}{v:Value}{w w':World}(h:s.run Tryz.prog w=.ok v w'):(do pure (Next.value (<-s)):Sem Next).run Tryz.prog w=.ok (.value v) w':=by
 simp [Sem.run_bind,h,go_sem]
theorem EH {s:Sem Unit}{w w':World}(h:s.run Tryz.prog w=.ok () w'):(do s;pure Next.skip:Sem Next).run Tryz.prog w=.ok .skip w':=by
 simp [Sem.run_bind,h,go_sem]
section
variable {o:Oper} {a:Act} {W:World}
theorem bZ {x:Operand}{p:Addr}(ho:o.op=.nilCheck x)(hx:a.eval x=.pointer (some p)):(execOp a.eval o).run Tryz.prog W=.ok (.value (.pointer (some p))) W:=by
 unfold execOp;simp only[ho,hx]
 go_simp
theorem wh {x:Operand}{g i:Nat}(hi:i<3)(ho:o.op=.fieldAddr 69 x i)(hx:a.eval x=.pointer (some ⟨g,0,none⟩)):(execOp a.eval o).run Tryz.prog W=.ok (.value (.pointer (some ⟨g,i,none⟩))) W:=by
 have hu:=Tryz.underlying69
 match i,hi with
 |0,_|1,_|2,_=>
  unfold execOp;simp only[ho,hx]
  go_simp
theorem sH {x:Operand}{p:Addr}{v:Value}(ho:o.op=.load 66 x)(hx:a.eval x=.pointer (some p))(hc:W.cell? p=some v):(execOp a.eval o).run Tryz.prog W=.ok (.value v) W:=by
 unfold execOp;simp only[ho,hx]
 go_simp
theorem jf {x y:Operand}{n:Nat}(hn:n<=1000)(ho:o.op=.makeSlice 38 x y)(hx:a.eval x=.int .i64 (n:Int))(hy:a.eval y=.int .i64 (n:Int)):
 (execOp a.eval o).run Tryz.prog W=.ok (.value (.slice (some ⟨W.heap.size,0,none⟩) n n)) (W.alloc (.cells (Array.replicate n (.int .i64 0)) 3)):=by
 obtain⟨i,hi,hz⟩:=Option.map_eq_some_iff.1 kI;injection hz with hz1 hz2
 injection hz2 with hz2 hz3
 have h:=run_makeSlice (P:=Tryz.prog) W 38 3 i (.int .i64 0) Tryz.underlying38 hi hz1 .i64 .i64 n n (by omega) (by omega) (by rw[hz2];show((n:Int)).toNat*1<=_;omega) (by rw[hz3];omega) (by omega)
 have h2:madeCells (Value.int IntKind.i64 0).cells (((n:Int)).toNat*i.size)=Array.replicate n (.int .i64 0):=by
  rw[hz2];show madeCells #[.int .i64 0] (n*1)=_
  rw[Nat.mul_one];exact xh _ _
 rw[h2]at h;generalize a.eval=E at hx hy ⊢;unfold execOp;simp only[ho,hx,hy];exact vo h
theorem rW {x y:Operand}{n:Nat}(hn:n<=1000)(ho:o.op=.makeSlice 62 x y)(hx:a.eval x=.int .i64 (n:Int))(hy:a.eval y=.int .i64 (n:Int)):
 (execOp a.eval o).run Tryz.prog W=.ok (.value (.slice (some ⟨W.heap.size,0,none⟩) n n)) (W.alloc (.cells (Array.replicate n (.int .u64 0)) 31)):=by
 obtain⟨i,hi,hz⟩:=Option.map_eq_some_iff.1 zK;injection hz with hz1 hz2
 injection hz2 with hz2 hz3
 have h:=run_makeSlice (P:=Tryz.prog) W 62 31 i (.int .u64 0) Tryz.underlying62 hi hz1 .i64 .i64 n n (by omega) (by omega) (by rw[hz2];show((n:Int)).toNat*1<=_;omega) (by rw[hz3];omega) (by omega)
 have h2:madeCells (Value.int IntKind.u64 0).cells (((n:Int)).toNat*i.size)=Array.replicate n (.int .u64 0):=by
  rw[hz2];show madeCells #[.int .u64 0] (n*1)=_
  rw[Nat.mul_one];exact xh _ _
 rw[h2]at h;generalize a.eval=E at hx hy ⊢;unfold execOp;simp only[ho,hx,hy];exact vo h
theorem qd {x y:Operand}{A0 A1:Option Addr}{n0 c0 n1 c1:Nat}(ho:o.op=.build 126 #[(0,x),(1,y)])(hx:a.eval x=.slice A0 n0 c0)(hy:a.eval y=.slice A1 n1 c1):(execOp a.eval o).run Tryz.prog W=.ok (.value (.agg #[.slice A0 n0 c0,.slice A1 n1 c1])) W:=by
 have hu:=Tryz.underlying126;generalize a.eval=E at hx hy ⊢;unfold execOp;simp only[ho]
 go_simp
theorem sI {x:Operand}{A0 A1:Option Addr}{n0 c0 n1 c1:Nat}(ho:o.op=.box 126 x)(hx:a.eval x=.agg #[.slice A0 n0 c0,.slice A1 n1 c1]):
 (execOp a.eval o).run Tryz.prog W=.ok (.value (.pointer (some ⟨W.heap.size,0,none⟩))) (W.alloc (.cells #[.slice A0 n0 c0,.slice A1 n1 c1] 126)):=by
 generalize a.eval=E at hx ⊢;unfold execOp;simp only[ho]
 go_simp
theorem kR {x y:Operand}{m n:Int}(hw:0<=m - n/\m - n<=65535)(ho:o.op=.binOp .sub 3 x y 3)(hx:a.eval x=.int .i64 m)(hy:a.eval y=.int .i64 n):(execOp a.eval o).run Tryz.prog W=.ok (.value (.int .i64 (m - n))) W:=by
 have h2:IntKind.i64.wrap (m - n)=m - n:=i64_in hw;generalize a.eval=E at hx hy ⊢;unfold execOp;simp only[ho]
 go_simp
end
def gP (t:Nat)(k:IntKind)(B n b:Nat)(w:World):Prop:=B<=b/\Holds w b t (List.replicate n (.int k 0))
theorem gP.below {t:Nat}{k:IntKind}{B n b:Nat}{w w':World}(h:gP t k B n b w)(hb:Below w.heap.size w w'):gP t k B n b w':=⟨h.1,h.2.below hb⟩
def A6 (t:Nat)(k:IntKind)(B n:Nat)(v:Value)(w:World):Prop:=∃ b,v=.slice (some ⟨b,0,none⟩) n n/\gP t k B n b w
def A11 (B r s:Nat)(v:Value)(w:World):Prop:=∃ b d,v=.agg #[.slice (some ⟨b,0,none⟩) r r,.slice (some ⟨d,0,none⟩) s s]/\gP 3 .i64 B r b w/\gP 31 .u64 B s d w
def A12 (B r s:Nat)(v:Value)(w:World):Prop:=∃ p b d,v=.pointer (some ⟨p,0,none⟩)/\B<=p/\Holds w p 126 [.slice (some ⟨b,0,none⟩) r r,.slice (some ⟨d,0,none⟩) s s]/\gP 3 .i64 B r b w/\gP 31 .u64 B s d w
def V19 (B g gm n r s:Nat):Nat->Value->World->Prop
 |0,v,_=>v=.pointer (some ⟨g,0,none⟩)
 |1,v,_=>v=.pointer (some ⟨g,0,none⟩)
 |2,v,_=>v=.pointer (some ⟨g,2,none⟩)
 |3,v,_=>v=.map (some gm)
 |4,v,_=>v=.int .i64 ((n:Int)+1)
 |5,v,_=>v=.int .i64 (r:Int)
 |6,v,w=>A6 3 .i64 B r v w
 |7,v,_=>v=.int .i64 ((r:Int)+(s:Int))
 |8,v,_=>v=.int .i64 (r:Int)
 |9,v,_=>v=.int .i64 (s:Int)
 |10,v,w=>A6 31 .u64 B s v w
 |11,v,w=>A11 B r s v w
 |12,v,w=>A12 B r s v w
 |_,_,_=>True
theorem Dr (B g gm n r s j:Nat)(v:Value)(w w':World)(h:V19 B g gm n r s j v w)(hb:Below w.heap.size w w'):V19 B g gm n r s j v w':=by
 unfold V19 at h ⊢
 split at h<;>first|exact h|(obtain⟨b,h1,h2⟩:=h;exact⟨b,h1,h2.below hb⟩)|(obtain⟨b,d,h1,h2,h3⟩:=h;exact⟨b,d,h1,h2.below hb,h3.below hb⟩)|(obtain⟨p,b,d,h1,h0,h2,h3,h4⟩:=h;exact⟨p,b,d,h1,h0,h2.below hb,h3.below hb,h4.below hb⟩)|trivial
theorem yP {o:Oper}{a:Act}{W W':World}{m k v:Operand}{mv kv vv:Value}(ho:o.op=.mapUpdate 66 m k v)(hm:a.eval m=mv)(hk:a.eval k=kv)(hv:a.eval v=vv)(hrun:(Instr.mapUpdate 66 mv kv vv).run Tryz.prog W=.ok () W'):(execOp a.eval o).run Tryz.prog W=.ok .skip W':=by
 unfold execOp;simp only[ho,hm,hk,hv];exact EH hrun
section
variable {F:Nat→Prop} {w:World} {g:Nat} {x:Gw} {M:Gm}
theorem sD (h:GL F w g x M)(hO:M.O.length<1000)(t d r0 s0:Int):
 Calls Tryz.prog 19 #[.pointer (some ⟨g,0,none⟩),.int .i64 t,.int .i64 d,.int .i64 r0,.int .i64 s0] w fun e w'=>e=.returned (.tuple #[.int .i64 (bM M t d r0 s0).2.1,.int .i64 (bM M t d r0 s0).2.2])/\GStep F w g (bM M t d r0 s0).1 w':=by
 obtain⟨ge,W1,hge,hW,h3,hgl,hb,hF,hle⟩:=eY F w g x M h;have H3:=Y h3;have HG:=Y hgl;have HB:=Y hb;have HF:=Y hF;have HL:=Y hle;cases hs:bV M t d with
 |none=>
  have e1:bM M t d r0 s0=(M,0,2):=by unfold bM;rw[hs]
  rw[e1];clear e1;have HA:=Y (kF hgl t d hs);clear h3 hgl hb hF hle h hs hO
  go_enter_defers Tryz.func19,Tryz.ntmps19
  go_upto_region 2 with(fail)
  rw[<-hW,<-hge];clear hW hge;go_wp2_with (go_at_call 60;refine HA.out.mono ?_;rintro e w2 ⟨rfl,hw2⟩;subst w2);exact dA rfl H3.out HG.out HF.out HB.out HL.out (fun W'=>gV (t:=10) (u:=11) rfl rfl rfl W')
 |some y=>
  have HA:=Y (jF hgl t d y hs);have r2:∀ b,b=false->∀ w,Calls Tryz.prog 61 #[.bool b,.int .i64 2] w fun x w'=>x=.panicked (iQ 2)/\w'=w:=fun b hb w=>hb▸jq 2 w
  by_cases hc:0<=r0/\r0<=s0/\s0<=95
  case neg=>
   have e1:bM M t d r0 s0=(M,0,2):=by unfold bM;rw[hs];simp only[];rw[if_neg hc]
   rw[e1];clear e1;clear h3 hgl hb hF hle h hs hO
   by_cases c1:0<=r0
   . by_cases c2:r0<=s0
     . have q1:decide (r0>=0)=true:=yb c1;have q1':decide (0<=r0)=true:=yb c1;have q2:decide (r0<=s0)=true:=yb c2;have q3:decide (s0<=95)=false:=yd (fun c3=>hc ⟨c1,c2,c3⟩)
       clear hc c1 c2
       go_enter_defers Tryz.func19,Tryz.ntmps19
       go_upto_region 2 with(fail)
       rw[<-hW,<-hge];clear hW hge;go_wp2_with (first|(go_at_call 60;refine HA.out.mono ?_;rintro e w2 ⟨rfl,hw2⟩;subst w2)|(go_at_call 61;refine(r2 _ rfl _).mono ?_;rintro e w2 ⟨rfl,hw2⟩;subst w2))
       exact dA rfl H3.out HG.out HF.out HB.out HL.out (fun W'=>gV (t:=10) (u:=11) rfl rfl rfl W')
     . have q1:decide (r0>=0)=true:=yb c1;have q1':decide (0<=r0)=true:=yb c1;have q2:decide (r0<=s0)=false:=yd c2;clear hc c1 c2
       go_enter_defers Tryz.func19,Tryz.ntmps19
       go_upto_region 2 with(fail)
       rw[<-hW,<-hge];clear hW hge;go_wp2_with (first|(go_at_call 60;refine HA.out.mono ?_;rintro e w2 ⟨rfl,hw2⟩;subst w2)|(go_at_call 61;refine(r2 _ rfl _).mono ?_;rintro e w2 ⟨rfl,hw2⟩;subst w2))
       exact dA rfl H3.out HG.out HF.out HB.out HL.out (fun W'=>gV (t:=10) (u:=11) rfl rfl rfl W')
   . have q1:decide (r0>=0)=false:=yd c1;have q1':decide (0<=r0)=false:=yd c1;clear hc c1
     go_enter_defers Tryz.func19,Tryz.ntmps19
     go_upto_region 2 with(fail)
     rw[<-hW,<-hge];clear hW hge;go_wp2_with (first|(go_at_call 60;refine HA.out.mono ?_;rintro e w2 ⟨rfl,hw2⟩;subst w2)|(go_at_call 61;refine(r2 _ rfl _).mono ?_;rintro e w2 ⟨rfl,hw2⟩;subst w2))
     exact dA rfl H3.out HG.out HF.out HB.out HL.out (fun W'=>gV (t:=10) (u:=11) rfl rfl rfl W')
  case pos=>
   obtain⟨r,s,rfl,rfl⟩:∃ r s:Nat,r0=(r:Int)/\s0=(r:Int)+(s:Int):=⟨r0.toNat,(s0 - r0).toNat,by omega,by omega⟩
   have e1:bM M t d (r:Int) ((r:Int)+(s:Int))=(iA (lF M r s) t d ((M.O.length:Int)+1),(M.O.length:Int)+1,0):=by
    unfold bM;rw[hs];simp only[];rw[if_pos hc,show((r:Int)).toNat=r from rfl,show((r:Int)+(s:Int) - (r:Int)).toNat=s by omega]
   rw[e1];clear e1;have hrs:r+s<=95:=by omega
   obtain⟨D,hD,hOD⟩:=hgl.hM;have HD:=Y (And.intro hD hOD);have hsz:Maps.size D=M.O.length:=by rw[hOD.2.1,List.length_map,h.lO]
   have x2:=hgl.x2;have q1:decide ((r:Int)>=0)=true:=yb (by omega)
   have q1':decide (0<=(r:Int))=true:=yb (by omega)
   have q2:decide ((r:Int)<=(r:Int)+(s:Int))=true:=yb (by omega)
   have q3:decide ((r:Int)+(s:Int)<=95)=true:=yb (by omega)
   have hw1:IntKind.i64.wrap ((M.O.length:Int)+1)=(M.O.length:Int)+1:=i64_in (by omega)
   have HS:=Y hs;clear h3 hgl hb hF hle h hs hc hD hOD
   go_enter_defers Tryz.func19,Tryz.ntmps19
   go_upto_region 2 with(fail)
   rw[<-hW,<-hge];clear hW hge;go_upto_region 5 with(first|(go_at_call 60;refine HA.out.mono ?_;rintro e w2 ⟨rfl,hw2⟩;subst w2)|(go_at_call 61;refine(gu _ _).mono ?_;rintro e w2 ⟨rfl,hw2⟩;subst w2)|(at_len;refine wpList_len_own _ rfl _ 66 rfl 3 124 Tryz.underlying66 _ x.gm M.O.length D rfl HD.out.1 ?_;rw[hsz]))
   refine weave 13 53 (V19 W1.heap.size g x.gm M.O.length r s) (by kernel_rfl) (by rfl) (by kernel_rfl) (Dr _ _ _ _ _ _) ?st ?en
   case st=>
    refine Steps.cons (fun a w1 fr hb hd K hK=>?_) ?_
    . exact af (aC rfl ((fr 0 (by kernel_rfl)).trans rfl)) (hK _ _ zc rfl)
    refine Steps.cons (fun a w1 fr hb hd K hK=>?_) ?_
    . exact af (bZ rfl (hd 0 34 (by kernel_rfl))) (hK _ _ zc rfl)
    refine Steps.cons (fun a w1 fr hb hd K hK=>?_) ?_
    . exact af (wh (i:=2) (by decide) rfl (hd 1 35 (by kernel_rfl))) (hK _ _ zc rfl)
    refine Steps.cons (fun a w1 fr hb hd K hK=>?_) ?_
    . exact af (sH rfl (hd 2 36 (by kernel_rfl)) (((HG.out.hg.below hb).cell 2).trans rfl)) (hK _ _ zc rfl)
    refine Steps.cons (fun a w1 fr hb hd K hK=>?_) ?_
    . exact af (aC rfl ((fr 10 (by kernel_rfl)).trans rfl)) (hK _ _ zc rfl)
    refine Steps.cons (fun a w1 fr hb hd K hK=>?_) ?_
    . exact af (aC rfl ((fr 3 (by kernel_rfl)).trans rfl)) (hK _ _ zc rfl)
    refine Steps.cons (fun a w1 fr hb hd K hK=>?_) ?_
    . have e1:a.eval (.tmp 39)=.int .i64 (r:Int):=(hd 5 39 (by kernel_rfl))
      exact af (jf (by omega) rfl e1 e1) (hK _ _ (ae zc _) (show A6 _ _ _ _ _ _ from⟨w1.heap.size,rfl,hb.size,by have h:=aK w1 (.cells (Array.replicate r (.int .i64 0)) 3);rw[<-List.toArray_replicate]at h ⊢;exact h⟩))
    refine Steps.cons (fun a w1 fr hb hd K hK=>?_) ?_
    . exact af (aC rfl ((fr 4 (by kernel_rfl)).trans rfl)) (hK _ _ zc rfl)
    refine Steps.cons (fun a w1 fr hb hd K hK=>?_) ?_
    . exact af (aC rfl ((fr 3 (by kernel_rfl)).trans rfl)) (hK _ _ zc rfl)
    refine Steps.cons (fun a w1 fr hb hd K hK=>?_) ?_
    . have e1:a.eval (.tmp 41)=.int .i64 ((r:Int)+(s:Int)):=(hd 7 41 (by kernel_rfl))
      have e2:a.eval (.tmp 42)=.int .i64 (r:Int):=(hd 8 42 (by kernel_rfl))
      exact af (kR (by omega) rfl e1 e2) (hK _ _ zc (show _=Value.int .i64 (s:Int) by rw[show(r:Int)+(s:Int) - (r:Int)=(s:Int) by omega]))
    refine Steps.cons (fun a w1 fr hb hd K hK=>?_) ?_
    . have e1:a.eval (.tmp 43)=.int .i64 (s:Int):=(hd 9 43 (by kernel_rfl))
      exact af (rW (by omega) rfl e1 e1) (hK _ _ (ae zc _) (show A6 _ _ _ _ _ _ from⟨w1.heap.size,rfl,hb.size,by have h:=aK w1 (.cells (Array.replicate s (.int .u64 0)) 31);rw[<-List.toArray_replicate]at h ⊢;exact h⟩))
    refine Steps.cons (fun a w1 fr hb hd K hK=>?_) ?_
    . obtain⟨b6,e6,h6⟩:A6 3 .i64 W1.heap.size r (a.eval (.tmp 40)) w1:=(hd 6 40 (by kernel_rfl))
      obtain⟨b10,e10,h10⟩:A6 31 .u64 W1.heap.size s (a.eval (.tmp 44)) w1:=(hd 10 44 (by kernel_rfl))
      exact af (qd rfl e6 e10) (hK _ _ zc (show A11 _ _ _ _ _ from⟨_,_,rfl,h6,h10⟩))
    refine Steps.cons (fun a w1 fr hb hd K hK=>?_) ?_
    . obtain⟨b6,b10,e11,h6,h10⟩:A11 W1.heap.size r s (a.eval (.tmp 45)) w1:=(hd 11 45 (by kernel_rfl))
      have hb2:=ae (Below.refl w1.heap.size w1) (.cells #[.slice (some ⟨b6,0,none⟩) r r,.slice (some ⟨b10,0,none⟩) s s] 126);exact af (sI rfl e11) (hK _ _ hb2 (show A12 _ _ _ _ _ from⟨w1.heap.size,b6,b10,rfl,hb.size,aK _ _,h6.below hb2,h10.below hb2⟩))
    exact Steps.nil
   case en=>
    intro vs w5 hb hv;have h3:vs 3=.map (some x.gm):=hv 3 37 (by decide) (by kernel_rfl)
    have h4:vs 4=.int .i64 ((M.O.length:Int)+1):=hv 4 38 (by decide) (by kernel_rfl)
    obtain⟨p,b,d2,h12,hp,hh,hb6,hb10⟩:A12 W1.heap.size r s (vs 12) w5:=hv 12 46 (by decide) (by kernel_rfl)
    refine ll rfl ?_;simp only[List.take_succ_cons,List.take_zero,bA,Act.put,zj,zr,ya,h3,h4,h12];have hD5:=dH HD.out.1 (hb.block _ (HG.out.lt _ HG.out.fp.2.2.2.1))
    have hml:M.O.length<maxLen:=by
     have:(1000:Nat)<=maxLen:=by decide
     omega
    obtain⟨w6,hrun,hown,hturn⟩:=hD5.store (t:=66) (Maps.int_keyed Tryz.underlying3) Tryz.underlying66 hml (key:=.int .i64 ((M.O.length:Int)+1)) (val:=.pointer (some ⟨p,0,none⟩)) (Maps.keyOf_int_mk Tryz.underlying3 (wf_i64 (by omega))) (show Rp _=some (.lit (.int .i64 (p:Int)),[])from rfl)
    refine Wv.wp_skip (w':=w6) rfl (yP rfl rfl rfl rfl hrun) ?_;have hgrow:=hturn.grown;obtain⟨hG6,hK6⟩:=HG.out.addOb hO hrs (p:=⟨p,b,d2⟩) hb ⟨hp,hb6.1,hb10.1⟩ hh hb6.2 hb10.2 hD5 HD.out.2 hown hgrow;have HG6:=Y hG6;have HK6:=Y hK6;have HS6:=Y (show(bV (lF M r s) t d).isSome=true by show(bV M t d).isSome=true;rw[HS.out];rfl)
    have HC:=Y (qM hG6 t d ((M.O.length:Int)+1) HS6.out (by show 0<=(M.O.length:Int)+1/\(M.O.length:Int)+1<=((M.O++[_]).length:Int);rw[List.length_append,List.length_singleton];omega))
    have H36:=Y (show Holds w6 ge 26 [.int .i64 0]from hK6.holds H3.out HF.out)
    have HFe:=Y (show ¬ (F ge\/ge=p\/ge=b\/ge=d2)from fun e1=>by
     have hlt:=H3.out.lt;have z1:=hb6.1;have z2:=hb10.1
     rcases e1 with e1|e1|e1|e1
     . exact HF.out e1
     all_goals omega)
    have HNW:=Y (And.intro (Nat.le_trans HB.out.size hp) (And.intro (Nat.le_trans HB.out.size hb6.1) (Nat.le_trans HB.out.size hb10.1)));clear hv hb h3 h4 h12 hp hh hb6 hb10 hD5 hrun hown hturn hgrow hG6 hK6 hw1 q1 q1' q2 q3 x2 HA HD;go_wp2_with (go_at_call 62;refine HC.out.mono ?_;rintro e w3 ⟨rfl,hg3,hk3⟩;have HG3:=Y hg3;have HK3:=Y hk3;have H33:=Y (hk3.holds H36.out HFe.out);have y3:=(H33.out.cell 0).trans rfl;have y4:=ak H33.out 0;clear hg3 hk3);refine ib rfl (bB H33.out (k:=0) (by show 0<1;decide) _) ?_ (fun W'=>gV (t:=10) (u:=11) rfl rfl rfl W')
    have hk:=bR (bu w3 ge 0 (.int .i64 0));refine⟨_,_,HG3.out.kp hk (fun q hq _ e1=>HFe.out (e1▸hq)),?_,fun q hq=>?_⟩
    . have k1:=(bX F HB.out).trans HK6.out (fun q _ e=>e)
      have k2:=k1.trans HK3.out (fun q hq e=>by
       have:=HNW.out
       rcases e with e|e|e|e
       . exact e
       all_goals omega)
      exact k2.trans hk (fun q hq e1=>absurd hq (by rw[e1];have:=HL.out;omega))
    . have:=HNW.out
      rcases hq with hq|rfl|rfl|rfl
      . exact .inl hq
      . exact .inr this.1
      . exact .inr this.2.1
      . exact .inr this.2.2
end
end
section
def pW:Kd Nat where
 sz:=1
 E:=[]
 K:=fun _ b cs=>cs=[.pointer (some ⟨b,0,none⟩)]
 M:=fun _ _ _ b cs=>cs=[.pointer (some ⟨b,0,none⟩)]
 K_len:=fun h=>by rw[h];rfl
 K_one:=fun h u hu=>by
  rw[h]at hu;obtain rfl:=List.mem_singleton.1 hu;rfl
 K_below:=fun _ h=>h
 K_of_M:=fun h=>h
 M_mono:=fun _ h=>h
 M_bound:=fun h=>h
 M_move:=fun _ h=>h
 M_lower:=fun _ h=>h
theorem zO:(Tryz.prog.info? 70).map (fun i=>(i.zero,i.size,i.bytes))=some (some (.pointer none),pW.sz,8):=by kernel_rfl
def lH (s:Nat):List Value:=List.replicate 8 (.int .i64 0)++ .int .i64 (s:Int) :: List.replicate 17 (.int .i64 0)
theorem DL {s:Nat}(hs:s<=8):fq (lH s) (List.replicate s 0,[]):=by
 refine⟨rfl,fun i x hi=>?_,?_,fun i x hi=>by simp at hi,rfl⟩
 . have hi':(List.replicate s (0:Int))[i]? =some x:=hi;rw[List.getElem?_replicate]at hi'
   by_cases h:i<s
   . rw[if_pos h]at hi';injection hi' with hi'
     subst hi';unfold lH;rw[List.getElem?_append_left (by rw[List.length_replicate];omega),List.getElem?_replicate,if_pos (by omega)]
   . rw[if_neg h]at hi';cases hi'
 . show(lH s)[8]? =some (Value.int .i64 (((List.replicate s (0:Int)).length:Nat):Int))
   rw[List.length_replicate];rfl
theorem c17 (s:Nat)(w:World)(h1:1<=s)(h8:s<=8):
 Calls Tryz.prog 17 #[.int .i64 (s:Int)] w fun e w'=>e=.returned (.tuple #[.pointer (some ⟨w.heap.size,0,none⟩),.int .i64 0])/\w'=w.alloc (.cells (lH s).toArray 119):=by
 have q1:decide ((s:Int)<1)=false:=yd (by omega)
 have q2:decide ((s:Int)>8)=false:=yd (by omega)
 have q2':decide (8<(s:Int))=false:=yd (by omega)
 have q2'':decide (8<s)=false:=yd (by omega)
 have hu:=Tryz.underlying119;clear h1 h8;go_enter Tryz.func17,Tryz.ntmps17;go_wp2_with fail
 go_ret2
 exact⟨rfl,rfl⟩
theorem qY {o:Oper}{a:Act}{W:World}(ho:o.op=.makeMap 66 none):(execOp a.eval o).run Tryz.prog W=.ok (.value (.map (some W.heap.size))) (W.alloc (.map #[] 0)):=by
 unfold execOp;simp only[ho];exact vo rfl
def kQ (t s n:Nat):Gm:={ T:=List.replicate t (List.replicate s 0,[]),G:=List.replicate n 0,O:=[] }
theorem zW {t s n:Nat}(h1:1<=t)(h2:t<=64)(h3:1<=s)(h4:s<=8)(h5:n<=8):Gwf (kQ t s n):=by
 have hz:∀ k m:Nat,kK m (List.replicate k 0):=fun k m x hx=>by
  have:=(List.mem_replicate.1 hx).2;omega
 refine⟨by show 1<=(List.replicate t _).length;simpa using h1,by show(List.replicate t _).length<=64;simpa using h2,by show(List.replicate n _).length<=8;simpa using h5,Nat.zero_le _,fun x hx=>?_,hz _ _,fun x hx=>by cases hx⟩
 obtain rfl:=(List.mem_replicate.1 (show x∈List.replicate t _ from hx)).2
 exact⟨by simpa using h3,by simpa using h4,by simp,hz _ _,fun y hy=>by cases hy⟩
structure NG (B n s g gm bG:Nat)(w:World)(v0:Value)(bs:List Nat)(W:World):Prop where
 hg:Holds W g 69 [v0,.slice (some ⟨bG,0,none⟩) n n,.map (some gm)]
 hG:Holds W bG 3 (List.replicate n (.int .i64 0))
 hM:W.ownsMap Tryz.prog 3 Rp gm 0 (.map [])
 row:Kd.R pW 70 W B (fun _=>True) v0 bs
 th:∀ b∈bs,B<=b/\Holds W b 119 (lH s)
 nd:bs.Nodup
 hb:Below B w W
theorem yV {W:World}{v0:Value}{bs:List Nat}{B gm n k:Nat}{ok:Nat->Prop}{R:Value->Option (DataW Unit×List MemPlace)}{D:DataW Unit}(h:Kd.R pW 70 W B ok v0 bs)(hM:W.ownsMap Tryz.prog k R gm n D):some gm≠v0.ownBlock:=fun e=>by
 obtain⟨_,inner,hown,_⟩:=h;obtain⟨cells,hc⟩:=dO hown gm e.symm;obtain⟨es,clock,hb,_⟩:=hM;rw[hb]at hc;injection hc with hc
 cases hc
theorem NG.step {B n s g gm bG:Nat}{w W0 w2:World}{v0 v2:Value}{bs:List Nat}(h:NG B n s g gm bG w v0 bs W0)(hBW:B<=W0.heap.size)(hB:B<=g)(ho:Kd.R pW 70 w2 B (fun _=>True) v2 (bs++[W0.heap.size]))(hgr:(W0.alloc (.cells (lH s).toArray 119)).grownBy w2 v0.ownBlock)(hbw:Below B w w2):
 NG B n s g gm bG w v2 (bs++[W0.heap.size]) (w2.setCell ⟨g,0,none⟩ v2):=by
 have hal:=ae (Below.refl W0.heap.size W0) (.cells (lH s).toArray 119);have hrow:=Kd.aX h.row hal;have hh:∀{q t:Nat} {cs:List Value},t≠70->Holds (W0.alloc (.cells (lH s).toArray 119)) q t cs->Holds w2 q t cs:=fun ht hq=>aY hq hgr (Kd.dL hrow hq (fun e=>ht e.symm))
 have hh0:∀{q t:Nat} {cs:List Value},t≠70->Holds W0 q t cs->Holds w2 q t cs:=fun ht hq=>hh ht (hq.below hal)
 have hg2:=hh0 (by decide) h.hg
 have hs:=bu w2 g 0 v2;have hM1:=dH h.hM (hal.block _ h.hM.lt);have hM2:=dH hM1 (hgr.block _ hM1.lt (yV hrow hM1));refine⟨bB hg2 (k:=0) (by show 0<3;decide) v2,hs.holds (hh0 (by decide) h.hG) (eH (hh0 (by decide) h.hG) hg2 (by decide)),dH hM2 (hs.block _ (iN hg2 hM2)),dW ho hg2 (fun q hq=>by rcases List.mem_cons.1 hq with rfl|hq;decide;cases hq) hs,fun b hb=>?_,?_,hs.below hbw hB⟩
 . rcases List.mem_append.1 hb with hb|hb
   . have k:=h.th b hb;exact⟨k.1,hs.holds (hh0 (by decide) k.2) (eH (hh0 (by decide) k.2) hg2 (by decide))⟩
   . obtain rfl:=List.mem_singleton.1 hb;have k:Holds (W0.alloc (.cells (lH s).toArray 119)) W0.heap.size 119 (lH s):=aK _ _;exact⟨hBW,hs.holds (hh (by decide) k) (eH (hh (by decide) k) hg2 (by decide))⟩
 . rw[List.nodup_append];refine⟨h.nd,by simp,fun a ha b hb e=>?_⟩
   have:=(h.th a ha).2.lt;have:b=W0.heap.size:=by simpa using hb
   omega
theorem NG.done {B n s g gm bG t:Nat}{w W:World}{v0:Value}{bs:List Nat}(h:NG B n s g gm bG w v0 bs W)(hl:bs.length=t)(hB:B<=g/\B<=gm/\B<=bG)(h1:1<=t)(hw:Gwf (kQ t s n))(hs8:s<=8):
 ∃ F x,GL F W g x (kQ t s n)/\∀ q,F q->B<=q:=by
 obtain⟨_,inner,⟨hil,hown⟩,hr⟩:=h.row
 rcases hown with⟨rfl,h0⟩|⟨bT,cap,cur,rfl,hbT,hh,hcap,hmax,hsz,htk⟩
 . exact absurd h0 (by omega)
 . have hT:Holds W bT 70 cur.toList:=by show W.heap[bT]? =some (.cells cur.toList.toArray 70 (0,0));rw[Array.toArray_toList];exact hh
   have hTl:(kQ t s n).T.length=t:=by show(List.replicate t _).length=t;exact List.length_replicate ..
   have hGl:(kQ t s n).G.length=n:=by show(List.replicate n _).length=n;exact List.length_replicate ..
   refine⟨fun q=>q=g\/q=bT\/q=bG\/q=gm\/q∈bs,⟨bT,cap,bG,gm,bs,[]⟩,⟨?_,⟨_,hT,fun i b hi=>?_⟩,?_,⟨_,h.hM,zz⟩,by rw[hTl];exact hl,rfl,fun i b t' hb ht'=>?_,fun i o t' ho _=>by simp at ho,⟨.inl rfl,.inr (.inl rfl),.inr (.inr (.inl rfl)),.inr (.inr (.inr (.inl rfl))),fun b hb=>.inr (.inr (.inr (.inr hb))),fun o ho=>by cases ho⟩,h.nd,List.nodup_nil,by simp,List.nodup_nil,hw,fun q hq=>?_⟩,fun q hq=>?_⟩
   . rw[hTl,hGl,<-hl];exact h.hg
   . obtain⟨hlen,hat⟩:=hr;have hb2:=hat i b hi;have hb3:(inner.drop (i*1)).take 1=[.pointer (some ⟨b,0,none⟩)]:=hb2;have hi2:=(List.getElem?_eq_some_iff.1 hi).1;rw[Nat.mul_one]at hb3
     have hb4:inner[i]? =some (.pointer (some ⟨b,0,none⟩)):=by
      have:=congrArg (fun l=>l[0]?) hb3
      simpa [List.getElem?_take,List.getElem?_drop] using this
     rw[<-htk,List.getElem?_take]at hb4
     split at hb4
     . exact hb4
     . cases hb4
   . show Holds W bG 3 (List.map _ (List.replicate n 0))
     rw[List.map_replicate];exact h.hG
   . obtain rfl:(List.replicate s 0,[])=t':=by
      have:(List.replicate t ((List.replicate s (0:Int),([]:List Int)):LL))[i]? =some t':=ht';rw[List.getElem?_replicate]at this
      split at this
      . injection this
      . cases this
     exact⟨_,(h.th b (List.mem_iff_getElem?.2 ⟨i,hb⟩)).2,DL hs8⟩
   . rcases hq with rfl|rfl|rfl|rfl|hq
     . exact h.hg.lt
     . exact hT.lt
     . exact h.hG.lt
     . exact h.hM.lt
     . exact(h.th q hq).2.lt
   . rcases hq with rfl|rfl|rfl|rfl|hq
     . exact hB.1
     . exact hbT
     . exact hB.2.2
     . exact hB.2.1
     . exact(h.th q hq).1
theorem wC (t s n:Nat)(w:World)(h1:1<=t)(h2:t<=64)(h3:1<=s)(h4:s<=8)(h5:n<=8):
 Calls Tryz.prog 6 #[.int .i64 (t:Int),.int .i64 (s:Int),.int .i64 (n:Int)] w fun e w'=>∃ g F x,e=.returned (.tuple #[.pointer (some ⟨g,0,none⟩),.int .i64 0])/\GL F w' g x (kQ t s n)/\Below w.heap.size w w'/\∀ q,F q->w.heap.size<=q:=by
 have q1:decide ((t:Int)<1)=false:=yd (by omega)
 have q2:decide ((t:Int)>64)=false:=yd (by omega)
 have q2':decide (64<(t:Int))=false:=yd (by omega)
 have q2'':decide (64<t)=false:=yd (by omega)
 have q3:decide ((n:Int)<0)=false:=yd (by omega)
 have q4:decide ((n:Int)>8)=false:=yd (by omega)
 have q4':decide (8<(n:Int))=false:=yd (by omega)
 have q4'':decide (8<n)=false:=yd (by omega)
 have hu:=Tryz.underlying69;have HN:=Y (show n<=1000 by omega)
 have HT:=Y (And.intro h1 (And.intro h2 (And.intro h3 (And.intro h4 h5))));clear h1 h2 h3 h4 h5;go_enter Tryz.func6,Tryz.ntmps6;go_upto_region 4 with(first|((with_reducible refine aW (N:=26) rfl ?_);refine Kd.fA rfl (jf HN.out rfl rfl rfl) ?_)|((with_reducible refine aW (N:=27) rfl ?_);refine Kd.fA rfl (qY rfl) ?_))
 obtain⟨W1,hW1⟩:∃ W1,W1=w.alloc (.cells (Array.replicate n (.int .i64 0)) 3):=⟨_,rfl⟩;obtain⟨W2,hW2⟩:∃ W2,W2=W1.alloc (.map #[] 0):=⟨_,rfl⟩;obtain⟨W3,hW3⟩:∃ W3,W3=W2.alloc (.cells #[.slice none 0 0,.slice (some ⟨w.heap.size,0,none⟩) n n,.map (some (w.heap.size+1))] 69):=⟨_,rfl⟩;have hz1:W1.heap.size=w.heap.size+1:=by rw[hW1];simp
 have hz2:W2.heap.size=w.heap.size+1+1:=by rw[hW2];simp[hz1]
 rw[<-hW1,<-hW2,<-hW3];have hb1:Below w.heap.size w W1:=by rw[hW1];exact ae zc _
 have hb2:Below w.heap.size w W2:=by rw[hW2];exact ae hb1 _
 have hb12:Below W1.heap.size W1 W2:=by rw[hW2];exact ae zc _
 have hb23:Below W2.heap.size W2 W3:=by rw[hW3];exact ae zc _
 have HG0:aa (NG w.heap.size n s (w.heap.size+1+1) (w.heap.size+1) w.heap.size w (.slice none 0 0) [] W3):=by
  refine⟨⟨?_,?_,?_,Kd.fo _ _ _ _ _,fun b hb=>by(cases hb),List.nodup_nil,ag hb2 (by omega) hb23⟩⟩
  . rw[<-hz2,hW3];exact aK _ _
  . have k:Holds W1 w.heap.size 3 (List.replicate n (.int .i64 0)):=by
     have k1:=aK w (.cells (Array.replicate n (.int .i64 0)) 3);rw[<-List.toArray_replicate,List.toArray_replicate,<-hW1]at k1;show W1.heap[w.heap.size]? =some (.cells (List.replicate n (.int .i64 0)).toArray 3 (0,0))
     rw[List.toArray_replicate];exact k1
    exact(k.below hb12).below hb23
  . have k:=World.ownsMap_made W1 Tryz.prog 3 Rp;rw[<-hW2,hz1]at k;exact dH k (hb23.block _ k.lt)
 clear hW1 hW2 hW3 hz1 hz2 hb1 hb2 hb12 hb23 q1 q2 q2' q2'' q3 q4 q4' q4'';go_wp2_with fail
 go_loopg [31] t (fun kq v31 w'=>∃(i:Nat) (v0:Value) (bs:List Nat),v31=.int .i64 (i:Int)/\i+kq=t/\bs.length=i/\aa (NG w.heap.size n s (w.heap.size+1+1) (w.heap.size+1) w.heap.size w v0 bs w'))
 case atStart=>exact⟨0,_,[],rfl,by omega,rfl,HG0⟩
 case round=>
  clear HG0;obtain⟨i,v0,bs,rfl,hi,hbl,HNG⟩:=hrel;obtain⟨W0,rfl⟩:∃ W0,W0=wr:=⟨wr,rfl⟩;cases gk with
  |zero=>
   have r1:decide ((i:Int)<(t:Int))=false:=yd (by omega)
   have r2:decide (i<t)=false:=yd (by omega)
   go_wp2_with fail
   go_ret2
   obtain⟨F,x,hgl,hF⟩:=HNG.out.done (t:=t) (by omega) (by omega) HT.out.1 (zW HT.out.1 HT.out.2.1 HT.out.2.2.1 HT.out.2.2.2.1 HT.out.2.2.2.2) HT.out.2.2.2.1
   exact⟨_,F,x,rfl,hgl,HNG.out.hb,hF⟩
  |succ k1=>
   have r1:decide ((i:Int)<(t:Int))=true:=yb (by omega)
   have r2:decide (i<t)=true:=yb (by omega)
   have hw1:IntKind.i64.wrap ((i:Int)+1)=(i:Int)+1:=i64_in (by have:=HT.out.2.1;omega)
   obtain⟨A0,c0,rfl⟩:=Kd.aD HNG.out.row;have hal:=ae (Below.refl W0.heap.size W0) (.cells (lH s).toArray 119);have HRW:=Y (Kd.aX HNG.out.row hal);have HBW:=Y (ag HNG.out.hb HNG.out.hb.size hal);have HH:=Y (HNG.out.hg.below hal);have hsz:(W0.alloc (.cells (lH s).toArray 119)).heap.size=W0.heap.size+1:=by simp
   go_upto_region 7 with(go_at_call 17;refine(c17 s _ HT.out.2.2.1 HT.out.2.2.2.1).mono ?_;rintro e w2 ⟨rfl,hw2⟩;subst hw2)
   have HST:=Y (fun v2 w2 ho hg hbw=>HNG.out.step (v2:=v2) (w2:=w2) HNG.out.hb.size (by omega) ho hg hbw)
   have HLN:=Y (show bs.length=i from hbl)
   obtain⟨gb,hgb⟩:∃ gb,gb=W0.heap.size:=⟨_,rfl⟩;rw[<-hgb]at hsz HST ⊢;obtain⟨W1,hW1⟩:∃ W1,W1=W0.alloc (.cells (lH s).toArray 119):=⟨_,rfl⟩;rw[<-hW1]at HRW HBW HH hsz HST ⊢;clear hW1 hal hgb hbl hsz;have z0:W1.cell? ⟨w.heap.size+1+1,0,none⟩=some (.slice A0 bs.length c0):=(HH.out.cell 0).trans rfl;go_wp2_with (at_builtin;refine Kd.fD pW (w0:=w) w.heap.size rfl (.tmp 45) (.tmp 47) 67 70 (.pointer none) 8 rfl Tryz.underlying67 zO rfl (by decide) (by omega) _ bs gb [.pointer (some ⟨gb,0,none⟩)] (fun _=>True) (fun _=>False) rfl rfl rfl (fun _ hk=>hk.elim) (fun _ _=>trivial) HRW.out HBW.out HBW.out.size (by rw[HLN.out];have:=HT.out.2.1;omega) ?_;intro v2 w2 ho2 hb2 hg2 hat2;obtain⟨A2,c2,rfl⟩:=Kd.aD ho2;rw[show(bs++[gb]).length=bs.length+1 by simp]at ho2 hat2 ⊢;have HO2:=Y ho2;have HG2:=Y hg2;have HB2:=Y hb2;have HH2:=Y (aY HH.out hg2 (Kd.dL HRW.out HH.out (by decide)));have z2:=(HH2.out.cell 0).trans rfl;have z3:=ak HH2.out 0;clear ho2 hb2 hg2 hat2)
   go_roundg k1
   case measure=>omega
   case rel=>exact⟨i+1,_,bs++[gb],rfl,by omega,by rw[List.length_append,HLN.out];rfl,⟨HST.out _ _ HO2.out HG2.out HB2.out⟩⟩
end
section
def dZ (I:Nat->Prop)(W:World)(v:Value)(l:List Int):Prop:=
 ∃ A c,v=.slice A l.length c/\l.length<=c/\((A=none/\l=[])\/∃ b cs,A=some ⟨b,0,none⟩/\I b/\Holds W b 3 cs/\∀(i:Nat) (x:Int),l[i]? =some x->cs[i]? =some (.int .i64 x))
theorem dZ.keep {I:Nat->Prop}{W W':World}{v:Value}{l:List Int}(h:dZ I W v l)(hk:∀ q cs,I q->Holds W q 3 cs->Holds W' q 3 cs):dZ I W' v l:=by
 obtain⟨A,c,h1,h2,h3⟩:=h;refine⟨A,c,h1,h2,?_⟩
 rcases h3 with h3|⟨b,cs,k1,k2,k3,k4⟩
 . exact .inl h3
 . exact .inr ⟨b,cs,k1,k2,hk b cs k2 k3,k4⟩
theorem dZ.mono {I I':Nat->Prop}{W:World}{v:Value}{l:List Int}(h:dZ I W v l)(hI:∀ q,I q->I' q):dZ I' W v l:=by
 obtain⟨A,c,h1,h2,h3⟩:=h;refine⟨A,c,h1,h2,?_⟩
 rcases h3 with h3|⟨b,cs,k1,k2,k3,k4⟩
 . exact .inl h3
 . exact .inr ⟨b,cs,k1,hI b k2,k3,k4⟩
structure Rw where
 bT:Nat
 cT:Nat
 bG:Nat
 vO:Value
 B:Nat
 ps:List (Value×Value)
 ops:List (Value×Value)
 obs:List Ob
 I:Nat->Prop
structure GR (F:Nat->Prop)(W:World)(g:Nat)(x:Rw)(M:Gm):Prop where
 hg:Holds W g 76 [.slice (some ⟨x.bT,0,none⟩) M.T.length x.cT,.slice (some ⟨x.bG,0,none⟩) M.G.length M.G.length,x.vO]
 hT:∃ cs,Holds W x.bT 77 cs/\∀(i:Nat) (p:Value×Value),x.ps[i]? =some p->cs[i*2]? =some p.1/\cs[i*2+1]? =some p.2
 hG:Holds W x.bG 3 (Iv M.G)
 hO:Kd.R bn 97 W x.B (fun _=>True) x.vO x.ops
 hB:x.B<=W.heap.size
 own:∀ k,x.vO.ownBlock=some k->F k
 lT:x.ps.length=M.T.length
 lP:x.ops.length=M.O.length
 lO:x.obs.length=M.O.length
 th:∀(i:Nat) (p:Value×Value) (t:LL),x.ps[i]? =some p->M.T[i]? =some t->dZ x.I W p.1 t.1/\dZ x.I W p.2 t.2
 ob:∀(i:Nat) (p:Value×Value) (o:Ob) (t:LL),x.ops[i]? =some p->x.obs[i]? =some o->M.O[i]? =some t->p=(.slice (some ⟨o.r,0,none⟩) t.1.length t.1.length,.slice (some ⟨o.d,0,none⟩) t.2.length t.2.length)/\Holds W o.r 3 (Iv t.1)/\Holds W o.d 31 (Uv t.2)
 fp:F g/\F x.bT/\F x.bG/\(∀ q,x.I q->F q)/\∀ o∈x.obs,F o.r/\F o.d
 nr:(x.bG :: x.obs.map Ob.r).Nodup
 nd:(x.obs.map Ob.d).Nodup
 ni:¬ x.I x.bG/\∀ o∈x.obs,¬ x.I o.r
 wf:Gwf M
 lt:∀ q,F q->q<W.heap.size
theorem mr {W W':World}{B:Nat}{v:Value}{xs:List (Value×Value)}(h:Kd.R bn 97 W B (fun _=>True) v xs)(hs:∀ k,v.ownBlock=some k->W'.heap[k]? =W.heap[k]?):Kd.R bn 97 W' B (fun _=>True) v xs:=by
 obtain⟨h0,inner,hown,hr⟩:=h;exact⟨h0,inner,pY hown hs,hr⟩
theorem BO (cs:List Value)(k:Nat)(a b:Value)(hk:k+2<=cs.length):(splice cs k [a,b])[k]? =some a/\(splice cs k [a,b])[k+1]? =some b/\∀ j,j<k\/k+2<=j->(splice cs k [a,b])[j]? =cs[j]?:=by
 unfold splice;have hl:(cs.take k).length=k:=by rw[List.length_take];omega
 refine⟨?_,?_,fun j hj=>?_⟩
 . rw[List.append_assoc,List.getElem?_append_right (by omega),hl,Nat.sub_self]
   rfl
 . rw[List.append_assoc,List.getElem?_append_right (by omega),hl,show k+1 - k=1 by omega]
   rfl
 . rcases hj with hj|hj
   . rw[List.append_assoc,List.getElem?_append_left (by omega),List.getElem?_take,if_pos hj]
   . have h2:(cs.take k++[a,b]).length=k+2:=by rw[List.length_append,hl];rfl
     rw[List.getElem?_append_right (by omega),h2,List.getElem?_drop]
     congr 1
     show k+2+(j - (k+2))=j
     omega
section
variable {F:Nat→Prop} {W W':World} {g:Nat} {x:Rw} {M M':Gm}
theorem GR.same (h:GR F W g x M)(hz:W.heap.size<=W'.heap.size)(hs:∀ q,F q->q<W.heap.size->W'.heap[q]? =W.heap[q]?):GR F W' g x M:=by
 have hh:∀{q t:Nat} {cs:List Value},F q->Holds W q t cs->Holds W' q t cs:=fun hq hc=>(hs _ hq hc.lt).trans hc
 obtain⟨f1,f2,f3,f4,f5⟩:=h.fp;refine⟨hh f1 h.hg,?_,hh f3 h.hG,mr h.hO (fun k hk=>hs k (h.own k hk) (h.lt k (h.own k hk))),Nat.le_trans h.hB hz,h.own,h.lT,h.lP,h.lO,fun i p t hp ht=>?_,fun i p o t hp ho ht=>?_,h.fp,h.nr,h.nd,h.ni,h.wf,fun q hq=>Nat.lt_of_lt_of_le (h.lt q hq) hz⟩
 . obtain⟨cs,hc,hk⟩:=h.hT;exact⟨cs,hh f2 hc,hk⟩
 . obtain⟨k1,k2⟩:=h.th i p t hp ht;exact⟨k1.keep (fun q cs hq=>hh (f4 q hq)),k2.keep (fun q cs hq=>hh (f4 q hq))⟩
 . obtain⟨h1,h2,h3⟩:=h.ob i p o t hp ho ht;obtain⟨e2,e3⟩:=f5 o (List.mem_iff_getElem?.2 ⟨i,ho⟩);exact⟨h1,hh e2 h2,hh e3 h3⟩
theorem GR.kp (h:GR F W g x M){S:Nat->Prop}(hk:Kp S W W')(hS:∀ q,F q->q<W.heap.size->¬ S q):GR F W' g x M:=h.same hk.size (fun q hq hl=>hk.block q hl (hS q hq hl))
theorem GR.below (h:GR F W g x M)(hb:Below W.heap.size W W'):GR F W' g x M:=h.same hb.size (fun q _ hl=>hb.block q hl)
theorem qc {t q:Nat}{cs:List Value}(h:GR F W g x M)(ht:t≠97)(hq:Holds W q t cs):∀ k,x.vO.ownBlock=some k->k≠q:=fun k hk e=>Kd.dL h.hO hq (fun e2=>ht e2.symm) (by rw[hk,e])
theorem GR.setT (h:GR F W g x M){k:Nat}{cs cs':List Value}{p':Value×Value}{t':LL}{N:Nat->Prop}(hk:k<M.T.length)(hc:Holds W x.bT 77 cs)(hcs:∀(i:Nat)(p:Value×Value),x.ps[i]? =some p->cs[i*2]? =some p.1/\cs[i*2+1]? =some p.2)(hs:bH W W' x.bT)(hc':Holds W' x.bT 77 (splice cs (k*2) [p'.1,p'.2]))
 (hN:∀ q,N q->q<W.heap.size/\¬ F q) (r1:dZ (fun q=>x.I q\/N q) W p'.1 t'.1) (r2:dZ (fun q=>x.I q\/N q) W p'.2 t'.2)
 (hT:∀ i,M'.T[i]? =if k=i then some t' else M.T[i]?) (hl:M'.T.length=M.T.length) (hG:M'.G=M.G) (hO:M'.O=M.O) (hw:Gwf M'):
 GR (fun q=>F q\/N q) W' g { x with ps:=x.ps.set k p',I:=fun q=>x.I q\/N q } M':=by
 have hh:∀{q t:Nat} {cs:List Value},t≠77->Holds W q t cs->Holds W' q t cs:=fun ht hq=>hs.holds hq (eH hq hc ht)
 obtain⟨f1,f2,f3,f4,f5⟩:=h.fp;have hkp:k<x.ps.length:=by rw[h.lT];exact hk
 have hlen:k*2+2<=cs.length:=by
  have:=(List.getElem?_eq_some_iff.1 (hcs k _ (List.getElem?_eq_getElem hkp)).2).1;omega
 refine⟨by rw[hl,hG];exact hh (by decide) h.hg,⟨_,hc',fun i p hi=>?_⟩,by rw[hG];exact hh (by decide) h.hG,mr h.hO (fun q hq=>hs.block q (fun e=>qc h (by decide) hc q hq e)),Nat.le_trans h.hB (Nat.le_of_eq hs.size.symm),fun q hq=>.inl (h.own q hq),by rw[hl];show(x.ps.set _ _).length=_;rw[List.length_set];exact h.lT,by rw[hO];exact h.lP,by rw[hO];exact h.lO,fun i p t hp ht=>?_,fun i p o t hp ho ht=>?_,⟨.inl f1,.inl f2,.inl f3,fun q hq=>hq.elim (fun e=>.inl (f4 q e)) .inr,fun o ho=>⟨.inl (f5 o ho).1,.inl (f5 o ho).2⟩⟩,h.nr,h.nd,⟨fun e=>e.elim h.ni.1 (fun e=>(hN _ e).2 f3),fun o ho e=>e.elim (h.ni.2 o ho) (fun e=>(hN _ e).2 (f5 o ho).1)⟩,hw,fun q hq=>by rw[hs.size];exact hq.elim (h.lt q) (fun e=>(hN q e).1)⟩
 . have hi':(x.ps.set k p')[i]? =some p:=hi;obtain⟨s1,s2,s3⟩:=BO cs (k*2) p'.1 p'.2 hlen
   by_cases e:k=i
   . subst e;rw[List.getElem?_set_self hkp]at hi';injection hi' with hi'
     subst hi';exact⟨s1,s2⟩
   . rw[List.getElem?_set_ne e]at hi';rw[s3 _ (by omega),s3 _ (by omega)]
     exact hcs i p hi'
 . have hp':(x.ps.set k p')[i]? =some p:=hp;rw[hT i]at ht
   by_cases e:k=i
   . subst e;rw[List.getElem?_set_self hkp]at hp';rw[if_pos rfl]at ht;injection hp' with hp'
     injection ht with ht
     subst hp' ht;exact⟨r1.keep (fun q cs _=>hh (by decide)),r2.keep (fun q cs _=>hh (by decide))⟩
   . rw[List.getElem?_set_ne e]at hp';rw[if_neg e]at ht;obtain⟨k1,k2⟩:=h.th i p t hp' ht;exact⟨(k1.mono (fun q e=>.inl e)).keep (fun q cs _=>hh (by decide)),(k2.mono (fun q e=>.inl e)).keep (fun q cs _=>hh (by decide))⟩
 . rw[hO]at ht;obtain⟨h1,h2,h3⟩:=h.ob i p o t hp ho ht;exact⟨h1,hh (by decide) h2,hh (by decide) h3⟩
theorem GR.setG (h:GR F W g x M)(hs:bH W W' x.bG)(hc:Holds W' x.bG 3 (Iv M'.G))(hT:M'.T=M.T)(hl:M'.G.length=M.G.length)(hO:M'.O=M.O)(hw:Gwf M'):GR F W' g x M':=by
 have hh:∀{q t:Nat} {cs:List Value},t≠3->Holds W q t cs->Holds W' q t cs:=fun ht hq=>hs.holds hq (eH hq h.hG ht)
 obtain⟨f1,f2,f3,f4,f5⟩:=h.fp;refine⟨by rw[hT,hl];exact hh (by decide) h.hg,?_,hc,mr h.hO (fun q hq=>hs.block q (fun e=>qc h (by decide) h.hG q hq e)),Nat.le_trans h.hB (Nat.le_of_eq hs.size.symm),h.own,by rw[hT];exact h.lT,by rw[hO];exact h.lP,by rw[hO];exact h.lO,fun i p t hp ht=>?_,fun i p o t hp ho ht=>?_,h.fp,h.nr,h.nd,h.ni,hw,fun q hq=>by rw[hs.size];exact h.lt q hq⟩
 . obtain⟨cs,hc,hk⟩:=h.hT;exact⟨cs,hh (by decide) hc,hk⟩
 . rw[hT]at ht;obtain⟨k1,k2⟩:=h.th i p t hp ht;exact⟨k1.keep (fun q cs hq hc=>hs.holds hc (fun e=>h.ni.1 (e▸hq))),k2.keep (fun q cs hq hc=>hs.holds hc (fun e=>h.ni.1 (e▸hq)))⟩
 . rw[hO]at ht;obtain⟨h1,h2,h3⟩:=h.ob i p o t hp ho ht;have hne:o.r≠x.bG:=fun e=>(List.nodup_cons.1 h.nr).1 (by rw[<-e];exact List.mem_map_of_mem (List.mem_iff_getElem?.2 ⟨i,ho⟩))
   exact⟨h1,hs.holds h2 hne,hh (by decide) h3⟩
theorem GR.obj (h:GR F W g x M){o:Nat}(ho:o<M.O.length):∃(q:Ob) (bO cO:Nat),x.vO=.slice (some ⟨bO,0,none⟩) M.O.length cO/\x.obs[o]? =some q/\x.ops[o]? =some (.slice (some ⟨q.r,0,none⟩) (refsOf M o).length (refsOf M o).length,.slice (some ⟨q.d,0,none⟩) (bf M o).length (bf M o).length)/\W.cell? ⟨bO,o*2,none⟩=some (.slice (some ⟨q.r,0,none⟩) (refsOf M o).length (refsOf M o).length)/\W.cell? ⟨bO,o*2+1,none⟩=some (.slice (some ⟨q.d,0,none⟩) (bf M o).length (bf M o).length)/\Holds W q.r 3 (Iv (refsOf M o))/\Holds W q.d 31 (Uv (bf M o))/\ObOk M.O.length (refsOf M o,bf M o):=by
 have hlt:o<x.obs.length:=by rw[h.lO];exact ho
 have hlp:o<x.ops.length:=by rw[h.lP];exact ho
 have e:M.O.getD o ([],[])=M.O[o]:=by rw[List.getD_eq_getElem?_getD,List.getElem?_eq_getElem ho];rfl
 obtain⟨h1,h2,h3⟩:=h.ob o _ _ _ (List.getElem?_eq_getElem hlp) (List.getElem?_eq_getElem hlt) (List.getElem?_eq_getElem ho);have h4:=h.wf.os _ (List.getElem_mem ho);obtain⟨_,inner,⟨hil,hown⟩,hr⟩:=h.hO
 rcases hown with⟨hv,h0⟩|⟨bO,cap,cur,hv,hbO,hh,hcap,hmax,hsz,htk⟩
 . exact absurd h0 (by omega)
 . have hO:Holds W bO 97 cur.toList:=by show W.heap[bO]? =some (.cells cur.toList.toArray 97 (0,0));rw[Array.toArray_toList];exact hh
   have hat:=hr.2 o _ (List.getElem?_eq_getElem hlp);have hat2:(inner.drop (o*2)).take 2=[(x.ops[o]).1,(x.ops[o]).2]:=hat.1
   have g0:inner[o*2]? =some (x.ops[o]).1:=by
    have:=congrArg (fun l=>l[0]?) hat2
    simpa [List.getElem?_take,List.getElem?_drop] using this
   have g1:inner[o*2+1]? =some (x.ops[o]).2:=by
    have:=congrArg (fun l=>l[1]?) hat2
    simpa [List.getElem?_take,List.getElem?_drop] using this
   have tk:∀(j:Nat) (v:Value),inner[j]? =some v->W.cell? ⟨bO,j,none⟩=some v:=fun j v hj=>by
    rw[<-htk,List.getElem?_take]at hj
    split at hj
    . exact(hO.cell j).trans hj
    . cases hj
   have t0:=tk _ _ g0;have t1:=tk _ _ g1;unfold refsOf bf;rw[e];rw[h1]at t0 t1;exact⟨_,bO,cap,by rw[hv,h.lP],List.getElem?_eq_getElem hlt,by rw[List.getElem?_eq_getElem hlp,h1],t0,t1,h2,h3,h4⟩
theorem GR.iw (h:GR F W g x M){o n:Nat}{q:Ob}{y:Int}(hp:x.obs[o]? =some q)(hn:n<(refsOf M o).length)(hy:0<=y/\y<=(M.O.length:Int)):GR F (W.setCell ⟨q.r,n,none⟩ (.int .i64 y)) g x (iw M o n y):=by
 have ho:o<M.O.length:=by rw[<-h.lO];exact(List.getElem?_eq_some_iff.1 hp).1
 obtain⟨q',bO,cO,_,hp',_,_,_,h2,h3,hok⟩:=h.obj ho;obtain rfl:q=q':=by rw[hp]at hp';injection hp'
 have hs:=bu W q.r n (.int .i64 y);have hc:=bB h2 (k:=n) (by simpa using hn) (.int .i64 y)
 have hh:∀{b t:Nat} {cs:List Value},t≠3->Holds W b t cs->Holds (W.setCell ⟨q.r,n,none⟩ (.int .i64 y)) b t cs:=fun ht hq=>hs.holds hq (eH hq h2 ht)
 have hO:(Im.iw M o n y).O.length=M.O.length:=List.length_modify ..;have hni:=h.ni.2 q (List.mem_iff_getElem?.2 ⟨o,hp⟩);refine⟨hh (by decide) h.hg,?_,hs.holds h.hG (fun e=>(List.nodup_cons.1 h.nr).1 (by rw[e];exact List.mem_map_of_mem (List.mem_iff_getElem?.2 ⟨o,hp⟩))),mr h.hO (fun b hq=>hs.block b (fun e=>qc h (by decide) h2 b hq e)),Nat.le_trans h.hB (Nat.le_of_eq hs.size.symm),h.own,h.lT,by rw[hO];exact h.lP,by rw[hO];exact h.lO,fun i p t hp' ht=>?_,fun i p o' t hpp ho' ht=>?_,h.fp,h.nr,h.nd,h.ni,h.wf.vZ o n hy,fun b hq=>by rw[hs.size];exact h.lt b hq⟩
 . obtain⟨cs,hc,hk⟩:=h.hT;exact⟨cs,hh (by decide) hc,hk⟩
 . obtain⟨k1,k2⟩:=h.th i p t hp' ht;exact⟨k1.keep (fun b cs hq hc=>hs.holds hc (fun e=>hni (e▸hq))),k2.keep (fun b cs hq hc=>hs.holds hc (fun e=>hni (e▸hq)))⟩
 . rw[show(Im.iw M o n y).O[i]? =_ from gD M.O _ o i (lv ho)]at ht
   by_cases e:o=i
   . rw[if_pos e]at ht;subst e;obtain rfl:=Option.some.inj ht;obtain⟨h1,_,h3⟩:=h.ob o p o' _ hpp ho' (lv ho);rw[hp]at ho';obtain rfl:=Option.some.inj ho';refine⟨by rw[List.length_set];exact h1,?_,hh (by decide) h3⟩
     show Holds _ _ _ (List.map _ (List.set _ _ _))
     rw[List.map_set];exact hc
   . rw[if_neg e]at ht;obtain⟨k1,k2,k3⟩:=h.ob i p o' t hpp ho' ht;exact⟨k1,hs.holds k2 (nP (List.nodup_cons.1 h.nr).2 ho' hp (fun e2=>e e2.symm)),hh (by decide) k3⟩
theorem GR.ik (h:GR F W g x M){o n:Nat}{q:Ob}{y:Int}(hp:x.obs[o]? =some q)(hn:n<(bf M o).length)(hy:(Lit.int .u64 y).wf=true):GR F (W.setCell ⟨q.d,n,none⟩ (.int .u64 y)) g x (ik M o n y):=by
 have ho:o<M.O.length:=by rw[<-h.lO];exact(List.getElem?_eq_some_iff.1 hp).1
 obtain⟨q',bO,cO,_,hp',_,_,_,h2,h3,hok⟩:=h.obj ho;obtain rfl:q=q':=by rw[hp]at hp';injection hp'
 have hs:=bu W q.d n (.int .u64 y);have hc:=bB h3 (k:=n) (by simpa using hn) (.int .u64 y)
 have hh:∀{b t:Nat} {cs:List Value},t≠31->Holds W b t cs->Holds (W.setCell ⟨q.d,n,none⟩ (.int .u64 y)) b t cs:=fun ht hq=>hs.holds hq (eH hq h3 ht)
 have hO:(Im.ik M o n y).O.length=M.O.length:=List.length_modify ..;refine⟨hh (by decide) h.hg,?_,hh (by decide) h.hG,mr h.hO (fun b hq=>hs.block b (fun e=>qc h (by decide) h3 b hq e)),Nat.le_trans h.hB (Nat.le_of_eq hs.size.symm),h.own,h.lT,by rw[hO];exact h.lP,by rw[hO];exact h.lO,fun i p t hp' ht=>?_,fun i p o' t hpp ho' ht=>?_,h.fp,h.nr,h.nd,h.ni,h.wf.wo o n hy,fun b hq=>by rw[hs.size];exact h.lt b hq⟩
 . obtain⟨cs,hc,hk⟩:=h.hT;exact⟨cs,hh (by decide) hc,hk⟩
 . obtain⟨k1,k2⟩:=h.th i p t hp' ht;exact⟨k1.keep (fun b cs hq hc=>hh (by decide) hc),k2.keep (fun b cs hq hc=>hh (by decide) hc)⟩
 . rw[show(Im.ik M o n y).O[i]? =_ from gD M.O _ o i (lv ho)]at ht
   by_cases e:o=i
   . rw[if_pos e]at ht;subst e;obtain rfl:=Option.some.inj ht;obtain⟨h1,h2,_⟩:=h.ob o p o' _ hpp ho' (lv ho);rw[hp]at ho';obtain rfl:=Option.some.inj ho';refine⟨by rw[List.length_set];exact h1,hh (by decide) h2,?_⟩
     show Holds _ _ _ (List.map _ (List.set _ _ _))
     rw[List.map_set];exact hc
   . rw[if_neg e]at ht;obtain⟨k1,k2,k3⟩:=h.ob i p o' t hpp ho' ht;exact⟨k1,hh (by decide) k2,hs.holds k3 (nP h.nd ho' hp (fun e2=>e e2.symm))⟩
end
end
section
section
variable {F:Nat→Prop} {w:World} {g:Nat} {x:Rw} {M:Gm}
theorem GR.x0 (h:GR F w g x M):w.cell? ⟨g,0,none⟩=some (.slice (some ⟨x.bT,0,none⟩) M.T.length x.cT):=(h.hg.cell 0).trans rfl
theorem GR.x1 (h:GR F w g x M):w.cell? ⟨g,1,none⟩=some (.slice (some ⟨x.bG,0,none⟩) M.G.length M.G.length):=(h.hg.cell 1).trans rfl
theorem GR.x2 (h:GR F w g x M):w.cell? ⟨g,2,none⟩=some x.vO:=(h.hg.cell 2).trans rfl
theorem GR.thr (h:GR F w g x M){k:Nat}{th:LL}(hk:M.T[k]? =some th):∃(p:Value×Value) (A0 A1:Option Addr) (c0 c1:Nat),x.ps[k]? =some p/\p=(.slice A0 th.1.length c0,.slice A1 th.2.length c1)/\w.cell? ⟨x.bT,k*2,none⟩=some (.slice A0 th.1.length c0)/\w.cell? ⟨x.bT,k*2+1,none⟩=some (.slice A1 th.2.length c1)/\dZ x.I w p.1 th.1/\dZ x.I w p.2 th.2/\ThOk M.O.length th:=by
 have hlt:k<x.ps.length:=by rw[h.lT];exact(List.getElem?_eq_some_iff.1 hk).1
 have hp:=List.getElem?_eq_getElem hlt;obtain⟨r1,r2⟩:=h.th k _ th hp hk;obtain⟨ct,h3,h4⟩:=h.hT;obtain⟨k1,k2⟩:=h4 k _ hp;obtain⟨A0,c0,e0,_⟩:=id r1;obtain⟨A1,c1,e1,_⟩:=id r2;exact⟨_,A0,A1,c0,c1,hp,Prod.ext e0 e1,(h3.cell (k*2)).trans (by rw[k1,e0]),(h3.cell (k*2+1)).trans (by rw[k2,e1]),r1,r2,h.wf.ts th (List.mem_iff_getElem?.2 ⟨k,hk⟩)⟩
theorem dZ.get {I:Nat->Prop}{v:Value}{l:List Int}{A:Option Addr}{n c:Nat}(h:dZ I w v l)(hv:v=.slice A n c){j:Nat}{y:Int}(hj:l[j]? =some y):∃ b,A=some ⟨b,0,none⟩/\w.cell? ⟨b,j,none⟩=some (.int .i64 y):=by
 obtain⟨A',c',e,_,h3⟩:=h;rw[hv]at e;injection e with e1 e2 e3
 rcases h3 with⟨_,rfl⟩|⟨b,cs,rfl,_,hh,hat⟩
 . cases hj
 . exact⟨b,e1,(hh.cell j).trans (hat j y hj)⟩
theorem jG (h:GR F w g x M)(t i y:Int)(hs:bV M t i=some y):
 Calls Tryz.prog 42 #[.pointer (some ⟨g,0,none⟩),.int .i64 t,.int .i64 i] w fun e w'=>e=.returned (.tuple #[.int .i64 y,.int .i64 0])/\w'=w:=by
 unfold bV at hs;cases ht:atI M.T t with
 |none=>rw[ht]at hs;cases hs
 |some th=>
  rw[ht]at hs;obtain⟨k,rfl,hk,hlt⟩:=dC ht;obtain⟨j,rfl,hj,hjl⟩:=dC (show atI th.1 i=some y from hs)
  obtain⟨p,A0,A1,c0,c1,hp,rfl,xT,_,r1,r2,hok⟩:=h.thr hk;obtain⟨b,rfl,xj⟩:=r1.get rfl hj;have x0:=h.x0;have q1:decide ((k:Int)<0)=false:=yd (by omega)
  have q2:decide ((k:Int)>=(M.T.length:Int))=false:=yd (by omega)
  have q2':decide ((M.T.length:Int)<=(k:Int))=false:=yd (by omega)
  have q2'':decide (M.T.length<=k)=false:=yd (by omega)
  have q3:(0:Int)<=(k:Int):=by omega
  have q4:(k:Int)<(M.T.length:Int):=by omega
  have q5:decide ((j:Int)<0)=false:=yd (by omega)
  have q6:decide ((j:Int)>=(th.1.length:Int))=false:=yd (by omega)
  have q6':decide ((th.1.length:Int)<=(j:Int))=false:=yd (by omega)
  have q6'':decide (th.1.length<=j)=false:=yd (by omega)
  have q7:(0:Int)<=(j:Int):=by omega
  have q8:(j:Int)<(th.1.length:Int):=by omega
  clear hs ht hk hj hp r1 r2 hok h hlt hjl;go_enter Tryz.func42,Tryz.ntmps42;go_wp2_with fail
  go_ret2
  exact⟨rfl,rfl⟩
theorem jS (h:GR F w g x M)(t i:Int)(hs:bV M t i=none):
 Calls Tryz.prog 42 #[.pointer (some ⟨g,0,none⟩),.int .i64 t,.int .i64 i] w fun e w'=>e=.returned (.tuple #[.int .i64 0,.int .i64 2])/\w'=w:=by
 unfold bV at hs;have x0:=h.x0;cases ht:atI M.T t with
 |none=>
  have hn:=gY ht
  by_cases h0:t<0
  . have q1:decide (t<0)=true:=yb h0;clear hs ht h hn h0;go_enter Tryz.func42,Tryz.ntmps42;go_wp2_with fail
    go_ret2
    exact⟨rfl,rfl⟩
  . have q1:decide (t<0)=false:=yd h0;have q2:decide (t>=(M.T.length:Int))=true:=yb (by omega)
    have q2':decide ((M.T.length:Int)<=t)=true:=yb (by omega)
    clear hs ht h hn h0;go_enter Tryz.func42,Tryz.ntmps42;go_wp2_with fail
    go_ret2
    exact⟨rfl,rfl⟩
 |some th=>
  rw[ht]at hs;obtain⟨k,rfl,hk,hlt⟩:=dC ht;obtain⟨p,A0,A1,c0,c1,hp,rfl,xT,_,r1,r2,hok⟩:=h.thr hk;have hn:=gY (show atI th.1 i=none from hs)
  have q1:decide ((k:Int)<0)=false:=yd (by omega)
  have q2:decide ((k:Int)>=(M.T.length:Int))=false:=yd (by omega)
  have q2':decide ((M.T.length:Int)<=(k:Int))=false:=yd (by omega)
  have q2'':decide (M.T.length<=k)=false:=yd (by omega)
  have q3:(0:Int)<=(k:Int):=by omega
  have q4:(k:Int)<(M.T.length:Int):=by omega
  by_cases h0:i<0
  . have q5:decide (i<0)=true:=yb h0;clear hs ht h hn h0 hk hlt hp r1 r2 hok;go_enter Tryz.func42,Tryz.ntmps42;go_wp2_with fail
    go_ret2
    exact⟨rfl,rfl⟩
  . have q5:decide (i<0)=false:=yd h0;have q6:decide (i>=(th.1.length:Int))=true:=yb (by omega)
    have q6':decide ((th.1.length:Int)<=i)=true:=yb (by omega)
    clear hs ht h hn h0 hk hlt hp r1 r2 hok;go_enter Tryz.func42,Tryz.ntmps42;go_wp2_with fail
    go_ret2
    exact⟨rfl,rfl⟩
theorem uG (h:GR F w g x M)(t i:Int)(o:Nat)(ho:jo M t i=.ok o):
 Calls Tryz.prog 97 #[.pointer (some ⟨g,0,none⟩),.int .i64 t,.int .i64 i] w fun e w'=>e=.returned (.tuple #[.int .i64 (o:Int),.int .i64 0])/\w'=w:=by
 have hol:=fK h.wf ho;obtain⟨y,hy,h0,rfl⟩:=uT ho;have HA:=Y (jG h t i y hy);have hb:=h.wf.slot hy;have hO:=h.wf.o;obtain⟨n,rfl⟩:∃ n:Nat,y=(n:Int)+1:=⟨(y - 1).toNat,by omega⟩
 have q1:decide ((n:Int)+1=0)=false:=yd (by omega)
 have q1':(((n:Int)+1)==0)=false:=by rw[beq_eq_false_iff_ne];omega
 have hw1:IntKind.i64.wrap ((n:Int)+1 - 1)=(n:Int):=by rw[i64_in (by omega)];omega
 have hw2:IntKind.i64.wrap (n:Int)=(n:Int):=i64_in (by omega)
 rw[show((n:Int)+1).toNat - 1=n by omega]
 clear h hy ho hol h0 hb hO;go_enter Tryz.func97,Tryz.ntmps97;go_wp2_with (go_at_call 42;refine HA.out.mono ?_;rintro e w2 ⟨rfl,hw2⟩;subst w2)
 go_ret2
 exact⟨rfl,rfl⟩
theorem Co (h:GR F w g x M)(t i e:Int)(ho:jo M t i=.error e):
 Calls Tryz.prog 97 #[.pointer (some ⟨g,0,none⟩),.int .i64 t,.int .i64 i] w fun r w'=>r=.returned (.tuple #[.int .i64 (-1),.int .i64 e])/\w'=w:=by
 rcases jU ho with⟨hs,rfl⟩|⟨hs,rfl⟩
 . have HA:=Y (jS h t i hs);clear h hs ho;go_enter Tryz.func97,Tryz.ntmps97;go_wp2_with (go_at_call 42;refine HA.out.mono ?_;rintro e w2 ⟨rfl,hw2⟩;subst w2)
   go_ret2
   exact⟨rfl,rfl⟩
 . have HA:=Y (jG h t i 0 hs);clear h hs ho;go_enter Tryz.func97,Tryz.ntmps97;go_wp2_with (go_at_call 42;refine HA.out.mono ?_;rintro e w2 ⟨rfl,hw2⟩;subst w2)
   go_ret2
   exact⟨rfl,rfl⟩
theorem CK (h:GR F w g x M)(t i:Int)(n o:Nat)(ho:jo M t i=.ok o)(hn:n<(refsOf M o).length):
 Calls Tryz.prog 70 #[.pointer (some ⟨g,0,none⟩),.int .i64 t,.int .i64 i,.int .i64 (n:Int)] w fun e w'=>e=.returned (.tuple #[.int .i64 (o:Int),.int .i64 0])/\w'=w:=by
 have HA:=Y (uG h t i o ho);have hol:=fK h.wf ho;obtain⟨q,bO,cO,hv,hp,_,xr,xd,_⟩:=h.obj hol;have x2:=h.x2;rw[hv]at x2;have q1:decide ((n:Int)<0)=false:=yd (by omega)
 have q2:decide ((n:Int)>=((refsOf M o).length:Int))=false:=yd (by omega)
 have q2':decide (((refsOf M o).length:Int)<=(n:Int))=false:=yd (by omega)
 have q2'':decide ((refsOf M o).length<=n)=false:=yd (by omega)
 have q3:(0:Int)<=(o:Int):=by omega
 have q4:(o:Int)<(M.O.length:Int):=by omega
 clear h ho hol hp hn hv;go_enter Tryz.func70,Tryz.ntmps70;go_wp2_with (go_at_call 97;refine HA.out.mono ?_;rintro e w2 ⟨rfl,hw2⟩;subst w2)
 go_ret2
 exact⟨rfl,rfl⟩
theorem BX (h:GR F w g x M)(t i k e:Int)(ho:nZ M t i k=.error e):
 Calls Tryz.prog 70 #[.pointer (some ⟨g,0,none⟩),.int .i64 t,.int .i64 i,.int .i64 k] w fun r w'=>(∃ m,r=.returned (.tuple #[.int .i64 m,.int .i64 e]))/\w'=w:=by
 rcases nC ho with hs|⟨o,hs,rfl,hk⟩
 . have HA:=Y (Co h t i e hs)
   have he:e=2\/e=5:=by
    rcases jU hs with⟨_,h1⟩|⟨_,h1⟩
    . exact .inl h1
    . exact .inr h1
   rcases he with rfl|rfl
   . skip
     clear h hs ho;go_enter Tryz.func70,Tryz.ntmps70;go_wp2_with (go_at_call 97;refine HA.out.mono ?_;rintro e w2 ⟨rfl,hw2⟩;subst w2)
     go_ret2
     exact⟨⟨_,rfl⟩,rfl⟩
   . skip
     clear h hs ho;go_enter Tryz.func70,Tryz.ntmps70;go_wp2_with (go_at_call 97;refine HA.out.mono ?_;rintro e w2 ⟨rfl,hw2⟩;subst w2)
     go_ret2
     exact⟨⟨_,rfl⟩,rfl⟩
 . have HA:=Y (uG h t i o hs);have hol:=fK h.wf hs;obtain⟨q,bO,cO,hv,hp,_,xr,xd,_⟩:=h.obj hol;have x2:=h.x2;rw[hv]at x2;have q3:(0:Int)<=(o:Int):=by omega
   have q4:(o:Int)<(M.O.length:Int):=by omega
   by_cases h0:k<0
   . have q1:decide (k<0)=true:=yb h0;clear h hs ho hk hol hp hv h0;go_enter Tryz.func70,Tryz.ntmps70;go_wp2_with (go_at_call 97;refine HA.out.mono ?_;rintro e w2 ⟨rfl,hw2⟩;subst w2)
     go_ret2
     exact⟨⟨_,rfl⟩,rfl⟩
   . have q1:decide (k<0)=false:=yd h0;have q2:decide (k>=((refsOf M o).length:Int))=true:=yb (by omega)
     have q2':decide (((refsOf M o).length:Int)<=k)=true:=yb (by omega)
     clear h hs ho hk hol hp hv h0;go_enter Tryz.func70,Tryz.ntmps70;go_wp2_with (go_at_call 97;refine HA.out.mono ?_;rintro e w2 ⟨rfl,hw2⟩;subst w2)
     go_ret2
     exact⟨⟨_,rfl⟩,rfl⟩
theorem CS (h:GR F w g x M)(t i:Int)(n o:Nat)(ho:jo M t i=.ok o)(hn:n<(bf M o).length):
 Calls Tryz.prog 71 #[.pointer (some ⟨g,0,none⟩),.int .i64 t,.int .i64 i,.int .i64 (n:Int)] w fun e w'=>e=.returned (.tuple #[.int .i64 (o:Int),.int .i64 0])/\w'=w:=by
 have HA:=Y (uG h t i o ho);have hol:=fK h.wf ho;obtain⟨q,bO,cO,hv,hp,_,xr,xd,_⟩:=h.obj hol;have x2:=h.x2;rw[hv]at x2;have q1:decide ((n:Int)<0)=false:=yd (by omega)
 have q2:decide ((n:Int)>=((bf M o).length:Int))=false:=yd (by omega)
 have q2':decide (((bf M o).length:Int)<=(n:Int))=false:=yd (by omega)
 have q2'':decide ((bf M o).length<=n)=false:=yd (by omega)
 have q3:(0:Int)<=(o:Int):=by omega
 have q4:(o:Int)<(M.O.length:Int):=by omega
 clear h ho hol hp hn hv;go_enter Tryz.func71,Tryz.ntmps71;go_wp2_with (go_at_call 97;refine HA.out.mono ?_;rintro e w2 ⟨rfl,hw2⟩;subst w2)
 go_ret2
 exact⟨rfl,rfl⟩
theorem Df (h:GR F w g x M)(t i k e:Int)(ho:mM M t i k=.error e):
 Calls Tryz.prog 71 #[.pointer (some ⟨g,0,none⟩),.int .i64 t,.int .i64 i,.int .i64 k] w fun r w'=>(∃ m,r=.returned (.tuple #[.int .i64 m,.int .i64 e]))/\w'=w:=by
 rcases qb ho with hs|⟨o,hs,rfl,hk⟩
 . have HA:=Y (Co h t i e hs)
   have he:e=2\/e=5:=by
    rcases jU hs with⟨_,h1⟩|⟨_,h1⟩
    . exact .inl h1
    . exact .inr h1
   rcases he with rfl|rfl
   . skip
     clear h hs ho;go_enter Tryz.func71,Tryz.ntmps71;go_wp2_with (go_at_call 97;refine HA.out.mono ?_;rintro e w2 ⟨rfl,hw2⟩;subst w2)
     go_ret2
     exact⟨⟨_,rfl⟩,rfl⟩
   . skip
     clear h hs ho;go_enter Tryz.func71,Tryz.ntmps71;go_wp2_with (go_at_call 97;refine HA.out.mono ?_;rintro e w2 ⟨rfl,hw2⟩;subst w2)
     go_ret2
     exact⟨⟨_,rfl⟩,rfl⟩
 . have HA:=Y (uG h t i o hs);have hol:=fK h.wf hs;obtain⟨q,bO,cO,hv,hp,_,xr,xd,_⟩:=h.obj hol;have x2:=h.x2;rw[hv]at x2;have q3:(0:Int)<=(o:Int):=by omega
   have q4:(o:Int)<(M.O.length:Int):=by omega
   by_cases h0:k<0
   . have q1:decide (k<0)=true:=yb h0;clear h hs ho hk hol hp hv h0;go_enter Tryz.func71,Tryz.ntmps71;go_wp2_with (go_at_call 97;refine HA.out.mono ?_;rintro e w2 ⟨rfl,hw2⟩;subst w2)
     go_ret2
     exact⟨⟨_,rfl⟩,rfl⟩
   . have q1:decide (k<0)=false:=yd h0;have q2:decide (k>=((bf M o).length:Int))=true:=yb (by omega)
     have q2':decide (((bf M o).length:Int)<=k)=true:=yb (by omega)
     clear h hs ho hk hol hp hv h0;go_enter Tryz.func71,Tryz.ntmps71;go_wp2_with (go_at_call 97;refine HA.out.mono ?_;rintro e w2 ⟨rfl,hw2⟩;subst w2)
     go_ret2
     exact⟨⟨_,rfl⟩,rfl⟩
end
end
section
theorem dm:(Tryz.prog.info? 77).map (·.size)=some 2:=by kernel_rfl
def iH (B:Nat)(W:World)(v:Value)(l:List Int):Prop:=∃ b c cs,v=.slice (some ⟨b,0,none⟩) l.length c/\l.length<=c/\B<=b/\Holds W b 3 cs/\∀(i:Nat) (x:Int),l[i]? =some x->cs[i]? =some (.int .i64 x)
theorem iH.below {B:Nat}{W W':World}{v:Value}{l:List Int}(h:iH B W v l)(hb:Below W.heap.size W W'):iH B W' v l:=by
 obtain⟨b,c,cs,h1,h2,h3,h4,h5⟩:=h;exact⟨b,c,cs,h1,h2,h3,h4.below hb,h5⟩
theorem iH.other {B g t:Nat}{W W':World}{v:Value}{l:List Int}{cs:List Value}(h:iH B W v l)(hg:Holds W g t cs)(ht:t≠3)(hs:bH W W' g):iH B W' v l:=by
 obtain⟨b,c,cs,h1,h2,h3,h4,h5⟩:=h;exact⟨b,c,cs,h1,h2,h3,hs.holds h4 (eH h4 hg (fun e=>ht e.symm)),h5⟩
theorem iH.slice {B:Nat}{W:World}{v:Value}{l:List Int}(h:iH B W v l):∃ A c,v=.slice A l.length c:=by
 obtain⟨b,c,cs,h1,_⟩:=h;exact⟨_,c,h1⟩
theorem iH.kV {B:Nat}{ok:Nat->Prop}{W:World}{v:Value}{l:List Int}(h:Kd.R (Kd.int .i64) 3 W B ok v l)(hl:l≠[]):iH B W v l:=by
 obtain⟨_,inner,⟨hil,hown⟩,hr⟩:=h
 rcases hown with⟨_,h0⟩|⟨b,cap,cur,hv,hB,hh,hcap,_,_,htk⟩
 . exact absurd (List.eq_nil_of_length_eq_zero h0) hl
 . have hT:Holds W b 3 cur.toList:=by show W.heap[b]? =some (.cells cur.toList.toArray 3 (0,0));rw[Array.toArray_toList];exact hh
   refine⟨b,cap,cur.toList,hv,hcap,hB,hT,fun i x hi=>?_⟩
   have hat:(inner.drop (i*1)).take 1=[.int .i64 x]:=hr.2 i x hi;rw[Nat.mul_one]at hat
   have g0:inner[i]? =some (.int .i64 x):=by
    have:=congrArg (fun l=>l[0]?) hat
    simpa [List.getElem?_take,List.getElem?_drop] using this
   rw[<-htk,List.getElem?_take]at g0
   split at g0
   . exact g0
   . cases g0
theorem dZ.C {I:Nat->Prop}{W:World}{v:Value}{l:List Int}{A:Option Addr}{n c:Nat}(h:dZ I W v l)(hv:v=.slice A n c)(hl:l.length<=1000):Kd.C (Kd.int .i64) W A l.length l:=by
 refine⟨rfl,by omega,fun h0=>?_⟩
 obtain⟨A',c',e,_,h3⟩:=h;rw[hv]at e;injection e with e1 e2 e3
 rcases h3 with⟨_,rfl⟩|⟨b,cs,rfl,_,hh,hat⟩
 . exact absurd h0 (by simp)
 . refine⟨_,e1,fun j p hj=>⟨[.int .i64 p],rfl,rfl,fun i u hi=>?_⟩⟩
   cases i with
   |zero=>
    obtain rfl:Value.int .i64 p=u:=by simpa using hi
    rw[show(⟨b,0,none⟩:Addr).add (j*(Kd.int .i64).sz+0)=⟨b,j,none⟩ by simp[Addr.add,show(Kd.int .i64).sz=1 from rfl];omega]
    exact(hh.cell j).trans (hat j p hj)
   |succ i=>simp at hi
theorem iH.row {B:Nat}{W:World}{v:Value}{l:List Int}(h:iH B W v l):∃ b,B<=b/\b<W.heap.size/\dZ (fun q=>q=b) W v l:=by
 obtain⟨b,c,cs,h1,h2,h3,h4,h5⟩:=h;exact⟨b,h3,h4.lt,_,c,h1,h2,.inr ⟨b,cs,rfl,rfl,h4,h5⟩⟩
section
variable {I:Nat→Prop} {w:World}
theorem r98 (A:Option Addr)(c:Nat)(l:List Int)(A1:Option Addr)(n1 c1:Nat)(h:dZ I w (.slice A l.length c) l)(k:Nat)(hk:k<l.length)(hl:l.length<=1000)(x:Int):
 Calls Tryz.prog 98 #[.agg #[.slice A l.length c,.slice A1 n1 c1],.int .i64 (k:Int),.int .i64 x] w fun e w'=>∃ v,e=.returned (.agg #[v,.slice A1 n1 c1])/\iH w.heap.size w' v (l.set k x)/\Below w.heap.size w w':=by
 have HC:=Y (h.C rfl hl);have HL:=Y (And.intro hk hl);have q3:(0:Int)<=(k:Int):=by omega
 have q4:(k:Int)<(l.length:Int):=by omega
 have hu:=Tryz.underlying77;have hb1:=ae (ae (Below.refl w.heap.size w) (.cells #[.slice A l.length c,.slice A1 n1 c1] 77)) (.cells #[.slice none 0 0,.slice none 0 0] 77);have h1:Holds ((w.alloc (.cells #[.slice A l.length c,.slice A1 n1 c1] 77)).alloc (.cells #[.slice none 0 0,.slice none 0 0] 77)) w.heap.size 77 [.slice A l.length c,.slice A1 n1 c1]:=Holds.below (aK _ _) (ae zc _);have h2:Holds ((w.alloc (.cells #[.slice A l.length c,.slice A1 n1 c1] 77)).alloc (.cells #[.slice none 0 0,.slice none 0 0] 77)) (w.heap.size+1) 77 [.slice none 0 0,.slice none 0 0]:=by have h:=aK (w.alloc (.cells #[.slice A l.length c,.slice A1 n1 c1] 77)) (.cells #[.slice none 0 0,.slice none 0 0] 77);rw[World.size_alloc]at h;exact h
 clear h hk hl;go_enter Tryz.func98,Tryz.ntmps98;go_upto_region 1 with(fail)
 obtain⟨W1,hW1⟩:∃ W1,W1=(w.alloc (.cells #[.slice A l.length c,.slice A1 n1 c1] 77)).alloc (.cells #[.slice none 0 0,.slice none 0 0] 77):=⟨_,rfl⟩;rw[<-hW1]at hb1 h1 h2 ⊢;have hsz:W1.heap.size=w.heap.size+2:=by rw[hW1];simp
 have HB1:=Y hb1;have H1:=Y h1;have H2:=Y h2;have HSZ:=Y hsz;have z0:W1.cell? ⟨w.heap.size,0,none⟩=some (.slice A l.length c):=(h1.cell 0).trans rfl;clear hb1 h1 h2 hsz hW1;go_upto_region 2 with(at_builtin;refine jR (Kd.int .i64) (w0:=W1) W1.heap.size rfl (.const (.slice none 0 0)) (.tmp 9) 38 3 (.int .i64 0) 8 rfl Tryz.underlying38 kI rfl (by decide) (by omega) (.slice none 0 0) [] l A l.length c (fun _=>True) rfl rfl (fun _ _ _ _ h=>h) (fun _ _=>trivial) (Kd.fo _ _ _ _ _) (Kd.aU HC.out HB1.out) zc (Nat.le_refl _) (by have:=HL.out.2;show(0+l.length)*8<=_;omega) ?_;intro v1 w2 ho2 hb2 hg2 hat2;have HN:=Y (iH.kV (l:=l) ho2 (by intro e;have:=HL.out.1;rw[e]at this;exact absurd this (by simp)));have HB2:=Y hb2;clear ho2 hb2 hg2 hat2)
 obtain⟨b,cb,cs,rfl,hcb,hb,hh,hat⟩:=HN.out;have x6:=ak hh k
 have hkc:k<cs.length:=by
  have:=(List.getElem?_eq_some_iff.1 (hat k _ (List.getElem?_eq_getElem HL.out.1))).1;exact this
 have x5:=(hh.cell k).trans (List.getElem?_eq_getElem hkc);generalize cs[k]=yo at x5;have HS:=Y (bu w2 b k (.int .i64 x));have HH:=Y (bB hh hkc (.int .i64 x));have HF:=Y (And.intro hcb (And.intro hb (And.intro hat hkc)));clear hh hat hcb hb hkc HN;go_upto_region 3 with(fail)
 obtain⟨W3,hW3⟩:∃ W3,W3=w2.setCell ⟨b,k,none⟩ (.int .i64 x):=⟨_,rfl⟩;rw[<-hW3]at HS HH ⊢;clear hW3 x5 x6 z0;have H13:=Y (HS.out.holds (H1.out.below HB2.out) (by have:=HF.out.2.1;have:=HSZ.out;omega))
 have H23:=Y (HS.out.holds (H2.out.below HB2.out) (by have:=HF.out.2.1;have:=HSZ.out;omega))
 have z1:W3.cell? ⟨w.heap.size,1,none⟩=some (.slice A1 n1 c1):=(H13.out.cell 1).trans rfl;go_wp2_with ((with_reducible refine bg (t:=77) (p:=6) rfl ?_);refine aG rfl (ty:=77) rfl rfl (g:=w.heap.size+1) (off:=0) (vs:=#[.slice (some ⟨b,0,none⟩) l.length cb,.slice A1 n1 c1]) rfl rfl H23.out (by show 2<=2;decide) dm (by simp[Value.oneCell']) ?_;intro w5 hh5 hs5;have HH5:=Y hh5;have HS5:=Y hs5;clear hh5 hs5)
 refine bodyPost_ret (results_cell_row rfl _ _ (w.heap.size+1) 77 #[.slice (some ⟨b,0,none⟩) l.length cb,.slice A1 n1 c1] (0,0) _ rfl HH5.out Tryz.underlying77 rfl dm) rfl ?_;refine⟨_,rfl,?_,?_⟩
 . have hn:iH w.heap.size W3 (.slice (some ⟨b,0,none⟩) l.length cb) (l.set k x):=by
    refine⟨b,cb,_,by rw[List.length_set],by rw[List.length_set];exact HF.out.1,by have:=HF.out.2.1;have:=HSZ.out;omega,HH.out,fun i y hi=>?_⟩
    by_cases e:k=i
    . subst e;rw[List.getElem?_set_self HL.out.1]at hi;rw[List.getElem?_set_self HF.out.2.2.2];injection hi with hi
      rw[hi]
    . rw[List.getElem?_set_ne e]at hi ⊢;exact HF.out.2.2.1 i y hi
   exact hn.other H23.out (by decide) HS5.out
 . have k1:=ag HB1.out (by have:=HSZ.out;omega) HB2.out
   exact HS5.out.below (HS.out.below k1 (by have:=HF.out.2.1;have:=HSZ.out;omega)) (by omega)
end
end
end Go.Proofs.YtglikkmmbdnmbaaGreat.Im

/- What the program's graph tells: a thread's slots and stack, the global roots. -/
import Derived.Test.YtglikkmmbdnmbaaGreatQ08
import Derived.Test.YtglikkmmbdnmbaaGreatQ09
import Derived.Test.YtglikkmmbdnmbaaGreatQ04
set_option maxHeartbeats 8000000
set_option maxRecDepth 100000
namespace Go.Proofs.YtglikkmmbdnmbaaGreat.Im
open Go.RowKit Q7
open YtglikkmmbdnmbaaGreat.Own PCan Wv
set_option linter.unusedVariables false
set_option linter.unusedSimpArgs false
section
theorem yE:(Tryz.prog.info? 3).map (·.size)=some 1:=by kernel_rfl
theorem Cf (w:World)(n:Nat)(hn:n<=1000):Kd.R (Kd.int .i64) 3 (w.alloc (.cells (Array.replicate n (.int .i64 0)) 3)) w.heap.size (fun _=>True) (.slice (some ⟨w.heap.size,0,none⟩) n n) (List.replicate n 0):=by
 have hm:n<=maxLen:=by
  have:(1000:Nat)<=maxLen:=by decide
  omega
 refine⟨fun _ _=>trivial,List.replicate n (.int .i64 0),⟨by rw[List.length_replicate,List.length_replicate];show n=n*1;omega,.inr ⟨w.heap.size,n,Array.replicate n (.int .i64 0),by rw[List.length_replicate],Nat.le_refl _,aK _ _,by rw[List.length_replicate];exact Nat.le_refl _,hm,by rw[Array.size_replicate];show n=n*1;omega,?_⟩⟩,by rw[List.length_replicate,List.length_replicate];exact(Nat.mul_one n).symm,fun j p hj=>?_⟩
 . rw[Array.toList_replicate,List.length_replicate];show(List.replicate n _).take (n*1)=_
   rw[List.take_of_length_le (by simp)]
 . rw[List.getElem?_replicate]at hj
   split at hj
   . rename_i hlt
     injection hj with hj
     subst hj;show((List.replicate n (Value.int .i64 0)).drop (j*1)).take 1=[.int .i64 0]
     rw[Nat.mul_one,List.drop_replicate,List.take_replicate,show min 1 (n - j)=1 by omega]
     rfl
   . cases hj
section
variable {o:Oper} {a:Act} {W:World}
theorem iZ {x:Operand}{g:Nat}(i j:Nat)(hij:(i=1/\j=8)\/(i=2/\j=9)\/(i=3/\j=25))(ho:o.op=.fieldAddr 119 x i)(hx:a.eval x=.pointer (some ⟨g,0,none⟩)):(execOp a.eval o).run Tryz.prog W=.ok (.value (.pointer (some ⟨g,j,none⟩))) W:=by
 have hu:=Tryz.underlying119
 rcases hij with⟨rfl,rfl⟩|⟨rfl,rfl⟩|⟨rfl,rfl⟩<;>
  (unfold execOp
   simp only[ho,hx]
   go_simp)
theorem qh {x y:Operand}{b d:Nat}(hd:d<=16)(ho:o.op=.slice 117 x none (some y) none)(hx:a.eval x=.pointer (some ⟨b,9,none⟩))(hy:a.eval y=.int .i64 (d:Int)):(execOp a.eval o).run Tryz.prog W=.ok (.value (.slice (some ⟨b,9,none⟩) d 16)) W:=by
 have hu:=Tryz.underlying117;have h1:(0:Int)<=(d:Int):=by omega
 have h2:(d:Int)<=16:=by omega
 generalize a.eval=E at hx hy ⊢;unfold execOp;simp only[ho,hx,hy,Option.map]
 go_simp
end
def V75 (b o d:Nat):Nat->Value->World->Prop
 |0,v,_=>v=.slice (some ⟨o,0,none⟩) d d
 |1,v,_=>v=.pointer (some ⟨b,0,none⟩)
 |2,v,_=>v=.pointer (some ⟨b,0,none⟩)
 |3,v,_=>v=.pointer (some ⟨b,9,none⟩)
 |4,v,_=>v=.pointer (some ⟨b,0,none⟩)
 |5,v,_=>v=.pointer (some ⟨b,0,none⟩)
 |6,v,_=>v=.pointer (some ⟨b,25,none⟩)
 |7,v,_=>v=.int .i64 (d:Int)
 |8,v,_=>v=.slice (some ⟨b,9,none⟩) d 16
 |_,_,_=>True
theorem Ch (b o d:Nat)(j:Nat)(v:Value)(w w':World)(h:V75 b o d j v w):V75 b o d j v w':=by
 unfold V75 at h ⊢
 split at h<;>first|exact h|trivial
theorem fq.C {w:World}{b:Nat}{cs:List Value}{t:LL}(h:fq cs t)(hc:Holds w b 119 cs)(h16:t.2.length<=16):Kd.C (Kd.int .i64) w (some ⟨b,9,none⟩) t.2.length t.2:=by
 refine⟨rfl,by omega,fun _=>⟨_,rfl,fun j p hj=>⟨[.int .i64 p],rfl,rfl,fun i u hi=>?_⟩⟩⟩
 cases i with
 |succ i=>simp at hi
 |zero=>
  obtain rfl:Value.int .i64 p=u:=by simpa using hi
  rw[show(⟨b,9,none⟩:Addr).add (j*(Kd.int .i64).sz+0)=⟨b,9+j,none⟩ by simp[Addr.add,show(Kd.int .i64).sz=1 from rfl]]
  exact(hc.cell (9+j)).trans (h.st j p hj)
section
variable {b:Nat} {cs:List Value} {t:LL} {w:World}
theorem t74 (hc:Holds w b 119 cs)(ht:fq cs t):
 Calls Tryz.prog 74 #[.pointer (some ⟨b,0,none⟩)] w fun e w'=>e=.returned (.int .i64 (t.1.length:Int))/\w'=w:=by
 have x8:w.cell? ⟨b,8,none⟩=some (.int .i64 (t.1.length:Int)):=(hc.cell 8).trans ht.n;clear hc ht;go_enter Tryz.func74,Tryz.ntmps74;go_wp2_with fail
 go_ret
 exact⟨rfl,rfl⟩
theorem t75 (hc:Holds w b 119 cs)(ht:fq cs t)(h16:t.2.length<=16):
 Calls Tryz.prog 75 #[.pointer (some ⟨b,0,none⟩)] w fun e w'=>∃ v,e=.returned v/\Kd.R (Kd.int .i64) 3 w' w.heap.size (fun _=>True) v t.2/\Below w.heap.size w w':=by
 have x25:w.cell? ⟨b,25,none⟩=some (.int .i64 (t.2.length:Int)):=(hc.cell 25).trans ht.deep;have HN:=Y (show t.2.length<=1000 by omega)
 have H16:=Y h16;have HC:=Y (ht.C hc h16);have hb1:=ae (Below.refl w.heap.size w) (.cells (Array.replicate t.2.length (.int .i64 0)) 3);have HH:=Y (hc.below hb1);have HR:=Y (Cf w t.2.length (by omega))
 have HB:=Y hb1;have HT:=Y ht;clear hc ht h16 hb1;go_enter Tryz.func75,Tryz.ntmps75;go_upto_region 4 with((with_reducible refine aW (N:=10) rfl ?_);refine Kd.fA rfl (jf HN.out rfl rfl rfl) ?_)
 obtain⟨W1,hW1⟩:∃ W1,W1=w.alloc (.cells (Array.replicate t.2.length (.int .i64 0)) 3):=⟨_,rfl⟩;rw[<-hW1]at HH HR HB ⊢;clear hW1 x25;generalize hob:w.heap.size=ob at HR ⊢;have HOB:=Y hob;clear hob;refine jZ 9 22 (V75 b ob t.2.length) (by kernel_rfl) (by rfl) (by kernel_rfl) (fun j v w1 w2 h hb=>Ch _ _ _ j v w1 w2 h) ?st ?en
 case st=>
  refine Steps.cons (fun a w1 fr hb hd K hK=>?_) ?_
  . exact af (aC rfl ((fr 3 (by kernel_rfl)).trans rfl)) (hK _ _ zc rfl)
  refine Steps.cons (fun a w1 fr hb hd K hK=>?_) ?_
  . exact af (aC rfl ((fr 0 (by kernel_rfl)).trans rfl)) (hK _ _ zc rfl)
  refine Steps.cons (fun a w1 fr hb hd K hK=>?_) ?_
  . exact af (bZ rfl (hd 1 12 (by kernel_rfl))) (hK _ _ zc rfl)
  refine Steps.cons (fun a w1 fr hb hd K hK=>?_) ?_
  . exact af (iZ 2 9 (by decide) rfl (hd 2 13 (by kernel_rfl))) (hK _ _ zc rfl)
  refine Steps.cons (fun a w1 fr hb hd K hK=>?_) ?_
  . exact af (aC rfl ((fr 0 (by kernel_rfl)).trans rfl)) (hK _ _ zc rfl)
  refine Steps.cons (fun a w1 fr hb hd K hK=>?_) ?_
  . exact af (bZ rfl (hd 4 15 (by kernel_rfl))) (hK _ _ zc rfl)
  refine Steps.cons (fun a w1 fr hb hd K hK=>?_) ?_
  . exact af (iZ 3 25 (by decide) rfl (hd 5 16 (by kernel_rfl))) (hK _ _ zc rfl)
  refine Steps.cons (fun a w1 fr hb hd K hK=>?_) ?_
  . exact af (dx rfl (hd 6 17 (by kernel_rfl)) (((HH.out.below hb).cell 25).trans HT.out.deep)) (hK _ _ zc rfl)
  refine Steps.cons (fun a w1 fr hb hd K hK=>?_) ?_
  . exact af (qh H16.out rfl (hd 3 14 (by kernel_rfl)) (hd 7 18 (by kernel_rfl))) (hK _ _ zc rfl)
  exact Steps.nil
 case en=>
  intro vs w6 hb hv;have e0:vs 0=.slice (some ⟨ob,0,none⟩) t.2.length t.2.length:=hv 0 11 (by decide) (by kernel_rfl)
  have e8:vs 8=.slice (some ⟨b,9,none⟩) t.2.length 16:=hv 8 19 (by decide) (by kernel_rfl)
  simp only[List.take_succ_cons,List.take_zero,List.drop_succ_cons,List.drop_zero,bA,Act.put,zj,zr,ya,e0,e8];have HB6:=Y hb;have HR6:=Y (Kd.aX HR.out hb);have HC6:=Y (Kd.aU (Kd.aU HC.out (by rw[HOB.out];have:=HB.out;rw[HOB.out]at this;exact this)) hb)
  clear hv hb e0 e8;refine Kd.CP (enc:=Value.int .i64) (h1:=fun _=>rfl) 0 (w0:=w6) ob rfl (.tmp 11) (.tmp 19) 38 38 3 rfl Tryz.underlying38 yE (.slice (some ⟨ob,0,none⟩) t.2.length t.2.length) (List.replicate t.2.length 0) t.2 (some ⟨b,9,none⟩) t.2.length 16 (fun _=>True) rfl rfl HR6.out HC6.out zc (by have:=HB.out.size;have:=HB6.out.size;have:=HOB.out;omega) ?_
  intro w7 hr7 hb7 hg7;have HR7:=Y hr7;have HB7:=Y hb7;clear hr7 hb7 hg7;go_wp2_with fail
  go_ret
  have hr:=HR7.out;rw[List.length_replicate,Nat.min_self,List.take_of_length_le (Nat.le_refl _),List.drop_of_length_le (by rw[List.length_replicate];exact Nat.le_refl _),List.append_nil]at hr
  refine⟨_,rfl,by rw[HOB.out];exact hr,?_⟩
  have hB1:=HB.out;rw[HOB.out]at hB1 ⊢;have k1:=ag hB1 (by have:=HB.out.size;have:=HOB.out;omega) HB6.out
  exact⟨HB7.out.os.trans k1.os,HB7.out.tape.trans k1.tape,HB7.out.output.trans k1.output,Nat.le_trans k1.size HB7.out.size,fun q hq=>(HB7.out.block q hq).trans (k1.block q hq)⟩
end
theorem iv_C {w:World}{b:Nat}{l:List Int}(h:Holds w b 3 (Iv l))(hl:l.length<=1000):Kd.C (Kd.int .i64) w (some ⟨b,0,none⟩) l.length l:=by
 refine⟨rfl,by omega,fun _=>⟨_,rfl,fun j p hj=>⟨[.int .i64 p],rfl,rfl,fun i u hi=>?_⟩⟩⟩
 cases i with
 |succ i=>simp at hi
 |zero=>
  obtain rfl:Value.int .i64 p=u:=by simpa using hi
  rw[show(⟨b,0,none⟩:Addr).add (j*(Kd.int .i64).sz+0)=⟨b,j,none⟩ by simp[Addr.add,show(Kd.int .i64).sz=1 from rfl];omega]
  exact(h.cell j).trans (by rw[List.getElem?_map,hj];rfl)
theorem uv_C {w:World}{b:Nat}{l:List Int}(h:Holds w b 31 (Uv l))(hl:l.length<=1000):Kd.C (Kd.int .u64) w (some ⟨b,0,none⟩) l.length l:=by
 refine⟨rfl,by omega,fun _=>⟨_,rfl,fun j p hj=>⟨[.int .u64 p],rfl,rfl,fun i u hi=>?_⟩⟩⟩
 cases i with
 |succ i=>simp at hi
 |zero=>
  obtain rfl:Value.int .u64 p=u:=by simpa using hi
  rw[show(⟨b,0,none⟩:Addr).add (j*(Kd.int .u64).sz+0)=⟨b,j,none⟩ by simp[Addr.add,show(Kd.int .u64).sz=1 from rfl];omega]
  exact(h.cell j).trans (by rw[List.getElem?_map,hj];rfl)
section
variable {F:Nat→Prop} {w:World} {g:Nat} {x:Gw} {M:Gm}
theorem wH (h:GL F w g x M):
 Calls Tryz.prog 44 #[.pointer (some ⟨g,0,none⟩)] w fun e w'=>∃ v,e=.returned v/\Kd.R (Kd.int .i64) 3 w' w.heap.size (fun _=>True) v M.G/\Below w.heap.size w w':=by
 have x1:=h.x1;have HC:=Y (c98 (.slice (some ⟨x.bG,0,none⟩) M.G.length M.G.length) M.G w ⟨_,_,rfl,Nat.le_refl _,iv_C h.hG (by have:=h.wf.g8;omega)⟩ (by have:=h.wf.g8;omega))
 clear h;go_enter Tryz.func44,Tryz.ntmps44;go_wp2_with (go_at_call 76;refine HC.out.mono ?_;rintro e w2 ⟨v,rfl,hr,hb⟩;have HR:=Y hr;have HB:=Y hb;clear hr hb)
 go_ret
 exact⟨_,rfl,HR.out,HB.out⟩
theorem ma {fn:Func}{t1 t2 u ge:Nat}{tmps:Array Value}{e:Int}{v1 v2:Value}(hr:fn.results=#[.tmp t1,.tmp t2,.cell u 26])(hu:tmps.getD u undef=.pointer (some ⟨ge,0,none⟩))(hv1:tmps.getD t1 undef=v1)(hv2:tmps.getD t2 undef=v2)(W':World)(h:Holds W' ge 26 [.int .i64 e]):(results fn tmps).run Tryz.prog W'=.ok (.tuple #[v1,v2,.int .i64 e]) W':=by
 have hu':tmps[u]?.getD undef=.pointer (some ⟨ge,0,none⟩):=by simpa using hu
 have hv1':tmps[t1]?.getD undef=v1:=by simpa using hv1
 have hv2':tmps[t2]?.getD undef=v2:=by simpa using hv2
 have x3:W'.cell? ⟨ge,0,none⟩=some (.int .i64 e):=(h.cell 0).trans rfl
 have e3:(loadVar 26 ⟨ge,0,none⟩).run Tryz.prog W'=.ok (.int .i64 e) W':=by
  simp [loadVar,isAgg,Sem.run_bind,run_underlying Tryz.underlying26,go_sem,x3]
 simp [results,hr,hu',hv1',hv2',asAddr,e3]
theorem own_no (h:GL F w g x M)(t:Int)(ht:atI M.T t=none):
 Calls Tryz.prog 43 #[.pointer (some ⟨g,0,none⟩),.int .i64 t] w fun e w'=>(∃ v1 v2,e=.returned (.tuple #[v1,v2,.int .i64 2]))/\Below w.heap.size w w':=by
 obtain⟨ge,W1,hge,hW,h3,hgl,hb,hF,hle⟩:=eY F w g x M h;have H3:=Y h3;have HB:=Y hb;have HL:=Y hle;have HA:=Y (uP hgl t ht);clear h3 hgl hb hF hle h ht
 go_enter_defers Tryz.func43,Tryz.ntmps43
 go_upto_region 2 with(fail)
 rw[<-hW,<-hge];clear hW hge;go_wp2_with (go_at_call 66;refine HA.out.mono ?_;rintro e w2 ⟨rfl,hw2⟩;subst w2);exact jD rfl H3.out (fun W'=>ma (t1:=4) (t2:=5) (u:=6) rfl rfl rfl rfl W') (fun W' hs=>⟨⟨_,_,rfl⟩,hs.below HB.out HL.out⟩)
theorem Cv (h:GL F w g x M)(k:Nat)(th:LL)(hk:M.T[k]? =some th):
 Calls Tryz.prog 43 #[.pointer (some ⟨g,0,none⟩),.int .i64 (k:Int)] w fun e w'=>∃ v1 v2,e=.returned (.tuple #[v1,v2,.int .i64 0])/\Kd.R (Kd.int .i64) 3 w' w.heap.size (fun _=>True) v1 th.1/\Kd.R (Kd.int .i64) 3 w' w.heap.size (fun _=>True) v2 th.2/\Below w.heap.size w w':=by
 obtain⟨ge,W1,hge,hW,h3,hgl,hb,hF,hle⟩:=eY F w g x M h;have hlt:k<M.T.length:=(List.getElem?_eq_some_iff.1 hk).1;obtain⟨b,cs,hb2,xT,hc,htc,hok⟩:=hgl.thr hk;have H3:=Y h3;have HG:=Y hgl;have HB:=Y hb;have HL:=Y hle;have HA:=Y (qF hgl k b hlt xT);have HC:=Y (t74 hc htc);have HK:=Y (And.intro hk (And.intro hc (And.intro htc hok)));have HGE:=Y h3.lt;clear h3 hgl hb hF hle h hk hlt hb2 xT hc htc hok
 go_enter_defers Tryz.func43,Tryz.ntmps43
 go_upto_region 2 with(fail)
 rw[<-hW,<-hge];clear hW hge;go_wp2_with (first|(go_at_call 66;refine HA.out.mono ?_;rintro e w2 ⟨rfl,hw2⟩;subst w2)|(go_at_call 74;refine HC.out.mono ?_;rintro e w2 ⟨rfl,hw2⟩;subst w2))
 go_loopg [4,14] th.1.length (fun kq v4 v14 w'=>∃(i:Nat) (u4:Value),v4=u4/\v14=.int .i64 (i:Int)/\i+kq=th.1.length/\aa (Kd.R (Kd.int .i64) 3 w' W1.heap.size (fun _=>True) u4 (th.1.take i))/\aa (Below W1.heap.size W1 w'))
 case atStart=>exact⟨0,_,rfl,rfl,by omega,⟨Kd.fo _ _ _ _ _⟩,⟨zc⟩⟩
 case round=>
  obtain⟨i,u4,rfl,rfl,hi,HR,HBW⟩:=hrel;obtain⟨W0,rfl⟩:∃ W0,W0=wr:=⟨wr,rfl⟩;cases gk with
  |zero=>
   have r1:decide ((i:Int)<(th.1.length:Int))=false:=yd (by omega)
   have r2:decide (i<th.1.length)=false:=yd (by omega)
   have HCC:=Y (t75 (HK.out.2.1.below HBW.out) HK.out.2.2.1 HK.out.2.2.2.k);have H30:=Y (H3.out.below HBW.out);have HRI:=Y (show Kd.R (Kd.int .i64) 3 W0 W1.heap.size (fun _=>True) u4 th.1 by have:=HR.out;rw[List.take_of_length_le (by omega)]at this;exact this)
   obtain⟨A4,c4,e4⟩:=Kd.aD HRI.out;subst e4;clear HR hi;go_wp2_with (go_at_call 75;refine HCC.out.mono ?_;rintro e w3 ⟨v5,rfl,hi5,hb5⟩;have HI5:=Y hi5;have HB5:=Y hb5;have H33:=Y (H30.out.below hb5);have y3:=(H33.out.cell 0).trans rfl;have y4:=ak H33.out 0;clear hi5 hb5);refine mq rfl (bB H33.out (k:=0) (by show 0<1;decide) _) (fun W'=>ma (t1:=4) (t2:=5) (u:=6) rfl rfl rfl rfl W') (fun W' hb=>?_)
   have hs:=bu w3 ge 0 (.int .i64 0);have hro:∀{u:Value} {l:List Int} {B:Nat},Kd.R (Kd.int .i64) 3 w3 B (fun _=>True) u l->Kd.R (Kd.int .i64) 3 W' B (fun _=>True) u l:=fun hr=>Kd.aX (dW hr H33.out (fun q hq=>by rcases List.mem_cons.1 hq with rfl|hq;decide;cases hq) hs) hb
   refine⟨_,_,rfl,Kd.cB (hro (Kd.aX HRI.out HB5.out)) HB.out.size,Kd.cB (hro HI5.out) (Nat.le_trans HB.out.size HBW.out.size),?_⟩;have b1:=ag HB.out HB.out.size HBW.out;have b2:=ag b1 b1.size HB5.out;exact ag (hs.below b2 HL.out) (hs.below b2 HL.out).size hb
  |succ k1=>
   have hil:i<th.1.length:=by omega
   have r1:decide ((i:Int)<(th.1.length:Int))=true:=yb (by omega)
   have r2:decide (i<th.1.length)=true:=yb (by omega)
   have hw1:IntKind.i64.wrap ((i:Int)+1)=(i:Int)+1:=i64_in (by have:=HK.out.2.2.2.s8;omega)
   obtain⟨y,hy⟩:∃ y,th.1[i]? =some y:=⟨_,List.getElem?_eq_getElem hil⟩;have HCC:=Y (jF (HG.out.below HBW.out) (k:Int) (i:Int) y (by unfold bV;rw[lc,HK.out.1];show atI th.1 i=_;rw[lc];exact hy))
   have HTK:=Y (show th.1.take i++[y]=th.1.take (i+1) by rw[List.take_add_one,hy];rfl)
   have HI:=Y (And.intro hi hil);have HLN:=Y (show(th.1.take i).length=i by rw[List.length_take];omega)
   obtain⟨A4,c4,e4⟩:=Kd.aD HR.out;rw[HLN.out]at e4;subst e4;clear hi hil hy;go_wp2_with (first|(go_at_call 60;refine HCC.out.mono ?_;rintro e w2 ⟨rfl,hw2⟩;subst w2)|(at_builtin;refine Kd.fD (Kd.int .i64) (w0:=W1) W1.heap.size rfl (.tmp 17) (.tmp 22) 38 3 (.int .i64 0) 8 rfl Tryz.underlying38 kI rfl (by decide) (by omega) _ (th.1.take i) y [.int .i64 y] (fun _=>True) (fun _=>False) rfl rfl rfl (fun _ hk=>hk.elim) (fun _ _=>trivial) HR.out HBW.out HBW.out.size (by rw[HLN.out];have:=HI.out.2;have:=HK.out.2.2.2.s8;omega) ?_;intro v2 w2 ho2 hb2 hg2 hat2;have HO2:=Y ho2;have HB2:=Y hb2;clear ho2 hb2 hg2 hat2))
   go_roundg k1
   case measure=>have:=HI.out;omega
   case rel=>exact⟨i+1,_,rfl,rfl,by have:=HI.out;omega,⟨by rw[<-HTK.out];exact HO2.out⟩,⟨HB2.out⟩⟩
end
end
section
section
variable {o:Oper} {a:Act} {W:World}
theorem yM {x:Operand}{g:Nat}(ho:o.op=.fieldAddr 119 x 0)(hx:a.eval x=.pointer (some ⟨g,0,none⟩)):(execOp a.eval o).run Tryz.prog W=.ok (.value (.pointer (some ⟨g,0,none⟩))) W:=by
 have hu:=Tryz.underlying119;unfold execOp;simp only[ho,hx]
 go_simp
theorem wK {x y:Operand}{b d:Nat}(hd:d<=8)(ho:o.op=.slice 116 x none (some y) none)(hx:a.eval x=.pointer (some ⟨b,0,none⟩))(hy:a.eval y=.int .i64 (d:Int)):(execOp a.eval o).run Tryz.prog W=.ok (.value (.slice (some ⟨b,0,none⟩) d 8)) W:=by
 have hu:=Tryz.underlying116;have h1:(0:Int)<=(d:Int):=by omega
 have h2:(d:Int)<=8:=by omega
 generalize a.eval=E at hx hy ⊢;unfold execOp;simp only[ho,hx,hy,Option.map]
 go_simp
theorem Dq {x y:Operand}{p q:Int}(ho:o.op=.binOp .add 3 x y 3)(hx:a.eval x=.int .i64 p)(hy:a.eval y=.int .i64 q):(execOp a.eval o).run Tryz.prog W=.ok (.value (.int .i64 (IntKind.i64.wrap (p+q)))) W:=by
 generalize a.eval=E at hx hy ⊢;unfold execOp;simp only[ho,hx,hy]
 go_simp
theorem xW {x y:Operand}{b:Nat}(ho:o.op=.slice 38 x (some y) none none)(hx:a.eval x=.slice (some ⟨b,0,none⟩) 2 2)(hy:a.eval y=.int .i64 2):(execOp a.eval o).run Tryz.prog W=.ok (.value (.slice (some ⟨b,0,none⟩) 0 0)) W:=by
 have hu:=Tryz.underlying38;generalize a.eval=E at hx hy ⊢;unfold execOp;simp only[ho,hx,hy,Option.map]
 go_simp
end
theorem copy0 {P:Program}{W:World}{ops:Array Oper}{rest:List Oper}{o:Oper}{a:Act}{Q:Exit->Act->World->Prop}(hgd:o.guard=none)(s x:Operand)(t t' e:TypeId)(ho:o.op=.call { callee:=.builtin .copy,args:=#[s,x],argTypes:=#[t,t'] })(ht:P.underlying t=some (.slice e))(hinfo:(P.info? e).map (·.size)=some 1)
 (A' A:Option Addr) (n c' m c:Nat) (hs:a.eval s=.slice A' n c') (hx:a.eval x=.slice A m c) (h0:min m n=0) (h:wpList P ops Q rest (a.put o.dst (.int .i64 0)) W):wpList P ops Q (o :: rest) a W:=by
 refine wpList_plain hgd fun K hK=>?_
 unfold Oper.wp execOp;simp only[ho,resolve,invoke,builtin,Sem.run_bind,Sem.run_pure,Result.andThen_ok,List.map_toArray,List.map_cons,List.map_nil,hs,hx,run_copy_none W t t' o.type e A' A n c' m c ht hinfo h0];exact hK _ _ h
def wZ (b:Nat):Nat->Value->World->Prop
 |0,v,_=>v=.pointer (some ⟨b,0,none⟩)
 |1,v,_=>v=.pointer (some ⟨b,0,none⟩)
 |2,v,_=>v=.pointer (some ⟨b,8,none⟩)
 |3,v,_=>v=.int .i64 2
 |4,v,_=>v=.pointer (some ⟨b,0,none⟩)
 |5,v,_=>v=.pointer (some ⟨b,0,none⟩)
 |6,v,_=>v=.pointer (some ⟨b,25,none⟩)
 |7,v,_=>v=.int .i64 0
 |8,v,_=>v=.int .i64 2
 |_,_,_=>True
theorem yQ (b:Nat)(j:Nat)(v:Value)(w w':World)(h:wZ b j v w):wZ b j v w':=by
 unfold wZ at h ⊢
 split at h<;>first|exact h|trivial
def wR (b o:Nat):Nat->Value->World->Prop
 |0,v,_=>v=.slice (some ⟨o,0,none⟩) 2 2
 |1,v,_=>v=.pointer (some ⟨b,0,none⟩)
 |2,v,_=>v=.pointer (some ⟨b,0,none⟩)
 |3,v,_=>v=.pointer (some ⟨b,0,none⟩)
 |4,v,_=>v=.pointer (some ⟨b,0,none⟩)
 |5,v,_=>v=.pointer (some ⟨b,0,none⟩)
 |6,v,_=>v=.pointer (some ⟨b,8,none⟩)
 |7,v,_=>v=.int .i64 2
 |8,v,_=>v=.slice (some ⟨b,0,none⟩) 2 8
 |_,_,_=>True
theorem zm (b o:Nat)(j:Nat)(v:Value)(w w':World)(h:wR b o j v w):wR b o j v w':=by
 unfold wR at h ⊢
 split at h<;>first|exact h|trivial
def wO (b o:Nat):Nat->Value->World->Prop
 |0,v,_=>v=.slice (some ⟨o,0,none⟩) 2 2
 |1,v,_=>v=.pointer (some ⟨b,0,none⟩)
 |2,v,_=>v=.pointer (some ⟨b,0,none⟩)
 |3,v,_=>v=.pointer (some ⟨b,8,none⟩)
 |4,v,_=>v=.int .i64 2
 |5,v,_=>v=.slice (some ⟨o,0,none⟩) 0 0
 |6,v,_=>v=.pointer (some ⟨b,0,none⟩)
 |7,v,_=>v=.pointer (some ⟨b,0,none⟩)
 |8,v,_=>v=.pointer (some ⟨b,9,none⟩)
 |9,v,_=>v=.pointer (some ⟨b,0,none⟩)
 |10,v,_=>v=.pointer (some ⟨b,0,none⟩)
 |11,v,_=>v=.pointer (some ⟨b,25,none⟩)
 |12,v,_=>v=.int .i64 0
 |13,v,_=>v=.slice (some ⟨b,9,none⟩) 0 16
 |_,_,_=>True
theorem yL (b o:Nat)(j:Nat)(v:Value)(w w':World)(h:wO b o j v w):wO b o j v w':=by
 unfold wO at h ⊢
 split at h<;>first|exact h|trivial
theorem all126 {b:Nat}{cs:List Value}{w:World}(hc:Holds w b 119 cs)(ht:fq cs ([0,0],[])):
 Calls Tryz.prog 126 #[.pointer (some ⟨b,0,none⟩)] w fun e w'=>e=.returned (.slice none 0 0)/\Below w.heap.size w w':=by
 have HH:=Y hc;have HT:=Y ht
 have HCs:aa (Kd.C (Kd.int .i64) w (some ⟨b,0,none⟩) 2 [0,0]):=⟨by
  refine⟨rfl,by decide,fun _=>⟨_,rfl,fun j p hj=>?_⟩⟩
  match j,hj with
  |j+2,hj=>simp at hj
  |0,hj=>
   obtain rfl:(0:Int)=p:=by simpa using hj
   refine⟨[.int .i64 0],rfl,rfl,fun i u hi=>?_⟩
   cases i with
   |succ i=>simp at hi
   |zero=>
    obtain rfl:Value.int .i64 0=u:=by simpa using hi
    exact(hc.cell 0).trans (ht.sl 0 0 rfl)
  |1,hj=>
   obtain rfl:(0:Int)=p:=by simpa using hj
   refine⟨[.int .i64 0],rfl,rfl,fun i u hi=>?_⟩
   cases i with
   |succ i=>simp at hi
   |zero=>
    obtain rfl:Value.int .i64 0=u:=by simpa using hi
    exact(hc.cell 1).trans (ht.sl 1 0 rfl)⟩
 clear hc ht;go_enter Tryz.func126,Tryz.ntmps126;go_upto_region 3 with fail
 refine jZ 9 58 (wZ b) (by kernel_rfl) (by rfl) (by kernel_rfl) (fun j v w1 w2 h hb=>yQ _ j v w1 w2 h) ?st ?en
 case st=>
  refine Steps.cons (fun a w1 fr hb hd K hK=>?_) ?_
  . exact af (aC rfl ((fr 0 (by kernel_rfl)).trans rfl)) (hK _ _ zc rfl)
  refine Steps.cons (fun a w1 fr hb hd K hK=>?_) ?_
  . exact af (bZ rfl (hd 0 9 (by kernel_rfl))) (hK _ _ zc rfl)
  refine Steps.cons (fun a w1 fr hb hd K hK=>?_) ?_
  . exact af (iZ 1 8 (by decide) rfl (hd 1 10 (by kernel_rfl))) (hK _ _ zc rfl)
  refine Steps.cons (fun a w1 fr hb hd K hK=>?_) ?_
  . exact af (dx rfl (hd 2 11 (by kernel_rfl)) (((HH.out.below hb).cell 8).trans HT.out.n)) (hK _ _ zc rfl)
  refine Steps.cons (fun a w1 fr hb hd K hK=>?_) ?_
  . exact af (aC rfl ((fr 0 (by kernel_rfl)).trans rfl)) (hK _ _ zc rfl)
  refine Steps.cons (fun a w1 fr hb hd K hK=>?_) ?_
  . exact af (bZ rfl (hd 4 13 (by kernel_rfl))) (hK _ _ zc rfl)
  refine Steps.cons (fun a w1 fr hb hd K hK=>?_) ?_
  . exact af (iZ 3 25 (by decide) rfl (hd 5 14 (by kernel_rfl))) (hK _ _ zc rfl)
  refine Steps.cons (fun a w1 fr hb hd K hK=>?_) ?_
  . exact af (dx rfl (hd 6 15 (by kernel_rfl)) (((HH.out.below hb).cell 25).trans HT.out.deep)) (hK _ _ zc rfl)
  refine Steps.cons (fun a w1 fr hb hd K hK=>?_) ?_
  . exact af (Dq rfl (hd 3 12 (by kernel_rfl)) (hd 7 16 (by kernel_rfl))) (hK _ _ zc rfl)
  exact Steps.nil
 case en=>
  intro vs w6 hb hv;have e8:vs 8=.int .i64 2:=hv 8 17 (by decide) (by kernel_rfl)
  simp only[List.take_succ_cons,List.take_zero,List.drop_succ_cons,List.drop_zero,bA,Act.put,zj,zr,ya,e8];have HB6:=Y hb;have HH6:=Y (HH.out.below hb);have HC6:=Y (Kd.aU HCs.out hb);clear hv hb e8 HH HCs;go_wp2_with ((with_reducible refine aW (N:=18) rfl ?_);refine Kd.fA rfl (jf (n:=2) (by decide) rfl rfl rfl) ?_)
  have hb7:=ae (Below.refl w6.heap.size w6) (.cells (Array.replicate 2 (.int .i64 0)) 3);have HR:=Y (show Kd.R (Kd.int .i64) 3 (w6.alloc (.cells (Array.replicate 2 (.int .i64 0)) 3)) w6.heap.size (fun _=>True) (.slice (some ⟨w6.heap.size,0,none⟩) 2 2) [0,0]from Cf w6 2 (by decide))
  have HH:=Y (HH6.out.below hb7);have HCs:=Y (Kd.aU HC6.out hb7);have HB7:=Y hb7;clear HH6 HC6 hb7;obtain⟨W1,hW1⟩:∃ W1,W1=w6.alloc (.cells (Array.replicate 2 (.int .i64 0)) 3):=⟨_,rfl⟩;obtain⟨ob,hob⟩:∃ ob,ob=w6.heap.size:=⟨_,rfl⟩;rw[<-hW1]at HH HR HCs HB7 ⊢;rw[<-hob]at HR HB7 ⊢;have HOB:=Y hob;clear hW1 hob;refine jZ 9 58 (wR b ob) (by kernel_rfl) (by rfl) (by kernel_rfl) (fun j v w1 w2 h hb=>zm _ _ j v w1 w2 h) ?st2 ?en2
  case st2=>
   refine Steps.cons (fun a w1 fr hb hd K hK=>?_) ?_
   . exact af (aC rfl ((fr 3 (by kernel_rfl)).trans rfl)) (hK _ _ zc rfl)
   refine Steps.cons (fun a w1 fr hb hd K hK=>?_) ?_
   . exact af (aC rfl ((fr 0 (by kernel_rfl)).trans rfl)) (hK _ _ zc rfl)
   refine Steps.cons (fun a w1 fr hb hd K hK=>?_) ?_
   . exact af (bZ rfl (hd 1 20 (by kernel_rfl))) (hK _ _ zc rfl)
   refine Steps.cons (fun a w1 fr hb hd K hK=>?_) ?_
   . exact af (yM rfl (hd 2 21 (by kernel_rfl))) (hK _ _ zc rfl)
   refine Steps.cons (fun a w1 fr hb hd K hK=>?_) ?_
   . exact af (aC rfl ((fr 0 (by kernel_rfl)).trans rfl)) (hK _ _ zc rfl)
   refine Steps.cons (fun a w1 fr hb hd K hK=>?_) ?_
   . exact af (bZ rfl (hd 4 23 (by kernel_rfl))) (hK _ _ zc rfl)
   refine Steps.cons (fun a w1 fr hb hd K hK=>?_) ?_
   . exact af (iZ 1 8 (by decide) rfl (hd 5 24 (by kernel_rfl))) (hK _ _ zc rfl)
   refine Steps.cons (fun a w1 fr hb hd K hK=>?_) ?_
   . exact af (dx rfl (hd 6 25 (by kernel_rfl)) (((HH.out.below hb).cell 8).trans HT.out.n)) (hK _ _ zc rfl)
   refine Steps.cons (fun a w1 fr hb hd K hK=>?_) ?_
   . exact af (wK (d:=2) (by decide) rfl (hd 3 22 (by kernel_rfl)) (hd 7 26 (by kernel_rfl))) (hK _ _ zc rfl)
   exact Steps.nil
  case en2=>
   intro vs w8 hb hv;have e0:vs 0=.slice (some ⟨ob,0,none⟩) 2 2:=hv 0 19 (by decide) (by kernel_rfl)
   have e8:vs 8=.slice (some ⟨b,0,none⟩) 2 8:=hv 8 27 (by decide) (by kernel_rfl)
   simp only[List.take_succ_cons,List.take_zero,List.drop_succ_cons,List.drop_zero,bA,Act.put,zj,zr,ya,e0,e8];have HB8:=Y hb;have HR8:=Y (Kd.aX HR.out hb);have HC8:=Y (Kd.aU HCs.out hb);have HH8:=Y (HH.out.below hb);clear hv hb e0 e8 HR HH HCs;refine Kd.CP (enc:=Value.int .i64) (h1:=fun _=>rfl) 0 (w0:=w8) ob rfl (.tmp 19) (.tmp 27) 38 38 3 rfl Tryz.underlying38 yE (.slice (some ⟨ob,0,none⟩) 2 2) [0,0] [0,0] (some ⟨b,0,none⟩) 2 8 (fun _=>True) rfl rfl HR8.out HC8.out zc (by have:=HB8.out.size;have:=HB7.out.size;have:=HOB.out;omega) ?_
   intro w9 hr9 hb9 hg9;have HR9:=Y hr9;have HB9:=Y hb9;have HH:=Y (aY HH8.out hg9 (Kd.dL HR8.out HH8.out (by decide)))
   clear hr9 hb9 hg9 HR8 HC8 HH8;go_upto_region 5 with fail
   refine jZ 14 58 (wO b ob) (by kernel_rfl) (by rfl) (by kernel_rfl) (fun j v w1 w2 h hb=>yL _ _ j v w1 w2 h) ?st3 ?en3
   case st3=>
    refine Steps.cons (fun a w1 fr hb hd K hK=>?_) ?_
    . exact af (aC rfl ((fr 3 (by kernel_rfl)).trans rfl)) (hK _ _ zc rfl)
    refine Steps.cons (fun a w1 fr hb hd K hK=>?_) ?_
    . exact af (aC rfl ((fr 0 (by kernel_rfl)).trans rfl)) (hK _ _ zc rfl)
    refine Steps.cons (fun a w1 fr hb hd K hK=>?_) ?_
    . exact af (bZ rfl (hd 1 30 (by kernel_rfl))) (hK _ _ zc rfl)
    refine Steps.cons (fun a w1 fr hb hd K hK=>?_) ?_
    . exact af (iZ 1 8 (by decide) rfl (hd 2 31 (by kernel_rfl))) (hK _ _ zc rfl)
    refine Steps.cons (fun a w1 fr hb hd K hK=>?_) ?_
    . exact af (dx rfl (hd 3 32 (by kernel_rfl)) (((HH.out.below hb).cell 8).trans HT.out.n)) (hK _ _ zc rfl)
    refine Steps.cons (fun a w1 fr hb hd K hK=>?_) ?_
    . exact af (xW rfl (hd 0 29 (by kernel_rfl)) (hd 4 33 (by kernel_rfl))) (hK _ _ zc rfl)
    refine Steps.cons (fun a w1 fr hb hd K hK=>?_) ?_
    . exact af (aC rfl ((fr 0 (by kernel_rfl)).trans rfl)) (hK _ _ zc rfl)
    refine Steps.cons (fun a w1 fr hb hd K hK=>?_) ?_
    . exact af (bZ rfl (hd 6 35 (by kernel_rfl))) (hK _ _ zc rfl)
    refine Steps.cons (fun a w1 fr hb hd K hK=>?_) ?_
    . exact af (iZ 2 9 (by decide) rfl (hd 7 36 (by kernel_rfl))) (hK _ _ zc rfl)
    refine Steps.cons (fun a w1 fr hb hd K hK=>?_) ?_
    . exact af (aC rfl ((fr 0 (by kernel_rfl)).trans rfl)) (hK _ _ zc rfl)
    refine Steps.cons (fun a w1 fr hb hd K hK=>?_) ?_
    . exact af (bZ rfl (hd 9 38 (by kernel_rfl))) (hK _ _ zc rfl)
    refine Steps.cons (fun a w1 fr hb hd K hK=>?_) ?_
    . exact af (iZ 3 25 (by decide) rfl (hd 10 39 (by kernel_rfl))) (hK _ _ zc rfl)
    refine Steps.cons (fun a w1 fr hb hd K hK=>?_) ?_
    . exact af (dx rfl (hd 11 40 (by kernel_rfl)) (((HH.out.below hb).cell 25).trans HT.out.deep)) (hK _ _ zc rfl)
    refine Steps.cons (fun a w1 fr hb hd K hK=>?_) ?_
    . exact af (qh (d:=0) (by decide) rfl (hd 8 37 (by kernel_rfl)) (hd 12 41 (by kernel_rfl))) (hK _ _ zc rfl)
    exact Steps.nil
   case en3=>
    intro vs w10 hb hv;have e5:vs 5=.slice (some ⟨ob,0,none⟩) 0 0:=hv 5 34 (by decide) (by kernel_rfl)
    have e13:vs 13=.slice (some ⟨b,9,none⟩) 0 16:=hv 13 42 (by decide) (by kernel_rfl)
    simp only[List.take_succ_cons,List.take_zero,List.drop_succ_cons,List.drop_zero,bA,Act.put,zj,zr,ya,e5,e13];have HB10:=Y hb;have HR10:=Y (Kd.aX HR9.out hb);clear hv hb e5 e13;refine copy0 rfl (.tmp 34) (.tmp 42) 38 38 3 rfl Tryz.underlying38 yE (some ⟨ob,0,none⟩) (some ⟨b,9,none⟩) 0 0 0 16 rfl rfl rfl ?_
    have HBB:aa (Below w.heap.size w w10):=⟨by
     have hle:w.heap.size<=ob:=by rw[HOB.out];exact HB6.out.size
     have k1:=ag HB6.out HB6.out.size (HOB.out▸HB7.out);have k2:=ag k1 (Nat.le_trans hle (by have:=HB7.out.size;have:=HOB.out;omega)) HB8.out
     have k3:Below w.heap.size w w9:=k2.trans (HB9.out.mono hle)
     exact k3.trans (HB10.out.mono k3.size)⟩
    have hx0:w10.cell? ⟨ob,0,none⟩=some (.int .i64 0):=by
     have h:=(Kd.lG (0:Int) HR10.out 0 (by decide) (by decide)).1
     exact h
    have hx1:w10.cell? ⟨ob,1,none⟩=some (.int .i64 0):=by
     have h:=(Kd.lG (0:Int) HR10.out 1 (by decide) (by decide)).1
     exact h
    clear HB6 HB7 HB8 HB9 HB10 HH;go_wp2_with fail
    go_loopg [4,46] 2 (fun kq v4 v46 w'=>∃ i:Nat,v4=.slice none 0 0/\v46=.int .i64 (i:Int)/\i+kq=2/\w'=w10)
    case atStart=>exact⟨0,rfl,rfl,rfl,rfl⟩
    case round=>
     obtain⟨i,rfl,rfl,hi,e0⟩:=hrel;subst e0
     rcases(show i=0\/i=1\/i=2 by omega)with rfl|rfl|rfl
     . obtain rfl:gk=2:=by omega
       clear hi;go_wp2_with fail;go_roundg 1
       case measure=>omega
       case rel=>exact⟨1,rfl,rfl,rfl,rfl⟩
     . obtain rfl:gk=1:=by omega
       clear hi;go_wp2_with fail;go_roundg 0
       case measure=>omega
       case rel=>exact⟨2,rfl,rfl,rfl,rfl⟩
     . obtain rfl:gk=0:=by omega
       clear hi;go_wp2_with fail
       go_ret
       exact⟨rfl,HBB.out⟩
section
variable {F:Nat→Prop} {w:World} {g:Nat} {x:Gw}
theorem Ep (h:GL F w g x (kQ 1 2 1)):
 Calls Tryz.prog 108 #[.pointer (some ⟨g,0,none⟩)] w fun e w'=>e=.returned (.slice none 0 0)/\Below w.heap.size w w':=by
 have hmm:∀ w,(Instr.makeMap 180 none).run Tryz.prog w=.ok (.map (some w.heap.size)) (w.alloc (.map #[] 0)):=fun w=>rfl
 have z0:w.cell? ⟨g,0,none⟩=some (.slice (some ⟨x.bT,0,none⟩) 1 x.cT):=h.x0;have z1:w.cell? ⟨g,1,none⟩=some (.slice (some ⟨x.bG,0,none⟩) 1 1):=h.x1;have HC:=Y (c98 (.slice (some ⟨x.bG,0,none⟩) 1 1) [0] w ⟨_,_,rfl,Nat.le_refl _,iv_C (l:=[0]) h.hG (by decide)⟩ (by decide))
 have HG:=Y h;clear h;go_enter Tryz.func108,Tryz.ntmps108;go_upto_region 4 with(go_at_call 76;refine HC.out.mono ?_;rintro e w1 ⟨v0,rfl,hr,hb1⟩;have HR:=Y hr;have HB1:=Y hb1;clear hr hb1)
 have z2:w1.cell? ⟨g,0,none⟩=some (.slice (some ⟨x.bT,0,none⟩) 1 x.cT):=(HG.out.below HB1.out).x0;clear z0 z1;go_wp2_with fail
 go_loopg [3,20] 1 (fun kq v3 v20 w'=>∃(i:Nat) (u3:Value),v3=u3/\v20=.int .i64 (i:Int)/\i+kq=1/\aa (Kd.R (Kd.int .i64) 3 w' w.heap.size (fun _=>True) u3 [0])/\aa (Below w.heap.size w w'))
 case atStart=>exact⟨0,_,rfl,rfl,rfl,HR,HB1⟩
 case round=>
  clear HR HB1 z2;obtain⟨i,u3,rfl,rfl,hi,HR,HB1⟩:=hrel;obtain⟨W0,rfl⟩:∃ W0,W0=wr:=⟨wr,rfl⟩;cases gk with
  |zero=>
   obtain rfl:i=1:=by omega
   go_upto_block 2 with fail
   obtain⟨A,c,e3⟩:=Kd.aD HR.out
   have HCA:aa (Kd.C (Kd.int .i64) (W0.alloc (.map #[] 0)) A 1 [0]/\1<=c):=⟨by
    have hr:=Kd.bI (e3▸HR.out)
    exact⟨Kd.aU hr.2.2 (ae zc _),hr.2.1⟩⟩
   rw[e3];have HM:aa ((W0.alloc (.map #[] 0)).heap[W0.heap.size]? =some (.map #[] 0)):=⟨World.alloc_heap_new _ _⟩;have HB2:=Y (ag HB1.out HB1.out.size (ae (Below.refl W0.heap.size W0) (.map #[] 0)));obtain⟨W1,hW1⟩:∃ W1,W1=W0.alloc (.map #[] 0):=⟨_,rfl⟩;rw[<-hW1]at HCA HM HB2 ⊢;clear hW1 e3 HR HB1;go_wp2_with fail
   go_loopg [3] 1 (fun kq v3 w'=>∃ c,v3=.slice A kq c/\kq<=c/\kq<=1/\aa (Kd.C (Kd.int .i64) W1 A kq (List.replicate kq 0))/\w'=W1)
   case atStart=>exact⟨c,rfl,HCA.out.2,Nat.le_refl _,⟨HCA.out.1⟩,rfl⟩
   case round=>
    obtain⟨c,rfl,hk,hk1,HCK,e0⟩:=hrel;subst e0;cases gk with
    |zero=>
     go_wp2_with (first
      |(go_at_call 128;refine(keys128 _ _).mono ?_;rintro e w2 ⟨rfl,hw2⟩;have HB3:=Y (show Below wr.heap.size wr w2 by rw[hw2];exact ae zc _);have HK:=Y (show Holds w2 wr.heap.size 180 [.map (some W0.heap.size)] by rw[hw2];exact aK _ _);clear hw2)
      |(go_at_call 127;refine(CB _ _ _ HK.out ((HB3.out.block _ (Array.getElem?_eq_some_iff.1 HM.out).1).trans HM.out)).mono ?_;rintro e w3 ⟨rfl,hb3⟩;have HB4:=Y hb3;clear hb3))
     go_ret
     exact⟨rfl,ag (ag HB2.out HB2.out.size HB3.out) (Nat.le_trans HB2.out.size HB3.out.size) HB4.out⟩
    |succ k1=>
     obtain rfl:k1=0:=by omega
     obtain⟨ad,rfl,hx0⟩:∃ ad,A=some ad/\wr.cell? ad=some (.int .i64 0):=by
      obtain⟨ad,c',e,_,hK,hc0⟩:=Kd.j5 HCK.out (0:Int) 0 (by decide) (by decide)
      refine⟨ad,e,?_⟩;obtain rfl:c'=[.int .i64 0]:=hK;exact hc0 0 _ rfl
     have q1:(1:Int)<=(c:Int):=by omega
     have q2:(0:Int)<=(c:Int):=by omega
     go_wp2_with fail;go_roundg 0
     case measure=>omega
     case rel=>exact⟨c,rfl,Nat.zero_le _,by decide,⟨⟨rfl,by decide,fun h=>absurd h (by decide)⟩⟩,rfl⟩
  |succ k1=>
   obtain rfl:i=0:=by omega
   obtain rfl:k1=0:=by omega
   obtain⟨b,cs,_,z3,hth,htc,_⟩:=GL.thr (HG.out.below HB1.out) (k:=0) (th:=([0,0],[])) rfl;have HA:=Y (all126 hth htc);clear hth htc
   go_upto_region 8 with(first
    |(go_at_call 126;refine HA.out.mono ?_;rintro e w2 ⟨rfl,hb2⟩;have HR2:=Y (Kd.aX HR.out hb2);have HB2:=Y (ag HB1.out HB1.out.size hb2);clear hb2)
    |(at_builtin;refine jR (Kd.int .i64) (w0:=w) w.heap.size rfl (.tmp 24) (.tmp 26) 38 3 (.int .i64 0) 8 rfl Tryz.underlying38 kI rfl (by decide) (by omega) u3 [0] [] none 0 0 (fun _=>True) rfl rfl (fun _ _ _ _ h=>h) (fun _ _=>trivial) HR2.out (Kd.ol _ _) HB2.out HB2.out.size (by decide) ?_;intro v4 w4 hr4 hb4 hg4 hat4;have HR4:=Y hr4;have HB4:=Y hb4;clear hr4 hb4 hg4 hat4))
   go_wp2_with fail;go_roundg 0
   case measure=>omega
   case rel=>exact⟨1,_,rfl,rfl,rfl,HR4,HB4⟩
end
end
section
section
variable {o:Oper} {a:Act} {W:World}
theorem ky {x:Operand}{g i:Nat}(hi:i<2)(ho:o.op=.fieldAddr 126 x i)(hx:a.eval x=.pointer (some ⟨g,0,none⟩)):(execOp a.eval o).run Tryz.prog W=.ok (.value (.pointer (some ⟨g,i,none⟩))) W:=by
 have hu:=Tryz.underlying126
 match i,hi with
 |0,_|1,_=>
  unfold execOp;simp only[ho,hx]
  go_simp
theorem gJ {x:Operand}{p:Addr}{v:Value}(ho:o.op=.load 62 x)(hx:a.eval x=.pointer (some p))(hc:W.cell? p=some v):(execOp a.eval o).run Tryz.prog W=.ok (.value v) W:=by
 unfold execOp;simp only[ho,hx]
 go_simp
end
def V45 (B po r d:Nat)(lr ld:List Int):Nat->Value->World->Prop
 |0,v,_=>v=.pointer (some ⟨po,0,none⟩)
 |1,v,_=>v=.pointer (some ⟨po,0,none⟩)
 |2,v,_=>v=.pointer (some ⟨po,0,none⟩)
 |3,v,_=>v=.slice (some ⟨r,0,none⟩) lr.length lr.length
 |4,v,w=>Kd.R (Kd.int .i64) 3 w B (fun _=>True) v lr
 |5,v,_=>v=.pointer (some ⟨po,0,none⟩)
 |6,v,_=>v=.pointer (some ⟨po,0,none⟩)
 |7,v,_=>v=.pointer (some ⟨po,1,none⟩)
 |8,v,_=>v=.slice (some ⟨d,0,none⟩) ld.length ld.length
 |9,v,w=>Kd.R (Kd.int .u64) 31 w B (fun _=>True) v ld
 |_,_,_=>True
theorem DC (B po r d:Nat)(lr ld:List Int)(j:Nat)(v:Value)(w w':World)(h:V45 B po r d lr ld j v w)(hb:Below w.heap.size w w'):V45 B po r d lr ld j v w':=by
 unfold V45 at h ⊢
 split at h<;>first|exact h|exact Kd.aX h hb|trivial
section
variable {F:Nat→Prop} {w:World} {g:Nat} {x:Gw} {M:Gm}
theorem GL.look_ok (h:GL F w g x M){n:Int}(hn: -1000000<=n/\n<=1000000):∃ v,(Instr.lookup 66 (.map (some x.gm)) (.int .i64 n) true).run Tryz.prog w=.ok (.tuple #[v,.bool (decide (1<=n/\n<=(M.O.length:Int)))]) w/\∀(p:Ob),1<=n->x.obs[n.toNat - 1]? =some p->v=.pointer (some ⟨p.o,0,none⟩):=by
 obtain⟨D,hD,hO⟩:=h.hM;have hwf:(Lit.int .i64 n).wf=true:=wf_i64 (by omega)
 obtain⟨v,ps,hrun,hv⟩:=hD.look_ok (t:=66) (e:=124) (Maps.int_keyed Tryz.underlying3) Tryz.underlying66 (z:=.pointer none) (Tryz.zeroValue124 _) (zd:=.lit (.int .i64 (-1))) (zp:=[]) rfl (Maps.keyOf_int_mk Tryz.underlying3 hwf);rw[hO.2.2.1,List.length_map,h.lO]at hrun;refine⟨v,hrun,fun p h1 hp=>?_⟩
 have h4:=hO.2.2.2 (n.toNat - 1) p.o (by rw[List.getElem?_map,hp];rfl)
 rw[show((n.toNat - 1:Nat):Int)+1=n by omega]at h4
 rw[h4]at hv;exact uf hv rfl
theorem D8 (h:GL F w g x M)(n:Int)(hn: -1000000<=n/\n<=1000000)(hx:¬ (1<=n/\n<=(M.O.length:Int))):
 Calls Tryz.prog 45 #[.pointer (some ⟨g,0,none⟩),.int .i64 n] w fun e w'=>(∃ v1 v2,e=.returned (.tuple #[v1,v2,.int .i64 5]))/\Below w.heap.size w w':=by
 obtain⟨ge,W1,hge,hW,h3,hgl,hb,hF,hle⟩:=eY F w g x M h;obtain⟨v,hlk,_⟩:=hgl.look_ok hn;rw[yd hx]at hlk;have x2:=hgl.x2;have H3:=Y h3;have HB:=Y hb;have HL:=Y hle;clear h3 hgl hb hF hle h hn hx
 go_enter_defers Tryz.func45,Tryz.ntmps45
 go_upto_region 2 with(fail)
 rw[<-hW,<-hge];clear hW hge;go_upto_region 4 with(go_at_call 61;refine(gu _ _).mono ?_;rintro e w2 ⟨rfl,hw2⟩;subst w2)
 go_wp2_with (go_at_call 61;refine(jq _ _).mono ?_;rintro e w2 ⟨rfl,hw2⟩;subst w2);exact jD rfl H3.out (fun W'=>ma (t1:=4) (t2:=5) (u:=6) rfl rfl rfl rfl W') (fun W' hs=>⟨⟨_,_,rfl⟩,hs.below HB.out HL.out⟩)
theorem CJ (h:GL F w g x M)(k:Nat)(hk:k<M.O.length):
 Calls Tryz.prog 45 #[.pointer (some ⟨g,0,none⟩),.int .i64 ((k:Int)+1)] w fun e w'=>∃ v1 v2,e=.returned (.tuple #[v1,v2,.int .i64 0])/\Kd.R (Kd.int .i64) 3 w' w.heap.size (fun _=>True) v1 (refsOf M k)/\Kd.R (Kd.int .u64) 31 w' w.heap.size (fun _=>True) v2 (bf M k)/\Below w.heap.size w w':=by
 obtain⟨ge,W1,hge,hW,h3,hgl,hb,hF,hle⟩:=eY F w g x M h;have hO:=h.wf.o;obtain⟨v,hlk,hv⟩:=hgl.look_ok (n:=(k:Int)+1) (by omega)
 rw[yb (by omega)]at hlk
 obtain⟨p,hp,ho1,ho2,ho3,hok⟩:=hgl.obj hk;obtain rfl:=hv p (by omega) (by rw[show((k:Int)+1).toNat - 1=k by omega];exact hp)
 have x2:=hgl.x2;have H3:=Y h3;have HB:=Y hb;have HL:=Y hle;have HO:=Y (And.intro ho1 (And.intro ho2 ho3));have HLR:=Y (show(refsOf M k).length<=95/\(bf M k).length<=95 from⟨by have:=hok.size;simp only at this;omega,by have:=hok.size;simp only at this;omega⟩)
 have HGE:=Y h3.lt;clear h3 hgl hb hF hle h hk hO hp ho1 ho2 ho3 hok hv
 go_enter_defers Tryz.func45,Tryz.ntmps45
 go_upto_region 2 with(fail)
 rw[<-hW,<-hge];clear hW hge;go_upto_region 5 with(go_at_call 61;refine(gu _ _).mono ?_;rintro e w2 ⟨rfl,hw2⟩;subst w2)
 refine jZ 10 33 (V45 W1.heap.size p.o p.r p.d (refsOf M k) (bf M k)) (by kernel_rfl) (by rfl) (by kernel_rfl) (fun j v w1 w2 h hb=>DC _ _ _ _ _ _ j v w1 w2 h hb) ?st ?en
 case st=>
  refine Steps.cons (fun a w1 fr hb hd K hK=>?_) ?_
  . exact af (aC rfl ((fr 7 (by kernel_rfl)).trans rfl)) (hK _ _ zc rfl)
  refine Steps.cons (fun a w1 fr hb hd K hK=>?_) ?_
  . exact af (bZ rfl (hd 0 23 (by kernel_rfl))) (hK _ _ zc rfl)
  refine Steps.cons (fun a w1 fr hb hd K hK=>?_) ?_
  . exact af (ky (i:=0) (by decide) rfl (hd 1 24 (by kernel_rfl))) (hK _ _ zc rfl)
  refine Steps.cons (fun a w1 fr hb hd K hK=>?_) ?_
  . exact af (dz rfl (hd 2 25 (by kernel_rfl)) (((HO.out.1.below hb).cell 0).trans rfl)) (hK _ _ zc rfl)
  refine Steps.cons (fun a w1 fr hb hd K hK=>?_) ?_
  . have e1:a.eval (.tmp 26)=.slice (some ⟨p.r,0,none⟩) (refsOf M k).length (refsOf M k).length:=(hd 3 26 (by kernel_rfl))
    refine ek Tryz.func76 (by kernel_rfl) rfl #[.slice (some ⟨p.r,0,none⟩) (refsOf M k).length (refsOf M k).length] rfl (by simp only[List.map_toArray,List.map_cons,List.map_nil,e1]) ?_
    refine(c98 _ (refsOf M k) w1 ⟨_,_,rfl,Nat.le_refl _,iv_C (HO.out.2.1.below hb) (by have:=HLR.out;omega)⟩ (by have:=HLR.out;omega)).mono ?_
    rintro e w2 ⟨v0,rfl,hr,hb2⟩;exact⟨_,rfl,hK _ _ hb2 (show Kd.R _ _ _ _ _ _ _ from Kd.cB hr hb.size)⟩
  refine Steps.cons (fun a w1 fr hb hd K hK=>?_) ?_
  . exact af (aC rfl ((fr 7 (by kernel_rfl)).trans rfl)) (hK _ _ zc rfl)
  refine Steps.cons (fun a w1 fr hb hd K hK=>?_) ?_
  . exact af (bZ rfl (hd 5 28 (by kernel_rfl))) (hK _ _ zc rfl)
  refine Steps.cons (fun a w1 fr hb hd K hK=>?_) ?_
  . exact af (ky (i:=1) (by decide) rfl (hd 6 29 (by kernel_rfl))) (hK _ _ zc rfl)
  refine Steps.cons (fun a w1 fr hb hd K hK=>?_) ?_
  . exact af (gJ rfl (hd 7 30 (by kernel_rfl)) (((HO.out.1.below hb).cell 1).trans rfl)) (hK _ _ zc rfl)
  refine Steps.cons (fun a w1 fr hb hd K hK=>?_) ?_
  . have e1:a.eval (.tmp 31)=.slice (some ⟨p.d,0,none⟩) (bf M k).length (bf M k).length:=(hd 8 31 (by kernel_rfl))
    refine ek Tryz.func77 (by kernel_rfl) rfl #[.slice (some ⟨p.d,0,none⟩) (bf M k).length (bf M k).length] rfl (by simp only[List.map_toArray,List.map_cons,List.map_nil,e1]) ?_
    refine(c114 _ (bf M k) w1 ⟨_,_,rfl,Nat.le_refl _,uv_C (HO.out.2.2.below hb) (by have:=HLR.out;omega)⟩ (by have:=HLR.out;omega)).mono ?_
    rintro e w2 ⟨v0,rfl,hr,hb2⟩;exact⟨_,rfl,hK _ _ hb2 (show Kd.R _ _ _ _ _ _ _ from Kd.cB hr hb.size)⟩
  exact Steps.nil
 case en=>
  intro vs w6 hb hv;have h4:Kd.R (Kd.int .i64) 3 w6 W1.heap.size (fun _=>True) (vs 4) (refsOf M k):=hv 4 27 (by decide) (by kernel_rfl)
  have h9:Kd.R (Kd.int .u64) 31 w6 W1.heap.size (fun _=>True) (vs 9) (bf M k):=hv 9 32 (by decide) (by kernel_rfl)
  obtain⟨A4,c4,e4⟩:=Kd.aD h4;obtain⟨A9,c9,e9⟩:=Kd.aD h9;simp only[List.take_succ_cons,List.take_zero,List.drop_succ_cons,List.drop_zero,bA,Act.put,zj,zr,ya,e4,e9];rw[e4]at h4;rw[e9]at h9;have HR4:=Y h4;have HR9:=Y h9;have HB6:=Y hb;have H36:=Y (H3.out.below hb);have y3:=(H36.out.cell 0).trans rfl;have y4:=ak H36.out 0;clear hv hb h4 h9 e4 e9 x2 hlk;go_wp2_with fail;refine mq rfl (bB H36.out (k:=0) (by show 0<1;decide) _) (fun W'=>ma (t1:=4) (t2:=5) (u:=6) rfl rfl rfl rfl W') (fun W' hb=>?_)
  have hs:=bu w6 ge 0 (.int .i64 0);refine⟨_,_,rfl,Kd.cB (Kd.aX (dW HR4.out H36.out (fun q hq=>by rcases List.mem_cons.1 hq with rfl|hq;decide;cases hq) hs) hb) HB.out.size,Kd.cB (Kd.aX (dW HR9.out H36.out (fun q hq=>by rcases List.mem_cons.1 hq with rfl|hq;decide;cases hq) hs) hb) HB.out.size,?_⟩
  have b1:=ag HB.out HB.out.size HB6.out;exact ag (hs.below b1 HL.out) (hs.below b1 HL.out).size hb
end
end
section
structure CanR (S:Sh)(B:Nat)(qs ns:List (Value×Value))(AT AG:Option Addr)(cT nG cG:Nat)(vX vN:Value)(w:World):Prop where
 hq:qs.length=S.T.length
 hr:Kd.R bn 61 w B (fun _=>True) (.slice AT qs.length cT) qs
 hI:∀ j,Kd.R (Kd.int .i64) 3 w B (fun _=>True) ((fu qs (.slice AG nG cG)).getD j (.slice none 0 0)) ((stR (fw ⟨S.T,S.G,S.N⟩) (List.range (2*qs.length+1))).2 j)
 hn:Kd.R bn 64 w B (fun _=>True) vX ns
 hE:Els S89.f0 S89.f1 .u64 31 w B vN ns (dF S.N S.N.length 0 (stR (fw ⟨S.T,S.G,S.N⟩) (List.range (2*qs.length+1))).1 []).2
theorem CanR.ish {S:Sh}{B:Nat}{qs ns:List (Value×Value)}{AT AG:Option Addr}{cT nG cG:Nat}{vX vN:Value}{w:World}(h:CanR S B qs ns AT AG cT nG cG vX vN w):iD w (.agg #[.slice AT qs.length cT,.slice AG nG cG,vX]) (dV S):=Ea (T:=S.T) (Gs:=S.G) (N:=S.N) h.hq h.hr h.hI h.hn h.hE
theorem CanR.other {S:Sh}{B:Nat}{qs ns:List (Value×Value)}{AT AG:Option Addr}{cT nG cG g:Nat}{vX vN:Value}{w w1:World}{cs:List Value}(h:CanR S B qs ns AT AG cT nG cG vX vN w)(hc:Holds w g 46 cs)(hs:bH w w1 g):CanR S B qs ns AT AG cT nG cG vX vN w1:=by
 have ht3:∀ q,q∈3 :: (Kd.int .i64).E->q≠46:=fun q hq=>by rcases List.mem_cons.1 hq with rfl|hq;decide;cases hq
 have htw:∀ e:Nat,e≠46->∀ q,q∈e :: bn.E->q≠46:=fun e he q hq=>by rcases List.mem_cons.1 hq with rfl|hq;exact he;cases hq
 exact⟨h.hq,dW h.hr hc (htw 61 (by decide)) hs,fun j=>dW (h.hI j) hc ht3 hs,dW h.hn hc (htw 64 (by decide)) hs,h.hE.other hc (by decide) (by decide) hs⟩
theorem qp (S:Sh)(hS:Mid S)(v:Value)(w:World)(hv:iD w v S):
 Calls Tryz.prog 46 #[v] w fun e w'=>∃ B qs ns AT AG cT nG cG vX vN,e=.returned (.agg #[.slice AT qs.length cT,.slice AG nG cG,vX])/\CanR S B qs ns AT AG cT nG cG vX vN w'/\Below w.heap.size w w':=by
 have hu89:=Tryz.underlying46;have HS:=Y hS;obtain⟨A0,c0,A1,c1,A2,c2,rfl,l0,h0,l1,h1,l2,h2⟩:=hv;obtain⟨T,Gs,N⟩:=S;simp only at l0 h0 l1 h1 l2 h2;have HNl:=Y (show N.length<=100000 from hS.N)
 have HTl:=Y (show T.length<=300 from hS.T)
 have H0:=Y h0;have H1:=Y h1;have H2:=Y h2;have HL0:=Y l0;have HL1:=Y l1;clear hS h0 h1 h2 l0 l1 l2;have hmf:∀(fn:Fn) (first cap:Array Value) (w:World),(Instr.makeFunc fn first cap).run Tryz.prog w=.ok (.func fn first cap) w:=fun _ _ _ _=>rfl
 go_enter Tryz.func46,Tryz.ntmps46;go_upto_region 3 with(fail)
 obtain⟨W4,hW4⟩:∃ W4,W4=((((w.alloc (.cells #[.slice A0 T.length c0,.slice A1 Gs.length c1,.slice A2 N.length c2] 46)).alloc (.cells #[.slice none 0 0,.slice none 0 0,.slice none 0 0] 46)).alloc (.cells #[.slice A2 N.length c2] 44)).alloc (.cells #[.func (.func 78) #[] #[.pointer (some ⟨w.heap.size+1+1,0,none⟩)]] 138)):=⟨_,rfl⟩;rw[<-hW4];have e1:Holds W4 w.heap.size 46 [.slice A0 T.length c0,.slice A1 Gs.length c1,.slice A2 N.length c2]:=by rw[hW4];exact aI (aI (aI (bN (by simp)) _) _) _
 have e2:Holds W4 (w.heap.size+1) 46 z89:=by rw[hW4];exact aI (aI (bN (by simp)) _) _
 have e3:Holds W4 (w.heap.size+1+1) 44 [.slice A2 N.length c2]:=by rw[hW4];exact aI (bN (by simp)) _
 have e4:Holds W4 (w.heap.size+1+1+1) 138 [.func (.func 78) #[] #[.pointer (some ⟨w.heap.size+1+1,0,none⟩)]]:=by rw[hW4];exact bN (by simp)
 have hb4:Below w.heap.size w W4:=by rw[hW4];exact ae (ae (ae (ae zc _) _) _) _
 have HE1:=Y e1;have HE2:=Y e2;have HE3:=Y e3;have HE4:=Y e4;have HB4:=Y hb4;have x0:=(e1.cell 0).trans rfl;have x1:=(e1.cell 1).trans rfl;have x2:=(e1.cell 2).trans rfl;clear hW4 hb4 e1 e2 e3 e4;go_upto_region 4 with(go_at_call 79;refine(oH ⟨T,Gs,N⟩ HS.out.small A0 c0 A1 c1 A2 c2 W4 HL0.out (Kd.aU H0.out HB4.out) HL1.out (Kd.aU H1.out HB4.out)).mono ?_;rintro e w2 ⟨vT,vG,ps,rfl,hraw,hels,hog,hb2⟩;obtain⟨AT,cT,hvT⟩:=Kd.aD hraw;rw[show ps.length=T.length from hels.1]at hvT;obtain⟨AG,cG,rfl⟩:=Kd.aD hog;subst hvT;have HRAW:=Y hraw;have HELS:=Y hels;have HOG:=Y hog;have HB2:=Y hb2;clear hraw hels hog hb2)
 clear x0 x1 x2;obtain⟨W5,hW5⟩:∃ W5,W5=w2.alloc (.cells #[.slice AT T.length cT,.slice AG Gs.length cG,.slice A2 N.length c2] 46):=⟨_,rfl⟩;have hb5:Below w2.heap.size w2 W5:=by rw[hW5];exact ae zc _
 have h5:Holds W5 w2.heap.size 46 [.slice AT T.length cT,.slice AG Gs.length cG,.slice A2 N.length c2]:=by rw[hW5];exact bN rfl
 have hb45:=ag HB2.out HB2.out.size hb5;have hsz4:=HB4.out.size;have hd:∀{u:Value} {ys:List Int},OI .i64 3 w2 W4.heap.size (.slice AT T.length cT) u ys->OI .i64 3 W5 w.heap.size (.slice none 0 0) u ys:=fun hu=>Kd.cB (Kd.bY (Kd.aX hu hb5) (fun q _=>⟨trivial,by simp[Value.ownBlock]⟩)) hsz4
 have HCI:aa (CI T Gs N.length w.heap.size w2.heap.size (HL69 w.heap.size (w.heap.size+1+1) (.slice A2 N.length c2) [.slice A0 T.length c0,.slice A1 Gs.length c1,.slice A2 N.length c2]) (.slice AT T.length cT) (.slice AG Gs.length cG) (.slice A2 N.length c2) w 0 [] ps W5):=⟨⟨Kd.cB (Kd.aX HRAW.out hb5) hsz4,Els.nil,⟨HELS.out.1,fun j p t hp ht=>⟨hd (HELS.out.2 j p t hp ht).1,hd (HELS.out.2 j p t hp ht).2⟩⟩,ap_nil,Kd.bY (hd HOG.out) (fun _ _=>trivial),h5,fun x hx=>(by
  simp only[HL69,List.mem_cons,List.not_mem_nil,or_false]at hx
  rcases hx with rfl|rfl|rfl|rfl
  . exact HE1.out.below hb45
  . exact HE2.out.below hb45
  . exact HE3.out.below hb45
  . exact HE4.out.below hb45),ag HB4.out HB4.out.size hb45,Nat.le_trans HB4.out.size hb45.size⟩⟩
 have H5G:=Y (show w.heap.size+1+1+1<w2.heap.size from Nat.lt_of_lt_of_le HE4.out.lt HB2.out.size)
 have x0:=(h5.cell 0).trans rfl;rw[<-hW5];clear hW5 hb5 hb45 hd h5 hsz4 HRAW HELS HOG HE1 HE2 HE3 HE4;go_wp2_with fail;clear x0
 go_loopg [18] T.length (fun kq v18 w'=>∃(i:Nat) (qs rest:List (Value×Value)),v18=.int .i64 (i:Int)/\i+kq=T.length/\aa (qs.length=i)/\aa (CI T Gs N.length w.heap.size w2.heap.size (HL69 w.heap.size (w.heap.size+1+1) (.slice A2 N.length c2) [.slice A0 T.length c0,.slice A1 Gs.length c1,.slice A2 N.length c2]) (.slice AT T.length cT) (.slice AG Gs.length cG) (.slice A2 N.length c2) w i qs rest w'))
 case atStart=>exact⟨0,[],ps,rfl,by omega,⟨rfl⟩,HCI⟩
 case round=>
  clear HCI;obtain⟨i,qs,rest,rfl,hi,HQ,HCI⟩:=hrel;obtain⟨W0,rfl⟩:∃ W0,W0=wr:=⟨wr,rfl⟩;cases gk with
  |zero=>
   have q1:decide ((i:Int)<(T.length:Int))=false:=yd (by omega)
   have q2:decide (i<T.length)=false:=yd (by omega)
   have hrest:rest=[]:=by
    have h1:=HCI.out.todo.1;rw[List.drop_eq_nil_of_le (by omega)]at h1
    exact List.length_eq_zero_iff.1 h1
   have hqT:qs.length=T.length:=by rw[HQ.out];omega
   have HI:=Y hi;subst hrest;clear hi;have HP3:Holds W0 (w.heap.size+1+1) 44 [.slice A2 N.length c2]:=HCI.out.hs _ (List.mem_cons_of_mem _ (List.mem_cons_of_mem _ List.mem_cons_self));have HP4:Holds W0 (w.heap.size+1+1+1) 138 [.func (.func 78) #[] #[.pointer (some ⟨w.heap.size+1+1,0,none⟩)]]:=HCI.out.hs _ (List.mem_cons_of_mem _ (List.mem_cons_of_mem _ (List.mem_cons_of_mem _ List.mem_cons_self)));have HQT:=Y hqT;have y4:=(HP4.cell 0).trans rfl;have y5:=(HCI.out.h5.cell 1).trans rfl;have HCALL:=Y (c97 (.slice AG Gs.length cG) Gs N.length A2 c2 ⟨w.heap.size+1+1,0,none⟩ W0 (jN HCI.out.glob) (by have h1:Gs.length<=1000:=HS.out.G;omega) (by have:=HNl.out;omega) ((HP3.cell 0).trans rfl))
   clear HP3 HP4 hqT;go_upto_region 10 with(go_at_call 78;refine HCALL.out.mono ?_;rintro e w3 ⟨vG2,rfl,hr3,hb3⟩;obtain⟨AG2,cG2,rfl⟩:=Kd.aD hr3;have hy3:=ak (HCI.out.h5.below hb3) 1;have hy4:=((HCI.out.h5.below hb3).cell 1).trans rfl;have HR3:=Y hr3;have HB3:=Y hb3;clear hr3 hb3)
   rw[show T.length=i by have:=HI.out;omega]at HCI
   have hTi:T.length=i:=by have:=HI.out;omega
   subst hTi
   have hgl:=HCI.out.globe (vG2:=.slice AG2 (inF N.length Gs).length cG2) (W3:=w3) (fun x hx=>by
    have h1:=H5G.out;simp only[HL69,List.mem_cons,List.not_mem_nil,or_false]at hx
    rcases hx with rfl|rfl|rfl|rfl<;>simp only<;>omega) (by have:=H5G.out;omega) HB3.out HR3.out
   obtain⟨W7,hW7⟩:∃ W7,W7=w3.setCells w2.heap.size 1 [.slice AG2 (inF N.length Gs).length cG2]:=⟨_,rfl⟩;rw[<-hW7]at hgl;rw[show w3.setCell ⟨w2.heap.size,1,none⟩ (.slice AG2 (inF N.length Gs).length cG2)=W7 from hW7.symm]
   obtain⟨hraw,hI,hap,h5,hhs,hbel,hsz,hsl,hql⟩:=hgl;rw[<-hql]at hraw h5;have HZ:=Y (show Holds W7 (w.heap.size+1) 46 z89 from hhs _ (List.mem_cons_of_mem _ List.mem_cons_self))
   have HNUM:=Y (vk qs AT cT AG2 (inF N.length Gs).length cG2 (.slice A2 N.length c2) A2 0 c2 N (w.heap.size+1+1) (w.heap.size+1+1+1) (fw ⟨T,Gs,N⟩) w.heap.size w W7 rfl (by rw[hql];exact HTl.out) hsl H2.out rfl (by have:=HNl.out;omega) (fun t ht=>HS.out.n t ht) hraw hI (fun j k q hkj h1=>hap j k q hkj h1) (Du HS.out) (qL ⟨T,Gs,N⟩)
    (hhs _ (List.mem_cons_of_mem _ (List.mem_cons_of_mem _ List.mem_cons_self))) (hhs _ (List.mem_cons_of_mem _ (List.mem_cons_of_mem _ (List.mem_cons_of_mem _ List.mem_cons_self)))) (w.heap.size+1) HZ.out hbel hsz)
   have HQL:=Y hql;have H57:=Y h5;clear hW7 hraw hI hap h5 hhs hbel hsz hsl hql HCI hy3 hy4 y4 y5 HCALL
   go_upto_region 11 with(first
    |((with_reducible refine aW (N:=43) rfl ?_);refine bE (g:=w2.heap.size) (off:=0) (t:=46) (cs:=[.slice AT qs.length cT,.slice AG2 (inF N.length Gs).length cG2,.slice A2 N.length c2]) (seg:=[.slice AT qs.length cT,.slice AG2 (inF N.length Gs).length cG2,.slice A2 N.length c2]) rfl rfl (by rfl) H57.out (by rfl) Tryz.underlying46 rfl eU ?_)
    |(go_at_call 80;refine HNUM.out.mono ?_;rintro e w8 ⟨vX,ns,rfl,hraw8,hI8,hn8,⟨vN8,hE8⟩,hb8,hz8⟩;obtain⟨AX,cX,rfl⟩:=Kd.aD hn8;have HRAW8:=Y hraw8;have HI8:=Y hI8;have HN8:=Y hn8;have HE8:=Y hE8;have HB8:=Y hb8;have HZ8:=Y hz8;clear hraw8 hI8 hn8 hE8 hb8 hz8))
   have HG8:aa (Holds (w8.alloc (.cells #[.slice AT qs.length cT,.slice AG2 (inF N.length Gs).length cG2,.slice AX ns.length cX] 46)) w8.heap.size 46 [.slice AT qs.length cT,.slice AG2 (inF N.length Gs).length cG2,.slice AX ns.length cX]):=⟨bN rfl⟩;have HW9:=Y (ae (Below.refl w8.heap.size w8) (.cells #[.slice AT qs.length cT,.slice AG2 (inF N.length Gs).length cG2,.slice AX ns.length cX] 46))
   go_wp2_with (first
    |((with_reducible refine aW (N:=48) rfl ?_);refine bE (g:=w8.heap.size) (off:=0) (t:=46) (cs:=[.slice AT qs.length cT,.slice AG2 (inF N.length Gs).length cG2,.slice AX ns.length cX]) (seg:=[.slice AT qs.length cT,.slice AG2 (inF N.length Gs).length cG2,.slice AX ns.length cX]) rfl rfl (by rfl) HG8.out (by rfl) Tryz.underlying46 rfl eU ?_)
    |((with_reducible refine bg (t:=46) (p:=2) rfl ?_);refine aG rfl (ty:=46) rfl rfl (g:=w.heap.size+1) (off:=0) (vs:=#[.slice AT qs.length cT,.slice AG2 (inF N.length Gs).length cG2,.slice AX ns.length cX]) rfl rfl (HZ8.out.below HW9.out) (by show 3<=3;decide) eU (by simp[Value.oneCell']) ?_;intro w10 hh5 hs5;have HH5:=Y hh5;have HS5:=Y hs5;clear hh5 hs5))
   refine bodyPost_ret (results_cell_row rfl _ _ (w.heap.size+1) 46 #[.slice AT qs.length cT,.slice AG2 (inF N.length Gs).length cG2,.slice AX ns.length cX] (0,0) _ rfl HH5.out Tryz.underlying46 rfl eU) rfl ?_;have hz9:=HZ8.out.below HW9.out;have ht3:∀ q,q∈3 :: (Kd.int .i64).E->q≠46:=fun q hq=>by rcases List.mem_cons.1 hq with rfl|hq;decide;cases hq
   have htw:∀ e:Nat,e≠46->∀ q,q∈e :: bn.E->q≠46:=fun e he q hq=>by rcases List.mem_cons.1 hq with rfl|hq;exact he;cases hq
   refine⟨_,_,_,_,_,_,_,_,_,rfl,⟨_,HQL.out,(dW (Kd.aX HRAW8.out HW9.out) hz9 (htw 61 (by decide)) HS5.out),(fun j=>dW (Kd.aX (HI8.out j) HW9.out) hz9 ht3 HS5.out),(dW (Kd.aX HN8.out HW9.out) hz9 (htw 64 (by decide)) HS5.out),((HE8.out.below HW9.out).other hz9 (by decide) (by decide) HS5.out)⟩,HS5.out.below (ag HB8.out ?_ HW9.out) (Nat.le_succ _)⟩
   exact HB8.out.size
  |succ k1=>
   have hil:i<T.length:=by omega
   have hilt:=hil;have q1:decide ((i:Int)<(T.length:Int))=true:=yb (by omega)
   have q2:decide (i<T.length)=true:=yb (by omega)
   have q3:(0:Int)<=(i:Int):=by omega
   have q4:(i:Int)<(T.length:Int):=by omega
   have hin:i<1000000000:=by have:=HTl.out;omega
   have HTD:=Y (show T.drop i=T[i] :: T.drop (i+1)from List.drop_eq_getElem_cons hil)
   have HTT:=Y (show T.take (i+1)=T.take i++[T[i]]from List.take_succ_eq_append_getElem hil)
   obtain⟨t,ht⟩:∃ t,t=T[i]:=⟨_,rfl⟩;have HSM:=Y (show t.f0.length<=1000/\t.f1.length<=1000 by rw[ht];exact HS.out.t _ (List.getElem_mem hil))
   rw[<-ht]at HTD HTT;clear ht;have hrl:=HCI.out.todo.1;rw[HTD.out]at hrl
   obtain⟨p0,r0,hre⟩:∃ p0 r0,rest=p0 :: r0:=by
    cases rest with
    |nil=>simp at hrl
    |cons p0 r0=>exact⟨p0,r0,rfl⟩
   have hel:=HCI.out.todo.2 0 p0 t (by rw[hre];rfl) (by rw[HTD.out];rfl)
   have hqr:(qs++rest).length=T.length:=by
    have h1:=HCI.out.done.1;have h2:=HCI.out.todo.1;rw[List.length_map,List.length_take]at h1;rw[List.length_drop]at h2;rw[List.length_append];omega
   obtain⟨gT,cap,he,hgw,hgl,_⟩:=Kd.uw HCI.out.raw (by omega)
   rw[hqr]at he;injection he with he1 he2 he3
   subst he1 he3;obtain⟨ad,cs0,hade,_,hK,hcell⟩:=Kd.j5 (Kd.bI HCI.out.raw).2.2 ((.slice none 0 0,.slice none 0 0):Value×Value) (i:Int) (by omega) (by omega)
   injection hade with hade
   have HAD:=Y hade.symm
   have hgd:(qs++rest).getD (i:Int).toNat (.slice none 0 0,.slice none 0 0)=p0:=by
    rw[Int.toNat_natCast,List.getD_eq_getElem?_getD,List.getElem?_append_right (by rw[HQ.out];exact Nat.le_refl _),HQ.out,Nat.sub_self,hre]
    rfl
   rw[hgd]at hK;obtain⟨rfl,_,_⟩:=hK;obtain⟨X0,X1⟩:=p0;obtain⟨Ax,cx,hX0,_,_⟩:=jN hel.1;obtain⟨Ay,cy,hX1,_,_⟩:=jN hel.2;simp only at hX0 hX1;subst hX0 hX1;have HV0:=Y (jN hel.1);have HV1:=Y (jN hel.2)
   have hx0:W0.cell? (ad.add (i*2))=some (.slice Ax t.f0.length cx):=by
    have h:W0.cell? (ad.add ((i:Int).toNat*2+0))=_:=hcell 0 _ rfl;rw[Int.toNat_natCast,Nat.add_zero]at h;exact h
   have hx1:W0.cell? ⟨(ad.add (i*2)).block,(ad.add (i*2)).off+1,none⟩=some (.slice Ay t.f1.length cy):=by
    have h:W0.cell? (ad.add ((i:Int).toNat*2+1))=_:=hcell 1 _ rfl;rw[Int.toNat_natCast]at h;rw[<-dN _ _ 1 (by omega)]
    exact h
   rw[hade];clear hel hrl hre hgd hcell hade hqr hgl hgw he2;go_upto_region 7 with(fail)
   clear hx0 hx1;have hade2:=HAD.out;clear HAD;subst hade2;obtain⟨W6,hW6⟩:∃ W6,W6=W0.alloc (.cells #[.slice Ax t.f0.length cx,.slice Ay t.f1.length cy] 61):=⟨_,rfl⟩;have HB5:=Y (show Below W0.heap.size W0 W6 by rw[hW6];exact ae zc _)
   have H7:=Y (show Holds W6 W0.heap.size 61 [.slice Ax t.f0.length cx,.slice Ay t.f1.length cy] by rw[hW6];exact bN rfl)
   rw[<-hW6];clear hW6;have HC6:=Y (HCI.out.flow HB5.out);have HP3:=Y (show Holds W6 (w.heap.size+1+1) 44 [.slice A2 N.length c2]from HC6.out.hs _ (List.mem_cons_of_mem _ (List.mem_cons_of_mem _ List.mem_cons_self)))
   have HP4:=Y (show Holds W6 (w.heap.size+1+1+1) 138 [.func (.func 78) #[] #[.pointer (some ⟨w.heap.size+1+1,0,none⟩)]]from HC6.out.hs _ (List.mem_cons_of_mem _ (List.mem_cons_of_mem _ (List.mem_cons_of_mem _ List.mem_cons_self))))
   have H5:=Y HC6.out.h5;have HV0:=Y (show IV .i64 W6 (.slice Ax t.f0.length cx) t.f0 from HV0.out.below HB5.out)
   have HV1:=Y (show IV .i64 W6 (.slice Ay t.f1.length cy) t.f1 from HV1.out.below HB5.out)
   refine weaveR 13 49 R69 (V69 W0.heap.size w2.heap.size W0.heap.size (w.heap.size+1+1) i ⟨gT,0,none⟩ (inF N.length t.f0) (inF N.length t.f1) (.slice (some ⟨gT,0,none⟩) T.length cT) (.slice Ax t.f0.length cx) (.slice Ay t.f1.length cy)) (fun _ w1=>Below W6.heap.size W6 w1) (fun _ w1 w2=>Below w1.heap.size w1 w2) (by kernel_rfl) (by rfl) (by kernel_rfl) (bv zc) (fun _ _ _ _ _ _ _ h k=>ag h h.size k) (fun _ _ _ _ _ _ _ _ h k=>CV _ _ _ _ _ _ _ _ _ _ _ _ _ _ _ h k) ?st ?en
   case st=>
    refine eP.cons (fun a w1 L fr hL hj hdf hd hr K hK=>?_) ?_
    . exact af (gW (i:=0) (by decide) rfl ((fr 5 (by kernel_rfl)).trans rfl)) (hK _ _ zc rfl (fun _ _ _ _ h=>absurd h (by decide)))
    refine eP.cons (fun a w1 L fr hL hj hdf hd hr K hK=>?_) ?_
    . exact af (mf rfl (hd 0 23 (by kernel_rfl)) ((((H5.out).below hj).cell 0).trans rfl)) (hK _ _ zc rfl (fun _ _ _ _ h=>absurd h (by decide)))
    refine eP.cons (fun a w1 L fr hL hj hdf hd hr K hK=>?_) ?_
    . exact af (aC rfl ((fr 6 (by kernel_rfl)).trans rfl)) (hK _ _ zc rfl (fun _ _ _ _ h=>absurd h (by decide)))
    refine eP.cons (fun a w1 L fr hL hj hdf hd hr K hK=>?_) ?_
    . exact af (nW rfl ((fr 4 (by kernel_rfl)).trans rfl) (((HP4.out.below hj).cell 0).trans rfl)) (hK _ _ zc rfl (fun _ _ _ _ h=>absurd h (by decide)))
    refine eP.cons (fun a w1 L fr hL hj hdf hd hr K hK=>?_) ?_
    . exact af (mQ (i:=0) (by decide) rfl ((fr 7 (by kernel_rfl)).trans rfl)) (hK _ _ zc rfl (fun _ _ _ _ h=>absurd h (by decide)))
    refine eP.cons (fun a w1 L fr hL hj hdf hd hr K hK=>?_) ?_
    . exact af (jh rfl (hd 4 27 (by kernel_rfl)) (((H7.out.below hj).cell 0).trans rfl)) (hK _ _ zc rfl (fun _ _ _ _ h=>absurd h (by decide)))
    refine eP.cons (fun a w1 L fr hL hj hdf hd hr K hK=>?_) ?_
    . have e1:a.eval (.tmp 28)=(.slice Ax t.f0.length cx):=(hd 5 28 (by kernel_rfl))
      have e2:a.eval (.tmp 26)=.func (.func 78) #[] #[.pointer (some ⟨w.heap.size+1+1,0,none⟩)]:=(hd 3 26 (by kernel_rfl))
      refine sM Tryz.func78 (by kernel_rfl) rfl #[(.slice Ax t.f0.length cx),.pointer (some ⟨w.heap.size+1+1,0,none⟩)] rfl e2 (by simp only[List.map_toArray,List.map_cons,List.map_nil,e1];rfl) ?_
      refine(c97 _ t.f0 N.length A2 c2 _ w1 (HV0.out.below hj) (by have:=HSM.out.1;omega) (by have:=HNl.out;omega) (((HP3.out.below hj).cell 0).trans rfl)).mono ?_
      rintro e w2 ⟨v0,rfl,hr2,hb2⟩;exact⟨_,rfl,hK _ _ hb2 (show RT _ _ _ _ from Kd.cB hr2 (by have h1:=hj.size;have h2:=HB5.out.size;omega)) (fun _ _ _ _ h=>absurd h (by decide))⟩
    refine eP.cons (fun a w1 L fr hL hj hdf hd hr K hK=>?_) ?_
    . exact af (nW rfl ((fr 4 (by kernel_rfl)).trans rfl) (((HP4.out.below hj).cell 0).trans rfl)) (hK _ _ zc rfl (fun _ _ _ _ h=>absurd h (by decide)))
    refine eP.cons (fun a w1 L fr hL hj hdf hd hr K hK=>?_) ?_
    . exact af (mQ (i:=1) (by decide) rfl ((fr 7 (by kernel_rfl)).trans rfl)) (hK _ _ zc rfl (fun _ _ _ _ h=>absurd h (by decide)))
    refine eP.cons (fun a w1 L fr hL hj hdf hd hr K hK=>?_) ?_
    . exact af (jh rfl (hd 8 31 (by kernel_rfl)) (((H7.out.below hj).cell 1).trans rfl)) (hK _ _ zc rfl (fun _ _ _ _ h=>absurd h (by decide)))
    refine eP.cons (fun a w1 L fr hL hj hdf hd hr K hK=>?_) ?_
    . have e1:a.eval (.tmp 32)=(.slice Ay t.f1.length cy):=(hd 9 32 (by kernel_rfl))
      have e2:a.eval (.tmp 30)=.func (.func 78) #[] #[.pointer (some ⟨w.heap.size+1+1,0,none⟩)]:=(hd 7 30 (by kernel_rfl))
      refine sM Tryz.func78 (by kernel_rfl) rfl #[(.slice Ay t.f1.length cy),.pointer (some ⟨w.heap.size+1+1,0,none⟩)] rfl e2 (by simp only[List.map_toArray,List.map_cons,List.map_nil,e1];rfl) ?_
      refine(c97 _ t.f1 N.length A2 c2 _ w1 (HV1.out.below hj) (by have:=HSM.out.2;omega) (by have:=HNl.out;omega) (((HP3.out.below hj).cell 0).trans rfl)).mono ?_
      rintro e w2 ⟨v0,rfl,hr2,hb2⟩;exact⟨_,rfl,hK _ _ hb2 (show RT _ _ _ _ from Kd.cB hr2 (by have h1:=hj.size;have h2:=HB5.out.size;omega)) (fun j s hdep hj6 _ q hq e=>by subst hj6;obtain rfl:29=s:=Option.some.inj ((show aH _ 6=some 29 by kernel_rfl).symm.trans (jY hdep).2);have h6:RT _ _ (a.eval (.tmp 29)) w1:=hd 6 29 hdep;have h1:=Kd.fT h6 q hq;have h2:=Kd.dG hr2 q e;omega)⟩
    refine eP.cons (fun a w1 L fr hL hj hdf hd hr K hK=>?_) ?_
    . have h6:RT W0.heap.size (inF N.length t.f0) (a.eval (.tmp 29)) w1:=(hd 6 29 (by kernel_rfl))
      have h10:RT W0.heap.size (inF N.length t.f1) (a.eval (.tmp 33)) w1:=(hd 10 33 (by kernel_rfl))
      have hap:=hr 6 10 29 33 _ (by kernel_rfl) (by kernel_rfl) rfl (by kernel_rfl) rfl rfl
      obtain⟨Aa,ca,ea⟩:=Kd.aD h6;obtain⟨Ab,cb,eb⟩:=Kd.aD h10;rw[ea]at h6 hap;rw[eb]at h10 hap;exact af (qi rfl ea eb) (hK _ _ zc (show A69 _ _ _ _ _ from⟨_,_,rfl,h6,h10,hap⟩) (fun _ _ _ _ h=>absurd h (by decide)))
    refine eP.cons (fun a w1 L fr hL hj hdf hd hr K hK=>?_) ?_
    . exact af (pQ rfl (hd 1 24 (by kernel_rfl)) (hd 2 25 (by kernel_rfl)) hilt) (hK _ _ zc rfl (fun _ _ _ _ h=>absurd h (by decide)))
    exact eP.nil
   case en=>
    intro vs w' L hj hl hv;have h11:A69 W0.heap.size (inF N.length t.f0) (inF N.length t.f1) (vs 11) w':=hv 11 34 (by decide) (by kernel_rfl)
    have h12:vs 12=.pointer (some ((⟨gT,0,none⟩:Addr).add (i*2))):=hv 12 35 (by decide) (by kernel_rfl)
    obtain⟨a0,b0,e11,ha,hb,hab⟩:=h11;obtain⟨Aa,ca,rfl⟩:=Kd.aD ha;obtain⟨Ab,cb,rfl⟩:=Kd.aD hb;have hb06:=ag HB5.out HB5.out.size hj;have hst:=HCI.out.step (fun x hx=>by simp only[HL69,List.mem_cons,List.not_mem_nil,or_false]at hx;rcases hx with rfl|rfl|rfl|rfl<;>simp) HQ.out HTD.out HTT.out hb06 ha hb hab
    obtain⟨inner,hw⟩:=Kd.gF ((HCI.out.flow hb06).raw)
    obtain⟨g',cap',cur,he',_,hhp,hnc,_,hcs,_⟩:∃ g cap cur,(Value.slice (some ⟨gT,0,none⟩) T.length cT)=.slice (some ⟨g,0,none⟩) (qs++rest).length cap/\w.heap.size<=g/\w'.heap[g]? =some (.cells cur 61 (0,0))/\(qs++rest).length<=cap/\cap<=maxLen/\cur.size=cap*2/\cur.toList.take ((qs++rest).length*2)=inner:=by
     rcases hw.2 with⟨h1,_⟩|h1
     . simp at h1
     . exact h1
    injection he' with he1 he2 he3
    injection he1 with he1
    injection he1 with he1 _ _
    have hbnd:i*2+2<=cur.toList.length:=by rw[Array.length_toList,hcs];omega
    subst he1;clear he2 he3 hcs hnc hw
    have hhT:Holds w' gT 61 cur.toList:=by
     show w'.heap[gT]? =some (.cells cur.toList.toArray 61 (0,0))
     rw[Array.toArray_toList];exact hhp
    refine ll rfl ?_;simp only[List.take_succ_cons,List.take_zero,bA,Act.put,zj,zr,ya,e11,h12];have had:(⟨gT,0,none⟩:Addr).add (i*2)=⟨gT,i*2,none⟩:=add0 gT (i*2);refine Wv.wp_skip (w':=w'.setCells gT (i*2) [.slice Aa (inF N.length t.f0).length ca,.slice Ab (inF N.length t.f1).length cb]) rfl ?hr ?_
    case hr=>exact lC (g:=gT) (off:=i*2) (t:=61) (cs:=cur.toList) (vs:=#[.slice Aa (inF N.length t.f0).length ca,.slice Ab (inF N.length t.f1).length cb]) rfl (by rw[<-had];rfl) (by rfl) hhT hbnd size128 (by simp[Value.oneCell'])
    have HADs:=Y had;clear had;go_wp2_with fail;go_roundg k1
    case measure=>omega
    case rel=>exact⟨i+1,_,_,rfl,by omega,⟨by rw[List.length_append,HQ.out];rfl⟩,⟨hst⟩⟩
end
section
def Tk (t:Nat)(W W':World):Prop:=∀ q t' cs,t'≠t->Holds W q t' cs->Holds W' q t' cs
theorem Tk.below {t:Nat}{W W':World}(hb:Below W.heap.size W W'):Tk t W W':=fun _ _ _ _ h=>h.below hb
theorem Tk.stored {t b:Nat}{W W':World}{cs:List Value}(hc:Holds W b t cs)(hs:bH W W' b):Tk t W W':=fun _ _ _ ht h=>hs.holds h (eH h hc ht)
theorem Tk.grown {α:Type}{d:Kd α}{t B:Nat}{ok:Nat->Prop}{W W':World}{v:Value}{xs:List α}(hr:d.R t W B ok v xs)(hg:W.grownBy W' v.ownBlock):Tk t W W':=fun _ _ _ ht h=>aY h hg (Kd.dL hr h (fun e=>ht e.symm))
theorem ji {e t B:Nat}{W W':World}{v:Value}{ps:List (Value×Value)}(h:Kd.R bn e W B (fun _=>True) v ps)(ht:e≠t)(hk:Tk t W W'):Kd.R bn e W' B (fun _=>True) v ps:=by
 obtain⟨h0,inner,hown,hr⟩:=h;refine⟨h0,inner,pY hown (fun q hq=>?_),hr⟩
 obtain⟨cells,hc⟩:=dO hown q hq;have h2:Holds W q e cells.toList:=by show W.heap[q]? =some (.cells cells.toList.toArray e (0,0));rw[Array.toArray_toList];exact hc
 exact(hk q e _ ht h2).trans h2.symm
def TR (k:IntKind)(e:Nat)(W:World)(v:Value)(l:List Int):Prop:=∃ A c,v=.slice A l.length c/\l.length<=c/\(l=[]\/∃ b cs,A=some ⟨b,0,none⟩/\Holds W b e cs/\∀(i:Nat) (x:Int),l[i]? =some x->cs[i]? =some (.int k x))
theorem TR.tk {k:IntKind}{e t:Nat}{W W':World}{v:Value}{l:List Int}(h:TR k e W v l)(ht:e≠t)(hk:Tk t W W'):TR k e W' v l:=by
 obtain⟨A,c,h1,h2,h3⟩:=h;refine⟨A,c,h1,h2,h3.imp id ?_⟩;rintro⟨b,cs,k1,k2,k3⟩;exact⟨b,cs,k1,hk b e cs ht k2,k3⟩
theorem TR.kV {k:IntKind}{e B:Nat}{ok:Nat->Prop}{W:World}{v:Value}{l:List Int}(h:Kd.R (Kd.int k) e W B ok v l):TR k e W v l:=by
 obtain⟨A,c,hv,hlc,_⟩:=Kd.lX h;refine⟨A,c,hv,hlc,?_⟩;obtain⟨_,inner,⟨hil,hown⟩,hr⟩:=h
 rcases hown with⟨_,h0⟩|⟨b,cap,cur,hv2,hB,hh,hcap,_,_,htk⟩
 . exact .inl (List.eq_nil_of_length_eq_zero h0)
 . have hT:Holds W b e cur.toList:=by show W.heap[b]? =some (.cells cur.toList.toArray e (0,0));rw[Array.toArray_toList];exact hh
   refine .inr ⟨b,cur.toList,?_,hT,fun i x hi=>?_⟩
   . rw[hv]at hv2;injection hv2
   . have hat:(inner.drop (i*1)).take 1=[.int k x]:=hr.2 i x hi;rw[Nat.mul_one]at hat
     have g0:inner[i]? =some (.int k x):=by
      have:=congrArg (fun l=>l[0]?) hat
      simpa [List.getElem?_take,List.getElem?_drop] using this
     rw[<-htk,List.getElem?_take]at g0
     split at g0
     . exact g0
     . cases g0
theorem TR.iv {k:IntKind}{e:Nat}{W:World}{v:Value}{l:List Int}(h:TR k e W v l)(hl:l.length<=1000):IV k W v l:=by
 obtain⟨A,c,h1,h2,h3⟩:=h;refine⟨A,c,h1,h2,rfl,by omega,fun h0=>?_⟩
 rcases h3 with rfl|⟨b,cs,rfl,hh,hat⟩
 . exact absurd h0 (by simp)
 . refine⟨_,rfl,fun j p hj=>⟨[.int k p],rfl,rfl,fun i u hi=>?_⟩⟩
   cases i with
   |succ i=>simp at hi
   |zero=>
    obtain rfl:Value.int k p=u:=by simpa using hi
    rw[show(⟨b,0,none⟩:Addr).add (j*(Kd.int k).sz+0)=⟨b,j,none⟩ by simp[Addr.add,show(Kd.int k).sz=1 from rfl];omega]
    exact(hh.cell j).trans (hat j p hj)
theorem TR.nil {k:IntKind}{e:Nat}{W:World}:TR k e W (.slice none 0 0) []:=⟨none,0,rfl,Nat.le_refl _,.inl rfl⟩
theorem TR.one {k:IntKind}{e:Nat}{W:World}{v:Value}{l:List Int}(h:TR k e W v l):v.oneCell'=true:=by
 obtain⟨A,c,rfl,_⟩:=h;rfl
def ELT {α:Type}(f0 f1:α->List Int)(k:IntKind)(e:Nat)(W:World)(ps:List (Value×Value))(T:List α):Prop:=ps.length=T.length/\∀(i:Nat) (p:Value×Value) (t:α),ps[i]? =some p->T[i]? =some t->TR .i64 3 W p.1 (f0 t)/\TR k e W p.2 (f1 t)
section
variable {α:Type} {f0 f1:α→List Int} {k:IntKind} {e t:Nat} {W W':World} {ps:List (Value×Value)} {T:List α}
theorem ELT.tk (h:ELT f0 f1 k e W ps T)(h3:3≠t)(he:e≠t)(hk:Tk t W W'):ELT f0 f1 k e W' ps T:=⟨h.1,fun i p u hp hu=>⟨(h.2 i p u hp hu).1.tk h3 hk,(h.2 i p u hp hu).2.tk he hk⟩⟩
theorem ELT.push (h:ELT f0 f1 k e W ps T){p:Value×Value}{u:α}(h0:TR .i64 3 W p.1 (f0 u))(h1:TR k e W p.2 (f1 u)):ELT f0 f1 k e W (ps++[p]) (T++[u]):=by
 refine⟨by rw[List.length_append,List.length_append,h.1];rfl,fun i q v hq hv=>?_⟩
 by_cases hi:i<ps.length
 . rw[List.getElem?_append_left hi]at hq;rw[List.getElem?_append_left (by rw[<-h.1];exact hi)]at hv
   exact h.2 i q v hq hv
 . have hlt:=(List.getElem?_eq_some_iff.1 hq).1;rw[List.length_append,List.length_singleton]at hlt;have hil:i=ps.length:=by omega
   rw[hil,List.getElem?_concat_length]at hq;rw[hil,h.1,List.getElem?_concat_length]at hv;injection hq with hq
   injection hv with hv
   subst hq hv;exact⟨h0,h1⟩
theorem ELT.nil:ELT f0 f1 k e W [] []:=⟨rfl,fun i p t h=>by simp at h⟩
end
def z46:List Value:=[.slice none 0 0,.slice none 0 0,.slice none 0 0]
structure SG (B b2 b3:Nat)(w:World)(vT vG vN:Value)(ps qs:List (Value×Value))(T:List S88)(G:List Int)(N:List S89)(W:World):Prop where
 h2:Holds W b2 46 z46
 h3:Holds W b3 46 [vT,vG,vN]
 rT:Kd.R bn 61 W B (fun _=>True) vT ps
 eT:ELT S88.f0 S88.f1 .i64 3 W ps T
 rG:TR .i64 3 W vG G
 rN:Kd.R bn 64 W B (fun _=>True) vN qs
 eN:ELT S89.f0 S89.f1 .u64 31 W qs N
 hb:Below B w W
 ne:b2≠b3
 le:B<=b2/\B<=b3/\B<=w.heap.size
section
variable {B b2 b3:Nat} {w W W1 w2:World} {vT vG vN:Value} {ps qs:List (Value×Value)} {T:List S88} {G:List Int} {N:List S89}
theorem SG.size (h:SG B b2 b3 w vT vG vN ps qs T G N W):B<=W.heap.size:=Nat.le_trans h.le.2.2 h.hb.size
theorem SG.below (h:SG B b2 b3 w vT vG vN ps qs T G N W)(hb:Below W.heap.size W W1):SG B b2 b3 w vT vG vN ps qs T G N W1:=
 ⟨h.h2.below hb,h.h3.below hb,Kd.aX h.rT hb,h.eT.tk (t:=0) (by decide) (by decide) (Tk.below hb),h.rG.tk (t:=0) (by decide) (Tk.below hb),Kd.aX h.rN hb,h.eN.tk (t:=0) (by decide) (by decide) (Tk.below hb),ag h.hb h.size hb,h.ne,h.le⟩
theorem SG.set (h:SG B b2 b3 w vT vG vN ps qs T G N W){i:Nat}{v:Value}{vT' vG' vN':Value}(hi:i<3)(hv:[vT,vG,vN].set i v=[vT',vG',vN']){ps' qs':List (Value×Value)}{T':List S88}{G':List Int}{N':List S89}
 (rT:Kd.R bn 61 W B (fun _=>True) vT' ps') (eT:ELT S88.f0 S88.f1 .i64 3 W ps' T') (rG:TR .i64 3 W vG' G') (rN:Kd.R bn 64 W B (fun _=>True) vN' qs') (eN:ELT S89.f0 S89.f1 .u64 31 W qs' N'):
 SG B b2 b3 w vT' vG' vN' ps' qs' T' G' N' (W.setCell ⟨b3,i,none⟩ v):=by
 have hs:=bu W b3 i v;have hk:Tk 46 W (W.setCell ⟨b3,i,none⟩ v):=Tk.stored h.h3 hs;refine⟨hs.holds h.h2 h.ne,?_,ji rT (by decide) hk,eT.tk (by decide) (by decide) hk,rG.tk (by decide) hk,ji rN (by decide) hk,eN.tk (by decide) (by decide) hk,hs.below h.hb h.le.2.1,h.ne,h.le⟩
 rw[<-hv];exact bB h.h3 hi v
theorem SG.uz (h:SG B b2 b3 w vT vG vN ps qs T G N W1){p:Value×Value}{u:S88}{vT':Value}(h0:TR .i64 3 W1 p.1 u.f0)(h1:TR .i64 3 W1 p.2 u.f1)(ho:Kd.R bn 61 w2 B (fun _=>True) vT' (ps++[p]))(hg:W1.grownBy w2 vT.ownBlock)(hbw:Below B w w2):
 SG B b2 b3 w vT' vG vN (ps++[p]) qs (T++[u]) G N (w2.setCell ⟨b3,0,none⟩ vT'):=by
 have hk:Tk 61 W1 w2:=Tk.grown h.rT hg;have h':SG B b2 b3 w vT vG vN ps qs T G N w2->True:=fun _=>trivial
 have hs:=bu w2 b3 0 vT';have h3:=hk b3 46 _ (by decide) h.h3
 have hk2:Tk 46 w2 (w2.setCell ⟨b3,0,none⟩ vT'):=Tk.stored h3 hs;refine⟨hs.holds (hk b2 46 _ (by decide) h.h2) h.ne,bB h3 (k:=0) (by show 0<3;decide) vT',ji ho (by decide) hk2,((h.eT.tk (by decide) (by decide) hk).push (h0.tk (by decide) hk) (h1.tk (by decide) hk)).tk (by decide) (by decide) hk2,(h.rG.tk (by decide) hk).tk (by decide) hk2,ji (ji h.rN (by decide) hk) (by decide) hk2,(h.eN.tk (by decide) (by decide) hk).tk (by decide) (by decide) hk2,hs.below hbw h.le.2.1,h.ne,h.le⟩
theorem SG.uN (h:SG B b2 b3 w vT vG vN ps qs T G N W1){p:Value×Value}{u:S89}{vN':Value}(h0:TR .i64 3 W1 p.1 u.f0)(h1:TR .u64 31 W1 p.2 u.f1)(ho:Kd.R bn 64 w2 B (fun _=>True) vN' (qs++[p]))(hg:W1.grownBy w2 vN.ownBlock)(hbw:Below B w w2):
 SG B b2 b3 w vT vG vN' ps (qs++[p]) T G (N++[u]) (w2.setCell ⟨b3,2,none⟩ vN'):=by
 have hk:Tk 64 W1 w2:=Tk.grown h.rN hg;have hs:=bu w2 b3 2 vN';have h3:=hk b3 46 _ (by decide) h.h3
 have hk2:Tk 46 w2 (w2.setCell ⟨b3,2,none⟩ vN'):=Tk.stored h3 hs;refine⟨hs.holds (hk b2 46 _ (by decide) h.h2) h.ne,bB h3 (k:=2) (by show 2<3;decide) vN',ji (ji h.rT (by decide) hk) (by decide) hk2,(h.eT.tk (by decide) (by decide) hk).tk (by decide) (by decide) hk2,(h.rG.tk (by decide) hk).tk (by decide) hk2,ji ho (by decide) hk2,((h.eN.tk (by decide) (by decide) hk).push (h0.tk (by decide) hk) (h1.tk (by decide) hk)).tk (by decide) (by decide) hk2,hs.below hbw h.le.2.1,h.ne,h.le⟩
theorem SG.ish (h:SG B b2 b3 w vT vG vN ps qs T G N W)(hT:∀ t∈T,t.f0.length<=1000/\t.f1.length<=1000)(hG:G.length<=1000)(hN:∀ t∈N,t.f0.length<=1000/\t.f1.length<=1000):iD W (.agg #[vT,vG,vN]) ⟨T,G,N⟩:=by
 obtain⟨AT,cT,rfl⟩:=Kd.aD h.rT;obtain⟨AN,cN,rfl⟩:=Kd.aD h.rN;obtain⟨AG,cG,rfl,hcG,hkG⟩:=h.rG.iv hG;have rT:=h.rT;have rN:=h.rN;rw[h.eT.1]at rT ⊢;rw[h.eN.1]at rN ⊢;obtain⟨t1,t2⟩:=els_T (vT:=.slice AT T.length cT) rT h.eT.1 (fun i p t hp ht=>⟨(h.eT.2 i p t hp ht).1.iv (hT t (List.mem_iff_getElem?.2 ⟨i,ht⟩)).1,(h.eT.2 i p t hp ht).2.iv (hT t (List.mem_iff_getElem?.2 ⟨i,ht⟩)).2⟩)
 obtain⟨n1,n2⟩:=els_N (vT:=.slice AN N.length cN) rN h.eN.1 (fun i p t hp ht=>⟨(h.eN.2 i p t hp ht).1.iv (hN t (List.mem_iff_getElem?.2 ⟨i,ht⟩)).1,(h.eN.2 i p t hp ht).2.iv (hN t (List.mem_iff_getElem?.2 ⟨i,ht⟩)).2⟩)
 exact⟨AT,cT,AG,cG,AN,cN,rfl,t1,t2,hcG,hkG,n1,n2⟩
end
def t88 (t:LL):S88:=⟨t.1,t.2⟩
def t89 (t:LL):S89:=⟨t.1,t.2⟩
def shM (M:Gm):Sh:=⟨M.T.map t88,M.G,M.O.map t89⟩
theorem rC {M:Gm}(h:Gwf M):Mid (shM M):=by
 refine⟨by show(M.T.map t88).length<=300;rw[List.length_map];have:=h.t64;omega,fun t ht=>?_,by show M.G.length<=1000;have:=h.g8;omega,by show(M.O.map t89).length<=100000;rw[List.length_map];have:=h.o;omega,fun t ht=>?_⟩
 . obtain⟨u,hu,rfl⟩:=List.mem_map.1 (show t∈M.T.map t88 from ht)
   have k:=h.ts u hu;exact⟨by show u.1.length<=1000;have:=k.s8;omega,by show u.2.length<=1000;have:=k.k;omega⟩
 . obtain⟨u,hu,rfl⟩:=List.mem_map.1 (show t∈M.O.map t89 from ht)
   have k:=(h.os u hu).size;exact⟨by show u.1.length<=1000;omega,by show u.2.length<=1000;omega⟩
theorem sw (w:World):∃ W1,W1=(w.alloc (.cells #[.slice none 0 0,.slice none 0 0,.slice none 0 0] 46)).alloc (.cells #[.slice none 0 0,.slice none 0 0,.slice none 0 0] 46)/\SG w.heap.size w.heap.size (w.heap.size+1) w (.slice none 0 0) (.slice none 0 0) (.slice none 0 0) [] [] [] [] [] W1:=by
 refine⟨_,rfl,Holds.below (aK _ _) (ae zc _),?_,Kd.fo _ _ _ _ _,.nil,.nil,Kd.fo _ _ _ _ _,.nil,ae (ae zc _) _,by omega,Nat.le_refl _,by omega,Nat.le_refl _⟩
 have h:=aK (w.alloc (.cells #[.slice none 0 0,.slice none 0 0,.slice none 0 0] 46)) (.cells #[.slice none 0 0,.slice none 0 0,.slice none 0 0] 46);rw[World.size_alloc]at h;exact h
section
variable {F:Nat→Prop} {w:World} {g:Nat} {x:Gw} {M:Gm}
theorem yN (h:GL F w g x M):
 Calls Tryz.prog 11 #[.pointer (some ⟨g,0,none⟩)] w fun e w'=>∃ v,e=.returned v/\iD w' v (dV (shM M))/\Below w.heap.size w w':=by
 obtain⟨W1,hW1,hS1⟩:=sw w;have HG:=Y h;have HS1:=Y hS1;have HW:=Y h.wf;clear h hS1;go_enter Tryz.func11,Tryz.ntmps11;go_upto_region 2 with(fail)
 rw[<-hW1];clear hW1;go_wp2_with fail
 go_loopg [4] (M.T.length+1) (fun kq v4 w'=>∃(i:Nat) (vT:Value) (ps:List (Value×Value)),v4=.int .i64 (i:Int)/\aa (i+kq=M.T.length+1/\i<=M.T.length)/\aa (SG w.heap.size w.heap.size (w.heap.size+1) w vT (.slice none 0 0) (.slice none 0 0) ps [] ((M.T.take i).map t88) [] [] w'))
 case atStart=>exact⟨0,_,[],rfl,⟨by omega,by omega⟩,HS1⟩
 case round=>
  clear HS1;obtain⟨i,vT,ps,rfl,HI,HSG⟩:=hrel;obtain⟨W0,rfl⟩:∃ W0,W0=wr:=⟨wr,rfl⟩;cases gk with
  |zero=>exact absurd HI.out.1 (by have:=HI.out.2;omega)
  |succ k1=>
   have HGL:=Y (HG.out.below HSG.out.hb)
   by_cases hi:i<M.T.length
   case neg=>
    have HOW:=Y (own_no HGL.out (i:Int) (by rw[lc];exact List.getElem?_eq_none (by omega)))
    have HTI:=Y (show SG w.heap.size w.heap.size (w.heap.size+1) w vT (.slice none 0 0) (.slice none 0 0) ps [] (M.T.map t88) [] [] W0 by have:=HSG.out;rw[List.take_of_length_le (by omega)]at this;exact this)
    clear HSG hi HI;go_upto_region 7 with(go_at_call 43;refine HOW.out.mono ?_;rintro e w2 ⟨⟨v1,v2,rfl⟩,hb2⟩;have HB2:=Y hb2;clear hb2)
    have HS2:=Y (HTI.out.below HB2.out);have HGC:=Y (wH (HG.out.below HS2.out.hb));clear HTI HB2 HOW HGL;go_upto_region 8 with(go_at_call 44;refine HGC.out.mono ?_;rintro e w3 ⟨vG,rfl,hr3,hb3⟩;obtain⟨AG,cG,eG⟩:=Kd.aD hr3;subst eG;have HR3:=Y (TR.kV hr3);have HS3:=Y (HS2.out.below hb3);have z2:=(HS3.out.h3.cell 1).trans rfl;have z3:=ak HS3.out.h3 1;clear hr3 hb3)
    have HS4:=Y (HS3.out.set (i:=1) (v:=.slice AG M.G.length cG) (vT':=vT) (vG':=.slice AG M.G.length cG) (vN':=.slice none 0 0) (by decide) rfl HS3.out.rT HS3.out.eT HR3.out HS3.out.rN HS3.out.eN)
    obtain⟨W4,hW4⟩:∃ W4,W4=w3.setCell ⟨w.heap.size+1,1,none⟩ (.slice AG M.G.length cG):=⟨_,rfl⟩;rw[<-hW4]at HS4 ⊢;clear hW4 HS3 HR3 HS2 HGC z2 z3;go_wp2_with fail
    go_loopg [8] (M.O.length+1) (fun kq v8 w'=>∃(j:Nat) (vN:Value) (qs:List (Value×Value)),v8=.int .i64 ((j:Int)+1)/\aa (j+kq=M.O.length+1/\j<=M.O.length)/\aa (SG w.heap.size w.heap.size (w.heap.size+1) w vT (.slice AG M.G.length cG) vN ps qs (M.T.map t88) M.G ((M.O.take j).map t89) w'))
    case atStart=>exact⟨0,_,[],rfl,⟨by omega,by omega⟩,HS4⟩
    case round=>
     clear HS4;obtain⟨j,vN,qs,rfl,HJ,HSN⟩:=hrel;obtain⟨W5,rfl⟩:∃ W5,W5=wr:=⟨wr,rfl⟩;cases gk with
     |zero=>exact absurd HJ.out.1 (by have:=HJ.out.2;omega)
     |succ k2=>
      have HGL:=Y (HG.out.below HSN.out.hb)
      by_cases hj:j<M.O.length
      case neg=>
       have HOW:=Y (D8 HGL.out ((j:Int)+1) (by have:=HW.out.o;have:=HJ.out.2;omega) (by omega))
       have HTI:=Y (show SG w.heap.size w.heap.size (w.heap.size+1) w vT (.slice AG M.G.length cG) vN ps qs (M.T.map t88) M.G (M.O.map t89) W5 by have:=HSN.out;rw[List.take_of_length_le (by omega)]at this;exact this)
       obtain⟨AT,cT,eT⟩:=Kd.aD HTI.out.rT;obtain⟨AN,cN,eN⟩:=Kd.aD HTI.out.rN;subst eT eN;clear HSN hj HJ;go_upto_region 13 with(go_at_call 45;refine HOW.out.mono ?_;rintro e w2 ⟨⟨v1,v2,rfl⟩,hb2⟩;have HB2:=Y hb2;clear hb2)
       have HS6:=Y (HTI.out.below HB2.out);have HMID:=Y (rC HW.out);have HCA:=Y (qp (shM M) HMID.out _ w2 (HS6.out.ish HMID.out.t HMID.out.G HMID.out.n));have HH6:=Y HS6.out.h3;have HB6:=Y HS6.out.hb;have HH2:=Y HS6.out.h2;clear HTI HS6 HOW HGL;go_wp2_with (first|((with_reducible refine aW (N:=53) rfl ?_);refine bE (g:=w.heap.size+1) (off:=0) (t:=46) (cs:=[.slice AT ps.length cT,.slice AG M.G.length cG,.slice AN qs.length cN]) (seg:=[.slice AT ps.length cT,.slice AG M.G.length cG,.slice AN qs.length cN]) rfl rfl (by rfl) HH6.out (by rfl) Tryz.underlying46 rfl eU ?_)|(go_at_call 46;refine HCA.out.mono ?_;rintro e w7 ⟨B7,qs7,ns7,AT7,AG7,cT7,nG7,cG7,vX7,vN7,rfl,hs7,hb7⟩;obtain⟨AX7,cX7,eX7⟩:=Kd.aD hs7.hn;subst eX7;have HS7:=Y hs7;have HB7:=Y hb7;have HH7:=Y (HH2.out.below hb7);clear hs7 hb7)|((with_reducible refine bg (t:=46) (p:=2) rfl ?_);refine aG rfl (ty:=46) rfl rfl (g:=w.heap.size) (off:=0) (vs:=#[.slice AT7 qs7.length cT7,.slice AG7 nG7 cG7,.slice AX7 ns7.length cX7]) rfl rfl HH7.out (by show 3<=3;decide) eU (by simp[Value.oneCell']) ?_;intro w9 hh9 hs9;have HH9:=Y hh9;have HS9:=Y hs9;clear hh9 hs9))
       refine bodyPost_ret (results_cell_row rfl _ _ w.heap.size 46 #[.slice AT7 qs7.length cT7,.slice AG7 nG7 cG7,.slice AX7 ns7.length cX7] (0,0) _ rfl HH9.out Tryz.underlying46 rfl eU) rfl ?_;refine⟨_,rfl,?_,HS9.out.below (ag HB6.out HB6.out.size HB7.out) (Nat.le_refl _)⟩;exact(HS7.out.other HH7.out HS9.out).ish
      case pos=>
       obtain⟨u,hu⟩:∃ u,M.O[j]? =some u:=⟨_,List.getElem?_eq_getElem hj⟩;have HU:=Y (lv hj);have HOW:=Y (CJ HGL.out j hj);have HTK:=Y (show(M.O.take j).map t89++[t89 (refsOf M j,bf M j)]=(M.O.take (j+1)).map t89 by rw[List.take_add_one,HU.out,List.map_append];rfl)
       have HLN:=Y (show qs.length<=1000 by rw[HSN.out.eN.1,List.length_map,List.length_take];have:=HW.out.o;omega)
       have hw1:IntKind.i64.wrap ((j:Int)+1+1)=(j:Int)+1+1:=i64_in (by have:=HW.out.o;omega)
       have HJL:=Y hj;clear hj hu u;go_upto_region 11 with(go_at_call 45;refine HOW.out.mono ?_;rintro e w2 ⟨v1,v2,rfl,hr1,hr2,hb2⟩;obtain⟨A1',c1',e1⟩:=Kd.aD hr1;obtain⟨A2',c2',e2⟩:=Kd.aD hr2;subst e1 e2;have HR1:=Y (TR.kV hr1);have HR2:=Y (TR.kV hr2);have HSB:=Y (HSN.out.below hb2);clear hr1 hr2 hb2)
       have HO:=Y (And.intro HR1.out.one HR2.out.one);obtain⟨AN,cN,eN⟩:=Kd.aD HSB.out.rN;subst eN;have z1:=(HSB.out.h3.cell 2).trans rfl;clear HSN HOW HGL;go_wp2_with (at_builtin;refine Kd.fD bn (w0:=w) w.heap.size rfl (.tmp 46) (.tmp 50) 44 64 (.agg #[.slice none 0 0,.slice none 0 0]) 48 rfl Tryz.underlying44 sQ rfl (by decide) (by omega) _ qs ((.slice A1' (refsOf M j).length c1'),(.slice A2' (bf M j).length c2')) [(.slice A1' (refsOf M j).length c1'),(.slice A2' (bf M j).length c2')] (fun _=>True) (fun _=>False) rfl rfl ⟨rfl,HO.out.1,HO.out.2⟩ (fun _ hk=>hk.elim) (fun _ _=>trivial) HSB.out.rN HSB.out.hb HSB.out.size (by have:=HLN.out;omega) ?_;intro v2 w2 ho2 hb2 hg2 hat2;obtain⟨A2,c2,e2⟩:=Kd.aD ho2;rw[List.length_append,List.length_singleton]at e2;subst e2;have HO2:=Y ho2;have HG2:=Y hg2;have HB2:=Y hb2;have HH2:=Y (Tk.grown HSB.out.rN hg2 _ 46 _ (by decide) HSB.out.h3);have z2:=(HH2.out.cell 2).trans rfl;have z3:=ak HH2.out 2;clear ho2 hb2 hg2 hat2)
       go_roundg k2
       case measure=>have:=HJ.out;omega
       case rel=>
        refine⟨j+1,.slice A2 (qs.length+1) c2,qs++[((.slice A1' (refsOf M j).length c1'),(.slice A2' (bf M j).length c2'))],by rw[show((j+1:Nat):Int)+1=(j:Int)+1+1 by omega],⟨by have:=HJ.out;omega,by have:=HJL.out;omega⟩,⟨?_⟩⟩
        rw[<-HTK.out];exact HSB.out.uN (u:=t89 (refsOf M j,bf M j)) HR1.out HR2.out HO2.out HG2.out HB2.out
   case pos=>
    obtain⟨u,hu⟩:∃ u,M.T[i]? =some u:=⟨_,List.getElem?_eq_getElem hi⟩;have HOW:=Y (Cv HGL.out i u hu);have HTK:=Y (show(M.T.take i).map t88++[t88 u]=(M.T.take (i+1)).map t88 by rw[List.take_add_one,hu,List.map_append];rfl)
    have HLN:=Y (show ps.length<=1000 by rw[HSG.out.eT.1,List.length_map,List.length_take];have:=HW.out.t64;omega)
    have hw1:IntKind.i64.wrap ((i:Int)+1)=(i:Int)+1:=i64_in (by have:=HW.out.t64;omega)
    have HIL:=Y hi;clear hi hu;go_upto_region 5 with(go_at_call 43;refine HOW.out.mono ?_;rintro e w2 ⟨v1,v2,rfl,hr1,hr2,hb2⟩;obtain⟨A1',c1',e1⟩:=Kd.aD hr1;obtain⟨A2',c2',e2⟩:=Kd.aD hr2;subst e1 e2;have HR1:=Y (TR.kV hr1);have HR2:=Y (TR.kV hr2);have HSB:=Y (HSG.out.below hb2);clear hr1 hr2 hb2)
    have HO:=Y (And.intro HR1.out.one HR2.out.one);obtain⟨AT,cT,eT⟩:=Kd.aD HSB.out.rT;subst eT;have z1:=(HSB.out.h3.cell 0).trans rfl;clear HSG HOW HGL;go_wp2_with (at_builtin;refine Kd.fD bn (w0:=w) w.heap.size rfl (.tmp 24) (.tmp 28) 43 61 (.agg #[.slice none 0 0,.slice none 0 0]) 48 rfl Tryz.underlying43 sK rfl (by decide) (by omega) _ ps ((.slice A1' u.1.length c1'),(.slice A2' u.2.length c2')) [(.slice A1' u.1.length c1'),(.slice A2' u.2.length c2')] (fun _=>True) (fun _=>False) rfl rfl ⟨rfl,HO.out.1,HO.out.2⟩ (fun _ hk=>hk.elim) (fun _ _=>trivial) HSB.out.rT HSB.out.hb HSB.out.size (by have:=HLN.out;omega) ?_;intro v2 w2 ho2 hb2 hg2 hat2;obtain⟨A2,c2,e2⟩:=Kd.aD ho2;rw[List.length_append,List.length_singleton]at e2;subst e2;have HO2:=Y ho2;have HG2:=Y hg2;have HB2:=Y hb2;have HH2:=Y (Tk.grown HSB.out.rT hg2 _ 46 _ (by decide) HSB.out.h3);have z2:=(HH2.out.cell 0).trans rfl;have z3:=ak HH2.out 0;clear ho2 hb2 hg2 hat2)
    go_roundg k1
    case measure=>have:=HI.out;omega
    case rel=>
     refine⟨i+1,.slice A2 (ps.length+1) c2,ps++[((.slice A1' u.1.length c1'),(.slice A2' u.2.length c2'))],rfl,⟨by have:=HI.out;omega,by have:=HIL.out;omega⟩,⟨?_⟩⟩
     rw[<-HTK.out];exact HSB.out.uz (u:=t88 u) HR1.out HR2.out HO2.out HG2.out HB2.out
end
end
end Go.Proofs.YtglikkmmbdnmbaaGreat.Im

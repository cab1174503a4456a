/- The player's run over three known events (function 15), and over a plan that may not be; a known shape that stays where the result is laid down. -/
import Derived.Test.YtglikkmmbdnmbaaGreatQ17
import Derived.Test.YtglikkmmbdnmbaaGreatQ18
import Derived.Test.YtglikkmmbdnmbaaGreatQ16
import Derived.Test.YtglikkmmbdnmbaaGreatQ02
import Derived.ProofKit
import Derived.Deep.Slices
import Derived.ChangeArms
import Derived.DataReads
set_option maxHeartbeats 8000000
set_option maxRecDepth 100000
section
namespace Go.Proofs.YtglikkmmbdnmbaaGreat.Ev
open Go.RowKit Q7
open YtglikkmmbdnmbaaGreat.Own PCan
theorem xI {y:aQ}{ys:List aQ}(h:Srt (y :: ys)):∀ d∈y :: ys,y.f4<=d.f4:=fun d hd=>by
 rcases List.mem_cons.1 hd with rfl|hd
 . exact Int.le_refl _
 . exact(nQ.1 h).1 d hd
theorem Dh {xs ys:List aQ}(h:Same xs ys):Same ys xs:=fun k=>(h k).symm
theorem tX:∀{ys zs:List aQ},Srt ys->Srt zs->Same ys zs->ys=zs
 |[],[],_,_,_=>rfl
 |[],z :: zs,_,_,h=>by
  have:=(pX h z).1 List.mem_cons_self;simp at this
 |y :: ys,[],_,_,h=>by
  have:=(pX h y).2 List.mem_cons_self;simp at this
 |y :: ys,z :: zs,hy,hz,h=>by
  have h1:=xI hz y ((pX h y).2 List.mem_cons_self);have h2:=xI hy z ((pX h z).1 List.mem_cons_self);have he:z.f4=y.f4:=by omega
  have h3:=h y.f4;rw[List.filter_cons_of_pos (p:=fun d:aQ=>d.f4==y.f4) (a:=z) (by show(z.f4==y.f4)=true;rw[he];exact beq_self_eq_true _),List.filter_cons_of_pos (p:=fun d:aQ=>d.f4==y.f4) (a:=y) (beq_self_eq_true _)]at h3
  injection h3 with h4 h5
  subst h4
  have h6:Same ys zs:=fun k=>by
   have h7:=h k
   by_cases hk:(z.f4==k)=true
   . rw[List.filter_cons_of_pos (p:=fun d:aQ=>d.f4==k) (a:=z) hk,List.filter_cons_of_pos (p:=fun d:aQ=>d.f4==k) (a:=z) hk]at h7
     injection h7
   . rw[List.filter_cons_of_neg (p:=fun d:aQ=>d.f4==k) (a:=z) hk,List.filter_cons_of_neg (p:=fun d:aQ=>d.f4==k) (a:=z) hk]at h7
     exact h7
  rw[tX (nQ.1 hy).2 (nQ.1 hz).2 h6]
theorem yK {l ys zs:List aQ}(h:Stab l ys)(k:Stab l zs):ys=zs:=tX h.1 k.1 ((Dh h.2.1).trans k.2.1)
end Go.Proofs.YtglikkmmbdnmbaaGreat.Ev
namespace Go.Proofs.YtglikkmmbdnmbaaGreat.Im
open Go.RowKit Q7
open YtglikkmmbdnmbaaGreat.Own PCan Wv
set_option linter.unusedVariables false
set_option linter.unusedSimpArgs false
theorem pU {w:World}{r:Nat}{ad:Addr}{v:Value}(hr:Holds w r 46 z46)(hc:w.cell? ad=some v)(hv:v≠ .slice none 0 0):ad.block≠r:=fun e=>by
 unfold World.cell? at hc;rw[e,show w.heap[r]? =some (.cells z46.toArray 46 (0,0))from hr]at hc
 simp only at hc
 split at hc
 . cases hc
 . have h1:v∈z46:=by
    rw[List.getElem?_toArray]at hc;exact List.mem_of_getElem? hc
   unfold z46 at h1;simp at h1;exact hv h1
theorem rD (ad:Addr)(n:Nat):(ad.add n).block=ad.block:=by unfold Addr.add;split<;>rfl
theorem uC {α:Type}{d:Kd α}{w w':World}{A:Option Addr}{n r:Nat}{xs:List α}(h:Kd.C d w A n xs)(hs:bH w w' r)(hne:∀ ad,A=some ad->0<n->ad.block≠r)(hK:∀ p∈xs,∀ cs,d.K w p cs->d.K w' p cs):Kd.C d w' A n xs:=by
 obtain⟨h1,h2,h3⟩:=h;refine⟨h1,h2,fun h0=>?_⟩
 obtain⟨ad,ea,hk⟩:=h3 h0;refine⟨ad,ea,fun j p hj=>?_⟩
 obtain⟨cs,k1,k2,k3⟩:=hk j p hj;refine⟨cs,k1,hK p (List.mem_of_getElem? hj) cs k2,fun i u hi=>?_⟩
 rw[<-k3 i u hi];unfold World.cell?;rw[hs.block _ (by rw[rD];exact hne ad ea h0)]
theorem xM {k:IntKind}{w w':World}{A:Option Addr}{r:Nat}{x:Int}{xs:List Int}(h:Kd.C (Kd.int k) w A (x :: xs).length (x :: xs))(hs:bH w w' r)(hr:Holds w r 46 z46):Kd.C (Kd.int k) w' A (x :: xs).length (x :: xs):=by
 refine uC h hs (fun ad e _=>?_) (fun p _ cs hK=>hK)
 obtain⟨h1,h2,h3⟩:=h;obtain⟨ad',ea,hk⟩:=h3 (Nat.succ_pos _);obtain⟨cs,k1,k2,k3⟩:=hk 0 x rfl;obtain rfl:ad=ad':=Option.some.inj (e.symm.trans ea);obtain rfl:cs=[.int k x]:=k2;have hc:=k3 0 _ rfl;have:=pU hr hc (fun e=>by cases e)
 rwa [rD]at this
theorem tJ {k:IntKind}{w w':World}{A:Option Addr}{r:Nat}(h:Kd.C (Kd.int k) w A 0 [])(hs:bH w w' r):Kd.C (Kd.int k) w' A 0 []:=uC h hs (fun ad e h0=>absurd h0 (by decide)) (fun p _ cs hK=>hK)
def Sx:Sh:=⟨[⟨[1,0],[]⟩],[0],[⟨[],[7]⟩]⟩
theorem canonx:dV (shM G2)=Sx:=by kernel_rfl
theorem iD.away {w w':World}{v:Value}{r:Nat}(h:iD w v Sx)(hr:Holds w r 46 z46)(hs:bH w w' r):iD w' v Sx:=by
 obtain⟨A0,c0,A1,c1,A2,c2,e,l0,h0,l1,h1,l2,h2⟩:=h;refine⟨A0,c0,A1,c1,A2,c2,e,l0,?_,l1,xM h1 hs hr,l2,?_⟩
 . refine uC h0 hs (fun ad ea _=>?_) (fun p hp cs hK=>?_)
   . obtain⟨_,_,h3⟩:=h0;obtain⟨ad',ea',hk⟩:=h3 (by decide)
     obtain⟨cs,k1,k2,k3⟩:=hk 0 _ rfl;obtain rfl:ad=ad':=Option.some.inj (ea.symm.trans ea');obtain⟨B0,d0,B1,d1,rfl,_⟩:=sO k2;have hc:=k3 0 _ rfl;have:=pU hr hc (fun e=>by injection e with _ e _;cases e)
     rwa [rD]at this
   . obtain rfl:p=⟨[1,0],[]⟩:=List.mem_singleton.1 hp;obtain⟨B0,d0,B1,d1,rfl,m0,g0,m1,g1⟩:=sO hK;exact ut w' ⟨[1,0],[]⟩ m0 (xM g0 hs hr) m1 (tJ g1 hs)
 . refine uC h2 hs (fun ad ea _=>?_) (fun p hp cs hK=>?_)
   . obtain⟨_,_,h3⟩:=h2;obtain⟨ad',ea',hk⟩:=h3 (by decide)
     obtain⟨cs,k1,k2,k3⟩:=hk 0 _ rfl;obtain rfl:ad=ad':=Option.some.inj (ea.symm.trans ea');obtain⟨B0,d0,B1,d1,rfl,_⟩:=lL k2;have hc:=k3 1 _ rfl;have:=pU hr hc (fun e=>by injection e with _ e _;cases e)
     rwa [rD]at this
   . obtain rfl:p=⟨[],[7]⟩:=List.mem_singleton.1 hp;obtain⟨B0,d0,B1,d1,rfl,m0,g0,m1,g1⟩:=lL hK;exact tF w' ⟨[],[7]⟩ m0 (tJ g0 hs) m1 (xM g1 hs hr)
theorem new_bad (w:World):Calls Tryz.prog 6 #[.int .i64 0,.int .i64 0,.int .i64 0] w fun e w'=>e=.returned (.tuple #[.pointer none,.int .i64 2])/\w'=w:=by
 go_enter Tryz.func6,Tryz.ntmps6;go_wp2_with fail
 go_ret2
 exact⟨rfl,rfl⟩
theorem size52:(Tryz.prog.info? 52).map (·.size)=some 5:=by kernel_rfl
theorem info46:(Tryz.prog.info? 46).map (·.zero)=some (some (.agg #[.slice none 0 0,.slice none 0 0,.slice none 0 0])):=by kernel_rfl
theorem run_bad (w:World)(A:Option Addr)(n c:Nat):Calls Tryz.prog 15 #[.agg #[.int .i64 0,.int .i64 0,.int .i64 0,.int .i64 0,.int .i64 0],.slice A n c] w fun e w'=>e=.returned (.tuple #[.agg #[.slice none 0 0,.slice none 0 0,.slice none 0 0],.int .i64 0,.int .i64 2])/\Below w.heap.size w w':=by
 have hu46:=Tryz.underlying46;obtain⟨W1,hW1⟩:∃ W1,W1=(w.alloc (.cells #[.int .i64 0,.int .i64 0,.int .i64 0,.int .i64 0,.int .i64 0] 52)).alloc (.cells #[.slice none 0 0,.slice none 0 0,.slice none 0 0] 46):=⟨_,rfl⟩;have hb1:Below w.heap.size w W1:=by rw[hW1];exact ae (ae zc _) _
 have hp:Holds W1 w.heap.size 52 [.int .i64 0,.int .i64 0,.int .i64 0,.int .i64 0,.int .i64 0]:=by rw[hW1];exact Holds.below (aK _ _) (ae zc _)
 have hr:Holds W1 (w.heap.size+1) 46 z46:=by
  have h:=aK (w.alloc (.cells #[.int .i64 0,.int .i64 0,.int .i64 0,.int .i64 0,.int .i64 0] 52)) (.cells #[.slice none 0 0,.slice none 0 0,.slice none 0 0] 46);rw[World.size_alloc]at h;rw[hW1];exact h
 have HB1:=Y hb1;have HR:=Y hr;have y0:W1.cell? ⟨w.heap.size,0,none⟩=some (.int .i64 0):=(hp.cell 0).trans rfl;have y3:W1.cell? ⟨w.heap.size,3,none⟩=some (.int .i64 0):=(hp.cell 3).trans rfl;have y2:W1.cell? ⟨w.heap.size,2,none⟩=some (.int .i64 0):=(hp.cell 2).trans rfl;clear hb1 hp hr;go_enter Tryz.func15,Tryz.ntmps15;go_wp2_with fail;rw[<-hW1];clear hW1;obtain⟨pb,hpb⟩:∃ pb,pb=w.heap.size:=⟨_,rfl⟩;obtain⟨rb,hrb⟩:∃ rb,rb=w.heap.size+1:=⟨_,rfl⟩;rw[<-hrb]at HR ⊢;rw[<-hpb]at y0 y2 y3 hrb ⊢;have HN:=Y (And.intro hpb hrb);clear hpb hrb;refine wp_scope_straight ?_
 go_wp2_with (first
  |(go_at_call 6;refine(new_bad _).mono ?_;rintro e w2 ⟨rfl,rfl⟩)
  |((with_reducible refine bg (t:=46) (p:=4) rfl ?_);refine aG rfl (ty:=46) rfl rfl (g:=rb) (off:=0) (vs:=#[.slice none 0 0,.slice none 0 0,.slice none 0 0]) rfl rfl HR.out (by show 3<=3;decide) eU (by simp[Value.oneCell']) ?_;intro w9 hh9 hs9;have HH9:=Y hh9;have HS9:=Y hs9;clear hh9 hs9))
 refine bodyPost_ret (si rfl _ _ rb 46 #[.slice none 0 0,.slice none 0 0,.slice none 0 0] (0,0) _ rfl HH9.out Tryz.underlying46 rfl eU) rfl ?_;exact⟨rfl,HS9.out.below HB1.out (by have:=HN.out;omega)⟩
def e1:aQ:=⟨0,⟨1,0,0,1⟩,⟨0,40,0⟩,0,1,0⟩
def e2:aQ:=⟨0,⟨5,0,0,7⟩,⟨0,0,0⟩,0,2,0⟩
def e3:aQ:=⟨0,⟨4,0,0,0⟩,⟨0,0,8⟩,0,3,0⟩
theorem pts_w:[e1,e2,e3].filter Ev.nM=[e1,e2,e3]:=by kernel_rfl
theorem stab_w {ys:List aQ}(h:Ev.Stab ([e1,e2,e3].filter Ev.nM) ys):ys=[e1,e2,e3]:=by
 rw[pts_w]at h;refine Ev.yK h ⟨?_,Ev.Same.refl _,rfl⟩;unfold Ev.Srt;simp only[List.pairwise_cons,List.mem_cons,List.not_mem_nil,or_false,forall_eq_or_imp,forall_eq];exact⟨⟨by decide,by decide⟩,by decide,(fun _ h=>h.elim),List.Pairwise.nil⟩
structure P0 (w0:World)(P g ex:Nat)(es:List Value)(w:World):Prop where
 gl:∃ F x,GL F w g x G0/\¬ F P/\¬ F ex/\∀ q,F q->w0.heap.size<=q
 hp:Holds w P 108 [.pointer (some ⟨g,0,none⟩),.slice none 0 0]
 he:Holds w ex 104 es
 lo:w0.heap.size<=P/\ex≠P
 below:Below w0.heap.size w0 w
theorem P0.next {w0 w w':World}{P g ex:Nat}{es:List Value}(h:P0 w0 P g ex es w)(hb:Below w.heap.size w w'):P0 w0 P g ex es w':=by
 obtain⟨F,x,h1,h2⟩:=h.gl;exact⟨⟨F,x,h1.below hb,h2⟩,h.hp.below hb,h.he.below hb,h.lo,ag h.below h.below.size hb⟩
theorem P0.agrees {w0 w:World}{P g ex:Nat}{es:List Value}(h:P0 w0 P g ex es w):Calls Tryz.prog 52 #[.pointer (some ⟨P,0,none⟩),Ev.ev e1] w fun e w'=>e=.returned (.bool true)/\∃ bp c cs,PS w0 P g bp c ex G1 cs es w':=by
 obtain⟨F,x,h1,h2,h3,h4⟩:=h.gl;exact agrees1 h1 h.hp h2 h4 h.lo.1 h.below h.he h3 h.lo.2
theorem wG {w:World}{A:Option Addr}{c:Nat}(hC:Kd.C fE w A 3 [e1,e2,e3])(hc:3<=c):Calls Tryz.prog 50 #[.slice A 3 c] w fun e w'=>∃ A' c',e=.returned (.slice A' 3 c')/\∃ rg,A'=some ⟨rg,0,none⟩/\w.heap.size<=rg/\∃ rest,Holds w' rg 104 (Ev.rc [e1,e2,e3]++rest)/\Below w.heap.size w w':=by
 refine(Ev.xS [e1,e2,e3] A c w hC hc (by decide)).mono ?_
 rintro e w' ⟨ys,hst,A',c',he,hc',hC',hb,hr⟩;obtain rfl:=stab_w hst;obtain⟨rg,hA,hrg,rest,hrow⟩:=hr (by decide)
 exact⟨A',c',he,rg,hA,hrg,rest,hrow,hb⟩
theorem EG (w:World)(A:Option Addr)(c:Nat)(hC:Kd.C fE w A 3 [e1,e2,e3])(hc:3<=c):
 Calls Tryz.prog 15 #[.agg #[.int .i64 1,.int .i64 0,.int .i64 1,.int .i64 2,.int .i64 0],.slice A 3 c] w fun e w'=>∃ v,e=.returned (.tuple #[v,.int .i64 2,.int .i64 0])/\iD w' v Sx/\Below w.heap.size w w':=by
 have hu46:=Tryz.underlying46;have hu108:=Tryz.underlying108;obtain⟨W1,hW1⟩:∃ W1,W1=(w.alloc (.cells #[.int .i64 1,.int .i64 0,.int .i64 1,.int .i64 2,.int .i64 0] 52)).alloc (.cells #[.slice none 0 0,.slice none 0 0,.slice none 0 0] 46):=⟨_,rfl⟩;have hb1:Below w.heap.size w W1:=by rw[hW1];exact ae (ae zc _) _
 have hp:Holds W1 w.heap.size 52 [.int .i64 1,.int .i64 0,.int .i64 1,.int .i64 2,.int .i64 0]:=by rw[hW1];exact Holds.below (aK _ _) (ae zc _)
 have hr:Holds W1 (w.heap.size+1) 46 z46:=by
  have h:=aK (w.alloc (.cells #[.int .i64 1,.int .i64 0,.int .i64 1,.int .i64 2,.int .i64 0] 52)) (.cells #[.slice none 0 0,.slice none 0 0,.slice none 0 0] 46);rw[World.size_alloc]at h;rw[hW1];exact h
 have HB1:=Y hb1;have HR:=Y hr;have y0:W1.cell? ⟨w.heap.size,0,none⟩=some (.int .i64 1):=(hp.cell 0).trans rfl;have y3:W1.cell? ⟨w.heap.size,3,none⟩=some (.int .i64 2):=(hp.cell 3).trans rfl;have y2:W1.cell? ⟨w.heap.size,2,none⟩=some (.int .i64 1):=(hp.cell 2).trans rfl;have HC:=Y (And.intro hC hc);clear hb1 hp hr hC hc;go_enter Tryz.func15,Tryz.ntmps15;go_wp2_with fail;rw[<-hW1];clear hW1;obtain⟨pb,hpb⟩:∃ pb,pb=w.heap.size:=⟨_,rfl⟩;obtain⟨rb,hrb⟩:∃ rb,rb=w.heap.size+1:=⟨_,rfl⟩;rw[<-hrb]at HR ⊢;rw[<-hpb]at y0 y2 y3 hrb ⊢;have HN:=Y (And.intro hpb hrb);clear hpb hrb;refine wp_scope_straight ?_;go_upto_region 2 with(go_at_call 6;refine(wC 1 2 1 _ (by decide) (by decide) (by decide) (by decide) (by decide)).mono ?_;rintro e w2 ⟨g,F,x,rfl,hg,hb2,hlo⟩;have HG:=Y hg;have HB2:=Y hb2;have HLO:=Y hlo;clear hg hb2 hlo)
 clear y0 y2 y3;go_upto_region 5 with fail
 obtain⟨w3,hw3⟩:∃ w3,w3=w2.alloc (.cells #[.pointer (some ⟨g,0,none⟩),.slice none 0 0] 108):=⟨_,rfl⟩;obtain⟨P,hP⟩:∃ P,P=w2.heap.size:=⟨_,rfl⟩;have hb3:Below w2.heap.size w2 w3:=by rw[hw3];exact ae zc _
 have hp3:Holds w3 P 108 [.pointer (some ⟨g,0,none⟩),.slice none 0 0]:=by rw[hw3,hP];exact aK _ _
 rw[<-hw3,<-hP];have HP3:=Y hp3;have HB3:=Y hb3;have HPN:=Y hP;have HPC:=Y (wG (w:=w3) (Kd.aU HC.out.1 (ag (ag HB1.out HB1.out.size HB2.out) (Nat.le_trans HB1.out.size HB2.out.size) hb3)) HC.out.2);clear hw3 hP hb3 hp3;go_wp2_with fail;refine wp_label ?_
 go_upto_block 0 with(go_at_call 50;refine HPC.out.mono ?_;rintro e w4 ⟨A4,c4,rfl,rg,rfl,hrg,rest,hrow,hb4⟩;have HRW:=Y hrow;have HB4:=Y hb4;have HRG:=Y hrg;clear hrow hb4 hrg)
 have HST0:aa (P0 W1 P g rg (Ev.rc [e1,e2,e3]++rest) w4):=⟨by
  have k3:=HP3.out.lt;have k2:=HB3.out.size;refine⟨⟨F,x,(HG.out.below HB3.out).below HB4.out,fun e=>?_,fun e=>?_,HLO.out⟩,HP3.out.below HB4.out,HRW.out,⟨by rw[HPN.out];exact HB2.out.size,fun e=>?_⟩,ag (ag HB2.out HB2.out.size HB3.out) (Nat.le_trans HB2.out.size k2) HB4.out⟩
  . have:=HG.out.lt _ e;have:=HPN.out;omega
  . have:=HG.out.lt _ e;have:=HRG.out;omega
  . have:=HRG.out
    omega⟩
 clear HP3 HB3 HPN HPC HRW HB4 HRG HLO HG;go_wp2_with fail
 go_loopg [10,32] 3 (fun kq v10 v32 w'=>∃ i:Nat,v10=.int .i64 (i:Int)/\v32=.int .i64 (i:Int)/\i+kq=3/\((i=0/\aa (P0 W1 P g rg (Ev.rc [e1,e2,e3]++rest) w'))\/(i=1/\∃ bp cp cs,aa (PS W1 P g bp cp rg G1 cs (Ev.rc [e1,e2,e3]++rest) w'))\/(i=2/\∃ bp cp cs,aa (PS W1 P g bp cp rg G2 cs (Ev.rc [e1,e2,e3]++rest) w'))))
 case atStart=>exact⟨0,rfl,rfl,rfl,.inl ⟨rfl,HST0⟩⟩
 case round=>
  clear HST0;obtain⟨i,rfl,rfl,hi,⟨rfl,HST⟩|⟨rfl,bp,cp,cs,HST⟩|⟨rfl,bp,cp,cs,HST⟩⟩:=hrel
  . obtain rfl:gk=3:=by omega
    clear hi
    go_wp2_with (first
     |((with_reducible refine aW (N:=35) rfl ?_);refine Ev.nL (i:=0) (d:=e1) ⟨rest,HST.out.he⟩ rfl rfl rfl rfl ?_)
     |((with_reducible refine aW (N:=12) rfl ?_);refine gI rfl rfl Ev.qA ?_;intro db hdb w5 hh5 hb5;have HDB:=Y hdb;have HH5:=Y hh5;have HB5:=Y hb5;clear hdb hh5 hb5)
     |((with_reducible refine bg (t:=104) (p:=12) rfl ?_);refine aG rfl (ty:=104) rfl rfl (g:=db) (off:=0) (vs:=(Ev.ec e1).toArray) rfl rfl HH5.out (by show 11<=11;decide) Ev.fM (Ev.oq e1) ?_;intro w6 hh6 hs6;have HH6:=Y (show Holds w6 db 104 (Ev.ec e1)from hh6);have HST6:=Y (HST.out.next (hs6.below HB5.out (by rw[HDB.out];exact Nat.le_refl _)));clear hh6 hs6)
     |((with_reducible refine aW (N:=39) rfl ?_);refine bE rfl (ty:=104) rfl (g:=db) (off:=0) (seg:=Ev.ec e1) rfl HH6.out rfl Tryz.underlying104 rfl Ev.fM ?_)
     |((with_reducible refine aW (N:=44) rfl ?_);refine bE rfl (ty:=104) rfl (g:=db) (off:=0) (seg:=Ev.ec e1) rfl (HH6.out.below HB7.out) rfl Tryz.underlying104 rfl Ev.fM ?_)
     |(go_at_call 51;refine(op51 e1 (by decide) (by decide) (by decide) (by decide) _).mono ?_;rintro e w7 ⟨rfl,hb7⟩;have HB7:=Y hb7;clear hb7)
     |(go_at_call 52;refine(P0.agrees (HST6.out.next HB7.out)).mono ?_;rintro e w8 ⟨rfl,bp,cp,cs,hps⟩;have HST8:=Y hps;clear hps))
    go_roundg 2
    case measure=>omega
    case rel=>exact⟨1,rfl,rfl,rfl,.inr (.inl ⟨rfl,bp,cp,cs,HST8⟩)⟩
  . obtain rfl:gk=2:=by omega
    clear hi
    go_wp2_with (first
     |((with_reducible refine aW (N:=35) rfl ?_);refine Ev.nL (i:=1) (d:=e2) ⟨rest,HST.out.he⟩ rfl rfl rfl rfl ?_)
     |((with_reducible refine aW (N:=12) rfl ?_);refine gI rfl rfl Ev.qA ?_;intro db hdb w5 hh5 hb5;have HDB:=Y hdb;have HH5:=Y hh5;have HB5:=Y hb5;clear hdb hh5 hb5)
     |((with_reducible refine bg (t:=104) (p:=12) rfl ?_);refine aG rfl (ty:=104) rfl rfl (g:=db) (off:=0) (vs:=(Ev.ec e2).toArray) rfl rfl HH5.out (by show 11<=11;decide) Ev.fM (Ev.oq e2) ?_;intro w6 hh6 hs6;have HH6:=Y (show Holds w6 db 104 (Ev.ec e2)from hh6);have HST6:=Y (HST.out.next (hs6.below HB5.out (by rw[HDB.out];exact Nat.le_refl _)));clear hh6 hs6)
     |((with_reducible refine aW (N:=39) rfl ?_);refine bE rfl (ty:=104) rfl (g:=db) (off:=0) (seg:=Ev.ec e2) rfl HH6.out rfl Tryz.underlying104 rfl Ev.fM ?_)
     |((with_reducible refine aW (N:=44) rfl ?_);refine bE rfl (ty:=104) rfl (g:=db) (off:=0) (seg:=Ev.ec e2) rfl (HH6.out.below HB7.out) rfl Tryz.underlying104 rfl Ev.fM ?_)
     |(go_at_call 51;refine(op51 e2 (by decide) (by decide) (by decide) (by decide) _).mono ?_;rintro e w7 ⟨rfl,hb7⟩;have HB7:=Y hb7;clear hb7)
     |(go_at_call 52;refine(agrees2 (HST6.out.next HB7.out)).mono ?_;rintro e w8 ⟨rfl,hps⟩;have HST8:=Y hps;clear hps))
    go_roundg 1
    case measure=>omega
    case rel=>exact⟨2,rfl,rfl,rfl,.inr (.inr ⟨rfl,bp,cp,cs,HST8⟩)⟩
  . obtain rfl:gk=1:=by omega
    clear hi
    go_wp2_with (first
     |((with_reducible refine aW (N:=35) rfl ?_);refine Ev.nL (i:=2) (d:=e3) ⟨rest,HST.out.he⟩ rfl rfl rfl rfl ?_)
     |((with_reducible refine aW (N:=12) rfl ?_);refine gI rfl rfl Ev.qA ?_;intro db hdb w5 hh5 hb5;have HDB:=Y hdb;have HH5:=Y hh5;have HB5:=Y hb5;clear hdb hh5 hb5)
     |((with_reducible refine bg (t:=104) (p:=12) rfl ?_);refine aG rfl (ty:=104) rfl rfl (g:=db) (off:=0) (vs:=(Ev.ec e3).toArray) rfl rfl HH5.out (by show 11<=11;decide) Ev.fM (Ev.oq e3) ?_;intro w6 hh6 hs6;have HH6:=Y (show Holds w6 db 104 (Ev.ec e3)from hh6);have HST6:=Y (HST.out.next (hs6.below HB5.out (by rw[HDB.out];exact Nat.le_refl _)));clear hh6 hs6)
     |((with_reducible refine aW (N:=39) rfl ?_);refine bE rfl (ty:=104) rfl (g:=db) (off:=0) (seg:=Ev.ec e3) rfl HH6.out rfl Tryz.underlying104 rfl Ev.fM ?_)
     |((with_reducible refine aW (N:=44) rfl ?_);refine bE rfl (ty:=104) rfl (g:=db) (off:=0) (seg:=Ev.ec e3) rfl (HH6.out.below HB7.out) rfl Tryz.underlying104 rfl Ev.fM ?_)
     |(go_at_call 51;refine(op51 e3 (by decide) (by decide) (by decide) (by decide) _).mono ?_;rintro e w7 ⟨rfl,hb7⟩;have HB7:=Y hb7;clear hb7)
     |(go_at_call 52;refine(agrees3 (HST6.out.next HB7.out)).mono ?_;rintro e w8 ⟨rfl,g',x',vG,vs,vP,hp8,hgw8,hb8⟩;have HGW:=Y hgw8;have HB8:=Y hb8;have zp:w8.cell? ⟨P,0,none⟩=some (.pointer (some ⟨g',0,none⟩)):=(hp8.cell 0).trans rfl;clear hp8 hgw8 hb8)
     |(go_at_call 11;refine(wgraph HGW.out).mono ?_;rintro e w9 ⟨v,rfl,hish,hb9⟩;rw[canonx]at hish;have HIS:=Y hish;have HR9:=Y (HR.out.below (ag HB8.out HB8.out.size hb9));have HB9:=Y hb9;obtain⟨A0,c0,A1,c1,A2,c2,ev,_⟩:=hish;subst ev;clear hb9)
     |((with_reducible refine bg (t:=46) (p:=4) rfl ?_);refine aG rfl (ty:=46) rfl rfl (g:=rb) (off:=0) (vs:=#[.slice A0 1 c0,.slice A1 1 c1,.slice A2 1 c2]) rfl rfl HR9.out (by show 3<=3;decide) eU (by simp[Value.oneCell']) ?_;intro wA hhA hsA;have HHA:=Y hhA;have HSA:=Y hsA;clear hhA hsA))
    refine bodyPost_ret (si rfl _ _ rb 46 #[.slice A0 1 c0,.slice A1 1 c1,.slice A2 1 c2] (0,0) _ rfl HHA.out Tryz.underlying46 rfl eU) rfl ?_;exact⟨_,rfl,HIS.out.away HR9.out HSA.out,HSA.out.below (ag (ag HB1.out HB1.out.size (HB8.out.trans (HB9.out.mono HB8.out.size))) (Nat.le_trans HB1.out.size (Nat.le_trans HB8.out.size HB9.out.size)) zc) (by have:=HN.out;omega)⟩
end Go.Proofs.YtglikkmmbdnmbaaGreat.Im
end
namespace Go.Proofs.YtglikkmmbdnmbaaGreat.Im
open Go.RowKit Q7
open YtglikkmmbdnmbaaGreat.Own PCan Wv
set_option linter.unusedVariables false
set_option linter.unusedSimpArgs false
section
theorem EI (hw:wN)(t s n:Int)(A:Option Addr)(m c:Nat)(w:World)(h:100<m):
 Calls Tryz.prog 3 #[.int .i64 t,.int .i64 s,.int .i64 n,.slice A m c] w fun e w'=>e=.returned (.bool true)/\Below w.heap.size w w':=by
 have q1:decide ((m:Int)>100)=true:=yb (by omega)
 have q2:decide ((100:Int)<(m:Int))=true:=yb (by omega)
 have q3:decide (100<m)=true:=yb h;have HW:=Y hw;clear h hw;go_enter Tryz.func3,Tryz.ntmps3;go_wp2_with (go_at_call 5;refine(HW.out _).mono ?_;rintro e w2 ⟨rfl,hb2⟩;have HB2:=Y hb2;clear hb2)
 go_ret
 exact⟨rfl,HB2.out⟩
theorem law_not (hw:wN)(t s n:Int)(A:Option Addr)(m c:Nat)(w:World)(h:m<=100)(hn:¬ (1<=t/\t<=64/\1<=s/\s<=8/\0<=n/\n<=8)):
 Calls Tryz.prog 3 #[.int .i64 t,.int .i64 s,.int .i64 n,.slice A m c] w fun e w'=>e=.returned (.bool true)/\Below w.heap.size w w':=by
 have q1:decide ((m:Int)>100)=false:=yd (by omega)
 have q2:decide ((100:Int)<(m:Int))=false:=yd (by omega)
 have q3:decide (100<m)=false:=yd (by omega)
 have HW:=Y hw;have HM:=Y (Cu t s n w);rw[yd hn]at HM;clear h hw hn;go_enter Tryz.func3,Tryz.ntmps3
 go_wp2_with (first
  |(go_at_call 4;refine HM.out.mono ?_;rintro e w1 ⟨rfl,hd1⟩;have hb1:=oL hd1;have HB1:=Y hb1;clear hb1 hd1)
  |(go_at_call 5;refine(HW.out _).mono ?_;rintro e w2 ⟨rfl,hb2⟩;have HB2:=Y hb2;clear hb2))
 go_ret
 exact⟨rfl,ag HB1.out HB1.out.size HB2.out⟩
theorem law_may (hw:wN)(t s n:Nat)(l:List A35)(A:Option Addr)(c:Nat)(w:World)(hC:Kd.C k35 w A l.length l)(hc:l.length<=c)(hwf:∀ x∈l,(Lit.int .u64 x.v).wf=true)
 (h:l.length<=100) (hn:1<=t/\t<=64/\1<=s/\s<=8/\n<=8):
 Calls Tryz.prog 3 #[.int .i64 (t:Int),.int .i64 (s:Int),.int .i64 (n:Int),.slice A l.length c] w fun e w'=>e=.returned (.bool true)/\Below w.heap.size w w':=by
 have q1:decide ((l.length:Int)>100)=false:=yd (by omega)
 have q2:decide ((100:Int)<(l.length:Int))=false:=yd (by omega)
 have q3:decide (100<l.length)=false:=yd (by omega)
 have HW:=Y hw;have HL:=Y h;have HN:=Y hn;have HWF:=Y hwf;have HC:=Y hC;have HM:=Y (may6 (t:Int) (s:Int) (n:Int) w (by omega) (by omega) (by omega) (by omega) (by omega) (by omega))
 clear h hw hn hwf hC hc;go_enter Tryz.func3,Tryz.ntmps3
 go_upto_region 7 with(first
  |(go_at_call 4;refine HM.out.mono ?_;rintro e w1 ⟨rfl,hd1⟩;have hb1:=oL hd1;have HB1:=Y hb1;clear hb1 hd1)
  |(go_at_call 6;refine(wC t s n _ HN.out.1 HN.out.2.1 HN.out.2.2.1 HN.out.2.2.2.1 HN.out.2.2.2.2).mono ?_;rintro e w2 ⟨g,F1,x1,rfl,hg1,hb2,hf1⟩;have HG1:=Y (And.intro hg1 (And.intro hb2 hf1));clear hg1 hb2 hf1)
  |(go_at_call 7;refine(Er t s n _ HN.out.1 HN.out.2.1 HN.out.2.2.1 HN.out.2.2.2.1 HN.out.2.2.2.2).mono ?_;rintro e w3 ⟨k,F2,x2,rfl,hg2,hb3,hf2⟩;have HG2:=Y (And.intro hg2 (And.intro hb3 hf2));clear hg2 hb3 hf2))
 have HA0:=Y (show LA w g k 0 (kQ t s n) (kQ t s n) w3 from LA.start ⟨F1,x1,HG1.out.1,ag HB1.out HB1.out.size HG1.out.2.1,fun q hq=>Nat.le_trans HB1.out.size (HG1.out.2.2 q hq)⟩ ⟨F2,x2,HG2.out⟩ (Nat.zero_le _))
 clear HG1 HG2 HB1;go_wp2_with fail
 go_loopg [12] l.length (fun kq v12 w'=>∃(i:Nat) (M:Gm),v12=.int .i64 (i:Int)/\aa (i+kq=l.length)/\aa (LA w g k i M M w'))
 case atStart=>exact⟨0,_,rfl,⟨by omega⟩,HA0⟩
 case round=>
  clear HA0;obtain⟨i,M,rfl,HI,HA⟩:=hrel;obtain⟨W0,rfl⟩:∃ W0,W0=wr:=⟨wr,rfl⟩;cases gk with
  |zero=>
   have r1:decide ((i:Int)<(l.length:Int))=false:=yd (by have:=HI.out;omega)
   have r2:decide (i<l.length)=false:=yd (by have:=HI.out;omega)
   obtain⟨⟨G1,y1,hG1⟩,⟨G2,y2,hG2⟩,hWf,hBw⟩:=LA.shapes HA.out;have HS1:=Y (yN hG1);have HS2:=Y hG2;have HWf:=Y hWf;have HBw:=Y hBw;have HCM:=Y (Ci _ (rC hWf));clear hG1 hG2 hWf hBw HA
   go_wp2_with (first
    |(go_at_call 11;refine HS1.out.mono ?_;rintro e w1 ⟨v1,rfl,hs1,hb1⟩;have H1:=Y hs1;have HB1:=Y hb1;clear hs1 hb1)
    |(go_at_call 10;refine(Ao _ HCM.out _ _ H1.out).mono ?_;rintro e w2 ⟨v2,rfl,hs2,hb2⟩;have H2:=Y hs2;have HB2:=Y hb2;clear hs2 hb2)
    |(go_at_call 13;refine(of_says ((HS2.out.below HB1.out).below HB2.out) (EJ HWf.out)).mono ?_;rintro e w3 ⟨v3,rfl,hs3,hb3⟩;have H3:=Y hs3;have HB3:=Y hb3;clear hs3 hb3)
    |(go_at_call 12;refine(same_of HCM.out (H2.out.below HB3.out) H3.out).mono ?_;rintro e w4 ⟨rfl,hb4⟩;have HB4:=Y hb4;clear hb4)
    |(go_at_call 5;refine(HW.out _).mono ?_;rintro e w5 ⟨rfl,hb5⟩;have HB5:=Y hb5;clear hb5))
   go_ret
   exact⟨rfl,ag (ag (ag (ag (ag HBw.out HBw.out.size HB1.out) (Nat.le_trans HBw.out.size HB1.out.size) HB2.out) (Nat.le_trans HBw.out.size (Nat.le_trans HB1.out.size HB2.out.size)) HB3.out) (Nat.le_trans HBw.out.size (Nat.le_trans HB1.out.size (Nat.le_trans HB2.out.size HB3.out.size))) HB4.out) (Nat.le_trans HBw.out.size (Nat.le_trans HB1.out.size (Nat.le_trans HB2.out.size (Nat.le_trans HB3.out.size HB4.out.size)))) HB5.out⟩
  |succ kN=>
   have HIL:=Y (show i<l.length by have:=HI.out;omega)
   have r1:decide ((i:Int)<(l.length:Int))=true:=yb (by have:=HI.out;omega)
   have r2:decide (i<l.length)=true:=yb (by have:=HI.out;omega)
   obtain⟨p,eA⟩:∃ p,A=some p:=by
    obtain⟨ad,c,e,_⟩:=Kd.j5 HC.out z35 (i:Int) (by omega) (by have:=HI.out;omega)
    exact⟨ad,e⟩
   have HP:=Y eA;clear eA;obtain⟨d,hd⟩:∃ d,l[i]? =some d:=⟨_,List.getElem?_eq_getElem HIL.out⟩;have HD:=Y hd;have hw1:IntKind.i64.wrap ((i:Int)+1)=(i:Int)+1:=i64_in (by have:=HI.out;have:=HL.out;omega)
   have HV:=Y (HWF.out d (List.mem_iff_getElem?.2 ⟨i,hd⟩));clear hd
   go_upto_region 11 with(first
    |((with_reducible refine aW (N:=50) rfl ?_);refine Kd.fA rfl (tH rfl HP.out rfl rfl HIL.out) ?_)
    |((with_reducible refine aW (N:=51) rfl ?_);refine Kd.fA rfl (sJ rfl HP.out rfl (Kd.aU HC.out (LA.shapes HA.out).2.2.2) HD.out) ?_)
    |(go_at_call 8;refine(HA.out.does (by have:=HI.out;have:=HL.out;omega) d HV.out).mono ?_;rintro e w1 ⟨⟨r,rfl⟩,ha1⟩;have HA1:=Y ha1;clear ha1))
   clear HA
   go_wp2_with (first
    |((with_reducible refine aW (N:=56) rfl ?_);refine Kd.fA rfl (tH rfl HP.out rfl rfl HIL.out) ?_)
    |((with_reducible refine aW (N:=57) rfl ?_);refine Kd.fA rfl (sJ rfl HP.out rfl (Kd.aU HC.out (by obtain⟨_,_,_,_,_,_,_,_,_,_,_,hb⟩:=HA1.out;exact hb)) HD.out) ?_)
    |(go_at_call 9;refine(HA1.out.says (by have:=HI.out;have:=HL.out;omega) HV.out).mono ?_;rintro e w2 ⟨⟨r2,rfl⟩,ha2⟩;have HA2:=Y ha2;clear ha2))
   go_roundg kN
   case measure=>have:=HI.out;omega
   case rel=>exact⟨i+1,_,rfl,⟨by have:=HI.out;omega⟩,HA2⟩
theorem Db (hw:wN)(t s n:Int)(l:List A35)(A:Option Addr)(c:Nat)(w:World)(hC:Kd.C k35 w A l.length l)(hc:l.length<=c)(hwf:∀ x∈l,(Lit.int .u64 x.v).wf=true):
 Calls Tryz.prog 3 #[.int .i64 t,.int .i64 s,.int .i64 n,.slice A l.length c] w fun e w'=>e=.returned (.bool true)/\Below w.heap.size w w':=by
 rcases Nat.lt_or_ge 100 l.length with h|h
 . exact EI hw t s n A l.length c w h
 by_cases hn:1<=t/\t<=64/\1<=s/\s<=8/\0<=n/\n<=8
 . obtain⟨t',rfl⟩:∃ t':Nat,t=(t':Int):=⟨t.toNat,by omega⟩
   obtain⟨s',rfl⟩:∃ s':Nat,s=(s':Int):=⟨s.toNat,by omega⟩
   obtain⟨n',rfl⟩:∃ n':Nat,n=(n':Int):=⟨n.toNat,by omega⟩
   exact law_may hw t' s' n' l A c w hC hc hwf h (by omega)
 . exact law_not hw t s n A l.length c w h hn
end
section
theorem mW {α:Type}{d:Kd α}{w:World}{b t:Nat}{cs:List Value}{xs:List α}(hh:Holds w b t cs)(hl:xs.length<=9223372036854775807)(henc:∀(j:Nat)(p:α),xs[j]? =some p->((cs.drop (j*d.sz)).take d.sz).length=d.sz/\d.K w p ((cs.drop (j*d.sz)).take d.sz)):Kd.C d w (some ⟨b,0,none⟩) xs.length xs:=by
 refine⟨rfl,hl,fun _=>⟨_,rfl,fun j p hj=>?_⟩⟩
 obtain⟨h1,h2⟩:=henc j p hj;refine⟨_,h1,h2,fun i u hi=>?_⟩
 have hlt:i<d.sz:=by
  have:=(List.getElem?_eq_some_iff.1 hi).1;omega
 rw[List.getElem?_take_of_lt hlt,List.getElem?_drop]at hi
 have he:(⟨b,0,none⟩:Addr).add (j*d.sz+i)=⟨b,j*d.sz+i,none⟩:=by
  unfold Addr.add
  split
  . rename_i h0
    rw[h0]
  . simp
 rw[he,hh.cell];exact hi
def c52:List Value:=[.int .i64 1,.int .i64 0,.int .i64 1,.int .i64 2,.int .i64 0]
def c56:List Value:=[.int .u8 0,.int .u8 1,.int .u8 0,.int .u8 0,.int .u8 1,.int .i64 0,.int .i64 40,.int .u64 0,.int .i64 0,.int .i64 1,.int .i64 0,.int .u8 0,.int .u8 5,.int .u8 0,.int .u8 0,.int .u8 7,.int .i64 0,.int .i64 0,.int .u64 0,.int .i64 0,.int .i64 2,.int .i64 0,.int .u8 0,.int .u8 4,.int .u8 0,.int .u8 0,.int .u8 0,.int .i64 0,.int .i64 0,.int .u64 8,.int .i64 0,.int .i64 3,.int .i64 0]
theorem EO (w:World):Calls Tryz.prog 14 #[.slice (some ⟨w.heap.size+1,0,none⟩) 3 3] ((w.alloc (.cells c52.toArray 52)).alloc (.cells c56.toArray 56)) fun e w'=>∃ A c,e=.returned (.slice A 3 c)/\3<=c/\Kd.C fE w' A 3 [e1,e2,e3]/\Holds w' w.heap.size 52 c52/\Below w.heap.size w w':=by
 obtain⟨W,hW⟩:∃ W,W=(w.alloc (.cells c52.toArray 52)).alloc (.cells c56.toArray 56):=⟨_,rfl⟩;have hb:Below w.heap.size w W:=by rw[hW];exact ae (ae zc _) _
 have hp:Holds W w.heap.size 52 c52:=by rw[hW];exact Holds.below (aK _ _) (ae zc _)
 have hr:Holds W (w.heap.size+1) 56 c56:=by
  have h:=aK (w.alloc (.cells c52.toArray 52)) (.cells c56.toArray 56);rw[World.size_alloc]at h;rw[hW];exact h
 rw[<-hW];refine(of14 (b:=w.heap.size+1) (show Holds W (w.heap.size+1) 56 (oD r1++oD r2++oD r3)from hr)).mono ?_
 rintro e w' ⟨v,rfl,hr',hb'⟩;obtain⟨A,c,rfl⟩:=Kd.aD hr';have h:=Kd.bI hr';exact⟨A,c,rfl,h.2.1,h.2.2,hp.below hb',ag hb hb.size hb'⟩
theorem small_x:Small Sx:=⟨by decide,by decide,by decide,fun t ht=>by
 obtain rfl:t=⟨[1,0],[]⟩:=List.mem_singleton.1 ht;exact⟨by decide,by decide⟩,fun t ht=>by
 obtain rfl:t=⟨[],[7]⟩:=List.mem_singleton.1 ht
 exact⟨by decide,by decide⟩⟩
theorem small_0:Small S0:=⟨by decide,by decide,by decide,fun t ht=>(by cases ht),fun t ht=>(by cases ht)⟩
abbrev wW (w:World):World:=((((((w.alloc (Obj.cells #[Value.int IntKind.i64 1,Value.int IntKind.i64 0] 3)).alloc (Obj.cells #[Value.slice (some { block:=w.heap.size,off:=0 }) 2 2,Value.slice none 0 0] 61)).alloc (Obj.cells #[Value.int IntKind.i64 0] 3)).alloc (Obj.cells #[Value.int IntKind.u64 7] 31)).alloc (Obj.cells #[Value.slice none 0 0,Value.slice (some { block:=w.heap.size+1+1+1,off:=0 }) 1 1] 64)).alloc (Obj.cells #[Value.slice (some { block:=w.heap.size+1,off:=0 }) 1 1,Value.slice (some { block:=w.heap.size+1+1,off:=0 }) 1 1,Value.slice (some { block:=w.heap.size+1+1+1+1,off:=0 }) 1 1] 46))
theorem De (w:World)(o:Obj)(n:Nat)(h:w.heap.size=n):(w.alloc o).heap[n]? =some o:=h▸aK w o
theorem EN (w:World):∃ W,W=wW w/\iD W (.agg #[.slice (some ⟨w.heap.size+1,0,none⟩) 1 1,.slice (some ⟨w.heap.size+1+1,0,none⟩) 1 1,.slice (some ⟨w.heap.size+1+1+1+1,0,none⟩) 1 1]) Sx/\Holds W (w.heap.size+1+1+1+1+1) 46 [.slice (some ⟨w.heap.size+1,0,none⟩) 1 1,.slice (some ⟨w.heap.size+1+1,0,none⟩) 1 1,.slice (some ⟨w.heap.size+1+1+1+1,0,none⟩) 1 1]/\Below w.heap.size w W:=by
 refine⟨_,rfl,?_,De _ _ _ (by simp),ae (ae (ae (ae (ae (ae zc _) _) _) _) _) _⟩
 have h0:Holds (wW w) w.heap.size 3 [.int .i64 1,.int .i64 0]:=aI (aI (aI (aI (aI (bN (by simp)) _) _) _) _) _
 have h1:Holds (wW w) (w.heap.size+1) 61 [.slice (some ⟨w.heap.size,0,none⟩) 2 2,.slice none 0 0]:=aI (aI (aI (aI (bN (by simp)) _) _) _) _
 have h2:Holds (wW w) (w.heap.size+1+1) 3 [.int .i64 0]:=aI (aI (aI (bN (by simp)) _) _) _
 have h3:Holds (wW w) (w.heap.size+1+1+1) 31 [.int .u64 7]:=aI (aI (bN (by simp)) _) _
 have h4:Holds (wW w) (w.heap.size+1+1+1+1) 64 [.slice none 0 0,.slice (some ⟨w.heap.size+1+1+1,0,none⟩) 1 1]:=aI (bN (by simp)) _
 have k0:Kd.C (Kd.int .i64) (wW w) (some ⟨w.heap.size,0,none⟩) 2 [1,0]:=mW (xs:=[1,0]) h0 (by decide) (fun j p hj=>by
  match j,hj with
  |0,hj=>
   obtain rfl:(1:Int)=p:=by simpa using hj
   exact⟨rfl,rfl⟩
  |1,hj=>
   obtain rfl:(0:Int)=p:=by simpa using hj
   exact⟨rfl,rfl⟩
  |j+2,hj=>simp at hj)
 have k2:Kd.C (Kd.int .i64) (wW w) (some ⟨w.heap.size+1+1,0,none⟩) 1 [0]:=one_C h2
 have k3:Kd.C (Kd.int .u64) (wW w) (some ⟨w.heap.size+1+1+1,0,none⟩) 1 [7]:=mW (xs:=[7]) h3 (by decide) (fun j p hj=>by
  match j,hj with
  |0,hj=>
   obtain rfl:(7:Int)=p:=by simpa using hj
   exact⟨rfl,rfl⟩
  |j+1,hj=>simp at hj)
 refine⟨_,1,_,1,_,1,rfl,Nat.le_refl _,?_,Nat.le_refl _,k2,Nat.le_refl _,?_⟩
 . refine mW (xs:=Sx.T) h1 (by decide) (fun j p hj=>?_)
   match j,hj with
   |0,hj=>
    obtain rfl:(⟨[1,0],[]⟩:S88)=p:=by simpa [Sx] using hj
    exact⟨rfl,ut (wW w) ⟨[1,0],[]⟩ (c0:=2) (Nat.le_refl _) k0 (c1:=0) (Nat.le_refl _) (Kd.ol _ _)⟩
   |j+1,hj=>simp[Sx]at hj
 . refine mW (xs:=Sx.N) h4 (by decide) (fun j p hj=>?_)
   match j,hj with
   |0,hj=>
    obtain rfl:(⟨[],[7]⟩:S89)=p:=by simpa [Sx] using hj
    exact⟨rfl,tF (wW w) ⟨[],[7]⟩ (c0:=0) (Nat.le_refl _) (Kd.ol _ _) (c1:=1) (Nat.le_refl _) k3⟩
   |j+1,hj=>simp[Sx]at hj
theorem yG (w:World):Calls Tryz.prog 5 #[] w fun e w'=>e=.returned (.bool true)/\Below w.heap.size w w':=by
 have hu46:=Tryz.underlying46;have hu52:=Tryz.underlying52;have hu56:=Tryz.underlying56;have hu57:=Tryz.underlying57;have hu61:=Tryz.underlying61;have hu64:=Tryz.underlying64;go_enter Tryz.func5,Tryz.ntmps5
 go_upto_region 4 with(first
  |(go_at_call 14;refine(EO w).mono ?_;rintro e w1 ⟨A,c,rfl,hc,hC,hp,hb1⟩;have HC:=Y (And.intro hc hC);have HP:=Y hp;have HB1:=Y hb1;clear hc hC hp hb1)
  |(go_at_call 15;refine(EG w1 A c HC.out.2 HC.out.1).mono ?_;rintro e w2 ⟨v,rfl,hish,hb2⟩;have HIS:=Y hish;have HB2:=Y hb2;obtain⟨A0,c0,A1,c1,A2,c2,ev,_⟩:=hish;subst ev;clear hb2)
  |((with_reducible refine aW (N:=17) rfl ?_);refine bE rfl (ty:=52) rfl (g:=w.heap.size) (off:=0) (seg:=c52) rfl HP.out rfl Tryz.underlying52 rfl size52 ?_)
  |((with_reducible refine aW (N:=3) rfl ?_);refine gI rfl rfl info46 ?_;intro sb hsb w3 hh3 hb3;have HSB:=Y hsb;have HH3:=Y (show Holds w3 sb 46 z46 from hh3);have HB3:=Y hb3;clear hsb hh3 hb3)
  |((with_reducible refine bg (t:=46) (p:=3) rfl ?_);refine aG rfl (ty:=46) rfl rfl (g:=sb) (off:=0) (vs:=#[.slice A0 1 c0,.slice A1 1 c1,.slice A2 1 c2]) rfl rfl HH3.out (by show 3<=3;decide) eU (by simp[Value.oneCell']) ?_;intro w4 hh4 hs4;have HH4:=Y (show Holds w4 sb 46 [.slice A0 1 c0,.slice A1 1 c1,.slice A2 1 c2]from hh4);have HS4:=Y hs4;clear hh4 hs4))
 have HIS4:=Y (HIS.out.below (HS4.out.below HB3.out (by rw[HSB.out];exact Nat.le_refl _)))
 have HBW4:=Y (HS4.out.below (ag (ag HB1.out HB1.out.size HB2.out) (Nat.le_trans HB1.out.size HB2.out.size) HB3.out) (by rw[HSB.out];exact Nat.le_trans HB1.out.size HB2.out.size))
 obtain⟨W,hW,hwant,hh6,hbW⟩:=EN w4;unfold wW at hW;go_upto_region 5 with fail
 rw[<-hW];have HWA:=Y hwant;have HH6:=Y hh6;have HBW:=Y (ag HBW4.out HBW4.out.size hbW);have HBx:=Y hbW;obtain⟨tb,htb⟩:∃ tb,tb=w4.heap.size+1+1+1+1+1:=⟨_,rfl⟩;rw[<-htb]at HH6 ⊢;clear hW hwant hh6 hbW htb;have HIS5:=Y (HIS4.out.below HBx.out);have HH5:=Y (HH4.out.below HBx.out);go_upto_region 6 with(go_at_call 15;refine(run_bad _ _ _ _).mono ?_;rintro e w5 ⟨rfl,hb5⟩;have HB5:=Y hb5;clear hb5)
 obtain⟨w6,hw6⟩:∃ w6,w6=w5.alloc (.cells #[.slice none 0 0,.slice none 0 0,.slice none 0 0] 46):=⟨_,rfl⟩;have hb6:Below w5.heap.size w5 w6:=by rw[hw6];exact ae zc _
 rw[<-hw6];have HB6:=Y (ag HB5.out HB5.out.size hb6);clear hw6 hb6;have HI6:=Y (HIS5.out.below HB6.out);have HJ6:=Y (HWA.out.below HB6.out);have HS6:=Y (HH5.out.below HB6.out);have HT6:=Y (HH6.out.below HB6.out);have HSM:=Y (um Sx Sx _ _ w6 small_x HI6.out HJ6.out);rw[tO]at HSM;have zs0:w6.cell? ⟨sb,0,none⟩=some (.slice A0 1 c0):=(HS6.out.cell 0).trans rfl;have zs1:w6.cell? ⟨sb,1,none⟩=some (.slice A1 1 c1):=(HS6.out.cell 1).trans rfl;have zs2:w6.cell? ⟨sb,2,none⟩=some (.slice A2 1 c2):=(HS6.out.cell 2).trans rfl;have zt0:w6.cell? ⟨tb,0,none⟩=some (.slice (some ⟨w4.heap.size+1,0,none⟩) 1 1):=(HT6.out.cell 0).trans rfl;have zt1:w6.cell? ⟨tb,1,none⟩=some (.slice (some ⟨w4.heap.size+1+1,0,none⟩) 1 1):=(HT6.out.cell 1).trans rfl;have zt2:w6.cell? ⟨tb,2,none⟩=some (.slice (some ⟨w4.heap.size+1+1+1+1,0,none⟩) 1 1):=(HT6.out.cell 2).trans rfl
 go_wp2_with (first
  |(go_at_call 16;first|(refine HSM.out.mono ?_;rintro e w7 ⟨rfl,hb7⟩;have HB7:=Y hb7;clear hb7 HSM)|(refine(HSN.out).mono ?_;rintro e w9 ⟨rfl,hb9⟩;have HB9:=Y hb9;clear hb9))
  |(go_at_call 11;refine(n11 _).mono ?_;rintro e w8 ⟨v8,rfl,hish8,hb8⟩;have HSN:=Y (um S0 S0 _ _ w8 small_0 hish8 (ish0 w8));rw[tO]at HSN;have HB8:=Y hb8;clear hish8 hb8))
 go_ret
 have k6:=ag HBW.out HBW.out.size HB6.out;have k7:=ag k6 k6.size HB7.out;have k8:=ag k7 k7.size HB8.out;exact⟨rfl,ag k8 k8.size HB9.out⟩
end
end Go.Proofs.YtglikkmmbdnmbaaGreat.Im
namespace Go.Proofs.YtglikkmmbdnmbaaGreat.Own
open Go.RowKit Q7
section
def wM {H:Type}(enc:TypeId×Value->H)(P:Program)(W:World){α:Type}(d:Kd α)(t:TypeId)(ok:α->Prop):Prop:=
 ∀{base:Nat} {spare:Nat->Bool} {held:Bool} {fuel:Nat} {cs:List Value} {x:DataW H×List MemPlace},DataW.trod enc P W base spare held fuel t cs=some x->∃ a,d.K W a cs/\ok a
section
variable {H:Type} {enc:TypeId×Value→H} {P:Program} {W:World} {α:Type}
theorem lg {k:IntKind}{t:TypeId}(ht:P.underlying t=some (.int k)):wM enc P W (Kd.int k) t (fun n=>(Lit.int k n).wf=true):=by
 intro base spare held fuel cs x h;obtain⟨n,rfl,_,hw⟩:=DataW.trod_int ht h;exact⟨n,rfl,hw⟩
theorem zG {Q:Nat->α->Prop}:∀ n:Nat,(∀ i,i<n->∃ a,Q i a)->∃ l:List α,l.length=n/\∀(i:Nat) (a:α),l[i]? =some a->Q i a
 |0,_=>⟨[],rfl,fun i a h=>by simp at h⟩
 |n+1,h=>by
  obtain⟨l,hl,hq⟩:=zG n (fun i hi=>h i (by omega))
  obtain⟨a,ha⟩:=h n (by omega)
  refine⟨l++[a],by simp[hl],fun i b hb=>?_⟩
  rcases Nat.lt_or_ge i l.length with hi|hi
  . rw[List.getElem?_append_left hi]at hb;exact hq i b hb
  . have hin:i=n:=by
     have:=(List.getElem?_eq_some_iff.1 hb).1;rw[List.length_append,List.length_singleton]at this;omega
    subst hin;rw[List.getElem?_append_right hi,hl,Nat.sub_self]at hb;have:a=b:=by simpa using hb
    subst this;exact ha
theorem ET {base:Nat}{a:Addr}{n:Nat}{cs:List Value}(h:W.cells? base a n=some cs):cs.length=n/\∀ j u,cs[j]? =some u->W.cell? (a.add j)=some u:=by
 obtain⟨hb,hl,hc⟩:=World.cells?_some h;refine⟨hl,fun j u hu=>?_⟩
 have hj:=(List.getElem?_eq_some_iff.1 hu).1
 first
  |exact(hc j (by omega)).trans hu
  |exact hc j u hu
theorem yH {d:Kd α}{t e:TypeId}{ok:α->Prop}(ht:P.underlying t=some (.slice e))(hc:P.cellsOf e=d.sz)(he:wM enc P W d e ok):wM enc P W (Kd.slice e d) t (fun l=>∀ a∈l,ok a):=by
 intro base spare held fuel cs x h
 rcases Go.Deep.open_slice ht h with⟨rfl,_⟩|⟨a,len,cap,m,n,D,Pl,rfl,_,hl,hm,hmm,_,hel⟩
 . exact⟨[],⟨none,0,rfl,Nat.le_refl _,Kd.ol d W⟩,fun a h=>by cases h⟩
 . have hlm:len<=m:=by rw[hmm];split<;>omega
   obtain⟨l,hll,hq⟩:=zG (α:=α) (Q:=fun i y=>ok y/\∃ c,c.length=d.sz/\d.K W y c/\∀ j u,c[j]? =some u->W.cell? (a.add (i*d.sz+j))=some u) len (fun i hi=>by
    obtain⟨cs',hcs,htr⟩:=hel i (by omega)
    obtain⟨y,hK,hok⟩:=he htr;obtain⟨hlen,hcell⟩:=ET hcs;refine⟨y,hok,cs',by rw[hlen,hc],hK,fun j u hu=>?_⟩
    have h1:=hcell j u hu;rw[Go.Deep.add_add,hc]at h1
    exact h1)
   refine⟨l,⟨some a,cap,by rw[hll],by omega,hll▸⟨hll.symm▸rfl,?_,fun _=>⟨a,rfl,fun j p hj=>(hq j p hj).2⟩⟩⟩,fun y hy=>?_⟩
   . simp only[maxLen]at hm;omega
   . obtain⟨i,hi⟩:=List.mem_iff_getElem?.1 hy;exact(hq i y hi).1
theorem fields_of {t:TypeId}{fs:Array Field}{base:Nat}{spare:Nat->Bool}{held:Bool}{fuel:Nat}{cs:List Value}{x:DataW H×List MemPlace}(ht:P.underlying t=some (.struct fs))(h:DataW.trod enc P W base spare held fuel t cs=some x):
 cs.length=P.cellsOf t/\∀(i:Nat) (f:Field),fs[i]? =some f->∃ n y,DataW.trod enc P W base spare held n f.type ((cs.drop f.offset).take (P.cellsOf f.type))=some y:=by
 obtain⟨xs,n,rfl,_,hlen,hxs,hf⟩:=DataW.trod_struct ht h;refine⟨hlen,fun i f hi=>?_⟩
 have hlt:i<xs.length:=by
  rw[hxs];exact(Array.getElem?_eq_some_iff.1 hi).1
 exact⟨n,xs[i],(hf i f hi).trans (List.getElem?_eq_getElem hlt)⟩
end
end
end Go.Proofs.YtglikkmmbdnmbaaGreat.Own

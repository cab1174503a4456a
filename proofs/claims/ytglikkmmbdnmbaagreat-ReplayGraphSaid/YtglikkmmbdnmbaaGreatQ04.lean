/- What lies ready between two rounds of nodes numbered. -/
import Derived.Test.YtglikkmmbdnmbaaGreatQ03
import Derived.Laws.EntriesVeiled
import Derived.Test.YtglikkmmbdnmbaaGreatQ01
set_option maxHeartbeats 8000000
set_option maxRecDepth 100000
namespace Go.Proofs.YtglikkmmbdnmbaaGreat.Im
open Go.RowKit Q7
open YtglikkmmbdnmbaaGreat.Own PCan Wv
set_option linter.unusedVariables false
set_option linter.unusedSimpArgs false
section
structure NI (rows:List Value)(rc:Nat->List Int)(B m1 m2 b g2 D:Nat)(HL:List (Nat×Nat×List Value))(vT vG:Value)(ps:List (Value×Value))(w00:World)(nm:List Int)(acc:List S89)(vN vX:Value)(qs:List (Value×Value))(W:World):Prop where
 ns:NS W B m1 m2 b vN nm
 rows:∀ j,OI .i64 3 W B vN (rows.getD j (.slice none 0 0)) (rc j)
 h2:Holds W g2 46 [vT,vG,vX]
 hs:∀ x∈HL,Holds W x.1 x.2.1 x.2.2
 raw:Kd.R bn 61 W B (fun _=>True) vT ps
 nodes:Kd.R bn 64 W B (fun _=>True) vX qs
 els:Els S89.f0 S89.f1 .u64 31 W B vN qs acc
 dfr:W.heap[D]? =some (.deferred (some []))
 below:Below B w00 W
 size:B<=W.heap.size
section
variable {rows:List Value} {rc:Nat→List Int} {B m1 m2 b g2 D:Nat} {HL:List (Nat×Nat×List Value)} {vT vG:Value} {ps:List (Value×Value)} {w00:World} {nm:List Int} {acc:List S89} {vN vX:Value} {qs:List (Value×Value)} {W W':World}
theorem NS.below {w w':World}(h:NS w B m1 m2 b vN nm)(hb:Below w.heap.size w w'):NS w' B m1 m2 b vN nm:=by
 obtain⟨D,hD,hN⟩:=h.map;exact⟨h.c1.below hb,h.c2.below hb,⟨D,hD.kept (cK hb none) (fun e=>by cases e),hN⟩,Kd.aX h.row hb⟩
theorem NI.step (h:NI rows rc B m1 m2 b g2 D HL vT vG ps w00 nm acc vN vX qs W)(hb:Below W.heap.size W W'):NI rows rc B m1 m2 b g2 D HL vT vG ps w00 nm acc vN vX qs W':=
 ⟨h.ns.below hb,fun j=>Kd.aX (h.rows j) hb,h.h2.below hb,fun x hx=>(h.hs x hx).below hb,Kd.aX h.raw hb,Kd.aX h.nodes hb,h.els.below hb,(hb.block D (Array.getElem?_eq_some_iff.1 h.dfr).1).trans h.dfr,ag h.below h.size hb,Nat.le_trans h.size hb.size⟩
theorem Dz {w:World}{v:Value}{xs:List Int}{k:Nat}{o:Obj}(hns:NS w B m1 m2 b vN nm)(hv:OI .i64 3 w B vN v xs)(hk:Sn b m2 vN v k)(ho:w.heap[k]? =some o):(∃ es cl,o=.map es cl)\/∃ cs t fr,o=.cells cs t fr/\(t=3\/t=38):=by
 rcases hk with rfl|rfl|e|e
 . obtain⟨D,hD,_⟩:=hns.map;obtain⟨es,clock,hb,_⟩:=hD;rw[ho]at hb;injection hb with hb
   exact .inl ⟨_,_,hb⟩
 . have h1:=(show _=_ from hns.c2).symm.trans ho
   injection h1 with h1
   exact .inr ⟨_,_,_,h1.symm,.inr rfl⟩
 . obtain⟨inner,hw⟩:=Kd.gF hns.row;obtain⟨cells,hc⟩:=dO hw k e.symm;rw[hc]at ho;injection ho with ho
   exact .inr ⟨_,_,_,ho.symm,.inl rfl⟩
 . obtain⟨inner,hw⟩:=Kd.gF hv;obtain⟨cells,hc⟩:=dO hw k e.symm;rw[hc]at ho;injection ho with ho
   exact .inr ⟨_,_,_,ho.symm,.inl rfl⟩
theorem nY {S:Nat->Prop}{e:Nat}{ok:Nat->Prop}{v:Value}(hk:Kp S W W')(hr:Kd.R bn e W B ok v ps)(hn:∀ k cells fr,W.heap[k]? =some (.cells cells e fr)->¬ S k):Kd.R bn e W' B ok v ps:=by
 refine Kd.bY (Kd.nJ (Kd.fO hr) (fun k hk1=>?_)) (fun k hk1=>hk1.1)
 obtain⟨_,_,hlt,q,hq,cells,hc⟩:=hk1
 rcases List.mem_cons.1 hq with rfl|hq
 . exact hk.block k hlt (hn k _ _ hc)
 . cases hq
theorem NI.num {W0:World}{xs:List Int}{vr vN':Value}(h0:NI rows rc B m1 m2 b g2 D HL vT vG ps w00 nm acc vN vX qs W0)(hHL:∀ x∈HL,x.2.1≠3/\x.2.1≠38)(hb:Below W0.heap.size W0 W)(hr:Kd.R (Kd.int .i64) 3 W W0.heap.size (fun _=>True) vr xs)(hBb:B<=b)(hBm:B<=m2)
 (hns':NS W' B m1 m2 b vN' (bC nm xs).1) (hat:vN'.ownBlock=vN.ownBlock\/∃ q,vN'.ownBlock=some q/\W.heap.size<=q) (hk:Kp (Sn b m2 vN vr) W W'):NI rows rc B m1 m2 b g2 D HL vT vG ps w00 (bC nm xs).1 acc vN' vX qs W':=by
 have h:=h0.step hb;have hlow:B<=W0.heap.size:=h0.size;have hOI:OI .i64 3 W B vN vr xs:=Kd.cB (Kd.bY (Kd.fO hr) (fun q hq=>⟨trivial,fun e=>by have h1:=Kd.fT h0.ns.row q e.symm;have h2:=hq.2.1;omega⟩)) hlow
 have hobj:=fun(k:Nat) (o:Obj) (hs:Sn b m2 vN vr k) (ho:W.heap[k]? =some o)=>Dz h.ns hOI hs ho
 have hn:∀(k:Nat) (cs:Array Value) (t:TypeId) (fr:Nat×Nat),W.heap[k]? =some (.cells cs t fr)->t≠3->t≠38->¬ Sn b m2 vN vr k:=fun k cs t fr ho h3 h26 hs=>by
  rcases hobj k _ hs ho with⟨_,_,e⟩|⟨_,_,_,e,ht⟩
  . cases e
  . injection e with _ e
    rcases ht with ht|ht
    . exact h3 (e.trans ht)
    . exact h26 (e.trans ht)
 obtain⟨DD,hD,_⟩:=h.ns.map
 have hold:∀(u:Value) (ys:List Int),OI .i64 3 W0 B vN u ys->OI .i64 3 W' B vN' u ys:=fun u ys hu=>by
  refine OI.turn (W:=W) (vN:=vN) (hk.RI (Kd.aX hu hb) (fun q hq hs=>?_)) (fun q hq=>Nat.lt_of_lt_of_le (Kd.fT hu q hq) hb.size) hat
  rcases hs with e|e|e|e
  . exact kz (Kd.aX hu hb) hD q hq e
  . exact Kd.dL (Kd.aX hu hb) h.ns.c2 (by decide) (by rw[hq,e])
  . exact(hu.1 q hq).2 e
  . have h1:=Kd.fT hu q hq;have h2:=Kd.dG hr q e.symm;omega
 have hold56:∀(u:Value) (ys:List Int),OI .u64 31 W0 B vN u ys->OI .u64 31 W' B vN' u ys:=fun u ys hu=>by
  refine OI.turn (W:=W) (vN:=vN) (hk.RI (Kd.aX hu hb) (fun q hq hs=>?_)) (fun q hq=>Nat.lt_of_lt_of_le (Kd.fT hu q hq) hb.size) hat
  obtain⟨inner,hw⟩:=Kd.gF (Kd.aX hu hb);obtain⟨cells,hc⟩:=dO hw q hq;exact hn q _ _ _ hc (by decide) (by decide) hs
 refine⟨hns',fun j=>hold _ _ (h0.rows j),hk.holds h.h2 (hn _ _ _ _ h.h2 (by decide) (by decide)),fun x hx=>hk.holds (h.hs x hx) (hn _ _ _ _ (h.hs x hx) (hHL x hx).1 (hHL x hx).2),nY hk h.raw (fun k cs fr hc=>hn k cs _ fr hc (by decide) (by decide)),nY hk h.nodes (fun k cs fr hc=>hn k cs _ fr hc (by decide) (by decide)),⟨h0.els.1,fun i p t hp ht=>⟨hold _ _ (h0.els.2 i p t hp ht).1,hold56 _ _ (h0.els.2 i p t hp ht).2⟩⟩,?_,hk.below h.below h.size (fun k hs=>?_),Nat.le_trans h.size hk.size⟩
 . refine(hk.block D (Array.getElem?_eq_some_iff.1 h.dfr).1 (fun hs=>?_)).trans h.dfr
   rcases hobj D _ hs h.dfr with⟨_,_,e⟩|⟨_,_,_,e,_⟩<;>cases e
 . rcases hs with e|e|e|e
   . omega
   . omega
   . exact Kd.dG h.ns.row k e.symm
   . have:=Kd.dG hr k e.symm;omega
theorem NI.push {p:Value×Value}{t:S89}{vX':Value}(h:NI rows rc B m1 m2 b g2 D HL vT vG ps w00 nm acc vN vX qs W)(hHL:∀ x∈HL,x.2.1≠64/\x.1≠g2)(hg:W.grownBy W' vX.ownBlock)(hB2:B<=g2)
 (hx:Kd.R bn 64 W' B (fun _=>True) vX' (qs++[p])) (h0:OI .i64 3 W B vN p.1 t.f0) (h1:Kd.R (Kd.int .u64) 31 W' B (fun _=>True) p.2 t.f1):NI rows rc B m1 m2 b g2 D HL vT vG ps w00 nm (acc++[t]) vN vX' (qs++[p]) (W'.setCells g2 2 [vX']):=by
 have hn:∀(k:Nat) (o:Obj),W.heap[k]? =some o->(∀ cs fr,o≠ .cells cs 64 fr)->some k≠vX.ownBlock:=fun k o ho hc e=>by
  obtain⟨inner,hw⟩:=Kd.gF h.nodes;obtain⟨cells,hcc⟩:=dO hw k e.symm;rw[hcc]at ho;injection ho with ho
  exact hc _ _ ho.symm
 have hty:∀(cs:Array Value) (t:TypeId) (fr:Nat×Nat),t≠64->∀ cs' fr',Obj.cells cs t fr≠ .cells cs' 64 fr':=fun cs t fr ht cs' fr' e=>by
  injection e with _ e
  exact ht e
 have hri:∀{k:IntKind} {e:Nat} {ok:Nat->Prop} {u:Value} {ys:List Int},e≠64->Kd.R (Kd.int k) e W B ok u ys->Kd.R (Kd.int k) e W' B ok u ys:=fun he hu=>by
  refine(Kp.jQ hg).RI hu (fun q hq e1=>?_)
  obtain⟨inner,hw⟩:=Kd.gF hu;obtain⟨cells,hc⟩:=dO hw q hq;exact hn q _ hc (hty _ _ _ he) e1
 have h2':Holds W' g2 46 [vT,vG,vX]:=aY h.h2 hg (hn _ _ h.h2 (hty _ _ _ (by decide)))
 have hs:=dR W' g2 2 [vX'];have hri2:∀{k:IntKind} {e:Nat} {ok:Nat->Prop} {u:Value} {ys:List Int},e≠46->Kd.R (Kd.int k) e W' B ok u ys->Kd.R (Kd.int k) e (W'.setCells g2 2 [vX']) B ok u ys:=fun he hu=>dW hu h2' (fun q hq=>by rcases List.mem_cons.1 hq with rfl|hq;exact he;cases hq) hs
 have hraw2:∀{e:Nat} {ok:Nat->Prop} {u:Value} {ys:List (Value×Value)},e≠46->Kd.R bn e W' B ok u ys->Kd.R bn e (W'.setCells g2 2 [vX']) B ok u ys:=fun he hu=>dW hu h2' (fun q hq=>by rcases List.mem_cons.1 hq with rfl|hq;exact he;cases hq) hs
 have hob:∀(k:Nat) (cs:List Value) (t:Nat),k≠g2->t≠64->Holds W k t cs->Holds (W'.setCells g2 2 [vX']) k t cs:=fun k cs t hkg ht hh=>hs.holds (aY hh hg (hn _ _ hh (hty _ _ _ ht))) hkg
 obtain⟨DD,hD,hN⟩:=h.ns.map
 have hc1:m1≠g2:=fun e=>by
  subst e;have h3:=(show _=_ from h.ns.c1).symm.trans (show _=_ from h.h2)
  injection h3 with h3
  injection h3 with _ h3
  exact absurd h3 (by decide)
 have hc2:m2≠g2:=fun e=>by
  subst e;have h3:=(show _=_ from h.ns.c2).symm.trans (show _=_ from h.h2)
  injection h3 with h3
  injection h3 with _ h3
  exact absurd h3 (by decide)
 have hD1:W'.ownsMap Tryz.prog 3 (plainElem Tryz.prog 3) b nm.length DD:=hD.kept hg (fun e=>by
  obtain⟨es,clock,hb,_⟩:=hD
  exact hn b _ hb (fun _ _ e2=>by cases e2) (by first|exact e|exact e.symm))
 have hgs:W'.grownBy (W'.setCells g2 2 [vX']) (some g2):=⟨hs.os,hs.tape,hs.output,Nat.le_of_eq hs.size.symm,fun k _ hk=>hs.block k (fun e=>hk (by rw[e]))⟩
 have hdne:D≠g2:=fun e=>by
  subst e;have h3:=h.dfr.symm.trans (show _=_ from h.h2)
  injection h3 with h3
  cases h3
 have hrow':∀ u ys,OI .i64 3 W B vN u ys->OI .i64 3 (W'.setCells g2 2 [vX']) B vN u ys:=fun u ys hu=>hri2 (by decide) (hri (by decide) hu)
 have hrow56:∀ u ys,OI .u64 31 W B vN u ys->OI .u64 31 (W'.setCells g2 2 [vX']) B vN u ys:=fun u ys hu=>hri2 (by decide) (hri (by decide) hu)
 have hels:Els S89.f0 S89.f1 .u64 31 (W'.setCells g2 2 [vX']) B vN qs acc:=⟨h.els.1,fun i p t hp ht=>⟨hrow' _ _ (h.els.2 i p t hp ht).1,hrow56 _ _ (h.els.2 i p t hp ht).2⟩⟩
 have hrN:Kd.R (Kd.int .i64) 3 W' B (fun _=>True) vN nm:=hri (by decide) h.ns.row
 refine⟨⟨hob _ _ _ hc1 (by decide) h.ns.c1,hob _ _ _ hc2 (by decide) h.ns.c2,⟨DD,hD1.kept hgs (fun e=>by injection e with e;exact kG h2' hD1 e.symm),hN⟩,hri2 (by decide) hrN⟩,fun j=>hrow' _ _ (h.rows j),?_,fun x hx2=>?_,?_,hraw2 (by decide) hx,hels.push (hrow' _ _ h0) (hri2 (by decide) ⟨fun q hq=>⟨trivial,fun e=>?_⟩,h1.2.iO (fun _ _ hp=>hp)⟩),?_,?_,?_⟩
 . exact eX (vs:=[vX']) h2' (by show 2+1<=3;decide)
 . by_cases ht:x.2.1=64
   . exact absurd ht (hHL x hx2).1
   . exact hob _ _ _ (hHL x hx2).2 ht (h.hs x hx2)
 . refine hraw2 (by decide) (nY (Kp.jQ hg) h.raw (fun k cs fr hc=>?_))
   exact hn k _ hc (hty _ _ _ (by decide))
 . obtain⟨inner,hw⟩:=Kd.gF h1;obtain⟨cells,hc⟩:=dO hw q hq;obtain⟨inner2,hw2⟩:=Kd.gF hrN;obtain⟨cells2,hc2⟩:=dO hw2 q e.symm;rw[hc]at hc2;injection hc2 with hc2
   injection hc2 with _ hc2
   exact absurd hc2 (by decide)
 . rw[hs.block D hdne];exact(hg.block D (Array.getElem?_eq_some_iff.1 h.dfr).1 (hn _ _ h.dfr (fun _ _ e=>by cases e))).trans h.dfr
 . refine hs.below (h.below.grown hg h.size (fun k hk=>?_)) hB2
   exact Kd.dG h.nodes k hk
 . rw[hs.size];exact Nat.le_trans h.size hg.size
theorem NI.start {x:Value}(hns:NS W B m1 m2 b vN nm)(hrows:∀ j,OI .i64 3 W B vN (rows.getD j (.slice none 0 0)) (rc j))(h2:Holds W g2 46 [vT,vG,x])(hHL:∀ x∈HL,x.1≠g2)(hhs:∀ x∈HL,Holds W x.1 x.2.1 x.2.2)(hraw:Kd.R bn 61 W B (fun _=>True) vT ps)(hdfr:W.heap[D]? =some (.deferred (some [])))(hbelow:Below B w00 W)(hsize:B<=W.heap.size)(hB2:B<=g2):
 NI rows rc B m1 m2 b g2 D HL vT vG ps w00 nm [] vN (.slice none 0 0) [] (W.setCells g2 2 [.slice none 0 0]):=by
 have hs:=dR W g2 2 [.slice none 0 0];have hri2:∀{k:IntKind} {e:Nat} {ok:Nat->Prop} {u:Value} {ys:List Int},e≠46->Kd.R (Kd.int k) e W B ok u ys->Kd.R (Kd.int k) e (W.setCells g2 2 [.slice none 0 0]) B ok u ys:=fun he hu=>dW hu h2 (fun q hq=>by rcases List.mem_cons.1 hq with rfl|hq;exact he;cases hq) hs
 have hraw2:∀{e:Nat} {ok:Nat->Prop} {u:Value} {ys:List (Value×Value)},e≠46->Kd.R bn e W B ok u ys->Kd.R bn e (W.setCells g2 2 [.slice none 0 0]) B ok u ys:=fun he hu=>dW hu h2 (fun q hq=>by rcases List.mem_cons.1 hq with rfl|hq;exact he;cases hq) hs
 obtain⟨DD,hD,hN⟩:=hns.map
 have hc1:m1≠g2:=fun e=>by
  subst e;have h3:=(show _=_ from hns.c1).symm.trans (show _=_ from h2)
  injection h3 with h3
  injection h3 with _ h3
  exact absurd h3 (by decide)
 have hc2:m2≠g2:=fun e=>by
  subst e;have h3:=(show _=_ from hns.c2).symm.trans (show _=_ from h2)
  injection h3 with h3
  injection h3 with _ h3
  exact absurd h3 (by decide)
 have hgs:W.grownBy (W.setCells g2 2 [.slice none 0 0]) (some g2):=⟨hs.os,hs.tape,hs.output,Nat.le_of_eq hs.size.symm,fun k _ hk=>hs.block k (fun e=>hk (by rw[e]))⟩
 have hdne:D≠g2:=fun e=>by
  subst e;have h3:=hdfr.symm.trans (show _=_ from h2)
  injection h3 with h3
  cases h3
 refine⟨⟨hs.holds hns.c1 hc1,hs.holds hns.c2 hc2,⟨DD,hD.kept hgs (fun e=>by injection e with e;exact kG h2 hD e.symm),hN⟩,hri2 (by decide) hns.row⟩,fun j=>hri2 (by decide) (hrows j),?_,fun x hx2=>hs.holds (hhs x hx2) (hHL x hx2),hraw2 (by decide) hraw,Kd.fo _ _ _ _ _,Els.nil,?_,hs.below hbelow hB2,by rw[hs.size];exact hsize⟩
 . exact eX (vs:=[.slice none 0 0]) h2 (by show 2+1<=3;decide)
 . rw[hs.block D hdne];exact hdfr
theorem NI.close {w5:World}{g4:Nat}{zs:List Value}(h:NI rows rc B m1 m2 b g2 D HL vT vG ps w00 nm acc vN vX qs W)(hz:Holds W g4 46 zs)(hs:bH W w5 g4)(hBD:B<=D)(hB4:B<=g4):
 Kd.R bn 61 (w5.putObj D (.deferred none)) B (fun _=>True) vT ps/\(∀ j,Kd.R (Kd.int .i64) 3 (w5.putObj D (.deferred none)) B (fun _=>True) (rows.getD j (.slice none 0 0)) (rc j))/\Kd.R bn 64 (w5.putObj D (.deferred none)) B (fun _=>True) vX qs/\Els S89.f0 S89.f1 .u64 31 (w5.putObj D (.deferred none)) B vN qs acc/\Below B w00 (w5.putObj D (.deferred none)):=by
 have hk:Kp (fun k=>k=D\/k=g4) W (w5.putObj D (.deferred none)):=⟨hs.os,hs.tape,hs.output,by simp[hs.size],fun k hk hn=>(World.putObj_heap_other (fun e=>hn (.inl e))).trans (hs.block k (fun e=>hn (.inr e)))⟩
 have hn:∀(k:Nat) (cs:Array Value) (t:TypeId) (fr:Nat×Nat),W.heap[k]? =some (.cells cs t fr)->t≠46->¬ (k=D\/k=g4):=fun k cs t fr ho ht e=>by
  rcases e with rfl|rfl
  . rw[h.dfr]at ho;injection ho with ho
    cases ho
  . have h3:=(show _=_ from hz).symm.trans ho
    injection h3 with h3
    injection h3 with _ h3
    exact ht h3.symm
 have hri:∀{k:IntKind} {e:Nat} {ok:Nat->Prop} {u:Value} {ys:List Int},e≠46->Kd.R (Kd.int k) e W B ok u ys->Kd.R (Kd.int k) e (w5.putObj D (.deferred none)) B ok u ys:=fun he hu=>hk.RI hu (fun q hq hS=>by
  obtain⟨inner,hw⟩:=Kd.gF hu;obtain⟨cells,hc⟩:=dO hw q hq
  exact hn q _ _ _ hc he hS)
 refine⟨nY hk h.raw (fun k cs fr hc=>hn k cs _ fr hc (by decide)),fun j=>?_,nY hk h.nodes (fun k cs fr hc=>hn k cs _ fr hc (by decide)),⟨h.els.1,fun i p t hp ht=>⟨hri (by decide) (h.els.2 i p t hp ht).1,hri (by decide) (h.els.2 i p t hp ht).2⟩⟩,hk.below h.below h.size (fun k hS=>by omega)⟩
 have h1:=hri (by decide) (h.rows j)
 exact⟨fun q _=>trivial,h1.2.iO (fun _ _ hp=>hp)⟩
end
def GA (j:Nat)(own:Option Nat)(k:Nat)(w w':World):Prop:=if k=j then w.grownBy w' own else Below w.heap.size w w'
theorem GA.grown {j:Nat}{own:Option Nat}{k:Nat}{w w':World}(h:GA j own k w w'):w.grownBy w' own:=by
 unfold GA at h
 split at h
 . exact h
 . exact cK h own
theorem GA.other {j:Nat}{own:Option Nat}{k:Nat}{w w':World}(h:GA j own k w w')(hk:k≠j):Below w.heap.size w w':=by
 unfold GA at h
 rwa [if_neg hk]at h
theorem GA.same {j:Nat}{own:Option Nat}{w w':World}(h:w.grownBy w' own):GA j own j w w':=by
 unfold GA
 rwa [if_pos rfl]
def A16a (f1:List Int)(B:Nat)(vX vr v:Value)(w:World):Prop:=∃ b,v=.agg #[vr,b]/\OI .u64 31 w B vX b f1
def A16b (f1:List Int)(B:Nat)(vX vr v:Value)(w:World):Prop:=∃ b A,v=.slice (some ⟨A,0,none⟩) 1 1/\Holds w A 64 [vr,b]/\some A≠vX.ownBlock/\OI .u64 31 w B vX b f1
def A16c (f1:List Int)(B:Nat)(qs:List (Value×Value))(vr v:Value)(w:World):Prop:=∃ b,Kd.R bn 64 w B (fun _=>True) v (qs++[(vr,b)])/\Kd.R (Kd.int .u64) 31 w B (fun _=>True) b f1
def V16 (f1:List Int)(B g2 g12:Nat)(qs:List (Value×Value))(vX vr x1:Value):Nat->Value->World->Prop
 |0,v,_=>v=.pointer (some ⟨g2,2,none⟩)
 |1,v,_=>v=vX
 |2,v,_=>v=.pointer (some ⟨g12,0,none⟩)
 |3,v,_=>v=vr
 |4,v,_=>v=.pointer (some ⟨g12,1,none⟩)
 |5,v,_=>v=x1
 |6,v,w=>OI .u64 31 w B vX v f1
 |7,v,w=>A16a f1 B vX vr v w
 |8,v,w=>A16b f1 B vX vr v w
 |9,v,w=>A16c f1 B qs vr v w
 |10,v,_=>v=.pointer (some ⟨g2,2,none⟩)
 |_,_,_=>True
theorem CG (f1:List Int)(B g2 g12:Nat)(qs:List (Value×Value))(vX vr x1:Value)(i j:Nat)(v:Value)(w w':World)(hij:i≠j)(h:V16 f1 B g2 g12 qs vX vr x1 j v w)(hb:GA 9 vX.ownBlock i w w'):V16 f1 B g2 g12 qs vX vr x1 j v w':=by
 by_cases hj:j=9
 . subst hj;have hb:=hb.other hij;obtain⟨p,h1,h2⟩:=(show A16c f1 B qs vr v w from h)
   exact(show A16c f1 B qs vr v w' from⟨p,Kd.aX h1 hb,Kd.aX h2 hb⟩)
 . have hg:=hb.grown;unfold V16 at h ⊢
   split at h<;>first|exact h|exact Kd.iU h hg (fun q hq=>hq.2)|(obtain⟨b,h1,h2⟩:=h;exact⟨b,h1,Kd.iU h2 hg (fun q hq=>hq.2)⟩)|(obtain⟨b,A,h1,h2,h3,h5⟩:=h;exact⟨b,A,h1,aY h2 hg h3,h3,Kd.iU h5 hg (fun q hq=>hq.2)⟩)|exact absurd rfl hj|trivial
end
end Go.Proofs.YtglikkmmbdnmbaaGreat.Im
namespace Go.Proofs.YtglikkmmbdnmbaaGreat.Im
open Go.RowKit Go.Shelf Q7
open YtglikkmmbdnmbaaGreat.Own PCan Wv
set_option linter.unusedVariables false
set_option linter.unusedSimpArgs false
attribute [local go_sem] Oper.semAt_some
section
def uI (gz s p3 p4:Nat)(vN0:Value):List (Nat×Nat×List Value):=
 [(s+1,46,z89),(s+1+1+1+1+1,163,[.func (.func 99) #[] #[.pointer (some ⟨s+1+1+1,0,none⟩),.pointer (some ⟨s+1+1+1+1,0,none⟩)]]),(p3,44,[vN0]),(p4,138,[.func (.func 78) #[] #[.pointer (some ⟨p3,0,none⟩)]]),(gz,46,z89)]
theorem bN {W:World}{g t:Nat}{cs:List Value}(h:g=W.heap.size):Holds (W.alloc (.cells cs.toArray t)) g t cs:=by
 subst h;exact aK _ _
theorem aI {W:World}{g t:Nat}{cs:List Value}(h:Holds W g t cs)(o:Obj):Holds (W.alloc o) g t cs:=h.below (ae zc o)
def HLof (gz s p3 p4:Nat)(sh:List Value)(vN0:Value):List (Nat×Nat×List Value):=
 [(s,46,sh),(s+1,46,z89),(s+1+1+1+1+1,163,[.func (.func 99) #[] #[.pointer (some ⟨s+1+1+1,0,none⟩),.pointer (some ⟨s+1+1+1+1,0,none⟩)]]),(p3,44,[vN0]),(p4,138,[.func (.func 78) #[] #[.pointer (some ⟨p3,0,none⟩)]]),(gz,46,z89)]
theorem vk (ps:List (Value×Value))(AT:Option Addr)(cT:Nat)(AG:Option Addr)(nG cG:Nat)(vN0:Value)(A3:Option Addr)(n3 c3:Nat)(N:List S89)(p3 p4:Nat)(c:Nat->List Int)(B:Nat)(w00 w:World)
 (hN0:vN0=.slice A3 N.length c3) (hps:ps.length<=300) (hsl:∀ p∈ps,∃ A0 n0 c0 A1 n1 c1,p=(.slice A0 n0 c0,.slice A1 n1 c1))
 (hNC:Kd.C k89 w00 A3 N.length N) (hBe:B=w00.heap.size) (hNl:N.length<=500000) (hNs:∀ t∈N,t.f0.length<=1000/\t.f1.length<=1000)
 (hrow:Kd.R bn 61 w B (fun _=>True) (.slice AT ps.length cT) ps) (hI:∀ j,Kd.R (Kd.int .i64) 3 w B (fun _=>True) ((fu ps (.slice AG nG cG)).getD j (.slice none 0 0)) (c j))
 (hap:∀ j k q,k≠j->((fu ps (.slice AG nG cG)).getD k (.slice none 0 0)).ownBlock=some q->((fu ps (.slice AG nG cG)).getD j (.slice none 0 0)).ownBlock≠some q)
 (hc:∀ j,(c j).length<=1000) (hv:∀ j,∀ x∈c j,0<=x/\x<=N.length)
 (h3:Holds w p3 44 [vN0]) (h4:Holds w p4 138 [.func (.func 78) #[] #[.pointer (some ⟨p3,0,none⟩)]]) (gz:Nat) (hz:Holds w gz 46 z89) (hB:Below B w00 w) (hBw:B<=w.heap.size):
 Calls Tryz.prog 80 #[.agg #[.slice AT ps.length cT,.slice AG nG cG,vN0],.func (.func 81) #[] #[.pointer (some ⟨p4,0,none⟩),.pointer (some ⟨p3,0,none⟩)]] w fun e w'=>∃(vX:Value) (qs:List (Value×Value)),e=.returned (.tuple #[.agg #[.slice AT ps.length cT,.slice AG nG cG,vX],.bool true])/\Kd.R bn 61 w' B (fun _=>True) (.slice AT ps.length cT) ps/\(∀ j,Kd.R (Kd.int .i64) 3 w' B (fun _=>True) ((fu ps (.slice AG nG cG)).getD j (.slice none 0 0)) ((stR c (List.range (2*ps.length+1))).2 j))/\Kd.R bn 64 w' B (fun _=>True) vX qs/\(∃ vN,Els S89.f0 S89.f1 .u64 31 w' B vN qs (dF N N.length 0 (stR c (List.range (2*ps.length+1))).1 []).2)/\Below B w00 w'/\Holds w' gz 46 z89:=by
 subst hN0;have hv6:∀ j,∀ x∈c j,0<=x/\x<=1000000:=fun j x hx=>⟨(hv j x hx).1,by have:=(hv j x hx).2;omega⟩
 have hu89:=Tryz.underlying46;refine(callsIn_wide (n:=3)).1 ?_;refine callsIn_of_wp_marks Tryz.func80 rfl trivial ?_;refine wpIn_wide.2 ?_;simp only[Tryz.ntmps80,List.size_toArray,List.length_cons,List.length_nil,Nat.reduceAdd,Nat.reduceSub,Array.replicate_succ,Array.replicate_zero,List.push_toArray,List.append_toArray,List.nil_append,List.cons_append];obtain⟨Q0,hQ0⟩:∃ Q0,Q0=bodyPostM Fence.wide 3 Tryz.prog Tryz.f80 (fun e w'=>∃(vX:Value) (qs:List (Value×Value)),e=.returned (.tuple #[.agg #[.slice AT ps.length cT,.slice AG nG cG,vX],.bool true])/\Kd.R bn 61 w' B (fun _=>True) (.slice AT ps.length cT) ps/\(∀ j,Kd.R (Kd.int .i64) 3 w' B (fun _=>True) ((fu ps (.slice AG nG cG)).getD j (.slice none 0 0)) ((stR c (List.range (2*ps.length+1))).2 j))/\Kd.R bn 64 w' B (fun _=>True) vX qs/\(∃ vN,Els S89.f0 S89.f1 .u64 31 w' B vN qs (dF N N.length 0 (stR c (List.range (2*ps.length+1))).1 []).2)/\Below B w00 w'/\Holds w' gz 46 z89):=⟨_,rfl⟩
 rw[<-hQ0];have hmf:∀(fn:Fn) (first cap:Array Value) (w:World),(Instr.makeFunc fn first cap).run Tryz.prog w=.ok (.func fn first cap) w:=fun _ _ _ _=>rfl
 have hmm:∀(w:World),(Instr.makeMap 161 none).run Tryz.prog w=.ok (.map (some w.heap.size)) (w.alloc (.map #[] 0)):=fun w=>rfl
 go_wp2_with (go_at_call 100;refine(callsIn_wide.1 (rows_in Fence.wide 3 trivial rfl _ _)).mono ?_;rintro e w5 ⟨rfl,hw5⟩);have hbr:∀ o:Obj,True:=fun _=>trivial
 clear hw5 w5;obtain⟨W7,hW7⟩:∃ W7,W7=(((((((w.alloc (.cells #[.slice AT ps.length cT,.slice AG nG cG,.slice A3 N.length c3] 46)).alloc (.cells #[.slice none 0 0,.slice none 0 0,.slice none 0 0] 46)).alloc (.map #[] 0)).alloc (.cells #[.map (some (w.heap.size+1+1))] 161)).alloc (.cells #[.slice none 0 0] 38)).alloc (.cells #[.func (.func 99) #[] #[.pointer (some ⟨w.heap.size+1+1+1,0,none⟩),.pointer (some ⟨w.heap.size+1+1+1+1,0,none⟩)]] 163)).alloc (.cells #[.pointer (some ⟨w.heap.size,0,none⟩)] 175)):=⟨_,rfl⟩;have e2:Holds W7 w.heap.size 46 [.slice AT ps.length cT,.slice AG nG cG,.slice A3 N.length c3]:=by rw[hW7];exact aI (aI (aI (aI (aI (aI (bN (by simp)) _) _) _) _) _) _
 have e4:Holds W7 (w.heap.size+1) 46 z89:=by rw[hW7];exact aI (aI (aI (aI (aI (bN (by simp)) _) _) _) _) _
 have em:W7.ownsMap (H:=Unit) Tryz.prog 3 (plainElem Tryz.prog 3) (w.heap.size+1+1) 0 (.map []):=by
  rw[hW7];have h:=World.ownsMap_made (H:=Unit) ((w.alloc (.cells #[.slice AT ps.length cT,.slice AG nG cG,.slice A3 N.length c3] 46)).alloc (.cells #[.slice none 0 0,.slice none 0 0,.slice none 0 0] 46)) Tryz.prog 3 (plainElem Tryz.prog 3);rw[World.size_alloc,World.size_alloc]at h;exact(((h.alloc _).alloc _).alloc _).alloc _
 have e1:Holds W7 (w.heap.size+1+1+1) 161 [.map (some (w.heap.size+1+1))]:=by rw[hW7];exact aI (aI (aI (bN (by simp)) _) _) _
 have e26:Holds W7 (w.heap.size+1+1+1+1) 38 [.slice none 0 0]:=by rw[hW7];exact aI (aI (bN (by simp)) _) _
 have e9:Holds W7 (w.heap.size+1+1+1+1+1) 163 [.func (.func 99) #[] #[.pointer (some ⟨w.heap.size+1+1+1,0,none⟩),.pointer (some ⟨w.heap.size+1+1+1+1,0,none⟩)]]:=by rw[hW7];exact aI (bN (by simp)) _
 have eS:Holds W7 (w.heap.size+1+1+1+1+1+1) 175 [.pointer (some ⟨w.heap.size,0,none⟩)]:=by rw[hW7];exact bN (by simp)
 have hb7:Below w.heap.size w W7:=by rw[hW7];exact ae (ae (ae (ae (ae (ae (ae zc _) _) _) _) _) _) _
 have hs7:W7.heap.size=w.heap.size+7:=by rw[hW7];simp
 rw[<-hW7];clear hW7 hbr;have hB7:Below B w00 W7:=ag hB hBw hb7;have hrow7:=Kd.aX hrow hb7
 have hRI0:RI c (fu ps (.slice AG nG cG)) B (w.heap.size+1+1+1) (w.heap.size+1+1+1+1) (w.heap.size+1+1) (HLof gz w.heap.size p3 p4 [.slice AT ps.length cT,.slice AG nG cG,.slice A3 N.length c3] (.slice A3 N.length c3)) (.slice AT ps.length cT) ps w00 [] W7:=by
  refine⟨⟨.slice none 0 0,⟨e1,e26,⟨.map [],em,EL⟩,Kd.fo _ _ _ _ _⟩,fun j=>?_⟩,fun x hx=>?_,hrow7,hB7,by omega⟩
  . exact Kd.bY (Kd.aX (hI j) hb7) (fun q _=>⟨trivial,by simp[Value.ownBlock]⟩)
  . simp only[HLof,List.mem_cons,List.not_mem_nil,or_false]at hx
    rcases hx with rfl|rfl|rfl|rfl|rfl|rfl
    . exact e2
    . exact e4
    . exact e9
    . exact h3.below hb7
    . exact h4.below hb7
    . exact hz.below hb7
 refine(wpIn_wide (n:=3)).1 ?_
 refine wpIn_rangeFunc_ownG (n:=3) rfl (by decide) (gf:=122) (lb:=#[.pointer (some ⟨w.heap.size+1+1+1+1+1+1,0,none⟩)]) rfl trivial (kw Tryz.func122 (by kernel_rfl) rfl)
  (BF Fence.wide 2 trivial rfl (by decide) (w.heap.size+1+1+1+1+1+1) w.heap.size B ps AT cT AG nG cG (.slice A3 N.length c3) (by omega) hsl W7 eS e2 hrow7) (fun h k=>h.trans k) (fun W l o o' hl h hc _=>KT.putObj W l o o' h hc) zc (fun _=>rfl)
  (RI c (fu ps (.slice AG nG cG)) B (w.heap.size+1+1+1) (w.heap.size+1+1+1+1) (w.heap.size+1+1) (HLof gz w.heap.size p3 p4 [.slice AT ps.length cT,.slice AG nG cG,.slice A3 N.length c3] (.slice A3 N.length c3)) (.slice AT ps.length cT) ps w00) (fun _ _ _=>False) (RI.own (by omega) (by omega)) (fun _ _ _ _ _ h _ _=>h) hRI0
  (fun x=>{ tmps:=List.toArray ((Value.agg #[.slice AT ps.length cT,.slice AG nG cG,.slice A3 N.length c3]) :: (Value.func (.func 81) #[] #[.pointer (some ⟨p4,0,none⟩),.pointer (some ⟨p3,0,none⟩)]) :: (Value.pointer (some ⟨w.heap.size,0,none⟩)) :: (undef) :: (Value.pointer (some ⟨w.heap.size+1,0,none⟩)) :: (Value.bool false) :: (Value.pointer (some ⟨w.heap.size+1+1+1,0,none⟩)) :: (Value.pointer (some ⟨w.heap.size+1+1+1+1,0,none⟩)) :: (Value.bool true) :: (Value.pointer (some ⟨w.heap.size+1+1+1+1+1,0,none⟩)) :: (((fu ps (.slice AG nG cG)).getD x (.slice none 0 0))) :: (undef) :: (undef) :: (undef) :: (Value.map (some (w.heap.size+1+1))) :: (Value.func (.func 99) #[] #[.pointer (some ⟨w.heap.size+1+1+1,0,none⟩),.pointer (some ⟨w.heap.size+1+1+1+1,0,none⟩)]) :: (Value.func (.func 122) #[] #[.pointer (some ⟨w.heap.size+1+1+1+1+1+1,0,none⟩)]) :: (((fu ps (.slice AG nG cG)).getD x (.slice none 0 0))) :: (undef) :: (undef) :: (undef) :: (undef) :: (undef) :: (undef) :: (undef) :: (undef) :: (undef) :: (undef) :: (undef) :: (undef) :: (undef) :: (undef) :: (undef) :: (undef) :: (undef) :: (undef) :: (undef) :: (undef) :: (undef) :: (undef) :: (undef) :: (undef) :: (undef) :: (undef) :: (undef) :: (undef) :: (undef) :: (undef) :: (undef) :: (undef) :: (undef) :: (undef) :: (undef) :: (undef) :: (undef) :: (undef) :: (undef) :: (undef) :: (undef) :: (undef) :: (undef) :: (undef) :: []),defers:=[] }) ?assign ?body ?done ?stop
 case assign=>
  intro l x W K hK;unfold encR;obtain⟨v,hv'⟩:∃ v,v=(fu ps (.slice AG nG cG)).getD x (.slice none 0 0):=⟨_,rfl⟩;rw[<-hv']at hK ⊢;clear hv'
  gi_wp2
  exact hK
 case body=>
  intro l pre x W hR hlen;obtain⟨vN,hns,ho⟩:=hR.ns;have hok:=stOk_R (R:=1000) (M:=601) hc hv6 (by decide) pre.length pre rfl (by omega)
  have x9:W.cell? ⟨w.heap.size+1+1+1+1+1,0,none⟩=some (.func (.func 99) #[] #[.pointer (some ⟨w.heap.size+1+1+1,0,none⟩),.pointer (some ⟨w.heap.size+1+1+1+1,0,none⟩)]):=((show Holds W (w.heap.size+1+1+1+1+1) 163 [.func (.func 99) #[] #[.pointer (some ⟨w.heap.size+1+1+1,0,none⟩),.pointer (some ⟨w.heap.size+1+1+1+1,0,none⟩)]]from hR.hs _ (List.mem_cons_of_mem _ (List.mem_cons_of_mem _ List.mem_cons_self))).cell 0).trans rfl
  obtain⟨v,hv'⟩:∃ v,v=(fu ps (.slice AG nG cG)).getD x (.slice none 0 0):=⟨_,rfl⟩;rw[<-hv'];have hlN:=(lS ((stR c pre).2 x) (stR c pre).1).2;have h1:=hok.nm;have h2':=hok.len x;have hnum:=wy ((stR c pre).2 x) (stR c pre).1 v vN W B _ _ _ hns (by rw[hv'];exact ho x) (by have h5:pre.length*1000<=601*1000:=Nat.mul_le_mul_right _ (by omega);omega) (hok.val x) hR.size (by omega)
  have HV':=Y hv';clear hv'
  gi_wp2_with (refine⟨trivial,?_⟩;gi_at_call 99;with_reducible refine(CallsIn.inRound l (callsIn_wide.2 hnum)).mono ?_;rintro e W' ⟨rfl,vN',hns',ho',hat,hk⟩)
  have hv':=HV'.out;subst hv';obtain⟨hRI,hKT⟩:=hR.round (by intro y hy;simp only[HLof,List.mem_cons,List.not_mem_nil,or_false]at hy;rcases hy with rfl|rfl|rfl|rfl|rfl|rfl<;>exact⟨by simp,by simp⟩) (by omega) (by omega) hns ho (fun k q hk1=>hap x k q hk1) hns' ho' hat hk
  refine⟨⟨hk.size,fun k o hB1 ho1 hc1=>(hk.block k (Array.getElem?_eq_some_iff.1 ho1).1 (fun hs=>?_)).trans ho1⟩,hKT,hRI⟩
  rcases hs with e|e|e|e
  . omega
  . subst e;have h9:=(show _=_ from hns.c2).symm.trans ho1
    injection h9 with h9
    subst h9;cases hc1
  . obtain⟨inner,hw⟩:=Kd.gF hns.row;obtain⟨cells,hcc⟩:=dO hw k e.symm;rw[hcc]at ho1;injection ho1 with ho1
    subst ho1;cases hc1
  . obtain⟨inner,hw⟩:=Kd.gF (ho x);obtain⟨cells,hcc⟩:=dO hw k e.symm;rw[hcc]at ho1;injection ho1 with ho1
    subst ho1;cases hc1
 case done=>
  intro D xs W hD hxs hR hdef;subst hxs;obtain⟨vN,hns,ho⟩:=hR.ns;have hok:=ym hv (2*ps.length+1) (List.range (2*ps.length+1)) (List.length_range);have HC:=Y hok.1;obtain⟨rc,hrc⟩:∃ rc,rc=(stR c (List.range (2*ps.length+1))).2:=⟨_,rfl⟩;obtain⟨nm,hnm⟩:∃ nm,nm=(stR c (List.range (2*ps.length+1))).1:=⟨_,rfl⟩;rw[<-hrc]at ho;rw[<-hnm]at hns HC;have y2:=(show Holds W w.heap.size 46 [.slice AT ps.length cT,.slice AG nG cG,.slice A3 N.length c3]from hR.hs _ List.mem_cons_self)
  have hp3:=h3.lt;have hp4:=h4.lt;have hpz:=hz.lt;have HNI:=Y (NI.start (HL:=uI gz w.heap.size p3 p4 (.slice A3 N.length c3)) (vG:=.slice AG nG cG) hns ho y2 (by intro x hx;simp only[uI,List.mem_cons,List.not_mem_nil,or_false]at hx;rcases hx with rfl|rfl|rfl|rfl|rfl<;>simp<;>omega) (fun x hx=>hR.hs x (List.mem_cons_of_mem _ hx)) hR.raw hdef hR.below hR.size hBw)
  have z0:=(y2.cell 2).trans rfl;have z1:=ak y2 2;have HQ0:=Y hQ0;rw[<-hrc,<-hnm]at HQ0;have HNC:=Y hNC;have HNs:=Y hNs;have HNl:=Y hNl;have HBw:=Y hBw;have HBe:=Y hBe;have HBD:=Y (show B<=D by omega)
  have Hsz:=Y (show p3≠w.heap.size/\p4≠w.heap.size/\gz≠w.heap.size by omega)
  have HPZ:=Y hpz;clear hI hap hRI0 hrow hrow7 e2 e4 em e1 e26 e9 eS hb7 hB7 h3 h4 hz hpz hR hv hv6 hc hsl hok hrc hnm hns ho hp3 hp4 hs7 hB hBw hQ0 hNC hNs hNl hBe hps y2 hD;go_wp2_with fail;clear z0 z1
  go_loopg [8,11] N.length (fun kq v8 v11 w'=>∃(i:Nat) (nn:List Int) (acc:List S89) (vN vX:Value) (qs:List (Value×Value)),v8=.bool true/\v11=.int .i64 (i:Int)/\i+kq=N.length/\aa (acc.length=i)/\aa (jA N.length nn)/\aa (dF N kq i nn acc=dF N N.length 0 nm [])/\aa (NI (fu ps (.slice AG nG cG)) rc B (w.heap.size+1+1+1) (w.heap.size+1+1+1+1) (w.heap.size+1+1) w.heap.size D (uI gz w.heap.size p3 p4 (.slice A3 N.length c3)) (.slice AT ps.length cT) (.slice AG nG cG) ps w00 nn acc vN vX qs w'))
  case atStart=>exact⟨0,nm,[],vN,.slice none 0 0,[],rfl,rfl,by omega,⟨rfl⟩,HC,⟨rfl⟩,HNI⟩
  case round=>
   clear HNI HC;obtain⟨i,nn,acc,vN,vX,qs,rfl,rfl,hi,HA,HC,HF,HNI⟩:=hrel;obtain⟨W0,rfl⟩:∃ W0,W0=wr:=⟨wr,rfl⟩;obtain⟨AN,cN,rfl⟩:=Kd.aD HNI.out.ns.row;have hlen:=HC.out.len;have x7:W0.cell? ⟨w.heap.size+1+1+1+1,0,none⟩=some (.slice AN nn.length cN):=(HNI.out.ns.c2.cell 0).trans rfl
   by_cases hlt:i<nn.length
   . obtain⟨k1,rfl⟩:∃ k1,gk=k1+1:=⟨gk - 1,by omega⟩
     have q1:decide ((i:Int)<(nn.length:Int))=true:=yb (by omega)
     have q2:decide (i<nn.length)=true:=yb (by omega)
     have q3:(0:Int)<=(i:Int):=by omega
     have q4:(i:Int)<(nn.length:Int):=by omega
     have hin:i<1000000000:=by have:=HNl.out;omega
     obtain⟨gN,cap,he,hgw,hgl,_⟩:=Kd.uw HNI.out.ns.row (by omega)
     injection he with he1 he2 he3
     subst he1 he3;have hcl:=(Kd.lG (0:Int) HNI.out.ns.row (i:Int) (by omega) (by omega)).1
     have hxv:=HC.out.val _ (List.getElem_mem hlt);obtain⟨j,hj⟩:∃ j:Nat,nn[i]=(j:Int)+1:=⟨(nn[i] - 1).toNat,by omega⟩
     have hjN:j<N.length:=by omega
     have hrd:qa (0:Int) nn (i:Int)=(j:Int)+1:=by
      unfold qa;rw[Int.toNat_natCast,List.getD_eq_getElem?_getD,List.getElem?_eq_getElem hlt];exact hj
     rw[hrd,Int.toNat_natCast]at hcl;have HJ:=Y (show nn.getD i 0=(j:Int)+1 by rw[List.getD_eq_getElem?_getD,List.getElem?_eq_getElem hlt];exact hj)
     have HGT:=Y (show N.getD j gy=N[j] by rw[List.getD_eq_getElem?_getD,List.getElem?_eq_getElem hjN];rfl)
     have hp3:W0.cell? ⟨p3,0,none⟩=some (.slice A3 N.length c3):=((show Holds W0 p3 44 [.slice A3 N.length c3]from HNI.out.hs _ (List.mem_cons_of_mem _ (List.mem_cons_of_mem _ List.mem_cons_self))).cell 0).trans rfl
     have hp4:W0.cell? ⟨p4,0,none⟩=some (.func (.func 78) #[] #[.pointer (some ⟨p3,0,none⟩)]):=((show Holds W0 p4 138 [.func (.func 78) #[] #[.pointer (some ⟨p3,0,none⟩)]]from HNI.out.hs _ (List.mem_cons_of_mem _ (List.mem_cons_of_mem _ (List.mem_cons_of_mem _ List.mem_cons_self)))).cell 0).trans rfl
     have hNj:=HNs.out _ (List.getElem_mem hjN);have HLt:=Y hlt;have HOF:=Y (Ew N (by have:=HNl.out;omega) A3 c3 ⟨p3,0,none⟩ ⟨p4,0,none⟩ j hjN ⟨by omega,by omega⟩ w00 W0 HNC.out (by rw[<-HBe.out];exact HNI.out.below) hp3 hp4)
     have HNj:=Y hNj;obtain⟨t,ht⟩:∃ t,t=N[j]:=⟨_,rfl⟩;rw[<-ht]at HGT HNj HOF;clear hNj hj hrd he2 hgw hgl hp3 hp4 hxv ht;go_upto_region 13 with(go_at_call 81;refine HOF.out.mono ?_;rintro e w2 ⟨va,x1,rfl,hr,hv1,hb2⟩;obtain⟨Aa,ca,rfl⟩:=Kd.aD hr;have HI1:=Y hv1;obtain⟨Ay,cy,rfl,_,_⟩:=hv1;have HR1:=Y hr;have HB1:=Y hb2;clear hr hb2)
     obtain⟨W3,hW3⟩:∃ W3,W3=w2.alloc (.cells #[.slice Aa (inF N.length t.f0).length ca,.slice Ay t.f1.length cy] 64):=⟨_,rfl⟩;have hb3:Below w2.heap.size w2 W3:=by rw[hW3];exact ae zc _
     have HG:=Y (show Holds W3 w2.heap.size 64 [.slice Aa (inF N.length t.f0).length ca,.slice Ay t.f1.length cy] by rw[hW3];exact aK _ _)
     have HB3:=Y (ag HB1.out HB1.out.size hb3);have HV3:=Y (jN (Kd.aX HR1.out hb3));have HW2:=Y HB1.out.size;have y0:=(HG.out.cell 0).trans rfl;rw[<-hW3];clear hW3 hb3 HR1 HB1 hcl x7;go_upto_region 15 with(go_at_call 76;refine(c98 _ (inF N.length t.f0) _ HV3.out (by have:=HNj.out.1;rw[iB];omega)).mono ?_;rintro e w4 ⟨v0,rfl,hr,hb4⟩;have hy4:=ak (HG.out.below hb4) 0;have hy5:=((HG.out.below hb4).cell 0).trans rfl;obtain⟨A4,c4,rfl⟩:=Kd.aD hr;have HR4:=Y hr;have HB4:=Y hb4;clear hr hb4)
     obtain⟨W5,hW5⟩:∃ W5,W5=w4.setCells w2.heap.size 0 [.slice A4 (inF N.length t.f0).length c4]:=⟨_,rfl⟩;have hs5:bH w4 W5 w2.heap.size:=by rw[hW5];exact dR _ _ _ _
     have hG5:Holds W5 w2.heap.size 64 [.slice A4 (inF N.length t.f0).length c4,.slice Ay t.f1.length cy]:=by rw[hW5];exact eX (vs:=[.slice A4 (inF N.length t.f0).length c4]) (HG.out.below HB4.out) (by show 0+1<=2;decide)
     have HB5:=Y (hs5.below (ag HB3.out HB3.out.size HB4.out) HW2.out);have HR5:=Y (RT.other HR4.out (HG.out.below HB4.out) (by decide) hs5)
     have HR6:=Y (Kd.cB HR5.out HB3.out.size);have HN5:=Y (HNI.out.step HB5.out);have HG5:=Y hG5;rw[show w4.setCell ⟨w2.heap.size,0,none⟩ (.slice A4 (inF N.length t.f0).length c4)=W5 from hW5.symm]
     have x9:W5.cell? ⟨w.heap.size+1+1+1+1+1,0,none⟩=some (.func (.func 99) #[] #[.pointer (some ⟨w.heap.size+1+1+1,0,none⟩),.pointer (some ⟨w.heap.size+1+1+1+1,0,none⟩)]):=((show Holds W5 (w.heap.size+1+1+1+1+1) 163 [.func (.func 99) #[] #[.pointer (some ⟨w.heap.size+1+1+1,0,none⟩),.pointer (some ⟨w.heap.size+1+1+1+1,0,none⟩)]]from HN5.out.hs _ (List.mem_cons_of_mem _ List.mem_cons_self)).cell 0).trans rfl
     have y5:=(hG5.cell 0).trans rfl;have HOI:=Y (show OI .i64 3 W5 B (.slice (some ⟨gN,0,none⟩) nn.length cN) (.slice A4 (inF N.length t.f0).length c4) (inF N.length t.f0)from Kd.cB (Kd.bY (Kd.fO HR6.out) (fun q hq=>⟨trivial,fun e=>by have h1:=Kd.fT HNI.out.ns.row q e.symm;have h2:=hq.2.1;omega⟩)) HNI.out.size)
     have HNUM:=Y (wy (inF N.length t.f0) nn _ _ W5 B _ _ _ HN5.out.ns HOI.out (by have h1:=HNj.out.1;have h2:=HNl.out;have h3:=HC.out.len;rw[iB];omega) (fun x hx=>by have h1:=nk _ _ x hx;have h2:=HNl.out;omega) HN5.out.size (by have:=HBw.out;omega))
     have HC2:=Y (nA HC.out (nk N.length t.f0))
     have HSN:aa (¬ Sn (w.heap.size+1+1) (w.heap.size+1+1+1+1) (.slice (some ⟨gN,0,none⟩) nn.length cN) (.slice A4 (inF N.length t.f0).length c4) w2.heap.size):=⟨fun hs=>by
      rcases Dz HN5.out.ns HOI.out hs HG5.out with⟨_,_,e⟩|⟨_,_,_,e,ht⟩
      . cases e
      . injection e with _ e
        rw[<-e]at ht
        rcases ht with ht|ht<;>exact absurd ht (by decide)⟩
     clear hW5 hs5 hG5 y0 hy4 hy5;go_upto_region 16 with(go_at_call 99;refine HNUM.out.mono ?_;rintro e W6 ⟨rfl,vN',hns',ho',hat,hk⟩;have HN6:=Y (HNI.out.num (by intro y hy;simp only[uI,List.mem_cons,List.not_mem_nil,or_false]at hy;rcases hy with rfl|rfl|rfl|rfl|rfl<;>exact⟨by simp,by simp⟩) HB5.out HR6.out (by have:=HBw.out;omega) (by have:=HBw.out;omega) hns' hat hk);have HO6:=Y ho';have HG6:=Y (hk.holds HG5.out HSN.out);clear hns' ho' hat hk)
     obtain⟨Ar,cr,hvr⟩:∃ Ar cr,Ar=A4/\cr=c4:=⟨_,_,rfl,rfl⟩;have hlt6:∀ k,vX.ownBlock=some k->k<W6.heap.size:=Kd.fT HN6.out.nodes;have hown6:∀ k,vX.ownBlock=some k->B<=k:=Kd.dG HN6.out.nodes;have hne6:∀(g' t':Nat) (cs:List Value),Holds W6 g' t' cs->64≠t'->some g'≠vX.ownBlock:=fun g' t' cs h h1=>Kd.dL HN6.out.nodes h h1
     have hgg:∀ w1,W6.grownBy w1 vX.ownBlock->Holds w1 w.heap.size 46 [.slice AT ps.length cT,.slice AG nG cG,vX]:=fun w1 hg=>aY HN6.out.h2 hg (hne6 _ 46 _ HN6.out.h2 (by decide))
     have hg12:∀ w1,W6.grownBy w1 vX.ownBlock->Holds w1 w2.heap.size 64 [.slice A4 (inF N.length t.f0).length c4,.slice Ay t.f1.length cy]:=fun w1 hg=>aY HG6.out hg (fun e=>by have h1:=Kd.fT HNI.out.nodes _ e.symm;have:=HW2.out;omega)
     have hbw:∀ w1,W6.grownBy w1 vX.ownBlock->Below B w00 w1:=fun w1 hg=>HN6.out.below.grown hg HN6.out.size hown6
     have HQL:=Y HN6.out.els.1;refine pz 11 62 (V16 t.f1 B w.heap.size w2.heap.size qs vX (.slice A4 (inF N.length t.f0).length c4) (.slice Ay t.f1.length cy)) (fun L w1=>W6.grownBy w1 vX.ownBlock/\(L.getD 9 false=false->Kd.R bn 64 w1 B (fun _=>True) vX qs)) (GA 9 vX.ownBlock) (by kernel_rfl) (by rfl) (by kernel_rfl) ?j0 ?jj ?vv ?st ?en
     case j0=>exact⟨cK (bv zc) _,fun _=>Kd.bP HN6.out.nodes⟩
     case jj=>
      intro k L w1 w2' hk hL hk0 hJ hG;refine⟨hJ.1.trans hG.grown,fun h10=>?_⟩
      by_cases he:k=9
      . subst he;rw[Array.getD_eq_getD_getElem?,Array.getElem?_setIfInBounds_self_of_lt (by rw[hL];decide)]at h10
        cases h10
      . rw[getD_set_ne false he]at h10;exact Kd.aX (hJ.2 h10) (hG.other he)
     case vv=>exact fun k j v w1 w2' _ hkj _ h hG=>CG _ _ _ _ _ _ _ _ _ _ _ _ _ hkj h hG
     case st=>
      refine au.cons (fun a w1 L fr hL hj hdf hd K hK=>?_) ?_
      . exact af (gW (i:=2) (by decide) rfl ((fr 2 (by kernel_rfl)).trans rfl)) (hK _ _ (show GA 9 _ _ _ _ from zc) rfl)
      refine au.cons (fun a w1 L fr hL hj hdf hd K hK=>?_) ?_
      . exact af (jJ rfl (hd 0 49 (by kernel_rfl)) (((hgg w1 hj.1).cell 2).trans rfl)) (hK _ _ (show GA 9 _ _ _ _ from zc) rfl)
      refine au.cons (fun a w1 L fr hL hj hdf hd K hK=>?_) ?_
      . exact af (tZ (i:=0) (by decide) rfl ((fr 12 (by kernel_rfl)).trans rfl)) (hK _ _ (show GA 9 _ _ _ _ from zc) rfl)
      refine au.cons (fun a w1 L fr hL hj hdf hd K hK=>?_) ?_
      . exact af (jh rfl (hd 2 51 (by kernel_rfl)) (((hg12 w1 hj.1).cell 0).trans rfl)) (hK _ _ (show GA 9 _ _ _ _ from zc) rfl)
      refine au.cons (fun a w1 L fr hL hj hdf hd K hK=>?_) ?_
      . exact af (tZ (i:=1) (by decide) rfl ((fr 12 (by kernel_rfl)).trans rfl)) (hK _ _ (show GA 9 _ _ _ _ from zc) rfl)
      refine au.cons (fun a w1 L fr hL hj hdf hd K hK=>?_) ?_
      . exact af (qN rfl (hd 4 53 (by kernel_rfl)) (((hg12 w1 hj.1).cell 1).trans rfl)) (hK _ _ (show GA 9 _ _ _ _ from zc) rfl)
      refine au.cons (fun a w1 L fr hL hj hdf hd K hK=>?_) ?_
      . have e1:a.eval (.tmp 54)=(.slice Ay t.f1.length cy):=(hd 5 54 (by kernel_rfl))
        refine ek Tryz.func77 (by kernel_rfl) rfl #[(.slice Ay t.f1.length cy)] rfl (by simp only[List.map_toArray,List.map_cons,List.map_nil,e1]) ?_
        refine(c114 _ t.f1 _ (HI1.out.below (by rw[<-HBe.out];exact hbw w1 hj.1)) (by have:=HNj.out.2;omega)).mono ?_
        rintro e w2' ⟨v0,rfl,hr,hb2⟩;exact⟨_,rfl,hK _ _ (show GA 9 _ _ _ _ from hb2) (show OI .u64 31 _ _ _ _ _ from Kd.cB (Kd.bY (Kd.fO hr) (fun q hq=>⟨trivial,fun e=>by have h1:=hlt6 q e.symm;have h2:=hj.1.size;have h3:=hq.2.1;omega⟩)) (by have:=hj.1.size;have:=HN6.out.size;omega))⟩
      refine au.cons (fun a w1 L fr hL hj hdf hd K hK=>?_) ?_
      . have e3:a.eval (.tmp 52)=.slice A4 (inF N.length t.f0).length c4:=(hd 3 52 (by kernel_rfl))
        have h6:OI .u64 31 w1 B vX (a.eval (.tmp 55)) t.f1:=(hd 6 55 (by kernel_rfl))
        obtain⟨Ab,cb,eb⟩:=Kd.aD h6;rw[eb]at h6;exact af (qg rfl e3 eb) (hK _ _ (show GA 9 _ _ _ _ from zc) (show A16a _ _ _ _ _ _ from⟨_,rfl,h6⟩))
      refine au.cons (fun a w1 L fr hL hj hdf hd K hK=>?_) ?_
      . obtain⟨vb,e7,h6⟩:A16a t.f1 B vX (.slice A4 (inF N.length t.f0).length c4) (a.eval (.tmp 56)) w1:=(hd 7 56 (by kernel_rfl))
        obtain⟨Ab,cb,rfl⟩:=Kd.aD h6;exact af (z8 rfl e7) (hK _ _ (show GA 9 _ _ _ _ from ae zc _) (show A16b _ _ _ _ _ _ from⟨_,w1.heap.size,rfl,aK _ _,fun e=>by(have h1:=hlt6 _ e.symm;have h2:=hj.1.size;omega),Kd.bF h6 _⟩))
      refine au.cons (fun a w1 L fr hL hj hdf hd K hK=>?_) ?_
      . obtain⟨vb,Ap,e8,hh9,hne9,h6⟩:A16b t.f1 B vX (.slice A4 (inF N.length t.f0).length c4) (a.eval (.tmp 57)) w1:=(hd 8 57 (by kernel_rfl))
        have e1:a.eval (.tmp 50)=vX:=(hd 1 50 (by kernel_rfl))
        have hrow:=hj.2 hL;have hc9:Kd.C bn w1 (some ⟨Ap,0,none⟩) 1 [((.slice A4 (inF N.length t.f0).length c4),vb)]:=kX bn hh9 (oz (zB w1 ((.slice A4 (inF N.length t.f0).length c4),vb) rfl (jN h6).one)) (by simp)
        refine gQ bn (w0:=w00) B 44 64 (.agg #[.slice none 0 0,.slice none 0 0]) 48 rfl Tryz.underlying44 sQ rfl (by decide) (by decide) vX qs [((.slice A4 (inF N.length t.f0).length c4),vb)] (some ⟨Ap,0,none⟩) 1 1 (fun _=>True) e1 e8 (fun _ _ _ _ h=>h) (fun _ _=>trivial) hrow hc9 (hbw w1 hj.1) (by have:=hj.1.size;have:=HN6.out.size;omega) (by have:=HQL.out;have:=HA.out;have:=HNl.out;have:=HLt.out;have:=HC.out.len;omega) ?_
        intro v1 w2' hr1 hb1 hg1 hat;exact hK _ _ (show GA 9 _ _ _ _ from GA.same hg1) (show A16c _ _ _ _ _ _ from⟨_,hr1,(Kd.bY (Kd.lQ h6 hg1 hat) (fun _ _=>trivial))⟩)
      refine au.cons (fun a w1 L fr hL hj hdf hd K hK=>?_) ?_
      . exact af (gW (i:=2) (by decide) rfl ((fr 2 (by kernel_rfl)).trans rfl)) (hK _ _ (show GA 9 _ _ _ _ from zc) rfl)
      exact au.nil
     case en=>
      intro vs w' L hJ hl hv;have h9:A16c t.f1 B qs (.slice A4 (inF N.length t.f0).length c4) (vs 9) w':=hv 9 58 (by decide) (by kernel_rfl)
      have h10:vs 10=.pointer (some ⟨w.heap.size,2,none⟩):=hv 10 59 (by decide) (by kernel_rfl)
      obtain⟨b1,hr,hu⟩:=h9;obtain⟨AZ,cZ,eZ⟩:=Kd.aD hr;rw[eZ]at hr;have hle:(qs++[(Value.slice A4 (inF N.length t.f0).length c4,b1)]).length=qs.length+1:=by simp
      rw[hle]at eZ hr;have hh:=hgg w' hJ.1;refine ll rfl ?_;simp only[List.take_succ_cons,List.take_zero,bA,Act.put,zj,zr,ya,h10,eZ];refine Wv.wp_skip (w':=w'.setCells w.heap.size 2 [.slice AZ (qs.length+1) cZ]) rfl ?hr ?_
      case hr=>exact qX (.inr (.inl rfl)) rfl (by rfl) (by rfl) hh (by show 2<3;decide)
      go_wp2_with fail;go_roundg k1
      case measure=>have:=HLt.out;omega
      case rel=>
       have hstep:dF N (k1+1) i nn acc=dF N k1 (i+1) (bC nn (inF N.length t.f0)).1 (acc++[⟨(bC nn (inF N.length t.f0)).2,t.f1⟩]):=by
        have h1:((j:Int)+1).toNat - 1=j:=by omega
        rw[dF,if_pos HLt.out,HJ.out,h1,HGT.out]
       refine⟨i+1,_,_,_,_,_,rfl,rfl,by omega,⟨by rw[List.length_append,HA.out];rfl⟩,HC2,⟨hstep.symm.trans HF.out⟩,⟨HN6.out.push ?_ hJ.1 HBw.out hr HO6.out hu⟩⟩
       intro x hx;have hz:=Hsz.out;simp only[uI,List.mem_cons,List.not_mem_nil,or_false]at hx
       rcases hx with rfl|rfl|rfl|rfl|rfl
       . exact⟨by show(46:Nat)≠64;decide,by show w.heap.size+1≠w.heap.size;omega⟩
       . exact⟨by show(163:Nat)≠64;decide,by show w.heap.size+1+1+1+1+1≠w.heap.size;omega⟩
       . exact⟨by show(44:Nat)≠64;decide,hz.1⟩
       . exact⟨by show(138:Nat)≠64;decide,hz.2.1⟩
       . exact⟨by show(46:Nat)≠64;decide,hz.2.2⟩
   . have q1:decide ((i:Int)<(nn.length:Int))=false:=yd (by omega)
     have q2:decide (i<nn.length)=false:=yd (by omega)
     have hfin:dF N gk i nn acc=(nn,acc):=yX N gk i nn acc (by omega)
     have HFin:=Y (HF.out.symm.trans hfin);clear hfin;obtain⟨AX,cX,rfl⟩:=Kd.aD HNI.out.nodes;have hz:=HNI.out.hs (w.heap.size+1,46,z89) List.mem_cons_self;have HGZ:=Y (show Holds W0 gz 46 z89 from HNI.out.hs _ (List.mem_cons_of_mem _ (List.mem_cons_of_mem _ (List.mem_cons_of_mem _ (List.mem_cons_of_mem _ List.mem_cons_self)))))
     go_wp2_with (first
      |((with_reducible refine aW (N:=60) rfl ?_);refine bE (g:=w.heap.size) (off:=0) (t:=46) (cs:=[.slice AT ps.length cT,.slice AG nG cG,.slice AX qs.length cX]) (seg:=[.slice AT ps.length cT,.slice AG nG cG,.slice AX qs.length cX]) rfl rfl (by rfl) HNI.out.h2 (by rfl) Tryz.underlying46 rfl eU ?_)
      |((with_reducible refine bg (t:=46) (p:=4) rfl ?_);refine aG rfl (ty:=46) rfl rfl (g:=w.heap.size+1) (off:=0) (vs:=#[.slice AT ps.length cT,.slice AG nG cG,.slice AX qs.length cX]) rfl rfl hz (by show 3<=3;decide) eU (by simp[Value.oneCell']) ?_;intro w5 hh5 hs5;have HH5:=Y hh5;have HS5:=Y hs5;clear hh5 hs5))
     rw[HQ0.out]
     have hdne:D≠w.heap.size+1:=fun e=>by
      have h3:=HNI.out.dfr.symm.trans (e▸(show _=_ from hz))
      injection h3 with h3
      cases h3
     refine⟨by simp,.inl ⟨_,_,rfl,run_takeDeferred ((HS5.out.block D hdne).trans HNI.out.dfr),?_⟩⟩
     obtain⟨c1,c2,c3,c4,c5⟩:=HNI.out.close hz HS5.out HBD.out (Nat.le_trans HBw.out (Nat.le_succ _));refine⟨_,ql rfl _ _ (w.heap.size+1) 46 #[.slice AT ps.length cT,.slice AG nG cG,.slice AX qs.length cX] (0,0) _ rfl ((World.putObj_heap_other hdne.symm).trans HH5.out) Tryz.underlying46 rfl eU,?_⟩;rw[HFin.out];refine⟨_,qs,rfl,c1,c2,c3,⟨_,c4⟩,c5,?_⟩;refine(World.putObj_heap_other (fun e=>?_)).trans (HS5.out.holds HGZ.out (by have:=HPZ.out;omega))
     have h3:=HNI.out.dfr.symm.trans (e▸(show _=_ from HGZ.out))
     injection h3 with h3
     cases h3
 case stop=>
  intro D cc pre W _ _ h _;exact h.elim
end
end Go.Proofs.YtglikkmmbdnmbaaGreat.Im
namespace Go.Proofs.YtglikkmmbdnmbaaGreat.Wv
open Go.RowKit Q7
set_option linter.unusedVariables false
set_option linter.unusedSimpArgs false
section
section
variable {P:Program} {ops:Array Oper} {Q:Exit→Act→World→Prop}
structure InvR (R:Nat->Nat->Value->Value->Prop)(V:Nat->Value->World->Prop)(J:Array Bool->World->Prop)(ops:Array Oper)(n:Nat)(a0:Act)(L:Array Bool)(a:Act)(w:World):Prop where
 inv:Inv V J ops n a0 L a w
 rel:∀ j k s t o,j<n->k<n->aH ops j=some s->aH ops k=some t->ops[k]? =some o->lI ops o j s=true->L.getD j false=true->L.getD k false=true->R j k (a.eval (.tmp s)) (a.eval (.tmp t))
def wT (R:Nat->Nat->Value->Value->Prop)(P:Program)(Q:Exit->Act->World->Prop)(ops:Array Oper)(n:Nat)(V:Nat->Value->World->Prop)(J:Array Bool->World->Prop)(G:Nat->World->World->Prop)(a0:Act)(k:Nat)(o:Oper):Prop:=
 ∀ a w L,(∀ t,noB ops n t=true->a.eval (.tmp t)=a0.eval (.tmp t))->L.getD k false=false->J L w->a.defers=a0.defers->
  (∀ j t,lI ops o j t=true->V j (a.eval (.tmp t)) w)->
  (∀ j i s t oi,lI ops o j s=true->lI ops o i t=true->ops[i]? =some oi->lI ops oi j s=true->R j i (a.eval (.tmp s)) (a.eval (.tmp t)))->
  ∀ K:Act->World->Prop,(∀ v w',G k w w'->V k v w'->(∀ j s,lI ops o j s=true->R j k (a.eval (.tmp s)) v)->K (a.put o.dst v) w')->Oper.wp P o a w K Q
def eP (R:Nat->Nat->Value->Value->Prop)(P:Program)(Q:Exit->Act->World->Prop)(ops:Array Oper)(n:Nat)(V:Nat->Value->World->Prop)(J:Array Bool->World->Prop)(G:Nat->World->World->Prop)(a0:Act):Nat->List Oper->Prop
 |_,[]=>True
 |k,o :: r=>wT R P Q ops n V J G a0 k o/\eP R P Q ops n V J G a0 (k+1) r
section
variable {R:Nat→Nat→Value→Value→Prop} {n:Nat} {V:Nat→Value→World→Prop} {J:Array Bool→World→Prop} {G:Nat→World→World→Prop} {a0:Act}
theorem eP.nil {k:Nat}:eP R P Q ops n V J G a0 k []:=trivial
theorem eP.cons {k:Nat}{o:Oper}{r:List Oper}(h:wT R P Q ops n V J G a0 k o)(hr:eP R P Q ops n V J G a0 (k+1) r):eP R P Q ops n V J G a0 k (o :: r):=⟨h,hr⟩
theorem eP.at:∀{l:List Oper} {k i:Nat} {o:Oper},eP R P Q ops n V J G a0 k l->l[i]? =some o->wT R P Q ops n V J G a0 (k+i) o
 |[],_,_,_,_,h=>by simp at h
 |o' :: r,k,0,o,hs,h=>by
  obtain rfl:o'=o:=by simpa using h
  exact hs.1
 |o' :: r,k,i+1,o,hs,h=>by
  have:=eP.at hs.2 (i:=i) (o:=o) (by simpa using h)
  rwa [show k+1+i=k+(i+1) by omega]at this
end
theorem Bf {n N:Nat}(hw:Well ops N n){a0:Act}(hN:a0.tmps.size=N){R:Nat->Nat->Value->Value->Prop}{V:Nat->Value->World->Prop}{J:Array Bool->World->Prop}{G:Nat->World->World->Prop}
 (hJ:∀ k L w w',k<n->L.size=ops.size->L.getD k false=false->J L w->G k w w'->J (L.setIfInBounds k true) w') (hV:∀ i j v w w',i<n->i≠j->Region.dJ .any ops i ops.size j=false->V j v w->G i w w'->V j v w')
 (hstep:∀ i o,ops[i]? =some o->i<n->wT R P Q ops n V J G a0 i o)
 (hend:∀ a w L,J L w->(∀ j,j<n->L.getD j false=true)->a.defers=a0.defers->(∀ j t,j<n->aH ops j=some t->V j (a.eval (.tmp t)) w)->a=bA (fun j=>match aH ops j with|some t=>a.eval (.tmp t)|none=>undef) (ops.toList.take n) 0 a0->upto P ops Q n a w):
 ∀(fuel:Nat) (L:Array Bool) (a:Act) (w:World),unl ops L<=fuel->InvR R V J ops n a0 L a w->wpAny P .any ops Q fuel L a w:=by
 have hdone:∀(L:Array Bool) (a:Act) (w:World),Inv V J ops n a0 L a w->Region.ready .any ops L=[]->Q .normal a w:=by
  intro L a w hI hr;have hall:=jy hI.lsize hw.edge hr
  have hsz:ops.size=n:=by
   rcases hw.size with h|⟨h,_⟩
   . exact h
   . have h1:=hall n (by omega)
     rw[hI.last n (Nat.le_refl _)]at h1;cases h1
  have:=(hend a w L hI.below (fun j hj=>hall j (by omega)) hI.defers (fun j t hj ht=>hI.has j t hj ht (hall j (by omega))) (lW hw hN hI.size hI.defers hI.frame)).out
  rw[Array.getElem?_eq_none (by omega)]at this
  exact this
 intro fuel
 induction fuel with
 |zero=>
  intro L a w hu hIR;have hI:=hIR.inv
  have hall:∀ j,j<ops.size->L.getD j false=true:=by
   intro j hj;cases hL:L.getD j false with
   |true=>rfl
   |false=>
    have:0<unl ops L:=List.countP_pos_iff.2 ⟨j,List.mem_range.2 hj,by rw[di (by have:=hI.lsize;omega) true false,hL];rfl⟩
    omega
  have hr:=ja hI.lsize hall;exact⟨hr,hdone L a w hI hr⟩
 |succ fuel ih=>
  intro L a w hu hIR;have hI:=hIR.inv;refine⟨hdone L a w hI,fun i hi=>?_⟩
  obtain⟨hiun,o,ho,hafter⟩:=mem_ready.1 hi;have hlt:=(Array.getElem?_eq_some_iff.1 ho).1;have hg:=hw.guard i o ho;have hunl:=lN hI.lsize hlt hiun;have hclosed:=hI.closed.set hi;unfold wpOp;rw[ho];simp only;have hwant:Region.wanted o (yielded ops a.tmps)=true:=by unfold Region.wanted;rw[hg]
  rw[if_pos hwant];left
  by_cases hin:i<n
  . refine hstep i o ho hin a w L (fun t ht=>fZ (hI.frame t (mZ ht))) (by rw[di (by have:=hI.lsize;omega) false true];exact hiun) hI.below hI.defers (fun j t hj=>?_) (fun j i' s t oi hj hi' hoi hji=>?_) _ (fun v w' hb hv hrr=>?_)
    . obtain⟨⟨e,he,hb,rfl⟩,ht⟩:=jY hj;have:=hw.edge i o ho e he hb;exact hI.has _ t (by omega) ht (hafter e he hb)
    . obtain⟨⟨e1,he1,hb1,rfl⟩,hs1⟩:=jY hj;obtain⟨⟨e2,he2,hb2,rfl⟩,ht2⟩:=jY hi';have h1:=hw.edge i o ho e1 he1 hb1;have h2:=hw.edge i o ho e2 he2 hb2;exact hIR.rel _ _ s t oi (by omega) (by omega) hs1 ht2 hoi hji (hafter e1 he1 hb1) (hafter e2 he2 hb2)
    . refine ih _ _ _ (by omega) ⟨⟨?_,?_,?_,?_,?_,hclosed,?_,?_⟩,?_⟩
      . rw[kP,hI.size]
      . rw[put_defers,hI.defers]
      . intro t ht;rw[iq _ _ _ _ (fun hd=>ht i hin (by unfold aH;rw[ho];exact hd)),hI.frame t ht]
      . intro j t hj ht hl
        by_cases hji:i=j
        . subst hji;have hd:o.dst=some t:=by unfold aH at ht;rw[ho]at ht;exact ht
          have htN:=hw.slot i t ht;rw[hd,jT (mo a t v (by rw[hI.size,hN];exact htN))]
          exact hv
        . rw[getD_set_ne false hji]at hl;have hd:o.dst≠some t:=fun hd=>hji (hw.apart i j t (by unfold aH;rw[ho];exact hd) ht)
          rw[fZ (iq a o.dst v t hd)];refine hV i j _ w w' hin hji ?_ (hI.has j t hj ht hl) hb;cases hrc:Region.dJ .any ops i ops.size j with
          |false=>rfl
          |true=>
           have h1:=Region.iM hI.closed _ _ hrc hl;rw[di (by have:=hI.lsize;omega) false true,hiun]at h1
           cases h1
      . exact hJ i L w w' hin hI.lsize (by rw[di (by have:=hI.lsize;omega) false true];exact hiun) hI.below hb
      . rw[Array.size_setIfInBounds,hI.lsize]
      . intro j hj;rw[getD_set_ne false (show i≠j by omega)]
        exact hI.last j hj
      . intro j k s t ok hj hk hs ht hok hdep hlj hlk
        have hjk:j<k:=by
         obtain⟨⟨e,he,hb2,rfl⟩,_⟩:=jY hdep;exact hw.edge k ok hok e he hb2
        by_cases hki:i=k
        . subst hki;obtain rfl:o=ok:=Option.some.inj (ho.symm.trans hok);have hd:o.dst=some t:=by unfold aH at ht;rw[ho]at ht;exact ht
          have htN:=hw.slot i t ht;have hd2:o.dst≠some s:=fun hd2=>(show i≠j by omega) (hw.apart i j s (by unfold aH;rw[ho];exact hd2) hs)
          rw[fZ (iq a o.dst v s hd2),hd,jT (mo a t v (by rw[hI.size,hN];exact htN))]
          exact hrr j s hdep
        . by_cases hji:i=j
          . subst hji;rw[getD_set_ne false hki]at hlk;obtain⟨⟨e,he,hb2,e2⟩,_⟩:=jY hdep;have h3:=hI.closed k ok hok hlk e he hb2;rw[e2,di (by have:=hI.lsize;omega) false true,hiun]at h3
            cases h3
          . rw[getD_set_ne false hki]at hlk;rw[getD_set_ne false hji]at hlj;have hd1:o.dst≠some s:=fun hd=>hji (hw.apart i j s (by unfold aH;rw[ho];exact hd) hs)
            have hd2:o.dst≠some t:=fun hd=>hki (hw.apart i k t (by unfold aH;rw[ho];exact hd) ht)
            rw[fZ (iq a o.dst v s hd1),fZ (iq a o.dst v t hd2)];exact hIR.rel j k s t ok hj hk hs ht hok hdep hlj hlk
  . obtain⟨hsz,hreach⟩:ops.size=n+1/\∀ j,j<n->Region.dJ .any ops j ops.size n=true:=by
     rcases hw.size with h|h
     . omega
     . exact h
    have hni:i=n:=by omega
    subst hni;have hun0:L.getD i false=false:=hI.last i (Nat.le_refl _)
    have hall:∀ j,j<i->L.getD j false=true:=by
     intro j hj;cases hL:L.getD j false with
     |true=>rfl
     |false=>
      have:=Region.fV hI.closed (hreach j hj) (by rw[di (by have:=hI.lsize;omega) true false];exact hL)
      exact absurd hi this
    have hh:=(hend a w L hI.below hall hI.defers (fun j t hj ht=>hI.has j t hj ht (hall j hj)) (lW hw hN hI.size hI.defers hI.frame)).out
    rw[ho]at hh;refine Oper.wp_mono (fun a' w' hq=>?_) hh
    have hsz':(L.setIfInBounds i true).size=ops.size:=by rw[Array.size_setIfInBounds,hI.lsize]
    have hr:Region.ready .any ops (L.setIfInBounds i true)=[]:=ja hsz' (fun j hj=>by
     by_cases hji:i=j
     . subst hji;rw[Array.getD_eq_getD_getElem?,Array.getElem?_setIfInBounds_self_of_lt (by have:=hI.lsize;omega)]
       rfl
     . rw[getD_set_ne false hji]
       exact hall j (by omega))
    cases fuel with
    |zero=>exact⟨hr,hq⟩
    |succ f=>exact⟨fun _=>hq,by rw[hr];intro j hj;cases hj⟩
theorem weaveR {id:Nat}{a0:Act}{w0:World}(n N:Nat)(R:Nat->Nat->Value->Value->Prop)(V:Nat->Value->World->Prop)(J:Array Bool->World->Prop)(G:Nat->World->World->Prop)(hm:P.follows .mixedOrders=true)(hN:a0.tmps.size=N)(hwell:rM ops N n=true)
 (hJ0:J (Array.replicate ops.size false) w0.drew) (hJ:∀ k L w w',k<n->L.size=ops.size->L.getD k false=false->J L w->G k w w'->J (L.setIfInBounds k true) w') (hV:∀ i j v w w',i<n->i≠j->Region.dJ .any ops i ops.size j=false->V j v w->G i w w'->V j v w') (hstep:eP R P Q ops n V J G a0 0 (ops.toList.take n))
 (hend:∀(vs:Nat->Value) w L,J L w->(∀ j,j<n->L.getD j false=true)->(∀ j t,j<n->aH ops j=some t->V j (vs j) w)->upto P ops Q n (bA vs (ops.toList.take n) 0 a0) w):
 (Code.region id ops true).wp P Q a0 w0:=by
 have hw:=uW hwell;refine wp_region_any hm (Bf (R:=R) hw hN hJ hV (fun i o ho hi=>?_) (fun a w L hb hl _ hh he=>?_) _ _ _ _ ?_ ?_)
 . have h:=eP.at hstep (i:=i) (o:=o) (by rw[List.getElem?_take_of_lt hi,Array.getElem?_toList];exact ho)
   rwa [Nat.zero_add]at h
 . rw[he];refine hend _ w L hb hl (fun j t hj ht=>?_)
   simp only[ht];exact hh j t hj ht
 . unfold unl;refine Nat.le_trans List.countP_le_length ?_;rw[List.length_range];exact Nat.le_refl _
 . have hlf:∀ j,(Array.replicate ops.size false).getD j false=false:=fun j=>by
    rw[Array.getD_eq_getD_getElem?]
    by_cases h:j<ops.size
    . rw[Array.getElem?_eq_getElem (by rw[Array.size_replicate];exact h),Array.getElem_replicate];rfl
    . rw[Array.getElem?_eq_none (by rw[Array.size_replicate];omega)];rfl
   exact⟨⟨rfl,rfl,fun _ _=>rfl,fun j t _ _ h=>by(rw[hlf]at h;cases h),hJ0,fun j o _ h=>by(rw[hlf]at h;cases h),by rw[Array.size_replicate],fun j _=>hlf j⟩,fun j k s t o _ _ _ _ _ _ h=>by rw[hlf]at h;cases h⟩
end
end
end Go.Proofs.YtglikkmmbdnmbaaGreat.Wv
namespace Go.Proofs.YtglikkmmbdnmbaaGreat.Im
open Go.RowKit Q7
open YtglikkmmbdnmbaaGreat.Own PCan Wv
set_option linter.unusedVariables false
set_option linter.unusedSimpArgs false
section
theorem set2_at (l:List Value)(i:Nat)(a b:Value)(j:Nat)(hi:2*i+2<=l.length):(((l.set (i*2) a).set (i*2+1) b).drop (j*2)).take 2=if j=i then[a,b]else(l.drop (j*2)).take 2:=by
 apply List.ext_getElem?;intro k
 by_cases hk:k<2
 . rw[List.getElem?_take_of_lt hk,List.getElem?_drop]
   by_cases hj:j=i
   . rw[if_pos hj];subst hj
     rcases(show k=0\/k=1 by omega)with rfl|rfl
     . rw[List.getElem?_set_ne (by omega),Nat.add_zero,List.getElem?_set_self (by omega)]
       rfl
     . rw[List.getElem?_set_self (by rw[List.length_set];omega)]
       rfl
   . rw[if_neg hj,List.getElem?_take_of_lt hk,List.getElem?_drop,List.getElem?_set_ne (by omega),List.getElem?_set_ne (by omega)]
 . rw[List.getElem?_eq_none (by rw[List.length_take];omega)]
   split
   . rw[List.getElem?_eq_none (by simp;omega)]
   . rw[List.getElem?_eq_none (by rw[List.length_take];omega)]
theorem raw_put {e B:Nat}{ok:Nat->Prop}{W:World}{g n c:Nat}{ps:List (Value×Value)}(h:Kd.R bn e W B ok (.slice (some ⟨g,0,none⟩) n c) ps)(i:Nat)(hi:i<ps.length)(p:Value×Value)(h1:p.1.oneCell'=true)(h2:p.2.oneCell'=true):
 Kd.R bn e (W.setCells g (i*2) [p.1,p.2]) B ok (.slice (some ⟨g,0,none⟩) n c) (ps.set i p)/\W.grownBy (W.setCells g (i*2) [p.1,p.2]) (some g):=by
 obtain⟨rfl,_⟩:=Kd.bI h;obtain⟨h0,inner,ho,hr⟩:=h;have st1:=ho.stored (i*2) p.1;have st2:=st1.1.stored (i*2+1) p.2;have hl:inner.length=ps.length*2:=hr.1;refine⟨⟨h0,((inner.set (i*2) p.1).set (i*2+1) p.2),by rw[List.length_set];exact st2.1,by simpa using hr.1,fun j q hq=>?_⟩,st1.2.trans st2.2⟩
 show(((inner.set (i*2) p.1).set (i*2+1) p.2).drop (j*2)).take 2=_/\_
 rw[set2_at inner i p.1 p.2 j (by omega)]
 by_cases hj:j=i
 . subst hj;rw[List.getElem?_set_self hi]at hq;injection hq with hq
   subst hq;rw[if_pos rfl];exact⟨rfl,h1,h2⟩
 . rw[List.getElem?_set_ne (fun e=>hj e.symm)]at hq
   rw[if_neg hj];exact hr.2 j q hq
def Ap (L:List Value):Prop:=∀ j k q,k≠j->(L.getD k (.slice none 0 0)).ownBlock=some q->(L.getD j (.slice none 0 0)).ownBlock≠some q
theorem ap_nil:Ap []:=fun j k q _ h=>by simp[Value.ownBlock]at h
theorem Di (L:List Value)(v:Value)(j:Nat):(L++[v]).getD j (.slice none 0 0)=if j<L.length then L.getD j (.slice none 0 0)else if j=L.length then v else .slice none 0 0:=by
 rw[List.getD_eq_getElem?_getD,List.getD_eq_getElem?_getD]
 split
 . rw[List.getElem?_append_left (by assumption)]
 . rw[List.getElem?_append_right (by omega)]
   split
   . rename_i h
     rw[h,Nat.sub_self];rfl
   . rw[List.getElem?_eq_none (by simp;omega)]
     rfl
theorem sF (L:List Value)(j:Nat)(q:Nat)(h:(L.getD j (.slice none 0 0)).ownBlock=some q):L.getD j (.slice none 0 0)∈L:=by
 rw[List.getD_eq_getElem?_getD]at h ⊢;cases hj:L[j]? with
 |none=>rw[hj]at h;simp[Value.ownBlock]at h
 |some u=>exact List.mem_of_getElem? hj
theorem Ap.push {L:List Value}{v:Value}(h:Ap L)(hv:∀ u∈L,∀ q,u.ownBlock=some q->v.ownBlock≠some q):Ap (L++[v]):=by
 intro j k q hkj hk hj;rw[Di]at hk hj
 by_cases h1:k<L.length
 . rw[if_pos h1]at hk
   by_cases h2:j<L.length
   . rw[if_pos h2]at hj;exact h j k q hkj hk hj
   . rw[if_neg h2]at hj
     split at hj
     . exact hv _ (sF L k q hk) q hk hj
     . simp[Value.ownBlock]at hj
 . rw[if_neg h1]at hk
   split at hk
   . rename_i hke
     by_cases h2:j<L.length
     . rw[if_pos h2]at hj;exact hv _ (sF L j q hj) q hj hk
     . rw[if_neg h2,if_neg (by omega)]at hj
       simp [Value.ownBlock]at hj
   . simp[Value.ownBlock]at hk
def inT (n:Nat)(t:S88):S88:=⟨inF n t.f0,inF n t.f1⟩
structure CI (T:List S88)(Gs:List Int)(n B g5:Nat)(HL:List (Nat×Nat×List Value))(vT vG vN:Value)(w00:World)(i:Nat)(qs rest:List (Value×Value))(W:World):Prop where
 raw:Kd.R bn 61 W B (fun _=>True) vT (qs++rest)
 done:Els S88.f0 S88.f1 .i64 3 W B (.slice none 0 0) qs ((T.take i).map (inT n))
 todo:Els S88.f0 S88.f1 .i64 3 W B (.slice none 0 0) rest (T.drop i)
 apart:Ap (qs.flatMap fun p=>[p.1,p.2])
 glob:Kd.R (Kd.int .i64) 3 W B (fun _=>True) vG Gs
 h5:Holds W g5 46 [vT,vG,vN]
 hs:∀ x∈HL,Holds W x.1 x.2.1 x.2.2
 below:Below B w00 W
 size:B<=W.heap.size
section
variable {T:List S88} {Gs:List Int} {n B g5 i:Nat} {HL:List (Nat×Nat×List Value)} {vT vG vN:Value} {w00:World} {qs rest:List (Value×Value)} {W W':World}
theorem CI.flow (h:CI T Gs n B g5 HL vT vG vN w00 i qs rest W)(hb:Below W.heap.size W W'):CI T Gs n B g5 HL vT vG vN w00 i qs rest W':=
 ⟨Kd.aX h.raw hb,h.done.below hb,h.todo.below hb,h.apart,Kd.aX h.glob hb,h.h5.below hb,fun x hx=>(h.hs x hx).below hb,ag h.below h.size hb,Nat.le_trans h.size hb.size⟩
theorem Els.zD {k:IntKind}{e:Nat}{α:Type}{f0 f1:α->List Int}{v:Value}{U:List α}(h:Els f0 f1 k e W B v qs U):∀ u∈(qs.flatMap fun p=>[p.1,p.2]),∀ q,u.ownBlock=some q->q<W.heap.size:=by
 intro u hu q hq;obtain⟨p,hp,hu⟩:=List.mem_flatMap.1 hu;obtain⟨j,hj⟩:=List.mem_iff_getElem?.1 hp;have hjl:=(List.getElem?_eq_some_iff.1 hj).1;have hl:=h.1;have h2:=h.2 j p _ hj (List.getElem?_eq_getElem (by omega))
 rcases List.mem_cons.1 hu with rfl|hu
 . exact Kd.fT h2.1 q hq
 . rcases List.mem_cons.1 hu with rfl|hu
   . exact Kd.fT h2.2 q hq
   . cases hu
theorem CI.step {W1:World}{gT cT nT:Nat}{a b:Value}{t:S88}(h:CI T Gs n B g5 HL (.slice (some ⟨gT,0,none⟩) nT cT) vG vN w00 i qs rest W)(hHL:∀ x∈HL,x.2.1≠61)(hq:qs.length=i)(hT:T.drop i=t :: T.drop (i+1))(htk:T.take (i+1)=T.take i++[t])(hb:Below W.heap.size W W1)
 (ha:Kd.R (Kd.int .i64) 3 W1 W.heap.size (fun _=>True) a (inF n t.f0)) (hbb:Kd.R (Kd.int .i64) 3 W1 W.heap.size (fun _=>True) b (inF n t.f1)) (hab:∀ q,a.ownBlock=some q->b.ownBlock≠some q):
 CI T Gs n B g5 HL (.slice (some ⟨gT,0,none⟩) nT cT) vG vN w00 (i+1) (qs++[(a,b)]) rest.tail (W1.setCells gT (i*2) [a,b]):=by
 have h1:=h.flow hb;have hrl:rest.length=(T.drop i).length:=h.todo.1;rw[hT]at hrl
 obtain⟨p0,r,hr⟩:∃ p0 r,rest=p0 :: r:=by
  cases rest with
  |nil=>simp at hrl
  |cons p0 r=>exact⟨p0,r,rfl⟩
 subst hr;have hput:=raw_put h1.raw i (by rw[List.length_append,hq];simp) (a,b) (jN ha).one (jN hbb).one
 have hset:(qs++p0 :: r).set i (a,b)=(qs++[(a,b)])++r:=by
  rw[List.set_append_right _ _ (by omega),hq,Nat.sub_self,zr,List.append_assoc]
  rfl
 rw[hset]at hput;have hk:=Kp.jQ hput.2
 have hty:∀(k:Nat) (cs:Array Value) (t:TypeId) (fr:Nat×Nat),W1.heap[k]? =some (.cells cs t fr)->t≠61->¬ (some k=some gT):=fun k cs t fr ho ht e=>by
  injection e with e
  subst e;obtain⟨inner,hw⟩:=Kd.gF h1.raw;obtain⟨cells,hc⟩:=dO hw k rfl;rw[ho]at hc;injection hc with hc
  injection hc with _ hc
  exact ht hc
 have hri:∀{e:Nat} {ok:Nat->Prop} {u:Value} {ys:List Int},e≠61->Kd.R (Kd.int .i64) e W1 B ok u ys->Kd.R (Kd.int .i64) e (W1.setCells gT (i*2) [a,b]) B ok u ys:=fun he hu=>hk.RI hu (fun q hq e1=>by
  obtain⟨inner,hw⟩:=Kd.gF hu;obtain⟨cells,hc⟩:=dO hw q hq
  exact hty q _ _ _ hc he e1)
 have hrn:∀{u:Value} {ys:List Int},Kd.R (Kd.int .i64) 3 W1 W.heap.size (fun _=>True) u ys->OI .i64 3 (W1.setCells gT (i*2) [a,b]) B (.slice none 0 0) u ys:=fun hu=>hri (by decide) (Kd.cB (Kd.bY hu (fun q _=>⟨trivial,by simp[Value.ownBlock]⟩)) h.size)
 have hdone:Els S88.f0 S88.f1 .i64 3 (W1.setCells gT (i*2) [a,b]) B (.slice none 0 0) qs ((T.take i).map (inT n)):=⟨h1.done.1,fun j p u hp hu=>⟨hri (by decide) (h1.done.2 j p u hp hu).1,hri (by decide) (h1.done.2 j p u hp hu).2⟩⟩
 refine⟨hput.1,?_,⟨by rw[List.tail_cons];simpa using hrl,fun j p u hp hu=>?_⟩,?_,hri (by decide) h1.glob,hk.holds h1.h5 (hty _ _ _ _ h1.h5 (by decide)),fun x hx=>hk.holds (h1.hs x hx) (hty _ _ _ _ (h1.hs x hx) (hHL x hx)),h1.below.grown hput.2 h1.size (fun k e=>by injection e with e;subst e;exact Kd.dG h1.raw _ rfl),Nat.le_trans h1.size hk.size⟩
 . rw[htk,List.map_append];exact hdone.push (hrn ha) (hrn hbb)
 . have h3:=h1.todo.2 (j+1) p u (by simpa using hp) (by rw[hT];simpa using hu)
   exact⟨hri (by decide) h3.1,hri (by decide) h3.2⟩
 . rw[List.flatMap_append,show([(a,b)].flatMap fun p=>[p.1,p.2])=[a]++[b]from rfl,<-List.append_assoc]
   have hl:=h.done.zD;refine(h.apart.push (fun u hu q hq e=>?_)).push (fun u hu q hq e=>?_)
   . have:=hl u hu q hq;have:=Kd.dG ha q e;omega
   . rcases List.mem_append.1 hu with hu|hu
     . have:=hl u hu q hq;have:=Kd.dG hbb q e;omega
     . obtain rfl:=List.mem_singleton.1 hu;exact hab q hq e
end
theorem flat2 {P:Value->List Int->Prop}:∀(qs:List (Value×Value)) (T:List S88),qs.length=T.length->(∀(i:Nat) (p:Value×Value) (t:S88),qs[i]? =some p->T[i]? =some t->P p.1 t.f0/\P p.2 t.f1)->∀(ru:List Value) (rl:List (List Int)),(∀ j,P (ru.getD j (.slice none 0 0)) (rl.getD j []))->
 ∀ j,P ((qs.flatMap (fun p=>[p.1,p.2])++ru).getD j (.slice none 0 0)) ((T.flatMap (fun t=>[t.f0,t.f1])++rl).getD j [])
 |[],[],_,_,ru,rl,h,j=>h j
 |[],t :: T,hl,_,_,_,_,_=>by simp at hl
 |p :: qs,[],hl,_,_,_,_,_=>by simp at hl
 |p :: qs,t :: T,hl,hp,ru,rl,h,j=>by
  have h0:=hp 0 p t rfl rfl
  match j with
  |0=>exact h0.1
  |1=>exact h0.2
  |j+2=>exact flat2 qs T (by simpa using hl) (fun i q u hq hu=>hp (i+1) q u hq hu) ru rl h j
theorem CI.globe {T:List S88}{Gs:List Int}{N:List S89}{B g5:Nat}{HL:List (Nat×Nat×List Value)}{vT vG vN vG2:Value}{w00 W W3:World}{qs:List (Value×Value)}(h:CI T Gs N.length B g5 HL vT vG vN w00 T.length qs [] W)(hHL:∀ x∈HL,x.1≠g5)(hB5:B<=g5)(hb:Below W.heap.size W W3)(hr:Kd.R (Kd.int .i64) 3 W3 W.heap.size (fun _=>True) vG2 (inF N.length Gs)):
 Kd.R bn 61 (W3.setCells g5 1 [vG2]) B (fun _=>True) vT qs/\(∀ j,Kd.R (Kd.int .i64) 3 (W3.setCells g5 1 [vG2]) B (fun _=>True) ((fu qs vG2).getD j (.slice none 0 0)) (fw ⟨T,Gs,N⟩ j))/\Ap (fu qs vG2)/\Holds (W3.setCells g5 1 [vG2]) g5 46 [vT,vG2,vN]/\(∀ x∈HL,Holds (W3.setCells g5 1 [vG2]) x.1 x.2.1 x.2.2)/\Below B w00 (W3.setCells g5 1 [vG2])/\B<=(W3.setCells g5 1 [vG2]).heap.size/\(∀ p∈qs,∃ A0 n0 c0 A1 n1 c1,p=(.slice A0 n0 c0,.slice A1 n1 c1))/\qs.length=T.length:=by
 have h3:=h.flow hb;have hs:=dR W3 g5 1 [vG2];have hri:∀{B':Nat} {ok:Nat->Prop} {u:Value} {ys:List Int},Kd.R (Kd.int .i64) 3 W3 B' ok u ys->Kd.R (Kd.int .i64) 3 (W3.setCells g5 1 [vG2]) B' ok u ys:=fun hu=>dW hu h3.h5 (fun q hq=>by rcases List.mem_cons.1 hq with rfl|hq;decide;cases hq) hs
 have hraw:=h3.raw;rw[List.append_nil]at hraw;have hd:=h3.done;rw[List.take_length]at hd;have hl:qs.length=T.length:=by have:=hd.1;rwa [List.length_map]at this
 refine⟨dW hraw h3.h5 (fun q hq=>by rcases List.mem_cons.1 hq with rfl|hq;decide;cases hq) hs,fun j=>?_,?_,?_,fun x hx=>hs.holds (h3.hs x hx) (hHL x hx),hs.below h3.below hB5,by rw[hs.size];exact h3.size,fun p hp=>?_,hl⟩
 . have h1:=flat2 (P:=fun u l=>Kd.R (Kd.int .i64) 3 (W3.setCells g5 1 [vG2]) B (fun _=>True) u l) qs (T.map (inT N.length)) hd.1 (fun i p t hp ht=>⟨Kd.bY (hri (hd.2 i p t hp ht).1) (fun _ _=>trivial),Kd.bY (hri (hd.2 i p t hp ht).2) (fun _ _=>trivial)⟩) [vG2] [inF N.length Gs] (fun j=>by
    cases j with
    |zero=>exact Kd.cB (hri hr) h.size
    |succ j=>exact Kd.fo _ _ _ _ _) j
   rw[List.flatMap_map]at h1;exact h1
 . have hlt:=h.done.zD
   exact h.apart.push (fun u hu q hq e=>by
    have:=hlt u hu q hq;have:=Kd.dG hr q e
    omega)
 . exact eX (vs:=[vG2]) h3.h5 (by show 1+1<=3;decide)
 . obtain⟨j,hj⟩:=List.mem_iff_getElem?.1 hp;have hjl:=(List.getElem?_eq_some_iff.1 hj).1;have h2:=hd.2 j p _ hj (List.getElem?_eq_getElem (by rw[List.length_map];omega))
   obtain⟨A0,c0,e0⟩:=Kd.aD h2.1;obtain⟨A1,c1,e1⟩:=Kd.aD h2.2;exact⟨A0,_,c0,A1,_,c1,by rw[<-e0,<-e1]⟩
theorem EF {S:Sh}{B:Nat}{w:World}{qs ns:List (Value×Value)}{AT AG:Option Addr}{cT nG cG:Nat}{vX vN:Value}(hq:qs.length=S.T.length)(hr:Kd.R bn 61 w B (fun _=>True) (.slice AT qs.length cT) qs)
 (hI:∀ j,Kd.R (Kd.int .i64) 3 w B (fun _=>True) ((fu qs (.slice AG nG cG)).getD j (.slice none 0 0)) ((stC S).2 j)) (hn:Kd.R bn 64 w B (fun _=>True) vX ns) (hE:Els S89.f0 S89.f1 .u64 31 w B vN ns (dF S.N S.N.length 0 (stC S).1 []).2):
 iD w (.agg #[.slice AT qs.length cT,.slice AG nG cG,vX]) (dV S):=by
 have hlen:(dV S).T.length=qs.length:=by show((List.range S.T.length).map _).length=_;rw[List.length_map,List.length_range,hq]
 obtain⟨h1,h2,h3⟩:=Kd.bI hr
 have hat:∀(i:Nat) (p:Value×Value),qs[i]? =some p->Kd.R (Kd.int .i64) 3 w B (fun _=>True) p.1 ((stC S).2 (2*i))/\Kd.R (Kd.int .i64) 3 w B (fun _=>True) p.2 ((stC S).2 (2*i+1)):=fun i p hp=>by
  have hf:=uR qs [.slice AG nG cG] i p hp;have a0:=hI (2*i);have a1:=hI (2*i+1);unfold fu at a0 a1;rw[List.getD_eq_getElem?_getD,hf.1]at a0;rw[List.getD_eq_getElem?_getD,hf.2]at a1;exact⟨a0,a1⟩
 have hG:=hI (2*qs.length)
 have hGe:(fu qs (.slice AG nG cG)).getD (2*qs.length) (.slice none 0 0)=.slice AG nG cG:=by
  have h:=qw qs (.slice AG nG cG);unfold fu at h ⊢;rw[List.length_append,List.length_singleton]at h;rw[List.getD_eq_getElem?_getD,List.getElem?_append_right (by omega),show 2*qs.length - (qs.flatMap fun p=>[p.1,p.2]).length=0 by omega]
  rfl
 rw[hGe]at hG;obtain⟨g1,g2,g3⟩:=Kd.bI hG;obtain⟨AX,cX,rfl⟩:=Kd.aD hn;obtain⟨_,n2,n3⟩:=Kd.bI hn;have hGG:(dV S).G=(stC S).2 (2*qs.length):=by rw[hq];rfl
 have hTC:=pM (d:=k88) (T:=(dV S).T) rfl (by rw[hlen]) h3 (fun i p t hp ht=>yx (by
  have hil:=(List.getElem?_eq_some_iff.1 hp).1
  have ht':t=⟨(stC S).2 (2*i),(stC S).2 (2*i+1)⟩:=by
   have ht2:((List.range S.T.length).map (fun i=>(⟨(stC S).2 (2*i),(stC S).2 (2*i+1)⟩:S88)))[i]? =some t:=ht
   rw[List.getElem?_map,List.getElem?_range (by omega)]at ht2
   exact(Option.some.inj ht2).symm
  rw[ht'];exact jN (hat i p hp).1) (by
  have hil:=(List.getElem?_eq_some_iff.1 hp).1
  have ht':t=⟨(stC S).2 (2*i),(stC S).2 (2*i+1)⟩:=by
   have ht2:((List.range S.T.length).map (fun i=>(⟨(stC S).2 (2*i),(stC S).2 (2*i+1)⟩:S88)))[i]? =some t:=ht
   rw[List.getElem?_map,List.getElem?_range (by omega)]at ht2
   exact(Option.some.inj ht2).symm
  rw[ht']
  exact jN (hat i p hp).2))
 have hNC:=pM (d:=k89) (T:=(dV S).N) rfl hE.1 n3 (fun i p t hp ht=>tV (jN (hE.2 i p t hp ht).1) (jN (hE.2 i p t hp ht).2))
 have hNl:(dV S).N.length=ns.length:=hE.1.symm;refine⟨AT,cT,AG,cG,AX,cX,?_,by rw[hlen];exact h2,hTC,by rw[hGG,<-g1];exact g2,?_,by rw[hNl];exact n2,hNC⟩
 . rw[hlen,hGG,<-g1,hNl]
 . rw[hGG];exact g3
end
section
structure Mid (S:Sh):Prop where
 T:S.T.length<=300
 t:∀ t∈S.T,t.f0.length<=1000/\t.f1.length<=1000
 G:S.G.length<=1000
 N:S.N.length<=100000
 n:∀ t∈S.N,t.f0.length<=1000/\t.f1.length<=1000
theorem Mid.small {S:Sh}(h:Mid S):Small S:=⟨by have:=h.T;omega,by have:=h.G;omega,by have:=h.N;omega,fun t ht=>by have:=h.t t ht;exact⟨by omega,by omega⟩,fun t ht=>by have:=h.n t ht;exact⟨by omega,by omega⟩⟩
section
variable {o:Oper} {a:Act} {W:World}
theorem pQ {x y:Operand}{ad:Addr}{n c k:Nat}(ho:o.op=.indexAddr 43 x y)(hx:a.eval x=.slice (some ad) n c)(hy:a.eval y=.int .i64 (k:Int))(hk:k<n):(execOp a.eval o).run Tryz.prog W=.ok (.value (.pointer (some (ad.add (k*2))))) W:=by
 unfold execOp;have h1:(0:Int)<=(k:Int):=by omega
 have h2:(k:Int)<(n:Int):=by omega
 simp only[ho,hx,hy]
 go_simp
end
theorem add0 (g m:Nat):(⟨g,0,none⟩:Addr).add m=⟨g,m,none⟩:=by
 unfold Addr.add
 split
 . rename_i h
   rw[h]
 . show(⟨g,0+m,none⟩:Addr)=_
   rw[Nat.zero_add]
theorem els_T {w:World}{B:Nat}{vT:Value}{ps:List (Value×Value)}{T:List S88}{AT:Option Addr}{cT:Nat}(hr:Kd.R bn 61 w B (fun _=>True) (.slice AT T.length cT) ps)(hl:ps.length=T.length)(h:∀(i:Nat)(p:Value×Value)(t:S88),ps[i]? =some p->T[i]? =some t->IV .i64 w p.1 t.f0/\IV .i64 w p.2 t.f1):T.length<=cT/\Kd.C k88 w AT T.length T:=by
 obtain⟨h1,h2,h3⟩:=Kd.bI hr;exact⟨h2,pM rfl hl h3 (fun i p t hp ht=>yx (h i p t hp ht).1 (h i p t hp ht).2)⟩
theorem els_N {w:World}{B:Nat}{vT:Value}{ps:List (Value×Value)}{T:List S89}{AT:Option Addr}{cT:Nat}(hr:Kd.R bn 64 w B (fun _=>True) (.slice AT T.length cT) ps)(hl:ps.length=T.length)(h:∀(i:Nat)(p:Value×Value)(t:S89),ps[i]? =some p->T[i]? =some t->IV .i64 w p.1 t.f0/\IV .u64 w p.2 t.f1):T.length<=cT/\Kd.C k89 w AT T.length T:=by
 obtain⟨h1,h2,h3⟩:=Kd.bI hr;exact⟨h2,pM rfl hl h3 (fun i p t hp ht=>tV (h i p t hp ht).1 (h i p t hp ht).2)⟩
theorem Du {S:Sh}(h:Mid S)(j:Nat):(fw S j).length<=1000:=by
 unfold fw;rw[List.getD_eq_getElem?_getD];cases hj:(kg S)[j]? with
 |none=>exact Nat.zero_le _
 |some l=>
  have hl:=List.mem_of_getElem? hj;show l.length<=1000
  unfold kg at hl
  rcases List.mem_append.1 hl with hl|hl
  . obtain⟨t,htm,ht⟩:=List.mem_flatMap.1 hl;have h1:=h.t t htm
    rcases List.mem_cons.1 ht with rfl|ht
    . rw[iB];exact h1.1
    . rcases List.mem_cons.1 ht with rfl|ht
      . rw[iB];exact h1.2
      . cases ht
  . obtain rfl:=List.mem_singleton.1 hl;rw[iB];exact h.G
theorem Ea {T:List S88}{Gs:List Int}{N:List S89}{B:Nat}{w:World}{qs ns:List (Value×Value)}{AT AG:Option Addr}{cT nG cG:Nat}{vX vN:Value}(hq:qs.length=T.length)(hr:Kd.R bn 61 w B (fun _=>True) (.slice AT qs.length cT) qs)
 (hI:∀ j,Kd.R (Kd.int .i64) 3 w B (fun _=>True) ((fu qs (.slice AG nG cG)).getD j (.slice none 0 0)) ((stR (fw ⟨T,Gs,N⟩) (List.range (2*qs.length+1))).2 j)) (hn:Kd.R bn 64 w B (fun _=>True) vX ns) (hE:Els S89.f0 S89.f1 .u64 31 w B vN ns (dF N N.length 0 (stR (fw ⟨T,Gs,N⟩) (List.range (2*qs.length+1))).1 []).2):
 iD w (.agg #[.slice AT qs.length cT,.slice AG nG cG,vX]) (dV ⟨T,Gs,N⟩):=by
 rw[hq]at hE;exact EF (S:=⟨T,Gs,N⟩) hq hr (fun j=>by have h:=hI j;rw[hq]at h;exact h) hn hE
def A69 (M:Nat)(l0 l1:List Int)(v:Value)(w:World):Prop:=∃ a b,v=.agg #[a,b]/\RT M l0 a w/\RT M l1 b w/\∀ q,a.ownBlock=some q->b.ownBlock≠some q
def V69 (M g5 g7 p3 i:Nat)(ad:Addr)(l0 l1:List Int)(vT x0 x1:Value):Nat->Value->World->Prop
 |0,v,_=>v=.pointer (some ⟨g5,0,none⟩)
 |1,v,_=>v=vT
 |2,v,_=>v=.int .i64 (i:Int)
 |3,v,_=>v=.func (.func 78) #[] #[.pointer (some ⟨p3,0,none⟩)]
 |4,v,_=>v=.pointer (some ⟨g7,0,none⟩)
 |5,v,_=>v=x0
 |6,v,w=>RT M l0 v w
 |7,v,_=>v=.func (.func 78) #[] #[.pointer (some ⟨p3,0,none⟩)]
 |8,v,_=>v=.pointer (some ⟨g7,1,none⟩)
 |9,v,_=>v=x1
 |10,v,w=>RT M l1 v w
 |11,v,w=>A69 M l0 l1 v w
 |12,v,_=>v=.pointer (some (ad.add (i*2)))
 |_,_,_=>True
theorem CV (M g5 g7 p3 i:Nat)(ad:Addr)(l0 l1:List Int)(vT x0 x1:Value)(j:Nat)(v:Value)(w w':World)(h:V69 M g5 g7 p3 i ad l0 l1 vT x0 x1 j v w)(hb:Below w.heap.size w w'):V69 M g5 g7 p3 i ad l0 l1 vT x0 x1 j v w':=by
 unfold V69 at h ⊢
 split at h<;>first|exact h|exact Kd.aX h hb|(obtain⟨a,b,h1,h2,h3,h4⟩:=h;exact⟨a,b,h1,Kd.aX h2 hb,Kd.aX h3 hb,h4⟩)|trivial
def R69 (j k:Nat)(u v:Value):Prop:=j=6->k=10->∀ q,u.ownBlock=some q->v.ownBlock≠some q
def HL69 (s p3:Nat)(vN:Value)(sh:List Value):List (Nat×Nat×List Value):=
 [(s,46,sh),(s+1,46,z89),(p3,44,[vN]),(s+1+1+1,138,[.func (.func 78) #[] #[.pointer (some ⟨p3,0,none⟩)]])]
end
section
def eB (names l:List Int):List Int:=l.map fun x=>if x∈names then(names.idxOf x:Int)+1 else 0
theorem ER (nm:List Int)(x:Int):nm<+:(dQ nm x).1:=by
 unfold dQ
 split
 . exact List.prefix_refl _
 . split
   . exact List.prefix_refl _
   . exact List.prefix_append _ _
theorem kS:∀(l nm:List Int),nm<+:(bC nm l).1
 |[],nm=>List.prefix_refl _
 |x :: l,nm=>(ER nm x).trans (kS l (dQ nm x).1)
theorem zS {nm names:List Int}{x:Int}(h:nm<+:names)(hx:x∈nm):names.idxOf x=nm.idxOf x/\x∈names:=by
 obtain⟨t,rfl⟩:=h;exact⟨by rw[List.idxOf_append,if_pos hx],List.mem_append_left _ hx⟩
theorem sP:∀(l nm names:List Int),(0:Int)∉names->(bC nm l).1<+:names->(bC nm l).2=eB names l
 |[],nm,names,h0,hp=>rfl
 |x :: l,nm,names,h0,hp=>by
  have hp':(bC (dQ nm x).1 l).1<+:names:=hp;have h1:(dQ nm x).1<+:names:=(kS l _).trans hp';have ih:=sP l (dQ nm x).1 names h0 hp';show(dQ nm x).2 :: (bC (dQ nm x).1 l).2=_
  rw[ih];unfold eB;rw[List.map_cons];refine congr (congrArg List.cons ?_) rfl;unfold dQ at h1 ⊢
  by_cases hx:x=0
  . rw[if_pos hx,hx,if_neg h0]
  . rw[if_neg hx]at h1 ⊢
    by_cases hm:x∈nm
    . rw[if_pos hm]at h1 ⊢;obtain⟨e1,e2⟩:=zS h1 hm;rw[if_pos e2,e1]
    . rw[if_neg hm]at h1 ⊢;obtain⟨e1,e2⟩:=zS h1 (show x∈nm++[x] by simp)
      rw[if_pos e2,e1,List.idxOf_append,if_neg hm];simp
theorem rH {n:Nat}{names:List Int}(h:jA n names)(l:List Int):eB names (inF n l)=eB names l:=by
 unfold eB inF;rw[List.map_map];refine List.map_congr_left (fun x _=>?_)
 by_cases hx:x<1\/(n:Int)<x
 . simp only[Function.comp_apply,if_pos hx];rw[if_neg (fun h0=>by have:=h.val _ h0;omega),if_neg (fun h0=>by have:=h.val _ h0;omega)]
 . simp only[Function.comp_apply,if_neg hx]
theorem qo {N:List S89}:∀(f i:Nat) (nm:List Int) (acc:List S89),jA N.length nm->i<=nm.length->N.length<=i+f->
 nm<+:(dF N f i nm acc).1/\jA N.length (dF N f i nm acc).1/\(dF N f i nm acc).2=acc++((dF N f i nm acc).1.drop i).map (fun k=>⟨eB (dF N f i nm acc).1 (N.getD (k.toNat - 1) gy).f0,(N.getD (k.toNat - 1) gy).f1⟩)
 |0,i,nm,acc,hn,hi,hf=>by
  have h1:=hn.len;refine⟨List.prefix_refl _,hn,?_⟩;show acc=acc++(nm.drop i).map _
  rw[List.drop_of_length_le (by omega),List.map_nil,List.append_nil]
 |f+1,i,nm,acc,hn,hi,hf=>by
  by_cases h:i<nm.length
  . have hn2:=nA hn (nk N.length (N.getD ((nm.getD i 0).toNat - 1) gy).f0);have hl:=(lS (inF N.length (N.getD ((nm.getD i 0).toNat - 1) gy).f0) nm).1;have ih:=qo f (i+1) _ (acc++[⟨(bC nm (inF N.length (N.getD ((nm.getD i 0).toNat - 1) gy).f0)).2,(N.getD ((nm.getD i 0).toNat - 1) gy).f1⟩]) hn2 (by omega) (by omega)
    have e:dF N (f+1) i nm acc=dF N f (i+1) (bC nm (inF N.length (N.getD ((nm.getD i 0).toNat - 1) gy).f0)).1 (acc++[⟨(bC nm (inF N.length (N.getD ((nm.getD i 0).toNat - 1) gy).f0)).2,(N.getD ((nm.getD i 0).toNat - 1) gy).f1⟩]):=by
     show(if i<nm.length then _ else _)=_
     rw[if_pos h]
    rw[e];obtain⟨h1,h2,h3⟩:=ih;refine⟨(kS _ nm).trans h1,h2,?_⟩;rw[h3,List.append_assoc];generalize hr:(dF N f (i+1) (bC nm (inF N.length (N.getD ((nm.getD i 0).toNat - 1) gy).f0)).1 (acc++[⟨(bC nm (inF N.length (N.getD ((nm.getD i 0).toNat - 1) gy).f0)).2,(N.getD ((nm.getD i 0).toNat - 1) gy).f1⟩])).1=r at h1 h2 ⊢;have hnr:nm<+:r:=(kS _ nm).trans h1;have hir:i<r.length:=by have:=hnr.length_le;omega
    have hri:r[i]=nm[i]:=by
     obtain⟨t,ht⟩:=hnr;subst ht;exact List.getElem_append_left h
    have hni:nm.getD i 0=nm[i]:=by rw[List.getD_eq_getElem?_getD,List.getElem?_eq_getElem h];rfl
    rw[List.drop_eq_getElem_cons hir,List.map_cons,hri,hni];refine congrArg (acc++·) ?_
    show[_]++_=_ :: _
    rw[List.singleton_append];refine congr (congrArg List.cons ?_) rfl;rw[hni]at h1;rw[sP _ nm r (fun h0=>by have:=h2.val _ h0;omega) h1,rH h2]
  . have e:dF N (f+1) i nm acc=(nm,acc):=by
     show(if i<nm.length then _ else _)=_
     rw[if_neg h]
    rw[e];refine⟨List.prefix_refl _,hn,?_⟩;show acc=acc++(nm.drop i).map _
    rw[List.drop_of_length_le (by omega),List.map_nil,List.append_nil]
theorem oh {c:Nat->List Int}:∀(q:Nat),(stR c (List.range q)).1=(bC [] ((List.range q).flatMap c)).1/\(∀ j,q<=j->(stR c (List.range q)).2 j=c j)/\∀ j,j<q->(stR c (List.range q)).2 j=(bC (stR c (List.range j)).1 (c j)).2
 |0=>⟨rfl,fun j _=>rfl,fun j hj=>by omega⟩
 |q+1=>by
  obtain⟨h1,h2,h3⟩:=oh (c:=c) q;have e:stR c (List.range (q+1))=uO (stR c (List.range q)) q:=by rw[List.range_succ,kM]
  rw[e];refine⟨?_,fun j hj=>?_,fun j hj=>?_⟩
  . show(bC (stR c (List.range q)).1 ((stR c (List.range q)).2 q)).1=_
    rw[h2 q (Nat.le_refl _),h1,List.range_succ,List.flatMap_append,oC];simp
  . show(if j=q then _ else(stR c (List.range q)).2 j)=_
    rw[if_neg (by omega),h2 j (by omega)]
  . show(if j=q then(bC (stR c (List.range q)).1 ((stR c (List.range q)).2 q)).2 else(stR c (List.range q)).2 j)=_
    by_cases hq:j=q
    . rw[if_pos hq,hq,h2 q (Nat.le_refl _)]
    . rw[if_neg hq,h3 j (by omega)]
theorem stR_pre {c:Nat->List Int}{j q:Nat}(h:j<=q):(stR c (List.range j)).1<+:(stR c (List.range q)).1:=by
 induction q with
 |zero=>
  obtain rfl:j=0:=by omega
  exact List.prefix_refl _
 |succ q ih=>
  by_cases hq:j=q+1
  . rw[hq];exact List.prefix_refl _
  . refine(ih (by omega)).trans ?_
    rw[List.range_succ,kM];exact kS _ _
theorem xu:∀(T:List S88) (f g:S88->List Int) (r:List (List Int)) (i:Nat) (hi:i<T.length),(T.flatMap (fun t=>[f t,g t])++r)[2*i]? =some (f T[i])/\(T.flatMap (fun t=>[f t,g t])++r)[2*i+1]? =some (g T[i])
 |[],f,g,r,i,hi=>by cases hi
 |t :: T,f,g,r,0,hi=>⟨rfl,rfl⟩
 |t :: T,f,g,r,i+1,hi=>by
  have ih:=xu T f g r i (by simpa using hi)
  rw[List.flatMap_cons];exact ih
theorem pO:∀(T:List S88) (f g:S88->List Int),(T.flatMap (fun t=>[f t,g t])).length=2*T.length
 |[],f,g=>rfl
 |t :: T,f,g=>by
  rw[List.flatMap_cons,List.length_append,pO T f g];simp only[List.length_cons,List.length_nil];omega
def ig (S:Sh):List Int:=(dF S.N S.N.length 0 (stC S).1 []).1
theorem uM (S:Sh):dV S=⟨S.T.map (fun t=>⟨eB (ig S) t.f0,eB (ig S) t.f1⟩),eB (ig S) S.G,(ig S).map (fun k=>⟨eB (ig S) (S.N.getD (k.toNat - 1) gy).f0,(S.N.getD (k.toNat - 1) gy).f1⟩)⟩:=by
 have hok:jA S.N.length (stC S).1:=(ym (qL S) _ _ rfl).1;obtain⟨h1,h2,h3⟩:=qo S.N.length 0 (stC S).1 [] hok (Nat.zero_le _) (by omega)
 have h0:(0:Int)∉ig S:=fun h=>by have:=h2.val _ h;omega
 have hst:∀ j,j<2*S.T.length+1->(stC S).2 j=eB (ig S) (fw S j):=fun j hj=>by
  have h4:=(oh (c:=fw S) (2*S.T.length+1)).2.2 j hj;show(stR (fw S) (List.range (2*S.T.length+1))).2 j=_
  rw[h4];refine sP _ _ _ h0 ?_;refine List.IsPrefix.trans ?_ h1;have h5:=stR_pre (c:=fw S) (j:=j+1) (q:=2*S.T.length+1) (by omega)
  have e:(stR (fw S) (List.range (j+1))).1=(bC (stR (fw S) (List.range j)).1 (fw S j)).1:=by
   rw[List.range_succ,kM];show(bC (stR (fw S) (List.range j)).1 ((stR (fw S) (List.range j)).2 j)).1=_
   rw[(oh (c:=fw S) j).2.1 j (Nat.le_refl _)]
  rw[<-e];exact h5
 have hc:∀ i (hi:i<S.T.length),fw S (2*i)=inF S.N.length S.T[i].f0/\fw S (2*i+1)=inF S.N.length S.T[i].f1:=fun i hi=>by
  obtain⟨e1,e2⟩:=xu S.T (fun t=>inF S.N.length t.f0) (fun t=>inF S.N.length t.f1) [inF S.N.length S.G] i hi
  unfold fw kg;exact⟨by rw[List.getD_eq_getElem?_getD,e1];rfl,by rw[List.getD_eq_getElem?_getD,e2];rfl⟩
 have hg:fw S (2*S.T.length)=inF S.N.length S.G:=by
  unfold fw kg;rw[List.getD_eq_getElem?_getD,List.getElem?_append_right (by rw[pO];omega),pO]
  simp
 unfold dV
 congr 1
 . apply List.ext_getElem
   . simp
   . intro i hi1 hi2;have hi:i<S.T.length:=by simpa using hi1
     rw[List.getElem_map,List.getElem_map,List.getElem_range,hst (2*i) (by omega),hst (2*i+1) (by omega),(hc i hi).1,(hc i hi).2]
     have e1:eB (ig S) (inF S.N.length S.T[i].f0)=eB (ig S) S.T[i].f0:=rH h2 _;have e2:eB (ig S) (inF S.N.length S.T[i].f1)=eB (ig S) S.T[i].f1:=rH h2 _;rw[e1,e2]
 . rw[hst _ (by omega),hg]
   exact rH h2 _
end
end Go.Proofs.YtglikkmmbdnmbaaGreat.Im

/- slices.DeleteFunc over a row of events of the call's own. -/
import Derived.Test.YtglikkmmbdnmbaaGreatQ17
import Derived.Test.YtglikkmmbdnmbaaGreatQ02
import Derived.Test.YtglikkmmbdnmbaaGreatQ11
set_option maxHeartbeats 8000000
set_option maxRecDepth 100000
namespace Go.Proofs.YtglikkmmbdnmbaaGreat.Ev
open Go.RowKit Q7
open YtglikkmmbdnmbaaGreat.Own PCan
set_option linter.unusedVariables false
set_option linter.unusedSimpArgs false
section
structure mh (w W:World)(g:Nat)(p:aQ->Bool)(l:List aQ)(a j:Nat)(zs:List aQ):Prop where
 len:zs.length=l.length
 lt:a<j
 le:j<=l.length
 kept:zs.take a=(l.take j).filter (fun d=>!p d)
 rest:zs.drop j=l.drop j
 row:Row W g zs
 grown:w.grownBy W (some g)
theorem mh.get {w W:World}{g:Nat}{p:aQ->Bool}{l:List aQ}{a j:Nat}{zs:List aQ}(h:mh w W g p l a j zs)(hj:j<l.length):∃ d,l[j]? =some d/\zs[j]? =some d:=by
 refine⟨l[j],List.getElem?_eq_getElem hj,?_⟩;have h1:(zs.drop j)[0]? =(l.drop j)[0]?:=by rw[h.rest]
 rw[List.getElem?_drop,List.getElem?_drop,Nat.add_zero,List.getElem?_eq_getElem hj]at h1;exact h1
theorem mh.skip {w W W1:World}{g:Nat}{p:aQ->Bool}{l:List aQ}{a j:Nat}{zs:List aQ}{d:aQ}(h:mh w W g p l a j zs)(hd:l[j]? =some d)(hp:p d=true)(hb:Below W.heap.size W W1):mh w W1 g p l a (j+1) zs:=by
 have hj:=(List.getElem?_eq_some_iff.1 hd).1;refine⟨h.len,by have:=h.lt;omega,hj,?_,?_,h.row.below hb,grown_of h.grown hb⟩
 . rw[h.kept,List.take_add_one,hd];simp [hp]
 . rw[<-List.drop_drop (i:=1) (j:=j),h.rest,List.drop_drop]
theorem mh.keep {w W W1 W2:World}{g:Nat}{p:aQ->Bool}{l:List aQ}{a j:Nat}{zs:List aQ}{d:aQ}(h:mh w W g p l a j zs)(hd:l[j]? =some d)(hp:p d=false)(hb:Below W.heap.size W W1)(hr:Row W2 g (zs.set a d))(hs:bH W1 W2 g):mh w W2 g p l (a+1) (j+1) (zs.set a d):=by
 have hj:=(List.getElem?_eq_some_iff.1 hd).1;have hlt:=h.lt;have hle:=h.le;refine⟨by rw[List.length_set];exact h.len,by omega,hj,?_,?_,hr,lD (grown_of h.grown hb) hs⟩
 . rw[List.take_add_one,List.getElem?_set_self (by rw[h.len];omega),List.take_set,List.set_eq_of_length_le (by rw[List.length_take];omega),h.kept,List.take_add_one,hd]
   simp [hp]
 . rw[List.drop_set,if_pos (by omega),<-List.drop_drop (i:=1) (j:=j),h.rest,List.drop_drop]
theorem CU {w W:World}{g:Nat}{p:aQ->Bool}{l:List aQ}{i:Nat}(hi:i<l.length)(hk:(l.take (i+1)).filter (fun d=>!p d)=l.take i)(hr:Row w g l)(hb:Below w.heap.size w W):mh w W g p l i (i+1) l:=
 ⟨rfl,by omega,hi,hk.symm,rfl,hr.below hb,⟨hb.os,hb.tape,hb.output,hb.size,fun k hk _=>hb.block k hk⟩⟩
theorem yU (f:FuncId)(lb:Array Value)(B:Nat)(W0:World)(p:aQ->Bool)(hP:qy f lb B W0 p)(l:List aQ)(g c:Nat)(w:World)(hb0:Below B W0 w)(hB:B<=g)(hr:Row w g l)(hc:l.length<=c)(hll:l.length<4611686018427387904)(hn:l.any p=true):
 Calls Tryz.prog 103 #[.slice (some ⟨g,0,none⟩) l.length c,.func (.func f) #[] lb] w (Del w g (l.filter (fun d=>!p d)) c):=by
 have hgs:=hr.lt;have HC:=Y (rR f lb B W0 p hP l _ c w hb0 (by omega) (hr.C (by omega)) hc hll)
 obtain⟨i,hi,hil,hik⟩:=zn hn;have HI:=Y hi;have HR:=Y hr;have HK:=Y hik;have HB0:=Y hb0;have HBG:=Y hB;have HBS:=Y (show B<=w.heap.size by omega)
 have HCL:=Y hP.calls;have HCC:=Y hc;have en:=hP.enters;have HIL:=Y hil;have n1:((i:Int)==-1)=false:=by rw[beq_eq_false_iff_ne];omega
 clear hP hb0 hB hr hc hn hi hik hgs hil;go_enter Tryz.func103,Tryz.ntmps103;go_wp2_with (go_at_call 123;refine HC.out.mono ?_;rintro e w1 ⟨rfl,hb1⟩;rw[HI.out];have HB1:=Y hb1;clear hb1)
 go_loopg [5,6] (l.length - (i+1)) (fun kq v5 v6 w'=>∃(a j:Nat) (zs:List aQ),v5=.int .i64 a/\v6=.int .i64 j/\j+kq=l.length/\aa (mh w w' g p l a j zs))
 case atStart=>exact⟨i,i+1,l,rfl,by have:=HIL.out;rw[nu (by omega) (by omega)];rfl,by have:=HIL.out;omega,⟨CU HIL.out HK.out HR.out HB1.out⟩⟩
 case round=>
  clear HC HI HK HB1 HIL;obtain⟨a,j,zs,rfl,rfl,hj,HD⟩:=hrel;cases gk with
  |zero=>
   obtain rfl:j=l.length:=by omega
   clear hj;have c1:decide (((l.length:Nat):Int)<(l.length:Int))=false:=yd (by omega)
   have halt:=HD.out.lt;have p1:(0:Int)<=(a:Int):=by omega
   have p2:(a:Int)<=(l.length:Int):=by omega
   have p3:(a:Int)<=(c:Int):=by have:=HCC.out;omega
   have p4:¬ (c=a):=by have:=HCC.out;omega
   have p5:a<=l.length:=by omega
   have p6:a<=c:=by have:=HCC.out;omega
   have HA:=Y halt;have HN:aa (a+(l.length - a)=zs.length):=⟨by rw[HD.out.len];omega⟩
   have HM:aa (0<l.length - a):=⟨by omega⟩
   clear halt en;go_wp2_with ((with_reducible refine Aw (x:=38) rfl ?_);refine zb rfl rfl rfl HD.out.row HN.out HM.out ?_;intro w6 hr6 hs6;have HR6:=Y hr6;have HS6:=Y hs6;clear hr6 hs6)
   go_ret
   have hk:=HD.out.kept;rw[List.take_length]at hk;have hlen:(l.filter (fun d=>!p d)).length=a:=by rw[<-hk,List.length_take,HD.out.len];omega
   refine⟨?_,by rw[<-hk];exact HR6.out,lD HD.out.grown HS6.out⟩
   rw[hlen];rfl
  |succ k1=>
   have c1:decide ((j:Int)<(l.length:Int))=true:=yb (by omega)
   have hjl:j<l.length:=by omega
   obtain⟨d,hd,hz⟩:=HD.out.get hjl;have hzl:=HD.out.len;have halt:=HD.out.lt;have HZ:=Y hz;have HDD:=Y hd;have HJ:=Y hj;have HBB:=Y (below_grown HB0.out HD.out.grown HBG.out HBS.out);have HGS:=Y HD.out.row.lt;have HAZ:=Y (show a<zs.length by omega)
   have p1:=eq_true (show(0:Int)<=((j:Nat):Int) by omega)
   have q1:=eq_true (show((j:Nat):Int)<(l.length:Int) by omega)
   have q2:=eq_true hjl;have p3:=eq_true (show(0:Int)<=((a:Nat):Int) by omega)
   have q3:=eq_true (show((a:Nat):Int)<(l.length:Int) by omega)
   have q4:=eq_true (show a<l.length by omega)
   clear hj hjl hz hd hzl halt;cases hp:p d with
   |true=>
    go_wp2_with (first
     |((with_reducible refine aW (N:=25) rfl ?_);refine nL HD.out.row HZ.out rfl rfl rfl ?_)
     |((with_reducible refine aW (N:=7) rfl ?_);refine gI rfl (t:=104) rfl qA ?_;intro g7 hg7 w3 hh3 hb3;have HG7:=Y hg7;have H7:=Y hh3;have HB3:=Y hb3;clear hg7 hh3 hb3)
     |((with_reducible refine bg (t:=104) (p:=7) rfl ?_);(refine aG rfl (ty:=104) rfl rfl (g:=g7) (off:=0) (vs:=(ec d).toArray) rfl rfl H7.out (Nat.le_refl 11) fM (oq d) ?_);intro w4 hh4 hs4;have H74:=Y (show Holds w4 g7 104 (ec d)from hh4);have HB4:=Y (hs4.below HB3.out (Nat.le_of_eq HG7.out.symm));clear hh4 hs4 H7 HB3)
     |((with_reducible refine aW (N:=27) rfl ?_);(refine bE rfl (ty:=104) rfl (g:=g7) (off:=0) (seg:=ec d) rfl H74.out rfl Tryz.underlying104 rfl fM ?_))
     |((refine(HCL.out _ d (HBB.out.trans (HB4.out.mono (Nat.le_trans HBG.out (Nat.le_of_lt HGS.out)))) (Nat.le_trans HBG.out (Nat.le_trans (Nat.le_of_lt HGS.out) HB4.out.size))).mono ?_);rintro e w5 ⟨rfl,hb5⟩;rw[hp];have HB5:=Y (ag HB4.out HB4.out.size hb5);clear hb5))
    go_roundg k1
    case measure=>have:=HJ.out;omega
    case rel=>exact⟨a,j+1,zs,rfl,by have:=HJ.out;rw[nu (by omega) (by omega)];rfl,by have:=HJ.out;omega,⟨HD.out.skip HDD.out hp HB5.out⟩⟩
   |false=>
    go_wp2_with (first
     |((with_reducible refine aW (N:=25) rfl ?_);refine nL HD.out.row HZ.out rfl rfl rfl ?_)
     |((with_reducible refine aW (N:=7) rfl ?_);refine gI rfl (t:=104) rfl qA ?_;intro g7 hg7 w3 hh3 hb3;have HG7:=Y hg7;have H7:=Y hh3;have HB3:=Y hb3;clear hg7 hh3 hb3)
     |((with_reducible refine bg (t:=104) (p:=7) rfl ?_);(refine aG rfl (ty:=104) rfl rfl (g:=g7) (off:=0) (vs:=(ec d).toArray) rfl rfl H7.out (Nat.le_refl 11) fM (oq d) ?_);intro w4 hh4 hs4;have H74:=Y (show Holds w4 g7 104 (ec d)from hh4);have HB4:=Y (hs4.below HB3.out (Nat.le_of_eq HG7.out.symm));clear hh4 hs4 H7 HB3)
     |((with_reducible refine aW (N:=27) rfl ?_);(refine bE rfl (ty:=104) rfl (g:=g7) (off:=0) (seg:=ec d) rfl H74.out rfl Tryz.underlying104 rfl fM ?_))
     |((with_reducible refine aW (N:=32) rfl ?_);(refine bE rfl (ty:=104) rfl (g:=g7) (off:=0) (seg:=ec d) rfl H75.out rfl Tryz.underlying104 rfl fM ?_))
     |((with_reducible refine bg (t:=104) (p:=33) rfl ?_);(refine Cj (d:=d) (HD.out.row.below HB5.out) HAZ.out rfl rfl rfl rfl rfl ?_);intro w6 hr6 hs6;have HR6:=Y hr6;have HS6:=Y hs6;clear hr6 hs6)
     |((refine(HCL.out _ d (HBB.out.trans (HB4.out.mono (Nat.le_trans HBG.out (Nat.le_of_lt HGS.out)))) (Nat.le_trans HBG.out (Nat.le_trans (Nat.le_of_lt HGS.out) HB4.out.size))).mono ?_);rintro e w5 ⟨rfl,hb5⟩;rw[hp];have HB5:=Y (ag HB4.out HB4.out.size hb5);have H75:=Y (H74.out.below hb5);clear hb5))
    go_roundg k1
    case measure=>have:=HJ.out;omega
    case rel=>exact⟨a+1,j+1,zs.set a d,by have:=HAZ.out;have:=HD.out.len;rw[nu (by omega) (by omega)];rfl,by have:=HJ.out;rw[nu (by omega) (by omega)];rfl,by have:=HJ.out;omega,⟨HD.out.keep HDD.out hp HB5.out HR6.out HS6.out⟩⟩
end
section
def nM (d:aQ):Bool:=decide (0<d.f4)
theorem Ec (d:aQ)(w:World):
 Calls Tryz.prog 85 #[ev d] w fun e w'=>e=.returned (.bool (nM d))/\Below w.heap.size w w':=by
 have HB:=Y (ae (Below.refl w.heap.size w) (Obj.cells #[.int .u8 d.f0,.int .u8 d.f1.f0,.int .u8 d.f1.f1,.int .u8 d.f1.f2,.int .u8 d.f1.f3,.int .i64 d.f2.f0,.int .i64 d.f2.f1,.int .u64 d.f2.f2,.int .i64 d.f3,.int .i64 d.f4,.int .i64 d.f5] 104));go_enter Tryz.func85,Tryz.ntmps85
 go_wp2
 go_ret
 exact⟨rfl,HB.out⟩
theorem pt_pred (w:World):qy 85 #[] w.heap.size w nM:=
 ⟨fun args W=>kw Tryz.func85 (by kernel_rfl) rfl args W,fun W d hb _=>Ec d W⟩
theorem Dx (f:FuncId)(lb:Array Value)(B:Nat)(W0:World)(p:aQ->Bool)(hP:qy f lb B W0 p)(d:aQ)(g:Nat)(w:World)(hb0:Below B W0 w)(hB:B<=w.heap.size)(hg:w.heap[g]? =some (.cells #[.func (.func f) #[] lb] 110 (0,0))):
 Calls Tryz.prog 105 #[ev d,.pointer (some ⟨g,0,none⟩)] w fun e w'=>e=.returned (.bool (!p d))/\Below w.heap.size w w':=by
 have HB:=Y (ae (Below.refl w.heap.size w) (Obj.cells #[.int .u8 d.f0,.int .u8 d.f1.f0,.int .u8 d.f1.f1,.int .u8 d.f1.f2,.int .u8 d.f1.f3,.int .i64 d.f2.f0,.int .i64 d.f2.f1,.int .u64 d.f2.f2,.int .i64 d.f3,.int .i64 d.f4,.int .i64 d.f5] 104));have hx1:(w.alloc (Obj.cells #[.int .u8 d.f0,.int .u8 d.f1.f0,.int .u8 d.f1.f1,.int .u8 d.f1.f2,.int .u8 d.f1.f3,.int .i64 d.f2.f0,.int .i64 d.f2.f1,.int .u64 d.f2.f2,.int .i64 d.f3,.int .i64 d.f4,.int .i64 d.f5] 104)).cell? ⟨g,0,none⟩=some (.func (.func f) #[] lb):=qm HB.out ((aA hg 0).trans rfl);have HB0:=Y (hb0.trans (HB.out.mono hB));have HBS:=Y (Nat.le_trans hB HB.out.size);have HCL:=Y hP.calls;have en:=hP.enters;clear hg hb0 hB hP;go_enter Tryz.func105,Tryz.ntmps105;go_wp2_with ((refine(HCL.out _ d HB0.out HBS.out).mono ?_);rintro e w2 ⟨rfl,hb2⟩)
 go_ret
 exact⟨rfl,ag HB.out HB.out.size hb2⟩
theorem Eo (f:FuncId)(lb:Array Value)(B:Nat)(W0:World)(p:aQ->Bool)(hP:qy f lb B W0 p)(w:World)(hb0:Below B W0 w)(hB:B<=w.heap.size)(g:Nat)(hg:w.heap[g]? =some (.cells #[.func (.func f) #[] lb] 110 (0,0))):
 qy 105 #[.pointer (some ⟨g,0,none⟩)] w.heap.size w (fun d=>!p d):=
 ⟨fun args W=>kw Tryz.func105 (by kernel_rfl) rfl args W,fun W d hb hs=>Dx f lb B W0 p hP d g W (hb0.trans (hb.mono hB)) (Nat.le_trans hB hs) (dw hg hb)⟩
def Those (w:World)(ys:List aQ)(e:Ending)(w':World):Prop:=
 ∃(A:Option Addr) (c:Nat),e=.returned (.slice A ys.length c)/\ys.length<=c/\Kd.C fE w' A ys.length ys/\Below w.heap.size w w'/\(0<ys.length->∃ g,A=some ⟨g,0,none⟩/\w.heap.size<=g/\Row w' g ys)
theorem Dl (p:aQ->Bool)(l:List aQ):l.filter (fun d=>!(!p d))=l.filter p:=by simp
theorem za (f:FuncId)(lb:Array Value)(B:Nat)(W0:World)(p:aQ->Bool)(hP:qy f lb B W0 p)(l:List aQ)(A:Option Addr)(c:Nat)(w:World)(hb0:Below B W0 w)(hB:B<=w.heap.size)(hr:Kd.C fE w A l.length l)(hc:l.length<=c)(hl:l.length*56<=140737488355328):
 Calls Tryz.prog 84 #[.slice A l.length c,.func (.func f) #[] lb] w (Those w (l.filter p)):=by
 have HB:=Y (ae (Below.refl w.heap.size w) (Obj.cells #[.func (.func f) #[] lb] 110));have HP:=Y (Eo f lb B W0 p hP (w.alloc (Obj.cells #[.func (.func f) #[] lb] 110)) (hb0.trans (HB.out.mono hB)) (Nat.le_trans hB HB.out.size) w.heap.size (aK _ _));have HC:=Y (oH A c l (w.alloc (Obj.cells #[.func (.func f) #[] lb] 110)) (Kd.aU hr HB.out) hc hl);have HL:=Y hl;have HW:=Y (show(w.alloc (Obj.cells #[.func (.func f) #[] lb] 110)).heap.size=w.heap.size+1 by simp)
 clear hP hb0 hB hr hc hl;cases hn:l.any (fun d=>!p d)with
 |false=>
  have HN:=Y hn
  have HF:aa (l.filter p=l):=⟨by
   rw[List.any_eq_false]at hn;refine List.filter_eq_self.2 (fun d hd=>?_)
   have:=hn d hd
   simpa using this⟩
  clear hn;go_enter Tryz.func84,Tryz.ntmps84
  go_wp2_with (first
   |(go_at_call 104;refine HC.out.mono ?_;rintro e w1 ⟨v1,rfl,hv1,hb1⟩;have HV:=Y hv1;obtain⟨A1,c1,rfl,hc1,hC1⟩:=Kd.lX hv1;have HC1:=Y hC1;have HCC:=Y hc1;have HB1:=Y hb1;clear hv1 hc1 hC1 hb1)
   |(go_at_call 103;refine(yJ 105 _ _ _ _ HP.out l A1 c1 _ HB1.out HB1.out.size HC1.out HCC.out (by have:=HL.out;omega) HN.out).mono ?_;rintro e w2 ⟨rfl,hb2⟩))
  go_ret
  have HX:=ag HB1.out HB1.out.size hb2;rw[HF.out];refine⟨A1,c1,rfl,HCC.out,Kd.aU HC1.out hb2,ag HB.out HB.out.size HX,fun h0=>?_⟩
  obtain⟨g,c,he,_,hgb,hrow⟩:=row_of HV.out h0;injection he with he1 he2 he3
  exact⟨g,he1,by rw[HW.out]at hgb;omega,hrow.below hb2⟩
 |true=>
  have HN:=Y hn
  have HP0:aa (0<l.length):=⟨by
   rcases l with _|⟨x,l⟩
   . simp at hn
   . simp⟩
  clear hn;go_enter Tryz.func84,Tryz.ntmps84
  go_wp2_with (first
   |(go_at_call 104;refine HC.out.mono ?_;rintro e w1 ⟨v1,rfl,hv1,hb1⟩;obtain⟨g,c1,rfl,hc1,hgb,hrow⟩:=row_of hv1 HP0.out;have HG:=Y hgb;have HR:=Y hrow;have HCC:=Y hc1;have HB1:=Y hb1;clear hv1 hc1 hgb hrow hb1)
   |(go_at_call 103;refine(yU 105 _ _ _ _ HP.out l g c1 _ HB1.out HG.out HR.out HCC.out (by have:=HL.out;omega) HN.out).mono ?_;rintro e w2 ⟨rfl,hr2,hg2⟩;have HR2:=Y hr2;have HG2:=Y hg2;clear hr2 hg2))
  go_ret
  have hr2:=HR2.out;have hlen:(l.filter p).length<=l.length:=List.length_filter_le _ _;have hl:=HL.out;rw[Dl]at hr2;refine⟨some ⟨g,0,none⟩,c1,?_,by have:=HCC.out;omega,hr2.C (by omega),ag HB.out HB.out.size (below_grown HB1.out HG2.out HG.out HB1.out.size),fun _=>⟨g,rfl,by have:=HG.out;rw[HW.out]at this;omega,hr2⟩⟩
  rfl
end
section
def cmpI (x y:aQ):Int:=if x.f4<y.f4 then -1 else if x.f4>y.f4 then 1 else 0
theorem qR (a:Int)(w:World):Calls Tryz.prog 107 #[.int .i64 a] w fun e w'=>e=.returned (.bool false)/\Below w.heap.size w w':=by
 have q:(a != a)=false:=bne_self_eq_false _;go_enter Tryz.func107,Tryz.ntmps107;go_wp2_with fail
 go_ret
 exact⟨rfl,zc⟩
theorem zy (a b:Int)(w:World):Calls Tryz.prog 88 #[.int .i64 a,.int .i64 b] w fun e w'=>e=.returned (.int .i64 (if a<b then -1 else if a>b then 1 else 0))/\Below w.heap.size w w':=by
 by_cases h1:a<b
 . have c1:=yb h1;rw[if_pos h1];clear h1;go_enter Tryz.func88,Tryz.ntmps88;go_wp2_with (go_at_call 107;refine(qR _ _).mono ?_;rintro e w2 ⟨rfl,hb2⟩;have HB2:=Y hb2;clear hb2)
   go_ret
   exact⟨rfl,ag (by assumption:aa (Below w.heap.size w _)).out (by assumption:aa (Below w.heap.size w _)).out.size HB2.out⟩
 . have c1:=yd h1;rw[if_neg h1];clear h1
   by_cases h2:a>b
   . have c2:=yb h2;have c3:decide (b<a)=true:=yb h2;rw[if_pos h2];clear h2;go_enter Tryz.func88,Tryz.ntmps88;go_wp2_with (go_at_call 107;refine(qR _ _).mono ?_;rintro e w2 ⟨rfl,hb2⟩;have HB2:=Y hb2;clear hb2)
     go_ret
     exact⟨rfl,ag (by assumption:aa (Below w.heap.size w _)).out (by assumption:aa (Below w.heap.size w _)).out.size HB2.out⟩
   . have c2:=yd h2;have c3:decide (b<a)=false:=yd h2;rw[if_neg h2];clear h2;go_enter Tryz.func88,Tryz.ntmps88;go_wp2_with (go_at_call 107;refine(qR _ _).mono ?_;rintro e w2 ⟨rfl,hb2⟩;have HB2:=Y hb2;clear hb2)
     go_ret
     exact⟨rfl,ag (by assumption:aa (Below w.heap.size w _)).out (by assumption:aa (Below w.heap.size w _)).out.size HB2.out⟩
theorem zL (x y:aQ):decide (cmpI x y<0)=decide (x.f4<y.f4):=by
 unfold cmpI
 split
 . rename_i h;rw[yb h];rfl
 . rename_i h;rw[yd h];split<;>rfl
theorem uj (x y:aQ)(w:World):
 Calls Tryz.prog 87 #[ev x,ev y] w fun e w'=>e=.returned (.int .i64 (cmpI x y))/\Below w.heap.size w w':=by
 have HB:=Y (ae (ae (Below.refl w.heap.size w) (Obj.cells #[.int .u8 x.f0,.int .u8 x.f1.f0,.int .u8 x.f1.f1,.int .u8 x.f1.f2,.int .u8 x.f1.f3,.int .i64 x.f2.f0,.int .i64 x.f2.f1,.int .u64 x.f2.f2,.int .i64 x.f3,.int .i64 x.f4,.int .i64 x.f5] 104)) (Obj.cells #[.int .u8 y.f0,.int .u8 y.f1.f0,.int .u8 y.f1.f1,.int .u8 y.f1.f2,.int .u8 y.f1.f3,.int .i64 y.f2.f0,.int .i64 y.f2.f1,.int .u64 y.f2.f2,.int .i64 y.f3,.int .i64 y.f4,.int .i64 y.f5] 104));have HK:=Y (show ∀ W,Calls Tryz.prog 88 #[.int .i64 x.f4,.int .i64 y.f4] W fun e w'=>e=.returned (.int .i64 (cmpI x y))/\Below W.heap.size W w' from fun W=>zy x.f4 y.f4 W)
 generalize cmpI x y=r at*;go_enter Tryz.func87,Tryz.ntmps87;go_wp2_with (go_at_call 88;refine(HK.out _).mono ?_;rintro e w2 ⟨rfl,hb2⟩)
 go_ret
 exact⟨rfl,ag HB.out HB.out.size hb2⟩
theorem jW {o:Oper}{a:Act}{W:World}{x y:Operand}{g n c k:Nat}(ho:o.op=.indexAddr 53 x y)(hx:a.eval x=.slice (some ⟨g,0,none⟩) n c)(hy:a.eval y=.int .i64 (k:Int))(hk:k<n):(execOp a.eval o).run Tryz.prog W=.ok (.value (.pointer (some ⟨g,k*11,none⟩))) W:=by
 unfold execOp;have h1:(0:Int)<=(k:Int):=by omega
 have h2:(k:Int)<(n:Int):=by omega
 simp only[ho,hx,hy]
 go_simp
theorem kR {o:Oper}{a:Act}{W:World}{x y:Operand}{p q r:Int}(ho:o.op=.binOp .sub 3 x y 3)(hx:a.eval x=.int .i64 p)(hy:a.eval y=.int .i64 q)(hr:wrap64 (p - q)=r):(execOp a.eval o).run Tryz.prog W=.ok (.value (.int .i64 r)) W:=by
 unfold execOp;subst hr;simp only[ho,hx,hy]
 go_simp
 rw[aJ]
section
variable {P:Program} {ops:Array Oper} {Q:Exit→Act→World→Prop}
theorem xZ {oi:Oper}{N:Option Tmp}{a:Act}{w:World}{K:Act->World->Prop}{f:FuncId}{fn:Func}{t:Tmp}{xs:Array Operand}{ts:Array TypeId}(hf:P.funcs[f]? =some fn)(hname:(fn.name== "runtime.NumGoroutine")=false)(hb:fn.body.isSome=true)(args:Array Value)
 (hw:Region.wanted oi (yielded ops a.tmps)=true) (hN:oi.dst=N) (hop:oi.op=.call { callee:=.value (.tmp t),args:=xs,argTypes:=ts }) (ht:a.eval (.tmp t)=.func (.func f) #[] #[]) (hargs:xs.map a.eval=args)
 (h:Calls P f args w fun e w'=>∃ v,e=.returned v/\K (a.put N v) w'):if Region.wanted oi (yielded ops a.tmps)=true then Oper.wp P oi a w K Q else K (a.put N undef) w:=by
 refine call_ f args hw hN ?_ h;have he:=kw hf hname hb args w;unfold execOp;simp [hop,resolve,Deferred.ofValue,invoke,ht,hargs,he]
end
end
end Go.Proofs.YtglikkmmbdnmbaaGreat.Ev
namespace Go.Proofs.YtglikkmmbdnmbaaGreat.Ev
open PCan
set_option linter.unusedVariables false
set_option linter.unusedSimpArgs false
section
def Srt (xs:List aQ):Prop:=xs.Pairwise (fun x y=>x.f4<=y.f4)
def Same (xs ys:List aQ):Prop:=∀ k:Int,ys.filter (fun d=>d.f4==k)=xs.filter (fun d=>d.f4==k)
theorem Same.refl (xs:List aQ):Same xs xs:=fun _=>rfl
theorem Same.trans {xs ys zs:List aQ}(h:Same xs ys)(k:Same ys zs):Same xs zs:=fun q=>(k q).trans (h q)
theorem Same.append {xs ys xs' ys':List aQ}(h:Same xs ys)(k:Same xs' ys'):Same (xs++xs') (ys++ys'):=fun q=>by
 rw[List.filter_append,List.filter_append,h q,k q]
theorem pX {xs ys:List aQ}(h:Same xs ys)(d:aQ):d∈ys↔d∈xs:=by
 have h1:=h d.f4;have e:∀ zs:List aQ,d∈zs↔d∈zs.filter (fun x=>x.f4==d.f4):=fun zs=>by simp
 rw[e ys,h1,<-e xs]
theorem C9 {us vs:List aQ}(h:∀ u∈us,∀ v∈vs,u.f4≠v.f4):Same (us++vs) (vs++us):=fun q=>by
 rw[List.filter_append,List.filter_append]
 by_cases hu:us.filter (fun d=>d.f4==q)=[]
 . rw[hu,List.nil_append,List.append_nil]
 . have hv:vs.filter (fun d=>d.f4==q)=[]:=by
    rw[List.filter_eq_nil_iff];intro v hv he;obtain⟨u,hu⟩:=List.exists_mem_of_ne_nil _ hu;rw[List.mem_filter]at hu;exact h u hu.1 v hv (by rw[beq_iff_eq]at he;have:=hu.2;rw[beq_iff_eq]at this;omega)
   rw[hv,List.nil_append,List.append_nil]
theorem Am {x y:aQ}{us vs:List aQ}(h:x.f4≠y.f4):Same (us++x :: y :: vs) (us++y :: x :: vs):=by
 refine(Same.refl us).append ?_;have:=(C9 (us:=[x]) (vs:=[y]) (by simpa using h)).append (Same.refl vs)
 exact this
theorem pR {us vs:List aQ}:Srt (us++vs)↔Srt us/\Srt vs/\∀ u∈us,∀ v∈vs,u.f4<=v.f4:=List.pairwise_append
theorem nQ {d:aQ}{vs:List aQ}:Srt (d :: vs)↔(∀ v∈vs,d.f4<=v.f4)/\Srt vs:=List.pairwise_cons
def qC (P S Q:List aQ)(t:Nat)(zs:List aQ):Prop:=∃ S1:List aQ,zs=P++(S1++(S.drop t++Q))/\Srt S1/\Same (S.take t) S1/\S1.length=t
def InnI (P S Q:List aQ)(t j:Nat)(zs:List aQ):Prop:=∃(U:List aQ) (d:aQ) (V:List aQ),zs=P++(U++d :: (V++(S.drop (t+1)++Q)))/\j=P.length+U.length/\Srt (U++V)/\(∀ v∈V,d.f4<v.f4)/\Same (S.take (t+1)) (U++d :: V)/\U.length+V.length=t
theorem DR (P S Q:List aQ)(h:0<S.length):qC P S Q 1 (P++(S++Q)):=by
 obtain⟨d,S,rfl⟩:∃ d T,S=d :: T:=by
  cases S with
  |nil=>simp at h
  |cons d T=>exact⟨d,T,rfl⟩
 exact⟨[d],by simp,by unfold Srt;simp,by simpa using Same.refl [d],rfl⟩
theorem Ad (P S Q:List aQ):qC P S Q (min 1 S.length) (P++(S++Q)):=by
 rcases Nat.eq_zero_or_pos S.length with h|h
 . have hS:S=[]:=List.eq_nil_of_length_eq_zero h;subst hS;exact⟨[],by simp,List.Pairwise.nil,Same.refl _,rfl⟩
 . rw[show min 1 S.length=1 by omega]
   exact DR P S Q h
theorem out_end {P S Q zs:List aQ}(h:qC P S Q S.length zs):∃ S1,zs=P++(S1++Q)/\Srt S1/\Same S S1/\S1.length=S.length:=by
 obtain⟨S1,h1,h2,h3,h4⟩:=h;rw[List.drop_length,List.nil_append]at h1;rw[List.take_length]at h3;exact⟨S1,h1,h2,h3,h4⟩
theorem EW {P S Q zs:List aQ}{t:Nat}(h:qC P S Q t zs)(ht:t<S.length):InnI P S Q t (P.length+t) zs:=by
 obtain⟨S1,h1,h2,h3,h4⟩:=h;refine⟨S1,S[t],[],?_,by rw[h4],by simpa using h2,fun v hv=>by simp at hv,?_,by simpa using h4⟩
 . rw[h1,List.drop_eq_getElem_cons ht];rfl
 . rw[List.take_succ_eq_append_getElem ht];exact h3.append (Same.refl _)
theorem Ex {P S Q zs:List aQ}{t:Nat}(h:InnI P S Q t P.length zs):qC P S Q (t+1) zs:=by
 obtain⟨U,d,V,h1,h2,h3,h4,h5,h6⟩:=h;have hU:U=[]:=List.eq_nil_of_length_eq_zero (by omega)
 subst hU;refine⟨d :: V,by rw[h1];simp,?_,by simpa using h5,by simp at h6 ⊢;omega⟩
 rw[nQ];exact⟨fun v hv=>Int.le_of_lt (h4 v hv),by simpa using h3⟩
theorem ins_at {P S Q zs:List aQ}{t m:Nat}(h:InnI P S Q t (m+1) zs)(hm:P.length<=m):
 ∃ x y:aQ,zs[m+1]? =some x/\zs[m]? =some y/\(x.f4<y.f4->InnI P S Q t m ((zs.set (m+1) y).set m x))/\(¬ x.f4<y.f4->qC P S Q (t+1) zs):=by
 obtain⟨U,d,V,h1,h2,h3,h4,h5,h6⟩:=h
 obtain⟨U,u,rfl⟩:∃ U' u,U=U'++[u]:=by
  rcases List.eq_nil_or_concat U with rfl|⟨U',u,rfl⟩
  . simp at h2;omega
  . exact⟨U',u,by simp⟩
 have hj:m=P.length+U.length:=by simp at h2;omega
 have e:zs=(P++U)++(u :: d :: (V++(S.drop (t+1)++Q))):=by rw[h1];simp
 have hl:(P++U).length=m:=by rw[List.length_append];omega
 refine⟨d,u,?_,?_,fun hlt=>?_,fun hge=>?_⟩
 . rw[e,List.getElem?_append_right (by omega),hl,Nat.add_sub_cancel_left]
   rfl
 . rw[e,List.getElem?_append_right (by omega),hl,Nat.sub_self]
   rfl
 . refine⟨U,d,u :: V,?_,hj,by simpa using h3,?_,?_,by simp at h6 ⊢;omega⟩
   . rw[e,List.set_append_right _ _ (by omega),hl,Nat.add_sub_cancel_left,List.set_append_right _ _ (by omega),hl,Nat.sub_self]
     simp
   . intro v hv
     rcases List.mem_cons.1 hv with rfl|hv
     . exact hlt
     . exact h4 v hv
   . refine h5.trans ?_;have h7:=Am (x:=u) (y:=d) (us:=U) (vs:=V) (by omega)
     simpa using h7
 . refine⟨(U++[u])++d :: V,by rw[h1];simp,?_,h5,by simp at h6 ⊢;omega⟩
   have h7:=pR.1 h3;have h8:=pR.1 h7.1;rw[pR,nQ];refine⟨h7.1,⟨fun v hv=>Int.le_of_lt (h4 v hv),h7.2.1⟩,fun x hx v hv=>?_⟩
   rcases List.mem_cons.1 hv with rfl|hv
   . rcases List.mem_append.1 hx with hx|hx
     . have:=h8.2.2 x hx u (by simp)
       omega
     . have:x=u:=by simpa using hx
       subst this;omega
   . exact h7.2.2 x hx v hv
theorem inn_len {P S Q zs:List aQ}{t j:Nat}(h:InnI P S Q t j zs)(ht:t<S.length):zs.length=P.length+(S.length+Q.length)/\P.length<=j/\j<=P.length+t:=by
 obtain⟨U,d,V,h1,h2,h3,h4,h5,h6⟩:=h;refine⟨?_,by omega,by omega⟩
 rw[h1];simp only[List.length_append,List.length_cons,List.length_drop];omega
end
end Go.Proofs.YtglikkmmbdnmbaaGreat.Ev
namespace Go.Proofs.YtglikkmmbdnmbaaGreat.Ev
open Go.RowKit Q7
open YtglikkmmbdnmbaaGreat.Own PCan
set_option linter.unusedVariables false
set_option linter.unusedSimpArgs false
section
def Sorted (w:World)(g:Nat)(P S Q:List aQ)(e:Ending)(w':World):Prop:=e=.returned (.tuple #[])/\∃ S1:List aQ,Row w' g (P++(S1++Q))/\Srt S1/\Same S S1/\S1.length=S.length/\w.grownBy w' (some g)
theorem Br (w:World)(r:Option Nat):w.grownBy w r:=⟨rfl,rfl,rfl,Nat.le_refl _,fun k _ _=>rfl⟩
theorem ul (P S Q:List aQ)(a b g n c:Nat)(w:World)(ha:a=P.length)(hb:b=P.length+S.length)(hr:Row w g (P++(S++Q)))(hn:n=P.length+(S.length+Q.length))(hl:n<1000000000):
 Calls Tryz.prog 124 #[.slice (some ⟨g,0,none⟩) n c,.int .i64 (a:Int),.int .i64 (b:Int),.func (.func 87) #[] #[]] w (Sorted w g P S Q):=by
 have HR:=Y hr;have HN:=Y hn;have HL:=Y hl;have HA:=Y ha;have HB:=Y hb;have hal:a<1000000000:=by omega
 have hbl:b<1000000000:=by omega
 have hab:a<=b:=by omega
 clear hr hn hl ha hb;go_enter Tryz.func124,Tryz.ntmps124;go_wp2_with fail
 go_loopg [8] (b - (a+1)) (fun kq v8 w'=>∃(t:Nat) (zs:List aQ),v8=.int .i64 ((a+t:Nat):Int)/\(a+t+kq=b\/(kq=0/\b<=a+t))/\aa (qC P S Q (min t S.length) zs)/\aa (Row w' g zs)/\aa (w.grownBy w' (some g)))
 case atStart=>exact⟨1,_,rfl,by omega,⟨Ad P S Q⟩,HR,⟨Br _ _⟩⟩
 case round=>
  obtain⟨t,zs,rfl,ht,HO,HZ,HG⟩:=hrel;obtain⟨i,hi⟩:∃ i,i=a+t:=⟨_,rfl⟩;rw[<-hi];have HI:=Y hi;cases gk with
  |zero=>
   have c1:decide ((i:Int)<(b:Int))=false:=yd (by omega)
   have c2:decide (i<b)=false:=yd (by omega)
   have HO2:aa (qC P S Q S.length zs):=⟨by have h:=HO.out;rw[show min t S.length=S.length by have:=HA.out;have:=HB.out;omega]at h;exact h⟩
   clear ht hi;go_wp2_with fail
   go_end0
   obtain⟨S1,h1,h2,h3,h4⟩:=out_end HO2.out;exact⟨rfl,S1,by rw[<-h1];exact HZ.out,h2,h3,h4,HG.out⟩
  |succ k1=>
   have c1:decide ((i:Int)<(b:Int))=true:=yb (by omega)
   have c2:decide (i<b)=true:=yb (by omega)
   have HTS:=Y (show t<S.length by have:=HA.out;have:=HB.out;omega)
   have hib:i<1000000000:=by omega
   have HK:=Y (show i+1+k1=b by omega)
   have HIN:=Y (show InnI P S Q t i zs from by rw[hi,HA.out];refine EW ?_ HTS.out;have h:=HO.out;rw[show min t S.length=t by have:=HTS.out;omega]at h;exact h)
   clear ht hi HO;go_wp2_with fail
   go_loopg [9] (i - a) (fun kq v9 w'=>∃(j:Nat) (ys:List aQ),v9=.int .i64 (j:Int)/\j=a+kq/\aa (InnI P S Q t j ys)/\aa (Row w' g ys)/\aa (w.grownBy w' (some g)))
   case atStart=>exact⟨i,zs,rfl,by have:=HI.out;omega,HIN,HZ,HG⟩
   case round=>
    clear HZ HG HIN;obtain⟨j,ys,rfl,hj,HIN,HZ,HG⟩:=hrel;obtain⟨hlen,hj1,hj2⟩:=inn_len HIN.out HTS.out;have hjn:j<n:=by have:=HN.out;have:=HA.out;have:=HTS.out;omega
    have hjl:j<1000000000:=by have:=HL.out;omega
    cases gk with
    |zero=>
     obtain rfl:j=a:=by omega
     have d1:decide ((j:Int)<(j:Int))=false:=yd (by omega)
     have d2:decide (j<j)=false:=yd (by omega)
     clear hlen hj1 hj2 hj hjn;go_wp2_with fail;refine nE (n:=17) (S:=fun w'=>True) (ds:=[]) #[yi,yi,yi,yi,yi,yi,yi,yi,yi,yi,yi,yi,yi,yi,yi,yi,yi] (by kernel_rfl) rfl rfl trivial (fun hHeld=>?_)
     refine bz (i:=0) (N:=some 18) (v:=?_) (a':=?_) #[ye,yi,yi,yi,yi,yi,yi,yi,yi,yi,yi,yi,yi,yi,yi,yi,yi] rfl rfl (by kernel_rfl) (fun _ _ _ h=>h) (Or.inl ⟨by rfl,?_⟩) ?_ ?_
     rotate_left
     . intro w'
       go_simp
       with_reducible rfl
     rotate_left
     . simp only[Act.put,zj,zr,ya,aJ,aT];rfl
     refine bz (i:=1) (N:=some 19) (v:=?_) (a':=?_) #[ye,ye,yi,yi,yi,yi,yi,yi,yi,yi,yi,yi,yi,yi,yi,yi,yi] rfl rfl (by kernel_rfl) (fun _ _ _ h=>h) (Or.inl ⟨by rfl,?_⟩) ?_ ?_
     rotate_left
     . intro w'
       go_simp
       with_reducible rfl
     rotate_left
     . simp only[Act.put,zj,zr,ya,aJ,aT];rfl
     refine bz (i:=2) (N:=some 20) (v:=?_) (a':=?_) #[ye,ye,ye,yi,yi,yi,yi,yi,yi,yi,yi,yi,yi,yi,yi,yi,yi] rfl rfl (by kernel_rfl) (fun _ _ _ h=>h) (Or.inl ⟨by rfl,?_⟩) ?_ ?_
     rotate_left
     . intro w'
       go_simp
       with_reducible rfl
     rotate_left
     . simp only[Act.put,zj,zr,ya,aJ,aT];rfl
     refine bz (i:=3) (N:=some 21) (v:=?_) (a':=?_) #[ye,ye,ye,ye,yi,yi,yi,yi,yi,yi,yi,yi,yi,yi,yi,yi,yi] rfl rfl (by kernel_rfl) (fun _ _ _ h=>h) (Or.inl ⟨by rfl,?_⟩) ?_ ?_
     rotate_left
     . intro w'
       go_simp
       with_reducible rfl
     rotate_left
     . simp only[Act.put,zj,zr,ya,aJ,aT];rfl
     refine bz (i:=4) (N:=some 22) (v:=undef) (a':=?_) #[ye,ye,ye,ye,ye,yi,yi,yi,yi,yi,yi,yi,yi,yi,yi,yi,yi] rfl rfl (by kernel_rfl) (fun _ _ _ h=>h) (Or.inr ⟨by rfl,rfl⟩) ?_ ?_
     rotate_left
     . simp only[Act.put,zj,zr,ya,aJ,aT];rfl
     refine bz (i:=5) (N:=some 23) (v:=undef) (a':=?_) #[ye,ye,ye,ye,ye,ye,yi,yi,yi,yi,yi,yi,yi,yi,yi,yi,yi] rfl rfl (by kernel_rfl) (fun _ _ _ h=>h) (Or.inr ⟨by rfl,rfl⟩) ?_ ?_
     rotate_left
     . simp only[Act.put,zj,zr,ya,aJ,aT];rfl
     refine bz (i:=6) (N:=some 24) (v:=undef) (a':=?_) #[ye,ye,ye,ye,ye,ye,ye,yi,yi,yi,yi,yi,yi,yi,yi,yi,yi] rfl rfl (by kernel_rfl) (fun _ _ _ h=>h) (Or.inr ⟨by rfl,rfl⟩) ?_ ?_
     rotate_left
     . simp only[Act.put,zj,zr,ya,aJ,aT];rfl
     refine bz (i:=7) (N:=some 25) (v:=undef) (a':=?_) #[ye,ye,ye,ye,ye,ye,ye,ye,yi,yi,yi,yi,yi,yi,yi,yi,yi] rfl rfl (by kernel_rfl) (fun _ _ _ h=>h) (Or.inr ⟨by rfl,rfl⟩) ?_ ?_
     rotate_left
     . simp only[Act.put,zj,zr,ya,aJ,aT];rfl
     refine bz (i:=8) (N:=some 26) (v:=undef) (a':=?_) #[ye,ye,ye,ye,ye,ye,ye,ye,ye,yi,yi,yi,yi,yi,yi,yi,yi] rfl rfl (by kernel_rfl) (fun _ _ _ h=>h) (Or.inr ⟨by rfl,rfl⟩) ?_ ?_
     rotate_left
     . simp only[Act.put,zj,zr,ya,aJ,aT];rfl
     refine bz (i:=9) (N:=some 27) (v:=undef) (a':=?_) #[ye,ye,ye,ye,ye,ye,ye,ye,ye,ye,yi,yi,yi,yi,yi,yi,yi] rfl rfl (by kernel_rfl) (fun _ _ _ h=>h) (Or.inr ⟨by rfl,rfl⟩) ?_ ?_
     rotate_left
     . simp only[Act.put,zj,zr,ya,aJ,aT];rfl
     refine bz (i:=10) (N:=some 28) (v:=undef) (a':=?_) #[ye,ye,ye,ye,ye,ye,ye,ye,ye,ye,ye,yi,yi,yi,yi,yi,yi] rfl rfl (by kernel_rfl) (fun _ _ _ h=>h) (Or.inr ⟨by rfl,rfl⟩) ?_ ?_
     rotate_left
     . simp only[Act.put,zj,zr,ya,aJ,aT];rfl
     refine bz (i:=11) (N:=some 29) (v:=undef) (a':=?_) #[ye,ye,ye,ye,ye,ye,ye,ye,ye,ye,ye,ye,yi,yi,yi,yi,yi] rfl rfl (by kernel_rfl) (fun _ _ _ h=>h) (Or.inr ⟨by rfl,rfl⟩) ?_ ?_
     rotate_left
     . simp only[Act.put,zj,zr,ya,aJ,aT];rfl
     refine bz (i:=12) (N:=some 30) (v:=undef) (a':=?_) #[ye,ye,ye,ye,ye,ye,ye,ye,ye,ye,ye,ye,ye,yi,yi,yi,yi] rfl rfl (by kernel_rfl) (fun _ _ _ h=>h) (Or.inr ⟨by rfl,rfl⟩) ?_ ?_
     rotate_left
     . simp only[Act.put,zj,zr,ya,aJ,aT];rfl
     refine bz (i:=13) (N:=some 31) (v:=undef) (a':=?_) #[ye,ye,ye,ye,ye,ye,ye,ye,ye,ye,ye,ye,ye,ye,yi,yi,yi] rfl rfl (by kernel_rfl) (fun _ _ _ h=>h) (Or.inr ⟨by rfl,rfl⟩) ?_ ?_
     rotate_left
     . simp only[Act.put,zj,zr,ya,aJ,aT];rfl
     refine bz (i:=14) (N:=some 32) (v:=undef) (a':=?_) #[ye,ye,ye,ye,ye,ye,ye,ye,ye,ye,ye,ye,ye,ye,ye,yi,yi] rfl rfl (by kernel_rfl) (fun _ _ _ h=>h) (Or.inr ⟨by rfl,rfl⟩) ?_ ?_
     rotate_left
     . simp only[Act.put,zj,zr,ya,aJ,aT];rfl
     refine bz (i:=15) (N:=some 33) (v:=undef) (a':=?_) #[ye,ye,ye,ye,ye,ye,ye,ye,ye,ye,ye,ye,ye,ye,ye,ye,yi] rfl rfl (by kernel_rfl) (fun _ _ _ h=>h) (Or.inr ⟨by rfl,rfl⟩) ?_ ?_
     rotate_left
     . simp only[Act.put,zj,zr,ya,aJ,aT];rfl
     refine bz (i:=16) (N:=some 34) (v:=?_) (a':=?_) #[ye,ye,ye,ye,ye,ye,ye,ye,ye,ye,ye,ye,ye,ye,ye,ye,ye] rfl rfl (by kernel_rfl) (fun _ _ _ h=>h) (Or.inl ⟨by rfl,?_⟩) ?_ ?_
     rotate_left
     . intro w'
       go_simp
       with_reducible rfl
     rotate_left
     . simp only[Act.put,zj,zr,ya,aJ,aT];rfl
     refine pV (by kernel_rfl) ?_
     go_wp2_with fail;go_roundg k1
     case measure=>have:=HK.out;have:=HI.out;omega
     case rel=>
      refine⟨t+1,ys,by have:=HI.out;rw[show((j+(t+1):Nat):Int)=(i:Int)+1 by omega],by have:=HK.out;have:=HI.out;omega,⟨?_⟩,⟨HZ.out.drew⟩,⟨grown_of HG.out (bv zc)⟩⟩
      rw[show min (t+1) S.length=t+1 by have:=HTS.out;omega]
      have h:=HIN.out;rw[HA.out]at h;exact Ex h
    |succ k2=>
     obtain⟨m,hm⟩:∃ m,m=a+k2:=⟨_,rfl⟩;have hjm:j=m+1:=by omega
     have d1:decide ((a:Int)<(j:Int))=true:=yb (by omega)
     have d2:decide (a<j)=true:=yb (by omega)
     obtain⟨x,y,hx,hy,hsw,hst⟩:=ins_at (m:=m) (by rw[<-hjm];exact HIN.out) (by have:=HA.out;omega)
     rw[<-hjm]at hx hsw;have HX:=Y hx;have HY:=Y hy;have HSW:=Y hsw;have HST:=Y hst;have HS:=Y (show wrap64 ((j:Int) - 1)=(m:Int) by rw[nu (by omega) (by omega)];omega)
     have HM1:=Y hjn;have HM0:=Y (show m<n by omega)
     have HL1:=Y (show j<ys.length by rw[hlen];have:=HN.out;omega)
     have HL0:=Y (show m<(ys.set j y).length by rw[List.length_set,hlen];have:=HN.out;omega)
     have HM:=Y hm;have HJM:=Y hjm;clear hlen hj1 hj2 hj hjn hm hjm hx hy hsw hst
     by_cases hlt:x.f4<y.f4
     . have ct:decide (cmpI x y<0)=true:=by rw[zL];exact yb hlt
       have HLT:=Y hlt;clear hlt;go_wp2_with fail;refine nE (n:=17) (S:=fun w'=>Row w' g ys) (ds:=[]) #[yi,yi,yi,yi,yi,yi,yi,yi,yi,yi,yi,yi,yi,yi,yi,yi,yi] (by kernel_rfl) rfl rfl ((Row.drew HZ.out)) (fun hHeld=>?_)
       refine bz (i:=0) (N:=some 18) (v:=?_) (a':=?_) #[ye,yi,yi,yi,yi,yi,yi,yi,yi,yi,yi,yi,yi,yi,yi,yi,yi] rfl rfl (by kernel_rfl) (fun _ _ _ h=>h) (Or.inl ⟨by rfl,?_⟩) ?_ ?_
       rotate_left
       . intro w'
         go_simp
         with_reducible rfl
       rotate_left
       . simp only[Act.put,zj,zr,ya,aJ,aT];rfl
       refine bz (i:=1) (N:=some 19) (v:=?_) (a':=?_) #[ye,ye,yi,yi,yi,yi,yi,yi,yi,yi,yi,yi,yi,yi,yi,yi,yi] rfl rfl (by kernel_rfl) (fun _ _ _ h=>h) (Or.inl ⟨by rfl,?_⟩) ?_ ?_
       rotate_left
       . intro w'
         go_simp
         with_reducible rfl
       rotate_left
       . simp only[Act.put,zj,zr,ya,aJ,aT];rfl
       refine bz (i:=2) (N:=some 20) (v:=?_) (a':=?_) #[ye,ye,ye,yi,yi,yi,yi,yi,yi,yi,yi,yi,yi,yi,yi,yi,yi] rfl rfl (by kernel_rfl) (fun _ _ _ h=>h) (Or.inl ⟨by rfl,?_⟩) ?_ ?_
       rotate_left
       . intro w'
         go_simp
         with_reducible rfl
       rotate_left
       . simp only[Act.put,zj,zr,ya,aJ,aT];rfl
       refine bz (i:=3) (N:=some 21) (v:=?_) (a':=?_) #[ye,ye,ye,ye,yi,yi,yi,yi,yi,yi,yi,yi,yi,yi,yi,yi,yi] rfl rfl (by kernel_rfl) (fun _ _ _ h=>h) (Or.inl ⟨by rfl,?_⟩) ?_ ?_
       rotate_left
       . intro w'
         go_simp
         with_reducible rfl
       rotate_left
       . simp only[Act.put,zj,zr,ya,aJ,aT];rfl
       refine bz (i:=4) (N:=some 22) (v:=?_) (a':=?_) #[ye,ye,ye,ye,ye,yi,yi,yi,yi,yi,yi,yi,yi,yi,yi,yi,yi] rfl rfl (by kernel_rfl) (fun _ _ _ h=>h) (Or.inl ⟨by rfl,?_⟩) ?_ ?_
       rotate_left
       . intro w'
         go_simp
         with_reducible rfl
       rotate_left
       . simp only[Act.put,zj,zr,ya,aJ,aT];rfl
       refine bz (i:=5) (N:=some 23) (v:=?_) (a':=?_) #[ye,ye,ye,ye,ye,ye,yi,yi,yi,yi,yi,yi,yi,yi,yi,yi,yi] rfl rfl (by kernel_rfl) (fun _ _ _ h=>h) (Or.inl ⟨by rfl,?_⟩) ?_ ?_
       rotate_left
       . intro w'
         go_simp
         with_reducible rfl
       rotate_left
       . simp only[Act.put,zj,zr,ya,aJ,aT];rfl
       refine bz (i:=6) (N:=some 24) (v:=?_) (a':=?_) #[ye,ye,ye,ye,ye,ye,ye,yi,yi,yi,yi,yi,yi,yi,yi,yi,yi] rfl rfl (by kernel_rfl) (fun _ _ _ h=>h) (Or.inl ⟨by rfl,?_⟩) ?_ ?_
       rotate_left
       . intro w'
         go_simp
         with_reducible rfl
       rotate_left
       . simp only[Act.put,zj,zr,ya,aJ,aT];rfl
       refine bz (i:=7) (N:=some 25) (v:=.pointer (some ⟨g,j*11,none⟩)) (a':=?_) #[ye,ye,ye,ye,ye,ye,ye,ye,yi,yi,yi,yi,yi,yi,yi,yi,yi] rfl rfl (by kernel_rfl) (fun _ _ _ h=>h) (Or.inl ⟨by rfl,?_⟩) ?_ ?_
       . intro w';exact jW (by rfl) (by rfl) (by rfl) HM1.out
       rotate_left
       . simp only[Act.put,zj,zr,ya,aJ,aT];rfl
       refine bz (i:=9) (N:=some 27) (v:=?_) (a':=?_) #[ye,ye,ye,ye,ye,ye,ye,ye,yi,ye,yi,yi,yi,yi,yi,yi,yi] rfl rfl (by kernel_rfl) (fun _ _ _ h=>h) (Or.inl ⟨by rfl,?_⟩) ?_ ?_
       rotate_left
       . intro w'
         go_simp
         with_reducible rfl
       rotate_left
       . simp only[Act.put,zj,zr,ya,aJ,aT];rfl
       refine bz (i:=10) (N:=some 28) (v:=?_) (a':=?_) #[ye,ye,ye,ye,ye,ye,ye,ye,yi,ye,ye,yi,yi,yi,yi,yi,yi] rfl rfl (by kernel_rfl) (fun _ _ _ h=>h) (Or.inl ⟨by rfl,?_⟩) ?_ ?_
       rotate_left
       . intro w'
         go_simp
         with_reducible rfl
       rotate_left
       . simp only[Act.put,zj,zr,ya,aJ,aT];rfl
       refine bz (i:=11) (N:=some 29) (v:=.int .i64 (m:Int)) (a':=?_) #[ye,ye,ye,ye,ye,ye,ye,ye,yi,ye,ye,ye,yi,yi,yi,yi,yi] rfl rfl (by kernel_rfl) (fun _ _ _ h=>h) (Or.inl ⟨by rfl,?_⟩) ?_ ?_
       . intro w';exact kR (by rfl) (by rfl) (by rfl) HS.out
       rotate_left
       . simp only[Act.put,zj,zr,ya,aJ,aT];rfl
       refine bz (i:=12) (N:=some 30) (v:=.pointer (some ⟨g,m*11,none⟩)) (a':=?_) #[ye,ye,ye,ye,ye,ye,ye,ye,yi,ye,ye,ye,ye,yi,yi,yi,yi] rfl rfl (by kernel_rfl) (fun _ _ _ h=>h) (Or.inl ⟨by rfl,?_⟩) ?_ ?_
       . intro w';exact jW (by rfl) (by rfl) (by rfl) HM0.out
       rotate_left
       . simp only[Act.put,zj,zr,ya,aJ,aT];rfl
       refine iY (i:=8) (N:=some 26) (v:=ev x) (a':=?_) #[ye,ye,ye,ye,ye,ye,ye,ye,ye,ye,ye,ye,ye,yi,yi,yi,yi] rfl rfl (by kernel_rfl) (fun _ _ _ h=>h) (Or.inl ⟨by rfl,?_⟩) hHeld ?_ ?_
       . intro w' s0;exact iR s0 HX.out (by rfl) (by rfl)
       rotate_left
       . simp only[Act.put,zj,zr,ya,aJ,aT];rfl
       refine iY (i:=13) (N:=some 31) (v:=ev y) (a':=?_) #[ye,ye,ye,ye,ye,ye,ye,ye,ye,ye,ye,ye,ye,ye,yi,yi,yi] rfl rfl (by kernel_rfl) (fun _ _ _ h=>h) (Or.inl ⟨by rfl,?_⟩) hHeld ?_ ?_
       . intro w' s0;exact iR s0 HY.out (by rfl) (by rfl)
       rotate_left
       . simp only[Act.put,zj,zr,ya,aJ,aT];rfl
       refine nD (i:=14) (N:=some 32) #[ye,ye,ye,ye,ye,ye,ye,ye,ye,ye,ye,ye,ye,ye,ye,yi,yi] rfl rfl (by kernel_rfl) (by decide) (fun K hK=>?_)
       refine xZ Tryz.func87 (by kernel_rfl) rfl #[ev x,ev y] (by rfl) rfl rfl (by rfl) (by simp only[List.map_toArray,List.map_cons,List.map_nil];rfl) ?_
       with_reducible refine(uj x y _).mono ?_
       rintro e w5 ⟨rfl,hb5⟩;refine⟨_,rfl,?_⟩;have HB5:=Y (show Below wr.heap.size wr w5 from ag (bv zc) (Nat.le_refl _) hb5)
       clear hb5;refine hK.out _ _ ((Row.below HZ.out HB5.out)) (fun hHeld=>?_)
       clear hK K;refine mi (a':=?_) ?_ ?_
       rotate_left
       . show Act.put _ (some 32) _=_
         simp only[Act.put,zj,zr,ya,aJ,aT];rfl
       refine bz (i:=15) (N:=some 33) (v:=?_) (a':=?_) #[ye,ye,ye,ye,ye,ye,ye,ye,ye,ye,ye,ye,ye,ye,ye,ye,yi] rfl rfl (by kernel_rfl) (fun _ _ _ h=>h) (Or.inl ⟨by rfl,?_⟩) ?_ ?_
       rotate_left
       . intro w'
         go_simp
         with_reducible rfl
       rotate_left
       . simp only[Act.put,zj,zr,ya,aJ,aT];rfl
       refine bz (i:=16) (N:=some 34) (v:=?_) (a':=?_) #[ye,ye,ye,ye,ye,ye,ye,ye,ye,ye,ye,ye,ye,ye,ye,ye,ye] rfl rfl (by kernel_rfl) (fun _ _ _ h=>h) (Or.inl ⟨by rfl,?_⟩) ?_ ?_
       rotate_left
       . intro w'
         go_simp
         with_reducible rfl
       rotate_left
       . simp only[Act.put,zj,zr,ya,aJ,aT];rfl
       refine pV (by kernel_rfl) ?_
       go_wp2_with fail;have HR5:=Y (Row.below HZ.out HB5.out);refine nE (n:=18) (S:=fun w'=>Row w' g ys) (ds:=[15,17]) #[yi,yi,yi,yi,yi,yi,yi,yi,yi,yi,yi,yi,yi,yi,yi,yi,yi,yi] (by kernel_rfl) rfl rfl ((Row.drew HR5.out)) (fun hHeld=>?_)
       refine bz (i:=0) (N:=some 37) (v:=?_) (a':=?_) #[ye,yi,yi,yi,yi,yi,yi,yi,yi,yi,yi,yi,yi,yi,yi,yi,yi,yi] rfl rfl (by kernel_rfl) (fun _ _ _ h=>h) (Or.inl ⟨by rfl,?_⟩) ?_ ?_
       rotate_left
       . intro w'
         go_simp
         with_reducible rfl
       rotate_left
       . simp only[Act.put,zj,zr,ya,aJ,aT];rfl
       refine bz (i:=1) (N:=some 38) (v:=?_) (a':=?_) #[ye,ye,yi,yi,yi,yi,yi,yi,yi,yi,yi,yi,yi,yi,yi,yi,yi,yi] rfl rfl (by kernel_rfl) (fun _ _ _ h=>h) (Or.inl ⟨by rfl,?_⟩) ?_ ?_
       rotate_left
       . intro w'
         go_simp
         with_reducible rfl
       rotate_left
       . simp only[Act.put,zj,zr,ya,aJ,aT];rfl
       refine bz (i:=2) (N:=some 39) (v:=?_) (a':=?_) #[ye,ye,ye,yi,yi,yi,yi,yi,yi,yi,yi,yi,yi,yi,yi,yi,yi,yi] rfl rfl (by kernel_rfl) (fun _ _ _ h=>h) (Or.inl ⟨by rfl,?_⟩) ?_ ?_
       rotate_left
       . intro w'
         go_simp
         with_reducible rfl
       rotate_left
       . simp only[Act.put,zj,zr,ya,aJ,aT];rfl
       refine bz (i:=3) (N:=some 40) (v:=?_) (a':=?_) #[ye,ye,ye,ye,yi,yi,yi,yi,yi,yi,yi,yi,yi,yi,yi,yi,yi,yi] rfl rfl (by kernel_rfl) (fun _ _ _ h=>h) (Or.inl ⟨by rfl,?_⟩) ?_ ?_
       rotate_left
       . intro w'
         go_simp
         with_reducible rfl
       rotate_left
       . simp only[Act.put,zj,zr,ya,aJ,aT];rfl
       refine bz (i:=4) (N:=some 41) (v:=.int .i64 (m:Int)) (a':=?_) #[ye,ye,ye,ye,ye,yi,yi,yi,yi,yi,yi,yi,yi,yi,yi,yi,yi,yi] rfl rfl (by kernel_rfl) (fun _ _ _ h=>h) (Or.inl ⟨by rfl,?_⟩) ?_ ?_
       . intro w';exact kR (by rfl) (by rfl) (by rfl) HS.out
       rotate_left
       . simp only[Act.put,zj,zr,ya,aJ,aT];rfl
       refine bz (i:=5) (N:=some 42) (v:=?_) (a':=?_) #[ye,ye,ye,ye,ye,ye,yi,yi,yi,yi,yi,yi,yi,yi,yi,yi,yi,yi] rfl rfl (by kernel_rfl) (fun _ _ _ h=>h) (Or.inl ⟨by rfl,?_⟩) ?_ ?_
       rotate_left
       . intro w'
         go_simp
         with_reducible rfl
       rotate_left
       . simp only[Act.put,zj,zr,ya,aJ,aT];rfl
       refine bz (i:=6) (N:=some 43) (v:=?_) (a':=?_) #[ye,ye,ye,ye,ye,ye,ye,yi,yi,yi,yi,yi,yi,yi,yi,yi,yi,yi] rfl rfl (by kernel_rfl) (fun _ _ _ h=>h) (Or.inl ⟨by rfl,?_⟩) ?_ ?_
       rotate_left
       . intro w'
         go_simp
         with_reducible rfl
       rotate_left
       . simp only[Act.put,zj,zr,ya,aJ,aT];rfl
       refine bz (i:=7) (N:=some 44) (v:=.int .i64 (m:Int)) (a':=?_) #[ye,ye,ye,ye,ye,ye,ye,ye,yi,yi,yi,yi,yi,yi,yi,yi,yi,yi] rfl rfl (by kernel_rfl) (fun _ _ _ h=>h) (Or.inl ⟨by rfl,?_⟩) ?_ ?_
       . intro w';exact kR (by rfl) (by rfl) (by rfl) HS.out
       rotate_left
       . simp only[Act.put,zj,zr,ya,aJ,aT];rfl
       refine bz (i:=8) (N:=some 45) (v:=.pointer (some ⟨g,m*11,none⟩)) (a':=?_) #[ye,ye,ye,ye,ye,ye,ye,ye,ye,yi,yi,yi,yi,yi,yi,yi,yi,yi] rfl rfl (by kernel_rfl) (fun _ _ _ h=>h) (Or.inl ⟨by rfl,?_⟩) ?_ ?_
       . intro w';exact jW (by rfl) (by rfl) (by rfl) HM0.out
       rotate_left
       . simp only[Act.put,zj,zr,ya,aJ,aT];rfl
       refine bz (i:=10) (N:=some 47) (v:=?_) (a':=?_) #[ye,ye,ye,ye,ye,ye,ye,ye,ye,yi,ye,yi,yi,yi,yi,yi,yi,yi] rfl rfl (by kernel_rfl) (fun _ _ _ h=>h) (Or.inl ⟨by rfl,?_⟩) ?_ ?_
       rotate_left
       . intro w'
         go_simp
         with_reducible rfl
       rotate_left
       . simp only[Act.put,zj,zr,ya,aJ,aT];rfl
       refine bz (i:=11) (N:=some 48) (v:=?_) (a':=?_) #[ye,ye,ye,ye,ye,ye,ye,ye,ye,yi,ye,ye,yi,yi,yi,yi,yi,yi] rfl rfl (by kernel_rfl) (fun _ _ _ h=>h) (Or.inl ⟨by rfl,?_⟩) ?_ ?_
       rotate_left
       . intro w'
         go_simp
         with_reducible rfl
       rotate_left
       . simp only[Act.put,zj,zr,ya,aJ,aT];rfl
       refine bz (i:=12) (N:=some 49) (v:=.pointer (some ⟨g,j*11,none⟩)) (a':=?_) #[ye,ye,ye,ye,ye,ye,ye,ye,ye,yi,ye,ye,ye,yi,yi,yi,yi,yi] rfl rfl (by kernel_rfl) (fun _ _ _ h=>h) (Or.inl ⟨by rfl,?_⟩) ?_ ?_
       . intro w';exact jW (by rfl) (by rfl) (by rfl) HM1.out
       rotate_left
       . simp only[Act.put,zj,zr,ya,aJ,aT];rfl
       refine iY (i:=9) (N:=some 46) (v:=ev y) (a':=?_) #[ye,ye,ye,ye,ye,ye,ye,ye,ye,ye,ye,ye,ye,yi,yi,yi,yi,yi] rfl rfl (by kernel_rfl) (fun _ _ _ h=>h) (Or.inl ⟨by rfl,?_⟩) hHeld ?_ ?_
       . intro w' s0;exact iR s0 HY.out (by rfl) (by rfl)
       rotate_left
       . simp only[Act.put,zj,zr,ya,aJ,aT];rfl
       refine iY (i:=13) (N:=some 50) (v:=ev x) (a':=?_) #[ye,ye,ye,ye,ye,ye,ye,ye,ye,ye,ye,ye,ye,ye,yi,yi,yi,yi] rfl rfl (by kernel_rfl) (fun _ _ _ h=>h) (Or.inl ⟨by rfl,?_⟩) hHeld ?_ ?_
       . intro w' s0;exact iR s0 HX.out (by rfl) (by rfl)
       rotate_left
       . simp only[Act.put,zj,zr,ya,aJ,aT];rfl
       refine bz (i:=14) (N:=some 51) (v:=.pointer (some ⟨g,j*11,none⟩)) (a':=?_) #[ye,ye,ye,ye,ye,ye,ye,ye,ye,ye,ye,ye,ye,ye,ye,yi,yi,yi] rfl rfl (by kernel_rfl) (fun _ _ _ h=>h) (Or.inl ⟨by rfl,?_⟩) ?_ ?_
       . intro w';exact jW (by rfl) (by rfl) (by rfl) HM1.out
       rotate_left
       . simp only[Act.put,zj,zr,ya,aJ,aT];rfl
       refine wS (i:=15) (N:=none) #[ye,ye,ye,ye,ye,ye,ye,ye,ye,ye,ye,ye,ye,ye,ye,ye,yi,yi] rfl rfl (by kernel_rfl) (by decide) (fun K hK=>?_)
       refine uF (w1:=w5.drew.setCells g (j*11) (ec y)) ?hw ?hN ?_ ?_
       case hw=>rfl
       case hN=>rfl
       . refine oU (W:=w5.drew) (g:=g) (i:=j) (xs:=ys) (d:=y) (x:=.tmp 51) (y:=.tmp 46) (Row.drew HR5.out) HL1.out ?_ ?_ ?_
         . rfl
         . rfl
         . rfl
       refine hK.out _ _ ?_;clear hK K;refine bz (i:=16) (N:=some 52) (v:=.pointer (some ⟨g,m*11,none⟩)) (a':=?_) #[ye,ye,ye,ye,ye,ye,ye,ye,ye,ye,ye,ye,ye,ye,ye,ye,ye,yi] rfl rfl (by kernel_rfl) (fun _ _ _ h=>h) (Or.inl ⟨by rfl,?_⟩) ?_ ?_
       . intro w';exact jW (by rfl) (by rfl) (by rfl) HM0.out
       rotate_left
       . simp only[Act.put,zj,zr,ya,aJ,aT];rfl
       refine wS (i:=17) (N:=none) #[ye,ye,ye,ye,ye,ye,ye,ye,ye,ye,ye,ye,ye,ye,ye,ye,ye,ye] rfl rfl (by kernel_rfl) (by decide) (fun K hK=>?_)
       have HRx:=Y (uV (Row.drew HR5.out) HL1.out y);refine uF (w1:=(w5.drew.setCells g (j*11) (ec y)).setCells g (m*11) (ec x)) ?hw ?hN ?_ ?_
       case hw=>rfl
       case hN=>rfl
       . refine oU (W:=w5.drew.setCells g (j*11) (ec y)) (g:=g) (i:=m) (xs:=ys.set j y) (d:=x) (x:=.tmp 52) (y:=.tmp 50) HRx.out HL0.out ?_ ?_ ?_
         . rfl
         . rfl
         . rfl
       refine hK.out _ _ ?_;clear hK K;refine pV (by kernel_rfl) ?_
       have HR6:=Y (uV HRx.out HL0.out x);have HG6:=Y (lD (lD (grown_of (grown_of HG.out HB5.out) (bv zc)) (dR w5.drew g (j*11) (ec y))) (dR _ g (m*11) (ec x)));clear hHeld HRx;go_wp2_with fail;go_roundg k2
       case measure=>have:=HJM.out;have:=HM.out;omega
       case rel=>exact⟨m,_,by have:=HJM.out;rw[show(m:Int)=(j:Int) - 1 by omega],HM.out,⟨HSW.out HLT.out⟩,HR6,HG6⟩
     . have ct:decide (cmpI x y<0)=false:=by rw[zL];exact yd hlt
       have HLT:=Y hlt;clear hlt;go_wp2_with fail;refine nE (n:=17) (S:=fun w'=>Row w' g ys) (ds:=[]) #[yi,yi,yi,yi,yi,yi,yi,yi,yi,yi,yi,yi,yi,yi,yi,yi,yi] (by kernel_rfl) rfl rfl ((Row.drew HZ.out)) (fun hHeld=>?_)
       refine bz (i:=0) (N:=some 18) (v:=?_) (a':=?_) #[ye,yi,yi,yi,yi,yi,yi,yi,yi,yi,yi,yi,yi,yi,yi,yi,yi] rfl rfl (by kernel_rfl) (fun _ _ _ h=>h) (Or.inl ⟨by rfl,?_⟩) ?_ ?_
       rotate_left
       . intro w'
         go_simp
         with_reducible rfl
       rotate_left
       . simp only[Act.put,zj,zr,ya,aJ,aT];rfl
       refine bz (i:=1) (N:=some 19) (v:=?_) (a':=?_) #[ye,ye,yi,yi,yi,yi,yi,yi,yi,yi,yi,yi,yi,yi,yi,yi,yi] rfl rfl (by kernel_rfl) (fun _ _ _ h=>h) (Or.inl ⟨by rfl,?_⟩) ?_ ?_
       rotate_left
       . intro w'
         go_simp
         with_reducible rfl
       rotate_left
       . simp only[Act.put,zj,zr,ya,aJ,aT];rfl
       refine bz (i:=2) (N:=some 20) (v:=?_) (a':=?_) #[ye,ye,ye,yi,yi,yi,yi,yi,yi,yi,yi,yi,yi,yi,yi,yi,yi] rfl rfl (by kernel_rfl) (fun _ _ _ h=>h) (Or.inl ⟨by rfl,?_⟩) ?_ ?_
       rotate_left
       . intro w'
         go_simp
         with_reducible rfl
       rotate_left
       . simp only[Act.put,zj,zr,ya,aJ,aT];rfl
       refine bz (i:=3) (N:=some 21) (v:=?_) (a':=?_) #[ye,ye,ye,ye,yi,yi,yi,yi,yi,yi,yi,yi,yi,yi,yi,yi,yi] rfl rfl (by kernel_rfl) (fun _ _ _ h=>h) (Or.inl ⟨by rfl,?_⟩) ?_ ?_
       rotate_left
       . intro w'
         go_simp
         with_reducible rfl
       rotate_left
       . simp only[Act.put,zj,zr,ya,aJ,aT];rfl
       refine bz (i:=4) (N:=some 22) (v:=?_) (a':=?_) #[ye,ye,ye,ye,ye,yi,yi,yi,yi,yi,yi,yi,yi,yi,yi,yi,yi] rfl rfl (by kernel_rfl) (fun _ _ _ h=>h) (Or.inl ⟨by rfl,?_⟩) ?_ ?_
       rotate_left
       . intro w'
         go_simp
         with_reducible rfl
       rotate_left
       . simp only[Act.put,zj,zr,ya,aJ,aT];rfl
       refine bz (i:=5) (N:=some 23) (v:=?_) (a':=?_) #[ye,ye,ye,ye,ye,ye,yi,yi,yi,yi,yi,yi,yi,yi,yi,yi,yi] rfl rfl (by kernel_rfl) (fun _ _ _ h=>h) (Or.inl ⟨by rfl,?_⟩) ?_ ?_
       rotate_left
       . intro w'
         go_simp
         with_reducible rfl
       rotate_left
       . simp only[Act.put,zj,zr,ya,aJ,aT];rfl
       refine bz (i:=6) (N:=some 24) (v:=?_) (a':=?_) #[ye,ye,ye,ye,ye,ye,ye,yi,yi,yi,yi,yi,yi,yi,yi,yi,yi] rfl rfl (by kernel_rfl) (fun _ _ _ h=>h) (Or.inl ⟨by rfl,?_⟩) ?_ ?_
       rotate_left
       . intro w'
         go_simp
         with_reducible rfl
       rotate_left
       . simp only[Act.put,zj,zr,ya,aJ,aT];rfl
       refine bz (i:=7) (N:=some 25) (v:=.pointer (some ⟨g,j*11,none⟩)) (a':=?_) #[ye,ye,ye,ye,ye,ye,ye,ye,yi,yi,yi,yi,yi,yi,yi,yi,yi] rfl rfl (by kernel_rfl) (fun _ _ _ h=>h) (Or.inl ⟨by rfl,?_⟩) ?_ ?_
       . intro w';exact jW (by rfl) (by rfl) (by rfl) HM1.out
       rotate_left
       . simp only[Act.put,zj,zr,ya,aJ,aT];rfl
       refine bz (i:=9) (N:=some 27) (v:=?_) (a':=?_) #[ye,ye,ye,ye,ye,ye,ye,ye,yi,ye,yi,yi,yi,yi,yi,yi,yi] rfl rfl (by kernel_rfl) (fun _ _ _ h=>h) (Or.inl ⟨by rfl,?_⟩) ?_ ?_
       rotate_left
       . intro w'
         go_simp
         with_reducible rfl
       rotate_left
       . simp only[Act.put,zj,zr,ya,aJ,aT];rfl
       refine bz (i:=10) (N:=some 28) (v:=?_) (a':=?_) #[ye,ye,ye,ye,ye,ye,ye,ye,yi,ye,ye,yi,yi,yi,yi,yi,yi] rfl rfl (by kernel_rfl) (fun _ _ _ h=>h) (Or.inl ⟨by rfl,?_⟩) ?_ ?_
       rotate_left
       . intro w'
         go_simp
         with_reducible rfl
       rotate_left
       . simp only[Act.put,zj,zr,ya,aJ,aT];rfl
       refine bz (i:=11) (N:=some 29) (v:=.int .i64 (m:Int)) (a':=?_) #[ye,ye,ye,ye,ye,ye,ye,ye,yi,ye,ye,ye,yi,yi,yi,yi,yi] rfl rfl (by kernel_rfl) (fun _ _ _ h=>h) (Or.inl ⟨by rfl,?_⟩) ?_ ?_
       . intro w';exact kR (by rfl) (by rfl) (by rfl) HS.out
       rotate_left
       . simp only[Act.put,zj,zr,ya,aJ,aT];rfl
       refine bz (i:=12) (N:=some 30) (v:=.pointer (some ⟨g,m*11,none⟩)) (a':=?_) #[ye,ye,ye,ye,ye,ye,ye,ye,yi,ye,ye,ye,ye,yi,yi,yi,yi] rfl rfl (by kernel_rfl) (fun _ _ _ h=>h) (Or.inl ⟨by rfl,?_⟩) ?_ ?_
       . intro w';exact jW (by rfl) (by rfl) (by rfl) HM0.out
       rotate_left
       . simp only[Act.put,zj,zr,ya,aJ,aT];rfl
       refine iY (i:=8) (N:=some 26) (v:=ev x) (a':=?_) #[ye,ye,ye,ye,ye,ye,ye,ye,ye,ye,ye,ye,ye,yi,yi,yi,yi] rfl rfl (by kernel_rfl) (fun _ _ _ h=>h) (Or.inl ⟨by rfl,?_⟩) hHeld ?_ ?_
       . intro w' s0;exact iR s0 HX.out (by rfl) (by rfl)
       rotate_left
       . simp only[Act.put,zj,zr,ya,aJ,aT];rfl
       refine iY (i:=13) (N:=some 31) (v:=ev y) (a':=?_) #[ye,ye,ye,ye,ye,ye,ye,ye,ye,ye,ye,ye,ye,ye,yi,yi,yi] rfl rfl (by kernel_rfl) (fun _ _ _ h=>h) (Or.inl ⟨by rfl,?_⟩) hHeld ?_ ?_
       . intro w' s0;exact iR s0 HY.out (by rfl) (by rfl)
       rotate_left
       . simp only[Act.put,zj,zr,ya,aJ,aT];rfl
       refine nD (i:=14) (N:=some 32) #[ye,ye,ye,ye,ye,ye,ye,ye,ye,ye,ye,ye,ye,ye,ye,yi,yi] rfl rfl (by kernel_rfl) (by decide) (fun K hK=>?_)
       refine xZ Tryz.func87 (by kernel_rfl) rfl #[ev x,ev y] (by rfl) rfl rfl (by rfl) (by simp only[List.map_toArray,List.map_cons,List.map_nil];rfl) ?_
       with_reducible refine(uj x y _).mono ?_
       rintro e w5 ⟨rfl,hb5⟩;refine⟨_,rfl,?_⟩;have HB5:=Y (show Below wr.heap.size wr w5 from ag (bv zc) (Nat.le_refl _) hb5)
       clear hb5;refine hK.out _ _ ((Row.below HZ.out HB5.out)) (fun hHeld=>?_)
       clear hK K;refine mi (a':=?_) ?_ ?_
       rotate_left
       . show Act.put _ (some 32) _=_
         simp only[Act.put,zj,zr,ya,aJ,aT];rfl
       refine bz (i:=15) (N:=some 33) (v:=?_) (a':=?_) #[ye,ye,ye,ye,ye,ye,ye,ye,ye,ye,ye,ye,ye,ye,ye,ye,yi] rfl rfl (by kernel_rfl) (fun _ _ _ h=>h) (Or.inl ⟨by rfl,?_⟩) ?_ ?_
       rotate_left
       . intro w'
         go_simp
         with_reducible rfl
       rotate_left
       . simp only[Act.put,zj,zr,ya,aJ,aT];rfl
       refine bz (i:=16) (N:=some 34) (v:=?_) (a':=?_) #[ye,ye,ye,ye,ye,ye,ye,ye,ye,ye,ye,ye,ye,ye,ye,ye,ye] rfl rfl (by kernel_rfl) (fun _ _ _ h=>h) (Or.inl ⟨by rfl,?_⟩) ?_ ?_
       rotate_left
       . intro w'
         go_simp
         with_reducible rfl
       rotate_left
       . simp only[Act.put,zj,zr,ya,aJ,aT];rfl
       refine pV (by kernel_rfl) ?_
       go_wp2_with fail;go_roundg k1
       case measure=>have:=HK.out;have:=HI.out;omega
       case rel=>
        refine⟨t+1,ys,by have:=HI.out;rw[show((a+(t+1):Nat):Int)=(i:Int)+1 by omega],by have:=HK.out;have:=HI.out;omega,⟨?_⟩,⟨HZ.out.below HB5.out⟩,⟨grown_of HG.out HB5.out⟩⟩
        rw[show min (t+1) S.length=t+1 by have:=HTS.out;omega]
        exact HST.out HLT.out
end
section
theorem yh (Z:List aQ)(g n c:Nat)(w:World)(hr:Row w g Z)(hn:n=Z.length)(hs:n<20):
 Calls Tryz.prog 106 #[.slice (some ⟨g,0,none⟩) n c,.int .i64 (n:Int),.func (.func 87) #[] #[]] w (Sorted w g [] Z []):=by
 have HC:=Y (ul [] Z [] 0 n g n c w rfl (by simpa using hn) (by simpa using hr) (by simpa using hn) (by omega))
 have d1:decide ((20:Int)<=(n:Int))=false:=yd (by omega)
 have d2:decide (20<=n)=false:=yd (by omega)
 have d3:decide ((20:Int)<(n:Int))=false:=yd (by omega)
 have d4:decide (20<n)=false:=yd (by omega)
 clear hr hn hs;go_enter Tryz.func106,Tryz.ntmps106;go_wp2_with fail
 go_loopg [7,8] 0 (fun kq v7 v8 w'=>v7=.int .i64 0/\v8=.int .i64 20/\w'=w)
 case atStart=>exact⟨rfl,rfl,rfl⟩
 case round=>
  obtain⟨rfl,rfl,e0⟩:=hrel;subst e0
  go_upto_block 2 with(go_at_call 124;refine HC.out.mono ?_;rintro e w1 ⟨rfl,S1,hr1,hl1,hl2,hl3,hg1⟩;have HR1:=Y hr1;have HG1:=Y hg1;have HS1:=Y hl1;have HS2:=Y hl2;have HS3:=Y hl3;clear hr1 hg1 hl1 hl2 hl3)
  go_wp2_with fail
  go_loopg [6] 0 (fun kq v6 w'=>v6=.int .i64 20/\w'=w1)
  case atStart=>exact⟨rfl,rfl⟩
  case round=>
   obtain⟨rfl,e0⟩:=hrel;subst e0;go_wp2_with fail
   go_end0
   exact⟨rfl,S1,HR1.out,HS1.out,HS2.out,HS3.out,HG1.out⟩
end
section
theorem wL (A:Option Addr)(c:Nat)(fv:Value)(w:World):
 Calls Tryz.prog 124 #[.slice A 0 c,.int .i64 0,.int .i64 0,fv] w (fun e w'=>e=.returned (.tuple #[])/\w=w'):=by
 go_enter Tryz.func124,Tryz.ntmps124;go_wp2_with fail
 go_loopg [8] 0 (fun kq v8 w'=>v8=.int .i64 1/\w=w')
 case atStart=>exact⟨rfl,rfl⟩
 case round=>
  obtain⟨rfl,rfl⟩:=hrel;go_wp2_with fail
  go_end0
  exact⟨rfl,rfl⟩
theorem BL (A:Option Addr)(c:Nat)(fv:Value)(w:World):
 Calls Tryz.prog 106 #[.slice A 0 c,.int .i64 0,fv] w (fun e w'=>e=.returned (.tuple #[])/\w=w'):=by
 have HC:=Y (wL A c fv w);go_enter Tryz.func106,Tryz.ntmps106;go_wp2_with fail
 go_loopg [7,8] 0 (fun kq v7 v8 w'=>v7=.int .i64 0/\v8=.int .i64 20/\w=w')
 case atStart=>exact⟨rfl,rfl,rfl⟩
 case round=>
  obtain⟨rfl,rfl,rfl⟩:=hrel
  go_upto_block 2 with(go_at_call 124;refine HC.out.mono ?_;rintro e w1 ⟨rfl,rfl⟩)
  go_wp2_with fail
  go_loopg [6] 0 (fun kq v6 w'=>v6=.int .i64 20/\w=w')
  case atStart=>exact⟨rfl,rfl⟩
  case round=>
   obtain⟨rfl,rfl⟩:=hrel;go_wp2_with fail
   go_end0
   exact⟨rfl,rfl⟩
def Stab (l ys:List aQ):Prop:=Srt ys/\Same l ys/\ys.length=l.length
theorem sN (l:List aQ)(A:Option Addr)(c:Nat)(w:World)(B:Nat)(hB:∀ g,A=some ⟨g,0,none⟩->0<l.length->B<=g)(hr:0<l.length->∃ g,A=some ⟨g,0,none⟩/\Row w g l)(hl:l.length<20):
 Calls Tryz.prog 86 #[.slice A l.length c,.func (.func 87) #[] #[]] w (fun e w'=>e=.returned (.tuple #[])/\∃ ys,Stab l ys/\(0<l.length->∃ g,A=some ⟨g,0,none⟩/\B<=g/\Row w' g ys/\w.grownBy w' (some g))/\(l.length=0->w=w')):=by
 have hl2:l.length<2305843009213693952:=by omega
 rcases Nat.eq_zero_or_pos l.length with h0|h0
 . have HC:=Y (BL A c (.func (.func 87) #[] #[]) w);have HL:=Y h0;rw[h0];clear hr hB hl hl2;go_enter Tryz.func86,Tryz.ntmps86;go_wp2_with (go_at_call 106;refine HC.out.mono ?_;rintro e w1 ⟨rfl,rfl⟩)
   go_end0
   refine⟨rfl,[],⟨List.Pairwise.nil,by rw[List.eq_nil_of_length_eq_zero HL.out];exact Same.refl _,HL.out.symm⟩,fun h=>?_,fun _=>rfl⟩
   exact absurd h (Nat.lt_irrefl 0)
 . obtain⟨g,rfl,hr1⟩:=hr h0;have HC:=Y (yh l g l.length c w hr1 rfl hl);have HB:=Y (hB g rfl h0);have HL:=Y h0;have HN:=Y (rfl:l.length=l.length);clear hr hr1 hB h0;go_enter Tryz.func86,Tryz.ntmps86;go_wp2_with (go_at_call 106;refine HC.out.mono ?_;rintro e w1 ⟨rfl,S1,hr1,hl1,hl2,hl3,hg1⟩;have HR1:=Y hr1;have HG1:=Y hg1;have HS1:=Y hl1;have HS2:=Y hl2;have HS3:=Y hl3;clear hr1 hg1 hl1 hl2 hl3)
   go_end0
   exact⟨rfl,S1,⟨HS1.out,HS2.out,HS3.out⟩,fun _=>⟨g,rfl,HB.out,by have h:=HR1.out;rw[List.nil_append,List.append_nil]at h;exact h,HG1.out⟩,fun h=>by have:=HL.out;omega⟩
theorem xS (l:List aQ)(A:Option Addr)(c:Nat)(w:World)(hr:Kd.C fE w A l.length l)(hc:l.length<=c)(hl:l.length<20):
 Calls Tryz.prog 50 #[.slice A l.length c] w (fun e w'=>∃ ys,Stab (l.filter nM) ys/\Those w ys e w'):=by
 have HC:=Y (za 85 #[] _ _ nM (pt_pred w) l A c w zc (Nat.le_refl _) hr hc (by omega))
 have HL:=Y (show(l.filter nM).length<20 by have:=List.length_filter_le nM l;omega)
 clear hr hc;go_enter Tryz.func50,Tryz.ntmps50
 go_wp2_with (first
  |(go_at_call 84;refine HC.out.mono ?_;rintro e w1 ⟨A1,c1,rfl,hc1,hC1,hb1,hg1⟩;have HCC:=Y hc1;have HC1:=Y hC1;have HB1:=Y hb1;have HG1:=Y hg1;clear hc1 hC1 hb1 hg1)
  |(go_at_call 86;refine(sN (l.filter nM) A1 c1 w1 w.heap.size (fun g he h0=>by obtain⟨g2,h1,h2,h3⟩:=HG1.out h0;rw[h1]at he;injection he with he;injection he with he;omega) (fun h0=>by obtain⟨g2,h1,h2,h3⟩:=HG1.out h0;exact⟨g2,h1,h3⟩) HL.out).mono ?_;rintro e w2 ⟨rfl,ys,hst,hg2,hn2⟩;have HST:=Y hst;have HG2:=Y hg2;have HN2:=Y hn2;clear hst hg2 hn2))
 go_ret
 refine⟨ys,HST.out,A1,c1,?_,by rw[HST.out.2.2];exact HCC.out,?_⟩
 . rw[HST.out.2.2];rfl
 . rcases Nat.eq_zero_or_pos (l.filter nM).length with h0|h0
   . obtain rfl:=HN2.out h0
     have hy:ys=l.filter nM:=by
      rw[List.eq_nil_of_length_eq_zero h0];exact List.eq_nil_of_length_eq_zero (by rw[HST.out.2.2,h0])
     rw[hy];exact⟨HC1.out,HB1.out,HG1.out⟩
   . obtain⟨g,rfl,hg,hrow,hgr⟩:=HG2.out h0;have hlen:=HST.out.2.2;refine⟨?_,below_grown HB1.out hgr hg HB1.out.size,fun _=>⟨g,rfl,hg,hrow⟩⟩
     exact hrow.C (by have:=HL.out;omega)
end
end Go.Proofs.YtglikkmmbdnmbaaGreat.Ev
namespace Go.Proofs.YtglikkmmbdnmbaaGreat.Im
open Go.RowKit Q7
open YtglikkmmbdnmbaaGreat.Own PCan Wv
set_option linter.unusedVariables false
set_option linter.unusedSimpArgs false
section
theorem may0 (t s n:Int)(w:World)(h0:¬ (1<=t)):Calls Tryz.prog 4 #[.int .i64 t,.int .i64 s,.int .i64 n] w fun e w'=>e=.returned (.bool false)/\cz w w':=by
 have q0:decide (t>=1)=false:=yd h0;have r0:decide (1<=t)=false:=yd h0;clear h0;go_enter Tryz.func4,Tryz.ntmps4;go_wp2_with fail
 go_ret
 exact⟨rfl,cz.refl _⟩
theorem may1 (t s n:Int)(w:World)(h0:1<=t)(h1:¬ (t<=64)):Calls Tryz.prog 4 #[.int .i64 t,.int .i64 s,.int .i64 n] w fun e w'=>e=.returned (.bool false)/\cz w w':=by
 have q0:decide (t>=1)=true:=yb h0;have r0:decide (1<=t)=true:=yb h0;have q1:decide (t<=64)=false:=yd h1;clear h0 h1;go_enter Tryz.func4,Tryz.ntmps4;go_wp2_with fail
 go_ret
 exact⟨rfl,cz.refl _⟩
theorem may2 (t s n:Int)(w:World)(h0:1<=t)(h1:t<=64)(h2:¬ (1<=s)):Calls Tryz.prog 4 #[.int .i64 t,.int .i64 s,.int .i64 n] w fun e w'=>e=.returned (.bool false)/\cz w w':=by
 have q0:decide (t>=1)=true:=yb h0;have r0:decide (1<=t)=true:=yb h0;have q1:decide (t<=64)=true:=yb h1;have q2:decide (s>=1)=false:=yd h2;have r2:decide (1<=s)=false:=yd h2;clear h0 h1 h2;go_enter Tryz.func4,Tryz.ntmps4;go_wp2_with fail
 go_ret
 exact⟨rfl,cz.refl _⟩
theorem may3 (t s n:Int)(w:World)(h0:1<=t)(h1:t<=64)(h2:1<=s)(h3:¬ (s<=8)):Calls Tryz.prog 4 #[.int .i64 t,.int .i64 s,.int .i64 n] w fun e w'=>e=.returned (.bool false)/\cz w w':=by
 have q0:decide (t>=1)=true:=yb h0;have r0:decide (1<=t)=true:=yb h0;have q1:decide (t<=64)=true:=yb h1;have q2:decide (s>=1)=true:=yb h2;have r2:decide (1<=s)=true:=yb h2;have q3:decide (s<=8)=false:=yd h3;clear h0 h1 h2 h3;go_enter Tryz.func4,Tryz.ntmps4;go_wp2_with fail
 go_ret
 exact⟨rfl,cz.refl _⟩
theorem may4 (t s n:Int)(w:World)(h0:1<=t)(h1:t<=64)(h2:1<=s)(h3:s<=8)(h4:¬ (0<=n)):Calls Tryz.prog 4 #[.int .i64 t,.int .i64 s,.int .i64 n] w fun e w'=>e=.returned (.bool false)/\cz w w':=by
 have q0:decide (t>=1)=true:=yb h0;have r0:decide (1<=t)=true:=yb h0;have q1:decide (t<=64)=true:=yb h1;have q2:decide (s>=1)=true:=yb h2;have r2:decide (1<=s)=true:=yb h2;have q3:decide (s<=8)=true:=yb h3;have q4:decide (n>=0)=false:=yd h4;have r4:decide (0<=n)=false:=yd h4;clear h0 h1 h2 h3 h4;go_enter Tryz.func4,Tryz.ntmps4;go_wp2_with fail
 go_ret
 exact⟨rfl,cz.refl _⟩
theorem may5 (t s n:Int)(w:World)(h0:1<=t)(h1:t<=64)(h2:1<=s)(h3:s<=8)(h4:0<=n)(h5:¬ (n<=8)):Calls Tryz.prog 4 #[.int .i64 t,.int .i64 s,.int .i64 n] w fun e w'=>e=.returned (.bool false)/\cz w w':=by
 have q0:decide (t>=1)=true:=yb h0;have r0:decide (1<=t)=true:=yb h0;have q1:decide (t<=64)=true:=yb h1;have q2:decide (s>=1)=true:=yb h2;have r2:decide (1<=s)=true:=yb h2;have q3:decide (s<=8)=true:=yb h3;have q4:decide (n>=0)=true:=yb h4;have r4:decide (0<=n)=true:=yb h4;have q5:decide (n<=8)=false:=yd h5;clear h0 h1 h2 h3 h4 h5;go_enter Tryz.func4,Tryz.ntmps4;go_wp2_with fail
 go_ret
 exact⟨rfl,cz.refl _⟩
theorem may6 (t s n:Int)(w:World)(h0:1<=t)(h1:t<=64)(h2:1<=s)(h3:s<=8)(h4:0<=n)(h5:n<=8):Calls Tryz.prog 4 #[.int .i64 t,.int .i64 s,.int .i64 n] w fun e w'=>e=.returned (.bool true)/\cz w w':=by
 have q0:decide (t>=1)=true:=yb h0;have r0:decide (1<=t)=true:=yb h0;have q1:decide (t<=64)=true:=yb h1;have q2:decide (s>=1)=true:=yb h2;have r2:decide (1<=s)=true:=yb h2;have q3:decide (s<=8)=true:=yb h3;have q4:decide (n>=0)=true:=yb h4;have r4:decide (0<=n)=true:=yb h4;have q5:decide (n<=8)=true:=yb h5;clear h0 h1 h2 h3 h4 h5;go_enter Tryz.func4,Tryz.ntmps4;go_wp2_with fail
 go_ret
 exact⟨rfl,cz.refl _⟩
theorem Cu (t s n:Int)(w:World):Calls Tryz.prog 4 #[.int .i64 t,.int .i64 s,.int .i64 n] w fun e w'=>e=.returned (.bool (decide (1<=t/\t<=64/\1<=s/\s<=8/\0<=n/\n<=8)))/\cz w w':=by
 by_cases h0:1<=t
 case neg=>rw[yd (by omega)];exact may0 t s n w h0
 by_cases h1:t<=64
 case neg=>rw[yd (by omega)];exact may1 t s n w h0 h1
 by_cases h2:1<=s
 case neg=>rw[yd (by omega)];exact may2 t s n w h0 h1 h2
 by_cases h3:s<=8
 case neg=>rw[yd (by omega)];exact may3 t s n w h0 h1 h2 h3
 by_cases h4:0<=n
 case neg=>rw[yd (by omega)];exact may4 t s n w h0 h1 h2 h3 h4
 by_cases h5:n<=8
 case neg=>rw[yd (by omega)];exact may5 t s n w h0 h1 h2 h3 h4 h5
 rw[yb ⟨h0,h1,h2,h3,h4,h5⟩];exact may6 t s n w h0 h1 h2 h3 h4 h5
theorem op51 (d:aQ)(h0:d.f0≠255)(h1:d.f1.f0≠0)(h2:d.f1.f0≠12)(h3:d.f1.f0≠13)(w:World):Calls Tryz.prog 51 #[Ev.ev d] w fun e w'=>e=.returned (.bool true)/\Below w.heap.size w w':=by
 obtain⟨W,hW⟩:∃ W,W=w.alloc (.cells (Ev.ec d).toArray 104):=⟨_,rfl⟩;have hb:Below w.heap.size w W:=by rw[hW];exact ae zc _
 have hh:Holds W w.heap.size 104 (Ev.ec d):=by rw[hW];exact aK _ _
 have y0:W.cell? ⟨w.heap.size,0,none⟩=some (.int .u8 d.f0):=(hh.cell 0).trans rfl;have y1:W.cell? ⟨w.heap.size,1,none⟩=some (.int .u8 d.f1.f0):=(hh.cell 1).trans rfl;have q0:(d.f0 != 255)=true:=bne_iff_ne.2 h0;have q1:(d.f1.f0 != 0)=true:=bne_iff_ne.2 h1;have q2:(d.f1.f0 != 12)=true:=bne_iff_ne.2 h2;have q3:(d.f1.f0 != 13)=true:=bne_iff_ne.2 h3;have HB:=Y hb;clear h0 h1 h2 h3 hb hh;go_enter Tryz.func51,Tryz.ntmps51;go_upto_region 1 with fail
 rw[<-hW];clear hW;go_wp2_with fail
 go_ret
 exact⟨rfl,HB.out⟩
def oD (x:S56):List Value:=[.int .u8 x.f0,.int .u8 x.f1,.int .u8 x.f2,.int .u8 x.f3,.int .u8 x.f4,.int .i64 x.f5,.int .i64 x.f6,.int .u64 x.f7,.int .i64 x.f8,.int .i64 x.f9,.int .i64 x.f10]
def gX (x:S56):aQ:=⟨x.f0,⟨x.f1,x.f2,x.f3,x.f4⟩,⟨x.f5,x.f6,x.f7⟩,x.f8,x.f9,x.f10⟩
theorem one49 (x:S56)(w:World):Calls Tryz.prog 49 #[.agg #[.int .u8 x.f0,.int .u8 x.f1,.int .u8 x.f2,.int .u8 x.f3,.int .u8 x.f4,.int .i64 x.f5,.int .i64 x.f6,.int .u64 x.f7,.int .i64 x.f8,.int .i64 x.f9,.int .i64 x.f10]] w fun e w'=>e=.returned (Ev.ev (gX x))/\Below w.heap.size w w':=by
 have hu56:=Tryz.underlying56;have hu100:=Tryz.underlying100;have hu102:=Tryz.underlying102;have hu104:=Tryz.underlying104;obtain⟨W,hW⟩:∃ W,W=(w.alloc (.cells #[.int .u8 x.f0,.int .u8 x.f1,.int .u8 x.f2,.int .u8 x.f3,.int .u8 x.f4,.int .i64 x.f5,.int .i64 x.f6,.int .u64 x.f7,.int .i64 x.f8,.int .i64 x.f9,.int .i64 x.f10] 56)).alloc (.cells #[.int .u8 0,.int .u8 0,.int .u8 0,.int .u8 0,.int .u8 0,.int .i64 0,.int .i64 0,.int .u64 0,.int .i64 0,.int .i64 0,.int .i64 0] 104):=⟨_,rfl⟩;have hb:Below w.heap.size w W:=by rw[hW];exact ae (ae zc _) _
 have hh:Holds W w.heap.size 56 (oD x):=by rw[hW];exact Holds.below (aK _ _) (ae zc _)
 have hr:Holds W (w.heap.size+1) 104 (Ev.ec z104):=by
  have h:=aK (w.alloc (.cells #[.int .u8 x.f0,.int .u8 x.f1,.int .u8 x.f2,.int .u8 x.f3,.int .u8 x.f4,.int .i64 x.f5,.int .i64 x.f6,.int .u64 x.f7,.int .i64 x.f8,.int .i64 x.f9,.int .i64 x.f10] 56)) (.cells #[.int .u8 0,.int .u8 0,.int .u8 0,.int .u8 0,.int .u8 0,.int .i64 0,.int .i64 0,.int .u64 0,.int .i64 0,.int .i64 0,.int .i64 0] 104);rw[World.size_alloc]at h;rw[hW];exact h
 have y0:W.cell? ⟨w.heap.size,0,none⟩=some (.int .u8 x.f0):=(hh.cell 0).trans rfl;have y1:W.cell? ⟨w.heap.size,1,none⟩=some (.int .u8 x.f1):=(hh.cell 1).trans rfl;have y2:W.cell? ⟨w.heap.size,2,none⟩=some (.int .u8 x.f2):=(hh.cell 2).trans rfl;have y3:W.cell? ⟨w.heap.size,3,none⟩=some (.int .u8 x.f3):=(hh.cell 3).trans rfl;have y4:W.cell? ⟨w.heap.size,4,none⟩=some (.int .u8 x.f4):=(hh.cell 4).trans rfl;have y5:W.cell? ⟨w.heap.size,5,none⟩=some (.int .i64 x.f5):=(hh.cell 5).trans rfl;have y6:W.cell? ⟨w.heap.size,6,none⟩=some (.int .i64 x.f6):=(hh.cell 6).trans rfl;have y7:W.cell? ⟨w.heap.size,7,none⟩=some (.int .u64 x.f7):=(hh.cell 7).trans rfl;have y8:W.cell? ⟨w.heap.size,8,none⟩=some (.int .i64 x.f8):=(hh.cell 8).trans rfl;have y9:W.cell? ⟨w.heap.size,9,none⟩=some (.int .i64 x.f9):=(hh.cell 9).trans rfl;have y10:W.cell? ⟨w.heap.size,10,none⟩=some (.int .i64 x.f10):=(hh.cell 10).trans rfl;have HB:=Y hb;have HR:=Y hr;clear hb hh hr;go_enter Tryz.func49,Tryz.ntmps49;go_upto_region 1 with fail
 rw[<-hW];obtain⟨rb,hrb⟩:∃ rb,rb=w.heap.size+1:=⟨_,rfl⟩;rw[<-hrb]at HR ⊢;clear hW;go_wp2_with ((with_reducible refine bg (t:=104) (p:=2) rfl ?_);refine aG rfl (ty:=104) rfl rfl (g:=rb) (off:=0) (vs:=(Ev.ec (gX x)).toArray) rfl rfl HR.out (by show 11<=11;decide) Ev.fM (Ev.oq (gX x)) ?_;intro w6 hh6 hs6;have HH6:=Y (show Holds w6 rb 104 (Ev.ec (gX x))from hh6);have HS6:=Y hs6;clear hh6 hs6)
 refine bodyPost_ret (results_cell_row rfl _ _ rb 104 (Ev.ec (gX x)).toArray (0,0) _ rfl HH6.out Tryz.underlying104 rfl Ev.fM) rfl ?_;exact⟨rfl,HS6.out.below HB.out (by omega)⟩
end
section
def r1:S56:=⟨0,1,0,0,1,0,40,0,0,1,0⟩
def r2:S56:=⟨0,5,0,0,7,0,0,0,0,2,0⟩
def r3:S56:=⟨0,4,0,0,0,0,0,8,0,3,0⟩
theorem yF:(Tryz.prog.info? 56).map (·.size)=some 11:=by kernel_rfl
def z56':Value:=.agg #[.int .u8 0,.int .u8 0,.int .u8 0,.int .u8 0,.int .u8 0,.int .i64 0,.int .i64 0,.int .u64 0,.int .i64 0,.int .i64 0,.int .i64 0]
theorem of14 {W:World}{b:Nat}(hr:Holds W b 56 (oD r1++oD r2++oD r3)):Calls Tryz.prog 14 #[.slice (some ⟨b,0,none⟩) 3 3] W fun e w'=>∃ v,e=.returned v/\Kd.R fE 104 w' W.heap.size (fun _=>True) v [gX r1,gX r2,gX r3]/\Below W.heap.size W w':=by
 have hu57:=Tryz.underlying57;have HR:=Y hr;clear hr;go_enter Tryz.func14,Tryz.ntmps14;go_wp2_with fail
 go_loopg [3,4] 3 (fun kq v3 v4 w'=>∃(i:Nat) (u3:Value),v3=u3/\v4=.int .i64 (i:Int)/\i+kq=3/\aa (Kd.R fE 104 w' W.heap.size (fun _=>True) u3 ([gX r1,gX r2,gX r3].take i))/\aa (Below W.heap.size W w'))
 case atStart=>exact⟨0,_,rfl,rfl,rfl,⟨Kd.fo _ _ _ _ _⟩,⟨zc⟩⟩
 case round=>
  obtain⟨i,u3,rfl,rfl,hi,HO,HB⟩:=hrel;obtain⟨A3,c3,rfl⟩:=Kd.aD HO.out
  rcases(show i=0\/i=1\/i=2\/i=3 by omega)with rfl|rfl|rfl|rfl
  . obtain rfl:gk=3:=by omega
    clear hi
    go_wp2_with (first
     |((with_reducible refine aW (N:=15) rfl ?_);refine bE rfl (ty:=56) rfl (g:=b) (off:=0) (seg:=oD r1) rfl (HR.out.below HB.out) rfl Tryz.underlying56 rfl yF ?_)
     |(go_at_call 49;refine(one49 r1 _).mono ?_;rintro e w1 ⟨rfl,hb1⟩;have HO1:=Y (Kd.aX HO.out hb1);have HB1:=Y (ag HB.out HB.out.size hb1);clear hb1)
     |(at_builtin;refine Kd.fD fE (w0:=W) W.heap.size rfl (.tmp 11) (.tmp 17) 53 104 z56' 56 rfl Tryz.underlying53 Ev.rJ rfl (by decide) (by omega) _ [] (gX r1) (Ev.ec (gX r1)) (fun _=>True) (fun _=>False) rfl rfl (pK _ _ _ _) (fun _ hk=>hk.elim) (fun _ _=>trivial) HO1.out HB1.out HB1.out.size (by decide) ?_;intro v2 w2 ho2 hb2 hg2 hat2;have HO2:=Y ho2;have HB2:=Y hb2;clear ho2 hb2 hg2 hat2))
    go_roundg 2
    case measure=>omega
    case rel=>exact⟨1,_,rfl,rfl,rfl,HO2,HB2⟩
  . obtain rfl:gk=2:=by omega
    clear hi
    go_wp2_with (first
     |((with_reducible refine aW (N:=15) rfl ?_);refine bE rfl (ty:=56) rfl (g:=b) (off:=11) (seg:=oD r2) rfl (HR.out.below HB.out) rfl Tryz.underlying56 rfl yF ?_)
     |(go_at_call 49;refine(one49 r2 _).mono ?_;rintro e w1 ⟨rfl,hb1⟩;have HO1:=Y (Kd.aX HO.out hb1);have HB1:=Y (ag HB.out HB.out.size hb1);clear hb1)
     |(at_builtin;refine Kd.fD fE (w0:=W) W.heap.size rfl (.tmp 11) (.tmp 17) 53 104 z56' 56 rfl Tryz.underlying53 Ev.rJ rfl (by decide) (by omega) _ [gX r1] (gX r2) (Ev.ec (gX r2)) (fun _=>True) (fun _=>False) rfl rfl (pK _ _ _ _) (fun _ hk=>hk.elim) (fun _ _=>trivial) HO1.out HB1.out HB1.out.size (by decide) ?_;intro v2 w2 ho2 hb2 hg2 hat2;have HO2:=Y ho2;have HB2:=Y hb2;clear ho2 hb2 hg2 hat2))
    go_roundg 1
    case measure=>omega
    case rel=>exact⟨2,_,rfl,rfl,rfl,HO2,HB2⟩
  . obtain rfl:gk=1:=by omega
    clear hi
    go_wp2_with (first
     |((with_reducible refine aW (N:=15) rfl ?_);refine bE rfl (ty:=56) rfl (g:=b) (off:=22) (seg:=oD r3) rfl (HR.out.below HB.out) rfl Tryz.underlying56 rfl yF ?_)
     |(go_at_call 49;refine(one49 r3 _).mono ?_;rintro e w1 ⟨rfl,hb1⟩;have HO1:=Y (Kd.aX HO.out hb1);have HB1:=Y (ag HB.out HB.out.size hb1);clear hb1)
     |(at_builtin;refine Kd.fD fE (w0:=W) W.heap.size rfl (.tmp 11) (.tmp 17) 53 104 z56' 56 rfl Tryz.underlying53 Ev.rJ rfl (by decide) (by omega) _ [gX r1,gX r2] (gX r3) (Ev.ec (gX r3)) (fun _=>True) (fun _=>False) rfl rfl (pK _ _ _ _) (fun _ hk=>hk.elim) (fun _ _=>trivial) HO1.out HB1.out HB1.out.size (by decide) ?_;intro v2 w2 ho2 hb2 hg2 hat2;have HO2:=Y ho2;have HB2:=Y hb2;clear ho2 hb2 hg2 hat2))
    go_roundg 0
    case measure=>omega
    case rel=>exact⟨3,_,rfl,rfl,rfl,HO2,HB2⟩
  . obtain rfl:gk=0:=by omega
    clear hi;go_wp2_with fail
    go_ret
    exact⟨_,rfl,HO.out,HB.out⟩
end
end Go.Proofs.YtglikkmmbdnmbaaGreat.Im

/- The document's roots: Set, Push, Pop. -/
import Derived.Test.YtglikkmmbdnmbaaGreatQ06
import Derived.Test.YtglikkmmbdnmbaaGreatQ01
set_option maxHeartbeats 8000000
set_option maxRecDepth 100000
namespace Go.Proofs.YtglikkmmbdnmbaaGreat.Im
open Go.RowKit Q7
open YtglikkmmbdnmbaaGreat.Own PCan Wv
set_option linter.unusedVariables false
set_option linter.unusedSimpArgs false
section
theorem qU (w:World)(v1 v2:Value):∃ W1,W1=(w.alloc (.cells #[v1,v2] 77)).alloc (.cells #[.slice none 0 0,.slice none 0 0] 77)/\Holds W1 w.heap.size 77 [v1,v2]/\Holds W1 (w.heap.size+1) 77 [.slice none 0 0,.slice none 0 0]/\Below w.heap.size w W1/\W1.heap.size=w.heap.size+2:=by
 refine⟨_,rfl,Holds.below (aK _ _) (ae zc _),?_,ae (ae zc _) _,by simp⟩
 have h:=aK (w.alloc (.cells #[v1,v2] 77)) (.cells #[.slice none 0 0,.slice none 0 0] 77);rw[World.size_alloc]at h;exact h
def oN (I:Nat->Prop)(w w':World)(v1 v2:Value)(t':LL):Prop:=Below w.heap.size w w'/\∃ N:Nat->Prop,(∀ q,N q->w.heap.size<=q/\q<w'.heap.size)/\dZ (fun q=>I q\/N q) w' v1 t'.1/\dZ (fun q=>I q\/N q) w' v2 t'.2
theorem dZ.below {I:Nat->Prop}{w w':World}{v:Value}{l:List Int}(h:dZ I w v l)(hb:Below w.heap.size w w'):dZ I w' v l:=h.keep (fun _ _ _ hc=>hc.below hb)
theorem oN.same {I:Nat->Prop}{w w':World}{v1 v2:Value}{t:LL}(h1:dZ I w v1 t.1)(h2:dZ I w v2 t.2)(hb:Below w.heap.size w w'):oN I w w' v1 v2 t:=
 ⟨hb,fun _=>False,fun _ h=>h.elim,(h1.below hb).mono (fun _ h=>.inl h),(h2.below hb).mono (fun _ h=>.inl h)⟩
theorem oN.fst {I:Nat->Prop}{w w':World}{v1 v2:Value}{t:LL}(h1:iH w.heap.size w' v1 t.1)(h2:dZ I w v2 t.2)(hb:Below w.heap.size w w'):oN I w w' v1 v2 t:=by
 obtain⟨b,k1,k2,k3⟩:=h1.row;exact⟨hb,fun q=>q=b,fun q e=>by subst e;exact⟨k1,k2⟩,k3.mono (fun _ h=>.inr h),(h2.below hb).mono (fun _ h=>.inl h)⟩
theorem oN.snd {I:Nat->Prop}{w w':World}{v1 v2:Value}{t:LL}(h1:dZ I w v1 t.1)(h2:iH w.heap.size w' v2 t.2)(hb:Below w.heap.size w w'):oN I w w' v1 v2 t:=by
 obtain⟨b,k1,k2,k3⟩:=h2.row;exact⟨hb,fun q=>q=b,fun q e=>by subst e;exact⟨k1,k2⟩,(h1.below hb).mono (fun _ h=>.inl h),k3.mono (fun _ h=>.inr h)⟩
theorem dZ.cut {I:Nat->Prop}{w:World}{A:Option Addr}{n c:Nat}{l:List Int}(h:dZ I w (.slice A n c) l)(m:Nat)(hm:m<=l.length):dZ I w (.slice A m c) (l.take m):=by
 obtain⟨A',c',e,hc,h3⟩:=h;injection e with e1 e2 e3
 subst e1 e2 e3;refine⟨A,c,by rw[List.length_take,Nat.min_eq_left hm],by rw[List.length_take];omega,?_⟩
 rcases h3 with⟨h3,rfl⟩|⟨b,cs,h3,hb,hh,hat⟩
 . exact .inl ⟨h3,by simp⟩
 . refine .inr ⟨b,cs,h3,hb,hh,fun i x hi=>?_⟩
   rw[List.getElem?_take]at hi
   split at hi
   . exact hat i x hi
   . cases hi
def L1 (y:Int)(v:Value)(w:World):Prop:=∃ b,v=.slice (some ⟨b,0,none⟩) 1 1/\Holds w b 3 [.int .i64 y]
def V72 (B gp b0 k:Nat)(y:Int)(vS vK:Value)(l2:List Int):Nat->Value->World->Prop
 |0,v,_=>v=.pointer (some ⟨gp,0,none⟩)
 |1,v,_=>v=vS
 |2,v,_=>v=.pointer (some ⟨gp,1,none⟩)
 |3,v,_=>v=vK
 |4,v,w=>Kd.R (Kd.int .i64) 3 w B (fun _=>True) v l2
 |5,v,_=>v=.pointer (some ⟨gp,0,none⟩)
 |6,v,_=>v=vS
 |7,v,_=>v=.int .i64 (k:Int)
 |8,v,_=>v=.pointer (some ⟨b0,k,none⟩)
 |9,v,_=>v=.int .i64 y
 |10,v,w=>L1 y v w
 |11,v,w=>iH B w v (l2++[y])
 |_,_,_=>True
def G72 (B:Nat)(k:Nat)(w w':World):Prop:=(k≠11->Below w.heap.size w w')/\∀ u,Below B u w->Below B u w'
theorem G72.ref {B k:Nat}{w:World}(hk:k≠11):G72 B k w w:=⟨fun _=>zc,fun _ h=>h⟩
theorem G72.mk4 {B k:Nat}{w w':World}(hk:k≠11)(hb:Below w.heap.size w w')(hB:B<=w.heap.size):G72 B k w w':=⟨fun _=>hb,fun _ h=>ag h hB hb⟩
theorem G72.mk11 {B:Nat}{w w':World}(hb:Below B w w'):G72 B 11 w w':=⟨fun h=>absurd rfl h,fun u h=>⟨hb.os.trans h.os,hb.tape.trans h.tape,hb.output.trans h.output,Nat.le_trans h.size hb.size,fun q hq=>(hb.block q hq).trans (h.block q hq)⟩⟩
theorem DW (B gp b0 k:Nat)(y:Int)(vS vK:Value)(l2:List Int)(i j:Nat)(v:Value)(w w':World)(hi:i<12)(hij:i≠j)(hX:(i,j)∉[(11,4),(11,10)])(h:V72 B gp b0 k y vS vK l2 j v w)(hg:G72 B i w w'):V72 B gp b0 k y vS vK l2 j v w':=by
 unfold V72 at h ⊢
 split at h
 case h_5=>
  exact Kd.aX h (hg.1 (fun e=>hX (by subst e;decide)))
 case h_11=>
  obtain⟨b,h1,h2⟩:=h;exact⟨b,h1,h2.below (hg.1 (fun e=>hX (by subst e;decide)))⟩
 case h_12=>exact h.below (hg.1 hij)
 all_goals first|exact h|trivial
theorem one_C {w:World}{b:Nat}{y:Int}(h:Holds w b 3 [.int .i64 y]):Kd.C (Kd.int .i64) w (some ⟨b,0,none⟩) 1 [y]:=by
 refine⟨rfl,by omega,fun _=>⟨_,rfl,fun j p hj=>?_⟩⟩
 cases j with
 |succ j=>simp at hj
 |zero=>
  obtain rfl:y=p:=by simpa using hj
  refine⟨[.int .i64 y],rfl,rfl,fun i u hi=>?_⟩
  cases i with
  |succ i=>simp at hi
  |zero=>
   obtain rfl:Value.int .i64 y=u:=by simpa using hi
   exact(h.cell 0).trans rfl
theorem Aq {w w':World}{o:Option Nat}(h:w.grownBy w' o)(ho:o=none):Below w.heap.size w w':=⟨h.os,h.tape,h.output,h.size,fun k hk=>h.block k hk (by rw[ho];simp)⟩
section
variable {o:Oper} {a:Act} {W:World}
theorem ou {x:Operand}{g i:Nat}(hi:i<2)(ho:o.op=.fieldAddr 77 x i)(hx:a.eval x=.pointer (some ⟨g,0,none⟩)):(execOp a.eval o).run Tryz.prog W=.ok (.value (.pointer (some ⟨g,i,none⟩))) W:=by
 have hu:=Tryz.underlying77
 match i,hi with
 |0,_|1,_=>
  unfold execOp;simp only[ho,hx]
  go_simp
theorem dz {x:Operand}{p:Addr}{v:Value}(ho:o.op=.load 38 x)(hx:a.eval x=.pointer (some p))(hc:W.cell? p=some v):(execOp a.eval o).run Tryz.prog W=.ok (.value v) W:=by
 unfold execOp;simp only[ho,hx]
 go_simp
theorem uD {x y:Operand}{b n c k:Nat}(ho:o.op=.indexAddr 38 x y)(hx:a.eval x=.slice (some ⟨b,0,none⟩) n c)(hy:a.eval y=.int .i64 (k:Int))(hk:k<n):(execOp a.eval o).run Tryz.prog W=.ok (.value (.pointer (some ⟨b,k,none⟩))) W:=by
 have h1:(0:Int)<=(k:Int):=by omega
 have h2:(k:Int)<(n:Int):=by omega
 generalize a.eval=E at hx hy ⊢;unfold execOp;simp only[ho,hx,hy]
 go_simp
theorem uk {x:Operand}{y:Int}(ho:o.op=.buildSlice 38 1 #[(0,x)])(hx:a.eval x=.int .i64 y):
 (execOp a.eval o).run Tryz.prog W=.ok (.value (.slice (some ⟨W.heap.size,0,none⟩) 1 1)) (W.alloc (.cells #[.int .i64 y] 3)):=by
 generalize a.eval=E at hx ⊢;unfold execOp;simp only[ho]
 go_simp
theorem oK {x:Operand}{g:Nat}{v1 v2:Value}(ho:o.op=.load 77 x)(hx:a.eval x=.pointer (some ⟨g,0,none⟩))(hh:Holds W g 77 [v1,v2]):(execOp a.eval o).run Tryz.prog W=.ok (.value (.agg #[v1,v2])) W:=by
 unfold execOp;simp only[ho,hx,lu (ty:=77) (off:=0) (cs:=[v1,v2]) hh (seg:=[v1,v2]) rfl Tryz.underlying77 rfl dm,Sem.run_bind,Sem.run_pure,Result.andThen_ok]
theorem xC (ho:o.op=.alloc 77):(execOp a.eval o).run Tryz.prog W=.ok (.value (.pointer (some ⟨W.heap.size,0,none⟩))) (W.alloc (.cells #[.slice none 0 0,.slice none 0 0] 77)):=by
 unfold execOp;simp only[ho]
 go_simp
end
def V73 (B gp b1 k d:Nat)(z:Int)(vS vK:Value)(l:List Int):Nat->Value->World->Prop
 |0,v,_=>v=.agg #[vS,vK]
 |1,v,_=>v=.int .i64 (k:Int)
 |2,v,_=>v=.pointer (some ⟨gp,1,none⟩)
 |3,v,_=>v=vK
 |4,v,_=>v=.int .i64 ((d:Int)+1)
 |5,v,_=>v=.int .i64 (d:Int)
 |6,v,_=>v=.pointer (some ⟨b1,d,none⟩)
 |7,v,_=>v=.int .i64 z
 |8,v,w=>∃ u,v=.agg #[u,vK]/\iH B w u (l.set k z)
 |9,v,w=>∃ g,v=.pointer (some ⟨g,0,none⟩)/\B<=g/\Holds w g 77 [.slice none 0 0,.slice none 0 0]
 |_,_,_=>True
theorem Cq (B gp b1 k d:Nat)(z:Int)(vS vK:Value)(l:List Int)(j:Nat)(v:Value)(w w':World)(h:V73 B gp b1 k d z vS vK l j v w)(hb:Below w.heap.size w w'):V73 B gp b1 k d z vS vK l j v w':=by
 unfold V73 at h ⊢
 split at h<;>first|exact h|(obtain⟨u,h1,h2⟩:=h;exact⟨u,h1,h2.below hb⟩)|(obtain⟨g,h1,h2,h3⟩:=h;exact⟨g,h1,h2,h3.below hb⟩)|trivial
section
variable {I:Nat→Prop} {w:World}
theorem r96 (A0:Option Addr)(n0 c0:Nat)(A1:Option Addr)(n1 c1:Nat)(t:LL)(r1:dZ I w (.slice A0 n0 c0) t.1)(r2:dZ I w (.slice A1 n1 c1) t.2)(h8:t.1.length<=8)(h16:t.2.length<=16)(k:Nat)(hk:k<t.1.length)(x:Int)(hx:0<=x):
 Calls Tryz.prog 96 #[.agg #[.slice A0 n0 c0,.slice A1 n1 c1],.int .i64 (k:Int),.int .i64 x] w fun e w'=>∃ v1 v2,e=.returned (.tuple #[.agg #[v1,v2],.int .i64 0])/\oN I w w' v1 v2 (t.1.set k x,t.2):=by
 obtain⟨W1,hW1,h1,h2,hb1,hsz⟩:=qU w (.slice A0 n0 c0) (.slice A1 n1 c1);have HB1:=Y hb1;have H1:=Y h1;have H2:=Y h2;have HSZ:=Y hsz;have z0:W1.cell? ⟨w.heap.size,0,none⟩=some (.slice A0 n0 c0):=(h1.cell 0).trans rfl;have z1:W1.cell? ⟨w.heap.size,1,none⟩=some (.slice A1 n1 c1):=(h1.cell 1).trans rfl
 obtain⟨ec0,en0⟩:n0=t.1.length/\t.1.length<=c0:=by
  obtain⟨A,c,e,hc,_⟩:=r1;injection e with e1 e2 e3
  subst e3;exact⟨e2,hc⟩
 obtain⟨ec1,en1⟩:n1=t.2.length/\t.2.length<=c1:=by
  obtain⟨A,c,e,hc,_⟩:=r2;injection e with e1 e2 e3
  subst e3;exact⟨e2,hc⟩
 have HR:=Y (And.intro r1 r2);subst ec0;have q1:decide ((k:Int)<0)=false:=yd (by omega)
 have q2:decide ((k:Int)>=(t.1.length:Int))=false:=yd (by omega)
 have q2':decide ((t.1.length:Int)<=(k:Int))=false:=yd (by omega)
 have q2'':decide (t.1.length<=k)=false:=yd (by omega)
 have q3:(0:Int)<=(k:Int):=by omega
 have q4:(k:Int)<(t.1.length:Int):=by omega
 have q5:decide (x<0)=false:=yd (by omega)
 have HW:=Y (r98 A0 c0 t.1 A1 n1 c1 (r1.below hb1) k hk (by omega) x)
 clear h1 h2 hb1 hsz r1 r2 h8 h16 hk hx en0 en1 ec1;go_enter Tryz.func96,Tryz.ntmps96;go_upto_region 1 with(fail)
 rw[<-hW1];clear hW1;go_wp2_with (first|(go_at_call 98;refine HW.out.mono ?_;rintro e w3 ⟨v,rfl,hn3,hb3⟩;obtain⟨Av,cv,ev⟩:=hn3.slice;rw[List.length_set]at ev;subst ev;have HN3:=Y hn3;have HB3:=Y hb3;have H23:=Y (H2.out.below hb3);clear hn3 hb3)|((with_reducible refine aW (N:=22) rfl ?_);refine bE (g:=w.heap.size) (off:=0) (t:=77) (cs:=[.slice A0 t.1.length c0,.slice A1 n1 c1]) (seg:=[.slice A0 t.1.length c0,.slice A1 n1 c1]) rfl rfl (by rfl) H1.out (by rfl) Tryz.underlying77 rfl dm ?_)|((with_reducible refine bg (t:=77) (p:=6) rfl ?_);refine aG rfl (ty:=77) rfl rfl (g:=(w.heap.size+1)) (off:=0) (vs:=#[.slice Av t.1.length cv,.slice A1 n1 c1]) rfl rfl H23.out (by show 2<=2;decide) dm (by simp[Value.oneCell']) ?_;intro w5 hh5 hs5;have HH5:=Y hh5;have HS5:=Y hs5;clear hh5 hs5))
 refine bodyPost_ret (fI rfl _ _ (w.heap.size+1) 77 #[.slice Av t.1.length cv,.slice A1 n1 c1] (0,0) _ rfl HH5.out Tryz.underlying77 rfl dm) rfl ?_;exact⟨_,_,rfl,.fst (t:=(t.1.set k x,t.2)) (by obtain⟨b,c,cs,k1,k2,k3,k4,k5⟩:=HN3.out.other H23.out (by decide) HS5.out;exact⟨b,c,cs,k1,k2,by have:=HSZ.out;omega,k4,k5⟩) HR.out.2 (HS5.out.below (ag HB1.out (by have:=HSZ.out;omega) HB3.out) (by omega))⟩
theorem r72 (A0:Option Addr)(n0 c0:Nat)(A1:Option Addr)(n1 c1:Nat)(t:LL)(r1:dZ I w (.slice A0 n0 c0) t.1)(r2:dZ I w (.slice A1 n1 c1) t.2)(h8:t.1.length<=8)(h16:t.2.length<=16)(i:Int):
 Calls Tryz.prog 72 #[.agg #[.slice A0 n0 c0,.slice A1 n1 c1],.int .i64 i] w fun e w'=>∃ v1 v2,e=.returned (.tuple #[.agg #[v1,v2],.int .i64 (fU t i).2])/\oN I w w' v1 v2 (fU t i).1:=by
 obtain⟨W1,hW1,h1,h2,hb1,hsz⟩:=qU w (.slice A0 n0 c0) (.slice A1 n1 c1);have HB1:=Y hb1;have H1:=Y h1;have H2:=Y h2;have HSZ:=Y hsz;have z0:W1.cell? ⟨w.heap.size,0,none⟩=some (.slice A0 n0 c0):=(h1.cell 0).trans rfl;have z1:W1.cell? ⟨w.heap.size,1,none⟩=some (.slice A1 n1 c1):=(h1.cell 1).trans rfl
 obtain⟨ec0,en0⟩:n0=t.1.length/\t.1.length<=c0:=by
  obtain⟨A,c,e,hc,_⟩:=r1;injection e with e1 e2 e3
  subst e3;exact⟨e2,hc⟩
 obtain⟨ec1,en1⟩:n1=t.2.length/\t.2.length<=c1:=by
  obtain⟨A,c,e,hc,_⟩:=r2;injection e with e1 e2 e3
  subst e3;exact⟨e2,hc⟩
 have HR:=Y (And.intro r1 r2);cases hi:atI t.1 i with
 |none=>
  have hn:=gY hi;rw[show fU t i=(t,2) by unfold fU;rw[hi]]
  clear h1 h2 hb1 hsz r1 r2 h8 h16 hi en0 en1 ec1
  by_cases h0:i<0
  . have q1:decide (i<0)=true:=yb h0;clear hn h0 ec0;go_enter Tryz.func72,Tryz.ntmps72;go_upto_region 1 with(fail)
    rw[<-hW1];clear hW1;go_wp2_with (first|((with_reducible refine aW (N:=15) rfl ?_);refine bE (g:=w.heap.size) (off:=0) (t:=77) (cs:=[.slice A0 n0 c0,.slice A1 n1 c1]) (seg:=[.slice A0 n0 c0,.slice A1 n1 c1]) rfl rfl (by rfl) H1.out (by rfl) Tryz.underlying77 rfl dm ?_)|((with_reducible refine bg (t:=77) (p:=4) rfl ?_);refine aG rfl (ty:=77) rfl rfl (g:=(w.heap.size+1)) (off:=0) (vs:=#[.slice A0 n0 c0,.slice A1 n1 c1]) rfl rfl H2.out (by show 2<=2;decide) dm (by simp[Value.oneCell']) ?_;intro w5 hh5 hs5;have HH5:=Y hh5;have HS5:=Y hs5;clear hh5 hs5))
    refine bodyPost_ret (fI rfl _ _ (w.heap.size+1) 77 #[.slice A0 n0 c0,.slice A1 n1 c1] (0,0) _ rfl HH5.out Tryz.underlying77 rfl dm) rfl ?_;exact⟨_,_,rfl,.same HR.out.1 HR.out.2 (HS5.out.below HB1.out (by omega))⟩
  . have q1:decide (i<0)=false:=yd h0;have q2:decide (i>=(n0:Int))=true:=yb (by omega)
    have q2':decide ((n0:Int)<=i)=true:=yb (by omega)
    clear hn h0 ec0;go_enter Tryz.func72,Tryz.ntmps72;go_upto_region 1 with(fail)
    rw[<-hW1];clear hW1;go_wp2_with (first|((with_reducible refine aW (N:=15) rfl ?_);refine bE (g:=w.heap.size) (off:=0) (t:=77) (cs:=[.slice A0 n0 c0,.slice A1 n1 c1]) (seg:=[.slice A0 n0 c0,.slice A1 n1 c1]) rfl rfl (by rfl) H1.out (by rfl) Tryz.underlying77 rfl dm ?_)|((with_reducible refine bg (t:=77) (p:=4) rfl ?_);refine aG rfl (ty:=77) rfl rfl (g:=(w.heap.size+1)) (off:=0) (vs:=#[.slice A0 n0 c0,.slice A1 n1 c1]) rfl rfl H2.out (by show 2<=2;decide) dm (by simp[Value.oneCell']) ?_;intro w5 hh5 hs5;have HH5:=Y hh5;have HS5:=Y hs5;clear hh5 hs5))
    refine bodyPost_ret (fI rfl _ _ (w.heap.size+1) 77 #[.slice A0 n0 c0,.slice A1 n1 c1] (0,0) _ rfl HH5.out Tryz.underlying77 rfl dm) rfl ?_;exact⟨_,_,rfl,.same HR.out.1 HR.out.2 (HS5.out.below HB1.out (by omega))⟩
 |some y=>
  obtain⟨k,rfl,hk,hlt⟩:=dC hi;subst ec0;have q1:decide ((k:Int)<0)=false:=yd (by omega)
  have q2:decide ((k:Int)>=(t.1.length:Int))=false:=yd (by omega)
  have q2':decide ((t.1.length:Int)<=(k:Int))=false:=yd (by omega)
  have q2'':decide (t.1.length<=k)=false:=yd (by omega)
  have q3:(0:Int)<=(k:Int):=by omega
  have q4:(k:Int)<(t.1.length:Int):=by omega
  by_cases hf:t.2.length=16
  . rw[show fU t (k:Int)=(t,4) by unfold fU;rw[hi];simp only[];rw[if_pos hf]]
    have q5:decide ((n1:Int)>15)=true:=yb (by omega)
    have q5':decide (15<(n1:Int))=true:=yb (by omega)
    have q5'':decide (15<n1)=true:=yb (by omega)
    clear h1 h2 hb1 hsz r1 r2 h8 h16 hi en0 en1 ec1 hk hlt hf;go_enter Tryz.func72,Tryz.ntmps72;go_upto_region 1 with(fail)
    rw[<-hW1];clear hW1;go_wp2_with (first|((with_reducible refine aW (N:=20) rfl ?_);refine bE (g:=w.heap.size) (off:=0) (t:=77) (cs:=[.slice A0 t.1.length c0,.slice A1 n1 c1]) (seg:=[.slice A0 t.1.length c0,.slice A1 n1 c1]) rfl rfl (by rfl) H1.out (by rfl) Tryz.underlying77 rfl dm ?_)|((with_reducible refine bg (t:=77) (p:=4) rfl ?_);refine aG rfl (ty:=77) rfl rfl (g:=(w.heap.size+1)) (off:=0) (vs:=#[.slice A0 t.1.length c0,.slice A1 n1 c1]) rfl rfl H2.out (by show 2<=2;decide) dm (by simp[Value.oneCell']) ?_;intro w5 hh5 hs5;have HH5:=Y hh5;have HS5:=Y hs5;clear hh5 hs5))
    refine bodyPost_ret (fI rfl _ _ (w.heap.size+1) 77 #[.slice A0 t.1.length c0,.slice A1 n1 c1] (0,0) _ rfl HH5.out Tryz.underlying77 rfl dm) rfl ?_;exact⟨_,_,rfl,.same HR.out.1 HR.out.2 (HS5.out.below HB1.out (by omega))⟩
  . rw[show fU t (k:Int)=((t.1,t.2++[y]),0) by unfold fU;rw[hi];simp only[];rw[if_neg hf]]
    subst ec1;obtain⟨b0,rfl,xk⟩:=(r1.below hb1).get rfl hk;have q5:decide ((t.2.length:Int)>15)=false:=yd (by omega)
    have q5':decide (15<(t.2.length:Int))=false:=yd (by omega)
    have q5'':decide (15<t.2.length)=false:=yd (by omega)
    have HX:=Y xk;have HLK:=Y (And.intro hlt (And.intro hf h16));have HC:=Y ((r2.below hb1).C rfl (by omega))
    clear h1 h2 hb1 hsz r1 r2 h8 h16 hi en0 en1 hk hlt hf xk;go_enter Tryz.func72,Tryz.ntmps72;go_upto_region 1 with(fail)
    rw[<-hW1];clear hW1;go_upto_region 5 with(fail)
    refine mH 12 34 [(11,4),(11,10)] (V72 W1.heap.size w.heap.size b0 k y (.slice (some ⟨b0,0,none⟩) t.1.length c0) (.slice A1 t.2.length c1) t.2) (fun _ w1=>Below W1.heap.size W1 w1) (G72 W1.heap.size) (by kernel_rfl) (by rfl) (by kernel_rfl) (bv zc) (fun _ _ _ _ _ _ _ h g=>g.2 _ h) (fun i j v w1 w2 hi hij hX _ h g=>DW _ _ _ _ _ _ _ _ i j v w1 w2 hi hij hX h g) ?st ?en
    case st=>
     refine au.cons (fun a w1 L fr hL hj hdf hd K hK=>?_) ?_
     . exact af (ou (i:=0) (by decide) rfl ((fr 2 (by kernel_rfl)).trans rfl)) (hK _ _ (G72.ref (by decide)) rfl)
     refine au.cons (fun a w1 L fr hL hj hdf hd K hK=>?_) ?_
     . exact af (dz rfl (hd 0 21 (by kernel_rfl)) (((H1.out.below hj).cell 0).trans rfl)) (hK _ _ (G72.ref (by decide)) rfl)
     refine au.cons (fun a w1 L fr hL hj hdf hd K hK=>?_) ?_
     . exact af (ou (i:=1) (by decide) rfl ((fr 2 (by kernel_rfl)).trans rfl)) (hK _ _ (G72.ref (by decide)) rfl)
     refine au.cons (fun a w1 L fr hL hj hdf hd K hK=>?_) ?_
     . exact af (dz rfl (hd 2 23 (by kernel_rfl)) (((H1.out.below hj).cell 1).trans rfl)) (hK _ _ (G72.ref (by decide)) rfl)
     refine au.cons (fun a w1 L fr hL hj hdf hd K hK=>?_) ?_
     . have e1:a.eval (.tmp 24)=.slice A1 t.2.length c1:=(hd 3 24 (by kernel_rfl))
       refine gQ (Kd.int .i64) (w0:=w1) W1.heap.size 38 3 (.int .i64 0) 8 rfl Tryz.underlying38 kI rfl (by decide) (by omega) (.slice none 0 0) [] t.2 A1 t.2.length c1 (fun _=>True) rfl e1 (fun _ _ _ _ h=>h) (fun _ _=>trivial) (Kd.fo _ _ _ _ _) (Kd.aU HC.out hj) zc hj.size (by have:=HLK.out.2.2;show(0+t.2.length)*8<=_;omega) ?_
       intro v1 w2 hr1 hb1 hg1 hat;exact hK _ _ (G72.mk4 (by decide) (Aq hg1 rfl) hj.size) (show Kd.R _ _ _ _ _ _ _ from hr1)
     refine au.cons (fun a w1 L fr hL hj hdf hd K hK=>?_) ?_
     . exact af (ou (i:=0) (by decide) rfl ((fr 2 (by kernel_rfl)).trans rfl)) (hK _ _ (G72.ref (by decide)) rfl)
     refine au.cons (fun a w1 L fr hL hj hdf hd K hK=>?_) ?_
     . exact af (dz rfl (hd 5 26 (by kernel_rfl)) (((H1.out.below hj).cell 0).trans rfl)) (hK _ _ (G72.ref (by decide)) rfl)
     refine au.cons (fun a w1 L fr hL hj hdf hd K hK=>?_) ?_
     . exact af (aC rfl ((fr 1 (by kernel_rfl)).trans rfl)) (hK _ _ (G72.ref (by decide)) rfl)
     refine au.cons (fun a w1 L fr hL hj hdf hd K hK=>?_) ?_
     . exact af (uD rfl (hd 6 27 (by kernel_rfl)) (hd 7 28 (by kernel_rfl)) HLK.out.1) (hK _ _ (G72.ref (by decide)) rfl)
     refine au.cons (fun a w1 L fr hL hj hdf hd K hK=>?_) ?_
     . exact af (dx rfl (hd 8 29 (by kernel_rfl)) ((hj.cell (World.block_lt_of_cell? W1 _ HX.out)).trans HX.out)) (hK _ _ (G72.ref (by decide)) rfl)
     refine au.cons (fun a w1 L fr hL hj hdf hd K hK=>?_) ?_
     . exact af (uk rfl (hd 9 30 (by kernel_rfl))) (hK _ _ (G72.mk4 (by decide) (ae zc _) hj.size) (show L1 _ _ _ from⟨w1.heap.size,rfl,aK _ _⟩))
     refine au.cons (fun a w1 L fr hL hj hdf hd K hK=>?_) ?_
     . have h4:Kd.R (Kd.int .i64) 3 w1 W1.heap.size (fun _=>True) (a.eval (.tmp 25)) t.2:=(hd 4 25 (by kernel_rfl))
       obtain⟨b1,e1,hh1⟩:L1 y (a.eval (.tmp 31)) w1:=(hd 10 31 (by kernel_rfl))
       have hc1:Kd.C (Kd.int .i64) w1 (some ⟨b1,0,none⟩) 1 [y]:=one_C hh1;refine gQ (Kd.int .i64) (w0:=w1) W1.heap.size 38 3 (.int .i64 0) 8 rfl Tryz.underlying38 kI rfl (by decide) (by omega) _ t.2 [y] (some ⟨b1,0,none⟩) 1 1 (fun _=>True) rfl e1 (fun _ _ _ _ h=>h) (fun _ _=>trivial) h4 hc1 zc hj.size (by have:=HLK.out.2.2;omega) ?_
       intro v1 w2 hr1 hb1 hg1 hat;exact hK _ _ (G72.mk11 hb1) (show iH _ _ _ _ from iH.kV hr1 (by simp))
     exact au.nil
    case en=>
     intro vs w6 L hb hL hv;have e1:vs 1=.slice (some ⟨b0,0,none⟩) t.1.length c0:=hv 1 22 (by decide) (by kernel_rfl) (by decide)
     have h11:iH W1.heap.size w6 (vs 11) (t.2++[y]):=hv 11 32 (by decide) (by kernel_rfl) (by decide)
     obtain⟨Av,cv,e11⟩:=h11.slice;rw[List.length_append,List.length_singleton]at e11;simp only[List.take_succ_cons,List.take_zero,List.drop_succ_cons,List.drop_zero,bA,Act.put,zj,zr,ya,e1,e11];have HN:=Y h11;have H26:=Y (H2.out.below hb);have HB6:=Y hb;rw[e11]at HN;clear hv e1 e11 h11 hb z0 z1;go_wp2_with ((with_reducible refine bg (t:=77) (p:=4) rfl ?_);refine aG rfl (ty:=77) rfl rfl (g:=(w.heap.size+1)) (off:=0) (vs:=#[.slice (some ⟨b0,0,none⟩) t.1.length c0,.slice Av (t.2.length+1) cv]) rfl rfl H26.out (by show 2<=2;decide) dm (by simp[Value.oneCell']) ?_;intro w5 hh5 hs5;have HH5:=Y hh5;have HS5:=Y hs5;clear hh5 hs5)
     refine bodyPost_ret (fI rfl _ _ (w.heap.size+1) 77 #[.slice (some ⟨b0,0,none⟩) t.1.length c0,.slice Av (t.2.length+1) cv] (0,0) _ rfl HH5.out Tryz.underlying77 rfl dm) rfl ?_;exact⟨_,_,rfl,.snd (t:=(t.1,t.2++[y])) HR.out.1 (by obtain⟨b,c,cs,k1,k2,k3,k4,k5⟩:=HN.out.other H26.out (by decide) HS5.out;exact⟨b,c,cs,k1,k2,by have:=HSZ.out;omega,k4,k5⟩) (HS5.out.below (ag HB1.out (by have:=HSZ.out;omega) HB6.out) (by omega))⟩
theorem r73 (A0:Option Addr)(n0 c0:Nat)(A1:Option Addr)(n1 c1:Nat)(t:LL)(r1:dZ I w (.slice A0 n0 c0) t.1)(r2:dZ I w (.slice A1 n1 c1) t.2)(h8:t.1.length<=8)(h16:t.2.length<=16)(i:Int):
 Calls Tryz.prog 73 #[.agg #[.slice A0 n0 c0,.slice A1 n1 c1],.int .i64 i] w fun e w'=>∃ v1 v2,e=.returned (.tuple #[.agg #[v1,v2],.int .i64 (iI t i).2])/\oN I w w' v1 v2 (iI t i).1:=by
 obtain⟨W1,hW1,h1,h2,hb1,hsz⟩:=qU w (.slice A0 n0 c0) (.slice A1 n1 c1);have HB1:=Y hb1;have H1:=Y h1;have H2:=Y h2;have HSZ:=Y hsz;have z0:W1.cell? ⟨w.heap.size,0,none⟩=some (.slice A0 n0 c0):=(h1.cell 0).trans rfl;have z1:W1.cell? ⟨w.heap.size,1,none⟩=some (.slice A1 n1 c1):=(h1.cell 1).trans rfl
 obtain⟨ec0,en0⟩:n0=t.1.length/\t.1.length<=c0:=by
  obtain⟨A,c,e,hc,_⟩:=r1;injection e with e1 e2 e3
  subst e3;exact⟨e2,hc⟩
 obtain⟨ec1,en1⟩:n1=t.2.length/\t.2.length<=c1:=by
  obtain⟨A,c,e,hc,_⟩:=r2;injection e with e1 e2 e3
  subst e3;exact⟨e2,hc⟩
 have HR:=Y (And.intro r1 r2);cases hi:atI t.1 i with
 |none=>
  have hn:=gY hi;rw[show iI t i=(t,2) by unfold iI;rw[hi]]
  clear h1 h2 hb1 hsz r1 r2 h8 h16 hi en0 en1 ec1
  by_cases h0:i<0
  . have q1:decide (i<0)=true:=yb h0;clear hn h0 ec0;go_enter Tryz.func73,Tryz.ntmps73;go_upto_region 1 with(fail)
    rw[<-hW1];clear hW1;go_wp2_with (first|((with_reducible refine aW (N:=17) rfl ?_);refine bE (g:=w.heap.size) (off:=0) (t:=77) (cs:=[.slice A0 n0 c0,.slice A1 n1 c1]) (seg:=[.slice A0 n0 c0,.slice A1 n1 c1]) rfl rfl (by rfl) H1.out (by rfl) Tryz.underlying77 rfl dm ?_)|((with_reducible refine bg (t:=77) (p:=4) rfl ?_);refine aG rfl (ty:=77) rfl rfl (g:=(w.heap.size+1)) (off:=0) (vs:=#[.slice A0 n0 c0,.slice A1 n1 c1]) rfl rfl H2.out (by show 2<=2;decide) dm (by simp[Value.oneCell']) ?_;intro w5 hh5 hs5;have HH5:=Y hh5;have HS5:=Y hs5;clear hh5 hs5))
    refine bodyPost_ret (fI rfl _ _ (w.heap.size+1) 77 #[.slice A0 n0 c0,.slice A1 n1 c1] (0,0) _ rfl HH5.out Tryz.underlying77 rfl dm) rfl ?_;exact⟨_,_,rfl,.same HR.out.1 HR.out.2 (HS5.out.below HB1.out (by omega))⟩
  . have q1:decide (i<0)=false:=yd h0;have q2:decide (i>=(n0:Int))=true:=yb (by omega)
    have q2':decide ((n0:Int)<=i)=true:=yb (by omega)
    clear hn h0 ec0;go_enter Tryz.func73,Tryz.ntmps73;go_upto_region 1 with(fail)
    rw[<-hW1];clear hW1;go_wp2_with (first|((with_reducible refine aW (N:=17) rfl ?_);refine bE (g:=w.heap.size) (off:=0) (t:=77) (cs:=[.slice A0 n0 c0,.slice A1 n1 c1]) (seg:=[.slice A0 n0 c0,.slice A1 n1 c1]) rfl rfl (by rfl) H1.out (by rfl) Tryz.underlying77 rfl dm ?_)|((with_reducible refine bg (t:=77) (p:=4) rfl ?_);refine aG rfl (ty:=77) rfl rfl (g:=(w.heap.size+1)) (off:=0) (vs:=#[.slice A0 n0 c0,.slice A1 n1 c1]) rfl rfl H2.out (by show 2<=2;decide) dm (by simp[Value.oneCell']) ?_;intro w5 hh5 hs5;have HH5:=Y hh5;have HS5:=Y hs5;clear hh5 hs5))
    refine bodyPost_ret (fI rfl _ _ (w.heap.size+1) 77 #[.slice A0 n0 c0,.slice A1 n1 c1] (0,0) _ rfl HH5.out Tryz.underlying77 rfl dm) rfl ?_;exact⟨_,_,rfl,.same HR.out.1 HR.out.2 (HS5.out.below HB1.out (by omega))⟩
 |some y=>
  obtain⟨k,rfl,hk,hlt⟩:=dC hi;subst ec0;have q1:decide ((k:Int)<0)=false:=yd (by omega)
  have q2:decide ((k:Int)>=(t.1.length:Int))=false:=yd (by omega)
  have q2':decide ((t.1.length:Int)<=(k:Int))=false:=yd (by omega)
  have q2'':decide (t.1.length<=k)=false:=yd (by omega)
  have q3:(0:Int)<=(k:Int):=by omega
  have q4:(k:Int)<(t.1.length:Int):=by omega
  cases hg:t.2.getLast? with
  |none=>
   rw[show iI t (k:Int)=(t,5) by unfold iI;rw[hi];simp only[];rw[hg]]
   have h0:n1=0:=by rw[List.getLast?_eq_none_iff]at hg;rw[ec1,hg];rfl
   subst h0;clear h1 h2 hb1 hsz r1 r2 h8 h16 hi en0 en1 ec1 hk hlt hg;go_enter Tryz.func73,Tryz.ntmps73;go_upto_region 1 with(fail)
   rw[<-hW1];clear hW1;go_wp2_with (first|((with_reducible refine aW (N:=23) rfl ?_);refine bE (g:=w.heap.size) (off:=0) (t:=77) (cs:=[.slice A0 t.1.length c0,.slice A1 0 c1]) (seg:=[.slice A0 t.1.length c0,.slice A1 0 c1]) rfl rfl (by rfl) H1.out (by rfl) Tryz.underlying77 rfl dm ?_)|((with_reducible refine bg (t:=77) (p:=4) rfl ?_);refine aG rfl (ty:=77) rfl rfl (g:=(w.heap.size+1)) (off:=0) (vs:=#[.slice A0 t.1.length c0,.slice A1 0 c1]) rfl rfl H2.out (by show 2<=2;decide) dm (by simp[Value.oneCell']) ?_;intro w5 hh5 hs5;have HH5:=Y hh5;have HS5:=Y hs5;clear hh5 hs5))
   refine bodyPost_ret (fI rfl _ _ (w.heap.size+1) 77 #[.slice A0 t.1.length c0,.slice A1 0 c1] (0,0) _ rfl HH5.out Tryz.underlying77 rfl dm) rfl ?_;exact⟨_,_,rfl,.same HR.out.1 HR.out.2 (HS5.out.below HB1.out (by omega))⟩
  |some z=>
   rw[show iI t (k:Int)=((t.1.set k z,t.2.dropLast),0) by unfold iI;rw[hi];simp only[];rw[hg];rfl]
   obtain⟨d,hd1⟩:∃ d,t.2.length=d+1:=by
    cases e:t.2 with
    |nil=>rw[e]at hg;cases hg
    |cons a l=>exact⟨l.length,rfl⟩
   have hz:t.2[d]? =some z:=by rw[List.getLast?_eq_getElem?,hd1]at hg;exact hg
   have hdl:t.2.dropLast=t.2.take d:=by rw[List.dropLast_eq_take,hd1];rfl
   rw[hdl];obtain⟨b1,rfl,xz⟩:=(r2.below hb1).get rfl hz;have HCUT:=Y (r2.cut d (by omega))
   have HW:=Y (fun w1 (hb:Below W1.heap.size W1 w1)=>r98 A0 c0 t.1 (some ⟨b1,0,none⟩) n1 c1 ((r1.below hb1).below hb) k hlt (by omega) z)
   have HX:=Y xz;obtain rfl:n1=d+1:=by omega
   have q5':decide (((d+1:Nat):Int)=0)=false:=yd (by omega)
   have q6':((((d+1:Nat)):Int)==0)=false:=by rw[beq_eq_false_iff_ne];omega
   have q5:decide ((d:Int)+1=0)=false:=yd (by omega)
   have q6:(((d:Int)+1)==0)=false:=by rw[beq_eq_false_iff_ne];omega
   have q7:(0:Int)<=(d:Int):=by omega
   have q8:(d:Int)<=(c1:Int):=by omega
   have q9:d<=c1:=by omega
   have hw1:IntKind.i64.wrap ((d:Int)+1 - 1)=(d:Int):=by rw[i64_in (by omega)];omega
   have hw2:IntKind.i64.wrap (d:Int)=(d:Int):=i64_in (by omega)
   have HD:=Y (And.intro hlt (show d<=1000 by omega))
   clear h1 h2 hb1 hsz r1 r2 h8 h16 hi en0 en1 hk hlt xz ec1 hd1 hz hdl hg;go_enter Tryz.func73,Tryz.ntmps73;go_upto_region 1 with(fail)
   rw[<-hW1];clear hW1;go_upto_region 6 with(fail)
   refine jZ 10 40 (V73 W1.heap.size w.heap.size b1 k d z (.slice A0 t.1.length c0) (.slice (some ⟨b1,0,none⟩) (d+1) c1) t.1) (by kernel_rfl) (by rfl) (by kernel_rfl) (fun j v w1 w2 h hb=>Cq _ _ _ _ _ _ _ _ _ j v w1 w2 h hb) ?st ?en
   case st=>
    refine Steps.cons (fun a w1 fr hb hd K hK=>?_) ?_
    . exact af (oK rfl ((fr 2 (by kernel_rfl)).trans rfl) (H1.out.below hb)) (hK _ _ zc rfl)
    refine Steps.cons (fun a w1 fr hb hd K hK=>?_) ?_
    . exact af (aC rfl ((fr 1 (by kernel_rfl)).trans rfl)) (hK _ _ zc rfl)
    refine Steps.cons (fun a w1 fr hb hd K hK=>?_) ?_
    . exact af (ou (i:=1) (by decide) rfl ((fr 2 (by kernel_rfl)).trans rfl)) (hK _ _ zc rfl)
    refine Steps.cons (fun a w1 fr hb hd K hK=>?_) ?_
    . exact af (dz rfl (hd 2 26 (by kernel_rfl)) (((H1.out.below hb).cell 1).trans rfl)) (hK _ _ zc rfl)
    refine Steps.cons (fun a w1 fr hb hd K hK=>?_) ?_
    . exact af (aC rfl ((fr 6 (by kernel_rfl)).trans rfl)) (hK _ _ zc rfl)
    refine Steps.cons (fun a w1 fr hb hd K hK=>?_) ?_
    . exact af (sV (by have:=HD.out.2;omega) rfl (hd 4 28 (by kernel_rfl))) (hK _ _ zc rfl)
    refine Steps.cons (fun a w1 fr hb hd K hK=>?_) ?_
    . exact af (uD rfl (hd 3 27 (by kernel_rfl)) (hd 5 29 (by kernel_rfl)) (by omega)) (hK _ _ zc rfl)
    refine Steps.cons (fun a w1 fr hb hd K hK=>?_) ?_
    . exact af (dx rfl (hd 6 30 (by kernel_rfl)) ((hb.cell (World.block_lt_of_cell? W1 _ HX.out)).trans HX.out)) (hK _ _ zc rfl)
    refine Steps.cons (fun a w1 fr hb hd K hK=>?_) ?_
    . have e1:a.eval (.tmp 24)=.agg #[.slice A0 t.1.length c0,.slice (some ⟨b1,0,none⟩) (d+1) c1]:=(hd 0 24 (by kernel_rfl))
      have e2:a.eval (.tmp 25)=.int .i64 (k:Int):=(hd 1 25 (by kernel_rfl))
      have e3:a.eval (.tmp 31)=.int .i64 z:=(hd 7 31 (by kernel_rfl))
      refine ek Tryz.func98 (by kernel_rfl) rfl #[.agg #[.slice A0 t.1.length c0,.slice (some ⟨b1,0,none⟩) (d+1) c1],.int .i64 (k:Int),.int .i64 z] rfl (by simp only[List.map_toArray,List.map_cons,List.map_nil,e1,e2,e3]) ?_
      refine(HW.out w1 hb).mono ?_;rintro e w2 ⟨v,rfl,hn,hb2⟩;exact⟨_,rfl,hK _ _ hb2 (show ∃ u,_ from⟨v,rfl,by obtain⟨b,c,cs,k1,k2,k3,k4,k5⟩:=hn;exact⟨b,c,cs,k1,k2,Nat.le_trans hb.size k3,k4,k5⟩⟩)⟩
    refine Steps.cons (fun a w1 fr hb hd K hK=>?_) ?_
    . exact af (xC rfl) (hK _ _ (ae zc _) (show ∃ g,_ from⟨w1.heap.size,rfl,hb.size,aK _ _⟩))
    exact Steps.nil
   case en=>
    intro vs w6 hb hv;obtain⟨u,e8,hn⟩:∃ u,vs 8=.agg #[u,.slice (some ⟨b1,0,none⟩) (d+1) c1]/\iH W1.heap.size w6 u (t.1.set k z):=hv 8 32 (by decide) (by kernel_rfl)
    obtain⟨g7,e9,hg7,hh7⟩:∃ g,vs 9=.pointer (some ⟨g,0,none⟩)/\W1.heap.size<=g/\Holds w6 g 77 [.slice none 0 0,.slice none 0 0]:=hv 9 7 (by decide) (by kernel_rfl)
    obtain⟨Av,cv,ev⟩:=hn.slice;rw[List.length_set]at ev;subst ev;simp only[List.take_succ_cons,List.take_zero,List.drop_succ_cons,List.drop_zero,bA,Act.put,zj,zr,ya,e8,e9];have HN:=Y hn;have H16:=Y (H1.out.below hb);have H26:=Y (H2.out.below hb);have H76:=Y hh7;have HB6:=Y hb;have HG7:=Y hg7;clear hv e8 e9 hn hb hh7 hg7 z0 z1;go_upto_region 7 with((with_reducible refine bg (t:=77) (p:=7) rfl ?_);refine aG rfl (ty:=77) rfl rfl (g:=g7) (off:=0) (vs:=#[.slice Av t.1.length cv,.slice (some ⟨b1,0,none⟩) (d+1) c1]) rfl rfl H76.out (by show 2<=2;decide) dm (by simp[Value.oneCell']) ?_;intro w5 hh5 hs5;have HH5:=Y hh5;have HS5:=Y hs5;clear hh5 hs5)
    have H15:=Y (HS5.out.holds H16.out (by have:=HG7.out;have:=HSZ.out;omega))
    have H25:=Y (HS5.out.holds H26.out (by have:=HG7.out;have:=HSZ.out;omega))
    have z1:w5.cell? ⟨w.heap.size,1,none⟩=some (.slice (some ⟨b1,0,none⟩) (d+1) c1):=(H15.out.cell 1).trans rfl;have y5:w5.cell? ⟨g7,1,none⟩=some (.slice (some ⟨b1,0,none⟩) (d+1) c1):=(HH5.out.cell 1).trans rfl;have y6:=ak HH5.out 1;have HS8:=Y (bu w5 g7 1 (.slice (some ⟨b1,0,none⟩) d c1));have HH8:=Y (show Holds (w5.setCell ⟨g7,1,none⟩ (.slice (some ⟨b1,0,none⟩) d c1)) g7 77 [.slice Av t.1.length cv,.slice (some ⟨b1,0,none⟩) d c1]from bB HH5.out (k:=1) (by show 1<2;decide) _)
    go_upto_region 8 with(fail)
    obtain⟨W8,hW8⟩:∃ W8,W8=w5.setCell ⟨g7,1,none⟩ (.slice (some ⟨b1,0,none⟩) d c1):=⟨_,rfl⟩;rw[<-hW8]at HS8 HH8 ⊢;clear hW8 y5 y6 z1;have H28:=Y (HS8.out.holds H25.out (by have:=HG7.out;have:=HSZ.out;omega))
    go_wp2_with (first|((with_reducible refine aW (N:=39) rfl ?_);refine bE (g:=g7) (off:=0) (t:=77) (cs:=[.slice Av t.1.length cv,.slice (some ⟨b1,0,none⟩) d c1]) (seg:=[.slice Av t.1.length cv,.slice (some ⟨b1,0,none⟩) d c1]) rfl rfl (by rfl) HH8.out (by rfl) Tryz.underlying77 rfl dm ?_)|((with_reducible refine bg (t:=77) (p:=4) rfl ?_);refine aG rfl (ty:=77) rfl rfl (g:=(w.heap.size+1)) (off:=0) (vs:=#[.slice Av t.1.length cv,.slice (some ⟨b1,0,none⟩) d c1]) rfl rfl H28.out (by show 2<=2;decide) dm (by simp[Value.oneCell']) ?_;intro w9 hh9 hs9;have HH9:=Y hh9;have HS9:=Y hs9;clear hh9 hs9))
    refine bodyPost_ret (fI rfl _ _ (w.heap.size+1) 77 #[.slice Av t.1.length cv,.slice (some ⟨b1,0,none⟩) d c1] (0,0) _ rfl HH9.out Tryz.underlying77 rfl dm) rfl ?_;exact⟨_,_,rfl,.fst (t:=(t.1.set k z,t.2.take d)) (by obtain⟨b,c,cs,k1,k2,k3,k4,k5⟩:=((HN.out.other H76.out (by decide) HS5.out).other HH5.out (by decide) HS8.out).other H28.out (by decide) HS9.out;exact⟨b,c,cs,k1,k2,by have:=HSZ.out;omega,k4,k5⟩) HCUT.out (HS9.out.below (HS8.out.below (HS5.out.below (ag HB1.out (by have:=HSZ.out;omega) HB6.out) (by have:=HG7.out;have:=HSZ.out;omega)) (by have:=HG7.out;have:=HSZ.out;omega)) (by omega))⟩
end
end
end Go.Proofs.YtglikkmmbdnmbaaGreat.Im
namespace Go.Proofs.YtglikkmmbdnmbaaGreat.Wv
open Go.RowKit Q7
set_option linter.unusedVariables false
set_option linter.unusedSimpArgs false
section
section
variable {P:Program} {ops:Array Oper} {Q:Exit→Act→World→Prop}
def oQ (o:Oper)(j:Nat):Bool:=o.after.any fun e=>Region.binds .any e && e.on==j
theorem sS {o:Oper}{j:Nat}(h:oQ o j=true):∃ e∈o.after,Region.binds .any e=true/\e.on=j:=by
 unfold oQ at h;obtain⟨e,he,h1⟩:=Array.any_eq_true'.1 h;simp only[Bool.and_eq_true,beq_iff_eq]at h1;exact⟨e,he,h1⟩
theorem fe {L:Array Bool}(h:dK .any ops L){j i:Nat}{o:Oper}(ho:ops[j]? =some o)(hw:oQ o i=true)(hj:L.getD j false=true):L.getD i false=true:=by
 obtain⟨e,he,hb,rfl⟩:=sS hw;exact h j o ho hj e he hb
def wP (P:Program)(Q:Exit->Act->World->Prop)(ops:Array Oper)(n:Nat)(V:Nat->Value->World->Prop)(J:Array Bool->World->Prop)(G:Nat->World->World->Prop)(a0:Act)(k:Nat)(o:Oper):Prop:=
 ∀ a w L,(∀ t,noB ops n t=true->a.eval (.tmp t)=a0.eval (.tmp t))->L.getD k false=false->J L w->a.defers=a0.defers->
  (∀ j t,lI ops o j t=true->V j (a.eval (.tmp t)) w)->
  dK .any ops L->(∀ j,oQ o j=true->L.getD j false=true)->∀ K:Act->World->Prop,(∀ v w',G k w w'->V k v w'->K (a.put o.dst v) w')->Oper.wp P o a w K Q
def dP (P:Program)(Q:Exit->Act->World->Prop)(ops:Array Oper)(n:Nat)(V:Nat->Value->World->Prop)(J:Array Bool->World->Prop)(G:Nat->World->World->Prop)(a0:Act):Nat->List Oper->Prop
 |_,[]=>True
 |k,o :: r=>wP P Q ops n V J G a0 k o/\dP P Q ops n V J G a0 (k+1) r
section
variable {n:Nat} {V:Nat→Value→World→Prop} {J:Array Bool→World→Prop} {G:Nat→World→World→Prop} {a0:Act}
theorem dP.nil {k:Nat}:dP P Q ops n V J G a0 k []:=trivial
theorem dP.cons {k:Nat}{o:Oper}{r:List Oper}(h:wP P Q ops n V J G a0 k o)(hr:dP P Q ops n V J G a0 (k+1) r):dP P Q ops n V J G a0 k (o :: r):=⟨h,hr⟩
theorem dP.at:∀{l:List Oper} {k i:Nat} {o:Oper},dP P Q ops n V J G a0 k l->l[i]? =some o->wP P Q ops n V J G a0 (k+i) o
 |[],_,_,_,_,h=>by simp at h
 |o' :: r,k,0,o,hs,h=>by
  obtain rfl:o'=o:=by simpa using h
  exact hs.1
 |o' :: r,k,i+1,o,hs,h=>by
  have:=dP.at hs.2 (i:=i) (o:=o) (by simpa using h)
  rwa [show k+1+i=k+(i+1) by omega]at this
end
theorem BB {n N:Nat}(hw:Well ops N n){a0:Act}(hN:a0.tmps.size=N){V:Nat->Value->World->Prop}{J:Array Bool->World->Prop}{G:Nat->World->World->Prop}
 (hJ:∀ k L w w',k<n->L.size=ops.size->dK .any ops L->(∀ o,ops[k]? =some o->∀ j,oQ o j=true->L.getD j false=true)->L.getD k false=false->J L w->G k w w'->J (L.setIfInBounds k true) w') (hV:∀ i j v w w',i<n->i≠j->Region.dJ .any ops i ops.size j=false->V j v w->G i w w'->V j v w')
 (hstep:∀ i o,ops[i]? =some o->i<n->wP P Q ops n V J G a0 i o)
 (hend:∀ a w L,J L w->(∀ j,j<n->L.getD j false=true)->a.defers=a0.defers->(∀ j t,j<n->aH ops j=some t->V j (a.eval (.tmp t)) w)->a=bA (fun j=>match aH ops j with|some t=>a.eval (.tmp t)|none=>undef) (ops.toList.take n) 0 a0->upto P ops Q n a w):
 ∀(fuel:Nat) (L:Array Bool) (a:Act) (w:World),unl ops L<=fuel->Inv V J ops n a0 L a w->wpAny P .any ops Q fuel L a w:=by
 have hdone:∀(L:Array Bool) (a:Act) (w:World),Inv V J ops n a0 L a w->Region.ready .any ops L=[]->Q .normal a w:=by
  intro L a w hI hr;have hall:=jy hI.lsize hw.edge hr
  have hsz:ops.size=n:=by
   rcases hw.size with h|⟨h,_⟩
   . exact h
   . have h1:=hall n (by omega)
     rw[hI.last n (Nat.le_refl _)]at h1;cases h1
  have:=(hend a w L hI.below (fun j hj=>hall j (by omega)) hI.defers (fun j t hj ht=>hI.has j t hj ht (hall j (by omega))) (lW hw hN hI.size hI.defers hI.frame)).out
  rw[Array.getElem?_eq_none (by omega)]at this
  exact this
 intro fuel
 induction fuel with
 |zero=>
  intro L a w hu hI
  have hall:∀ j,j<ops.size->L.getD j false=true:=by
   intro j hj;cases hL:L.getD j false with
   |true=>rfl
   |false=>
    have:0<unl ops L:=List.countP_pos_iff.2 ⟨j,List.mem_range.2 hj,by rw[di (by have:=hI.lsize;omega) true false,hL];rfl⟩
    omega
  have hr:=ja hI.lsize hall;exact⟨hr,hdone L a w hI hr⟩
 |succ fuel ih=>
  intro L a w hu hI;refine⟨hdone L a w hI,fun i hi=>?_⟩
  obtain⟨hiun,o,ho,hafter⟩:=mem_ready.1 hi;have hlt:=(Array.getElem?_eq_some_iff.1 ho).1;have hg:=hw.guard i o ho;have hunl:=lN hI.lsize hlt hiun;have hclosed:=hI.closed.set hi;unfold wpOp;rw[ho];simp only;have hwant:Region.wanted o (yielded ops a.tmps)=true:=by unfold Region.wanted;rw[hg]
  rw[if_pos hwant];left
  by_cases hin:i<n
  . refine hstep i o ho hin a w L (fun t ht=>fZ (hI.frame t (mZ ht))) (by rw[di (by have:=hI.lsize;omega) false true];exact hiun) hI.below hI.defers (fun j t hj=>?_) hI.closed (fun j hw'=>by obtain⟨e,he,hb',rfl⟩:=sS hw';exact hafter e he hb') _ (fun v w' hb hv=>?_)
    . obtain⟨⟨e,he,hb,rfl⟩,ht⟩:=jY hj;have:=hw.edge i o ho e he hb;exact hI.has _ t (by omega) ht (hafter e he hb)
    . refine ih _ _ _ (by omega) ⟨?_,?_,?_,?_,?_,hclosed,?_,?_⟩
      . rw[kP,hI.size]
      . rw[put_defers,hI.defers]
      . intro t ht;rw[iq _ _ _ _ (fun hd=>ht i hin (by unfold aH;rw[ho];exact hd)),hI.frame t ht]
      . intro j t hj ht hl
        by_cases hji:i=j
        . subst hji;have hd:o.dst=some t:=by unfold aH at ht;rw[ho]at ht;exact ht
          have htN:=hw.slot i t ht;rw[hd,jT (mo a t v (by rw[hI.size,hN];exact htN))]
          exact hv
        . rw[getD_set_ne false hji]at hl;have hd:o.dst≠some t:=fun hd=>hji (hw.apart i j t (by unfold aH;rw[ho];exact hd) ht)
          rw[fZ (iq a o.dst v t hd)];refine hV i j _ w w' hin hji ?_ (hI.has j t hj ht hl) hb;cases hrc:Region.dJ .any ops i ops.size j with
          |false=>rfl
          |true=>
           have h1:=Region.iM hI.closed _ _ hrc hl;rw[di (by have:=hI.lsize;omega) false true,hiun]at h1
           cases h1
      . exact hJ i L w w' hin hI.lsize hI.closed (fun o' ho' j hw'=>by rw[ho]at ho';injection ho' with ho';subst ho';obtain⟨e,he,hb',rfl⟩:=sS hw';exact hafter e he hb') (by rw[di (by have:=hI.lsize;omega) false true];exact hiun) hI.below hb
      . rw[Array.size_setIfInBounds,hI.lsize]
      . intro j hj;rw[getD_set_ne false (show i≠j by omega)]
        exact hI.last j hj
  . obtain⟨hsz,hreach⟩:ops.size=n+1/\∀ j,j<n->Region.dJ .any ops j ops.size n=true:=by
     rcases hw.size with h|h
     . omega
     . exact h
    have hni:i=n:=by omega
    subst hni;have hun0:L.getD i false=false:=hI.last i (Nat.le_refl _)
    have hall:∀ j,j<i->L.getD j false=true:=by
     intro j hj;cases hL:L.getD j false with
     |true=>rfl
     |false=>
      have:=Region.fV hI.closed (hreach j hj) (by rw[di (by have:=hI.lsize;omega) true false];exact hL)
      exact absurd hi this
    have hh:=(hend a w L hI.below hall hI.defers (fun j t hj ht=>hI.has j t hj ht (hall j hj)) (lW hw hN hI.size hI.defers hI.frame)).out
    rw[ho]at hh;refine Oper.wp_mono (fun a' w' hq=>?_) hh
    have hsz':(L.setIfInBounds i true).size=ops.size:=by rw[Array.size_setIfInBounds,hI.lsize]
    have hr:Region.ready .any ops (L.setIfInBounds i true)=[]:=ja hsz' (fun j hj=>by
     by_cases hji:i=j
     . subst hji;rw[Array.getD_eq_getD_getElem?,Array.getElem?_setIfInBounds_self_of_lt (by have:=hI.lsize;omega)]
       rfl
     . rw[getD_set_ne false hji]
       exact hall j (by omega))
    cases fuel with
    |zero=>exact⟨hr,hq⟩
    |succ f=>exact⟨fun _=>hq,by rw[hr];intro j hj;cases hj⟩
theorem weaveC {id:Nat}{a0:Act}{w0:World}(n N:Nat)(V:Nat->Value->World->Prop)(J:Array Bool->World->Prop)(G:Nat->World->World->Prop)(hm:P.follows .mixedOrders=true)(hN:a0.tmps.size=N)(hwell:rM ops N n=true)
 (hJ0:J (Array.replicate ops.size false) w0.drew) (hJ:∀ k L w w',k<n->L.size=ops.size->dK .any ops L->(∀ o,ops[k]? =some o->∀ j,oQ o j=true->L.getD j false=true)->L.getD k false=false->J L w->G k w w'->J (L.setIfInBounds k true) w') (hV:∀ i j v w w',i<n->i≠j->Region.dJ .any ops i ops.size j=false->V j v w->G i w w'->V j v w') (hstep:dP P Q ops n V J G a0 0 (ops.toList.take n))
 (hend:∀(vs:Nat->Value) w L,J L w->(∀ j,j<n->L.getD j false=true)->(∀ j t,j<n->aH ops j=some t->V j (vs j) w)->upto P ops Q n (bA vs (ops.toList.take n) 0 a0) w):
 (Code.region id ops true).wp P Q a0 w0:=by
 have hw:=uW hwell;refine wp_region_any hm (BB hw hN hJ hV (fun i o ho hi=>?_) (fun a w L hb hl _ hh he=>?_) _ _ _ _ ?_ ?_)
 . have h:=dP.at hstep (i:=i) (o:=o) (by rw[List.getElem?_take_of_lt hi,Array.getElem?_toList];exact ho)
   rwa [Nat.zero_add]at h
 . rw[he];refine hend _ w L hb hl (fun j t hj ht=>?_)
   simp only[ht];exact hh j t hj ht
 . unfold unl;refine Nat.le_trans List.countP_le_length ?_;rw[List.length_range];exact Nat.le_refl _
 . have hlf:∀ j,(Array.replicate ops.size false).getD j false=false:=fun j=>by
    rw[Array.getD_eq_getD_getElem?]
    by_cases h:j<ops.size
    . rw[Array.getElem?_eq_getElem (by rw[Array.size_replicate];exact h),Array.getElem_replicate];rfl
    . rw[Array.getElem?_eq_none (by rw[Array.size_replicate];omega)];rfl
   exact⟨rfl,rfl,fun _ _=>rfl,fun j t _ _ h=>by(rw[hlf]at h;cases h),hJ0,fun j o _ h=>by(rw[hlf]at h;cases h),by rw[Array.size_replicate],fun j _=>hlf j⟩
end
end
end Go.Proofs.YtglikkmmbdnmbaaGreat.Wv
namespace Go.Proofs.YtglikkmmbdnmbaaGreat.Im
open Go.RowKit Q7
open YtglikkmmbdnmbaaGreat.Own PCan Wv
set_option linter.unusedVariables false
set_option linter.unusedSimpArgs false
section
def GRS (F:Nat->Prop)(w:World)(g:Nat)(M':Gm)(w':World):Prop:=∃ F' x',GR F' w' g x' M'/\Kp F w w'/\∀ q,F' q->F q\/w.heap.size<=q
theorem GRS.refl {F:Nat->Prop}{w w':World}{g:Nat}{x:Rw}{M:Gm}(h:GR F w' g x M)(hb:Kp F w w'):GRS F w g M w':=⟨F,x,h,hb,fun _ h=>.inl h⟩
def kE (I:Nat->Prop)(B:Nat)(w:World)(v1 v2:Value)(t':LL):Prop:=∃ N:Nat->Prop,(∀ q,N q->B<=q/\q<w.heap.size)/\dZ (fun q=>I q\/N q) w v1 t'.1/\dZ (fun q=>I q\/N q) w v2 t'.2
theorem kE.below {I:Nat->Prop}{B:Nat}{w w':World}{v1 v2:Value}{t:LL}(h:kE I B w v1 v2 t)(hb:Below w.heap.size w w'):kE I B w' v1 v2 t:=by
 obtain⟨N,h1,h2,h3⟩:=h;exact⟨N,fun q hq=>⟨(h1 q hq).1,Nat.lt_of_lt_of_le (h1 q hq).2 hb.size⟩,h2.below hb,h3.below hb⟩
theorem kE.kV {I:Nat->Prop}{B:Nat}{w w':World}{v1 v2:Value}{t:LL}(h:oN I w w' v1 v2 t)(hB:B<=w.heap.size):kE I B w' v1 v2 t:=by
 obtain⟨_,N,h1,h2,h3⟩:=h;exact⟨N,fun q hq=>⟨Nat.le_trans hB (h1 q hq).1,(h1 q hq).2⟩,h2,h3⟩
def JS (n:Nat)(P R:World->Prop)(L:Array Bool)(w:World):Prop:=(L.getD n false=false->P w)/\(L.getD n false=true->R w)
def GS (n b:Nat)(R:World->Prop)(k:Nat)(w w':World):Prop:=(k≠n->Below w.heap.size w w')/\(k=n->R w'/\bH w w' b/\∃ cs,Holds w b 77 cs)
theorem JS.step {n b k:Nat}{P R:World->Prop}{L:Array Bool}{w w':World}(hP:∀ w w',P w->Below w.heap.size w w'->P w')(hR:∀ w w',R w->Below w.heap.size w w'->R w')(hk:k<L.size)(h:JS n P R L w)(hG:GS n b R k w w'):JS n P R (L.setIfInBounds k true) w':=by
 by_cases e:k=n
 . subst e
   have ht:(L.setIfInBounds k true).getD k false=true:=by
    rw[Array.getD_eq_getD_getElem?,Array.getElem?_setIfInBounds_self_of_lt hk];rfl
   exact⟨fun h=>(by rw[ht]at h;cases h),fun _=>(hG.2 rfl).1⟩
 . unfold JS;rw[getD_set_ne false e];exact⟨fun hl=>hP _ _ (h.1 hl) (hG.1 e),fun hl=>hR _ _ (h.2 hl) (hG.1 e)⟩
theorem GRS.below {F:Nat->Prop}{w w1 w2:World}{g:Nat}{M:Gm}(h:GRS F w g M w1)(hb:Below w1.heap.size w1 w2):GRS F w g M w2:=by
 obtain⟨F',x',h1,h2,h3⟩:=h;exact⟨F',x',h1.below hb,h2.trans (bX (fun _=>False) hb) (fun q _ e=>e.elim),h3⟩
theorem dZ.other {I:Nat->Prop}{w w':World}{v:Value}{l:List Int}{b t:Nat}{cs:List Value}(h:dZ I w v l)(hc:Holds w b t cs)(ht:t≠3)(hs:bH w w' b):dZ I w' v l:=h.keep (fun q cs2 _ hq=>hs.holds hq (eH hq hc (fun e=>ht e.symm)))
theorem kE.other {I:Nat->Prop}{B b t:Nat}{w w':World}{v1 v2:Value}{tt:LL}{cs:List Value}(h:kE I B w v1 v2 tt)(hc:Holds w b t cs)(ht:t≠3)(hs:bH w w' b):kE I B w' v1 v2 tt:=by
 obtain⟨N,h1,h2,h3⟩:=h;exact⟨N,fun q hq=>⟨(h1 q hq).1,by rw[hs.size];exact(h1 q hq).2⟩,h2.other hc ht hs,h3.other hc ht hs⟩
section
variable {o:Oper} {a:Act} {W:World}
theorem iE {x:Operand}{g i:Nat}(hi:i<3)(ho:o.op=.fieldAddr 76 x i)(hx:a.eval x=.pointer (some ⟨g,0,none⟩)):(execOp a.eval o).run Tryz.prog W=.ok (.value (.pointer (some ⟨g,i,none⟩))) W:=by
 have hu:=Tryz.underlying76
 match i,hi with
 |0,_|1,_|2,_=>
  unfold execOp;simp only[ho,hx]
  go_simp
theorem jd {x:Operand}{p:Addr}{v:Value}(ho:o.op=.load 73 x)(hx:a.eval x=.pointer (some p))(hc:W.cell? p=some v):(execOp a.eval o).run Tryz.prog W=.ok (.value v) W:=by
 unfold execOp;simp only[ho,hx]
 go_simp
theorem oJ {x:Operand}{p:Addr}{v:Value}(ho:o.op=.load 74 x)(hx:a.eval x=.pointer (some p))(hc:W.cell? p=some v):(execOp a.eval o).run Tryz.prog W=.ok (.value v) W:=by
 unfold execOp;simp only[ho,hx]
 go_simp
theorem kr {x y:Operand}{b n c k:Nat}(ho:o.op=.indexAddr 73 x y)(hx:a.eval x=.slice (some ⟨b,0,none⟩) n c)(hy:a.eval y=.int .i64 (k:Int))(hk:k<n):(execOp a.eval o).run Tryz.prog W=.ok (.value (.pointer (some ⟨b,k*2,none⟩))) W:=by
 have h1:(0:Int)<=(k:Int):=by omega
 have h2:(k:Int)<(n:Int):=by omega
 generalize a.eval=E at hx hy ⊢;unfold execOp;simp only[ho,hx,hy]
 go_simp
theorem yz {x:Operand}{g off:Nat}{cs:List Value}{v1 v2:Value}(ho:o.op=.load 77 x)(hx:a.eval x=.pointer (some ⟨g,off,none⟩))(hh:Holds W g 77 cs)(h1:cs[off]? =some v1)(h2:cs[off+1]? =some v2):(execOp a.eval o).run Tryz.prog W=.ok (.value (.agg #[v1,v2])) W:=by
 have hseg:(cs.drop off).take [v1,v2].length=[v1,v2]:=by
  obtain⟨l1,e1⟩:=List.getElem?_eq_some_iff.1 h1;obtain⟨l2,e2⟩:=List.getElem?_eq_some_iff.1 h2;rw[List.drop_eq_getElem_cons l1,List.drop_eq_getElem_cons l2,e1,e2];rfl
 unfold execOp;simp only[ho,hx,lu (ty:=77) (off:=off) hh hseg Tryz.underlying77 rfl dm,Sem.run_bind,Sem.run_pure,Result.andThen_ok]
theorem qQ {x:Operand}{i:Nat}{vs:Array Value}{v:Value}(ho:o.op=.extract x i)(hx:a.eval x=.tuple vs)(hv:vs[i]? =some v):(execOp a.eval o).run Tryz.prog W=.ok (.value v) W:=by
 unfold execOp;simp only[ho,hx];simp [go_sem,hv]
end
def oM (I:Nat->Prop)(B g bT n c k j:Nat)(y:Int)(v1 v2:Value)(t':LL):Nat->Value->World->Prop
 |0,v,_=>v=.pointer (some ⟨g,0,none⟩)
 |1,v,_=>v=.pointer (some ⟨g,0,none⟩)
 |2,v,_=>v=.pointer (some ⟨g,0,none⟩)
 |3,v,_=>v=.slice (some ⟨bT,0,none⟩) n c
 |4,v,_=>v=.int .i64 (k:Int)
 |5,v,_=>v=.pointer (some ⟨g,0,none⟩)
 |6,v,_=>v=.pointer (some ⟨g,0,none⟩)
 |7,v,_=>v=.pointer (some ⟨g,0,none⟩)
 |8,v,_=>v=.slice (some ⟨bT,0,none⟩) n c
 |9,v,_=>v=.int .i64 (k:Int)
 |10,v,_=>v=.pointer (some ⟨bT,k*2,none⟩)
 |11,v,_=>v=.agg #[v1,v2]
 |12,v,_=>v=.int .i64 (j:Int)
 |13,v,_=>v=.int .i64 y
 |14,v,w=>∃ u1 u2,v=.tuple #[.agg #[u1,u2],.int .i64 0]/\kE I B w u1 u2 t'
 |15,v,w=>∃ u1 u2,v=.tuple #[.agg #[u1,u2],.int .i64 0]/\kE I B w u1 u2 t'
 |16,v,w=>∃ u1 u2,v=.agg #[u1,u2]/\kE I B w u1 u2 t'
 |18,v,_=>v=.pointer (some ⟨bT,k*2,none⟩)
 |_,_,_=>True
theorem Aj (I:Nat->Prop)(B g bT n c k j:Nat)(y:Int)(v1 v2:Value)(t':LL)(i:Nat)(v:Value)(w w':World)(h:oM I B g bT n c k j y v1 v2 t' i v w)(hb:Below w.heap.size w w'):oM I B g bT n c k j y v1 v2 t' i v w':=by
 unfold oM at h ⊢
 split at h<;>first|exact h|(obtain⟨u1,u2,h1,h2⟩:=h;exact⟨u1,u2,h1,h2.below hb⟩)|trivial
theorem Bj {I:Nat->Prop}{B g bT n c k j:Nat}{y:Int}{v1 v2:Value}{t':LL}{i b:Nat}{v:Value}{w w':World}{cs:List Value}(h:oM I B g bT n c k j y v1 v2 t' i v w)(hc:Holds w b 77 cs)(hs:bH w w' b):oM I B g bT n c k j y v1 v2 t' i v w':=by
 unfold oM at h ⊢
 split at h<;>first|exact h|(obtain⟨u1,u2,h1,h2⟩:=h;exact⟨u1,u2,h1,h2.other hc (by decide) hs⟩)|trivial
section
variable {F:Nat→Prop} {w:World} {g:Nat} {x:Rw} {M:Gm}
theorem r69 (h:GR F w g x M)(t i y:Int)(hs:(bV M t i).isSome=true)(hy:0<=y/\y<=(M.O.length:Int)):
 Calls Tryz.prog 69 #[.pointer (some ⟨g,0,none⟩),.int .i64 t,.int .i64 i,.int .i64 y] w fun e w'=>e=.returned (.tuple #[])/\GRS F w g (iA M t i y) w':=by
 obtain⟨y0,hs'⟩:=Option.isSome_iff_exists.1 hs;clear hs;unfold bV at hs';cases ht:atI M.T t with
 |none=>rw[ht]at hs';cases hs'
 |some th=>
  rw[ht]at hs';obtain⟨k,rfl,hk,hlt⟩:=dC ht;obtain⟨j,rfl,hj,hjl⟩:=dC (show atI th.1 i=some y0 from hs')
  obtain⟨p,A0,A1,c0,c1,hp,rfl,_,_,r1,r2,hok⟩:=h.thr hk;obtain⟨cs,hcs,hat⟩:=h.hT;have HG:=Y h;have HCS:=Y (And.intro hcs hat);have HK:=Y (And.intro hlt (hat k _ hp));have HKK:=Y hk;have HY:=Y hy
  have HLC:=Y (show k*2+2<=cs.length by
   have:=(List.getElem?_eq_some_iff.1 (hat k _ hp).2).1
   omega)
  have HW:=Y (fun w1 (hb:Below w.heap.size w w1)=>r96 (I:=x.I) A0 th.1.length c0 A1 th.2.length c1 th (r1.below hb) (r2.below hb) hok.s8 hok.k j hjl y hy.1)
  have q3:(0:Int)<=(k:Int):=by omega
  have q4:(k:Int)<(M.T.length:Int):=by omega
  clear hs' ht hk hj hp r1 r2 hok h hlt hjl hcs hat hy;go_enter Tryz.func69,Tryz.ntmps69;refine weaveC 20 27 (oM x.I w.heap.size g x.bT M.T.length x.cT k j y (.slice A0 th.1.length c0) (.slice A1 th.2.length c1) (th.1.set j y,th.2)) (JS 19 (Below w.heap.size w) (GRS F w g (iA M (k:Int) (j:Int) y))) (GS 19 x.bT (GRS F w g (iA M (k:Int) (j:Int) y))) (by kernel_rfl) (by rfl) (by kernel_rfl) ?j0 ?jj ?vv ?st ?en
  case j0=>exact⟨fun _=>bv zc,fun h=>(by cases h)⟩
  case jj=>exact fun k1 L1 w1 w2 hk1 hL hcl hrd hk0 hJ hG=>JS.step (fun w1 w2 h hb=>ag h h.size hb) (fun w1 w2 h hb=>h.below hb) (by rw[hL];exact hk1) hJ hG
  case vv=>
   intro i j v w1 w2 hi hij _ h hG
   by_cases e:i=19
   . obtain⟨_,hs,cs,hc⟩:=hG.2 e;exact Bj h hc hs
   . exact Aj _ _ _ _ _ _ _ _ _ _ _ _ j v w1 w2 h (hG.1 e)
  case st=>
   refine dP.cons (fun a w1 L1 fr hL hj hdf hd hcl hrd K hK=>?_) ?_
   . have hb:Below w.heap.size w w1:=hj.1 (by cases h19:L1.getD 19 false with|false=>rfl|true=>exact absurd (fe hcl (j:=19) (i:=0) rfl (by kernel_rfl) h19) (by rw[hL];simp))
     exact af (aC rfl ((fr 0 (by kernel_rfl)).trans rfl)) (hK _ _ ⟨fun _=>zc,fun h=>(by cases h)⟩ rfl)
   refine dP.cons (fun a w1 L1 fr hL hj hdf hd hcl hrd K hK=>?_) ?_
   . have hb:Below w.heap.size w w1:=hj.1 (by cases h19:L1.getD 19 false with|false=>rfl|true=>exact absurd (fe hcl (j:=19) (i:=1) rfl (by kernel_rfl) h19) (by rw[hL];simp))
     exact af (bZ rfl (hd 0 9 (by kernel_rfl))) (hK _ _ ⟨fun _=>zc,fun h=>(by cases h)⟩ rfl)
   refine dP.cons (fun a w1 L1 fr hL hj hdf hd hcl hrd K hK=>?_) ?_
   . have hb:Below w.heap.size w w1:=hj.1 (by cases h19:L1.getD 19 false with|false=>rfl|true=>exact absurd (fe hcl (j:=19) (i:=2) rfl (by kernel_rfl) h19) (by rw[hL];simp))
     exact af (iE (i:=0) (by decide) rfl (hd 1 10 (by kernel_rfl))) (hK _ _ ⟨fun _=>zc,fun h=>(by cases h)⟩ rfl)
   refine dP.cons (fun a w1 L1 fr hL hj hdf hd hcl hrd K hK=>?_) ?_
   . have hb:Below w.heap.size w w1:=hj.1 (by cases h19:L1.getD 19 false with|false=>rfl|true=>exact absurd (fe hcl (j:=19) (i:=3) rfl (by kernel_rfl) h19) (by rw[hL];simp))
     exact af (jd rfl (hd 2 11 (by kernel_rfl)) (((HG.out.hg.below hb).cell 0).trans rfl)) (hK _ _ ⟨fun _=>zc,fun h=>(by cases h)⟩ rfl)
   refine dP.cons (fun a w1 L1 fr hL hj hdf hd hcl hrd K hK=>?_) ?_
   . have hb:Below w.heap.size w w1:=hj.1 (by cases h19:L1.getD 19 false with|false=>rfl|true=>exact absurd (fe hcl (j:=19) (i:=4) rfl (by kernel_rfl) h19) (by rw[hL];simp))
     exact af (aC rfl ((fr 1 (by kernel_rfl)).trans rfl)) (hK _ _ ⟨fun _=>zc,fun h=>(by cases h)⟩ rfl)
   refine dP.cons (fun a w1 L1 fr hL hj hdf hd hcl hrd K hK=>?_) ?_
   . have hb:Below w.heap.size w w1:=hj.1 (by cases h19:L1.getD 19 false with|false=>rfl|true=>exact absurd (fe hcl (j:=19) (i:=5) rfl (by kernel_rfl) h19) (by rw[hL];simp))
     exact af (aC rfl ((fr 0 (by kernel_rfl)).trans rfl)) (hK _ _ ⟨fun _=>zc,fun h=>(by cases h)⟩ rfl)
   refine dP.cons (fun a w1 L1 fr hL hj hdf hd hcl hrd K hK=>?_) ?_
   . have hb:Below w.heap.size w w1:=hj.1 (by cases h19:L1.getD 19 false with|false=>rfl|true=>exact absurd (fe hcl (j:=19) (i:=6) rfl (by kernel_rfl) h19) (by rw[hL];simp))
     exact af (bZ rfl (hd 5 14 (by kernel_rfl))) (hK _ _ ⟨fun _=>zc,fun h=>(by cases h)⟩ rfl)
   refine dP.cons (fun a w1 L1 fr hL hj hdf hd hcl hrd K hK=>?_) ?_
   . have hb:Below w.heap.size w w1:=hj.1 (by cases h19:L1.getD 19 false with|false=>rfl|true=>exact absurd (fe hcl (j:=19) (i:=7) rfl (by kernel_rfl) h19) (by rw[hL];simp))
     exact af (iE (i:=0) (by decide) rfl (hd 6 15 (by kernel_rfl))) (hK _ _ ⟨fun _=>zc,fun h=>(by cases h)⟩ rfl)
   refine dP.cons (fun a w1 L1 fr hL hj hdf hd hcl hrd K hK=>?_) ?_
   . have hb:Below w.heap.size w w1:=hj.1 (by cases h19:L1.getD 19 false with|false=>rfl|true=>exact absurd (fe hcl (j:=19) (i:=8) rfl (by kernel_rfl) h19) (by rw[hL];simp))
     exact af (jd rfl (hd 7 16 (by kernel_rfl)) (((HG.out.hg.below hb).cell 0).trans rfl)) (hK _ _ ⟨fun _=>zc,fun h=>(by cases h)⟩ rfl)
   refine dP.cons (fun a w1 L1 fr hL hj hdf hd hcl hrd K hK=>?_) ?_
   . have hb:Below w.heap.size w w1:=hj.1 (by cases h19:L1.getD 19 false with|false=>rfl|true=>exact absurd (fe hcl (j:=19) (i:=9) rfl (by kernel_rfl) h19) (by rw[hL];simp))
     exact af (aC rfl ((fr 1 (by kernel_rfl)).trans rfl)) (hK _ _ ⟨fun _=>zc,fun h=>(by cases h)⟩ rfl)
   refine dP.cons (fun a w1 L1 fr hL hj hdf hd hcl hrd K hK=>?_) ?_
   . have hb:Below w.heap.size w w1:=hj.1 (by cases h19:L1.getD 19 false with|false=>rfl|true=>exact absurd (fe hcl (j:=19) (i:=10) rfl (by kernel_rfl) h19) (by rw[hL];simp))
     exact af (kr rfl (hd 8 17 (by kernel_rfl)) (hd 9 18 (by kernel_rfl)) HK.out.1) (hK _ _ ⟨fun _=>zc,fun h=>(by cases h)⟩ rfl)
   refine dP.cons (fun a w1 L1 fr hL hj hdf hd hcl hrd K hK=>?_) ?_
   . have hb:Below w.heap.size w w1:=hj.1 (by cases h19:L1.getD 19 false with|false=>rfl|true=>exact absurd (fe hcl (j:=19) (i:=11) rfl (by kernel_rfl) h19) (by rw[hL];simp))
     exact af (yz rfl (hd 10 19 (by kernel_rfl)) (HCS.out.1.below hb) HK.out.2.1 HK.out.2.2) (hK _ _ ⟨fun _=>zc,fun h=>(by cases h)⟩ rfl)
   refine dP.cons (fun a w1 L1 fr hL hj hdf hd hcl hrd K hK=>?_) ?_
   . have hb:Below w.heap.size w w1:=hj.1 (by cases h19:L1.getD 19 false with|false=>rfl|true=>exact absurd (fe hcl (j:=19) (i:=12) rfl (by kernel_rfl) h19) (by rw[hL];simp))
     exact af (aC rfl ((fr 2 (by kernel_rfl)).trans rfl)) (hK _ _ ⟨fun _=>zc,fun h=>(by cases h)⟩ rfl)
   refine dP.cons (fun a w1 L1 fr hL hj hdf hd hcl hrd K hK=>?_) ?_
   . have hb:Below w.heap.size w w1:=hj.1 (by cases h19:L1.getD 19 false with|false=>rfl|true=>exact absurd (fe hcl (j:=19) (i:=13) rfl (by kernel_rfl) h19) (by rw[hL];simp))
     exact af (aC rfl ((fr 3 (by kernel_rfl)).trans rfl)) (hK _ _ ⟨fun _=>zc,fun h=>(by cases h)⟩ rfl)
   refine dP.cons (fun a w1 L1 fr hL hj hdf hd hcl hrd K hK=>?_) ?_
   . have hb:Below w.heap.size w w1:=hj.1 (by cases h19:L1.getD 19 false with|false=>rfl|true=>exact absurd (fe hcl (j:=19) (i:=14) rfl (by kernel_rfl) h19) (by rw[hL];simp))
     have e1:a.eval (.tmp 20)=.agg #[.slice A0 th.1.length c0,.slice A1 th.2.length c1]:=(hd 11 20 (by kernel_rfl))
     have e2:a.eval (.tmp 21)=.int .i64 (j:Int):=(hd 12 21 (by kernel_rfl))
     have e3:a.eval (.tmp 22)=.int .i64 y:=(hd 13 22 (by kernel_rfl))
     refine ek Tryz.func96 (by kernel_rfl) rfl #[.agg #[.slice A0 th.1.length c0,.slice A1 th.2.length c1],.int .i64 (j:Int),.int .i64 y] rfl (by simp only[List.map_toArray,List.map_cons,List.map_nil,e1,e2,e3]) ?_
     refine(HW.out w1 hb).mono ?_;rintro e w2 ⟨u1,u2,rfl,hn⟩;exact⟨_,rfl,hK _ _ ⟨fun _=>hn.1,fun h=>(by cases h)⟩ (show oM _ _ _ _ _ _ _ _ _ _ _ _ 14 _ _ from⟨u1,u2,rfl,kE.kV hn hb.size⟩)⟩
   refine dP.cons (fun a w1 L1 fr hL hj hdf hd hcl hrd K hK=>?_) ?_
   . have e1:∃ u1 u2,a.eval (.tmp 23)=.tuple #[.agg #[u1,u2],.int .i64 0]/\kE x.I w.heap.size w1 u1 u2 (th.1.set j y,th.2):=(hd 14 23 (by kernel_rfl))
     obtain⟨u1,u2,e2,e3⟩:=e1;exact af (aC rfl e2) (hK _ _ ⟨fun _=>zc,fun h=>(by cases h)⟩ (show oM _ _ _ _ _ _ _ _ _ _ _ _ 15 _ _ from⟨u1,u2,rfl,e3⟩))
   refine dP.cons (fun a w1 L1 fr hL hj hdf hd hcl hrd K hK=>?_) ?_
   . have e1:∃ u1 u2,a.eval (.tmp 8)=.tuple #[.agg #[u1,u2],.int .i64 0]/\kE x.I w.heap.size w1 u1 u2 (th.1.set j y,th.2):=(hd 15 8 (by kernel_rfl))
     obtain⟨u1,u2,e2,e3⟩:=e1;exact af (qQ rfl e2 rfl) (hK _ _ ⟨fun _=>zc,fun h=>(by cases h)⟩ (show oM _ _ _ _ _ _ _ _ _ _ _ _ 16 _ _ from⟨u1,u2,rfl,e3⟩))
   refine dP.cons (fun a w1 L1 fr hL hj hdf hd hcl hrd K hK=>?_) ?_
   . have e1:∃ u1 u2,a.eval (.tmp 8)=.tuple #[.agg #[u1,u2],.int .i64 0]/\kE x.I w.heap.size w1 u1 u2 (th.1.set j y,th.2):=(hd 15 8 (by kernel_rfl))
     obtain⟨u1,u2,e2,e3⟩:=e1;exact af (qQ rfl e2 rfl) (hK _ _ ⟨fun _=>zc,fun h=>(by cases h)⟩ trivial)
   refine dP.cons (fun a w1 L1 fr hL hj hdf hd hcl hrd K hK=>?_) ?_
   . have hb:Below w.heap.size w w1:=hj.1 (by cases h19:L1.getD 19 false with|false=>rfl|true=>exact absurd (fe hcl (j:=19) (i:=18) rfl (by kernel_rfl) h19) (by rw[hL];simp))
     exact af (kr rfl (hd 3 12 (by kernel_rfl)) (hd 4 13 (by kernel_rfl)) HK.out.1) (hK _ _ ⟨fun _=>zc,fun h=>(by cases h)⟩ rfl)
   refine dP.cons (fun a w1 L1 fr hL hj hdf hd hcl hrd K hK=>?_) ?_
   . have hb:Below w.heap.size w w1:=hj.1 hL;have e18:a.eval (.tmp 26)=.pointer (some ⟨x.bT,k*2,none⟩):=(hd 18 26 (by kernel_rfl))
     have e1:∃ u1 u2,a.eval (.tmp 24)=.agg #[u1,u2]/\kE x.I w.heap.size w1 u1 u2 (th.1.set j y,th.2):=(hd 16 24 (by kernel_rfl))
     obtain⟨u1,u2,e2,N,n1,n2,n3⟩:=e1;have o1:u1.oneCell'=true:=by(obtain⟨A,c,e,_⟩:=n2;rw[e];rfl)
     have o2:u2.oneCell'=true:=by(obtain⟨A,c,e,_⟩:=n3;rw[e];rfl)
     have hc6:=HCS.out.1.below hb;have hs5:=dR w1 x.bT (k*2) [u1,u2];have hh5:=eX (vs:=[u1,u2]) hc6 HLC.out;refine Wv.wp_skip rfl (lC rfl e18 e2 hc6 HLC.out dm (by simp[o1,o2])) (hK undef _ ⟨fun h=>absurd rfl h,fun _=>⟨?_,hs5,cs,hc6⟩⟩ trivial)
     refine⟨_,_,(HG.out.below hb).setT (cs':=[]) (k:=k) (p':=(u1,u2)) (t':=(th.1.set j y,th.2)) (N:=N) HK.out.1 hc6 HCS.out.2 hs5 hh5 (fun q hq=>⟨(n1 q hq).2,fun hf=>?_⟩) n2 n3 (fun i=>gD M.T _ k i HKK.out) (List.length_modify ..) rfl rfl (HG.out.wf.vw _ _ HY.out),?_,fun q hq=>?_⟩
     . have:=HG.out.lt q hf;have:=(n1 q hq).1;omega
     . exact(bX F hb).trans (bR hs5) (fun q _ e=>by rw[e];exact HG.out.fp.2.1)
     . exact hq.elim .inl (fun e=>.inr (n1 q e).1)
   exact dP.nil
  case en=>
   intro vs w6 L1 hJ hl hv;have HF:=Y (hJ.2 (hl 19 (by decide)))
   refine Ca rfl ?_;clear hv hl hJ;exact⟨rfl,_,results_none rfl _ _ _,rfl,HF.out⟩
end
end
section
theorem GRS.same {F:Nat->Prop}{w:World}{g:Nat}{x:Rw}{M:Gm}(h:GR F w g x M):GRS F w g M w:=.refl h (Kp.refl F w)
section
variable {F:Nat→Prop} {w:World} {g:Nat} {x:Rw} {M:Gm}
theorem Ba (h:GR F w g x M)(t d:Int):
 Calls Tryz.prog 39 #[.pointer (some ⟨g,0,none⟩),.int .i64 t,.int .i64 d] w fun e w'=>e=.returned (.int .i64 (il M t d).2.2)/\GRS F w g (il M t d).1 w':=by
 have HG:=Y h;cases hs:bV M t d with
 |none=>
  rw[show il M t d=(M,0,2) by unfold il;rw[hs]]
  have HA:=Y (jS h t d hs);clear h hs;go_enter Tryz.func39,Tryz.ntmps39;go_wp2_with (go_at_call 42;refine HA.out.mono ?_;rintro e w2 ⟨rfl,hw2⟩;subst w2)
  go_ret
  exact⟨rfl,GRS.same HG.out⟩
 |some y=>
  rw[show il M t d=(iA M t d 0,0,0) by unfold il;rw[hs]]
  have HA:=Y (jG h t d y hs);have HC:=Y (r69 h t d 0 (by rw[hs];rfl) (by omega))
  clear h hs;go_enter Tryz.func39,Tryz.ntmps39;go_wp2_with (first|(go_at_call 42;refine HA.out.mono ?_;rintro e w2 ⟨rfl,hw2⟩;subst w2)|(go_at_call 69;refine HC.out.mono ?_;rintro e w3 ⟨rfl,hg3⟩;have HG3:=Y hg3;clear hg3))
  go_ret
  exact⟨rfl,HG3.out⟩
theorem CW (h:GR F w g x M)(t d s:Int):
 Calls Tryz.prog 38 #[.pointer (some ⟨g,0,none⟩),.int .i64 t,.int .i64 d,.int .i64 s] w fun e w'=>e=.returned (.int .i64 (moveF M t d s).2.2)/\GRS F w g (moveF M t d s).1 w':=by
 have HG:=Y h;cases hs:bV M t d with
 |none=>
  rw[show moveF M t d s=(M,0,2) by unfold moveF;rw[hs]]
  have HA:=Y (jS h t d hs);cases hs2:bV M t s with
  |none=>
   have HB:=Y (jS h t s hs2);clear h hs hs2;go_enter Tryz.func38,Tryz.ntmps38;go_upto_region 2 with(go_at_call 42;refine HA.out.mono ?_;rintro e w2 ⟨rfl,hw2⟩;subst w2)
   go_wp2_with (go_at_call 42;refine HB.out.mono ?_;rintro e w2 ⟨rfl,hw2⟩;subst w2)
   go_ret
   exact⟨rfl,GRS.same HG.out⟩
  |some z=>
   have HB:=Y (jG h t s z hs2);clear h hs hs2;go_enter Tryz.func38,Tryz.ntmps38;go_upto_region 2 with(go_at_call 42;refine HA.out.mono ?_;rintro e w2 ⟨rfl,hw2⟩;subst w2)
   go_wp2_with (go_at_call 42;refine HB.out.mono ?_;rintro e w2 ⟨rfl,hw2⟩;subst w2)
   go_ret
   exact⟨rfl,GRS.same HG.out⟩
 |some y=>
  have HA:=Y (jG h t d y hs);cases hs2:bV M t s with
  |none=>
   rw[show moveF M t d s=(M,0,2) by unfold moveF;rw[hs];simp only[];rw[hs2]]
   have HB:=Y (jS h t s hs2);clear h hs hs2;go_enter Tryz.func38,Tryz.ntmps38;go_upto_region 2 with(go_at_call 42;refine HA.out.mono ?_;rintro e w2 ⟨rfl,hw2⟩;subst w2)
   go_wp2_with (go_at_call 42;refine HB.out.mono ?_;rintro e w2 ⟨rfl,hw2⟩;subst w2)
   go_ret
   exact⟨rfl,GRS.same HG.out⟩
  |some z=>
   rw[show moveF M t d s=(iA M t d z,0,0) by unfold moveF;rw[hs];simp only[];rw[hs2]]
   have HB:=Y (jG h t s z hs2);have HC:=Y (r69 h t d z (by rw[hs];rfl) (h.wf.slot hs2))
   clear h hs hs2;go_enter Tryz.func38,Tryz.ntmps38;go_upto_region 2 with(go_at_call 42;refine HA.out.mono ?_;rintro e w2 ⟨rfl,hw2⟩;subst w2)
   go_wp2_with (first|(go_at_call 42;refine HB.out.mono ?_;rintro e w2 ⟨rfl,hw2⟩;subst w2)|(go_at_call 69;refine HC.out.mono ?_;rintro e w3 ⟨rfl,hg3⟩;have HG3:=Y hg3;clear hg3))
   go_ret
   exact⟨rfl,HG3.out⟩
theorem BZ (h:GR F w g x M)(t o k:Int):
 Calls Tryz.prog 34 #[.pointer (some ⟨g,0,none⟩),.int .i64 t,.int .i64 o,.int .i64 k] w fun e w'=>e=.returned (.tuple #[.int .u64 (bW M t o k).2.1,.int .i64 (bW M t o k).2.2])/\GRS F w g (bW M t o k).1 w':=by
 have HG:=Y h;cases hs:mM M t o k with
 |error e=>
  rw[show bW M t o k=(M,0,e) by unfold bW;rw[hs]]
  have HA:=Y (Df h t o k e hs)
  have he:e=2\/e=5:=by
   rcases qb hs with h1|⟨_,_,h1,_⟩
   . rcases jU h1 with⟨_,h1⟩|⟨_,h1⟩
     . exact .inl h1
     . exact .inr h1
   . exact .inl h1
  rcases he with rfl|rfl
  . skip
    clear h hs;go_enter Tryz.func34,Tryz.ntmps34;go_wp2_with (go_at_call 71;refine HA.out.mono ?_;rintro e w2 ⟨⟨m,rfl⟩,hw2⟩;subst w2)
    go_ret2
    exact⟨rfl,GRS.same HG.out⟩
  . skip
    clear h hs;go_enter Tryz.func34,Tryz.ntmps34;go_wp2_with (go_at_call 71;refine HA.out.mono ?_;rintro e w2 ⟨⟨m,rfl⟩,hw2⟩;subst w2)
    go_ret2
    exact⟨rfl,GRS.same HG.out⟩
 |ok b=>
  rw[show bW M t o k=(M,(bf M b).getD k.toNat 0,0) by unfold bW;rw[hs]]
  obtain⟨hs2,n,rfl,hn⟩:=rA hs;have HA:=Y (CS h t o n b hs2 hn);have hol:=fK h.wf hs2;obtain⟨q,bO,cO,hv,hp,_,xr,xd,h2,h3,hok⟩:=h.obj hol;have x2:=h.x2;rw[hv]at x2;have q3:(0:Int)<=(b:Int):=by omega
  have q4:(b:Int)<(M.O.length:Int):=by omega
  have q5:(0:Int)<=(n:Int):=by omega
  have q6:(n:Int)<((bf M b).length:Int):=by omega
  have x5:w.cell? ⟨q.d,n,none⟩=some (.int .u64 ((bf M b).getD ((n:Int).toNat) 0)):=(h3.cell n).trans (by rw[Int.toNat_natCast,List.getElem?_map,List.getElem?_eq_getElem hn,List.getD_eq_getElem?_getD,List.getElem?_eq_getElem hn];rfl)
  generalize (bf M b).getD ((n:Int).toNat) 0=y at x5 ⊢;clear h hs hs2 hn hol hp h2 h3 hok hv;go_enter Tryz.func34,Tryz.ntmps34;go_wp2_with (go_at_call 71;refine HA.out.mono ?_;rintro e w2 ⟨rfl,hw2⟩;subst w2)
  go_ret2
  exact⟨rfl,GRS.same HG.out⟩
theorem Bi (h:GR F w g x M)(t o k v:Int)(hv0:(Lit.int .u64 v).wf=true):
 Calls Tryz.prog 35 #[.pointer (some ⟨g,0,none⟩),.int .i64 t,.int .i64 o,.int .i64 k,.int .u64 v] w fun e w'=>e=.returned (.int .i64 (dM M t o k v).2.2)/\GRS F w g (dM M t o k v).1 w':=by
 have HG:=Y h;cases hs:mM M t o k with
 |error e=>
  rw[show dM M t o k v=(M,0,e) by unfold dM;rw[hs]]
  have HA:=Y (Df h t o k e hs)
  have he:e=2\/e=5:=by
   rcases qb hs with h1|⟨_,_,h1,_⟩
   . rcases jU h1 with⟨_,h1⟩|⟨_,h1⟩
     . exact .inl h1
     . exact .inr h1
   . exact .inl h1
  rcases he with rfl|rfl
  . skip
    clear h hs hv0;go_enter Tryz.func35,Tryz.ntmps35;go_wp2_with (go_at_call 71;refine HA.out.mono ?_;rintro e w2 ⟨⟨m,rfl⟩,hw2⟩;subst w2)
    go_ret
    exact⟨rfl,GRS.same HG.out⟩
  . skip
    clear h hs hv0;go_enter Tryz.func35,Tryz.ntmps35;go_wp2_with (go_at_call 71;refine HA.out.mono ?_;rintro e w2 ⟨⟨m,rfl⟩,hw2⟩;subst w2)
    go_ret
    exact⟨rfl,GRS.same HG.out⟩
 |ok b=>
  rw[show dM M t o k v=(ik M b k.toNat v,0,0) by unfold dM;rw[hs]]
  obtain⟨hs2,n,rfl,hn⟩:=rA hs;have HA:=Y (CS h t o n b hs2 hn);have hol:=fK h.wf hs2;obtain⟨q,bO,cO,hv,hp,_,xr,xd,h2,h3,hok⟩:=h.obj hol;have x2:=h.x2;rw[hv]at x2;have q3:(0:Int)<=(b:Int):=by omega
  have q4:(b:Int)<(M.O.length:Int):=by omega
  have q5:(0:Int)<=(n:Int):=by omega
  have q6:(n:Int)<((bf M b).length:Int):=by omega
  rw[show((n:Int)).toNat=n from rfl]
  have HS:=Y (h.ik hp hn hv0);have HK:=Y ((bR (bu w q.d n (.int .u64 v))).mono (S':=F) (fun q' _ e=>by rw[e];exact(h.fp.2.2.2.2 q (List.mem_iff_getElem?.2 ⟨_,hp⟩)).2))
  have x5:=(h3.cell n).trans (show _=some (.int .u64 ((bf M b)[n]'hn)) by rw[List.getElem?_map,List.getElem?_eq_getElem hn];rfl)
  generalize (bf M b)[n]'hn=yo at x5;have x6:=ak h3 n;clear h hs hs2 hn hol hp h2 h3 hok hv hv0;go_enter Tryz.func35,Tryz.ntmps35;go_wp2_with (go_at_call 71;refine HA.out.mono ?_;rintro e w2 ⟨rfl,hw2⟩;subst w2)
  go_ret
  exact⟨rfl,.refl HS.out HK.out⟩
theorem EE (h:GR F w g x M)(t d i:Int):
 Calls Tryz.prog 36 #[.pointer (some ⟨g,0,none⟩),.int .i64 t,.int .i64 d,.int .i64 i] w fun e w'=>e=.returned (.tuple #[.int .i64 (iP M t d i).2.1,.int .i64 (iP M t d i).2.2])/\GRS F w g (iP M t d i).1 w':=by
 have HG:=Y h;have x1:=h.x1;cases hs:bV M t d with
 |none=>
  rw[show iP M t d i=(M,0,2) by unfold iP;rw[hs]]
  have HA:=Y (jS h t d hs);clear h hs;go_enter Tryz.func36,Tryz.ntmps36;go_wp2_with (go_at_call 42;refine HA.out.mono ?_;rintro e w2 ⟨rfl,hw2⟩;subst w2)
  go_ret2
  exact⟨rfl,GRS.same HG.out⟩
 |some y=>
  have HA:=Y (jG h t d y hs);cases hs2:atI M.G i with
  |none=>
   rw[show iP M t d i=(M,0,2) by unfold iP;rw[hs];simp only[];rw[hs2]]
   have hn:=gY hs2
   by_cases h0:i<0
   . have q1:decide (i<0)=true:=yb h0;clear h hs hs2 hn h0;go_enter Tryz.func36,Tryz.ntmps36;go_wp2_with (go_at_call 42;refine HA.out.mono ?_;rintro e w2 ⟨rfl,hw2⟩;subst w2)
     go_ret2
     exact⟨rfl,GRS.same HG.out⟩
   . have q1:decide (i<0)=false:=yd h0;have q2:decide (i>=(M.G.length:Int))=true:=yb (by omega)
     have q2':decide ((M.G.length:Int)<=i)=true:=yb (by omega)
     clear h hs hs2 hn h0;go_enter Tryz.func36,Tryz.ntmps36;go_wp2_with (go_at_call 42;refine HA.out.mono ?_;rintro e w2 ⟨rfl,hw2⟩;subst w2)
     go_ret2
     exact⟨rfl,GRS.same HG.out⟩
  |some z=>
   rw[show iP M t d i=(iA M t d z,z,0) by unfold iP;rw[hs];simp only[];rw[hs2]]
   obtain⟨n,rfl,hn,hnl⟩:=dC hs2;have q1:decide ((n:Int)<0)=false:=yd (by omega)
   have q2:decide ((n:Int)>=(M.G.length:Int))=false:=yd (by omega)
   have q2':decide ((M.G.length:Int)<=(n:Int))=false:=yd (by omega)
   have q2'':decide (M.G.length<=n)=false:=yd (by omega)
   have q5:(0:Int)<=(n:Int):=by omega
   have q6:(n:Int)<(M.G.length:Int):=by omega
   have x5:w.cell? ⟨x.bG,n,none⟩=some (.int .i64 z):=(h.hG.cell n).trans (by rw[List.getElem?_map,hn];rfl)
   have HC:=Y (r69 h t d z (by rw[hs];rfl) (h.wf.gs z (List.mem_iff_getElem?.2 ⟨n,hn⟩)))
   have HN:=Y (hn);clear h hs hs2 hn hnl;go_enter Tryz.func36,Tryz.ntmps36;go_wp2_with (first|(go_at_call 42;refine HA.out.mono ?_;rintro e w2 ⟨rfl,hw2⟩;subst w2)|(go_at_call 69;refine HC.out.mono ?_;rintro e w3 ⟨rfl,F3,x3,hg3,hk3⟩;have HG3:=Y (show GRS F w g (iA M t d z) w3 from⟨F3,x3,hg3,hk3⟩);have z1:w3.cell? ⟨g,1,none⟩=some (.slice (some ⟨x3.bG,0,none⟩) M.G.length M.G.length):=hg3.x1;have z5:w3.cell? ⟨x3.bG,n,none⟩=some (.int .i64 z):=(hg3.hG.cell n).trans (by rw[List.getElem?_map];show Option.map _ M.G[n]? =_;rw[HN.out];rfl);clear hg3 hk3))
   go_ret2
   exact⟨rfl,HG3.out⟩
theorem EA (h:GR F w g x M)(t i v:Int):
 Calls Tryz.prog 37 #[.pointer (some ⟨g,0,none⟩),.int .i64 t,.int .i64 i,.int .i64 v] w fun e w'=>e=.returned (.int .i64 (jk M t i v).2.2)/\GRS F w g (jk M t i v).1 w':=by
 have HG:=Y h;have x1:=h.x1;cases hs:bV M t v with
 |none=>
  rw[show jk M t i v=(M,0,2) by unfold jk;rw[hs]]
  have HA:=Y (jS h t v hs);clear h hs;go_enter Tryz.func37,Tryz.ntmps37;go_wp2_with (go_at_call 42;refine HA.out.mono ?_;rintro e w2 ⟨rfl,hw2⟩;subst w2)
  go_ret
  exact⟨rfl,GRS.same HG.out⟩
 |some y=>
  have HA:=Y (jG h t v y hs);cases hs2:atI M.G i with
  |none=>
   rw[show jk M t i v=(M,0,2) by unfold jk;rw[hs];simp only[];rw[hs2]]
   have hn:=gY hs2
   by_cases h0:i<0
   . have q1:decide (i<0)=true:=yb h0;clear h hs hs2 hn h0;go_enter Tryz.func37,Tryz.ntmps37;go_wp2_with (go_at_call 42;refine HA.out.mono ?_;rintro e w2 ⟨rfl,hw2⟩;subst w2)
     go_ret
     exact⟨rfl,GRS.same HG.out⟩
   . have q1:decide (i<0)=false:=yd h0;have q2:decide (i>=(M.G.length:Int))=true:=yb (by omega)
     have q2':decide ((M.G.length:Int)<=i)=true:=yb (by omega)
     clear h hs hs2 hn h0;go_enter Tryz.func37,Tryz.ntmps37;go_wp2_with (go_at_call 42;refine HA.out.mono ?_;rintro e w2 ⟨rfl,hw2⟩;subst w2)
     go_ret
     exact⟨rfl,GRS.same HG.out⟩
  |some z=>
   rw[show jk M t i v=({ M with G:=M.G.set i.toNat y },0,0) by unfold jk;rw[hs];simp only[];rw[hs2]]
   obtain⟨n,rfl,hn,hnl⟩:=dC hs2;have q1:decide ((n:Int)<0)=false:=yd (by omega)
   have q2:decide ((n:Int)>=(M.G.length:Int))=false:=yd (by omega)
   have q2':decide ((M.G.length:Int)<=(n:Int))=false:=yd (by omega)
   have q2'':decide (M.G.length<=n)=false:=yd (by omega)
   have q5:(0:Int)<=(n:Int):=by omega
   have q6:(n:Int)<(M.G.length:Int):=by omega
   rw[show((n:Int)).toNat=n from rfl]
   have hst:=bu w x.bG n (.int .i64 y);have HS:=Y (h.setG (M':={ M with G:=M.G.set n y }) hst (by have:=bB h.hG (k:=n) (by rw[List.length_map];exact hnl) (.int .i64 y);rw[<-List.map_set]at this;exact this) rfl (List.length_set ..) rfl (h.wf.zU n (h.wf.slot hs)))
   have HK:=Y ((bR hst).mono (S':=F) (fun q' _ e=>by rw[e];exact h.fp.2.2.1))
   have x5:w.cell? ⟨x.bG,n,none⟩=some (.int .i64 z):=(h.hG.cell n).trans (by rw[List.getElem?_map,hn];rfl)
   have x6:=ak h.hG n;clear h hs hs2 hn hnl hst;go_enter Tryz.func37,Tryz.ntmps37;go_wp2_with (go_at_call 42;refine HA.out.mono ?_;rintro e w2 ⟨rfl,hw2⟩;subst w2)
   go_ret
   exact⟨rfl,.refl HS.out HK.out⟩
theorem DZ (h:GR F w g x M)(t d s k:Int):
 Calls Tryz.prog 32 #[.pointer (some ⟨g,0,none⟩),.int .i64 t,.int .i64 d,.int .i64 s,.int .i64 k] w fun e w'=>e=.returned (.tuple #[.int .i64 (gq M t d s k).2.1,.int .i64 (gq M t d s k).2.2])/\GRS F w g (gq M t d s k).1 w':=by
 have HG:=Y h;cases hs:bV M t d with
 |none=>
  rw[show gq M t d s k=(M,0,2) by unfold gq;rw[hs]]
  have HA:=Y (jS h t d hs);clear h hs;go_enter Tryz.func32,Tryz.ntmps32;go_wp2_with (go_at_call 42;refine HA.out.mono ?_;rintro e w2 ⟨rfl,hw2⟩;subst w2)
  go_ret2
  exact⟨rfl,GRS.same HG.out⟩
 |some y=>
  have HA:=Y (jG h t d y hs);cases hs2:nZ M t s k with
  |error e=>
   rw[show gq M t d s k=(M,0,e) by unfold gq;rw[hs];simp only[];rw[hs2]]
   have HB:=Y (BX h t s k e hs2)
   have he:e=2\/e=5:=by
    rcases nC hs2 with h1|⟨_,_,h1,_⟩
    . rcases jU h1 with⟨_,h1⟩|⟨_,h1⟩
      . exact .inl h1
      . exact .inr h1
    . exact .inl h1
   rcases he with rfl|rfl
   . skip
     clear h hs hs2;go_enter Tryz.func32,Tryz.ntmps32;go_wp2_with (first|(go_at_call 42;refine HA.out.mono ?_;rintro e w2 ⟨rfl,hw2⟩;subst w2)|(go_at_call 70;refine HB.out.mono ?_;rintro e w2 ⟨⟨m,rfl⟩,hw2⟩;subst w2))
     go_ret2
     exact⟨rfl,GRS.same HG.out⟩
   . skip
     clear h hs hs2;go_enter Tryz.func32,Tryz.ntmps32;go_wp2_with (first|(go_at_call 42;refine HA.out.mono ?_;rintro e w2 ⟨rfl,hw2⟩;subst w2)|(go_at_call 70;refine HB.out.mono ?_;rintro e w2 ⟨⟨m,rfl⟩,hw2⟩;subst w2))
     go_ret2
     exact⟨rfl,GRS.same HG.out⟩
  |ok b=>
   rw[show gq M t d s k=(iA M t d ((refsOf M b).getD k.toNat 0),(refsOf M b).getD k.toNat 0,0) by unfold gq;rw[hs];simp only[];rw[hs2]]
   obtain⟨hs3,n,rfl,hn⟩:=rE hs2;have HB:=Y (CK h t s n b hs3 hn);have hol:=fK h.wf hs3;obtain⟨q,bO,cO,hv,hp,_,xr,xd,h2,h3,hok⟩:=h.obj hol;have x2:=h.x2;rw[hv]at x2;have q3:(0:Int)<=(b:Int):=by omega
   have q4:(b:Int)<(M.O.length:Int):=by omega
   have q5:(0:Int)<=(n:Int):=by omega
   have q6:(n:Int)<((refsOf M b).length:Int):=by omega
   have x5:w.cell? ⟨q.r,n,none⟩=some (.int .i64 ((refsOf M b).getD ((n:Int).toNat) 0)):=(h2.cell n).trans (by rw[Int.toNat_natCast,List.getElem?_map,List.getElem?_eq_getElem hn,List.getD_eq_getElem?_getD,List.getElem?_eq_getElem hn];rfl)
   have hz:0<=(refsOf M b).getD ((n:Int).toNat) 0/\(refsOf M b).getD ((n:Int).toNat) 0<=(M.O.length:Int):=hok.rs _ (by show(refsOf M b).getD n 0∈refsOf M b;rw[List.getD_eq_getElem?_getD,List.getElem?_eq_getElem hn];exact List.getElem_mem hn)
   generalize (refsOf M b).getD ((n:Int).toNat) 0=z at x5 hz ⊢;have HC:=Y (r69 h t d z (by rw[hs];rfl) hz)
   clear h hs hs2 hs3 hn hol hp h2 h3 hok hv hz;go_enter Tryz.func32,Tryz.ntmps32;go_wp2_with (first|(go_at_call 42;refine HA.out.mono ?_;rintro e w2 ⟨rfl,hw2⟩;subst w2)|(go_at_call 70;refine HB.out.mono ?_;rintro e w2 ⟨rfl,hw2⟩;subst w2)|(go_at_call 69;refine HC.out.mono ?_;rintro e w3 ⟨rfl,hg3⟩;have HG3:=Y hg3;clear hg3))
   go_ret2
   exact⟨rfl,HG3.out⟩
theorem AY (h:GR F w g x M)(t o k v:Int):
 Calls Tryz.prog 33 #[.pointer (some ⟨g,0,none⟩),.int .i64 t,.int .i64 o,.int .i64 k,.int .i64 v] w fun e w'=>e=.returned (.int .i64 (fP M t o k v).2.2)/\GRS F w g (fP M t o k v).1 w':=by
 have HG:=Y h;cases hs:bV M t v with
 |none=>
  rw[show fP M t o k v=(M,0,2) by unfold fP;rw[hs]]
  have HA:=Y (jS h t v hs);clear h hs;go_enter Tryz.func33,Tryz.ntmps33;go_wp2_with (go_at_call 42;refine HA.out.mono ?_;rintro e w2 ⟨rfl,hw2⟩;subst w2)
  go_ret
  exact⟨rfl,GRS.same HG.out⟩
 |some y=>
  have HA:=Y (jG h t v y hs);cases hs2:nZ M t o k with
  |error e=>
   rw[show fP M t o k v=(M,0,e) by unfold fP;rw[hs];simp only[];rw[hs2]]
   have HB:=Y (BX h t o k e hs2)
   have he:e=2\/e=5:=by
    rcases nC hs2 with h1|⟨_,_,h1,_⟩
    . rcases jU h1 with⟨_,h1⟩|⟨_,h1⟩
      . exact .inl h1
      . exact .inr h1
    . exact .inl h1
   rcases he with rfl|rfl
   . skip
     clear h hs hs2;go_enter Tryz.func33,Tryz.ntmps33;go_wp2_with (first|(go_at_call 42;refine HA.out.mono ?_;rintro e w2 ⟨rfl,hw2⟩;subst w2)|(go_at_call 70;refine HB.out.mono ?_;rintro e w2 ⟨⟨m,rfl⟩,hw2⟩;subst w2))
     go_ret
     exact⟨rfl,GRS.same HG.out⟩
   . skip
     clear h hs hs2;go_enter Tryz.func33,Tryz.ntmps33;go_wp2_with (first|(go_at_call 42;refine HA.out.mono ?_;rintro e w2 ⟨rfl,hw2⟩;subst w2)|(go_at_call 70;refine HB.out.mono ?_;rintro e w2 ⟨⟨m,rfl⟩,hw2⟩;subst w2))
     go_ret
     exact⟨rfl,GRS.same HG.out⟩
  |ok b=>
   rw[show fP M t o k v=(iw M b k.toNat y,0,0) by unfold fP;rw[hs];simp only[];rw[hs2]]
   obtain⟨hs3,n,rfl,hn⟩:=rE hs2;have HB:=Y (CK h t o n b hs3 hn);have hol:=fK h.wf hs3;obtain⟨q,bO,cO,hv,hp,_,xr,xd,h2,h3,hok⟩:=h.obj hol;have x2:=h.x2;rw[hv]at x2;have q3:(0:Int)<=(b:Int):=by omega
   have q4:(b:Int)<(M.O.length:Int):=by omega
   have q5:(0:Int)<=(n:Int):=by omega
   have q6:(n:Int)<((refsOf M b).length:Int):=by omega
   have x5:w.cell? ⟨q.r,n,none⟩=some (.int .i64 ((refsOf M b).getD ((n:Int).toNat) 0)):=(h2.cell n).trans (by rw[Int.toNat_natCast,List.getElem?_map,List.getElem?_eq_getElem hn,List.getD_eq_getElem?_getD,List.getElem?_eq_getElem hn];rfl)
   generalize (refsOf M b).getD ((n:Int).toNat) 0=z at x5;rw[show((n:Int)).toNat=n from rfl]
   have HS:=Y (h.iw hp hn (h.wf.slot hs));have HK:=Y ((bR (bu w q.r n (.int .i64 y))).mono (S':=F) (fun q' _ e=>by rw[e];exact(h.fp.2.2.2.2 q (List.mem_iff_getElem?.2 ⟨_,hp⟩)).1))
   have x6:=ak h2 n;clear h hs hs2 hs3 hn hol hp h2 h3 hok hv;go_enter Tryz.func33,Tryz.ntmps33;go_wp2_with (first|(go_at_call 42;refine HA.out.mono ?_;rintro e w2 ⟨rfl,hw2⟩;subst w2)|(go_at_call 70;refine HB.out.mono ?_;rintro e w2 ⟨rfl,hw2⟩;subst w2))
   go_ret
   exact⟨rfl,.refl HS.out HK.out⟩
end
end
end Go.Proofs.YtglikkmmbdnmbaaGreat.Im

/- Same of the document's shapes (function 12), at two shapes that read alike: true. -/
import Derived.Test.YtglikkmmbdnmbaaGreatQ15
import Derived.Test.YtglikkmmbdnmbaaGreatQ12
import Derived.Test.YtglikkmmbdnmbaaGreatQ09
import Derived.Test.YtglikkmmbdnmbaaGreatQ02
import Derived.Test.YtglikkmmbdnmbaaGreatQ14
import Derived.Test.YtglikkmmbdnmbaaGreatQ11
set_option maxHeartbeats 8000000
set_option maxRecDepth 100000
namespace Go.Proofs.YtglikkmmbdnmbaaGreat.Im
open Go.RowKit Q7
open YtglikkmmbdnmbaaGreat.Own PCan Wv
set_option linter.unusedVariables false
set_option linter.unusedSimpArgs false
section
section
variable {o:Oper} {a:Act} {W:World}
theorem l8 {x y:Operand}{p:Addr}{n c k:Nat}(ho:o.op=.indexAddr 37 x y)(hx:a.eval x=.slice (some p) n c)(hy:a.eval y=.int .i64 (k:Int))(hk:k<n):(execOp a.eval o).run Tryz.prog W=.ok (.value (.pointer (some (p.add (k*2))))) W:=by
 have h1:(0:Int)<=(k:Int):=by omega
 have h2:(k:Int)<(n:Int):=by omega
 generalize a.eval=E at hx hy ⊢;unfold execOp;simp only[ho,hx,hy]
 go_simp
theorem jL {x y:Operand}{p:Addr}{n c k:Nat}(ho:o.op=.indexAddr 39 x y)(hx:a.eval x=.slice (some p) n c)(hy:a.eval y=.int .i64 (k:Int))(hk:k<n):(execOp a.eval o).run Tryz.prog W=.ok (.value (.pointer (some (p.add (k*2))))) W:=by
 have h1:(0:Int)<=(k:Int):=by omega
 have h2:(k:Int)<(n:Int):=by omega
 generalize a.eval=E at hx hy ⊢;unfold execOp;simp only[ho,hx,hy]
 go_simp
theorem rP {x y:Operand}{p:Addr}{n c k:Nat}(ho:o.op=.indexAddr 62 x y)(hx:a.eval x=.slice (some p) n c)(hy:a.eval y=.int .i64 (k:Int))(hk:k<n):(execOp a.eval o).run Tryz.prog W=.ok (.value (.pointer (some (p.add (k))))) W:=by
 have h1:(0:Int)<=(k:Int):=by omega
 have h2:(k:Int)<(n:Int):=by omega
 generalize a.eval=E at hx hy ⊢;unfold execOp;simp only[ho,hx,hy]
 go_simp
theorem rU {x:Operand}{ad:Addr}{m:Nat}(ho:o.op=.fieldAddr 88 x 0)(hx:a.eval x=.pointer (some (ad.add m))):(execOp a.eval o).run Tryz.prog W=.ok (.value (.pointer (some (ad.add m)))) W:=by
 have hu:=Tryz.underlying88;unfold execOp;simp only[ho,hx]
 go_simp
theorem r9 {x:Operand}{ad:Addr}{m:Nat}(ho:o.op=.fieldAddr 88 x 1)(hx:a.eval x=.pointer (some (ad.add m))):(execOp a.eval o).run Tryz.prog W=.ok (.value (.pointer (some ⟨(ad.add m).block,(ad.add m).off+1,none⟩))) W:=by
 have hu:=Tryz.underlying88;unfold execOp;simp only[ho,hx]
 go_simp
theorem rZ {x:Operand}{ad:Addr}{m:Nat}(ho:o.op=.fieldAddr 89 x 0)(hx:a.eval x=.pointer (some (ad.add m))):(execOp a.eval o).run Tryz.prog W=.ok (.value (.pointer (some (ad.add m)))) W:=by
 have hu:=Tryz.underlying89;unfold execOp;simp only[ho,hx]
 go_simp
theorem l7 {x:Operand}{ad:Addr}{m:Nat}(ho:o.op=.fieldAddr 89 x 1)(hx:a.eval x=.pointer (some (ad.add m))):(execOp a.eval o).run Tryz.prog W=.ok (.value (.pointer (some ⟨(ad.add m).block,(ad.add m).off+1,none⟩))) W:=by
 have hu:=Tryz.underlying89;unfold execOp;simp only[ho,hx]
 go_simp
theorem qK {x:Operand}{p:Addr}{v:Value}(ho:o.op=.load 31 x)(hx:a.eval x=.pointer (some p))(hc:W.cell? p=some v):(execOp a.eval o).run Tryz.prog W=.ok (.value v) W:=by
 have hu:=Tryz.underlying31;unfold execOp;simp only[ho,hx]
 go_simp
theorem wB {x:Operand}{A:Option Addr}{n c:Nat}(ho:o.op=.call { callee:=.builtin .len,args:=#[x],argTypes:=#[62] })(hx:a.eval x=.slice A n c):(execOp a.eval o).run Tryz.prog W=.ok (.value (.int .i64 (n:Int))) W:=by
 generalize a.eval=E at hx ⊢;unfold execOp;simp only[ho,List.map_toArray,List.map_cons,List.map_nil,hx]
 go_simp
theorem Cz {x y:Operand}{p:Int}(ho:o.op=.binOp .neq 3 x y 3)(hx:a.eval x=.int .i64 p)(hy:a.eval y=.int .i64 p):(execOp a.eval o).run Tryz.prog W=.ok (.value (.bool false)) W:=by
 generalize a.eval=E at hx hy ⊢;unfold execOp;simp only[ho,hx,hy]
 go_simp
theorem BK {x y:Operand}{p:Int}(ho:o.op=.binOp .neq 31 x y 31)(hx:a.eval x=.int .u64 p)(hy:a.eval y=.int .u64 p):(execOp a.eval o).run Tryz.prog W=.ok (.value (.bool false)) W:=by
 have hu:=Tryz.underlying31;generalize a.eval=E at hx hy ⊢;unfold execOp;simp only[ho,hx,hy]
 go_simp
theorem qG {x:Operand}(ho:o.op=.unOp .not 4 x)(hx:a.eval x=.bool true):(execOp a.eval o).run Tryz.prog W=.ok (.value (.bool false)) W:=by
 generalize a.eval=E at hx ⊢;unfold execOp;simp only[ho,hx]
 go_simp
theorem rY {x y z:Operand}{v:Value}(ho:o.op=.pick x y z)(hx:a.eval x=.bool false)(hz:a.eval z=v):(execOp a.eval o).run Tryz.prog W=.ok (.value v) W:=by
 generalize a.eval=E at hx hz ⊢;unfold execOp;simp only[ho,hx,hz]
 go_simp
end
theorem IC.on {w0 w w':World}{pt:List (Nat×Nat)}{pv:Nat->Value}{cx:Nat->Int}{L:Array Bool}{a:Act}(h:IC w0 pt pv [] cx L a w)(hb:Below w.heap.size w w'):IC w0 pt pv [] cx L a w':=
 ⟨ag h.below h.below.size hb,h.p,fun y hy=>(by cases hy),fun y hy=>(by cases hy),fun y hy=>(by cases hy)⟩
theorem IC.none {w:World}{pt:List (Nat×Nat)}{pv:Nat->Value}{cx:Nat->Int}{n:Nat}{a:Act}:IC w pt pv [] cx (Array.replicate n false) a w.drew:=
 ⟨bv zc,fun y hy h=>(by rw[dI]at h;cases h),fun y hy=>(by cases hy),fun y hy=>(by cases hy),fun y hy=>(by cases hy)⟩
theorem wY {l:List Int}{A B:Option Addr}{c d:Nat}{w:World}(hl:l.length<=1000000)(h1:Kd.C (Kd.int .i64) w A l.length l)(h2:l.length<=c)(h3:Kd.C (Kd.int .i64) w B l.length l)(h4:l.length<=d):Calls Tryz.prog 47 #[.slice A l.length c,.slice B l.length d] w fun e w'=>e=.returned (.bool true)/\Below w.heap.size w w':=by
 obtain⟨k,hk⟩:=Eh l hl;refine(demesneref28_row.calls k A c l B d l true w h1 h2 h3 h4 (hk k (Nat.le_refl _))).mono ?_;rintro e w' ⟨h,hd⟩;exact⟨h,oL hd⟩
def P12a (d1 d2 i n c1 c2 m0 m1 x0 x1 y0 y1:Nat)(p1 p2:Addr)(X0 X1 Y0 Y1:Option Addr):Nat->Value
 |0=>.pointer (some ⟨d1,0,none⟩)
 |1=>.slice (some p1) n c1
 |2=>.int .i64 (i:Int)
 |3=>.pointer (some (p1.add (i*2)))
 |4=>.pointer (some (p1.add (i*2)))
 |5=>.slice X0 m0 x0
 |6=>.pointer (some ⟨d2,0,none⟩)
 |7=>.slice (some p2) n c2
 |8=>.int .i64 (i:Int)
 |9=>.pointer (some (p2.add (i*2)))
 |10=>.pointer (some (p2.add (i*2)))
 |11=>.slice Y0 m0 y0
 |12=>.bool true
 |13=>.bool false
 |14=>.bool false
 |15=>.pointer (some ⟨d1,0,none⟩)
 |16=>.slice (some p1) n c1
 |17=>.int .i64 (i:Int)
 |18=>.pointer (some (p1.add (i*2)))
 |19=>.pointer (some ⟨(p1.add (i*2)).block,(p1.add (i*2)).off+1,none⟩)
 |20=>.slice X1 m1 x1
 |21=>.pointer (some ⟨d2,0,none⟩)
 |22=>.slice (some p2) n c2
 |23=>.int .i64 (i:Int)
 |24=>.pointer (some (p2.add (i*2)))
 |25=>.pointer (some ⟨(p2.add (i*2)).block,(p2.add (i*2)).off+1,none⟩)
 |26=>.slice Y1 m1 y1
 |27=>.bool true
 |28=>.bool false
 |29=>.bool false
 |_=>undef
def P12b (d1 d2 i n c1 c2 m0 m1 x0 x1 y0 y1:Nat)(p1 p2:Addr)(X0 X1 Y0 Y1:Option Addr):Nat->Value
 |0=>.pointer (some ⟨d1,2,none⟩)
 |1=>.slice (some p1) n c1
 |2=>.int .i64 (i:Int)
 |3=>.pointer (some (p1.add (i*2)))
 |4=>.pointer (some (p1.add (i*2)))
 |5=>.slice X0 m0 x0
 |6=>.pointer (some ⟨d2,2,none⟩)
 |7=>.slice (some p2) n c2
 |8=>.int .i64 (i:Int)
 |9=>.pointer (some (p2.add (i*2)))
 |10=>.pointer (some (p2.add (i*2)))
 |11=>.slice Y0 m0 y0
 |12=>.bool true
 |13=>.bool false
 |14=>.bool false
 |15=>.pointer (some ⟨d1,2,none⟩)
 |16=>.slice (some p1) n c1
 |17=>.int .i64 (i:Int)
 |18=>.pointer (some (p1.add (i*2)))
 |19=>.pointer (some ⟨(p1.add (i*2)).block,(p1.add (i*2)).off+1,none⟩)
 |20=>.slice X1 m1 x1
 |21=>.int .i64 (m1:Int)
 |22=>.pointer (some ⟨d2,2,none⟩)
 |23=>.slice (some p2) n c2
 |24=>.int .i64 (i:Int)
 |25=>.pointer (some (p2.add (i*2)))
 |26=>.pointer (some ⟨(p2.add (i*2)).block,(p2.add (i*2)).off+1,none⟩)
 |27=>.slice Y1 m1 y1
 |28=>.int .i64 (m1:Int)
 |29=>.bool false
 |30=>.bool false
 |_=>undef
def P12c (d1 d2 i j n c1 c2 m1 x1 y1:Nat)(p1 p2 q1 q2:Addr)(z:Int):Nat->Value
 |0=>.pointer (some ⟨d1,2,none⟩)
 |1=>.slice (some p1) n c1
 |2=>.int .i64 (i:Int)
 |3=>.pointer (some (p1.add (i*2)))
 |4=>.pointer (some ⟨(p1.add (i*2)).block,(p1.add (i*2)).off+1,none⟩)
 |5=>.slice (some q1) m1 x1
 |6=>.int .i64 (j:Int)
 |7=>.pointer (some (q1.add j))
 |8=>.int .u64 z
 |9=>.pointer (some ⟨d2,2,none⟩)
 |10=>.slice (some p2) n c2
 |11=>.int .i64 (i:Int)
 |12=>.pointer (some (p2.add (i*2)))
 |13=>.pointer (some ⟨(p2.add (i*2)).block,(p2.add (i*2)).off+1,none⟩)
 |14=>.slice (some q2) m1 y1
 |15=>.int .i64 (j:Int)
 |16=>.pointer (some (q2.add j))
 |17=>.int .u64 z
 |18=>.bool false
 |_=>undef
theorem same_of {w:World}{S:Sh}(hS:Mid S){v1 v2:Value}(h1:iD w v1 S)(h2:iD w v2 S):
 Calls Tryz.prog 12 #[v1,v2] w fun e w'=>e=.returned (.bool true)/\Below w.heap.size w w':=by
 obtain⟨A0,c1,A1,g1,A2,e1,rfl,a1,a2,a3,a4,a5,a6⟩:=h1;obtain⟨B0,c2,B1,g2,B2,e2,rfl,b1,b2,b3,b4,b5,b6⟩:=h2;obtain⟨W,hW⟩:∃ W,W=(w.alloc (.cells #[.slice A0 S.T.length c1,.slice A1 S.G.length g1,.slice A2 S.N.length e1] 41)).alloc (.cells #[.slice B0 S.T.length c2,.slice B1 S.G.length g2,.slice B2 S.N.length e2] 41):=⟨_,rfl⟩;have hb:Below w.heap.size w W:=by rw[hW];exact ae (ae zc _) _
 have H1:aa (Holds W w.heap.size 41 [.slice A0 S.T.length c1,.slice A1 S.G.length g1,.slice A2 S.N.length e1]):=⟨by rw[hW];exact Holds.below (aK _ _) (ae zc _)⟩
 have H2:aa (Holds W (w.heap.size+1) 41 [.slice B0 S.T.length c2,.slice B1 S.G.length g2,.slice B2 S.N.length e2]):=⟨by
  have h:=aK (w.alloc (.cells #[.slice A0 S.T.length c1,.slice A1 S.G.length g1,.slice A2 S.N.length e1] 41)) (.cells #[.slice B0 S.T.length c2,.slice B1 S.G.length g2,.slice B2 S.N.length e2] 41);rw[World.size_alloc]at h;rw[hW]
  exact h⟩
 have HB:=Y hb;have HS:=Y hS;have HT:=Y (And.intro (Kd.aU a2 hb) (Kd.aU b2 hb));have HG:=Y (wY (by have:=hS.G;omega) (Kd.aU a4 hb) a3 (Kd.aU b4 hb) b3)
 have HN:=Y (And.intro (Kd.aU a6 hb) (Kd.aU b6 hb));have q1:((S.T.length:Int) != (S.T.length:Int))=false:=bne_self_eq_false _;have q2:((S.N.length:Int) != (S.N.length:Int))=false:=bne_self_eq_false _;have q1':(S.T.length != S.T.length)=false:=bne_self_eq_false _;have q2':(S.N.length != S.N.length)=false:=bne_self_eq_false _;clear hS a1 a2 a3 a4 a5 a6 b1 b2 b3 b4 b5 b6 hb;go_enter Tryz.func12,Tryz.ntmps12;go_upto_region 1 with fail
 rw[<-hW];clear hW;obtain⟨d1,hd1⟩:∃ d1,d1=w.heap.size:=⟨_,rfl⟩;obtain⟨d2,hd2⟩:∃ d2,d2=w.heap.size+1:=⟨_,rfl⟩;rw[<-hd2]at H2 ⊢;rw[<-hd1]at H1 ⊢;clear hd1 hd2;have z0:=(H1.out.cell 0).trans rfl;have z1:=(H1.out.cell 1).trans rfl;have z2:=(H1.out.cell 2).trans rfl;have y0:=(H2.out.cell 0).trans rfl;have y1:=(H2.out.cell 1).trans rfl;have y2:=(H2.out.cell 2).trans rfl;go_upto_region 3 with(go_at_call 47;refine HG.out.mono ?_;rintro e w1 ⟨rfl,hb1⟩;have HB1:=Y hb1;clear hb1)
 clear z0 z1 z2 y0 y1 y2 q1 q2 q1' q2';go_wp2_with fail
 go_loopg [5] S.T.length (fun kq v5 w'=>∃ i:Nat,v5=.int .i64 (i:Int)/\aa (i+kq=S.T.length)/\aa (Below W.heap.size W w'))
 case atStart=>exact⟨0,rfl,⟨Nat.zero_add _⟩,HB1⟩
 case round=>
  clear HB1;obtain⟨i,rfl,HI0,HB1⟩:=hrel;have z0:=((H1.out.below HB1.out).cell 0).trans rfl;cases gk with
  |succ k1=>
   have HI:=Y (show i<S.T.length by have:=HI0.out;omega)
   have q1:decide ((i:Int)<(S.T.length:Int))=true:=yb (by have:=HI.out;omega)
   have q1':decide (i<S.T.length)=true:=yb HI.out;have hw1:IntKind.i64.wrap ((i:Int)+1)=(i:Int)+1:=i64_in (by have:=HI.out;have:=HS.out.T;omega)
   obtain⟨u,hu⟩:∃ u,u=S.T[i]'HI.out:=⟨_,rfl⟩;have HU:=Y (HS.out.t u (by rw[hu];exact List.getElem_mem _))
   obtain⟨p1,X0,x0,X1,x1,ep1,h1,h2,h3,h4,h5,h6⟩:=nH (Kd.aU HT.out.1 HB1.out) (i:Int) (by omega) (by have:=HI.out;omega)
   obtain⟨p2,Y0,y0,Y1,y1,ep2,k1',k2,k3,k4,k5,k6⟩:=nH (Kd.aU HT.out.2 HB1.out) (i:Int) (by omega) (by have:=HI.out;omega)
   rw[rdT' S.T i HI.out,<-hu]at h1 h2 h3 h4 h5 h6 k1' k2 k3 k4 k5 k6;subst ep1 ep2;have H1':=Y (H1.out.below HB1.out);have H2':=Y (H2.out.below HB1.out);have HX0:=Y h1;have HX1:=Y h2;have HY0:=Y k1';have HY1:=Y k2;have HCX0:=Y (And.intro h4 h3);have HCX1:=Y (And.intro h6 h5);have HCY0:=Y (And.intro k4 k3);have HCY1:=Y (And.intro k6 k5);have HL:=Y (show u.f0.length<=1000000/\u.f1.length<=1000000 by have h:=HU.out;exact⟨by have:=h.1;omega,by have:=h.2;omega⟩)
   clear h1 h2 h3 h4 h5 h6 k1' k2 k3 k4 k5 k6 hu;go_upto_region 6 with fail
   clear z0;refine mE 137 (IC wr [(0,39),(1,40),(2,41),(3,42),(4,43),(5,44),(6,45),(7,46),(8,47),(9,48),(10,49),(11,50),(12,51),(13,52),(14,53),(15,54),(16,55),(17,56),(18,57),(19,58),(20,59),(21,60),(22,61),(23,62),(24,63),(25,64),(26,65),(27,66),(28,67),(29,68)] (P12a d1 d2 i S.T.length c1 c2 u.f0.length u.f1.length x0 x1 y0 y1 p1 p2 X0 X1 Y0 Y1) [] (fun _=>0)) (by kernel_rfl) (by rfl) (by kernel_rfl) IC.none ?st ?en
   case st=>
    refine .cons (fun a w1 L fr hl hi hI hdf hs hd K hK=>?_) ?_
    . exact zv rfl (fG (i:=0) (by decide) rfl ((fr 2 (by kernel_rfl)).trans rfl)) (hK _ _ (hI.pure (i:=0) (t:=39) (by rw[hs];decide) (by rw[hl];decide) (by decide)))
    refine .cons (fun a w1 L fr hl hi hI hdf hs hd K hK=>?_) ?_
    . exact zv rfl (jH rfl (hI.p (0,39) (by decide) (hd 0 39 (by kernel_rfl))) (((H1'.out.below hI.below).cell 0).trans rfl)) (hK _ _ (hI.pure (i:=1) (t:=40) (by rw[hs];decide) (by rw[hl];decide) (by decide)))
    refine .cons (fun a w1 L fr hl hi hI hdf hs hd K hK=>?_) ?_
    . exact zv rfl (aC rfl ((fr 5 (by kernel_rfl)).trans rfl)) (hK _ _ (hI.pure (i:=2) (t:=41) (by rw[hs];decide) (by rw[hl];decide) (by decide)))
    refine .cons (fun a w1 L fr hl hi hI hdf hs hd K hK=>?_) ?_
    . exact zv rfl (l8 rfl (hI.p (1,40) (by decide) (hd 1 40 (by kernel_rfl))) (hI.p (2,41) (by decide) (hd 2 41 (by kernel_rfl))) HI.out) (hK _ _ (hI.pure (i:=3) (t:=42) (by rw[hs];decide) (by rw[hl];decide) (by decide)))
    refine .cons (fun a w1 L fr hl hi hI hdf hs hd K hK=>?_) ?_
    . exact zv rfl (rU rfl (hI.p (3,42) (by decide) (hd 3 42 (by kernel_rfl)))) (hK _ _ (hI.pure (i:=4) (t:=43) (by rw[hs];decide) (by rw[hl];decide) (by decide)))
    refine .cons (fun a w1 L fr hl hi hI hdf hs hd K hK=>?_) ?_
    . exact zv rfl (dz rfl (hI.p (4,43) (by decide) (hd 4 43 (by kernel_rfl))) ((hI.below.cell (World.block_lt_of_cell? _ _ HX0.out)).trans HX0.out)) (hK _ _ (hI.pure (i:=5) (t:=44) (by rw[hs];decide) (by rw[hl];decide) (by decide)))
    refine .cons (fun a w1 L fr hl hi hI hdf hs hd K hK=>?_) ?_
    . exact zv rfl (fG (i:=0) (by decide) rfl ((fr 3 (by kernel_rfl)).trans rfl)) (hK _ _ (hI.pure (i:=6) (t:=45) (by rw[hs];decide) (by rw[hl];decide) (by decide)))
    refine .cons (fun a w1 L fr hl hi hI hdf hs hd K hK=>?_) ?_
    . exact zv rfl (jH rfl (hI.p (6,45) (by decide) (hd 6 45 (by kernel_rfl))) (((H2'.out.below hI.below).cell 0).trans rfl)) (hK _ _ (hI.pure (i:=7) (t:=46) (by rw[hs];decide) (by rw[hl];decide) (by decide)))
    refine .cons (fun a w1 L fr hl hi hI hdf hs hd K hK=>?_) ?_
    . exact zv rfl (aC rfl ((fr 5 (by kernel_rfl)).trans rfl)) (hK _ _ (hI.pure (i:=8) (t:=47) (by rw[hs];decide) (by rw[hl];decide) (by decide)))
    refine .cons (fun a w1 L fr hl hi hI hdf hs hd K hK=>?_) ?_
    . exact zv rfl (l8 rfl (hI.p (7,46) (by decide) (hd 7 46 (by kernel_rfl))) (hI.p (8,47) (by decide) (hd 8 47 (by kernel_rfl))) HI.out) (hK _ _ (hI.pure (i:=9) (t:=48) (by rw[hs];decide) (by rw[hl];decide) (by decide)))
    refine .cons (fun a w1 L fr hl hi hI hdf hs hd K hK=>?_) ?_
    . exact zv rfl (rU rfl (hI.p (9,48) (by decide) (hd 9 48 (by kernel_rfl)))) (hK _ _ (hI.pure (i:=10) (t:=49) (by rw[hs];decide) (by rw[hl];decide) (by decide)))
    refine .cons (fun a w1 L fr hl hi hI hdf hs hd K hK=>?_) ?_
    . exact zv rfl (dz rfl (hI.p (10,49) (by decide) (hd 10 49 (by kernel_rfl))) ((hI.below.cell (World.block_lt_of_cell? _ _ HY0.out)).trans HY0.out)) (hK _ _ (hI.pure (i:=11) (t:=50) (by rw[hs];decide) (by rw[hl];decide) (by decide)))
    refine .cons (fun a w1 L fr hl hi hI hdf hs hd K hK=>?_) ?_
    . refine .inl ⟨bU rfl,?_⟩;have e0:a.eval (.tmp 44)=.slice X0 u.f0.length x0:=(hI.p (5,44) (by decide) (hd 5 44 (by kernel_rfl)))
      have e1:a.eval (.tmp 50)=.slice Y0 u.f0.length y0:=(hI.p (11,50) (by decide) (hd 11 50 (by kernel_rfl)))
      refine ek Tryz.func47 (by kernel_rfl) rfl #[.slice X0 u.f0.length x0,.slice Y0 u.f0.length y0] rfl (by simp only[List.map_toArray,List.map_cons,List.map_nil,e0,e1]) ?_
      refine(wY HL.out.1 (Kd.aU HCX0.out.1 hI.below) HCX0.out.2 (Kd.aU HCY0.out.1 hI.below) HCY0.out.2).mono ?_;rintro e w2 ⟨rfl,hb2⟩;exact⟨_,rfl,hK _ _ ((hI.pure (i:=12) (t:=51) (by rw[hs];decide) (by rw[hl];decide) (by decide)).on hb2)⟩
    refine .cons (fun a w1 L fr hl hi hI hdf hs hd K hK=>?_) ?_
    . exact zv rfl (qG rfl (hI.p (12,51) (by decide) (hd 12 51 (by kernel_rfl)))) (hK _ _ (hI.pure (i:=13) (t:=52) (by rw[hs];decide) (by rw[hl];decide) (by decide)))
    refine .cons (fun a w1 L fr hl hi hI hdf hs hd K hK=>?_) ?_
    . exact zv rfl (aC rfl (hI.p (13,52) (by decide) (hd 13 52 (by kernel_rfl)))) (hK _ _ (hI.pure (i:=14) (t:=53) (by rw[hs];decide) (by rw[hl];decide) (by decide)))
    refine .cons (fun a w1 L fr hl hi hI hdf hs hd K hK=>?_) ?_
    . exact zg rfl rfl (hI.p (14,53) (by decide) (hd 14 53 (by kernel_rfl))) (fG (i:=0) (by decide) rfl ((fr 2 (by kernel_rfl)).trans rfl)) (hK _ _ (hI.pure (i:=15) (t:=54) (by rw[hs];decide) (by rw[hl];decide) (by decide)))
    refine .cons (fun a w1 L fr hl hi hI hdf hs hd K hK=>?_) ?_
    . exact zg rfl rfl (hI.p (14,53) (by decide) (hd 14 53 (by kernel_rfl))) (jH rfl (hI.p (15,54) (by decide) (hd 15 54 (by kernel_rfl))) (((H1'.out.below hI.below).cell 0).trans rfl)) (hK _ _ (hI.pure (i:=16) (t:=55) (by rw[hs];decide) (by rw[hl];decide) (by decide)))
    refine .cons (fun a w1 L fr hl hi hI hdf hs hd K hK=>?_) ?_
    . exact zg rfl rfl (hI.p (14,53) (by decide) (hd 14 53 (by kernel_rfl))) (aC rfl ((fr 5 (by kernel_rfl)).trans rfl)) (hK _ _ (hI.pure (i:=17) (t:=56) (by rw[hs];decide) (by rw[hl];decide) (by decide)))
    refine .cons (fun a w1 L fr hl hi hI hdf hs hd K hK=>?_) ?_
    . exact zg rfl rfl (hI.p (14,53) (by decide) (hd 14 53 (by kernel_rfl))) (l8 rfl (hI.p (16,55) (by decide) (hd 16 55 (by kernel_rfl))) (hI.p (17,56) (by decide) (hd 17 56 (by kernel_rfl))) HI.out) (hK _ _ (hI.pure (i:=18) (t:=57) (by rw[hs];decide) (by rw[hl];decide) (by decide)))
    refine .cons (fun a w1 L fr hl hi hI hdf hs hd K hK=>?_) ?_
    . exact zg rfl rfl (hI.p (14,53) (by decide) (hd 14 53 (by kernel_rfl))) (r9 rfl (hI.p (18,57) (by decide) (hd 18 57 (by kernel_rfl)))) (hK _ _ (hI.pure (i:=19) (t:=58) (by rw[hs];decide) (by rw[hl];decide) (by decide)))
    refine .cons (fun a w1 L fr hl hi hI hdf hs hd K hK=>?_) ?_
    . exact zg rfl rfl (hI.p (14,53) (by decide) (hd 14 53 (by kernel_rfl))) (dz rfl (hI.p (19,58) (by decide) (hd 19 58 (by kernel_rfl))) ((hI.below.cell (World.block_lt_of_cell? _ _ HX1.out)).trans HX1.out)) (hK _ _ (hI.pure (i:=20) (t:=59) (by rw[hs];decide) (by rw[hl];decide) (by decide)))
    refine .cons (fun a w1 L fr hl hi hI hdf hs hd K hK=>?_) ?_
    . exact zg rfl rfl (hI.p (14,53) (by decide) (hd 14 53 (by kernel_rfl))) (fG (i:=0) (by decide) rfl ((fr 3 (by kernel_rfl)).trans rfl)) (hK _ _ (hI.pure (i:=21) (t:=60) (by rw[hs];decide) (by rw[hl];decide) (by decide)))
    refine .cons (fun a w1 L fr hl hi hI hdf hs hd K hK=>?_) ?_
    . exact zg rfl rfl (hI.p (14,53) (by decide) (hd 14 53 (by kernel_rfl))) (jH rfl (hI.p (21,60) (by decide) (hd 21 60 (by kernel_rfl))) (((H2'.out.below hI.below).cell 0).trans rfl)) (hK _ _ (hI.pure (i:=22) (t:=61) (by rw[hs];decide) (by rw[hl];decide) (by decide)))
    refine .cons (fun a w1 L fr hl hi hI hdf hs hd K hK=>?_) ?_
    . exact zg rfl rfl (hI.p (14,53) (by decide) (hd 14 53 (by kernel_rfl))) (aC rfl ((fr 5 (by kernel_rfl)).trans rfl)) (hK _ _ (hI.pure (i:=23) (t:=62) (by rw[hs];decide) (by rw[hl];decide) (by decide)))
    refine .cons (fun a w1 L fr hl hi hI hdf hs hd K hK=>?_) ?_
    . exact zg rfl rfl (hI.p (14,53) (by decide) (hd 14 53 (by kernel_rfl))) (l8 rfl (hI.p (22,61) (by decide) (hd 22 61 (by kernel_rfl))) (hI.p (23,62) (by decide) (hd 23 62 (by kernel_rfl))) HI.out) (hK _ _ (hI.pure (i:=24) (t:=63) (by rw[hs];decide) (by rw[hl];decide) (by decide)))
    refine .cons (fun a w1 L fr hl hi hI hdf hs hd K hK=>?_) ?_
    . exact zg rfl rfl (hI.p (14,53) (by decide) (hd 14 53 (by kernel_rfl))) (r9 rfl (hI.p (24,63) (by decide) (hd 24 63 (by kernel_rfl)))) (hK _ _ (hI.pure (i:=25) (t:=64) (by rw[hs];decide) (by rw[hl];decide) (by decide)))
    refine .cons (fun a w1 L fr hl hi hI hdf hs hd K hK=>?_) ?_
    . exact zg rfl rfl (hI.p (14,53) (by decide) (hd 14 53 (by kernel_rfl))) (dz rfl (hI.p (25,64) (by decide) (hd 25 64 (by kernel_rfl))) ((hI.below.cell (World.block_lt_of_cell? _ _ HY1.out)).trans HY1.out)) (hK _ _ (hI.pure (i:=26) (t:=65) (by rw[hs];decide) (by rw[hl];decide) (by decide)))
    refine .cons (fun a w1 L fr hl hi hI hdf hs hd K hK=>?_) ?_
    . refine .inl ⟨aM rfl rfl (hI.p (14,53) (by decide) (hd 14 53 (by kernel_rfl))) rfl,?_⟩
      have e0:a.eval (.tmp 59)=.slice X1 u.f1.length x1:=(hI.p (20,59) (by decide) (hd 20 59 (by kernel_rfl)))
      have e1:a.eval (.tmp 65)=.slice Y1 u.f1.length y1:=(hI.p (26,65) (by decide) (hd 26 65 (by kernel_rfl)))
      refine ek Tryz.func47 (by kernel_rfl) rfl #[.slice X1 u.f1.length x1,.slice Y1 u.f1.length y1] rfl (by simp only[List.map_toArray,List.map_cons,List.map_nil,e0,e1]) ?_
      refine(wY HL.out.2 (Kd.aU HCX1.out.1 hI.below) HCX1.out.2 (Kd.aU HCY1.out.1 hI.below) HCY1.out.2).mono ?_;rintro e w2 ⟨rfl,hb2⟩;exact⟨_,rfl,hK _ _ ((hI.pure (i:=27) (t:=66) (by rw[hs];decide) (by rw[hl];decide) (by decide)).on hb2)⟩
    refine .cons (fun a w1 L fr hl hi hI hdf hs hd K hK=>?_) ?_
    . exact zg rfl rfl (hI.p (14,53) (by decide) (hd 14 53 (by kernel_rfl))) (qG rfl (hI.p (27,66) (by decide) (hd 27 66 (by kernel_rfl)))) (hK _ _ (hI.pure (i:=28) (t:=67) (by rw[hs];decide) (by rw[hl];decide) (by decide)))
    refine .cons (fun a w1 L fr hl hi hI hdf hs hd K hK=>?_) ?_
    . exact zv rfl (rY rfl (hI.p (14,53) (by decide) (hd 14 53 (by kernel_rfl))) (hI.p (28,67) (by decide) (hd 28 67 (by kernel_rfl)))) (hK _ _ (hI.pure (i:=29) (t:=68) (by rw[hs];decide) (by rw[hl];decide) (by decide)))
    exact .nil
   case en=>
    intro vs w6 L hI hall hval;have ee:vs 29=.bool false:=(hval 29 68 (by kernel_rfl)).symm.trans (hI.p (29,68) (by decide) (hall 29 (by decide)))
    have HB6:=Y hI.below;simp only[bA,Act.put,zj,zr,ya,ee];clear hI hall hval ee;go_wp2_with fail;go_roundg k1
    case measure=>omega
    case rel=>exact⟨i+1,rfl,⟨by have:=HI0.out;omega⟩,⟨ag HB1.out HB1.out.size HB6.out⟩⟩
  |zero=>
   have q1:decide ((i:Int)<(S.T.length:Int))=false:=yd (by have:=HI0.out;omega)
   have q1':decide (i<S.T.length)=false:=yd (by have:=HI0.out;omega)
   go_upto_region 8 with fail
   clear z0 q1 q1' HI0;obtain⟨W2,hW2⟩:∃ W2,W2=wr:=⟨_,rfl⟩;have HB2:aa (Below W.heap.size W W2):=⟨by rw[hW2];exact HB1.out⟩
   rw[<-hW2];clear hW2 HB1;go_wp2_with fail
   go_loopg [6] S.N.length (fun kq v6 w'=>∃ i:Nat,v6=.int .i64 (i:Int)/\aa (i+kq=S.N.length)/\aa (Below W.heap.size W w'))
   case atStart=>exact⟨0,rfl,⟨Nat.zero_add _⟩,HB2⟩
   case round=>
    clear HB2;obtain⟨i,rfl,HI0,HB1⟩:=hrel;have z0:=((H1.out.below HB1.out).cell 2).trans rfl;cases gk with
    |zero=>
     have q1:decide ((i:Int)<(S.N.length:Int))=false:=yd (by have:=HI0.out;omega)
     have q1':decide (i<S.N.length)=false:=yd (by have:=HI0.out;omega)
     go_wp2_with fail
     go_ret
     exact⟨rfl,ag HB.out HB.out.size HB1.out⟩
    |succ k1=>
     have HI:=Y (show i<S.N.length by have:=HI0.out;omega)
     have q1:decide ((i:Int)<(S.N.length:Int))=true:=yb (by have:=HI.out;omega)
     have q1':decide (i<S.N.length)=true:=yb HI.out;have hw1:IntKind.i64.wrap ((i:Int)+1)=(i:Int)+1:=by rw[aJ];exact jK (by omega) (by have:=HI.out;have:=HS.out.N;omega)
     obtain⟨u,hu⟩:∃ u,u=S.N[i]'HI.out:=⟨_,rfl⟩;have HU:=Y (HS.out.n u (by rw[hu];exact List.getElem_mem _))
     obtain⟨p1,X0,x0,X1,x1,ep1,h1,h2,h3,h4,h5,h6⟩:=qD (Kd.aU HN.out.1 HB1.out) (i:Int) (by omega) (by have:=HI.out;omega)
     obtain⟨p2,Y0,y0,Y1,y1,ep2,k1',k2,k3,k4,k5,k6⟩:=qD (Kd.aU HN.out.2 HB1.out) (i:Int) (by omega) (by have:=HI.out;omega)
     rw[rdN' S.N i HI.out,<-hu]at h1 h2 h3 h4 h5 h6 k1' k2 k3 k4 k5 k6;subst ep1 ep2;have H1':=Y (H1.out.below HB1.out);have H2':=Y (H2.out.below HB1.out);have HX0:=Y h1;have HX1:=Y h2;have HY0:=Y k1';have HY1:=Y k2;have HCX0:=Y (And.intro h4 h3);have HCX1:=Y h6;have HCY0:=Y (And.intro k4 k3);have HCY1:=Y k6;have HL:=Y (show u.f0.length<=1000000/\u.f1.length<=1000000 by have h:=HU.out;exact⟨by have:=h.1;omega,by have:=h.2;omega⟩)
     clear h1 h2 h3 h4 h5 h6 k1' k2 k3 k4 k5 k6 hu;go_upto_region 11 with fail
     clear z0;refine mE 137 (IC wr [(0,76),(1,77),(2,78),(3,79),(4,80),(5,81),(6,82),(7,83),(8,84),(9,85),(10,86),(11,87),(12,88),(13,89),(14,90),(15,91),(16,92),(17,93),(18,94),(19,95),(20,96),(21,97),(22,98),(23,99),(24,100),(25,101),(26,102),(27,103),(28,104),(29,105),(30,106)] (P12b d1 d2 i S.N.length e1 e2 u.f0.length u.f1.length x0 x1 y0 y1 p1 p2 X0 X1 Y0 Y1) [] (fun _=>0)) (by kernel_rfl) (by rfl) (by kernel_rfl) IC.none ?st ?en
     case st=>
      refine .cons (fun a w1 L fr hl hi hI hdf hs hd K hK=>?_) ?_
      . exact zv rfl (fG (i:=2) (by decide) rfl ((fr 2 (by kernel_rfl)).trans rfl)) (hK _ _ (hI.pure (i:=0) (t:=76) (by rw[hs];decide) (by rw[hl];decide) (by decide)))
      refine .cons (fun a w1 L fr hl hi hI hdf hs hd K hK=>?_) ?_
      . exact zv rfl (iF rfl (hI.p (0,76) (by decide) (hd 0 76 (by kernel_rfl))) (((H1'.out.below hI.below).cell 2).trans rfl)) (hK _ _ (hI.pure (i:=1) (t:=77) (by rw[hs];decide) (by rw[hl];decide) (by decide)))
      refine .cons (fun a w1 L fr hl hi hI hdf hs hd K hK=>?_) ?_
      . exact zv rfl (aC rfl ((fr 6 (by kernel_rfl)).trans rfl)) (hK _ _ (hI.pure (i:=2) (t:=78) (by rw[hs];decide) (by rw[hl];decide) (by decide)))
      refine .cons (fun a w1 L fr hl hi hI hdf hs hd K hK=>?_) ?_
      . exact zv rfl (jL rfl (hI.p (1,77) (by decide) (hd 1 77 (by kernel_rfl))) (hI.p (2,78) (by decide) (hd 2 78 (by kernel_rfl))) HI.out) (hK _ _ (hI.pure (i:=3) (t:=79) (by rw[hs];decide) (by rw[hl];decide) (by decide)))
      refine .cons (fun a w1 L fr hl hi hI hdf hs hd K hK=>?_) ?_
      . exact zv rfl (rZ rfl (hI.p (3,79) (by decide) (hd 3 79 (by kernel_rfl)))) (hK _ _ (hI.pure (i:=4) (t:=80) (by rw[hs];decide) (by rw[hl];decide) (by decide)))
      refine .cons (fun a w1 L fr hl hi hI hdf hs hd K hK=>?_) ?_
      . exact zv rfl (dz rfl (hI.p (4,80) (by decide) (hd 4 80 (by kernel_rfl))) ((hI.below.cell (World.block_lt_of_cell? _ _ HX0.out)).trans HX0.out)) (hK _ _ (hI.pure (i:=5) (t:=81) (by rw[hs];decide) (by rw[hl];decide) (by decide)))
      refine .cons (fun a w1 L fr hl hi hI hdf hs hd K hK=>?_) ?_
      . exact zv rfl (fG (i:=2) (by decide) rfl ((fr 3 (by kernel_rfl)).trans rfl)) (hK _ _ (hI.pure (i:=6) (t:=82) (by rw[hs];decide) (by rw[hl];decide) (by decide)))
      refine .cons (fun a w1 L fr hl hi hI hdf hs hd K hK=>?_) ?_
      . exact zv rfl (iF rfl (hI.p (6,82) (by decide) (hd 6 82 (by kernel_rfl))) (((H2'.out.below hI.below).cell 2).trans rfl)) (hK _ _ (hI.pure (i:=7) (t:=83) (by rw[hs];decide) (by rw[hl];decide) (by decide)))
      refine .cons (fun a w1 L fr hl hi hI hdf hs hd K hK=>?_) ?_
      . exact zv rfl (aC rfl ((fr 6 (by kernel_rfl)).trans rfl)) (hK _ _ (hI.pure (i:=8) (t:=84) (by rw[hs];decide) (by rw[hl];decide) (by decide)))
      refine .cons (fun a w1 L fr hl hi hI hdf hs hd K hK=>?_) ?_
      . exact zv rfl (jL rfl (hI.p (7,83) (by decide) (hd 7 83 (by kernel_rfl))) (hI.p (8,84) (by decide) (hd 8 84 (by kernel_rfl))) HI.out) (hK _ _ (hI.pure (i:=9) (t:=85) (by rw[hs];decide) (by rw[hl];decide) (by decide)))
      refine .cons (fun a w1 L fr hl hi hI hdf hs hd K hK=>?_) ?_
      . exact zv rfl (rZ rfl (hI.p (9,85) (by decide) (hd 9 85 (by kernel_rfl)))) (hK _ _ (hI.pure (i:=10) (t:=86) (by rw[hs];decide) (by rw[hl];decide) (by decide)))
      refine .cons (fun a w1 L fr hl hi hI hdf hs hd K hK=>?_) ?_
      . exact zv rfl (dz rfl (hI.p (10,86) (by decide) (hd 10 86 (by kernel_rfl))) ((hI.below.cell (World.block_lt_of_cell? _ _ HY0.out)).trans HY0.out)) (hK _ _ (hI.pure (i:=11) (t:=87) (by rw[hs];decide) (by rw[hl];decide) (by decide)))
      refine .cons (fun a w1 L fr hl hi hI hdf hs hd K hK=>?_) ?_
      . refine .inl ⟨bU rfl,?_⟩;have e0:a.eval (.tmp 81)=.slice X0 u.f0.length x0:=(hI.p (5,81) (by decide) (hd 5 81 (by kernel_rfl)))
        have e1:a.eval (.tmp 87)=.slice Y0 u.f0.length y0:=(hI.p (11,87) (by decide) (hd 11 87 (by kernel_rfl)))
        refine ek Tryz.func47 (by kernel_rfl) rfl #[.slice X0 u.f0.length x0,.slice Y0 u.f0.length y0] rfl (by simp only[List.map_toArray,List.map_cons,List.map_nil,e0,e1]) ?_
        refine(wY HL.out.1 (Kd.aU HCX0.out.1 hI.below) HCX0.out.2 (Kd.aU HCY0.out.1 hI.below) HCY0.out.2).mono ?_;rintro e w2 ⟨rfl,hb2⟩;exact⟨_,rfl,hK _ _ ((hI.pure (i:=12) (t:=88) (by rw[hs];decide) (by rw[hl];decide) (by decide)).on hb2)⟩
      refine .cons (fun a w1 L fr hl hi hI hdf hs hd K hK=>?_) ?_
      . exact zv rfl (qG rfl (hI.p (12,88) (by decide) (hd 12 88 (by kernel_rfl)))) (hK _ _ (hI.pure (i:=13) (t:=89) (by rw[hs];decide) (by rw[hl];decide) (by decide)))
      refine .cons (fun a w1 L fr hl hi hI hdf hs hd K hK=>?_) ?_
      . exact zv rfl (aC rfl (hI.p (13,89) (by decide) (hd 13 89 (by kernel_rfl)))) (hK _ _ (hI.pure (i:=14) (t:=90) (by rw[hs];decide) (by rw[hl];decide) (by decide)))
      refine .cons (fun a w1 L fr hl hi hI hdf hs hd K hK=>?_) ?_
      . exact zg rfl rfl (hI.p (14,90) (by decide) (hd 14 90 (by kernel_rfl))) (fG (i:=2) (by decide) rfl ((fr 2 (by kernel_rfl)).trans rfl)) (hK _ _ (hI.pure (i:=15) (t:=91) (by rw[hs];decide) (by rw[hl];decide) (by decide)))
      refine .cons (fun a w1 L fr hl hi hI hdf hs hd K hK=>?_) ?_
      . exact zg rfl rfl (hI.p (14,90) (by decide) (hd 14 90 (by kernel_rfl))) (iF rfl (hI.p (15,91) (by decide) (hd 15 91 (by kernel_rfl))) (((H1'.out.below hI.below).cell 2).trans rfl)) (hK _ _ (hI.pure (i:=16) (t:=92) (by rw[hs];decide) (by rw[hl];decide) (by decide)))
      refine .cons (fun a w1 L fr hl hi hI hdf hs hd K hK=>?_) ?_
      . exact zg rfl rfl (hI.p (14,90) (by decide) (hd 14 90 (by kernel_rfl))) (aC rfl ((fr 6 (by kernel_rfl)).trans rfl)) (hK _ _ (hI.pure (i:=17) (t:=93) (by rw[hs];decide) (by rw[hl];decide) (by decide)))
      refine .cons (fun a w1 L fr hl hi hI hdf hs hd K hK=>?_) ?_
      . exact zg rfl rfl (hI.p (14,90) (by decide) (hd 14 90 (by kernel_rfl))) (jL rfl (hI.p (16,92) (by decide) (hd 16 92 (by kernel_rfl))) (hI.p (17,93) (by decide) (hd 17 93 (by kernel_rfl))) HI.out) (hK _ _ (hI.pure (i:=18) (t:=94) (by rw[hs];decide) (by rw[hl];decide) (by decide)))
      refine .cons (fun a w1 L fr hl hi hI hdf hs hd K hK=>?_) ?_
      . exact zg rfl rfl (hI.p (14,90) (by decide) (hd 14 90 (by kernel_rfl))) (l7 rfl (hI.p (18,94) (by decide) (hd 18 94 (by kernel_rfl)))) (hK _ _ (hI.pure (i:=19) (t:=95) (by rw[hs];decide) (by rw[hl];decide) (by decide)))
      refine .cons (fun a w1 L fr hl hi hI hdf hs hd K hK=>?_) ?_
      . exact zg rfl rfl (hI.p (14,90) (by decide) (hd 14 90 (by kernel_rfl))) (gJ rfl (hI.p (19,95) (by decide) (hd 19 95 (by kernel_rfl))) ((hI.below.cell (World.block_lt_of_cell? _ _ HX1.out)).trans HX1.out)) (hK _ _ (hI.pure (i:=20) (t:=96) (by rw[hs];decide) (by rw[hl];decide) (by decide)))
      refine .cons (fun a w1 L fr hl hi hI hdf hs hd K hK=>?_) ?_
      . exact zg rfl rfl (hI.p (14,90) (by decide) (hd 14 90 (by kernel_rfl))) (wB rfl (hI.p (20,96) (by decide) (hd 20 96 (by kernel_rfl)))) (hK _ _ (hI.pure (i:=21) (t:=97) (by rw[hs];decide) (by rw[hl];decide) (by decide)))
      refine .cons (fun a w1 L fr hl hi hI hdf hs hd K hK=>?_) ?_
      . exact zg rfl rfl (hI.p (14,90) (by decide) (hd 14 90 (by kernel_rfl))) (fG (i:=2) (by decide) rfl ((fr 3 (by kernel_rfl)).trans rfl)) (hK _ _ (hI.pure (i:=22) (t:=98) (by rw[hs];decide) (by rw[hl];decide) (by decide)))
      refine .cons (fun a w1 L fr hl hi hI hdf hs hd K hK=>?_) ?_
      . exact zg rfl rfl (hI.p (14,90) (by decide) (hd 14 90 (by kernel_rfl))) (iF rfl (hI.p (22,98) (by decide) (hd 22 98 (by kernel_rfl))) (((H2'.out.below hI.below).cell 2).trans rfl)) (hK _ _ (hI.pure (i:=23) (t:=99) (by rw[hs];decide) (by rw[hl];decide) (by decide)))
      refine .cons (fun a w1 L fr hl hi hI hdf hs hd K hK=>?_) ?_
      . exact zg rfl rfl (hI.p (14,90) (by decide) (hd 14 90 (by kernel_rfl))) (aC rfl ((fr 6 (by kernel_rfl)).trans rfl)) (hK _ _ (hI.pure (i:=24) (t:=100) (by rw[hs];decide) (by rw[hl];decide) (by decide)))
      refine .cons (fun a w1 L fr hl hi hI hdf hs hd K hK=>?_) ?_
      . exact zg rfl rfl (hI.p (14,90) (by decide) (hd 14 90 (by kernel_rfl))) (jL rfl (hI.p (23,99) (by decide) (hd 23 99 (by kernel_rfl))) (hI.p (24,100) (by decide) (hd 24 100 (by kernel_rfl))) HI.out) (hK _ _ (hI.pure (i:=25) (t:=101) (by rw[hs];decide) (by rw[hl];decide) (by decide)))
      refine .cons (fun a w1 L fr hl hi hI hdf hs hd K hK=>?_) ?_
      . exact zg rfl rfl (hI.p (14,90) (by decide) (hd 14 90 (by kernel_rfl))) (l7 rfl (hI.p (25,101) (by decide) (hd 25 101 (by kernel_rfl)))) (hK _ _ (hI.pure (i:=26) (t:=102) (by rw[hs];decide) (by rw[hl];decide) (by decide)))
      refine .cons (fun a w1 L fr hl hi hI hdf hs hd K hK=>?_) ?_
      . exact zg rfl rfl (hI.p (14,90) (by decide) (hd 14 90 (by kernel_rfl))) (gJ rfl (hI.p (26,102) (by decide) (hd 26 102 (by kernel_rfl))) ((hI.below.cell (World.block_lt_of_cell? _ _ HY1.out)).trans HY1.out)) (hK _ _ (hI.pure (i:=27) (t:=103) (by rw[hs];decide) (by rw[hl];decide) (by decide)))
      refine .cons (fun a w1 L fr hl hi hI hdf hs hd K hK=>?_) ?_
      . exact zg rfl rfl (hI.p (14,90) (by decide) (hd 14 90 (by kernel_rfl))) (wB rfl (hI.p (27,103) (by decide) (hd 27 103 (by kernel_rfl)))) (hK _ _ (hI.pure (i:=28) (t:=104) (by rw[hs];decide) (by rw[hl];decide) (by decide)))
      refine .cons (fun a w1 L fr hl hi hI hdf hs hd K hK=>?_) ?_
      . exact zg rfl rfl (hI.p (14,90) (by decide) (hd 14 90 (by kernel_rfl))) (Cz rfl (hI.p (21,97) (by decide) (hd 21 97 (by kernel_rfl))) (hI.p (28,104) (by decide) (hd 28 104 (by kernel_rfl)))) (hK _ _ (hI.pure (i:=29) (t:=105) (by rw[hs];decide) (by rw[hl];decide) (by decide)))
      refine .cons (fun a w1 L fr hl hi hI hdf hs hd K hK=>?_) ?_
      . exact zv rfl (rY rfl (hI.p (14,90) (by decide) (hd 14 90 (by kernel_rfl))) (hI.p (29,105) (by decide) (hd 29 105 (by kernel_rfl)))) (hK _ _ (hI.pure (i:=30) (t:=106) (by rw[hs];decide) (by rw[hl];decide) (by decide)))
      exact .nil
     case en=>
      intro vs w6 L hI hall hval;have ee:vs 30=.bool false:=(hval 30 106 (by kernel_rfl)).symm.trans (hI.p (30,106) (by decide) (hall 30 (by decide)))
      have HB6:=Y hI.below;simp only[bA,Act.put,zj,zr,ya,ee];clear hI hall hval ee;obtain⟨W3,hW3⟩:∃ W3,W3=wr:=⟨_,rfl⟩;go_wp2_with fail
      go_loopg [7] u.f1.length (fun kq v7 w'=>∃ j:Nat,v7=.int .i64 (j:Int)/\aa (j+kq=u.f1.length)/\aa (Below wr.heap.size wr w'))
      case atStart=>exact⟨0,rfl,⟨Nat.zero_add _⟩,HB6⟩
      case round=>
       clear HB6;obtain⟨j,rfl,HJ0,HB6⟩:=hrel;have z0:=((H1'.out.below HB6.out).cell 2).trans rfl;have zx:wr.cell? ⟨(p1.add (i*2)).block,(p1.add (i*2)).off+1,none⟩=some (.slice X1 u.f1.length x1):=(HB6.out.cell (World.block_lt_of_cell? _ _ HX1.out)).trans HX1.out;have hi0:(0:Int)<=(i:Int):=by omega
       have hi1:(i:Int)<(S.N.length:Int):=by have:=HI.out;omega
       cases gk with
       |zero=>
        have r1:decide ((j:Int)<(u.f1.length:Int))=false:=yd (by have:=HJ0.out;omega)
        have r1':decide (j<u.f1.length)=false:=yd (by have:=HJ0.out;omega)
        go_wp2_with fail;go_roundg k1
        case measure=>omega
        case rel=>exact⟨i+1,rfl,⟨by have:=HI0.out;omega⟩,⟨ag HB1.out HB1.out.size HB6.out⟩⟩
       |succ k2=>
        have HJ:=Y (show j<u.f1.length by have:=HJ0.out;omega)
        have r1:decide ((j:Int)<(u.f1.length:Int))=true:=yb (by have:=HJ.out;omega)
        have r1':decide (j<u.f1.length)=true:=yb HJ.out;have hw2:IntKind.i64.wrap ((j:Int)+1)=(j:Int)+1:=i64_in (by have:=HJ.out;have:=HU.out.2;omega)
        obtain⟨q1,eq1,hz1⟩:=o7 (Kd.aU HCX1.out HB6.out) HJ.out;obtain⟨q2,eq2,hz2⟩:=o7 (Kd.aU HCY1.out HB6.out) HJ.out;obtain⟨z,hz⟩:∃ z,z=u.f1[j]'HJ.out:=⟨_,rfl⟩;rw[<-hz]at hz1 hz2;subst eq1 eq2;have HZ1:=Y hz1;have HZ2:=Y hz2;have HX1':=Y zx;have HY1':=Y ((HB6.out.cell (World.block_lt_of_cell? _ _ HY1.out)).trans HY1.out);have H1'':=Y (H1'.out.below HB6.out);have H2'':=Y (H2'.out.below HB6.out);clear hz1 hz2 hz;go_upto_region 16 with fail
        clear z0 zx;refine mE 137 (IC wr [(0,118),(1,119),(2,120),(3,121),(4,122),(5,123),(6,124),(7,125),(8,126),(9,127),(10,128),(11,129),(12,130),(13,131),(14,132),(15,133),(16,134),(17,135),(18,136)] (P12c d1 d2 i j S.N.length e1 e2 u.f1.length x1 y1 p1 p2 q1 q2 z) [] (fun _=>0)) (by kernel_rfl) (by rfl) (by kernel_rfl) IC.none ?st ?en
        case st=>
         refine .cons (fun a w1 L fr hl hi hI hdf hs hd K hK=>?_) ?_
         . exact zv rfl (fG (i:=2) (by decide) rfl ((fr 2 (by kernel_rfl)).trans rfl)) (hK _ _ (hI.pure (i:=0) (t:=118) (by rw[hs];decide) (by rw[hl];decide) (by decide)))
         refine .cons (fun a w1 L fr hl hi hI hdf hs hd K hK=>?_) ?_
         . exact zv rfl (iF rfl (hI.p (0,118) (by decide) (hd 0 118 (by kernel_rfl))) (((H1''.out.below hI.below).cell 2).trans rfl)) (hK _ _ (hI.pure (i:=1) (t:=119) (by rw[hs];decide) (by rw[hl];decide) (by decide)))
         refine .cons (fun a w1 L fr hl hi hI hdf hs hd K hK=>?_) ?_
         . exact zv rfl (aC rfl ((fr 6 (by kernel_rfl)).trans rfl)) (hK _ _ (hI.pure (i:=2) (t:=120) (by rw[hs];decide) (by rw[hl];decide) (by decide)))
         refine .cons (fun a w1 L fr hl hi hI hdf hs hd K hK=>?_) ?_
         . exact zv rfl (jL rfl (hI.p (1,119) (by decide) (hd 1 119 (by kernel_rfl))) (hI.p (2,120) (by decide) (hd 2 120 (by kernel_rfl))) HI.out) (hK _ _ (hI.pure (i:=3) (t:=121) (by rw[hs];decide) (by rw[hl];decide) (by decide)))
         refine .cons (fun a w1 L fr hl hi hI hdf hs hd K hK=>?_) ?_
         . exact zv rfl (l7 rfl (hI.p (3,121) (by decide) (hd 3 121 (by kernel_rfl)))) (hK _ _ (hI.pure (i:=4) (t:=122) (by rw[hs];decide) (by rw[hl];decide) (by decide)))
         refine .cons (fun a w1 L fr hl hi hI hdf hs hd K hK=>?_) ?_
         . exact zv rfl (gJ rfl (hI.p (4,122) (by decide) (hd 4 122 (by kernel_rfl))) ((hI.below.cell (World.block_lt_of_cell? _ _ HX1'.out)).trans HX1'.out)) (hK _ _ (hI.pure (i:=5) (t:=123) (by rw[hs];decide) (by rw[hl];decide) (by decide)))
         refine .cons (fun a w1 L fr hl hi hI hdf hs hd K hK=>?_) ?_
         . exact zv rfl (aC rfl ((fr 7 (by kernel_rfl)).trans rfl)) (hK _ _ (hI.pure (i:=6) (t:=124) (by rw[hs];decide) (by rw[hl];decide) (by decide)))
         refine .cons (fun a w1 L fr hl hi hI hdf hs hd K hK=>?_) ?_
         . exact zv rfl (rP rfl (hI.p (5,123) (by decide) (hd 5 123 (by kernel_rfl))) (hI.p (6,124) (by decide) (hd 6 124 (by kernel_rfl))) HJ.out) (hK _ _ (hI.pure (i:=7) (t:=125) (by rw[hs];decide) (by rw[hl];decide) (by decide)))
         refine .cons (fun a w1 L fr hl hi hI hdf hs hd K hK=>?_) ?_
         . exact zv rfl (qK rfl (hI.p (7,125) (by decide) (hd 7 125 (by kernel_rfl))) ((hI.below.cell (World.block_lt_of_cell? _ _ HZ1.out)).trans HZ1.out)) (hK _ _ (hI.pure (i:=8) (t:=126) (by rw[hs];decide) (by rw[hl];decide) (by decide)))
         refine .cons (fun a w1 L fr hl hi hI hdf hs hd K hK=>?_) ?_
         . exact zv rfl (fG (i:=2) (by decide) rfl ((fr 3 (by kernel_rfl)).trans rfl)) (hK _ _ (hI.pure (i:=9) (t:=127) (by rw[hs];decide) (by rw[hl];decide) (by decide)))
         refine .cons (fun a w1 L fr hl hi hI hdf hs hd K hK=>?_) ?_
         . exact zv rfl (iF rfl (hI.p (9,127) (by decide) (hd 9 127 (by kernel_rfl))) (((H2''.out.below hI.below).cell 2).trans rfl)) (hK _ _ (hI.pure (i:=10) (t:=128) (by rw[hs];decide) (by rw[hl];decide) (by decide)))
         refine .cons (fun a w1 L fr hl hi hI hdf hs hd K hK=>?_) ?_
         . exact zv rfl (aC rfl ((fr 6 (by kernel_rfl)).trans rfl)) (hK _ _ (hI.pure (i:=11) (t:=129) (by rw[hs];decide) (by rw[hl];decide) (by decide)))
         refine .cons (fun a w1 L fr hl hi hI hdf hs hd K hK=>?_) ?_
         . exact zv rfl (jL rfl (hI.p (10,128) (by decide) (hd 10 128 (by kernel_rfl))) (hI.p (11,129) (by decide) (hd 11 129 (by kernel_rfl))) HI.out) (hK _ _ (hI.pure (i:=12) (t:=130) (by rw[hs];decide) (by rw[hl];decide) (by decide)))
         refine .cons (fun a w1 L fr hl hi hI hdf hs hd K hK=>?_) ?_
         . exact zv rfl (l7 rfl (hI.p (12,130) (by decide) (hd 12 130 (by kernel_rfl)))) (hK _ _ (hI.pure (i:=13) (t:=131) (by rw[hs];decide) (by rw[hl];decide) (by decide)))
         refine .cons (fun a w1 L fr hl hi hI hdf hs hd K hK=>?_) ?_
         . exact zv rfl (gJ rfl (hI.p (13,131) (by decide) (hd 13 131 (by kernel_rfl))) ((hI.below.cell (World.block_lt_of_cell? _ _ HY1'.out)).trans HY1'.out)) (hK _ _ (hI.pure (i:=14) (t:=132) (by rw[hs];decide) (by rw[hl];decide) (by decide)))
         refine .cons (fun a w1 L fr hl hi hI hdf hs hd K hK=>?_) ?_
         . exact zv rfl (aC rfl ((fr 7 (by kernel_rfl)).trans rfl)) (hK _ _ (hI.pure (i:=15) (t:=133) (by rw[hs];decide) (by rw[hl];decide) (by decide)))
         refine .cons (fun a w1 L fr hl hi hI hdf hs hd K hK=>?_) ?_
         . exact zv rfl (rP rfl (hI.p (14,132) (by decide) (hd 14 132 (by kernel_rfl))) (hI.p (15,133) (by decide) (hd 15 133 (by kernel_rfl))) HJ.out) (hK _ _ (hI.pure (i:=16) (t:=134) (by rw[hs];decide) (by rw[hl];decide) (by decide)))
         refine .cons (fun a w1 L fr hl hi hI hdf hs hd K hK=>?_) ?_
         . exact zv rfl (qK rfl (hI.p (16,134) (by decide) (hd 16 134 (by kernel_rfl))) ((hI.below.cell (World.block_lt_of_cell? _ _ HZ2.out)).trans HZ2.out)) (hK _ _ (hI.pure (i:=17) (t:=135) (by rw[hs];decide) (by rw[hl];decide) (by decide)))
         refine .cons (fun a w1 L fr hl hi hI hdf hs hd K hK=>?_) ?_
         . exact zv rfl (BK rfl (hI.p (8,126) (by decide) (hd 8 126 (by kernel_rfl))) (hI.p (17,135) (by decide) (hd 17 135 (by kernel_rfl)))) (hK _ _ (hI.pure (i:=18) (t:=136) (by rw[hs];decide) (by rw[hl];decide) (by decide)))
         exact .nil
        case en=>
         intro vs w6 L hI hall hval;have ee:vs 18=.bool false:=(hval 18 136 (by kernel_rfl)).symm.trans (hI.p (18,136) (by decide) (hall 18 (by decide)))
         have HB7:=Y hI.below;simp only[bA,Act.put,zj,zr,ya,ee];clear hI hall hval ee;go_wp2_with fail;go_roundg k2
         case measure=>omega
         case rel=>exact⟨j+1,rfl,⟨by have:=HJ0.out;omega⟩,⟨ag HB6.out HB6.out.size HB7.out⟩⟩
end
section
def rTF (nm:List Int)(t:S88):S88:=⟨eB nm t.f0,eB nm t.f1⟩
def rNF (nm:List Int)(N:List S89)(x:Int):S89:=⟨eB nm (N.getD (x.toNat - 1) gy).f0,(N.getD (x.toNat - 1) gy).f1⟩
section
variable {T:List S88} {G:List Int} {N:List S89} {nm:List Int}
theorem xw (hok:jA N.length nm)(hN:N.length<=100000)(hn:∀ t∈N,t.f0.length<=1000)(A1:List S88)(A2:List Int):∀(m i:Nat),i+m=nm.length->Ev (fun k=>demesneref28_Shape_Canon.l1 k nm (i:Int) T G N A1 A2 ((nm.take i).map (rNF nm N))) (A1,A2,nm.map (rNF nm N))
 |0,i,hi=>by
  refine Ev.step (f:=fun _=>some (A1,A2,nm.map (rNF nm N))) (fun k=>?_) (Ev.now _)
  show(if(i:Int)<(nm.length:Int)then _ else(some (A1,A2,(nm.take i).map (rNF nm N))))=_
  rw[if_neg (by omega),List.take_of_length_le (by omega)]
 |m+1,i,hi=>by
  have hil:i<nm.length:=by omega
  have hl:=hok.len;have hv:=hok.val nm[i] (List.getElem_mem hil);obtain⟨p,hp⟩:∃ p:Nat,nm[i]=(p:Int)+1:=⟨(nm[i] - 1).toNat,by omega⟩
  have hpl:p<N.length:=by omega
  have hw:wrap64 (nm[i] - 1)=(p:Int):=by rw[hp,show(p:Int)+1 - 1=(p:Int) by omega];exact jK (by omega) (by omega)
  have e2:N.getD (nm[i].toNat - 1) gy=N[p]:=by rw[hp,show((p:Int)+1).toNat - 1=p by omega,List.getD_eq_getElem?_getD,List.getElem?_eq_getElem hpl];rfl
  refine Ev.step (f:=fun k=>(demesneref28_renamed.f k (N[p]).f0 nm).bind fun t=>demesneref28_Shape_Canon.l1 k nm ((i+1:Nat):Int) T G N A1 A2 ((nm.take i).map (rNF nm N)++[(⟨t,(N[p]).f1⟩:S89)])) (fun k=>?_) ?_
  . show(if(i:Int)<(nm.length:Int)then(if 0<=(i:Int)then(if 0<=(wrap64 ((rd nm (i:Int)) - 1))then(if(wrap64 ((rd nm (i:Int)) - 1))<(N.length:Int)then((demesneref28_renamed.f k ((aV N (wrap64 ((rd nm (i:Int)) - 1))).f0) nm).bind fun t=>(if((nm.take i).map (rNF nm N)).length<2932031007402 then(demesneref28_Shape_Canon.l1 k nm (wrap64 ((i:Int)+1)) T G N A1 A2 ((nm.take i).map (rNF nm N)++[(⟨t,(aV N (wrap64 ((rd nm (i:Int)) - 1))).f1⟩:S89)]))else(none)))else(none))else(none))else(none))else _)=_
    rw[if_pos (by omega),if_pos (by omega),o5 hil,hw,if_pos (by omega),if_pos (by omega),rdN' N p hpl,w1n (by omega)]
    refine congrArg _ (funext fun t=>?_)
    rw[if_pos (by rw[List.length_map,List.length_take];omega)]
  . refine Ev.bind (uL _ nm (by have:=hn _ (List.getElem_mem hpl);omega) (by omega)) ?_
    have e:(nm.take i).map (rNF nm N)++[(⟨eB nm (N[p]).f0,(N[p]).f1⟩:S89)]=(nm.take (i+1)).map (rNF nm N):=by
     rw[List.take_succ_eq_append_getElem hil,List.map_append,List.map_singleton];unfold rNF;rw[e2]
    rw[e];exact xw hok hN hn A1 A2 m (i+1) (by omega)
theorem xG (hok:jA N.length nm)(hT:T.length<=300)(ht:∀ t∈T,t.f0.length<=1000/\t.f1.length<=1000)(hG:G.length<=1000)(hN:N.length<=100000)(hn:∀ t∈N,t.f0.length<=1000):∀(m i:Nat),i+m=T.length->Ev (fun k=>demesneref28_Shape_Canon.l0 k nm (i:Int) T G N ((T.take i).map (rTF nm))) (T.map (rTF nm),eB nm G,nm.map (rNF nm N))
 |0,i,hi=>by
  have hl:=hok.len;refine Ev.step (f:=fun k=>(demesneref28_renamed.f k G nm).bind fun t=>demesneref28_Shape_Canon.l1 k nm ((0:Nat):Int) T G N (T.map (rTF nm)) t ((nm.take 0).map (rNF nm N))) (fun k=>?_) ?_
  . show(if(i:Int)<(T.length:Int)then _ else((demesneref28_renamed.f k G nm).bind fun t=>(demesneref28_Shape_Canon.l1 k nm 0 T G N ((T.take i).map (rTF nm)) t ([]:List (S89)))))=_
    rw[if_neg (by omega),List.take_of_length_le (by omega)]
    rfl
  . exact Ev.bind (uL G nm (by omega) (by omega)) (xw hok hN hn _ _ nm.length 0 (by omega))
 |m+1,i,hi=>by
  have hil:i<T.length:=by omega
  have hl:=hok.len;have hti:=ht _ (List.getElem_mem hil);refine Ev.step (f:=fun k=>(demesneref28_renamed.f k (T[i]).f0 nm).bind fun t=>(demesneref28_renamed.f k (T[i]).f1 nm).bind fun u=>demesneref28_Shape_Canon.l0 k nm ((i+1:Nat):Int) T G N ((T.take i).map (rTF nm)++[(⟨t,u⟩:S88)])) (fun k=>?_) ?_
  . show(if(i:Int)<(T.length:Int)then(if 0<=(i:Int)then((demesneref28_renamed.f k ((df T (i:Int)).f0) nm).bind fun t=>((demesneref28_renamed.f k ((df T (i:Int)).f1) nm).bind fun u=>(if((T.take i).map (rTF nm)).length<2932031007402 then(demesneref28_Shape_Canon.l0 k nm (wrap64 ((i:Int)+1)) T G N ((T.take i).map (rTF nm)++[(⟨t,u⟩:S88)]))else(none))))else(none))else _)=_
    rw[if_pos (by omega),if_pos (by omega),rdT' T i hil,w1n (by omega)]
    refine congrArg _ (funext fun t=>congrArg _ (funext fun u=>?_))
    rw[if_pos (by rw[List.length_map,List.length_take];omega)]
  . refine Ev.bind (uL _ nm (by omega) (by omega)) (Ev.bind (uL _ nm (by omega) (by omega)) ?_)
    have e:(T.take i).map (rTF nm)++[(⟨eB nm (T[i]).f0,eB nm (T[i]).f1⟩:S88)]=(T.take (i+1)).map (rTF nm):=by
     rw[List.take_succ_eq_append_getElem hil,List.map_append];rfl
    rw[e];exact xG hok hT ht hG hN hn m (i+1) (by omega)
end
theorem xP (S:Sh):jA S.N.length (ig S):=by
 have hok:jA S.N.length (stC S).1:=(ym (qL S) _ _ rfl).1;exact(qo S.N.length 0 (stC S).1 [] hok (Nat.zero_le _) (by omega)).2.1
theorem zo (S:Sh)(hS:Mid S):∃ k,demesneref28_Shape_Canon.f k S.T S.G S.N=some ((dV S).T,(dV S).G,(dV S).N):=by
 refine Ev.rounds ?_;rw[uM S];exact Ev.bind (f:=fun k t=>demesneref28_Shape_Canon.l0 k t 0 S.T S.G S.N ([]:List (S88))) (met_ev S hS) (xG (xP S) hS.T hS.t hS.G hS.N (fun t ht=>(hS.n t ht).1) S.T.length 0 (by omega))
theorem Ci (S:Sh)(hS:Mid S):Mid (dV S):=by
 rw[uM S];have hl:=(xP S).len;have hr:∀(l:List Int),(eB (ig S) l).length=l.length:=fun l=>by unfold eB;rw[List.length_map]
 refine⟨by show(S.T.map _).length<=_;rw[List.length_map];exact hS.T,fun t ht=>?_,by show(eB _ _).length<=_;rw[hr];exact hS.G,by show((ig S).map _).length<=_;rw[List.length_map];have:=hS.N;omega,fun t ht=>?_⟩
 . obtain⟨u,hu,rfl⟩:=List.mem_map.1 (show t∈S.T.map _ from ht)
   have:=hS.t u hu;exact⟨by show(eB _ _).length<=_;rw[hr];exact this.1,by show(eB _ _).length<=_;rw[hr];exact this.2⟩
 . obtain⟨u,hu,rfl⟩:=List.mem_map.1 (show t∈(ig S).map _ from ht)
   have hN:∀ p,(S.N.getD p gy).f0.length<=1000/\(S.N.getD p gy).f1.length<=1000:=fun p=>by
    rw[List.getD_eq_getElem?_getD];cases e:S.N[p]? with
    |none=>exact⟨Nat.zero_le _,Nat.zero_le _⟩
    |some x=>exact hS.n x (List.mem_of_getElem? e)
   exact⟨by show(eB _ _).length<=_;rw[hr];exact(hN _).1,(hN _).2⟩
end
section
def wN:Prop:=∀ w:World,Calls Tryz.prog 5 #[] w fun e w'=>e=.returned (.bool true)/\Below w.heap.size w w'
section
variable {o:Oper} {a:Act} {W:World}
theorem tH {x y:Operand}{A:Option Addr}{p:Addr}{n c k:Nat}(ho:o.op=.indexAddr 22 x y)(hA:A=some p)(hx:a.eval x=.slice A n c)(hy:a.eval y=.int .i64 (k:Int))(hk:k<n):(execOp a.eval o).run Tryz.prog W=.ok (.value (.pointer (some (p.add (k*6))))) W:=by
 have h1:(0:Int)<=(k:Int):=by omega
 have h2:(k:Int)<(n:Int):=by omega
 subst hA;generalize a.eval=E at hx hy ⊢;unfold execOp;simp only[ho,hx,hy]
 go_simp
end
theorem nR {F:Nat->Prop}{w W W':World}(hb:Below w.heap.size w W)(hk:Kp F W W')(hF:∀ q,F q->w.heap.size<=q):Below w.heap.size w W':=
 ⟨hk.os.trans hb.os,hk.tape.trans hb.tape,hk.output.trans hb.output,Nat.le_trans hb.size hk.size,fun q hq=>(hk.block q (Nat.lt_of_lt_of_le hq hb.size) (fun h=>absurd (hF q h) (by omega))).trans (hb.block q hq)⟩
def LA (w:World)(g h n:Nat)(M1 M2:Gm)(W:World):Prop:=∃ F1 x1 F2 x2,GL F1 W g x1 M1/\GR F2 W h x2 M2/\(∀ q,F1 q->w.heap.size<=q)/\(∀ q,F2 q->w.heap.size<=q)/\(∀ q,F1 q->¬ F2 q)/\M1.O.length<=n/\M2.O.length<=n/\Below w.heap.size w W
theorem LA.does {w W:World}{g h n:Nat}{M:Gm}(H:LA w g h n M M W)(hn:n<1000)(x:A35)(hv:(Lit.int .u64 x.v).wf=true):
 Calls Tryz.prog 8 #[.pointer (some ⟨g,0,none⟩),e35 x] W fun e W'=>(∃ r,e=.returned r)/\LA w g h (n+1) (oG M x.d x.t x.a x.b x.c x.v) M W':=by
 obtain⟨F1,x1,F2,x2,h1,h2,f1,f2,fd,l1,l2,hb⟩:=H;refine(ED h1 (by omega) x.d x.t x.a x.b x.c x.v hv).mono ?_
 rintro e W' ⟨hr,F',x',g1,hk,hF⟩
 have hd:∀ q,F' q->¬ F2 q:=fun q hq hq2=>by
  rcases hF q hq with hq'|hq'
  . exact fd q hq' hq2
  . have:=h2.lt q hq2;omega
 refine⟨hr,F',x',F2,x2,g1,h2.kp hk (fun q hq _ hq1=>fd q hq1 hq),fun q hq=>?_,f2,hd,?_,by omega,nR hb hk f1⟩
 . rcases hF q hq with hq'|hq'
   . exact f1 q hq'
   . exact Nat.le_trans hb.size hq'
 . have:=act_len M x.d x.t x.a x.b x.c x.v;omega
theorem LA.says {w W:World}{g h n:Nat}{M:Gm}{x:A35}(H:LA w g h (n+1) (oG M x.d x.t x.a x.b x.c x.v) M W)(hn:n<999)(hv:(Lit.int .u64 x.v).wf=true):
 Calls Tryz.prog 9 #[.pointer (some ⟨h,0,none⟩),e35 x] W fun e W'=>(∃ r,e=.returned r)/\LA w g h (n+1) (oG M x.d x.t x.a x.b x.c x.v) (oG M x.d x.t x.a x.b x.c x.v) W':=by
 obtain⟨F1,x1,F2,x2,h1,h2,f1,f2,fd,l1,l2,hb⟩:=H;refine(ES h2 (by omega) x.d x.t x.a x.b x.c x.v hv).mono ?_
 rintro e W' ⟨hr,F',x',g1,hk,hF⟩;refine⟨hr,F1,x1,F',x',h1.kp hk (fun q hq _ hq1=>fd q hq hq1),g1,f1,fun q hq=>?_,fun q hq hq2=>?_,l1,l1,nR hb hk f2⟩
 . rcases hF q hq with hq'|hq'
   . exact f2 q hq'
   . exact Nat.le_trans hb.size hq'
 . rcases hF q hq2 with hq'|hq'
   . exact fd q hq hq'
   . have:=h1.lt q hq;omega
theorem LA.start {w W1 W2:World}{g h:Nat}{M:Gm}(H1:∃ F x,GL F W1 g x M/\Below w.heap.size w W1/\∀ q,F q->w.heap.size<=q)(H2:∃ F x,GR F W2 h x M/\Below W1.heap.size W1 W2/\∀ q,F q->W1.heap.size<=q)(hM:M.O.length<=0):LA w g h 0 M M W2:=by
 obtain⟨F1,x1,h1,b1,f1⟩:=H1;obtain⟨F2,x2,h2,b2,f2⟩:=H2;refine⟨F1,x1,F2,x2,h1.below b2,h2,f1,fun q hq=>Nat.le_trans b1.size (f2 q hq),fun q hq hq2=>?_,hM,hM,ag b1 b1.size b2⟩
 have:=h1.lt q hq;have:=f2 q hq2;omega
theorem LA.shapes {w W:World}{g h n:Nat}{M:Gm}(H:LA w g h n M M W):(∃ F x,GL F W g x M)/\(∃ F x,GR F W h x M)/\Gwf M/\Below w.heap.size w W:=by
 obtain⟨F1,x1,F2,x2,h1,h2,f1,f2,fd,l1,l2,hb⟩:=H;exact⟨⟨F1,x1,h1⟩,⟨F2,x2,h2⟩,h1.wf,hb⟩
theorem EJ {M:Gm}(h:Gwf M):∃ k,demesneref28_Shape_Canon.f k (M.T.map t88) M.G (M.O.map t89)=some ((dV (shM M)).T,(dV (shM M)).G,(dV (shM M)).N):=zo (shM M) (rC h)
end
end Go.Proofs.YtglikkmmbdnmbaaGreat.Im

/- At every input the law ReplayGraph answers true, and its arguments read as they did; no condition. -/
import Derived.Test.YtglikkmmbdnmbaaGreatRows
import Derived.Test.YtglikkmmbdnmbaaGreatQ19
import Derived.RowKit
import Derived.Lib.SmallJoins
import Derived.WalkKit
import Derived.ProofKit
import Derived.OpenShut
set_option maxHeartbeats 8000000
set_option maxRecDepth 100000
section
namespace Go.Proofs.YtglikkmmbdnmbaaGreat.replayGraph
open Go.ChangeShapes Go.WideShapes Go.ChangeAt Go.RowKit
open Go.Proofs.YtglikkmmbdnmbaaGreat.Q7 Go.Proofs.YtglikkmmbdnmbaaGreat.Own Go.Proofs.YtglikkmmbdnmbaaGreat.Im
set_option linter.unusedVariables false
set_option linter.unusedSimpArgs false
theorem cells35:Tryz.prog.cellsOf 35=6:=by kernel_rfl
theorem cells5:Tryz.prog.cellsOf 5=1:=by kernel_rfl
theorem cells3:Tryz.prog.cellsOf 3=1:=by kernel_rfl
theorem cells31:Tryz.prog.cellsOf 31=1:=by kernel_rfl
theorem opens35 {H:Type} {enc:TypeId×Value→H} {W:World}:wM enc Tryz.prog W k35 35 (fun x=>(Lit.int .u64 x.v).wf=true):=by
 intro base spare held fuel cs x h
 obtain ⟨hlen,hfs⟩:=fields_of Tryz.underlying35 h
 rw [cells35] at hlen
 obtain ⟨x0,x1,x2,x3,x4,x5,rfl⟩:∃ x0 x1 x2 x3 x4 x5,cs=[x0,x1,x2,x3,x4,x5]:=by
  match cs,hlen with
  |[x0,x1,x2,x3,x4,x5],_=>exact ⟨x0,x1,x2,x3,x4,x5,rfl⟩
 obtain ⟨_,_,t0⟩:=hfs 0 _ rfl
 obtain ⟨_,_,t1⟩:=hfs 1 _ rfl
 obtain ⟨_,_,t2⟩:=hfs 2 _ rfl
 obtain ⟨_,_,t3⟩:=hfs 3 _ rfl
 obtain ⟨_,_,t4⟩:=hfs 4 _ rfl
 obtain ⟨_,_,t5⟩:=hfs 5 _ rfl
 obtain ⟨n0,e0,b0⟩:=lg Tryz.underlying5 t0
 obtain ⟨n1,e1,b1⟩:=lg Tryz.underlying3 t1
 obtain ⟨n2,e2,b2⟩:=lg Tryz.underlying3 t2
 obtain ⟨n3,e3,b3⟩:=lg Tryz.underlying3 t3
 obtain ⟨n4,e4,b4⟩:=lg Tryz.underlying3 t4
 obtain ⟨n5,e5,b5⟩:=lg Tryz.underlying31 t5
 have f0:List.take (Tryz.prog.cellsOf 5) (List.drop 0 [x0,x1,x2,x3,x4,x5])=[.int .u8 n0]:=e0
 have f1:List.take (Tryz.prog.cellsOf 3) (List.drop 1 [x0,x1,x2,x3,x4,x5])=[.int .i64 n1]:=e1
 have f2:List.take (Tryz.prog.cellsOf 3) (List.drop 2 [x0,x1,x2,x3,x4,x5])=[.int .i64 n2]:=e2
 have f3:List.take (Tryz.prog.cellsOf 3) (List.drop 3 [x0,x1,x2,x3,x4,x5])=[.int .i64 n3]:=e3
 have f4:List.take (Tryz.prog.cellsOf 3) (List.drop 4 [x0,x1,x2,x3,x4,x5])=[.int .i64 n4]:=e4
 have f5:List.take (Tryz.prog.cellsOf 31) (List.drop 5 [x0,x1,x2,x3,x4,x5])=[.int .u64 n5]:=e5
 rw [cells5] at f0
 rw [cells3] at f1 f2 f3 f4
 rw [cells31] at f5
 simp only [List.drop_zero,List.drop_succ_cons,List.take_succ_cons,List.take_zero,List.cons.injEq,and_true] at f0 f1 f2 f3 f4 f5
 clear e0 e1 e2 e3 e4 e5 t0 t1 t2 t3 t4 t5 hfs h
 subst f0 f1 f2 f3 f4 f5
 exact ⟨⟨n0,n1,n2,n3,n4,n5⟩,rfl,b5⟩
theorem own:ownKnob Tryz.prog.godebug=none:=by kernel_rfl
theorem laidOut:laidOutB Tryz.prog=true:=by kernel_rfl
theorem lifted (os:Os) (started:os.Started) (H:Type) (enc:TypeId×Value→H):
 ReturnsInHanded {} Tryz.checked os 3 .any (Rows.replayGraphSpec.pre6 enc Tryz.prog Tryz.f3 Rows.replayGraphRow.domain false) (Rows.replayGraphSpec.post enc Tryz.prog Tryz.f3 false true false false):=by
 refine returnsInHanded_of_change (C:=Tryz.checked) own started (by kernel_rfl) Tryz.func3
  (ChangeSpec.witness6 (enc:=enc) (C:=Tryz.checked) false ⟨#[],#[.int .i64 0,.int .i64 0,.int .i64 0,.slice none 0 0],[]⟩ 8 (by kernel_rfl) (by kernel_rfl) (by kernel_rfl) (by kernel_rfl)) ?_
 intro W base args ds gs before hval0 hW hcnd _
 have hval:∀(j:Nat) t v,Tryz.f3.params[j]? =some t→args[j]? =some v→Value.okWide Tryz.prog W .any base t v:=hval0
 have hW':=hW
 obtain ⟨p,q,hA0,hV,rfl,hfz,hnd⟩:=hW
 have hA:DataW.TrodAll enc Tryz.prog W 0 (fun _=>true) true Tryz.f3.params.toList args.toList ds p:=hA0
 rw [Tryz.params3] at hA hval
 obtain ⟨v0,vs0,d0,ds0,p0,q0,hargs,rfl,rfl,h0,r0⟩:=trodAll_cons hA
 obtain ⟨v1,vs1,d1,ds1,p1,q1,rfl,rfl,rfl,h1,r1⟩:=trodAll_cons r0
 obtain ⟨v2,vs2,d2,ds2,p2,q2,rfl,rfl,rfl,h2,r2⟩:=trodAll_cons r1
 obtain ⟨v3,vs3,d3,ds3,p3,q3,rfl,rfl,rfl,h3,r3⟩:=trodAll_cons r2
 obtain ⟨rfl,rfl,rfl⟩:=trodAll_nil r3
 obtain rfl:args=#[v0,v1,v2,v3]:=by cases args;simp_all
 obtain ⟨rfl,rfl⟩:=trodVars_none hV
 obtain ⟨a0,rfl,rfl,rfl,w0⟩:=open_int Tryz.underlying3 (hval 0 3 v0 rfl rfl) h0
 obtain ⟨a1,rfl,rfl,rfl,w1⟩:=open_int Tryz.underlying3 (hval 1 3 v1 rfl rfl) h1
 obtain ⟨a2,rfl,rfl,rfl,w2⟩:=open_int Tryz.underlying3 (hval 2 3 v2 rfl rfl) h2
 have k3:=h3
 have lt3:∀ x∈p3,x.block<W.heap.size:=by obtain ⟨m,hm⟩:=k3;exact DataW.trod_lt m _ _ _ hm
 obtain ⟨l,A0,c0,rfl,hc0,hC,hwf⟩:∃(l:List A35) (A0:Option Addr) (c0:Nat),v3=.slice A0 l.length c0∧l.length≤c0∧Kd.C k35 W A0 l.length l∧∀ d∈l,(Lit.int .u64 d.v).wf=true:=by
  obtain ⟨a,len,cap,rfl⟩:=okWide_slice Tryz.underlying22 (hval 3 22 v3 rfl rfl)
  obtain ⟨fuel,hf⟩:=h3
  obtain ⟨l,⟨A0,c0,e0,hc0,hG⟩,hok⟩:=yH Tryz.underlying22 (by kernel_rfl) opens35 hf
  refine ⟨l,A0,c0,?_,hc0,hG,hok⟩
  have e1:[Value.slice a len cap]=[.slice A0 l.length c0]:=e0
  simpa using e1
 clear hA0 hval0
 refine (Db yG a0 a1 a2 l A0 c0 W hC hc0 hwf).mono fun e W' ⟨he,bel⟩=>?_
 subst he
 exact ⟨_,rfl,_,_,_,[],_,[],hW',trodAll_mk1 (shut_bool Tryz.underlying4 _),(trodAll_cons_mk (shut_int Tryz.underlying3 w0) (trodAll_cons_mk (shut_int Tryz.underlying3 w1) (trodAll_cons_mk (shut_int Tryz.underlying3 w2) (trodAll_cons_mk (Below.trod laidOut (by kernel_rfl) (of_decide_eq_true (by kernel_rfl)) k3 bel lt3) trodAll_mk0)))),rfl,bel.frame _,fun h=>by cases h⟩
theorem over:Rows.replayGraphRow.holds Tryz.pinned (OpenSpec.ofChange Rows.replayGraphSpec):=
 OpenClaim.holds_of_wide 3 Tryz.f3 rfl rfl rfl rfl rfl rfl rfl ⟨rfl,rfl,rfl,rfl,rfl⟩ rfl rfl rfl rfl rfl (by kernel_rfl) Tryz.func3 (by kernel_rfl)
  (of_decide_eq_true (by kernel_rfl)) (by unfold Func.isWrapper;first|(rw [if_pos (by decide+kernel)];kernel_rfl)|(rw [if_neg (by decide+kernel)];exact ⟨rfl,rfl⟩))
  (fun os started H enc _=>lifted os started H enc)
end Go.Proofs.YtglikkmmbdnmbaaGreat.replayGraph
namespace Go.Proofs.YtglikkmmbdnmbaaGreat
theorem replayGraph_holds:Rows.ReplayGraphSaid:=replayGraph.over
#print axioms replayGraph_holds
end Go.Proofs.YtglikkmmbdnmbaaGreat
end

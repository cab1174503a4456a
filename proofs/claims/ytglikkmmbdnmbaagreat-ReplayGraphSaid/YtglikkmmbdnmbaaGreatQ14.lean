/- ### demesneref28_Shape_Canon: function 48 -/
import Derived.Test.YtglikkmmbdnmbaaGreatQ02
import Derived.Test.YtglikkmmbdnmbaaGreatQ12
import Derived.Test.YtglikkmmbdnmbaaGreatQ13
set_option maxHeartbeats 8000000
set_option maxRecDepth 100000
namespace Go.Proofs.YtglikkmmbdnmbaaGreat.PCan
open Go.RowKit Q7
attribute [local go_sem] lJ lZ mY nz lm kW lY lK -- for this text's walks alone
set_option linter.unusedVariables false
set_option linter.unusedSimpArgs false
section
mutual
def demesneref28_Shape_Canon.l0:Nat->List Int->Int->List (S88)->List Int->List (S89)->List (S88)->Option ((List (S88))×List Int×(List (S89)))
 |0,_,_,_,_,_,_=>none
 |k+1,x3,x5,x403000,x403001,x403002,x408000=>if x5<(x403000.length:Int)then(if 0<=x5 then((demesneref28_renamed.f k ((df x403000 x5).f0) x3).bind fun t409=>((demesneref28_renamed.f k ((df x403000 x5).f1) x3).bind fun t413=>(if x408000.length<2932031007402 then(demesneref28_Shape_Canon.l0 k x3 (wrap64 (x5+1)) x403000 x403001 x403002 (x408000++[(⟨t409,t413⟩:S88)]))else(none))))else(none))else((demesneref28_renamed.f k x403001 x3).bind fun t419=>(demesneref28_Shape_Canon.l1 k x3 0 x403000 x403001 x403002 x408000 t419 ([]:List (S89))))
def demesneref28_Shape_Canon.l1:Nat->List Int->Int->List (S88)->List Int->List (S89)->List (S88)->List Int->List (S89)->Option ((List (S88))×List Int×(List (S89)))
 |0,_,_,_,_,_,_,_,_=>none
 |k+1,x3,x6,x403000,x403001,x403002,x408000,x408001,x408002=>if x6<(x3.length:Int)then(if 0<=x6 then(if 0<=(wrap64 ((rd x3 x6) - 1))then(if(wrap64 ((rd x3 x6) - 1))<(x403002.length:Int)then((demesneref28_renamed.f k ((aV x403002 (wrap64 ((rd x3 x6) - 1))).f0) x3).bind fun t425=>(if x408002.length<2932031007402 then(demesneref28_Shape_Canon.l1 k x3 (wrap64 (x6+1)) x403000 x403001 x403002 x408000 x408001 (x408002++[(⟨t425,(aV x403002 (wrap64 ((rd x3 x6) - 1))).f1⟩:S89)]))else(none)))else(none))else(none))else(none))else(some (x408000,x408001,x408002))
end
def demesneref28_Shape_Canon.f (k:Nat)(l0_0:List (S88))(l0_1:List Int)(l0_2:List (S89)):Option ((List (S88))×List Int×(List (S89))):=(demesneref28_Shape_met.f k l0_0 l0_1 l0_2).bind fun t404=>(demesneref28_Shape_Canon.l0 k t404 0 l0_0 l0_1 l0_2 ([]:List (S88)))
def demesneref28_Shape_Canon.T6:Bool×List (List Nat×List Nat):=(true,[([],[]),([0],[0]),([],[]),([2],[2]),([],[]),([3,4],[3,4]),([5],[5]),([6],[6]),([],[]),([7,8],[7,8]),([],[]),([10],[10]),([],[]),([11,12],[11,12]),([13],[13]),([14],[14]),([],[]),([15,16,9],[15,16]),([9,17],[9,17]),([18],[18]),([1,19,17],[1,19]),([0,1,2,3,4,5,6,7,8,9,10,11,12,13,14,15,16,17,18,19,20],[]),([21,20,20,0,1,2,3,4,5,6,7,8,9,10,11,12,13,14,15,16,17,18,19,20],[20,21])])
def demesneref28_Shape_Canon.B6:List Nat:=[0,1,0,4,0,28,60,124,0,508,0,1024,0,7168,15360,31744,0,131068,262140,524284,1048575,2097151,4194303]
theorem demesneref28_Shape_Canon.tab6:iL .any (opsOf Tryz.f48 6)=demesneref28_Shape_Canon.T6:=by kernel_rfl
theorem demesneref28_Shape_Canon.bits6:lM demesneref28_Shape_Canon.T6.2 demesneref28_Shape_Canon.B6=true:=by kernel_rfl
def demesneref28_Shape_Canon.T11:Bool×List (List Nat×List Nat):=(true,[([],[]),([0],[0]),([],[]),([],[]),([2,3],[2,3]),([4],[4]),([5],[5]),([1,6],[1,6]),([7],[7]),([],[]),([9,8,0,1,2,3,4,5,6,7,8,9],[8,9])])
def demesneref28_Shape_Canon.B11:List Nat:=[0,1,0,0,12,28,60,127,255,0,1023]
theorem demesneref28_Shape_Canon.tab11:iL .any (opsOf Tryz.f48 11)=demesneref28_Shape_Canon.T11:=by kernel_rfl
theorem demesneref28_Shape_Canon.bits11:lM demesneref28_Shape_Canon.T11.2 demesneref28_Shape_Canon.B11=true:=by kernel_rfl
def demesneref28_Shape_Canon.T12:Bool×List (List Nat×List Nat):=(true,[([],[]),([0],[0]),([],[]),([2],[2]),([],[]),([3,4],[3,4]),([],[]),([6],[6]),([5,7],[5,7]),([8],[8]),([1,9,5],[1,9]),([0,1,2,3,4,5,6,7,8,9,10],[]),([11,10,10,0,1,2,3,4,5,6,7,8,9,10],[10,11])])
def demesneref28_Shape_Canon.B12:List Nat:=[0,1,0,4,0,28,0,64,252,508,1023,2047,4095]
theorem demesneref28_Shape_Canon.tab12:iL .any (opsOf Tryz.f48 12)=demesneref28_Shape_Canon.T12:=by kernel_rfl
theorem demesneref28_Shape_Canon.bits12:lM demesneref28_Shape_Canon.T12.2 demesneref28_Shape_Canon.B12=true:=by kernel_rfl
theorem demesneref28_Shape_Canon.calls (k:Nat)(A0_0:Option Addr)(c0_0:Nat)(l0_0:List (S88))(A0_1:Option Addr)(c0_1:Nat)(l0_1:List Int)(P0_2_:Nat->Prop)(A0_2:Option Addr)(c0_2:Nat)(l0_2:List (S89))(r1:List (S88))(r2:List Int)(r3:List (S89))(w:World)(hr0_0:Kd.C k88 w A0_0 l0_0.length l0_0)(hc0_0:l0_0.length<=c0_0)(hr0_1:Kd.C (Kd.int .i64) w A0_1 l0_1.length l0_1)(hc0_1:l0_1.length<=c0_1)(hs0_2:Kd.V k89 89 w w.heap.size (fun k_=>P0_2_ k_) (.slice A0_2 l0_2.length c0_2) l0_2)(h:demesneref28_Shape_Canon.f k l0_0 l0_1 l0_2=some (r1,r2,r3)):
 Calls Tryz.prog 48 #[.agg #[.slice A0_0 l0_0.length c0_0,.slice A0_1 l0_1.length c0_1,.slice A0_2 l0_2.length c0_2]] w fun e w'=>∃ v0_ v1_ v2_:Value,e=.returned (.agg #[v0_,v1_,v2_])/\Kd.N k88 88 w' w.heap.size (fun k_=>(P0_2_ k_\/w.heap.size<=k_)/\some k_≠(v1_:Value).ownBlock/\some k_≠(v2_:Value).ownBlock) v0_ r1/\Kd.R (Kd.int .i64) 3 w' w.heap.size (fun k_=>(w.heap.size<=k_)) v1_ r2/\Kd.N k89 89 w' w.heap.size (fun k_=>(P0_2_ k_\/w.heap.size<=k_)/\some k_≠(v0_:Value).ownBlock/\some k_≠(v1_:Value).ownBlock) v2_ r3/\Below w.heap.size w w':=by
 have hu41:=Tryz.underlying41;have hu88:=Tryz.underlying88;have hu89:=Tryz.underlying89;have HR0_0:=Y hr0_0;have HC0_0:=Y hc0_0;clear hr0_0 hc0_0;have HR0_1:=Y hr0_1;have HC0_1:=Y hc0_1;clear hr0_1 hc0_1;have HO0_2:=Y (show Kd.V k89 89 w w.heap.size (fun k_=>(P0_2_ k_\/w.heap.size<=k_)) (.slice A0_2 l0_2.length c0_2) l0_2 from Kd.dU hs0_2 (fun k_ hk=>.inl hk))
 have HB:=Y (Below.refl w.heap.size w);have H:((demesneref28_Shape_met.f k l0_0 l0_1 l0_2).bind fun t404=>(demesneref28_Shape_Canon.l0 k t404 0 l0_0 l0_1 l0_2 ([]:List (S88))))=some (r1,r2,r3):=h
 clear h
 replace H:=Option.bind_eq_some_iff.mp H
 obtain⟨t404,A20,H⟩:=H
 replace H:(demesneref28_Shape_Canon.l0 k t404 0 l0_0 l0_1 l0_2 ([]:List (S88)))=some (r1,r2,r3):=H
 have A2:=Y A20;clear A20;have H':=Y H;clear H;go_enter Tryz.func48,Tryz.ntmps48;go_wp2_with (first|((with_reducible refine aW (N:=1) rfl ?_);refine j3 ?hg (N:=1) ?hd (cs:=#[.slice A0_0 l0_0.length c0_0,.slice A0_1 l0_1.length c0_1,.slice A0_2 l0_2.length c0_2]) (t:=41) ?hr ?_;(case hd=>rfl);(case hg=>rfl);(case hr=>first|(go_simp;done)|(go_simp;rfl));intro gb402 hg w3 hbox hb;have n0_:=Y (Kd.ko (Kd.jC (by(with_reducible repeat (first|apply Kd.bJ|apply Kd.bK|apply Kd.bQ));exact HO0_2.out) gb402 (Nat.le_of_eq hg.symm)) hb);have n1_:=Y (ed (by repeat (first|(with_reducible first|exact HB.out|apply ae|apply ah|apply av)|exact HB.out)) hb);have n2_:=Y (hbox);have n3_:=Y ((by rw[hg];exact(bq (by repeat (first|(with_reducible first|exact HB.out|apply ae|apply ah|apply av)|exact HB.out))):w.heap.size<=gb402));have n4_:=Y ((by rw[hg];exact(bq (by repeat (first|(with_reducible first|exact HB.out|apply ae|apply ah|apply av)|exact HB.out))):w.heap.size<=gb402));clear HO0_2;clear HB;have HO0_2:=n0_;have HB:=n1_;have BK402:=n2_;have GW402:=n3_;have GE402:=n4_;clear n0_ n1_ n2_ n3_ n4_;clear hb hbox hg)|((with_reducible refine aW (N:=2) rfl ?_);refine j3 ?hg (N:=2) ?hd (cs:=#[.slice none 0 0,.slice none 0 0,.slice none 0 0]) (t:=41) ?hr ?_;(case hd=>rfl);(case hg=>rfl);(case hr=>first|(go_simp;done)|(go_simp;rfl));intro gb403 hg w4 hbox hb;have n0_:=Y (Kd.ko (Kd.jC (by(with_reducible repeat (first|apply Kd.bJ|apply Kd.bK|apply Kd.bQ));exact HO0_2.out) gb403 (Nat.le_of_eq hg.symm)) hb);have n1_:=Y (dw (g:=gb402) (o:=.cells #[.slice A0_0 l0_0.length c0_0,.slice A0_1 l0_1.length c0_1,.slice A0_2 l0_2.length c0_2] 41 (0,0)) (by(with_reducible repeat (first|refine ay ?_ _|refine az ?_|refine ax ?_ _));exact BK402.out) hb);have n2_:=Y (ed (by repeat (first|(with_reducible first|exact HB.out|apply ae|apply ah|apply av|refine aj ?_ GE402.out)|exact HB.out)) hb);have n3_:=Y (hbox);have n4_:=Y ((by rw[hg];exact(bq (by repeat (first|(with_reducible first|exact HB.out|apply ae|apply ah|apply av|refine aj ?_ GE402.out)|exact HB.out))):w.heap.size<=gb403));have n5_:=Y ((by rw[hg];exact(bq (by repeat (first|(with_reducible first|exact HB.out|apply ae|apply ah|apply av|refine aj ?_ GE402.out)|exact HB.out))):w.heap.size<=gb403));have n6_:=Y ((by rw[hg];exact Nat.ne_of_lt (gU (g:=gb402) (o:=.cells #[.slice A0_0 l0_0.length c0_0,.slice A0_1 l0_1.length c0_1,.slice A0_2 l0_2.length c0_2] 41 (0,0)) (by(with_reducible repeat (first|refine ay ?_ _|refine az ?_|refine ax ?_ _));exact BK402.out)):gb402≠gb403));have n7_:=Y ((by rw[hg];exact Nat.ne_of_gt (gU (g:=gb402) (o:=.cells #[.slice A0_0 l0_0.length c0_0,.slice A0_1 l0_1.length c0_1,.slice A0_2 l0_2.length c0_2] 41 (0,0)) (by(with_reducible repeat (first|refine ay ?_ _|refine az ?_|refine ax ?_ _));exact BK402.out)):gb403≠gb402));clear HO0_2;clear BK402;clear HB;have HO0_2:=n0_;have BK402:=n1_;have HB:=n2_;have BK403:=n3_;have GW403:=n4_;have GE403:=n5_;have NB402_403:=n6_;have NB403_402:=n7_;clear n0_ n1_ n2_ n3_ n4_ n5_ n6_ n7_;clear hb hbox hg;have hnb5:=NB402_403.out;have hnc5:=NB403_402.out;have hcz6_0:w4.cell? ⟨gb402,0,none⟩=some (.slice A0_0 l0_0.length c0_0):=(aA BK402.out 0).trans rfl;have hcz6_1:w4.cell? ⟨gb402,1,none⟩=some (.slice A0_1 l0_1.length c0_1):=(aA BK402.out 1).trans rfl;have hcz6_2:w4.cell? ⟨gb402,2,none⟩=some (.slice A0_2 l0_2.length c0_2):=(aA BK402.out 2).trans rfl;have hfz6_0:=ak BK402.out 0;have hfz6_1:=ak BK402.out 1;have hfz6_2:=ak BK402.out 2)|((with_reducible refine oP (f:=82) rfl ?_);refine xN (some 9) rfl rfl Tryz.func82 (by kernel_rfl) rfl #[.agg #[.slice A0_0 l0_0.length c0_0,.slice A0_1 l0_1.length c0_1,.slice A0_2 l0_2.length c0_2]] rfl (by(try simp only[List.map_toArray,List.map_cons,List.map_nil]);first|done|rfl|(simp only[List.length_drop,List.length_take];rfl)) ?_;(with_reducible refine(demesneref28_Shape_met.calls k _ _ l0_0 _ _ l0_1 (fun k_=>(((P0_2_ k_\/w.heap.size<=k_)/\k_≠gb402)/\k_≠gb403)) _ _ l0_2 t404 _ ?side1 ?side2 ?side3 ?side4 ?side5 A2.out).mono ?_);(case side1=>repeat (first|exact(Kd.aU HR0_0.out HB.out)|(with_reducible refine Kd.dn ?_ _)|(with_reducible refine Kd.dB ?_ _)|(with_reducible refine Kd.dS ?_)));(case side2=>exact HC0_0.out);(case side3=>repeat (first|exact(Kd.aU HR0_1.out HB.out)|(with_reducible refine Kd.dn ?_ _)|(with_reducible refine Kd.dB ?_ _)|(with_reducible refine Kd.dS ?_)));(case side4=>exact HC0_1.out);(case side5=>exact HO0_2.out);rintro e w7 ⟨v405,rfl,ho0,hb⟩;refine⟨_,rfl,?_⟩;have n0_:=Y (Kd.jc (by(with_reducible repeat (first|apply Kd.bJ|apply Kd.bK|apply Kd.bQ));exact HO0_2.out) (Kd.dG ho0) hb);have n1_:=Y (Kd.cB (Kd.mD (M:=fun k_=>(w.heap.size<=k_)) (Kd.bY (ok':=fun k_=>True) ho0 (fun _ hk_=>trivial)) (bq (by repeat (first|(with_reducible first|exact HB.out|apply ae|apply ah|apply av|refine aj ?_ GE402.out|refine aj ?_ GE403.out)|exact HB.out))) (fun k_ h_=>h_)) (bq (by repeat (first|(with_reducible first|exact HB.out|apply ae|apply ah|apply av|refine aj ?_ GE402.out|refine aj ?_ GE403.out)|exact HB.out))));have n2_:=Y (dw (g:=gb402) (o:=.cells #[.slice A0_0 l0_0.length c0_0,.slice A0_1 l0_1.length c0_1,.slice A0_2 l0_2.length c0_2] 41 (0,0)) (by(with_reducible repeat (first|refine ay ?_ _|refine az ?_|refine ax ?_ _));exact BK402.out) hb);have n3_:=Y (dw (g:=gb403) (o:=.cells #[.slice none 0 0,.slice none 0 0,.slice none 0 0] 41 (0,0)) (by(with_reducible repeat (first|refine ay ?_ _|refine az ?_|refine ax ?_ _));exact BK403.out) hb);have n4_:=Y (ed (by repeat (first|(with_reducible first|exact HB.out|apply ae|apply ah|apply av|refine aj ?_ GE402.out|refine aj ?_ GE403.out)|exact HB.out)) hb);clear HO0_2;clear BK402;clear BK403;clear HB;have HO0_2:=n0_;have HO406:=n1_;have BK402:=n2_;have BK403:=n3_;have HB:=n4_;clear n0_ n1_ n2_ n3_ n4_;(try clear hb);(try clear hb2);(try clear hk);(try clear hi);(try clear ho0))|((with_reducible refine aW (N:=4) rfl ?_);refine j3 ?hg (N:=4) ?hd (cs:=#[.slice none 0 0,.slice none 0 0,.slice none 0 0]) (t:=41) ?hr ?_;(case hd=>rfl);(case hg=>rfl);(case hr=>first|(go_simp;done)|(go_simp;rfl));intro gb407 hg w8 hbox hb;have n0_:=Y (Kd.ko (Kd.jC (by(with_reducible repeat (first|apply Kd.bJ|apply Kd.bK|apply Kd.bQ));exact HO0_2.out) gb407 (Nat.le_of_eq hg.symm)) hb);have n1_:=Y (Kd.aX (by(with_reducible repeat (first|apply Kd.bF|apply Kd.bL|apply Kd.bP));exact HO406.out) hb);have n2_:=Y (dw (g:=gb402) (o:=.cells #[.slice A0_0 l0_0.length c0_0,.slice A0_1 l0_1.length c0_1,.slice A0_2 l0_2.length c0_2] 41 (0,0)) (by(with_reducible repeat (first|refine ay ?_ _|refine az ?_|refine ax ?_ _));exact BK402.out) hb);have n3_:=Y (dw (g:=gb403) (o:=.cells #[.slice none 0 0,.slice none 0 0,.slice none 0 0] 41 (0,0)) (by(with_reducible repeat (first|refine ay ?_ _|refine az ?_|refine ax ?_ _));exact BK403.out) hb);have n4_:=Y (ed (by repeat (first|(with_reducible first|exact HB.out|apply ae|apply ah|apply av|refine aj ?_ GE402.out|refine aj ?_ GE403.out)|exact HB.out)) hb);have n5_:=Y (hbox);have n6_:=Y ((by rw[hg];exact(bq (by repeat (first|(with_reducible first|exact HB.out|apply ae|apply ah|apply av|refine aj ?_ GE402.out|refine aj ?_ GE403.out)|exact HB.out))):w.heap.size<=gb407));have n7_:=Y ((by rw[hg];exact(bq (by repeat (first|(with_reducible first|exact HB.out|apply ae|apply ah|apply av|refine aj ?_ GE402.out|refine aj ?_ GE403.out)|exact HB.out))):w.heap.size<=gb407));have n8_:=Y ((by rw[hg];exact Nat.ne_of_lt (gU (g:=gb402) (o:=.cells #[.slice A0_0 l0_0.length c0_0,.slice A0_1 l0_1.length c0_1,.slice A0_2 l0_2.length c0_2] 41 (0,0)) (by(with_reducible repeat (first|refine ay ?_ _|refine az ?_|refine ax ?_ _));exact BK402.out)):gb402≠gb407));have n9_:=Y ((by rw[hg];exact Nat.ne_of_gt (gU (g:=gb402) (o:=.cells #[.slice A0_0 l0_0.length c0_0,.slice A0_1 l0_1.length c0_1,.slice A0_2 l0_2.length c0_2] 41 (0,0)) (by(with_reducible repeat (first|refine ay ?_ _|refine az ?_|refine ax ?_ _));exact BK402.out)):gb407≠gb402));have n10_:=Y ((by rw[hg];exact Nat.ne_of_lt (gU (g:=gb403) (o:=.cells #[.slice none 0 0,.slice none 0 0,.slice none 0 0] 41 (0,0)) (by(with_reducible repeat (first|refine ay ?_ _|refine az ?_|refine ax ?_ _));exact BK403.out)):gb403≠gb407));have n11_:=Y ((by rw[hg];exact Nat.ne_of_gt (gU (g:=gb403) (o:=.cells #[.slice none 0 0,.slice none 0 0,.slice none 0 0] 41 (0,0)) (by(with_reducible repeat (first|refine ay ?_ _|refine az ?_|refine ax ?_ _));exact BK403.out)):gb407≠gb403));clear HO0_2;clear HO406;clear BK402;clear BK403;clear HB;have HO0_2:=n0_;have HO406:=n1_;have BK402:=n2_;have BK403:=n3_;have HB:=n4_;have BK407:=n5_;have GW407:=n6_;have GE407:=n7_;have NB402_407:=n8_;have NB407_402:=n9_;have NB403_407:=n10_;have NB407_403:=n11_;clear n0_ n1_ n2_ n3_ n4_ n5_ n6_ n7_ n8_ n9_ n10_ n11_;clear hb hbox hg))
 go_loopg [5] k (fun kq v5 w'=>∃(x5_1:Int) (x408000_1:List (S88)) (u408000:Value),v5=.int .i64 x5_1/\aa (demesneref28_Shape_Canon.l0 kq t404 x5_1 l0_0 l0_1 l0_2 x408000_1=some (r1,r2,r3))/\aa (kq<=k)/\aa (Kd.R (Kd.int .i64) 3 w' w.heap.size (fun k_=>(w.heap.size<=k_)) v405 t404)/\aa (Kd.V k89 89 w' w.heap.size (fun k_=>(P0_2_ k_\/w.heap.size<=k_)/\some k_≠(v405:Value).ownBlock/\some k_≠(u408000:Value).ownBlock/\k_≠gb402/\k_≠gb403/\k_≠gb407) (.slice A0_2 l0_2.length c0_2) l0_2)/\aa (Kd.N k88 88 w' w.heap.size (fun k_=>(P0_2_ k_\/w.heap.size<=k_)/\some k_≠(v405:Value).ownBlock/\k_≠gb402/\k_≠gb403/\k_≠gb407) u408000 x408000_1)/\aa (w'.heap[gb402]? =some (.cells #[(.slice A0_0 l0_0.length c0_0),(.slice A0_1 l0_1.length c0_1),(.slice A0_2 l0_2.length c0_2)] 41 (0,0)))/\aa (w'.heap[gb403]? =some (.cells #[(.slice none 0 0),(.slice none 0 0),(.slice none 0 0)] 41 (0,0)))/\aa (w'.heap[gb407]? =some (.cells #[u408000,(.slice none 0 0),(.slice none 0 0)] 41 (0,0)))/\aa (Below w.heap.size w w'))
 case atStart=>exact⟨(0),(([]:List (S88))),(.slice none 0 0),(by first|rfl|(simp;done)|(simp[*];done)),H',⟨Nat.le_refl _⟩,⟨by(with_reducible repeat (first|apply Kd.bF|apply Kd.bL|apply Kd.bP));exact Kd.bY HO406.out (fun _ hk=>hk.1)⟩,⟨by(with_reducible repeat (first|apply Kd.bJ|apply Kd.bK|apply Kd.bQ));exact Kd.dU HO0_2.out (fun _ hk=>⟨hk.1.1.1.1,⟨hk.1.2,⟨(by simp[Value.ownBlock]),⟨hk.1.1.1.2,⟨hk.1.1.2,hk.2⟩⟩⟩⟩⟩)⟩,⟨by first|exact Kd.S_nil _ _ _ _ _|exact Kd.tY _ _ _ _ _|exact Kd.tT _ _ _ _ _|exact Kd.Q_nil _ _ _ _ _|exact Kd.fo _ _ _ _ _⟩,⟨by(with_reducible repeat (first|refine ay ?_ _|refine az ?_|refine ax ?_ _));exact BK402.out⟩,⟨by(with_reducible repeat (first|refine ay ?_ _|refine az ?_|refine ax ?_ _));exact BK403.out⟩,⟨by(with_reducible repeat (first|refine ay ?_ _|refine az ?_|refine ax ?_ _));exact BK407.out⟩,⟨by repeat (first|(with_reducible first|exact HB.out|apply ae|apply ah|apply av|refine aj ?_ GE402.out|refine aj ?_ GE403.out|refine aj ?_ GE407.out)|exact HB.out)⟩⟩
 case round=>
  clear H'
  try clear p2
  try clear c4
  try clear c5
  try clear c8
  try clear hcz6_0
  try clear hcz6_1
  try clear hcz6_2
  try clear hfz6_0
  try clear hfz6_1
  try clear hfz6_2
  obtain⟨x5_1,x408000_1,u408000,rfl,HA,HK1,HO_3,HO_403002,HO_408000,BK402,BK403,BK407,HB⟩:=hrel;cases gk with
  |zero=>exact absurd HA.out (by simp[demesneref28_Shape_Canon.l0])
  |succ k1=>
   have H:=HA.out;clear HA;simp only[demesneref28_Shape_Canon.l0]at H
   by_cases c9:x5_1<(l0_0.length:Int)
   . rw[if_pos c9]at H;have c9b0:decide (x5_1<(l0_0.length:Int))=true:=yb c9;clear c9
     by_cases c10:0<=x5_1
     . rw[if_pos c10]at H;have c10b0:decide (0<=x5_1)=true:=yb c10;clear c10
       replace H:=Option.bind_eq_some_iff.mp H
       obtain⟨t409,A110,H⟩:=H
       replace H:((demesneref28_renamed.f k1 ((df l0_0 x5_1).f1) t404).bind fun t413=>(if x408000_1.length<2932031007402 then(demesneref28_Shape_Canon.l0 k1 t404 (wrap64 (x5_1+1)) l0_0 l0_1 l0_2 (x408000_1++[(⟨t409,t413⟩:S88)]))else(none)))=some (r1,r2,r3):=H
       have A11:=Y A110;clear A110
       replace H:=Option.bind_eq_some_iff.mp H
       obtain⟨t413,A120,H⟩:=H
       replace H:(if x408000_1.length<2932031007402 then(demesneref28_Shape_Canon.l0 k1 t404 (wrap64 (x5_1+1)) l0_0 l0_1 l0_2 (x408000_1++[(⟨t409,t413⟩:S88)]))else(none))=some (r1,r2,r3):=H
       have A12:=Y A120;clear A120
       by_cases c13:x408000_1.length<2932031007402
       . rw[if_pos c13]at H;have LMc13:=Y c13;clear c13;obtain⟨y416,hy416⟩:∃ y_:List (S88),y_=(x408000_1++[(⟨t409,t413⟩:S88)]):=⟨_,rfl⟩
         replace H:(demesneref28_Shape_Canon.l0 k1 t404 (wrap64 (x5_1+1)) l0_0 l0_1 l0_2 y416)=some (r1,r2,r3):=by first|(rw[hy416];with_reducible exact H)|(have H2_:=(Option.bind_some _ _).symm.trans H;rw[hy416];with_reducible exact H2_)|(have H2_:=(Option.bind_some _ _).symm.trans H;with_reducible exact H2_)|with_reducible exact H|(rw[hy416];exact H)|exact H
         have Ny416:=Y hy416;clear hy416;have H':=Y H;clear H;have hnb14:=NB402_403.out;have hnc14:=NB403_402.out;have hnb15:=NB402_407.out;have hnc15:=NB407_402.out;have hcz16_0:wr.cell? ⟨gb402,0,none⟩=some (.slice A0_0 l0_0.length c0_0):=(aA BK402.out 0).trans rfl;have hcz16_1:wr.cell? ⟨gb402,1,none⟩=some (.slice A0_1 l0_1.length c0_1):=(aA BK402.out 1).trans rfl;have hcz16_2:wr.cell? ⟨gb402,2,none⟩=some (.slice A0_2 l0_2.length c0_2):=(aA BK402.out 2).trans rfl;have hfz16_0:=ak BK402.out 0;have hfz16_1:=ak BK402.out 1;have hfz16_2:=ak BK402.out 2
         try go_wp2
         have n0_:=Y (Kd.bP HO_3.out);have n1_:=Y (Kd.bQ HO_403002.out);have n2_:=Y (Kd.eu HO_408000.out);have n3_:=Y (az BK402.out);have n4_:=Y (az BK403.out);have n5_:=Y (az BK407.out);have n6_:=Y (av HB.out);clear HO_3;clear HO_403002;clear HO_408000;clear BK402;clear BK403;clear BK407;clear HB;have HO_3:=n0_;have HO_403002:=n1_;have HO_408000:=n2_;have BK402:=n3_;have BK403:=n4_;have BK407:=n5_;have HB:=n6_;clear n0_ n1_ n2_ n3_ n4_ n5_ n6_;have p408:0<=(x5_1:Int):=of_decide_eq_true (by first|(with_reducible assumption)|assumption)
         have q408:x5_1<(l0_0.length:Int):=of_decide_eq_true (by first|(with_reducible assumption)|assumption)
         obtain⟨ad408,A408_0,c408_0,A408_1,c408_1,e408,hx408_0,hx408_1,hl408_0,hi408_0,hl408_1,hi408_1⟩:=nH HR0_0.out x5_1 p408 q408;have hw408_1:=hx408_1;have hw408_0:=hx408_0;cases e408
         replace hx408_0:=(HB.out.cell (World.block_lt_of_cell? w _ hx408_0)).trans hx408_0
         replace hx408_1:=(HB.out.cell (World.block_lt_of_cell? w _ hx408_1)).trans hx408_1
         have HR408_0:=Y hi408_0;have HC408_0:=Y hl408_0;clear hi408_0 hl408_0;have HR408_1:=Y hi408_1;have HC408_1:=Y hl408_1;clear hi408_1 hl408_1
         replace p408:=eq_true p408
         replace q408:=eq_true q408
         have p412:0<=(x5_1:Int):=of_decide_eq_true (by first|(with_reducible assumption)|assumption)
         have q412:x5_1<(l0_0.length:Int):=of_decide_eq_true (by first|(with_reducible assumption)|assumption)
         obtain⟨ad412,A412_0,c412_0,A412_1,c412_1,e412,hx412_0,hx412_1,hl412_0,hi412_0,hl412_1,hi412_1⟩:=nH HR0_0.out x5_1 p412 q412;have hw412_1:=hx412_1;have hw412_0:=hx412_0;obtain rfl:ad408=ad412:=(by injection e412)
         replace hx412_0:=(HB.out.cell (World.block_lt_of_cell? w _ hx412_0)).trans hx412_0
         replace hx412_1:=(HB.out.cell (World.block_lt_of_cell? w _ hx412_1)).trans hx412_1
         have HR412_0:=Y hi412_0;have HC412_0:=Y hl412_0;clear hi412_0 hl412_0;have HR412_1:=Y hi412_1;have HC412_1:=Y hl412_1;clear hi412_1 hl412_1
         replace p412:=eq_true p412
         replace q412:=eq_true q412
         have ea_:=Option.some.inj (hx408_0.symm.trans hx412_0);injection ea_ with ea_ en_ ec_
         subst ea_;subst ec_;clear en_;have ea_:=Option.some.inj (hx408_1.symm.trans hx412_1);injection ea_ with ea_ en_ ec_
         subst ea_;subst ec_;clear en_;obtain⟨Ao18,co18,eo18⟩:=Kd.aD HO_3.out
         (first|subst eo18|(injection eo18 with f1_ f2_ f3_;have f4_:=f1_.symm;have f5_:=f3_.symm;clear f1_ f2_ f3_;subst f4_;subst f5_))
         refine nE (n:=23) (S:=fun w'=>w'.cell? ⟨gb407,0,none⟩=some (u408000)/\w'.cell? ⟨gb407,1,none⟩=some (.slice none 0 0)/\w'.cell? ⟨gb407,2,none⟩=some (.slice none 0 0)/\w'.cell? ⟨gb402,0,none⟩=some (.slice (some ad408) l0_0.length c0_0)/\w'.cell? ⟨gb402,1,none⟩=some (.slice A0_1 l0_1.length c0_1)/\w'.cell? ⟨gb402,2,none⟩=some (.slice A0_2 l0_2.length c0_2)/\w'.cell? (ad408.add ((x5_1).toNat*2))=some (.slice A408_0 ((df l0_0 x5_1).f0).length c408_0)/\w'.cell? ⟨(ad408.add ((x5_1).toNat*2)).block,(ad408.add ((x5_1).toNat*2)).off+1,none⟩=some (.slice A408_1 ((df l0_0 x5_1).f1).length c408_1)/\w'.cell? (ad408.add ((x5_1).toNat*2))=some (.slice A408_0 ((df l0_0 x5_1).f0).length c408_0)/\w'.cell? ⟨(ad408.add ((x5_1).toNat*2)).block,(ad408.add ((x5_1).toNat*2)).off+1,none⟩=some (.slice A408_1 ((df l0_0 x5_1).f1).length c408_1)) (ds:=[22]) #[yi,yi,yi,yi,yi,yi,yi,yi,yi,yi,yi,yi,yi,yi,yi,yi,yi,yi,yi,yi,yi,yi,yi] (by kernel_rfl) rfl rfl ⟨(aA BK407.out 0).trans rfl,(aA BK407.out 1).trans rfl,(aA BK407.out 2).trans rfl,(aA BK402.out 0).trans rfl,(aA BK402.out 1).trans rfl,(aA BK402.out 2).trans rfl,((HB.out.cell (World.block_lt_of_cell? w _ hw408_0)).trans hw408_0),((HB.out.cell (World.block_lt_of_cell? w _ hw408_1)).trans hw408_1),((HB.out.cell (World.block_lt_of_cell? w _ hw412_0)).trans hw412_0),((HB.out.cell (World.block_lt_of_cell? w _ hw412_1)).trans hw412_1)⟩ (fun hHeld=>?_);refine qE demesneref28_Shape_Canon.tab6 demesneref28_Shape_Canon.bits6 (fun HT_ HW_=>?_)
         generalize wr.drew=w17 at HO_3 HO_403002 HO_408000 BK402 BK403 BK407 HB HR408_0 HR408_1 HR412_0 HR412_1 hx408_0 hx408_1 hx412_0 hx412_1 hHeld ⊢;refine bz (i:=0) (N:=some 17) (v:=?_) (a':=?_) #[ye,yi,yi,yi,yi,yi,yi,yi,yi,yi,yi,yi,yi,yi,yi,yi,yi,yi,yi,yi,yi,yi,yi] rfl rfl (eQ HT_.out (by kernel_rfl)) (fun _ _ _ h=>h) (Or.inl ⟨by rfl,?_⟩) ?_ ?_
         rotate_left
         . intro w'
           go_simp
           with_reducible rfl
         rotate_left
         . simp only[Act.put,zj,zr,ya,aJ,aT];rfl
         refine bz (i:=2) (N:=some 19) (v:=?_) (a':=?_) #[ye,yi,ye,yi,yi,yi,yi,yi,yi,yi,yi,yi,yi,yi,yi,yi,yi,yi,yi,yi,yi,yi,yi] rfl rfl (eQ HT_.out (by kernel_rfl)) (fun _ _ _ h=>h) (Or.inl ⟨by rfl,?_⟩) ?_ ?_
         rotate_left
         . intro w'
           go_simp
           with_reducible rfl
         rotate_left
         . simp only[Act.put,zj,zr,ya,aJ,aT];rfl
         refine bz (i:=4) (N:=some 21) (v:=?_) (a':=?_) #[ye,yi,ye,yi,ye,yi,yi,yi,yi,yi,yi,yi,yi,yi,yi,yi,yi,yi,yi,yi,yi,yi,yi] rfl rfl (eQ HT_.out (by kernel_rfl)) (fun _ _ _ h=>h) (Or.inl ⟨by rfl,?_⟩) ?_ ?_
         rotate_left
         . intro w'
           go_simp
           with_reducible rfl
         rotate_left
         . simp only[Act.put,zj,zr,ya,aJ,aT];rfl
         refine bz (i:=8) (N:=some 25) (v:=?_) (a':=?_) #[ye,yi,ye,yi,ye,yi,yi,yi,ye,yi,yi,yi,yi,yi,yi,yi,yi,yi,yi,yi,yi,yi,yi] rfl rfl (eQ HT_.out (by kernel_rfl)) (fun _ _ _ h=>h) (Or.inl ⟨by rfl,?_⟩) ?_ ?_
         rotate_left
         . intro w'
           go_simp
           with_reducible rfl
         rotate_left
         . simp only[Act.put,zj,zr,ya,aJ,aT];rfl
         refine bz (i:=10) (N:=some 27) (v:=?_) (a':=?_) #[ye,yi,ye,yi,ye,yi,yi,yi,ye,yi,ye,yi,yi,yi,yi,yi,yi,yi,yi,yi,yi,yi,yi] rfl rfl (eQ HT_.out (by kernel_rfl)) (fun _ _ _ h=>h) (Or.inl ⟨by rfl,?_⟩) ?_ ?_
         rotate_left
         . intro w'
           go_simp
           with_reducible rfl
         rotate_left
         . simp only[Act.put,zj,zr,ya,aJ,aT];rfl
         refine bz (i:=12) (N:=some 29) (v:=?_) (a':=?_) #[ye,yi,ye,yi,ye,yi,yi,yi,ye,yi,ye,yi,ye,yi,yi,yi,yi,yi,yi,yi,yi,yi,yi] rfl rfl (eQ HT_.out (by kernel_rfl)) (fun _ _ _ h=>h) (Or.inl ⟨by rfl,?_⟩) ?_ ?_
         rotate_left
         . intro w'
           go_simp
           with_reducible rfl
         rotate_left
         . simp only[Act.put,zj,zr,ya,aJ,aT];rfl
         refine bz (i:=16) (N:=some 33) (v:=?_) (a':=?_) #[ye,yi,ye,yi,ye,yi,yi,yi,ye,yi,ye,yi,ye,yi,yi,yi,ye,yi,yi,yi,yi,yi,yi] rfl rfl (eQ HT_.out (by kernel_rfl)) (fun _ _ _ h=>h) (Or.inl ⟨by rfl,?_⟩) ?_ ?_
         rotate_left
         . intro w'
           go_simp
           with_reducible rfl
         rotate_left
         . simp only[Act.put,zj,zr,ya,aJ,aT];rfl
         refine iY (i:=1) (N:=some 18) (v:=?_) (a':=?_) #[ye,ye,ye,yi,ye,yi,yi,yi,ye,yi,ye,yi,ye,yi,yi,yi,ye,yi,yi,yi,yi,yi,yi] rfl rfl (iJ HT_.out HW_.out (by kernel_rfl)) (fun _ _ _ h=>h) (Or.inl ⟨by rfl,?_⟩) hHeld ?_ ?_
         rotate_left
         . rintro w' ⟨s0,s1,s2,s3,s4,s5,s6,s7,s8,s9⟩
           go_simp
           with_reducible rfl
         rotate_left
         . simp only[Act.put,zj,zr,ya,aJ,aT];rfl
         refine iY (i:=3) (N:=some 20) (v:=?_) (a':=?_) #[ye,ye,ye,ye,ye,yi,yi,yi,ye,yi,ye,yi,ye,yi,yi,yi,ye,yi,yi,yi,yi,yi,yi] rfl rfl (iJ HT_.out HW_.out (by kernel_rfl)) (fun _ _ _ h=>h) (Or.inl ⟨by rfl,?_⟩) hHeld ?_ ?_
         rotate_left
         . rintro w' ⟨s0,s1,s2,s3,s4,s5,s6,s7,s8,s9⟩
           go_simp
           with_reducible rfl
         rotate_left
         . simp only[Act.put,zj,zr,ya,aJ,aT];rfl
         refine bz (i:=5) (N:=some 22) (v:=?_) (a':=?_) #[ye,ye,ye,ye,ye,ye,yi,yi,ye,yi,ye,yi,ye,yi,yi,yi,ye,yi,yi,yi,yi,yi,yi] rfl rfl (eQ HT_.out (by kernel_rfl)) (fun _ _ _ h=>h) (Or.inl ⟨by rfl,?_⟩) ?_ ?_
         rotate_left
         . intro w'
           go_simp
           with_reducible rfl
         rotate_left
         . simp only[Act.put,zj,zr,ya,aJ,aT];rfl
         refine bz (i:=6) (N:=some 23) (v:=?_) (a':=?_) #[ye,ye,ye,ye,ye,ye,ye,yi,ye,yi,ye,yi,ye,yi,yi,yi,ye,yi,yi,yi,yi,yi,yi] rfl rfl (eQ HT_.out (by kernel_rfl)) (fun _ _ _ h=>h) (Or.inl ⟨by rfl,?_⟩) ?_ ?_
         rotate_left
         . intro w'
           go_simp
           with_reducible rfl
         rotate_left
         . simp only[Act.put,zj,zr,ya,aJ,aT];rfl
         refine iY (i:=7) (N:=some 24) (v:=?_) (a':=?_) #[ye,ye,ye,ye,ye,ye,ye,ye,ye,yi,ye,yi,ye,yi,yi,yi,ye,yi,yi,yi,yi,yi,yi] rfl rfl (iJ HT_.out HW_.out (by kernel_rfl)) (fun _ _ _ h=>h) (Or.inl ⟨by rfl,?_⟩) hHeld ?_ ?_
         rotate_left
         . rintro w' ⟨s0,s1,s2,s3,s4,s5,s6,s7,s8,s9⟩
           go_simp
           with_reducible rfl
         rotate_left
         . simp only[Act.put,zj,zr,ya,aJ,aT];rfl
         refine iY (i:=11) (N:=some 28) (v:=?_) (a':=?_) #[ye,ye,ye,ye,ye,ye,ye,ye,ye,yi,ye,ye,ye,yi,yi,yi,ye,yi,yi,yi,yi,yi,yi] rfl rfl (iJ HT_.out HW_.out (by kernel_rfl)) (fun _ _ _ h=>h) (Or.inl ⟨by rfl,?_⟩) hHeld ?_ ?_
         rotate_left
         . rintro w' ⟨s0,s1,s2,s3,s4,s5,s6,s7,s8,s9⟩
           go_simp
           with_reducible rfl
         rotate_left
         . simp only[Act.put,zj,zr,ya,aJ,aT];rfl
         refine bz (i:=13) (N:=some 30) (v:=?_) (a':=?_) #[ye,ye,ye,ye,ye,ye,ye,ye,ye,yi,ye,ye,ye,ye,yi,yi,ye,yi,yi,yi,yi,yi,yi] rfl rfl (eQ HT_.out (by kernel_rfl)) (fun _ _ _ h=>h) (Or.inl ⟨by rfl,?_⟩) ?_ ?_
         rotate_left
         . intro w'
           go_simp
           with_reducible rfl
         rotate_left
         . simp only[Act.put,zj,zr,ya,aJ,aT];rfl
         refine bz (i:=14) (N:=some 31) (v:=?_) (a':=?_) #[ye,ye,ye,ye,ye,ye,ye,ye,ye,yi,ye,ye,ye,ye,ye,yi,ye,yi,yi,yi,yi,yi,yi] rfl rfl (eQ HT_.out (by kernel_rfl)) (fun _ _ _ h=>h) (Or.inl ⟨by rfl,?_⟩) ?_ ?_
         rotate_left
         . intro w'
           go_simp
           with_reducible rfl
         rotate_left
         . simp only[Act.put,zj,zr,ya,aJ,aT];rfl
         refine iY (i:=15) (N:=some 32) (v:=?_) (a':=?_) #[ye,ye,ye,ye,ye,ye,ye,ye,ye,yi,ye,ye,ye,ye,ye,ye,ye,yi,yi,yi,yi,yi,yi] rfl rfl (iJ HT_.out HW_.out (by kernel_rfl)) (fun _ _ _ h=>h) (Or.inl ⟨by rfl,?_⟩) hHeld ?_ ?_
         rotate_left
         . rintro w' ⟨s0,s1,s2,s3,s4,s5,s6,s7,s8,s9⟩
           go_simp
           with_reducible rfl
         rotate_left
         . simp only[Act.put,zj,zr,ya,aJ,aT];rfl
         refine nD (i:=9) (N:=some 26) #[ye,ye,ye,ye,ye,ye,ye,ye,ye,ye,ye,ye,ye,ye,ye,ye,ye,yi,yi,yi,yi,yi,yi] rfl rfl (jV HT_.out (by kernel_rfl)) (by decide) (fun K hK=>?_)
         refine goes_ Tryz.func83 (by kernel_rfl) rfl #[.slice A408_0 ((df l0_0 x5_1).f0).length c408_0,.slice Ao18 t404.length co18] (by rfl) rfl rfl (by(try simp only[List.map_toArray,List.map_cons,List.map_nil]);first|done|rfl|(simp only[List.length_drop,List.length_take];rfl)) ?_
         with_reducible refine(demesneref28_renamed.calls k1 _ _ ((df l0_0 x5_1).f0) _ _ t404 t409 _ ?side1 ?side2 ?side3 ?side4 A11.out).mono ?_
         (case side1=>repeat (first|exact(Kd.aU HR408_0.out HB.out)|(with_reducible refine Kd.dn ?_ _)|(with_reducible refine Kd.dB ?_ _)|(with_reducible refine Kd.dS ?_)))
         (case side2=>exact HC408_0.out)
         (case side3=>repeat (first|exact(Kd.bI HO_3.out).2.2|(with_reducible refine Kd.dn ?_ _)|(with_reducible refine Kd.dB ?_ _)|(with_reducible refine Kd.dS ?_)))
         (case side4=>exact(Kd.bI HO_3.out).2.1)
         rintro e w19 ⟨v410,rfl,ho0,hb⟩;refine⟨_,rfl,?_⟩;have n0_:=Y (Kd.lU (by(with_reducible repeat (first|apply Kd.bF|apply Kd.bL|apply Kd.bP));exact HO_3.out) (Kd.dG ho0) hb)
         have n1_:=Y (Kd.jc (by(with_reducible repeat (first|apply Kd.bJ|apply Kd.bK|apply Kd.bQ));exact HO_403002.out) (Kd.dG ho0) hb)
         have n2_:=Y (Kd.nN (by(with_reducible repeat (first|apply Kd.eF|apply Kd.eD|apply Kd.eu));exact HO_408000.out) (Kd.dG ho0) hb)
         have n3_:=Y (Kd.cB (Kd.oW (Kd.mD (M:=fun k_=>(w.heap.size<=k_)) ho0 (bq (by repeat (first|(with_reducible first|exact HB.out|apply ae|apply ah|apply av|refine aj ?_ GE402.out|refine aj ?_ GE403.out|refine aj ?_ GE407.out)|exact HB.out))) (fun k_ h_=>h_)) (Kd.fT (by(with_reducible repeat (first|apply Kd.bF|apply Kd.bL|apply Kd.bP));exact HO_3.out))) (bq (by repeat (first|(with_reducible first|exact HB.out|apply ae|apply ah|apply av|refine aj ?_ GE402.out|refine aj ?_ GE403.out|refine aj ?_ GE407.out)|exact HB.out))))
         have n4_:=Y (dw (g:=gb402) (o:=.cells #[.slice (some ad408) l0_0.length c0_0,.slice A0_1 l0_1.length c0_1,.slice A0_2 l0_2.length c0_2] 41 (0,0)) (by(with_reducible repeat (first|refine ay ?_ _|refine az ?_|refine ax ?_ _));exact BK402.out) hb)
         have n5_:=Y (dw (g:=gb403) (o:=.cells #[.slice none 0 0,.slice none 0 0,.slice none 0 0] 41 (0,0)) (by(with_reducible repeat (first|refine ay ?_ _|refine az ?_|refine ax ?_ _));exact BK403.out) hb)
         have n6_:=Y (dw (g:=gb407) (o:=.cells #[u408000,.slice none 0 0,.slice none 0 0] 41 (0,0)) (by(with_reducible repeat (first|refine ay ?_ _|refine az ?_|refine ax ?_ _));exact BK407.out) hb)
         have n7_:=Y (ed (by repeat (first|(with_reducible first|exact HB.out|apply ae|apply ah|apply av|refine aj ?_ GE402.out|refine aj ?_ GE403.out|refine aj ?_ GE407.out)|exact HB.out)) hb)
         clear HO_3;clear HO_403002;clear HO_408000;clear BK402;clear BK403;clear BK407;clear HB;have HO_3:=n0_;have HO_403002:=n1_;have HO_408000:=n2_;have HO411:=n3_;have BK402:=n4_;have BK403:=n5_;have BK407:=n6_;have HB:=n7_;clear n0_ n1_ n2_ n3_ n4_ n5_ n6_ n7_
         (try clear hb)
         (try clear hb2)
         (try clear hk)
         (try clear hi)
         (try clear ho0)
         refine hK.out _ _ ⟨(aA BK407.out 0).trans rfl,(aA BK407.out 1).trans rfl,(aA BK407.out 2).trans rfl,(aA BK402.out 0).trans rfl,(aA BK402.out 1).trans rfl,(aA BK402.out 2).trans rfl,((HB.out.cell (World.block_lt_of_cell? w _ hw408_0)).trans hw408_0),((HB.out.cell (World.block_lt_of_cell? w _ hw408_1)).trans hw408_1),((HB.out.cell (World.block_lt_of_cell? w _ hw412_0)).trans hw412_0),((HB.out.cell (World.block_lt_of_cell? w _ hw412_1)).trans hw412_1)⟩ (fun hHeld=>?_)
         clear hK K;refine mi (a':=?_) ?_ ?_
         rotate_left
         . show Act.put _ (some 26) _=_
           simp only[Act.put,zj,zr,ya,aJ,aT];rfl
         refine nD (i:=17) (N:=some 34) #[ye,ye,ye,ye,ye,ye,ye,ye,ye,ye,ye,ye,ye,ye,ye,ye,ye,ye,yi,yi,yi,yi,yi] rfl rfl (jV HT_.out (by kernel_rfl)) (by decide) (fun K hK=>?_)
         refine goes_ Tryz.func83 (by kernel_rfl) rfl #[.slice A408_1 ((df l0_0 x5_1).f1).length c408_1,.slice Ao18 t404.length co18] (by rfl) rfl rfl (by(try simp only[List.map_toArray,List.map_cons,List.map_nil]);first|done|rfl|(simp only[List.length_drop,List.length_take];rfl)) ?_
         with_reducible refine(demesneref28_renamed.calls k1 _ _ ((df l0_0 x5_1).f1) _ _ t404 t413 _ ?side1 ?side2 ?side3 ?side4 A12.out).mono ?_
         (case side1=>repeat (first|exact(Kd.aU HR412_1.out HB.out)|(with_reducible refine Kd.dn ?_ _)|(with_reducible refine Kd.dB ?_ _)|(with_reducible refine Kd.dS ?_)))
         (case side2=>exact HC412_1.out)
         (case side3=>repeat (first|exact(Kd.bI HO_3.out).2.2|(with_reducible refine Kd.dn ?_ _)|(with_reducible refine Kd.dB ?_ _)|(with_reducible refine Kd.dS ?_)))
         (case side4=>exact(Kd.bI HO_3.out).2.1)
         rintro e w20 ⟨v414,rfl,ho0,hb⟩;refine⟨_,rfl,?_⟩;have n0_:=Y (Kd.lU (by(with_reducible repeat (first|apply Kd.bF|apply Kd.bL|apply Kd.bP));exact HO_3.out) (Kd.dG ho0) hb)
         have n1_:=Y (Kd.jc (by(with_reducible repeat (first|apply Kd.bJ|apply Kd.bK|apply Kd.bQ));exact HO_403002.out) (Kd.dG ho0) hb)
         have n2_:=Y (Kd.nN (by(with_reducible repeat (first|apply Kd.eF|apply Kd.eD|apply Kd.eu));exact HO_408000.out) (Kd.dG ho0) hb)
         have n3_:=Y (Kd.lU (by(with_reducible repeat (first|apply Kd.bF|apply Kd.bL|apply Kd.bP));exact HO411.out) (Kd.dG ho0) hb)
         have n4_:=Y (Kd.cB (Kd.oW (Kd.oW (Kd.mD (M:=fun k_=>(w.heap.size<=k_)) ho0 (bq (by repeat (first|(with_reducible first|exact HB.out|apply ae|apply ah|apply av|refine aj ?_ GE402.out|refine aj ?_ GE403.out|refine aj ?_ GE407.out)|exact HB.out))) (fun k_ h_=>h_)) (Kd.fT (by(with_reducible repeat (first|apply Kd.bF|apply Kd.bL|apply Kd.bP));exact HO_3.out))) (Kd.fT (by(with_reducible repeat (first|apply Kd.bF|apply Kd.bL|apply Kd.bP));exact HO411.out))) (bq (by repeat (first|(with_reducible first|exact HB.out|apply ae|apply ah|apply av|refine aj ?_ GE402.out|refine aj ?_ GE403.out|refine aj ?_ GE407.out)|exact HB.out))))
         have n5_:=Y (dw (g:=gb402) (o:=.cells #[.slice (some ad408) l0_0.length c0_0,.slice A0_1 l0_1.length c0_1,.slice A0_2 l0_2.length c0_2] 41 (0,0)) (by(with_reducible repeat (first|refine ay ?_ _|refine az ?_|refine ax ?_ _));exact BK402.out) hb)
         have n6_:=Y (dw (g:=gb403) (o:=.cells #[.slice none 0 0,.slice none 0 0,.slice none 0 0] 41 (0,0)) (by(with_reducible repeat (first|refine ay ?_ _|refine az ?_|refine ax ?_ _));exact BK403.out) hb)
         have n7_:=Y (dw (g:=gb407) (o:=.cells #[u408000,.slice none 0 0,.slice none 0 0] 41 (0,0)) (by(with_reducible repeat (first|refine ay ?_ _|refine az ?_|refine ax ?_ _));exact BK407.out) hb)
         have n8_:=Y (ed (by repeat (first|(with_reducible first|exact HB.out|apply ae|apply ah|apply av|refine aj ?_ GE402.out|refine aj ?_ GE403.out|refine aj ?_ GE407.out)|exact HB.out)) hb)
         clear HO_3;clear HO_403002;clear HO_408000;clear HO411;clear BK402;clear BK403;clear BK407;clear HB;have HO_3:=n0_;have HO_403002:=n1_;have HO_408000:=n2_;have HO411:=n3_;have HO415:=n4_;have BK402:=n5_;have BK403:=n6_;have BK407:=n7_;have HB:=n8_;clear n0_ n1_ n2_ n3_ n4_ n5_ n6_ n7_ n8_
         (try clear hb)
         (try clear hb2)
         (try clear hk)
         (try clear hi)
         (try clear ho0)
         obtain⟨Ao21,co21,eo21⟩:=Kd.aD HO415.out
         (first|subst eo21|(injection eo21 with f1_ f2_ f3_;have f4_:=f1_.symm;have f5_:=f3_.symm;clear f1_ f2_ f3_;subst f4_;subst f5_))
         obtain⟨Ao22,co22,eo22⟩:=Kd.aD HO411.out
         (first|subst eo22|(injection eo22 with f1_ f2_ f3_;have f4_:=f1_.symm;have f5_:=f3_.symm;clear f1_ f2_ f3_;subst f4_;subst f5_))
         refine hK.out _ _ ⟨(aA BK407.out 0).trans rfl,(aA BK407.out 1).trans rfl,(aA BK407.out 2).trans rfl,(aA BK402.out 0).trans rfl,(aA BK402.out 1).trans rfl,(aA BK402.out 2).trans rfl,((HB.out.cell (World.block_lt_of_cell? w _ hw408_0)).trans hw408_0),((HB.out.cell (World.block_lt_of_cell? w _ hw408_1)).trans hw408_1),((HB.out.cell (World.block_lt_of_cell? w _ hw412_0)).trans hw412_0),((HB.out.cell (World.block_lt_of_cell? w _ hw412_1)).trans hw412_1)⟩ (fun hHeld=>?_)
         clear hK K;refine mi (a':=?_) ?_ ?_
         rotate_left
         . show Act.put _ (some 34) _=_
           simp only[Act.put,zj,zr,ya,aJ,aT];rfl
         refine bz (i:=18) (N:=some 35) (v:=?_) (a':=?_) #[ye,ye,ye,ye,ye,ye,ye,ye,ye,ye,ye,ye,ye,ye,ye,ye,ye,ye,ye,yi,yi,yi,yi] rfl rfl (eQ HT_.out (by kernel_rfl)) (fun _ _ _ h=>h) (Or.inl ⟨by rfl,?_⟩) ?_ ?_
         rotate_left
         . intro w'
           go_simp
           with_reducible rfl
         rotate_left
         . simp only[Act.put,zj,zr,ya,aJ,aT];rfl
         refine nD (i:=19) (N:=some 36) #[ye,ye,ye,ye,ye,ye,ye,ye,ye,ye,ye,ye,ye,ye,ye,ye,ye,ye,ye,ye,yi,yi,yi] rfl rfl (jV HT_.out (by kernel_rfl)) (by decide) (fun K hK=>?_)
         refine CE (w1:=?_) (v:=?_) (by rfl) rfl ?_ ?_
         rotate_left 2
         . go_simp
           constructor
           . rfl
           . rfl
         refine hK.out _ _ ⟨(aA (ax BK407.out _) 0).trans rfl,(aA (ax BK407.out _) 1).trans rfl,(aA (ax BK407.out _) 2).trans rfl,(aA (ax BK402.out _) 0).trans rfl,(aA (ax BK402.out _) 1).trans rfl,(aA (ax BK402.out _) 2).trans rfl,(World.cell?_alloc_lt _ _ _ (World.block_lt_of_cell? _ _ (((HB.out.cell (World.block_lt_of_cell? w _ hw408_0)).trans hw408_0)))).trans (((HB.out.cell (World.block_lt_of_cell? w _ hw408_0)).trans hw408_0)),(World.cell?_alloc_lt _ _ _ (World.block_lt_of_cell? _ _ (((HB.out.cell (World.block_lt_of_cell? w _ hw408_1)).trans hw408_1)))).trans (((HB.out.cell (World.block_lt_of_cell? w _ hw408_1)).trans hw408_1)),(World.cell?_alloc_lt _ _ _ (World.block_lt_of_cell? _ _ (((HB.out.cell (World.block_lt_of_cell? w _ hw412_0)).trans hw412_0)))).trans (((HB.out.cell (World.block_lt_of_cell? w _ hw412_0)).trans hw412_0)),(World.cell?_alloc_lt _ _ _ (World.block_lt_of_cell? _ _ (((HB.out.cell (World.block_lt_of_cell? w _ hw412_1)).trans hw412_1)))).trans (((HB.out.cell (World.block_lt_of_cell? w _ hw412_1)).trans hw412_1))⟩ (fun hHeld=>?_)
         clear hK K;refine mi (a':=?_) ?_ ?_
         rotate_left
         . show Act.put _ (some 36) _=_
           simp only[Act.put,zj,zr,ya,aJ,aT];rfl
         refine nD (i:=20) (N:=some 37) #[ye,ye,ye,ye,ye,ye,ye,ye,ye,ye,ye,ye,ye,ye,ye,ye,ye,ye,ye,ye,ye,yi,yi] rfl rfl (jV HT_.out (by kernel_rfl)) (by decide) (fun K hK=>?_)
         refine Kd.qf k88 (w0:=w) w.heap.size (by rfl) (.tmp 18) (.tmp 36) 37 88 (.agg #[(.slice none 0 0),(.slice none 0 0)]) 48 rfl Tryz.underlying37 info88 rfl (by decide) (by omega) u408000 x408000_1 (⟨t409,t413⟩:S88) [.slice Ao22 t409.length co22,.slice Ao21 t413.length co21] (fun k_=>(P0_2_ k_\/w.heap.size<=k_)/\some k_≠(.slice Ao18 t404.length co18:Value).ownBlock/\k_≠gb402/\k_≠gb403/\k_≠gb407) (fun k_=>((fun k_=>(P0_2_ k_\/w.heap.size<=k_)/\some k_≠(.slice Ao18 t404.length co18:Value).ownBlock/\k_≠gb402/\k_≠gb403/\k_≠gb407)) k_/\some k_≠(u408000:Value).ownBlock) rfl rfl ?aP (fun _ hk=>hk) ?aF ?aO ?aB ?aS ?aL ?_
         (case aP=>exact(k88_mkF _ _ (⟨t409,t413⟩:S88) (Kd.bI (Kd.bY (ok':=(fun k_=>((fun k_=>(P0_2_ k_\/w.heap.size<=k_)/\some k_≠(.slice Ao18 t404.length co18:Value).ownBlock/\k_≠gb402/\k_≠gb403/\k_≠gb407)) k_/\some k_≠(u408000:Value).ownBlock)) (Kd.dD (Kd.dD (Kd.dD (Kd.jX (HO411.out) (Kd.jl HO_408000.out) (by decide)) BK402.out (by decide)) BK403.out (by decide)) BK407.out (by decide)) (fun k_ hk=>⟨⟨(.inr (hk.1.1.1.1.1.1.1)),⟨hk.1.1.1.1.1.2,⟨hk.1.1.2,⟨hk.1.2,hk.2⟩⟩⟩⟩,hk.1.1.1.2⟩))).2.1 (Kd.R_F (Kd.bY (ok':=(fun k_=>((fun k_=>(P0_2_ k_\/w.heap.size<=k_)/\some k_≠(.slice Ao18 t404.length co18:Value).ownBlock/\k_≠gb402/\k_≠gb403/\k_≠gb407)) k_/\some k_≠(u408000:Value).ownBlock)) (Kd.dD (Kd.dD (Kd.dD (Kd.jX (HO411.out) (Kd.jl HO_408000.out) (by decide)) BK402.out (by decide)) BK403.out (by decide)) BK407.out (by decide)) (fun k_ hk=>⟨⟨(.inr (hk.1.1.1.1.1.1.1)),⟨hk.1.1.1.1.1.2,⟨hk.1.1.2,⟨hk.1.2,hk.2⟩⟩⟩⟩,hk.1.1.1.2⟩))) (Kd.bI (Kd.bY (ok':=(fun k_=>((fun k_=>(P0_2_ k_\/w.heap.size<=k_)/\some k_≠(.slice Ao18 t404.length co18:Value).ownBlock/\k_≠gb402/\k_≠gb403/\k_≠gb407)) k_/\some k_≠(u408000:Value).ownBlock)) (Kd.dD (Kd.dD (Kd.dD (Kd.jX (HO415.out) (Kd.jl HO_408000.out) (by decide)) BK402.out (by decide)) BK403.out (by decide)) BK407.out (by decide)) (fun k_ hk=>⟨⟨(.inr (hk.1.1.1.1.1.1.1)),⟨hk.1.1.1.1.1.2,⟨hk.1.1.2,⟨hk.1.2,hk.2⟩⟩⟩⟩,hk.1.1.1.2⟩))).2.1 (Kd.R_F (Kd.bY (ok':=(fun k_=>((fun k_=>(P0_2_ k_\/w.heap.size<=k_)/\some k_≠(.slice Ao18 t404.length co18:Value).ownBlock/\k_≠gb402/\k_≠gb403/\k_≠gb407)) k_/\some k_≠(u408000:Value).ownBlock)) (Kd.dD (Kd.dD (Kd.dD (Kd.jX (HO415.out) (Kd.jl HO_408000.out) (by decide)) BK402.out (by decide)) BK403.out (by decide)) BK407.out (by decide)) (fun k_ hk=>⟨⟨(.inr (hk.1.1.1.1.1.1.1)),⟨hk.1.1.1.1.1.2,⟨hk.1.1.2,⟨hk.1.2,hk.2⟩⟩⟩⟩,hk.1.1.1.2⟩)))))
         (case aB=>exact(by repeat (first|(with_reducible first|exact HB.out|apply ae|apply ah|apply av|refine aj ?_ GE402.out|refine aj ?_ GE403.out|refine aj ?_ GE407.out)|exact HB.out)))
         (case aF=>exact(fun k_ hk=>⟨(.inr (Nat.le_trans (bq (by repeat (first|(with_reducible first|exact HB.out|apply ae|apply ah|apply av|refine aj ?_ GE402.out|refine aj ?_ GE403.out|refine aj ?_ GE407.out)|exact HB.out))) hk)),Kd.fresh' (Kd.fT (by(with_reducible repeat (first|apply Kd.bF|apply Kd.bL|apply Kd.bP));exact HO_3.out)) k_ hk,Kd.nU (g:=gb402) (o:=.cells #[.slice (some ad408) l0_0.length c0_0,.slice A0_1 l0_1.length c0_1,.slice A0_2 l0_2.length c0_2] 41 (0,0)) (by(with_reducible repeat (first|refine ay ?_ _|refine az ?_|refine ax ?_ _));exact BK402.out) k_ hk,Kd.nU (g:=gb403) (o:=.cells #[.slice none 0 0,.slice none 0 0,.slice none 0 0] 41 (0,0)) (by(with_reducible repeat (first|refine ay ?_ _|refine az ?_|refine ax ?_ _));exact BK403.out) k_ hk,Kd.nU (g:=gb407) (o:=.cells #[u408000,.slice none 0 0,.slice none 0 0] 41 (0,0)) (by(with_reducible repeat (first|refine ay ?_ _|refine az ?_|refine ax ?_ _));exact BK407.out) k_ hk⟩))
         (case aO=>exact(by(with_reducible repeat (first|apply Kd.eF|apply Kd.eD|apply Kd.eu));exact Kd.fC HO_408000.out (fun _ hk=>⟨hk.1.1.1,⟨hk.1.1.2.1,⟨hk.1.1.2.2.1,⟨hk.1.1.2.2.2.1,hk.1.1.2.2.2.2⟩⟩⟩⟩)))
         (case aS=>exact(bq (by repeat (first|(with_reducible first|exact HB.out|apply ae|apply ah|apply av|refine aj ?_ GE402.out|refine aj ?_ GE403.out|refine aj ?_ GE407.out)|exact HB.out))))
         (case aL=>have:=LMc13.out;omega)
         intro v417 w23 ho hb hg hat;rw[<-Ny416.out]at ho;have n0_:=Y (Kd.vI (by(with_reducible repeat (first|apply Kd.bF|apply Kd.bL|apply Kd.bP));exact HO_3.out) (Kd.jl (by(with_reducible repeat (first|apply Kd.eF|apply Kd.eD|apply Kd.eu));exact HO_408000.out)) (by decide) hg)
         have n1_:=Y (Kd.jg (ok:=(fun k_=>(P0_2_ k_\/w.heap.size<=k_)/\some k_≠(.slice Ao18 t404.length co18:Value).ownBlock/\some k_≠(.slice Ao22 t409.length co22:Value).ownBlock/\some k_≠(.slice Ao21 t413.length co21:Value).ownBlock/\k_≠gb402/\k_≠gb403/\k_≠gb407)) (by(with_reducible repeat (first|apply Kd.bJ|apply Kd.bK|apply Kd.bQ));exact Kd.dU HO_403002.out (fun _ hk=>⟨⟨hk.1.1.1,⟨hk.1.1.2.1,⟨hk.1.2,⟨hk.2,⟨hk.1.1.2.2.2.1,⟨hk.1.1.2.2.2.2.1,hk.1.1.2.2.2.2.2⟩⟩⟩⟩⟩⟩,hk.1.1.2.2.1⟩)) hg hat)
         have n2_:=Y (fQ (g:=gb402) (o:=.cells #[.slice (some ad408) l0_0.length c0_0,.slice A0_1 l0_1.length c0_1,.slice A0_2 l0_2.length c0_2] 41 (0,0)) (by(with_reducible repeat (first|refine ay ?_ _|refine az ?_|refine ax ?_ _));exact BK402.out) hg (Kd.N_ne HO_408000.out BK402.out (by decide)))
         have n3_:=Y (fQ (g:=gb403) (o:=.cells #[.slice none 0 0,.slice none 0 0,.slice none 0 0] 41 (0,0)) (by(with_reducible repeat (first|refine ay ?_ _|refine az ?_|refine ax ?_ _));exact BK403.out) hg (Kd.N_ne HO_408000.out BK403.out (by decide)))
         have n4_:=Y (fQ (g:=gb407) (o:=.cells #[u408000,.slice none 0 0,.slice none 0 0] 41 (0,0)) (by(with_reducible repeat (first|refine ay ?_ _|refine az ?_|refine ax ?_ _));exact BK407.out) hg (Kd.N_ne HO_408000.out BK407.out (by decide)))
         have n5_:=Y (hb);have n6_:=Y (ho);clear HO_3;clear HO_403002;clear BK402;clear BK403;clear BK407;clear HB;clear HO_408000;clear HO411;clear HO415;have HO_3:=n0_;have HO_403002:=n1_;have BK402:=n2_;have BK403:=n3_;have BK407:=n4_;have HB:=n5_;have HO418:=n6_;clear n0_ n1_ n2_ n3_ n4_ n5_ n6_;clear ho hb hg hat;obtain⟨Ao24,co24,eo24⟩:=Kd.o6 HO418.out
         (first|subst eo24|(injection eo24 with f1_ f2_ f3_;have f4_:=f1_.symm;have f5_:=f3_.symm;clear f1_ f2_ f3_;subst f4_;subst f5_))
         refine hK.out _ _ ⟨(aA BK407.out 0).trans rfl,(aA BK407.out 1).trans rfl,(aA BK407.out 2).trans rfl,(aA BK402.out 0).trans rfl,(aA BK402.out 1).trans rfl,(aA BK402.out 2).trans rfl,((HB.out.cell (World.block_lt_of_cell? w _ hw408_0)).trans hw408_0),((HB.out.cell (World.block_lt_of_cell? w _ hw408_1)).trans hw408_1),((HB.out.cell (World.block_lt_of_cell? w _ hw412_0)).trans hw412_0),((HB.out.cell (World.block_lt_of_cell? w _ hw412_1)).trans hw412_1)⟩ (fun hHeld=>?_)
         clear hK K;refine mi (a':=?_) ?_ ?_
         rotate_left
         . show Act.put _ (some 37) _=_
           simp only[Act.put,zj,zr,ya,aJ,aT];rfl
         refine bz (i:=21) (N:=some 38) (v:=?_) (a':=?_) #[ye,ye,ye,ye,ye,ye,ye,ye,ye,ye,ye,ye,ye,ye,ye,ye,ye,ye,ye,ye,ye,ye,yi] rfl rfl (eQ HT_.out (by kernel_rfl)) (fun _ _ _ h=>h) (Or.inl ⟨by rfl,?_⟩) ?_ ?_
         rotate_left
         . intro w'
           go_simp
           with_reducible rfl
         rotate_left
         . simp only[Act.put,zj,zr,ya,aJ,aT];rfl
         refine wS (i:=22) (N:=none) #[ye,ye,ye,ye,ye,ye,ye,ye,ye,ye,ye,ye,ye,ye,ye,ye,ye,ye,ye,ye,ye,ye,ye] rfl rfl (jV HT_.out (by kernel_rfl)) (by decide) (fun K hK=>?_)
         have hs25:w23.cell? ⟨gb407,0,none⟩=some (u408000):=(aA BK407.out 0).trans rfl;have hfs25:=ak BK407.out 0;have hns25_0:=NB402_407.out;have hns25_1:=NB403_407.out;have hms25_0:=NB407_402.out;have hms25_1:=NB407_403.out;refine uF (w1:=?_) (by rfl) rfl ?_ ?_
         rotate_left
         . go_simp
           rfl
         refine hK.out _ _ ?_;clear hK K;refine pV (Q7.u7 HT_.out (by kernel_rfl)) ?_
         try go_wp2
         go_roundg k1
         case measure=>have:=HK1.out;omega
         case rel=>exact⟨(wrap64 (x5_1+1)),(y416),(.slice Ao24 y416.length co24),(by first|rfl|(simp;done)|(simp[*];done)),H',⟨by have:=HK1.out;omega⟩,⟨by(with_reducible repeat (first|apply Kd.bF|apply Kd.bL|apply Kd.bP));exact Kd.bY (Kd.kL (p:=⟨gb407,0,none⟩) (Kd.dD HO_3.out BK407.out (by decide)) (fun _ hk=>hk.2) (.slice Ao24 y416.length co24)) (fun _ hk=>hk.1.1.1)⟩,⟨by(with_reducible repeat (first|apply Kd.bJ|apply Kd.bK|apply Kd.bQ));exact Kd.dU (Kd.mP (p:=⟨gb407,0,none⟩) (Kd.dU HO_403002.out (fun k_ hk=>(⟨hk,hk.1.2.2.2.2.2.2⟩:_/\k_≠gb407))) (fun _ hk=>hk.2) (.slice Ao24 y416.length co24)) (fun _ hk=>⟨hk.1.1.1,⟨hk.1.1.2.1,⟨hk.1.2,⟨hk.1.1.2.2.2.2.1,⟨hk.1.1.2.2.2.2.2.1,hk.1.1.2.2.2.2.2.2⟩⟩⟩⟩⟩)⟩,⟨by(with_reducible repeat (first|apply Kd.eF|apply Kd.eD|apply Kd.eu));exact Kd.fC (Kd.jP (p:=⟨gb407,0,none⟩) (Kd.fC HO418.out (fun k_ hk=>(⟨hk,hk.2.2.2.2⟩:_/\k_≠gb407))) (fun _ hk=>hk.2) (.slice Ao24 y416.length co24)) (fun _ hk=>⟨hk.1.1,⟨hk.1.2.1,⟨hk.1.2.2.1,⟨hk.1.2.2.2.1,hk.1.2.2.2.2⟩⟩⟩⟩)⟩,⟨by(with_reducible repeat (first|refine ay ?_ _|refine az ?_|refine ax ?_ _));refine iT ?_ NB402_407.out _;(with_reducible repeat (first|refine ay ?_ _|refine az ?_|refine ax ?_ _));exact BK402.out⟩,⟨by(with_reducible repeat (first|refine ay ?_ _|refine az ?_|refine ax ?_ _));refine iT ?_ NB403_407.out _;(with_reducible repeat (first|refine ay ?_ _|refine az ?_|refine ax ?_ _));exact BK403.out⟩,⟨by(with_reducible repeat (first|refine ay ?_ _|refine az ?_|refine ax ?_ _));refine kZ (cs:=#[u408000,.slice none 0 0,.slice none 0 0]) ?_ 0 _ rfl;(with_reducible repeat (first|refine ay ?_ _|refine az ?_|refine ax ?_ _));exact BK407.out⟩,⟨by repeat (first|(with_reducible first|exact HB.out|apply ae|apply ah|apply av|refine aj ?_ GE402.out|refine aj ?_ GE403.out|refine aj ?_ GE407.out)|exact HB.out)⟩⟩
       . rw[if_neg c13]at H;exact absurd H (by simp)
     . rw[if_neg c10]at H;exact absurd H (by simp)
   . rw[if_neg c9]at H;have c9b0:decide (x5_1<(l0_0.length:Int))=false:=yd c9;clear c9
     replace H:=Option.bind_eq_some_iff.mp H
     obtain⟨t419,A260,H⟩:=H
     replace H:(demesneref28_Shape_Canon.l1 k1 t404 0 l0_0 l0_1 l0_2 x408000_1 t419 ([]:List (S89)))=some (r1,r2,r3):=H
     have A26:=Y A260;clear A260;have H':=Y H;clear H;have hnb27:=NB402_403.out;have hnc27:=NB403_402.out;have hnb28:=NB402_407.out;have hnc28:=NB407_402.out;have hcz29_0:wr.cell? ⟨gb402,0,none⟩=some (.slice A0_0 l0_0.length c0_0):=(aA BK402.out 0).trans rfl;have hcz29_1:wr.cell? ⟨gb402,1,none⟩=some (.slice A0_1 l0_1.length c0_1):=(aA BK402.out 1).trans rfl;have hcz29_2:wr.cell? ⟨gb402,2,none⟩=some (.slice A0_2 l0_2.length c0_2):=(aA BK402.out 2).trans rfl;have hfz29_0:=ak BK402.out 0;have hfz29_1:=ak BK402.out 1;have hfz29_2:=ak BK402.out 2;obtain⟨Ao30,co30,eo30⟩:=Kd.aD HO_3.out;subst eo30;go_wp2_with (first|((with_reducible refine oP (f:=83) rfl ?_);refine xN (some 42) rfl rfl Tryz.func83 (by kernel_rfl) rfl #[.slice A0_1 l0_1.length c0_1,.slice Ao30 t404.length co30] rfl (by(try simp only[List.map_toArray,List.map_cons,List.map_nil]);first|done|rfl|(simp only[List.length_drop,List.length_take];rfl)) ?_;(with_reducible refine(demesneref28_renamed.calls k1 _ _ l0_1 _ _ t404 t419 _ ?side1 ?side2 ?side3 ?side4 A26.out).mono ?_);(case side1=>repeat (first|exact(Kd.aU HR0_1.out HB.out)|(with_reducible refine Kd.dn ?_ _)|(with_reducible refine Kd.dB ?_ _)|(with_reducible refine Kd.dS ?_)));(case side2=>exact HC0_1.out);(case side3=>repeat (first|exact(Kd.bI HO_3.out).2.2|(with_reducible refine Kd.dn ?_ _)|(with_reducible refine Kd.dB ?_ _)|(with_reducible refine Kd.dS ?_)));(case side4=>exact(Kd.bI HO_3.out).2.1);rintro e w31 ⟨v420,rfl,ho0,hb⟩;refine⟨_,rfl,?_⟩;have n0_:=Y (Kd.lU (by(with_reducible repeat (first|apply Kd.bF|apply Kd.bL|apply Kd.bP));exact HO_3.out) (Kd.dG ho0) hb);have n1_:=Y (Kd.jc (by(with_reducible repeat (first|apply Kd.bJ|apply Kd.bK|apply Kd.bQ));exact HO_403002.out) (Kd.dG ho0) hb);have n2_:=Y (Kd.nN (by(with_reducible repeat (first|apply Kd.eF|apply Kd.eD|apply Kd.eu));exact HO_408000.out) (Kd.dG ho0) hb);have n3_:=Y (Kd.cB (Kd.oW (Kd.mD (M:=fun k_=>(w.heap.size<=k_)) ho0 (bq (by repeat (first|(with_reducible first|exact HB.out|apply ae|apply ah|apply av|refine aj ?_ GE402.out|refine aj ?_ GE403.out|refine aj ?_ GE407.out)|exact HB.out))) (fun k_ h_=>h_)) (Kd.fT (by(with_reducible repeat (first|apply Kd.bF|apply Kd.bL|apply Kd.bP));exact HO_3.out))) (bq (by repeat (first|(with_reducible first|exact HB.out|apply ae|apply ah|apply av|refine aj ?_ GE402.out|refine aj ?_ GE403.out|refine aj ?_ GE407.out)|exact HB.out))));have n4_:=Y (dw (g:=gb402) (o:=.cells #[.slice A0_0 l0_0.length c0_0,.slice A0_1 l0_1.length c0_1,.slice A0_2 l0_2.length c0_2] 41 (0,0)) (by(with_reducible repeat (first|refine ay ?_ _|refine az ?_|refine ax ?_ _));exact BK402.out) hb);have n5_:=Y (dw (g:=gb403) (o:=.cells #[.slice none 0 0,.slice none 0 0,.slice none 0 0] 41 (0,0)) (by(with_reducible repeat (first|refine ay ?_ _|refine az ?_|refine ax ?_ _));exact BK403.out) hb);have n6_:=Y (dw (g:=gb407) (o:=.cells #[u408000,.slice none 0 0,.slice none 0 0] 41 (0,0)) (by(with_reducible repeat (first|refine ay ?_ _|refine az ?_|refine ax ?_ _));exact BK407.out) hb);have n7_:=Y (ed (by repeat (first|(with_reducible first|exact HB.out|apply ae|apply ah|apply av|refine aj ?_ GE402.out|refine aj ?_ GE403.out|refine aj ?_ GE407.out)|exact HB.out)) hb);clear HO_3;clear HO_403002;clear HO_408000;clear BK402;clear BK403;clear BK407;clear HB;have HO_3:=n0_;have HO_403002:=n1_;have HO_408000:=n2_;have HO421:=n3_;have BK402:=n4_;have BK403:=n5_;have BK407:=n6_;have HB:=n7_;clear n0_ n1_ n2_ n3_ n4_ n5_ n6_ n7_;(try clear hb);(try clear hb2);(try clear hk);(try clear hi);(try clear ho0);obtain⟨Ao32,co32,eo32⟩:=Kd.aD HO421.out;subst eo32;have hnb33:=NB407_403.out;have hnc33:=NB403_407.out;have hcz34_0:w31.cell? ⟨gb407,0,none⟩=some (u408000):=(aA BK407.out 0).trans rfl;have hcz34_1:w31.cell? ⟨gb407,1,none⟩=some (.slice none 0 0):=(aA BK407.out 1).trans rfl;have hcz34_2:w31.cell? ⟨gb407,2,none⟩=some (.slice none 0 0):=(aA BK407.out 2).trans rfl;have hfz34_0:=ak BK407.out 0;have hfz34_1:=ak BK407.out 1;have hfz34_2:=ak BK407.out 2))
     go_loopg [6] k1 (fun kq v6 w'=>∃(x6_2:Int) (x408002_2:List (S89)) (u408002:Value),v6=.int .i64 x6_2/\aa (demesneref28_Shape_Canon.l1 kq t404 x6_2 l0_0 l0_1 l0_2 x408000_1 t419 x408002_2=some (r1,r2,r3))/\aa (kq<=k1)/\aa (Kd.R (Kd.int .i64) 3 w' w.heap.size (fun k_=>(w.heap.size<=k_)/\some k_≠((.slice Ao32 t419.length co32):Value).ownBlock) (.slice Ao30 t404.length co30) t404)/\aa (Kd.V k89 89 w' w.heap.size (fun k_=>(P0_2_ k_\/w.heap.size<=k_)/\some k_≠((.slice Ao30 t404.length co30):Value).ownBlock/\some k_≠(u408000:Value).ownBlock/\some k_≠((.slice Ao32 t419.length co32):Value).ownBlock/\some k_≠(u408002:Value).ownBlock/\k_≠gb402/\k_≠gb403/\k_≠gb407) (.slice A0_2 l0_2.length c0_2) l0_2)/\aa (Kd.N k88 88 w' w.heap.size (fun k_=>(P0_2_ k_\/w.heap.size<=k_)/\some k_≠((.slice Ao30 t404.length co30):Value).ownBlock/\some k_≠((.slice Ao32 t419.length co32):Value).ownBlock/\some k_≠(u408002:Value).ownBlock/\k_≠gb402/\k_≠gb403/\k_≠gb407) u408000 x408000_1)/\aa (Kd.R (Kd.int .i64) 3 w' w.heap.size (fun k_=>(w.heap.size<=k_)/\some k_≠((.slice Ao30 t404.length co30):Value).ownBlock) (.slice Ao32 t419.length co32) t419)/\aa (Kd.N k89 89 w' w.heap.size (fun k_=>(P0_2_ k_\/w.heap.size<=k_)/\some k_≠((.slice Ao30 t404.length co30):Value).ownBlock/\some k_≠(u408000:Value).ownBlock/\some k_≠((.slice Ao32 t419.length co32):Value).ownBlock/\k_≠gb402/\k_≠gb403/\k_≠gb407) u408002 x408002_2)/\aa (w'.heap[gb402]? =some (.cells #[(.slice A0_0 l0_0.length c0_0),(.slice A0_1 l0_1.length c0_1),(.slice A0_2 l0_2.length c0_2)] 41 (0,0)))/\aa (w'.heap[gb403]? =some (.cells #[(.slice none 0 0),(.slice none 0 0),(.slice none 0 0)] 41 (0,0)))/\aa (w'.heap[gb407]? =some (.cells #[u408000,(.slice Ao32 t419.length co32),u408002] 41 (0,0)))/\aa (Below w.heap.size w w'))
     case atStart=>exact⟨(0),(([]:List (S89))),(.slice none 0 0),(by first|rfl|(simp;done)|(simp[*];done)),H',⟨Nat.le_refl _⟩,⟨by(with_reducible repeat (first|apply Kd.bF|apply Kd.bL|apply Kd.bP));exact Kd.bY (Kd.kL (p:=⟨gb407,1,none⟩) (Kd.dD HO_3.out BK407.out (by decide)) (fun _ hk=>hk.2) (.slice Ao32 t419.length co32)) (fun _ hk=>⟨hk.1.1,hk.1.2⟩)⟩,⟨by(with_reducible repeat (first|apply Kd.bJ|apply Kd.bK|apply Kd.bQ));exact Kd.dU (Kd.mP (p:=⟨gb407,1,none⟩) (Kd.dU HO_403002.out (fun k_ hk=>(⟨hk,hk.1.2.2.2.2.2⟩:_/\k_≠gb407))) (fun _ hk=>hk.2) (.slice Ao32 t419.length co32)) (fun _ hk=>⟨hk.1.1.1,⟨hk.1.1.2.1,⟨hk.1.1.2.2.1,⟨hk.1.2,⟨(by simp[Value.ownBlock]),⟨hk.1.1.2.2.2.1,⟨hk.1.1.2.2.2.2.1,hk.1.1.2.2.2.2.2⟩⟩⟩⟩⟩⟩⟩)⟩,⟨by(with_reducible repeat (first|apply Kd.eF|apply Kd.eD|apply Kd.eu));exact Kd.fC (Kd.jP (p:=⟨gb407,1,none⟩) (Kd.fC HO_408000.out (fun k_ hk=>(⟨hk,hk.1.2.2.2.2⟩:_/\k_≠gb407))) (fun _ hk=>hk.2) (.slice Ao32 t419.length co32)) (fun _ hk=>⟨hk.1.1.1,⟨hk.1.1.2.1,⟨hk.1.2,⟨(by simp[Value.ownBlock]),⟨hk.1.1.2.2.1,⟨hk.1.1.2.2.2.1,hk.1.1.2.2.2.2⟩⟩⟩⟩⟩⟩)⟩,⟨by(with_reducible repeat (first|apply Kd.bF|apply Kd.bL|apply Kd.bP));exact Kd.bY (Kd.kL (p:=⟨gb407,1,none⟩) (Kd.dD HO421.out BK407.out (by decide)) (fun _ hk=>hk.2) (.slice Ao32 t419.length co32)) (fun _ hk=>⟨hk.1.1.1,hk.1.2⟩)⟩,⟨by first|exact Kd.S_nil _ _ _ _ _|exact Kd.tY _ _ _ _ _|exact Kd.tT _ _ _ _ _|exact Kd.Q_nil _ _ _ _ _|exact Kd.fo _ _ _ _ _⟩,⟨by(with_reducible repeat (first|refine ay ?_ _|refine az ?_|refine ax ?_ _));refine iT ?_ NB402_407.out _;(with_reducible repeat (first|refine ay ?_ _|refine az ?_|refine ax ?_ _));exact BK402.out⟩,⟨by(with_reducible repeat (first|refine ay ?_ _|refine az ?_|refine ax ?_ _));refine iT ?_ NB403_407.out _;(with_reducible repeat (first|refine ay ?_ _|refine az ?_|refine ax ?_ _));exact BK403.out⟩,⟨by(with_reducible repeat (first|refine ay ?_ _|refine az ?_|refine ax ?_ _));refine kZ (cs:=#[u408000,.slice none 0 0,.slice none 0 0]) ?_ 1 _ rfl;(with_reducible repeat (first|refine ay ?_ _|refine az ?_|refine ax ?_ _));exact BK407.out⟩,⟨by repeat (first|(with_reducible first|exact HB.out|apply ae|apply ah|apply av|refine aj ?_ GE402.out|refine aj ?_ GE403.out|refine aj ?_ GE407.out)|exact HB.out)⟩⟩
     case round=>
      clear H'
      try clear c1
      try clear c2
      try clear p2
      try clear c3
      try clear c4
      try clear p4
      try clear q4
      try clear hx4
      try clear c5
      try clear p6
      try clear c8
      try clear c9
      try clear c9b0
      try clear c10
      try clear c10b0
      try clear c13
      try clear c14
      try clear c15
      try clear c27
      try clear c28
      try clear c33
      try clear hcz16_0
      try clear hcz16_1
      try clear hcz16_2
      try clear hcz29_0
      try clear hcz29_1
      try clear hcz29_2
      try clear hcz34_0
      try clear hcz34_1
      try clear hcz34_2
      try clear hcz6_0
      try clear hcz6_1
      try clear hcz6_2
      try clear hfz16_0
      try clear hfz16_1
      try clear hfz16_2
      try clear hfz29_0
      try clear hfz29_1
      try clear hfz29_2
      try clear hfz34_0
      try clear hfz34_1
      try clear hfz34_2
      try clear hfz6_0
      try clear hfz6_1
      try clear hfz6_2
      try clear hx408_0
      try clear hx408_1
      try clear hx412_0
      try clear hx412_1
      try clear p2
      try clear p408
      try clear p412
      try clear q408
      try clear q412
      obtain⟨x6_2,x408002_2,u408002,rfl,HA,HK2,HO_3,HO_403002,HO_408000,HO_408001,HO_408002,BK402,BK403,BK407,HB⟩:=hrel;cases gk with
      |zero=>exact absurd HA.out (by simp[demesneref28_Shape_Canon.l1])
      |succ k2=>
       have H:=HA.out;clear HA;simp only[demesneref28_Shape_Canon.l1]at H
       by_cases c35:x6_2<(t404.length:Int)
       . rw[if_pos c35]at H;have c35b0:decide (x6_2<(t404.length:Int))=true:=yb c35;clear c35
         by_cases c36:0<=x6_2
         . rw[if_pos c36]at H;have c36b0:decide (0<=x6_2)=true:=yb c36;clear c36;obtain⟨ji37,hji37⟩:∃ j_:Int,(wrap64 ((rd t404 x6_2) - 1))=j_:=⟨_,rfl⟩
           replace H:(if 0<=(ji37)then(if(ji37)<(l0_2.length:Int)then((demesneref28_renamed.f k2 ((aV l0_2 (ji37)).f0) t404).bind fun t425=>(if x408002_2.length<2932031007402 then(demesneref28_Shape_Canon.l1 k2 t404 (wrap64 (x6_2+1)) l0_0 l0_1 l0_2 x408000_1 t419 (x408002_2++[(⟨t425,(aV l0_2 (ji37)).f1⟩:S89)]))else(none)))else(none))else(none))=some (r1,r2,r3):=by first|(rw[hji37]at H;exact H)|(simp only[hji37]at H ⊢;exact H)
           have hji37w:(IntKind.i64.wrap ((rd t404 x6_2) - 1))=ji37:=(aJ _).trans hji37
           by_cases c38:0<=(ji37)
           . rw[if_pos c38]at H;have c38b0:decide (0<=(ji37))=true:=yb c38;clear c38
             by_cases c39:(ji37)<(l0_2.length:Int)
             . rw[if_pos c39]at H;have c39b0:decide ((ji37)<(l0_2.length:Int))=true:=yb c39;clear c39
               replace H:=Option.bind_eq_some_iff.mp H
               obtain⟨t425,A400,H⟩:=H
               replace H:(if x408002_2.length<2932031007402 then(demesneref28_Shape_Canon.l1 k2 t404 (wrap64 (x6_2+1)) l0_0 l0_1 l0_2 x408000_1 t419 (x408002_2++[(⟨t425,(aV l0_2 (ji37)).f1⟩:S89)]))else(none))=some (r1,r2,r3):=H
               have A40:=Y A400;clear A400
               by_cases c41:x408002_2.length<2932031007402
               . rw[if_pos c41]at H;have LMc41:=Y c41;clear c41;obtain⟨y428,hy428⟩:∃ y_:List (S89),y_=(x408002_2++[(⟨t425,(aV l0_2 (ji37)).f1⟩:S89)]):=⟨_,rfl⟩
                 replace H:(demesneref28_Shape_Canon.l1 k2 t404 (wrap64 (x6_2+1)) l0_0 l0_1 l0_2 x408000_1 t419 y428)=some (r1,r2,r3):=by first|(rw[hy428];with_reducible exact H)|(have H2_:=(Option.bind_some _ _).symm.trans H;rw[hy428];with_reducible exact H2_)|(have H2_:=(Option.bind_some _ _).symm.trans H;with_reducible exact H2_)|with_reducible exact H|(rw[hy428];exact H)|exact H
                 have Ny428:=Y hy428;clear hy428;have H':=Y H;clear H
                 try go_wp2
                 have n0_:=Y (Kd.bP HO_3.out);have n1_:=Y (Kd.bQ HO_403002.out);have n2_:=Y (Kd.eu HO_408000.out);have n3_:=Y (Kd.bP HO_408001.out);have n4_:=Y (Kd.eu HO_408002.out);have n5_:=Y (az BK402.out);have n6_:=Y (az BK403.out);have n7_:=Y (az BK407.out);have n8_:=Y (av HB.out);clear HO_3;clear HO_403002;clear HO_408000;clear HO_408001;clear HO_408002;clear BK402;clear BK403;clear BK407;clear HB;have HO_3:=n0_;have HO_403002:=n1_;have HO_408000:=n2_;have HO_408001:=n3_;have HO_408002:=n4_;have BK402:=n5_;have BK403:=n6_;have BK407:=n7_;have HB:=n8_;clear n0_ n1_ n2_ n3_ n4_ n5_ n6_ n7_ n8_;have p422:0<=(x6_2:Int):=of_decide_eq_true (by first|(with_reducible assumption)|assumption)
                 have q422:x6_2<(t404.length:Int):=of_decide_eq_true (by first|(with_reducible assumption)|assumption)
                 obtain⟨ad422,e422,hx422_0⟩:=Kd.fH (Kd.bI HO_3.out).2.2 x6_2 p422 q422;cases e422
                 replace p422:=eq_true p422
                 replace q422:=eq_true q422
                 have p423:0<=((ji37):Int):=of_decide_eq_true (by first|(with_reducible assumption)|assumption)
                 have q423:(ji37)<(l0_2.length:Int):=of_decide_eq_true (by first|(with_reducible assumption)|assumption)
                 obtain⟨ad423,A423_0,c423_0,A423_1,c423_1,e423,hx423_0,hx423_1,hl423_0,hi423_0,hl423_1,hi423_1⟩:=qD (Kd.dE HO_403002.out).2.2 (ji37) p423 q423;cases e423;obtain⟨ce423,hce423,hMe423,hcc423⟩:=Kd.V_get HO_403002.out z89 (ji37) p423 (by first|exact q423|exact of_decide_eq_true (by first|(with_reducible assumption)|assumption)|(have e_:=(Kd.dE HO_403002.out).1;omega))
                 obtain⟨ua423_0,uc423_0,ua423_1,uc423_1,rfl,ul423_0,ge423_0,ul423_1,ge423_1⟩:=wm hMe423;have hv423_0:=hcc423 0 _ rfl;rw[Nat.add_zero]at hv423_0
                 replace hv423_0:=Option.some.inj (hv423_0.symm.trans hx423_0)
                 injection hv423_0 with hva_ hvn_ hvc_
                 rw[hva_]at ge423_0;rw[hvc_]at ul423_0;have HL423_0:=Y (show Kd.V (Kd.int .i64) 3 _ w.heap.size _ _ ((aV l0_2 (ji37)).f0)from Kd.V_mk ul423_0 ge423_0)
                 clear hva_ hvn_ hvc_ ge423_0 ul423_0;have hv423_1:=hcc423 1 _ rfl;rw[dN _ _ 1 (by omega)]at hv423_1
                 replace hv423_1:=Option.some.inj (hv423_1.symm.trans hx423_1)
                 injection hv423_1 with hva_ hvn_ hvc_
                 rw[hva_]at ge423_1;rw[hvc_]at ul423_1;have HL423_1:=Y (show Kd.V (Kd.int .u64) 31 _ w.heap.size _ _ ((aV l0_2 (ji37)).f1)from Kd.V_mk ul423_1 ge423_1)
                 clear hva_ hvn_ hvc_ ge423_1 ul423_1;clear hcc423 hce423;have HR423_0:=Y hi423_0;have HC423_0:=Y hl423_0;clear hi423_0 hl423_0;have HR423_1:=Y hi423_1;have HC423_1:=Y hl423_1;clear hi423_1 hl423_1
                 replace p423:=eq_true p423
                 replace q423:=eq_true q423
                 refine nE (n:=11) (S:=fun w'=>w'.cell? ⟨gb402,0,none⟩=some (.slice A0_0 l0_0.length c0_0)/\w'.cell? ⟨gb402,1,none⟩=some (.slice A0_1 l0_1.length c0_1)/\w'.cell? ⟨gb402,2,none⟩=some (.slice (some ad423) l0_2.length c0_2)/\w'.cell? (ad422.add (x6_2).toNat)=some (.int .i64 (rd t404 x6_2))/\w'.cell? (ad423.add (((ji37)).toNat*2))=some (.slice A423_0 ((aV l0_2 (ji37)).f0).length c423_0)/\w'.cell? ⟨(ad423.add (((ji37)).toNat*2)).block,(ad423.add (((ji37)).toNat*2)).off+1,none⟩=some (.slice A423_1 ((aV l0_2 (ji37)).f1).length c423_1)) (ds:=[]) #[yi,yi,yi,yi,yi,yi,yi,yi,yi,yi,yi] (by kernel_rfl) rfl rfl ⟨(aA BK402.out 0).trans rfl,(aA BK402.out 1).trans rfl,(aA BK402.out 2).trans rfl,hx422_0,hx423_0,hx423_1⟩ (fun hHeld=>?_);refine qE demesneref28_Shape_Canon.tab11 demesneref28_Shape_Canon.bits11 (fun HT_ HW_=>?_)
                 generalize wr.drew=w42 at HO_3 HO_403002 HO_408000 HO_408001 HO_408002 BK402 BK403 BK407 HB HL423_0 HL423_1 HR423_0 HR423_1 hx422_0 hx423_0 hx423_1 hHeld ⊢;refine bz (i:=0) (N:=some 50) (v:=?_) (a':=?_) #[ye,yi,yi,yi,yi,yi,yi,yi,yi,yi,yi] rfl rfl (eQ HT_.out (by kernel_rfl)) (fun _ _ _ h=>h) (Or.inl ⟨by rfl,?_⟩) ?_ ?_
                 rotate_left
                 . intro w'
                   go_simp
                   with_reducible rfl
                 rotate_left
                 . simp only[Act.put,zj,zr,ya,aJ,aT];rfl
                 refine bz (i:=2) (N:=some 52) (v:=?_) (a':=?_) #[ye,yi,ye,yi,yi,yi,yi,yi,yi,yi,yi] rfl rfl (eQ HT_.out (by kernel_rfl)) (fun _ _ _ h=>h) (Or.inl ⟨by rfl,?_⟩) ?_ ?_
                 rotate_left
                 . intro w'
                   go_simp
                   with_reducible rfl
                 rotate_left
                 . simp only[Act.put,zj,zr,ya,aJ,aT];rfl
                 refine bz (i:=3) (N:=some 53) (v:=?_) (a':=?_) #[ye,yi,ye,ye,yi,yi,yi,yi,yi,yi,yi] rfl rfl (eQ HT_.out (by kernel_rfl)) (fun _ _ _ h=>h) (Or.inl ⟨by rfl,?_⟩) ?_ ?_
                 rotate_left
                 . intro w'
                   go_simp
                   with_reducible rfl
                 rotate_left
                 . simp only[Act.put,zj,zr,ya,aJ,aT];rfl
                 refine bz (i:=4) (N:=some 54) (v:=?_) (a':=?_) #[ye,yi,ye,ye,ye,yi,yi,yi,yi,yi,yi] rfl rfl (eQ HT_.out (by kernel_rfl)) (fun _ _ _ h=>h) (Or.inl ⟨by rfl,?_⟩) ?_ ?_
                 rotate_left
                 . intro w'
                   go_simp
                   with_reducible rfl
                 rotate_left
                 . simp only[Act.put,zj,zr,ya,aJ,aT];rfl
                 refine iY (i:=1) (N:=some 51) (v:=?_) (a':=?_) #[ye,ye,ye,ye,ye,yi,yi,yi,yi,yi,yi] rfl rfl (iJ HT_.out HW_.out (by kernel_rfl)) (fun _ _ _ h=>h) (Or.inl ⟨by rfl,?_⟩) hHeld ?_ ?_
                 rotate_left
                 . rintro w' ⟨s0,s1,s2,s3,s4,s5⟩
                   go_simp
                   with_reducible rfl
                 rotate_left
                 . simp only[Act.put,zj,zr,ya,aJ,aT];rfl
                 refine iY (i:=5) (N:=some 55) (v:=?_) (a':=?_) #[ye,ye,ye,ye,ye,ye,yi,yi,yi,yi,yi] rfl rfl (iJ HT_.out HW_.out (by kernel_rfl)) (fun _ _ _ h=>h) (Or.inl ⟨by rfl,?_⟩) hHeld ?_ ?_
                 rotate_left
                 . rintro w' ⟨s0,s1,s2,s3,s4,s5⟩
                   go_simp
                   with_reducible rfl
                 rotate_left
                 . simp only[Act.put,zj,zr,ya,aJ,aT];rfl
                 refine bz (i:=6) (N:=some 56) (v:=?_) (a':=?_) #[ye,ye,ye,ye,ye,ye,ye,yi,yi,yi,yi] rfl rfl (eQ HT_.out (by kernel_rfl)) (fun _ _ _ h=>h) (Or.inl ⟨by rfl,?_⟩) ?_ ?_
                 rotate_left
                 . intro w'
                   go_simp
                   with_reducible rfl
                 rotate_left
                 . simp only[Act.put,zj,zr,ya,aJ,aT];rfl
                 refine bz (i:=7) (N:=some 57) (v:=?_) (a':=?_) #[ye,ye,ye,ye,ye,ye,ye,ye,yi,yi,yi] rfl rfl (eQ HT_.out (by kernel_rfl)) (fun _ _ _ h=>h) (Or.inl ⟨by rfl,?_⟩) ?_ ?_
                 rotate_left
                 . intro w'
                   go_simp
                   with_reducible rfl
                 rotate_left
                 . simp only[Act.put,zj,zr,ya,aJ,aT];rfl
                 refine iY (i:=8) (N:=some 58) (v:=?_) (a':=?_) #[ye,ye,ye,ye,ye,ye,ye,ye,ye,yi,yi] rfl rfl (iJ HT_.out HW_.out (by kernel_rfl)) (fun _ _ _ h=>h) (Or.inl ⟨by rfl,?_⟩) hHeld ?_ ?_
                 rotate_left
                 . rintro w' ⟨s0,s1,s2,s3,s4,s5⟩
                   go_simp
                   with_reducible rfl
                 rotate_left
                 . simp only[Act.put,zj,zr,ya,aJ,aT];rfl
                 refine nD (i:=9) (N:=some 7) #[ye,ye,ye,ye,ye,ye,ye,ye,ye,ye,yi] rfl rfl (jV HT_.out (by kernel_rfl)) (by decide) (fun K hK=>?_)
                 refine EU ?hg (N:=7) ?hd (cs:=#[.slice none 0 0,.slice none 0 0]) (t:=89) ?hr ?_;(case hd=>rfl);(case hg=>rfl);(case hr=>first|(go_simp;done)|(go_simp;rfl))
                 intro gb424 hg w43 hbox hb;have HS3_:=(hb.cell (World.block_lt_of_cell? _ _ (hHeld.2.2.2.1))).trans (hHeld.2.2.2.1);have HS4_:=(hb.cell (World.block_lt_of_cell? _ _ (hHeld.2.2.2.2.1))).trans (hHeld.2.2.2.2.1);have HS5_:=(hb.cell (World.block_lt_of_cell? _ _ (hHeld.2.2.2.2.2))).trans (hHeld.2.2.2.2.2);have n0_:=Y (Kd.aX (by(with_reducible repeat (first|apply Kd.bF|apply Kd.bL|apply Kd.bP));exact HO_3.out) hb)
                 have n1_:=Y (Kd.ko (Kd.jC (by(with_reducible repeat (first|apply Kd.bJ|apply Kd.bK|apply Kd.bQ));exact HO_403002.out) gb424 (Nat.le_of_eq hg.symm)) hb)
                 have n2_:=Y (Kd.ng (Kd.xm (by(with_reducible repeat (first|apply Kd.eF|apply Kd.eD|apply Kd.eu));exact HO_408000.out) gb424 (Nat.le_of_eq hg.symm)) hb)
                 have n3_:=Y (Kd.aX (by(with_reducible repeat (first|apply Kd.bF|apply Kd.bL|apply Kd.bP));exact HO_408001.out) hb)
                 have n4_:=Y (Kd.ng (Kd.xm (by(with_reducible repeat (first|apply Kd.eF|apply Kd.eD|apply Kd.eu));exact HO_408002.out) gb424 (Nat.le_of_eq hg.symm)) hb)
                 have n5_:=Y (Kd.ko (Kd.jC (by(with_reducible repeat (first|apply Kd.bJ|apply Kd.bK|apply Kd.bQ));exact HL423_0.out) gb424 (Nat.le_of_eq hg.symm)) hb)
                 have n6_:=Y (Kd.ko (Kd.jC (by(with_reducible repeat (first|apply Kd.bJ|apply Kd.bK|apply Kd.bQ));exact HL423_1.out) gb424 (Nat.le_of_eq hg.symm)) hb)
                 have n7_:=Y (dw (g:=gb402) (o:=.cells #[.slice A0_0 l0_0.length c0_0,.slice A0_1 l0_1.length c0_1,.slice (some ad423) l0_2.length c0_2] 41 (0,0)) (by(with_reducible repeat (first|refine ay ?_ _|refine az ?_|refine ax ?_ _));exact BK402.out) hb)
                 have n8_:=Y (dw (g:=gb403) (o:=.cells #[.slice none 0 0,.slice none 0 0,.slice none 0 0] 41 (0,0)) (by(with_reducible repeat (first|refine ay ?_ _|refine az ?_|refine ax ?_ _));exact BK403.out) hb)
                 have n9_:=Y (dw (g:=gb407) (o:=.cells #[u408000,.slice Ao32 t419.length co32,u408002] 41 (0,0)) (by(with_reducible repeat (first|refine ay ?_ _|refine az ?_|refine ax ?_ _));exact BK407.out) hb)
                 have n10_:=Y (Kd.aU (by repeat (first|(with_reducible exact HR423_0.out)|(with_reducible refine Kd.dn ?_ _)|(with_reducible refine Kd.dB ?_ _)|(with_reducible refine Kd.dS ?_)|exact HR423_0.out)) hb)
                 have n11_:=Y (Kd.aU (by repeat (first|(with_reducible exact HR423_1.out)|(with_reducible refine Kd.dn ?_ _)|(with_reducible refine Kd.dB ?_ _)|(with_reducible refine Kd.dS ?_)|exact HR423_1.out)) hb)
                 have n12_:=Y (ed (by repeat (first|(with_reducible first|exact HB.out|apply ae|apply ah|apply av|refine aj ?_ GE402.out|refine aj ?_ GE403.out|refine aj ?_ GE407.out)|exact HB.out)) hb)
                 have n13_:=Y (hbox);have n14_:=Y ((by rw[hg];exact(bq (by repeat (first|(with_reducible first|exact HB.out|apply ae|apply ah|apply av|refine aj ?_ GE402.out|refine aj ?_ GE403.out|refine aj ?_ GE407.out)|exact HB.out))):w.heap.size<=gb424))
                 have n15_:=Y ((by rw[hg];exact(bq (by repeat (first|(with_reducible first|exact HB.out|apply ae|apply ah|apply av|refine aj ?_ GE402.out|refine aj ?_ GE403.out|refine aj ?_ GE407.out)|exact HB.out))):w.heap.size<=gb424))
                 have n16_:=Y ((by rw[hg];exact Nat.ne_of_lt (gU (g:=gb402) (o:=.cells #[.slice A0_0 l0_0.length c0_0,.slice A0_1 l0_1.length c0_1,.slice (some ad423) l0_2.length c0_2] 41 (0,0)) (by(with_reducible repeat (first|refine ay ?_ _|refine az ?_|refine ax ?_ _));exact BK402.out)):gb402≠gb424))
                 have n17_:=Y ((by rw[hg];exact Nat.ne_of_gt (gU (g:=gb402) (o:=.cells #[.slice A0_0 l0_0.length c0_0,.slice A0_1 l0_1.length c0_1,.slice (some ad423) l0_2.length c0_2] 41 (0,0)) (by(with_reducible repeat (first|refine ay ?_ _|refine az ?_|refine ax ?_ _));exact BK402.out)):gb424≠gb402))
                 have n18_:=Y ((by rw[hg];exact Nat.ne_of_lt (gU (g:=gb403) (o:=.cells #[.slice none 0 0,.slice none 0 0,.slice none 0 0] 41 (0,0)) (by(with_reducible repeat (first|refine ay ?_ _|refine az ?_|refine ax ?_ _));exact BK403.out)):gb403≠gb424))
                 have n19_:=Y ((by rw[hg];exact Nat.ne_of_gt (gU (g:=gb403) (o:=.cells #[.slice none 0 0,.slice none 0 0,.slice none 0 0] 41 (0,0)) (by(with_reducible repeat (first|refine ay ?_ _|refine az ?_|refine ax ?_ _));exact BK403.out)):gb424≠gb403))
                 have n20_:=Y ((by rw[hg];exact Nat.ne_of_lt (gU (g:=gb407) (o:=.cells #[u408000,.slice Ao32 t419.length co32,u408002] 41 (0,0)) (by(with_reducible repeat (first|refine ay ?_ _|refine az ?_|refine ax ?_ _));exact BK407.out)):gb407≠gb424))
                 have n21_:=Y ((by rw[hg];exact Nat.ne_of_gt (gU (g:=gb407) (o:=.cells #[u408000,.slice Ao32 t419.length co32,u408002] 41 (0,0)) (by(with_reducible repeat (first|refine ay ?_ _|refine az ?_|refine ax ?_ _));exact BK407.out)):gb424≠gb407))
                 clear HO_3;clear HO_403002;clear HO_408000;clear HO_408001;clear HO_408002;clear HL423_0;clear HL423_1;clear BK402;clear BK403;clear BK407;clear HR423_0;clear HR423_1;clear HB;have HO_3:=n0_;have HO_403002:=n1_;have HO_408000:=n2_;have HO_408001:=n3_;have HO_408002:=n4_;have HL423_0:=n5_;have HL423_1:=n6_;have BK402:=n7_;have BK403:=n8_;have BK407:=n9_;have HR423_0:=n10_;have HR423_1:=n11_;have HB:=n12_;have BK424:=n13_;have GW424:=n14_;have GE424:=n15_;have NB402_424:=n16_;have NB424_402:=n17_;have NB403_424:=n18_;have NB424_403:=n19_;have NB407_424:=n20_;have NB424_407:=n21_;clear n0_ n1_ n2_ n3_ n4_ n5_ n6_ n7_ n8_ n9_ n10_ n11_ n12_ n13_ n14_ n15_ n16_ n17_ n18_ n19_ n20_ n21_;clear hb hbox hg;refine hK.out _ _ ⟨(aA BK402.out 0).trans rfl,(aA BK402.out 1).trans rfl,(aA BK402.out 2).trans rfl,HS3_,HS4_,HS5_⟩ (fun hHeld=>?_)
                 clear hK K;refine mi (a':=?_) ?_ ?_
                 rotate_left
                 . show Act.put _ (some 7) _=_
                   simp only[Act.put,zj,zr,ya,aJ,aT];rfl
                 refine nD (i:=10) (N:=none) #[ye,ye,ye,ye,ye,ye,ye,ye,ye,ye,ye] rfl rfl (jV HT_.out (by kernel_rfl)) (by decide) (fun K hK=>?_)
                 have hs44:w43.cell? ⟨gb424,0,none⟩=some (.slice none 0 0):=(aA BK424.out 0).trans rfl;have hfs44:=ak BK424.out 0;have hns44_0:=NB402_424.out;have hns44_1:=NB403_424.out;have hns44_2:=NB407_424.out;have hms44_0:=NB424_402.out;have hms44_1:=NB424_403.out;have hms44_2:=NB424_407.out;have hs45:w43.cell? ⟨gb424,1,none⟩=some (.slice none 0 0):=(aA BK424.out 1).trans rfl;have hfs45:=ak BK424.out 1;have hns45_0:=NB402_424.out;have hns45_1:=NB403_424.out;have hns45_2:=NB407_424.out;have hms45_0:=NB424_402.out;have hms45_1:=NB424_403.out;have hms45_2:=NB424_407.out;refine uF (w1:=?_) (by rfl) rfl ?_ ?_
                 rotate_left
                 . go_simp
                   rfl
                 refine hK.out _ _ ⟨((cell_far (p:=⟨gb424,_,none⟩) NB402_424.out _).trans (((cell_far (p:=⟨gb424,_,none⟩) NB402_424.out _).trans (hHeld.1)))),((cell_far (p:=⟨gb424,_,none⟩) NB402_424.out _).trans (((cell_far (p:=⟨gb424,_,none⟩) NB402_424.out _).trans (hHeld.2.1)))),((cell_far (p:=⟨gb424,_,none⟩) NB402_424.out _).trans (((cell_far (p:=⟨gb424,_,none⟩) NB402_424.out _).trans (hHeld.2.2.1)))),((cell_far (p:=⟨gb424,_,none⟩) (by first|exact Kd.dY (Kd.dL HO_3.out BK424.out (by decide))|(rw[add_block];exact Kd.dY (Kd.dL HO_3.out BK424.out (by decide)))|(show(Addr.add _ _).block≠_;rw[add_block];exact Kd.dY (Kd.dL HO_3.out BK424.out (by decide)))|(dsimp only;exact Kd.dY (Kd.dL HO_3.out BK424.out (by decide)))) _).trans (((cell_far (p:=⟨gb424,_,none⟩) (by first|exact Kd.dY (Kd.dL HO_3.out BK424.out (by decide))|(rw[add_block];exact Kd.dY (Kd.dL HO_3.out BK424.out (by decide)))|(show(Addr.add _ _).block≠_;rw[add_block];exact Kd.dY (Kd.dL HO_3.out BK424.out (by decide)))|(dsimp only;exact Kd.dY (Kd.dL HO_3.out BK424.out (by decide)))) _).trans (hHeld.2.2.2.1)))),((cell_far (p:=⟨gb424,_,none⟩) (by first|exact Kd.dY (ic HO_403002.out (by have h1_:=of_decide_eq_true c38b0;have h2_:=of_decide_eq_true c39b0;omega) (by decide) (fun _ hk=>hk.2))|(rw[add_block];exact Kd.dY (ic HO_403002.out (by have h1_:=of_decide_eq_true c38b0;have h2_:=of_decide_eq_true c39b0;omega) (by decide) (fun _ hk=>hk.2)))|(show(Addr.add _ _).block≠_;rw[add_block];exact Kd.dY (ic HO_403002.out (by have h1_:=of_decide_eq_true c38b0;have h2_:=of_decide_eq_true c39b0;omega) (by decide) (fun _ hk=>hk.2)))|(dsimp only;exact Kd.dY (ic HO_403002.out (by have h1_:=of_decide_eq_true c38b0;have h2_:=of_decide_eq_true c39b0;omega) (by decide) (fun _ hk=>hk.2)))) _).trans (((cell_far (p:=⟨gb424,_,none⟩) (by first|exact Kd.dY (ic HO_403002.out (by have h1_:=of_decide_eq_true c38b0;have h2_:=of_decide_eq_true c39b0;omega) (by decide) (fun _ hk=>hk.2))|(rw[add_block];exact Kd.dY (ic HO_403002.out (by have h1_:=of_decide_eq_true c38b0;have h2_:=of_decide_eq_true c39b0;omega) (by decide) (fun _ hk=>hk.2)))|(show(Addr.add _ _).block≠_;rw[add_block];exact Kd.dY (ic HO_403002.out (by have h1_:=of_decide_eq_true c38b0;have h2_:=of_decide_eq_true c39b0;omega) (by decide) (fun _ hk=>hk.2)))|(dsimp only;exact Kd.dY (ic HO_403002.out (by have h1_:=of_decide_eq_true c38b0;have h2_:=of_decide_eq_true c39b0;omega) (by decide) (fun _ hk=>hk.2)))) _).trans (hHeld.2.2.2.2.1)))),((cell_far (p:=⟨gb424,_,none⟩) (by first|exact Kd.dY (ic HO_403002.out (by have h1_:=of_decide_eq_true c38b0;have h2_:=of_decide_eq_true c39b0;omega) (by decide) (fun _ hk=>hk.2))|(rw[add_block];exact Kd.dY (ic HO_403002.out (by have h1_:=of_decide_eq_true c38b0;have h2_:=of_decide_eq_true c39b0;omega) (by decide) (fun _ hk=>hk.2)))|(show(Addr.add _ _).block≠_;rw[add_block];exact Kd.dY (ic HO_403002.out (by have h1_:=of_decide_eq_true c38b0;have h2_:=of_decide_eq_true c39b0;omega) (by decide) (fun _ hk=>hk.2)))|(dsimp only;exact Kd.dY (ic HO_403002.out (by have h1_:=of_decide_eq_true c38b0;have h2_:=of_decide_eq_true c39b0;omega) (by decide) (fun _ hk=>hk.2)))) _).trans (((cell_far (p:=⟨gb424,_,none⟩) (by first|exact Kd.dY (ic HO_403002.out (by have h1_:=of_decide_eq_true c38b0;have h2_:=of_decide_eq_true c39b0;omega) (by decide) (fun _ hk=>hk.2))|(rw[add_block];exact Kd.dY (ic HO_403002.out (by have h1_:=of_decide_eq_true c38b0;have h2_:=of_decide_eq_true c39b0;omega) (by decide) (fun _ hk=>hk.2)))|(show(Addr.add _ _).block≠_;rw[add_block];exact Kd.dY (ic HO_403002.out (by have h1_:=of_decide_eq_true c38b0;have h2_:=of_decide_eq_true c39b0;omega) (by decide) (fun _ hk=>hk.2)))|(dsimp only;exact Kd.dY (ic HO_403002.out (by have h1_:=of_decide_eq_true c38b0;have h2_:=of_decide_eq_true c39b0;omega) (by decide) (fun _ hk=>hk.2)))) _).trans (hHeld.2.2.2.2.2))))⟩ (fun hHeld=>?_)
                 clear hK K;refine pV (Q7.u7 HT_.out (by kernel_rfl)) ?_
                 try go_wp2
                 have n0_:aa (Kd.R (Kd.int .i64) 3 ((w43.setCell ⟨gb424,0,none⟩ (.slice A423_0 ((aV l0_2 (ji37)).f0).length c423_0)).setCell ⟨gb424,1,none⟩ (.slice A423_1 ((aV l0_2 (ji37)).f1).length c423_1)) w.heap.size (fun k_=>(w.heap.size<=k_)/\some k_≠(.slice Ao32 t419.length co32:Value).ownBlock) (.slice (some ad422) t404.length co30) t404):=⟨by(with_reducible repeat (first|apply Kd.bF|apply Kd.bL|apply Kd.bP));exact Kd.bY (Kd.kL (p:=⟨gb424,1,none⟩) (Kd.kL (p:=⟨gb424,0,none⟩) (Kd.dD HO_3.out BK424.out (by decide)) (fun _ hk=>hk.2) (.slice A423_0 ((aV l0_2 (ji37)).f0).length c423_0)) (fun _ hk=>hk.2) (.slice A423_1 ((aV l0_2 (ji37)).f1).length c423_1)) (fun _ hk=>⟨hk.1.1,hk.1.2⟩)⟩
                 have n1_:aa (Kd.V k89 89 ((w43.setCell ⟨gb424,0,none⟩ (.slice A423_0 ((aV l0_2 (ji37)).f0).length c423_0)).setCell ⟨gb424,1,none⟩ (.slice A423_1 ((aV l0_2 (ji37)).f1).length c423_1)) w.heap.size (fun k_=>(P0_2_ k_\/w.heap.size<=k_)/\some k_≠(.slice (some ad422) t404.length co30:Value).ownBlock/\some k_≠(u408000:Value).ownBlock/\some k_≠(.slice Ao32 t419.length co32:Value).ownBlock/\some k_≠(u408002:Value).ownBlock/\k_≠gb402/\k_≠gb403/\k_≠gb407/\k_≠gb424) (.slice (some ad423) l0_2.length c0_2) l0_2):=⟨by(with_reducible repeat (first|apply Kd.bJ|apply Kd.bK|apply Kd.bQ));exact Kd.dU (Kd.mP (p:=⟨gb424,1,none⟩) (Kd.mP (p:=⟨gb424,0,none⟩) (Kd.dU HO_403002.out (fun k_ hk=>(⟨hk,hk.2⟩:_/\k_≠gb424))) (fun _ hk=>hk.2) (.slice A423_0 ((aV l0_2 (ji37)).f0).length c423_0)) (fun _ hk=>hk.2) (.slice A423_1 ((aV l0_2 (ji37)).f1).length c423_1)) (fun _ hk=>⟨hk.1.1.1,⟨hk.1.1.2.1,⟨hk.1.1.2.2.1,⟨hk.1.1.2.2.2.1,⟨hk.1.1.2.2.2.2.1,⟨hk.1.1.2.2.2.2.2.1,⟨hk.1.1.2.2.2.2.2.2.1,⟨hk.1.1.2.2.2.2.2.2.2,hk.1.2⟩⟩⟩⟩⟩⟩⟩⟩)⟩
                 have n2_:aa (Kd.N k88 88 ((w43.setCell ⟨gb424,0,none⟩ (.slice A423_0 ((aV l0_2 (ji37)).f0).length c423_0)).setCell ⟨gb424,1,none⟩ (.slice A423_1 ((aV l0_2 (ji37)).f1).length c423_1)) w.heap.size (fun k_=>(P0_2_ k_\/w.heap.size<=k_)/\some k_≠(.slice (some ad422) t404.length co30:Value).ownBlock/\some k_≠(.slice Ao32 t419.length co32:Value).ownBlock/\some k_≠(u408002:Value).ownBlock/\k_≠gb402/\k_≠gb403/\k_≠gb407/\k_≠gb424) u408000 x408000_1):=⟨by(with_reducible repeat (first|apply Kd.eF|apply Kd.eD|apply Kd.eu));exact Kd.fC (Kd.jP (p:=⟨gb424,1,none⟩) (Kd.jP (p:=⟨gb424,0,none⟩) (Kd.fC HO_408000.out (fun k_ hk=>(⟨hk,hk.2⟩:_/\k_≠gb424))) (fun _ hk=>hk.2) (.slice A423_0 ((aV l0_2 (ji37)).f0).length c423_0)) (fun _ hk=>hk.2) (.slice A423_1 ((aV l0_2 (ji37)).f1).length c423_1)) (fun _ hk=>⟨hk.1.1.1,⟨hk.1.1.2.1,⟨hk.1.1.2.2.1,⟨hk.1.1.2.2.2.1,⟨hk.1.1.2.2.2.2.1,⟨hk.1.1.2.2.2.2.2.1,⟨hk.1.1.2.2.2.2.2.2,hk.1.2⟩⟩⟩⟩⟩⟩⟩)⟩
                 have n3_:aa (Kd.R (Kd.int .i64) 3 ((w43.setCell ⟨gb424,0,none⟩ (.slice A423_0 ((aV l0_2 (ji37)).f0).length c423_0)).setCell ⟨gb424,1,none⟩ (.slice A423_1 ((aV l0_2 (ji37)).f1).length c423_1)) w.heap.size (fun k_=>(w.heap.size<=k_)/\some k_≠(.slice (some ad422) t404.length co30:Value).ownBlock) (.slice Ao32 t419.length co32) t419):=⟨by(with_reducible repeat (first|apply Kd.bF|apply Kd.bL|apply Kd.bP));exact Kd.bY (Kd.kL (p:=⟨gb424,1,none⟩) (Kd.kL (p:=⟨gb424,0,none⟩) (Kd.dD HO_408001.out BK424.out (by decide)) (fun _ hk=>hk.2) (.slice A423_0 ((aV l0_2 (ji37)).f0).length c423_0)) (fun _ hk=>hk.2) (.slice A423_1 ((aV l0_2 (ji37)).f1).length c423_1)) (fun _ hk=>⟨hk.1.1,hk.1.2⟩)⟩
                 have n4_:aa (Kd.N k89 89 ((w43.setCell ⟨gb424,0,none⟩ (.slice A423_0 ((aV l0_2 (ji37)).f0).length c423_0)).setCell ⟨gb424,1,none⟩ (.slice A423_1 ((aV l0_2 (ji37)).f1).length c423_1)) w.heap.size (fun k_=>(P0_2_ k_\/w.heap.size<=k_)/\some k_≠(.slice (some ad422) t404.length co30:Value).ownBlock/\some k_≠(u408000:Value).ownBlock/\some k_≠(.slice Ao32 t419.length co32:Value).ownBlock/\k_≠gb402/\k_≠gb403/\k_≠gb407/\k_≠gb424) u408002 x408002_2):=⟨by(with_reducible repeat (first|apply Kd.eF|apply Kd.eD|apply Kd.eu));exact Kd.fC (Kd.jP (p:=⟨gb424,1,none⟩) (Kd.jP (p:=⟨gb424,0,none⟩) (Kd.fC HO_408002.out (fun k_ hk=>(⟨hk,hk.2⟩:_/\k_≠gb424))) (fun _ hk=>hk.2) (.slice A423_0 ((aV l0_2 (ji37)).f0).length c423_0)) (fun _ hk=>hk.2) (.slice A423_1 ((aV l0_2 (ji37)).f1).length c423_1)) (fun _ hk=>⟨hk.1.1.1,⟨hk.1.1.2.1,⟨hk.1.1.2.2.1,⟨hk.1.1.2.2.2.1,⟨hk.1.1.2.2.2.2.1,⟨hk.1.1.2.2.2.2.2.1,⟨hk.1.1.2.2.2.2.2.2,hk.1.2⟩⟩⟩⟩⟩⟩⟩)⟩
                 have n5_:aa (Kd.V (Kd.int .i64) 3 ((w43.setCell ⟨gb424,0,none⟩ (.slice A423_0 ((aV l0_2 (ji37)).f0).length c423_0)).setCell ⟨gb424,1,none⟩ (.slice A423_1 ((aV l0_2 (ji37)).f1).length c423_1)) w.heap.size (fun k_=>(P0_2_ k_\/w.heap.size<=k_)/\some k_≠(.slice (some ad422) t404.length co30:Value).ownBlock/\some k_≠(u408000:Value).ownBlock/\some k_≠(.slice Ao32 t419.length co32:Value).ownBlock/\some k_≠(u408002:Value).ownBlock/\k_≠gb402/\k_≠gb403/\k_≠gb407/\k_≠gb424) (.slice A423_0 ((aV l0_2 (ji37)).f0).length c423_0) ((aV l0_2 (ji37)).f0)):=⟨by(with_reducible repeat (first|apply Kd.bJ|apply Kd.bK|apply Kd.bQ));exact Kd.dU (Kd.mP (p:=⟨gb424,1,none⟩) (Kd.mP (p:=⟨gb424,0,none⟩) (Kd.dU HL423_0.out (fun k_ hk=>(⟨hk,hk.2⟩:_/\k_≠gb424))) (fun _ hk=>hk.2) (.slice A423_0 ((aV l0_2 (ji37)).f0).length c423_0)) (fun _ hk=>hk.2) (.slice A423_1 ((aV l0_2 (ji37)).f1).length c423_1)) (fun _ hk=>⟨hk.1.1.1,⟨hk.1.1.2.1,⟨hk.1.1.2.2.1,⟨hk.1.1.2.2.2.1,⟨hk.1.1.2.2.2.2.1,⟨hk.1.1.2.2.2.2.2.1,⟨hk.1.1.2.2.2.2.2.2.1,⟨hk.1.1.2.2.2.2.2.2.2,hk.1.2⟩⟩⟩⟩⟩⟩⟩⟩)⟩
                 have n6_:aa (Kd.V (Kd.int .u64) 31 ((w43.setCell ⟨gb424,0,none⟩ (.slice A423_0 ((aV l0_2 (ji37)).f0).length c423_0)).setCell ⟨gb424,1,none⟩ (.slice A423_1 ((aV l0_2 (ji37)).f1).length c423_1)) w.heap.size (fun k_=>(P0_2_ k_\/w.heap.size<=k_)/\some k_≠(.slice (some ad422) t404.length co30:Value).ownBlock/\some k_≠(u408000:Value).ownBlock/\some k_≠(.slice Ao32 t419.length co32:Value).ownBlock/\some k_≠(u408002:Value).ownBlock/\k_≠gb402/\k_≠gb403/\k_≠gb407/\k_≠gb424) (.slice A423_1 ((aV l0_2 (ji37)).f1).length c423_1) ((aV l0_2 (ji37)).f1)):=⟨by(with_reducible repeat (first|apply Kd.bJ|apply Kd.bK|apply Kd.bQ));exact Kd.dU (Kd.mP (p:=⟨gb424,1,none⟩) (Kd.mP (p:=⟨gb424,0,none⟩) (Kd.dU HL423_1.out (fun k_ hk=>(⟨hk,hk.2⟩:_/\k_≠gb424))) (fun _ hk=>hk.2) (.slice A423_0 ((aV l0_2 (ji37)).f0).length c423_0)) (fun _ hk=>hk.2) (.slice A423_1 ((aV l0_2 (ji37)).f1).length c423_1)) (fun _ hk=>⟨hk.1.1.1,⟨hk.1.1.2.1,⟨hk.1.1.2.2.1,⟨hk.1.1.2.2.2.1,⟨hk.1.1.2.2.2.2.1,⟨hk.1.1.2.2.2.2.2.1,⟨hk.1.1.2.2.2.2.2.2.1,⟨hk.1.1.2.2.2.2.2.2.2,hk.1.2⟩⟩⟩⟩⟩⟩⟩⟩)⟩
                 have n7_:aa (((w43.setCell ⟨gb424,0,none⟩ (.slice A423_0 ((aV l0_2 (ji37)).f0).length c423_0)).setCell ⟨gb424,1,none⟩ (.slice A423_1 ((aV l0_2 (ji37)).f1).length c423_1)).heap[gb402]? =some (.cells #[.slice A0_0 l0_0.length c0_0,.slice A0_1 l0_1.length c0_1,.slice (some ad423) l0_2.length c0_2] 41 (0,0))):=⟨by(with_reducible repeat (first|refine ay ?_ _|refine az ?_|refine ax ?_ _));refine iT ?_ NB402_424.out _;(with_reducible repeat (first|refine ay ?_ _|refine az ?_|refine ax ?_ _));refine iT ?_ NB402_424.out _;(with_reducible repeat (first|refine ay ?_ _|refine az ?_|refine ax ?_ _));exact BK402.out⟩
                 have n8_:aa (((w43.setCell ⟨gb424,0,none⟩ (.slice A423_0 ((aV l0_2 (ji37)).f0).length c423_0)).setCell ⟨gb424,1,none⟩ (.slice A423_1 ((aV l0_2 (ji37)).f1).length c423_1)).heap[gb403]? =some (.cells #[.slice none 0 0,.slice none 0 0,.slice none 0 0] 41 (0,0))):=⟨by(with_reducible repeat (first|refine ay ?_ _|refine az ?_|refine ax ?_ _));refine iT ?_ NB403_424.out _;(with_reducible repeat (first|refine ay ?_ _|refine az ?_|refine ax ?_ _));refine iT ?_ NB403_424.out _;(with_reducible repeat (first|refine ay ?_ _|refine az ?_|refine ax ?_ _));exact BK403.out⟩
                 have n9_:aa (((w43.setCell ⟨gb424,0,none⟩ (.slice A423_0 ((aV l0_2 (ji37)).f0).length c423_0)).setCell ⟨gb424,1,none⟩ (.slice A423_1 ((aV l0_2 (ji37)).f1).length c423_1)).heap[gb407]? =some (.cells #[u408000,.slice Ao32 t419.length co32,u408002] 41 (0,0))):=⟨by(with_reducible repeat (first|refine ay ?_ _|refine az ?_|refine ax ?_ _));refine iT ?_ NB407_424.out _;(with_reducible repeat (first|refine ay ?_ _|refine az ?_|refine ax ?_ _));refine iT ?_ NB407_424.out _;(with_reducible repeat (first|refine ay ?_ _|refine az ?_|refine ax ?_ _));exact BK407.out⟩
                 have n10_:aa (((w43.setCell ⟨gb424,0,none⟩ (.slice A423_0 ((aV l0_2 (ji37)).f0).length c423_0)).setCell ⟨gb424,1,none⟩ (.slice A423_1 ((aV l0_2 (ji37)).f1).length c423_1)).heap[gb424]? =some (.cells #[.slice A423_0 ((aV l0_2 (ji37)).f0).length c423_0,.slice A423_1 ((aV l0_2 (ji37)).f1).length c423_1] 89 (0,0))):=⟨by(with_reducible repeat (first|refine ay ?_ _|refine az ?_|refine ax ?_ _));refine kZ (cs:=#[.slice A423_0 ((aV l0_2 (ji37)).f0).length c423_0,.slice none 0 0]) ?_ 1 _ rfl;(with_reducible repeat (first|refine ay ?_ _|refine az ?_|refine ax ?_ _));refine kZ (cs:=#[.slice none 0 0,.slice none 0 0]) ?_ 0 _ rfl;(with_reducible repeat (first|refine ay ?_ _|refine az ?_|refine ax ?_ _));exact BK424.out⟩
                 have n11_:aa (Below w.heap.size w ((w43.setCell ⟨gb424,0,none⟩ (.slice A423_0 ((aV l0_2 (ji37)).f0).length c423_0)).setCell ⟨gb424,1,none⟩ (.slice A423_1 ((aV l0_2 (ji37)).f1).length c423_1))):=⟨by repeat (first|(with_reducible first|exact HB.out|apply ae|apply ah|apply av|refine aj ?_ GE402.out|refine aj ?_ GE403.out|refine aj ?_ GE407.out|refine aj ?_ GE424.out)|exact HB.out)⟩
                 (try clear HO_3)
                 (try clear HO_403002)
                 (try clear HO_408000)
                 (try clear HO_408001)
                 (try clear HO_408002)
                 (try clear HL423_0)
                 (try clear HL423_1)
                 (try clear BK402)
                 (try clear BK403)
                 (try clear BK407)
                 (try clear BK424)
                 (try clear HB)
                 generalize ((w43.setCell ⟨gb424,0,none⟩ (.slice A423_0 ((aV l0_2 (ji37)).f0).length c423_0)).setCell ⟨gb424,1,none⟩ (.slice A423_1 ((aV l0_2 (ji37)).f1).length c423_1))=w46 at n0_ n1_ n2_ n3_ n4_ n5_ n6_ n7_ n8_ n9_ n10_ n11_ ⊢;have HO_3:=n0_;have HO_403002:=n1_;have HO_408000:=n2_;have HO_408001:=n3_;have HO_408002:=n4_;have HL423_0:=n5_;have HL423_1:=n6_;have BK402:=n7_;have BK403:=n8_;have BK407:=n9_;have BK424:=n10_;have HB:=n11_;clear n0_ n1_ n2_ n3_ n4_ n5_ n6_ n7_ n8_ n9_ n10_ n11_;have n0_:=Y (Kd.bP HO_3.out);have n1_:=Y (Kd.bQ HO_403002.out);have n2_:=Y (Kd.eu HO_408000.out);have n3_:=Y (Kd.bP HO_408001.out);have n4_:=Y (Kd.eu HO_408002.out);have n5_:=Y (Kd.bQ HL423_0.out);have n6_:=Y (Kd.bQ HL423_1.out);have n7_:=Y (az BK402.out);have n8_:=Y (az BK403.out);have n9_:=Y (az BK407.out);have n10_:=Y (az BK424.out);have n11_:=Y (av HB.out);clear HO_3;clear HO_403002;clear HO_408000;clear HO_408001;clear HO_408002;clear HL423_0;clear HL423_1;clear BK402;clear BK403;clear BK407;clear BK424;clear HB;have HO_3:=n0_;have HO_403002:=n1_;have HO_408000:=n2_;have HO_408001:=n3_;have HO_408002:=n4_;have HL423_0:=n5_;have HL423_1:=n6_;have BK402:=n7_;have BK403:=n8_;have BK407:=n9_;have BK424:=n10_;have HB:=n11_;clear n0_ n1_ n2_ n3_ n4_ n5_ n6_ n7_ n8_ n9_ n10_ n11_;refine nE (n:=13) (S:=fun w'=>w'.cell? ⟨gb407,0,none⟩=some (u408000)/\w'.cell? ⟨gb407,1,none⟩=some (.slice Ao32 t419.length co32)/\w'.cell? ⟨gb407,2,none⟩=some (u408002)/\w'.cell? ⟨gb424,0,none⟩=some (.slice A423_0 ((aV l0_2 (ji37)).f0).length c423_0)/\w'.cell? ⟨gb424,1,none⟩=some (.slice A423_1 ((aV l0_2 (ji37)).f1).length c423_1)) (ds:=[12]) #[yi,yi,yi,yi,yi,yi,yi,yi,yi,yi,yi,yi,yi] (by kernel_rfl) rfl rfl ⟨(aA BK407.out 0).trans rfl,(aA BK407.out 1).trans rfl,(aA BK407.out 2).trans rfl,(aA BK424.out 0).trans rfl,(aA BK424.out 1).trans rfl⟩ (fun hHeld=>?_);refine qE demesneref28_Shape_Canon.tab12 demesneref28_Shape_Canon.bits12 (fun HT_ HW_=>?_)
                 generalize w46.drew=w47 at HO_3 HO_403002 HO_408000 HO_408001 HO_408002 HL423_0 HL423_1 BK402 BK403 BK407 BK424 HB hHeld ⊢;refine bz (i:=0) (N:=some 59) (v:=?_) (a':=?_) #[ye,yi,yi,yi,yi,yi,yi,yi,yi,yi,yi,yi,yi] rfl rfl (eQ HT_.out (by kernel_rfl)) (fun _ _ _ h=>h) (Or.inl ⟨by rfl,?_⟩) ?_ ?_
                 rotate_left
                 . intro w'
                   go_simp
                   with_reducible rfl
                 rotate_left
                 . simp only[Act.put,zj,zr,ya,aJ,aT];rfl
                 refine bz (i:=2) (N:=some 61) (v:=?_) (a':=?_) #[ye,yi,ye,yi,yi,yi,yi,yi,yi,yi,yi,yi,yi] rfl rfl (eQ HT_.out (by kernel_rfl)) (fun _ _ _ h=>h) (Or.inl ⟨by rfl,?_⟩) ?_ ?_
                 rotate_left
                 . intro w'
                   go_simp
                   with_reducible rfl
                 rotate_left
                 . simp only[Act.put,zj,zr,ya,aJ,aT];rfl
                 refine bz (i:=4) (N:=some 63) (v:=?_) (a':=?_) #[ye,yi,ye,yi,ye,yi,yi,yi,yi,yi,yi,yi,yi] rfl rfl (eQ HT_.out (by kernel_rfl)) (fun _ _ _ h=>h) (Or.inl ⟨by rfl,?_⟩) ?_ ?_
                 rotate_left
                 . intro w'
                   go_simp
                   with_reducible rfl
                 rotate_left
                 . simp only[Act.put,zj,zr,ya,aJ,aT];rfl
                 refine bz (i:=6) (N:=some 65) (v:=?_) (a':=?_) #[ye,yi,ye,yi,ye,yi,ye,yi,yi,yi,yi,yi,yi] rfl rfl (eQ HT_.out (by kernel_rfl)) (fun _ _ _ h=>h) (Or.inl ⟨by rfl,?_⟩) ?_ ?_
                 rotate_left
                 . intro w'
                   go_simp
                   with_reducible rfl
                 rotate_left
                 . simp only[Act.put,zj,zr,ya,aJ,aT];rfl
                 refine iY (i:=1) (N:=some 60) (v:=?_) (a':=?_) #[ye,ye,ye,yi,ye,yi,ye,yi,yi,yi,yi,yi,yi] rfl rfl (iJ HT_.out HW_.out (by kernel_rfl)) (fun _ _ _ h=>h) (Or.inl ⟨by rfl,?_⟩) hHeld ?_ ?_
                 rotate_left
                 . rintro w' ⟨s0,s1,s2,s3,s4⟩
                   go_simp
                   with_reducible rfl
                 rotate_left
                 . simp only[Act.put,zj,zr,ya,aJ,aT];rfl
                 refine iY (i:=3) (N:=some 62) (v:=?_) (a':=?_) #[ye,ye,ye,ye,ye,yi,ye,yi,yi,yi,yi,yi,yi] rfl rfl (iJ HT_.out HW_.out (by kernel_rfl)) (fun _ _ _ h=>h) (Or.inl ⟨by rfl,?_⟩) hHeld ?_ ?_
                 rotate_left
                 . rintro w' ⟨s0,s1,s2,s3,s4⟩
                   go_simp
                   with_reducible rfl
                 rotate_left
                 . simp only[Act.put,zj,zr,ya,aJ,aT];rfl
                 refine iY (i:=7) (N:=some 66) (v:=?_) (a':=?_) #[ye,ye,ye,ye,ye,yi,ye,ye,yi,yi,yi,yi,yi] rfl rfl (iJ HT_.out HW_.out (by kernel_rfl)) (fun _ _ _ h=>h) (Or.inl ⟨by rfl,?_⟩) hHeld ?_ ?_
                 rotate_left
                 . rintro w' ⟨s0,s1,s2,s3,s4⟩
                   go_simp
                   with_reducible rfl
                 rotate_left
                 . simp only[Act.put,zj,zr,ya,aJ,aT];rfl
                 refine nD (i:=5) (N:=some 64) #[ye,ye,ye,ye,ye,ye,ye,ye,yi,yi,yi,yi,yi] rfl rfl (jV HT_.out (by kernel_rfl)) (by decide) (fun K hK=>?_)
                 refine goes_ Tryz.func83 (by kernel_rfl) rfl #[.slice A423_0 ((aV l0_2 (ji37)).f0).length c423_0,.slice (some ad422) t404.length co30] (by rfl) rfl rfl (by(try simp only[List.map_toArray,List.map_cons,List.map_nil]);first|done|(simp only[hji37];rfl)|rfl|(simp only[List.length_drop,List.length_take];rfl)) ?_
                 with_reducible refine(demesneref28_renamed.calls k2 _ _ ((aV l0_2 (ji37)).f0) _ _ t404 t425 _ ?side1 ?side2 ?side3 ?side4 A40.out).mono ?_
                 (case side1=>repeat (first|exact((Kd.dE (by(with_reducible repeat (first|apply Kd.bJ|apply Kd.bK|apply Kd.bQ));exact HL423_0.out)).2.2)|(with_reducible refine Kd.dn ?_ _)|(with_reducible refine Kd.dB ?_ _)|(with_reducible refine Kd.dS ?_)))
                 (case side2=>exact HC423_0.out)
                 (case side3=>repeat (first|exact(Kd.bI HO_3.out).2.2|(with_reducible refine Kd.dn ?_ _)|(with_reducible refine Kd.dB ?_ _)|(with_reducible refine Kd.dS ?_)))
                 (case side4=>exact(Kd.bI HO_3.out).2.1)
                 rintro e w48 ⟨v426,rfl,ho0,hb⟩;refine⟨_,rfl,?_⟩;have n0_:=Y (Kd.lU (by(with_reducible repeat (first|apply Kd.bF|apply Kd.bL|apply Kd.bP));exact HO_3.out) (Kd.dG ho0) hb)
                 have n1_:=Y (Kd.jc (by(with_reducible repeat (first|apply Kd.bJ|apply Kd.bK|apply Kd.bQ));exact HO_403002.out) (Kd.dG ho0) hb)
                 have n2_:=Y (Kd.nN (by(with_reducible repeat (first|apply Kd.eF|apply Kd.eD|apply Kd.eu));exact HO_408000.out) (Kd.dG ho0) hb)
                 have n3_:=Y (Kd.lU (by(with_reducible repeat (first|apply Kd.bF|apply Kd.bL|apply Kd.bP));exact HO_408001.out) (Kd.dG ho0) hb)
                 have n4_:=Y (Kd.nN (by(with_reducible repeat (first|apply Kd.eF|apply Kd.eD|apply Kd.eu));exact HO_408002.out) (Kd.dG ho0) hb)
                 have n5_:=Y (Kd.jc (by(with_reducible repeat (first|apply Kd.bJ|apply Kd.bK|apply Kd.bQ));exact HL423_0.out) (Kd.dG ho0) hb)
                 have n6_:=Y (Kd.jc (by(with_reducible repeat (first|apply Kd.bJ|apply Kd.bK|apply Kd.bQ));exact HL423_1.out) (Kd.dG ho0) hb)
                 have n7_:=Y (Kd.cB (Kd.oW (Kd.oW (Kd.mD (M:=fun k_=>(w.heap.size<=k_)) ho0 (bq (by repeat (first|(with_reducible first|exact HB.out|apply ae|apply ah|apply av|refine aj ?_ GE402.out|refine aj ?_ GE403.out|refine aj ?_ GE407.out|refine aj ?_ GE424.out)|exact HB.out))) (fun k_ h_=>h_)) (Kd.fT (by(with_reducible repeat (first|apply Kd.bF|apply Kd.bL|apply Kd.bP));exact HO_3.out))) (Kd.fT (by(with_reducible repeat (first|apply Kd.bF|apply Kd.bL|apply Kd.bP));exact HO_408001.out))) (bq (by repeat (first|(with_reducible first|exact HB.out|apply ae|apply ah|apply av|refine aj ?_ GE402.out|refine aj ?_ GE403.out|refine aj ?_ GE407.out|refine aj ?_ GE424.out)|exact HB.out))))
                 have n8_:=Y (dw (g:=gb402) (o:=.cells #[.slice A0_0 l0_0.length c0_0,.slice A0_1 l0_1.length c0_1,.slice (some ad423) l0_2.length c0_2] 41 (0,0)) (by(with_reducible repeat (first|refine ay ?_ _|refine az ?_|refine ax ?_ _));exact BK402.out) hb)
                 have n9_:=Y (dw (g:=gb403) (o:=.cells #[.slice none 0 0,.slice none 0 0,.slice none 0 0] 41 (0,0)) (by(with_reducible repeat (first|refine ay ?_ _|refine az ?_|refine ax ?_ _));exact BK403.out) hb)
                 have n10_:=Y (dw (g:=gb407) (o:=.cells #[u408000,.slice Ao32 t419.length co32,u408002] 41 (0,0)) (by(with_reducible repeat (first|refine ay ?_ _|refine az ?_|refine ax ?_ _));exact BK407.out) hb)
                 have n11_:=Y (dw (g:=gb424) (o:=.cells #[.slice A423_0 ((aV l0_2 (ji37)).f0).length c423_0,.slice A423_1 ((aV l0_2 (ji37)).f1).length c423_1] 89 (0,0)) (by(with_reducible repeat (first|refine ay ?_ _|refine az ?_|refine ax ?_ _));exact BK424.out) hb)
                 have n12_:=Y (ed (by repeat (first|(with_reducible first|exact HB.out|apply ae|apply ah|apply av|refine aj ?_ GE402.out|refine aj ?_ GE403.out|refine aj ?_ GE407.out|refine aj ?_ GE424.out)|exact HB.out)) hb)
                 clear HO_3;clear HO_403002;clear HO_408000;clear HO_408001;clear HO_408002;clear HL423_0;clear HL423_1;clear BK402;clear BK403;clear BK407;clear BK424;clear HB;have HO_3:=n0_;have HO_403002:=n1_;have HO_408000:=n2_;have HO_408001:=n3_;have HO_408002:=n4_;have HL423_0:=n5_;have HL423_1:=n6_;have HO427:=n7_;have BK402:=n8_;have BK403:=n9_;have BK407:=n10_;have BK424:=n11_;have HB:=n12_;clear n0_ n1_ n2_ n3_ n4_ n5_ n6_ n7_ n8_ n9_ n10_ n11_ n12_
                 (try clear hb)
                 (try clear hb2)
                 (try clear hk)
                 (try clear hi)
                 (try clear ho0)
                 obtain⟨Ao49,co49,eo49⟩:=Kd.aD HO427.out
                 (first|subst eo49|(injection eo49 with f1_ f2_ f3_;have f4_:=f1_.symm;have f5_:=f3_.symm;clear f1_ f2_ f3_;subst f4_;subst f5_))
                 refine hK.out _ _ ⟨(aA BK407.out 0).trans rfl,(aA BK407.out 1).trans rfl,(aA BK407.out 2).trans rfl,(aA BK424.out 0).trans rfl,(aA BK424.out 1).trans rfl⟩ (fun hHeld=>?_)
                 clear hK K;refine mi (a':=?_) ?_ ?_
                 rotate_left
                 . show Act.put _ (some 64) _=_
                   simp only[Act.put,zj,zr,ya,aJ,aT];rfl
                 refine bz (i:=8) (N:=some 67) (v:=?_) (a':=?_) #[ye,ye,ye,ye,ye,ye,ye,ye,ye,yi,yi,yi,yi] rfl rfl (eQ HT_.out (by kernel_rfl)) (fun _ _ _ h=>h) (Or.inl ⟨by rfl,?_⟩) ?_ ?_
                 rotate_left
                 . intro w'
                   go_simp
                   with_reducible rfl
                 rotate_left
                 . simp only[Act.put,zj,zr,ya,aJ,aT];rfl
                 refine nD (i:=9) (N:=some 68) #[ye,ye,ye,ye,ye,ye,ye,ye,ye,ye,yi,yi,yi] rfl rfl (jV HT_.out (by kernel_rfl)) (by decide) (fun K hK=>?_)
                 refine CE (w1:=?_) (v:=?_) (by rfl) rfl ?_ ?_
                 rotate_left 2
                 . go_simp
                   constructor
                   . rfl
                   . rfl
                 refine hK.out _ _ ⟨(aA (ax BK407.out _) 0).trans rfl,(aA (ax BK407.out _) 1).trans rfl,(aA (ax BK407.out _) 2).trans rfl,(aA (ax BK424.out _) 0).trans rfl,(aA (ax BK424.out _) 1).trans rfl⟩ (fun hHeld=>?_)
                 clear hK K;refine mi (a':=?_) ?_ ?_
                 rotate_left
                 . show Act.put _ (some 68) _=_
                   simp only[Act.put,zj,zr,ya,aJ,aT];rfl
                 refine nD (i:=10) (N:=some 69) #[ye,ye,ye,ye,ye,ye,ye,ye,ye,ye,ye,yi,yi] rfl rfl (jV HT_.out (by kernel_rfl)) (by decide) (fun K hK=>?_)
                 refine Kd.qf k89 (w0:=w) w.heap.size (by rfl) (.tmp 60) (.tmp 68) 39 89 (.agg #[(.slice none 0 0),(.slice none 0 0)]) 48 rfl Tryz.underlying39 info89 rfl (by decide) (by omega) u408002 x408002_2 (⟨t425,(aV l0_2 (ji37)).f1⟩:S89) [.slice Ao49 t425.length co49,.slice A423_1 ((aV l0_2 (ji37)).f1).length c423_1] (fun k_=>(P0_2_ k_\/w.heap.size<=k_)/\some k_≠(.slice (some ad422) t404.length co30:Value).ownBlock/\some k_≠(u408000:Value).ownBlock/\some k_≠(.slice Ao32 t419.length co32:Value).ownBlock/\k_≠gb402/\k_≠gb403/\k_≠gb407/\k_≠gb424) (fun k_=>((fun k_=>(P0_2_ k_\/w.heap.size<=k_)/\some k_≠(.slice (some ad422) t404.length co30:Value).ownBlock/\some k_≠(u408000:Value).ownBlock/\some k_≠(.slice Ao32 t419.length co32:Value).ownBlock/\k_≠gb402/\k_≠gb403/\k_≠gb407/\k_≠gb424)) k_/\some k_≠(u408002:Value).ownBlock) rfl rfl ?aP (fun _ hk=>hk) ?aF ?aO ?aB ?aS ?aL ?_
                 (case aP=>exact(k89_mkF _ _ (⟨t425,(aV l0_2 (ji37)).f1⟩:S89) (Kd.bI (Kd.bY (ok':=(fun k_=>((fun k_=>(P0_2_ k_\/w.heap.size<=k_)/\some k_≠(.slice (some ad422) t404.length co30:Value).ownBlock/\some k_≠(u408000:Value).ownBlock/\some k_≠(.slice Ao32 t419.length co32:Value).ownBlock/\k_≠gb402/\k_≠gb403/\k_≠gb407/\k_≠gb424)) k_/\some k_≠(u408002:Value).ownBlock)) (Kd.dD (Kd.dD (Kd.dD (Kd.dD (Kd.jX (Kd.jX (HO427.out) (Kd.jl HO_408000.out) (by decide)) (Kd.jl HO_408002.out) (by decide)) BK402.out (by decide)) BK403.out (by decide)) BK407.out (by decide)) BK424.out (by decide)) (fun k_ hk=>⟨⟨(.inr (hk.1.1.1.1.1.1.1.1.1)),⟨hk.1.1.1.1.1.1.1.2,⟨hk.1.1.1.1.1.2,⟨hk.1.1.1.1.1.1.2,⟨hk.1.1.1.2,⟨hk.1.1.2,⟨hk.1.2,hk.2⟩⟩⟩⟩⟩⟩⟩,hk.1.1.1.1.2⟩))).2.1 (Kd.R_F (Kd.bY (ok':=(fun k_=>((fun k_=>(P0_2_ k_\/w.heap.size<=k_)/\some k_≠(.slice (some ad422) t404.length co30:Value).ownBlock/\some k_≠(u408000:Value).ownBlock/\some k_≠(.slice Ao32 t419.length co32:Value).ownBlock/\k_≠gb402/\k_≠gb403/\k_≠gb407/\k_≠gb424)) k_/\some k_≠(u408002:Value).ownBlock)) (Kd.dD (Kd.dD (Kd.dD (Kd.dD (Kd.jX (Kd.jX (HO427.out) (Kd.jl HO_408000.out) (by decide)) (Kd.jl HO_408002.out) (by decide)) BK402.out (by decide)) BK403.out (by decide)) BK407.out (by decide)) BK424.out (by decide)) (fun k_ hk=>⟨⟨(.inr (hk.1.1.1.1.1.1.1.1.1)),⟨hk.1.1.1.1.1.1.1.2,⟨hk.1.1.1.1.1.2,⟨hk.1.1.1.1.1.1.2,⟨hk.1.1.1.2,⟨hk.1.1.2,⟨hk.1.2,hk.2⟩⟩⟩⟩⟩⟩⟩,hk.1.1.1.1.2⟩))) (Kd.dE (Kd.dU (ok':=(fun k_=>((fun k_=>(P0_2_ k_\/w.heap.size<=k_)/\some k_≠(.slice (some ad422) t404.length co30:Value).ownBlock/\some k_≠(u408000:Value).ownBlock/\some k_≠(.slice Ao32 t419.length co32:Value).ownBlock/\k_≠gb402/\k_≠gb403/\k_≠gb407/\k_≠gb424)) k_/\some k_≠(u408002:Value).ownBlock)) (HL423_1.out) (fun k_ hk=>⟨⟨hk.1.1,⟨hk.1.2.1,⟨hk.1.2.2.1,⟨hk.1.2.2.2.1,⟨hk.1.2.2.2.2.2.1,⟨hk.1.2.2.2.2.2.2.1,⟨hk.1.2.2.2.2.2.2.2.1,hk.1.2.2.2.2.2.2.2.2⟩⟩⟩⟩⟩⟩⟩,hk.1.2.2.2.2.1⟩))).2.1 (Kd.V_F (Kd.dU (ok':=(fun k_=>((fun k_=>(P0_2_ k_\/w.heap.size<=k_)/\some k_≠(.slice (some ad422) t404.length co30:Value).ownBlock/\some k_≠(u408000:Value).ownBlock/\some k_≠(.slice Ao32 t419.length co32:Value).ownBlock/\k_≠gb402/\k_≠gb403/\k_≠gb407/\k_≠gb424)) k_/\some k_≠(u408002:Value).ownBlock)) (HL423_1.out) (fun k_ hk=>⟨⟨hk.1.1,⟨hk.1.2.1,⟨hk.1.2.2.1,⟨hk.1.2.2.2.1,⟨hk.1.2.2.2.2.2.1,⟨hk.1.2.2.2.2.2.2.1,⟨hk.1.2.2.2.2.2.2.2.1,hk.1.2.2.2.2.2.2.2.2⟩⟩⟩⟩⟩⟩⟩,hk.1.2.2.2.2.1⟩)))))
                 (case aB=>exact(by repeat (first|(with_reducible first|exact HB.out|apply ae|apply ah|apply av|refine aj ?_ GE402.out|refine aj ?_ GE403.out|refine aj ?_ GE407.out|refine aj ?_ GE424.out)|exact HB.out)))
                 (case aF=>exact(fun k_ hk=>⟨(.inr (Nat.le_trans (bq (by repeat (first|(with_reducible first|exact HB.out|apply ae|apply ah|apply av|refine aj ?_ GE402.out|refine aj ?_ GE403.out|refine aj ?_ GE407.out|refine aj ?_ GE424.out)|exact HB.out))) hk)),Kd.fresh' (Kd.fT (by(with_reducible repeat (first|apply Kd.bF|apply Kd.bL|apply Kd.bP));exact HO_3.out)) k_ hk,Kd.fresh' (Kd.N_lt (by(with_reducible repeat (first|apply Kd.eF|apply Kd.eD|apply Kd.eu));exact HO_408000.out)) k_ hk,Kd.fresh' (Kd.fT (by(with_reducible repeat (first|apply Kd.bF|apply Kd.bL|apply Kd.bP));exact HO_408001.out)) k_ hk,Kd.nU (g:=gb402) (o:=.cells #[.slice A0_0 l0_0.length c0_0,.slice A0_1 l0_1.length c0_1,.slice (some ad423) l0_2.length c0_2] 41 (0,0)) (by(with_reducible repeat (first|refine ay ?_ _|refine az ?_|refine ax ?_ _));exact BK402.out) k_ hk,Kd.nU (g:=gb403) (o:=.cells #[.slice none 0 0,.slice none 0 0,.slice none 0 0] 41 (0,0)) (by(with_reducible repeat (first|refine ay ?_ _|refine az ?_|refine ax ?_ _));exact BK403.out) k_ hk,Kd.nU (g:=gb407) (o:=.cells #[u408000,.slice Ao32 t419.length co32,u408002] 41 (0,0)) (by(with_reducible repeat (first|refine ay ?_ _|refine az ?_|refine ax ?_ _));exact BK407.out) k_ hk,Kd.nU (g:=gb424) (o:=.cells #[.slice A423_0 ((aV l0_2 (ji37)).f0).length c423_0,.slice A423_1 ((aV l0_2 (ji37)).f1).length c423_1] 89 (0,0)) (by(with_reducible repeat (first|refine ay ?_ _|refine az ?_|refine ax ?_ _));exact BK424.out) k_ hk⟩))
                 (case aO=>exact(by(with_reducible repeat (first|apply Kd.eF|apply Kd.eD|apply Kd.eu));exact Kd.fC HO_408002.out (fun _ hk=>⟨hk.1.1,⟨hk.1.2.1,⟨hk.1.2.2.1,⟨hk.1.2.2.2.1,⟨hk.1.2.2.2.2.1,⟨hk.1.2.2.2.2.2.1,⟨hk.1.2.2.2.2.2.2.1,hk.1.2.2.2.2.2.2.2⟩⟩⟩⟩⟩⟩⟩)))
                 (case aS=>exact(bq (by repeat (first|(with_reducible first|exact HB.out|apply ae|apply ah|apply av|refine aj ?_ GE402.out|refine aj ?_ GE403.out|refine aj ?_ GE407.out|refine aj ?_ GE424.out)|exact HB.out))))
                 (case aL=>have:=LMc41.out;omega)
                 intro v429 w50 ho hb hg hat;rw[<-Ny428.out]at ho;have n0_:=Y (Kd.vI (by(with_reducible repeat (first|apply Kd.bF|apply Kd.bL|apply Kd.bP));exact HO_3.out) (Kd.jl (by(with_reducible repeat (first|apply Kd.eF|apply Kd.eD|apply Kd.eu));exact HO_408002.out)) (by decide) hg)
                 have n1_:=Y (Kd.jg (ok:=(fun k_=>(P0_2_ k_\/w.heap.size<=k_)/\some k_≠(.slice (some ad422) t404.length co30:Value).ownBlock/\some k_≠(u408000:Value).ownBlock/\some k_≠(.slice Ao32 t419.length co32:Value).ownBlock/\some k_≠(.slice Ao49 t425.length co49:Value).ownBlock/\k_≠gb402/\k_≠gb403/\k_≠gb407/\k_≠gb424)) (by(with_reducible repeat (first|apply Kd.bJ|apply Kd.bK|apply Kd.bQ));exact Kd.dU HO_403002.out (fun _ hk=>⟨⟨hk.1.1,⟨hk.1.2.1,⟨hk.1.2.2.1,⟨hk.1.2.2.2.1,⟨hk.2,⟨hk.1.2.2.2.2.2.1,⟨hk.1.2.2.2.2.2.2.1,⟨hk.1.2.2.2.2.2.2.2.1,hk.1.2.2.2.2.2.2.2.2⟩⟩⟩⟩⟩⟩⟩⟩,hk.1.2.2.2.2.1⟩)) hg hat)
                 have n2_:=Y (Kd.Ey (ok:=(fun k_=>(P0_2_ k_\/w.heap.size<=k_)/\some k_≠(.slice (some ad422) t404.length co30:Value).ownBlock/\some k_≠(.slice Ao32 t419.length co32:Value).ownBlock/\some k_≠(.slice Ao49 t425.length co49:Value).ownBlock/\k_≠gb402/\k_≠gb403/\k_≠gb407/\k_≠gb424)) (by(with_reducible repeat (first|apply Kd.eF|apply Kd.eD|apply Kd.eu));exact Kd.fC HO_408000.out (fun _ hk=>⟨⟨hk.1.1,⟨hk.1.2.1,⟨hk.1.2.2.1,⟨hk.2,⟨hk.1.2.2.2.2.1,⟨hk.1.2.2.2.2.2.1,⟨hk.1.2.2.2.2.2.2.1,hk.1.2.2.2.2.2.2.2⟩⟩⟩⟩⟩⟩⟩,hk.1.2.2.2.1⟩)) hg hat)
                 have n3_:=Y (Kd.vI (by(with_reducible repeat (first|apply Kd.bF|apply Kd.bL|apply Kd.bP));exact HO_408001.out) (Kd.jl (by(with_reducible repeat (first|apply Kd.eF|apply Kd.eD|apply Kd.eu));exact HO_408002.out)) (by decide) hg)
                 have n4_:=Y (fQ (g:=gb402) (o:=.cells #[.slice A0_0 l0_0.length c0_0,.slice A0_1 l0_1.length c0_1,.slice (some ad423) l0_2.length c0_2] 41 (0,0)) (by(with_reducible repeat (first|refine ay ?_ _|refine az ?_|refine ax ?_ _));exact BK402.out) hg (Kd.N_ne HO_408002.out BK402.out (by decide)))
                 have n5_:=Y (fQ (g:=gb403) (o:=.cells #[.slice none 0 0,.slice none 0 0,.slice none 0 0] 41 (0,0)) (by(with_reducible repeat (first|refine ay ?_ _|refine az ?_|refine ax ?_ _));exact BK403.out) hg (Kd.N_ne HO_408002.out BK403.out (by decide)))
                 have n6_:=Y (fQ (g:=gb407) (o:=.cells #[u408000,.slice Ao32 t419.length co32,u408002] 41 (0,0)) (by(with_reducible repeat (first|refine ay ?_ _|refine az ?_|refine ax ?_ _));exact BK407.out) hg (Kd.N_ne HO_408002.out BK407.out (by decide)))
                 have n7_:=Y (Kd.jg (ok:=(fun k_=>(P0_2_ k_\/w.heap.size<=k_)/\some k_≠(.slice (some ad422) t404.length co30:Value).ownBlock/\some k_≠(u408000:Value).ownBlock/\some k_≠(.slice Ao32 t419.length co32:Value).ownBlock/\some k_≠(.slice Ao49 t425.length co49:Value).ownBlock/\k_≠gb402/\k_≠gb403/\k_≠gb407/\k_≠gb424)) (by(with_reducible repeat (first|apply Kd.bJ|apply Kd.bK|apply Kd.bQ));exact Kd.dU HL423_0.out (fun _ hk=>⟨⟨hk.1.1,⟨hk.1.2.1,⟨hk.1.2.2.1,⟨hk.1.2.2.2.1,⟨hk.2,⟨hk.1.2.2.2.2.2.1,⟨hk.1.2.2.2.2.2.2.1,⟨hk.1.2.2.2.2.2.2.2.1,hk.1.2.2.2.2.2.2.2.2⟩⟩⟩⟩⟩⟩⟩⟩,hk.1.2.2.2.2.1⟩)) hg hat)
                 have n8_:=Y (Kd.jg (ok:=(fun k_=>(P0_2_ k_\/w.heap.size<=k_)/\some k_≠(.slice (some ad422) t404.length co30:Value).ownBlock/\some k_≠(u408000:Value).ownBlock/\some k_≠(.slice Ao32 t419.length co32:Value).ownBlock/\some k_≠(.slice Ao49 t425.length co49:Value).ownBlock/\k_≠gb402/\k_≠gb403/\k_≠gb407/\k_≠gb424)) (by(with_reducible repeat (first|apply Kd.bJ|apply Kd.bK|apply Kd.bQ));exact Kd.dU HL423_1.out (fun _ hk=>⟨⟨hk.1.1,⟨hk.1.2.1,⟨hk.1.2.2.1,⟨hk.1.2.2.2.1,⟨hk.2,⟨hk.1.2.2.2.2.2.1,⟨hk.1.2.2.2.2.2.2.1,⟨hk.1.2.2.2.2.2.2.2.1,hk.1.2.2.2.2.2.2.2.2⟩⟩⟩⟩⟩⟩⟩⟩,hk.1.2.2.2.2.1⟩)) hg hat)
                 have n9_:=Y (fQ (g:=gb424) (o:=.cells #[.slice A423_0 ((aV l0_2 (ji37)).f0).length c423_0,.slice A423_1 ((aV l0_2 (ji37)).f1).length c423_1] 89 (0,0)) (by(with_reducible repeat (first|refine ay ?_ _|refine az ?_|refine ax ?_ _));exact BK424.out) hg (Kd.tJ HO_408002.out (fun _ hk=>hk.1.2.2.2.2.2.2.2)))
                 have n10_:=Y (hb);have n11_:=Y (ho);clear HO_3;clear HO_403002;clear HO_408000;clear HO_408001;clear BK402;clear BK403;clear BK407;clear HL423_0;clear HL423_1;clear BK424;clear HB;clear HO_408002;clear HO427;have HO_3:=n0_;have HO_403002:=n1_;have HO_408000:=n2_;have HO_408001:=n3_;have BK402:=n4_;have BK403:=n5_;have BK407:=n6_;have HL423_0:=n7_;have HL423_1:=n8_;have BK424:=n9_;have HB:=n10_;have HO430:=n11_;clear n0_ n1_ n2_ n3_ n4_ n5_ n6_ n7_ n8_ n9_ n10_ n11_;clear ho hb hg hat;obtain⟨Ao51,co51,eo51⟩:=Kd.o6 HO430.out
                 (first|subst eo51|(injection eo51 with f1_ f2_ f3_;have f4_:=f1_.symm;have f5_:=f3_.symm;clear f1_ f2_ f3_;subst f4_;subst f5_))
                 refine hK.out _ _ ⟨(aA BK407.out 0).trans rfl,(aA BK407.out 1).trans rfl,(aA BK407.out 2).trans rfl,(aA BK424.out 0).trans rfl,(aA BK424.out 1).trans rfl⟩ (fun hHeld=>?_)
                 clear hK K;refine mi (a':=?_) ?_ ?_
                 rotate_left
                 . show Act.put _ (some 69) _=_
                   simp only[Act.put,zj,zr,ya,aJ,aT];rfl
                 refine bz (i:=11) (N:=some 70) (v:=?_) (a':=?_) #[ye,ye,ye,ye,ye,ye,ye,ye,ye,ye,ye,ye,yi] rfl rfl (eQ HT_.out (by kernel_rfl)) (fun _ _ _ h=>h) (Or.inl ⟨by rfl,?_⟩) ?_ ?_
                 rotate_left
                 . intro w'
                   go_simp
                   with_reducible rfl
                 rotate_left
                 . simp only[Act.put,zj,zr,ya,aJ,aT];rfl
                 refine wS (i:=12) (N:=none) #[ye,ye,ye,ye,ye,ye,ye,ye,ye,ye,ye,ye,ye] rfl rfl (jV HT_.out (by kernel_rfl)) (by decide) (fun K hK=>?_)
                 have hs52:w50.cell? ⟨gb407,2,none⟩=some (u408002):=(aA BK407.out 2).trans rfl;have hfs52:=ak BK407.out 2;have hns52_0:=NB402_407.out;have hns52_1:=NB403_407.out;have hns52_3:=NB424_407.out;have hms52_0:=NB407_402.out;have hms52_1:=NB407_403.out;have hms52_3:=NB407_424.out;refine uF (w1:=?_) (by rfl) rfl ?_ ?_
                 rotate_left
                 . go_simp
                   rfl
                 refine hK.out _ _ ?_;clear hK K;refine pV (Q7.u7 HT_.out (by kernel_rfl)) ?_
                 try go_wp2
                 go_roundg k2
                 case measure=>have:=HK1.out;have:=HK2.out;omega
                 case rel=>exact⟨(wrap64 (x6_2+1)),(y428),(.slice Ao51 y428.length co51),(by first|rfl|(simp;done)|(simp[*];done)),H',⟨by have:=HK1.out;have:=HK2.out;omega⟩,⟨by(with_reducible repeat (first|apply Kd.bF|apply Kd.bL|apply Kd.bP));exact Kd.bY (Kd.kL (p:=⟨gb407,2,none⟩) (Kd.dD HO_3.out BK407.out (by decide)) (fun _ hk=>hk.2) (.slice Ao51 y428.length co51)) (fun _ hk=>⟨hk.1.1.1,hk.1.1.2⟩)⟩,⟨by(with_reducible repeat (first|apply Kd.bJ|apply Kd.bK|apply Kd.bQ));exact Kd.dU (Kd.mP (p:=⟨gb407,2,none⟩) (Kd.dU HO_403002.out (fun k_ hk=>(⟨hk,hk.1.2.2.2.2.2.2.2.1⟩:_/\k_≠gb407))) (fun _ hk=>hk.2) (.slice Ao51 y428.length co51)) (fun _ hk=>⟨hk.1.1.1,⟨hk.1.1.2.1,⟨hk.1.1.2.2.1,⟨hk.1.1.2.2.2.1,⟨hk.1.2,⟨hk.1.1.2.2.2.2.2.1,⟨hk.1.1.2.2.2.2.2.2.1,hk.1.1.2.2.2.2.2.2.2.1⟩⟩⟩⟩⟩⟩⟩)⟩,⟨by(with_reducible repeat (first|apply Kd.eF|apply Kd.eD|apply Kd.eu));exact Kd.fC (Kd.jP (p:=⟨gb407,2,none⟩) (Kd.fC HO_408000.out (fun k_ hk=>(⟨hk,hk.1.2.2.2.2.2.2.1⟩:_/\k_≠gb407))) (fun _ hk=>hk.2) (.slice Ao51 y428.length co51)) (fun _ hk=>⟨hk.1.1.1,⟨hk.1.1.2.1,⟨hk.1.1.2.2.1,⟨hk.1.2,⟨hk.1.1.2.2.2.2.1,⟨hk.1.1.2.2.2.2.2.1,hk.1.1.2.2.2.2.2.2.1⟩⟩⟩⟩⟩⟩)⟩,⟨by(with_reducible repeat (first|apply Kd.bF|apply Kd.bL|apply Kd.bP));exact Kd.bY (Kd.kL (p:=⟨gb407,2,none⟩) (Kd.dD HO_408001.out BK407.out (by decide)) (fun _ hk=>hk.2) (.slice Ao51 y428.length co51)) (fun _ hk=>⟨hk.1.1.1,hk.1.1.2⟩)⟩,⟨by(with_reducible repeat (first|apply Kd.eF|apply Kd.eD|apply Kd.eu));exact Kd.fC (Kd.jP (p:=⟨gb407,2,none⟩) (Kd.fC HO430.out (fun k_ hk=>(⟨hk,hk.2.2.2.2.2.2.1⟩:_/\k_≠gb407))) (fun _ hk=>hk.2) (.slice Ao51 y428.length co51)) (fun _ hk=>⟨hk.1.1,⟨hk.1.2.1,⟨hk.1.2.2.1,⟨hk.1.2.2.2.1,⟨hk.1.2.2.2.2.1,⟨hk.1.2.2.2.2.2.1,hk.1.2.2.2.2.2.2.1⟩⟩⟩⟩⟩⟩)⟩,⟨by(with_reducible repeat (first|refine ay ?_ _|refine az ?_|refine ax ?_ _));refine iT ?_ NB402_407.out _;(with_reducible repeat (first|refine ay ?_ _|refine az ?_|refine ax ?_ _));exact BK402.out⟩,⟨by(with_reducible repeat (first|refine ay ?_ _|refine az ?_|refine ax ?_ _));refine iT ?_ NB403_407.out _;(with_reducible repeat (first|refine ay ?_ _|refine az ?_|refine ax ?_ _));exact BK403.out⟩,⟨by(with_reducible repeat (first|refine ay ?_ _|refine az ?_|refine ax ?_ _));refine kZ (cs:=#[u408000,.slice Ao32 t419.length co32,u408002]) ?_ 2 _ rfl;(with_reducible repeat (first|refine ay ?_ _|refine az ?_|refine ax ?_ _));exact BK407.out⟩,⟨by repeat (first|(with_reducible first|exact HB.out|apply ae|apply ah|apply av|refine aj ?_ GE402.out|refine aj ?_ GE403.out|refine aj ?_ GE407.out|refine aj ?_ GE424.out)|exact HB.out)⟩⟩
               . rw[if_neg c41]at H;exact absurd H (by simp)
             . rw[if_neg c39]at H;exact absurd H (by simp)
           . rw[if_neg c38]at H;exact absurd H (by simp)
         . rw[if_neg c36]at H;exact absurd H (by simp)
       . rw[if_neg c35]at H;have c35b0:decide (x6_2<(t404.length:Int))=false:=yd c35;clear c35;simp only[Option.some.injEq,Prod.mk.injEq]at H;obtain⟨rfl,rfl,rfl⟩:=H;have hnb53:=NB407_402.out;have hnc53:=NB402_407.out;have hnb54:=NB407_403.out;have hnc54:=NB403_407.out;have hcz55_0:wr.cell? ⟨gb407,0,none⟩=some (u408000):=(aA BK407.out 0).trans rfl;have hcz55_1:wr.cell? ⟨gb407,1,none⟩=some (.slice Ao32 t419.length co32):=(aA BK407.out 1).trans rfl;have hcz55_2:wr.cell? ⟨gb407,2,none⟩=some (u408002):=(aA BK407.out 2).trans rfl;have hfz55_0:=ak BK407.out 0;have hfz55_1:=ak BK407.out 1;have hfz55_2:=ak BK407.out 2;obtain⟨Ao56,co56,eo56⟩:=Kd.o6 HO_408000.out;subst eo56;have hnb57:=NB403_402.out;have hnc57:=NB402_403.out;have hcz58_0:wr.cell? ⟨gb403,0,none⟩=some (.slice none 0 0):=(aA BK403.out 0).trans rfl;have hcz58_1:wr.cell? ⟨gb403,1,none⟩=some (.slice none 0 0):=(aA BK403.out 1).trans rfl;have hcz58_2:wr.cell? ⟨gb403,2,none⟩=some (.slice none 0 0):=(aA BK403.out 2).trans rfl;have hfz58_0:=ak BK403.out 0;have hfz58_1:=ak BK403.out 1;have hfz58_2:=ak BK403.out 2;obtain⟨Ao59,co59,eo59⟩:=Kd.o6 HO_408002.out;subst eo59
         go_wp2
         refine bodyPost_ret (results_cell_row rfl _ _ gb403 41 #[.slice Ao56 x408000_1.length co56,.slice Ao32 t419.length co32,.slice Ao59 x408002_2.length co59] (0,0) _ rfl (by(with_reducible repeat (first|refine ay ?_ _|refine az ?_|refine ax ?_ _));refine kZ (cs:=#[.slice Ao56 x408000_1.length co56,.slice Ao32 t419.length co32,.slice none 0 0]) ?_ 2 _ rfl;(with_reducible repeat (first|refine ay ?_ _|refine az ?_|refine ax ?_ _));refine kZ (cs:=#[.slice Ao56 x408000_1.length co56,.slice none 0 0,.slice none 0 0]) ?_ 1 _ rfl;(with_reducible repeat (first|refine ay ?_ _|refine az ?_|refine ax ?_ _));refine kZ (cs:=#[.slice none 0 0,.slice none 0 0,.slice none 0 0]) ?_ 0 _ rfl;(with_reducible repeat (first|refine ay ?_ _|refine az ?_|refine ax ?_ _));exact BK403.out) Tryz.underlying41 rfl (by kernel_rfl)) rfl ?_
         exact⟨_,_,_,by first|rfl|(simp[jv,jw]<;>rfl)|(simp[*,jv,jw]<;>rfl),by(with_reducible repeat (first|apply Kd.eF|apply Kd.eD|apply Kd.eu));exact Kd.fC (Kd.jP (p:=⟨gb403,2,none⟩) (Kd.jP (p:=⟨gb403,1,none⟩) (Kd.jP (p:=⟨gb403,0,none⟩) (Kd.fC HO_408000.out (fun k_ hk=>(⟨hk,hk.2.2.2.2.2.1⟩:_/\k_≠gb403))) (fun _ hk=>hk.2) (.slice Ao56 x408000_1.length co56)) (fun _ hk=>hk.2) (.slice Ao32 t419.length co32)) (fun _ hk=>hk.2) (.slice Ao59 x408002_2.length co59)) (fun _ hk=>⟨hk.1.1,⟨hk.1.2.2.1,hk.1.2.2.2.1⟩⟩),by(with_reducible repeat (first|apply Kd.bF|apply Kd.bL|apply Kd.bP));exact Kd.bY (Kd.kL (p:=⟨gb403,2,none⟩) (Kd.kL (p:=⟨gb403,1,none⟩) (Kd.kL (p:=⟨gb403,0,none⟩) (Kd.dD HO_408001.out BK403.out (by decide)) (fun _ hk=>hk.2) (.slice Ao56 x408000_1.length co56)) (fun _ hk=>hk.2) (.slice Ao32 t419.length co32)) (fun _ hk=>hk.2) (.slice Ao59 x408002_2.length co59)) (fun _ hk=>hk.1.1),by(with_reducible repeat (first|apply Kd.eF|apply Kd.eD|apply Kd.eu));exact Kd.fC (Kd.jP (p:=⟨gb403,2,none⟩) (Kd.jP (p:=⟨gb403,1,none⟩) (Kd.jP (p:=⟨gb403,0,none⟩) (Kd.fC HO_408002.out (fun k_ hk=>(⟨hk,hk.2.2.2.2.2.1⟩:_/\k_≠gb403))) (fun _ hk=>hk.2) (.slice Ao56 x408000_1.length co56)) (fun _ hk=>hk.2) (.slice Ao32 t419.length co32)) (fun _ hk=>hk.2) (.slice Ao59 x408002_2.length co59)) (fun _ hk=>⟨hk.1.1,⟨hk.1.2.2.1,hk.1.2.2.2.1⟩⟩),by repeat (first|(with_reducible first|exact HB.out|apply ae|apply ah|apply av|refine aj ?_ GE402.out|refine aj ?_ GE403.out|refine aj ?_ GE407.out)|exact HB.out)⟩
end
end Go.Proofs.YtglikkmmbdnmbaaGreat.PCan

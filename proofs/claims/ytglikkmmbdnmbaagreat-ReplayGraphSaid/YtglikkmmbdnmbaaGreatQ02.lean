/- Words of this session's own over the printed ones: append of a row to a row of elements that hold no memory of their own. -/
import Derived.Test.YtglikkmmbdnmbaaGreatProg
import Derived.Below
import Derived.Deep.Draws
import Derived.Deep.AppendLies
import Derived.Maps.AppendAt
import Derived.OwnWalk
import Derived.Laws.BytesArg
import Derived.Laws.MakeOwn
import Derived.Laws.OwnMore
import Derived.Deep.OwnRows
import Derived.Tactics
import Derived.Lib.ConvBytes
import Derived.Laws.Slices
import Derived.WalkKit
import Derived.KernelRfl
import Derived.RowKit3
import Derived.Deep.LoopGhost
import Derived.Deep.QuietTactic
import Derived.BigQuiet
import Derived.WideLaws
import Derived.Deep.DeepCutAuto
import Derived.Deep.CutBlock
import Derived.Deep.RegionHeld3
import Derived.Laws.Rows
import Derived.Lib.AppendStr
import Derived.ArgAppend
import Derived.Laws.IdiomCopy
import Derived.OrdersHeld
import Derived.Laws.BitsLemmas
import Derived.RowKit
import Derived.Test.YtglikkmmbdnmbaaGreatQ00
import Derived.Test.YtglikkmmbdnmbaaGreatQ01
import Derived.Deep.MidRow
import Derived.Laws.Tables
import Derived.Lib.SliceRun
set_option maxHeartbeats 8000000
set_option maxRecDepth 100000
namespace Go.Proofs.YtglikkmmbdnmbaaGreat.PCan
open Go.RowKit Q7
attribute [local go_sem] lJ lZ mY nz lm kW lY lK -- for this text's walks alone
set_option linter.unusedVariables false
set_option linter.unusedSimpArgs false
section
def errW:Option Int->Value
 |none=>.nilIface
 |some c=>.iface 0 (.int .i64 c)
theorem jv:errW none=.nilIface:=rfl
theorem jw (c:Int):errW (some c)=.iface 0 (.int .i64 c):=rfl
theorem info3:(Tryz.prog.info? 3).map (fun i=>(i.zero,i.size,i.bytes))=some (some (.int .i64 0),1,8):=by kernel_rfl
theorem info88:(Tryz.prog.info? 88).map (fun i=>(i.zero,i.size,i.bytes))=some (some (.agg #[(.slice none 0 0),(.slice none 0 0)]),2,48):=by kernel_rfl
theorem info89:(Tryz.prog.info? 89).map (fun i=>(i.zero,i.size,i.bytes))=some (some (.agg #[(.slice none 0 0),(.slice none 0 0)]),2,48):=by kernel_rfl
/-! #### struct type 56 -/
structure S56 where
 f0:Int
 f1:Int
 f2:Int
 f3:Int
 f4:Int
 f5:Int
 f6:Int
 f7:Int
 f8:Int
 f9:Int
 f10:Int
structure S100 where
 f0:Int
 f1:Int
 f2:Int
 f3:Int
def z100:S100:=⟨(0:Int),(0:Int),(0:Int),(0:Int)⟩
def k100:Kd S100:=Kd.iso (Kd.pair (Kd.int .u8) (Kd.pair (Kd.int .u8) (Kd.pair (Kd.int .u8) (Kd.int .u8)))) (fun x:S100=>(x.f0,x.f1,x.f2,x.f3))
theorem CL {w:World}{x:S100}{cs:List Value}(h:k100.K w x cs):cs=[.int .u8 x.f0,.int .u8 x.f1,.int .u8 x.f2,.int .u8 x.f3]:=by
 obtain⟨_,_,rfl,rfl,⟨_,_,rfl,rfl,⟨_,_,rfl,rfl,rfl⟩⟩⟩:=h;exact rfl
theorem k100_mk (w:World)(x:S100):k100.K w x [.int .u8 x.f0,.int .u8 x.f1,.int .u8 x.f2,.int .u8 x.f3]:=⟨[.int .u8 x.f0],[.int .u8 x.f1,.int .u8 x.f2,.int .u8 x.f3],rfl,rfl,⟨[.int .u8 x.f1],[.int .u8 x.f2,.int .u8 x.f3],rfl,rfl,⟨[.int .u8 x.f2],[.int .u8 x.f3],rfl,rfl,rfl⟩⟩⟩
theorem Ei (w:World)(base:Nat)(ok:Nat->Prop)(x:S100):k100.M w base ok x [.int .u8 x.f0,.int .u8 x.f1,.int .u8 x.f2,.int .u8 x.f3]:=⟨[.int .u8 x.f0],[.int .u8 x.f1,.int .u8 x.f2,.int .u8 x.f3],rfl,rfl,⟨[.int .u8 x.f1],[.int .u8 x.f2,.int .u8 x.f3],rfl,rfl,⟨[.int .u8 x.f2],[.int .u8 x.f3],rfl,rfl,rfl⟩⟩⟩
structure S102 where
 f0:Int
 f1:Int
 f2:Int
def z102:S102:=⟨(0:Int),(0:Int),(0:Int)⟩
def k102:Kd S102:=Kd.iso (Kd.pair (Kd.int .i64) (Kd.pair (Kd.int .i64) (Kd.int .u64))) (fun x:S102=>(x.f0,x.f1,x.f2))
theorem Cn {w:World}{x:S102}{cs:List Value}(h:k102.K w x cs):cs=[.int .i64 x.f0,.int .i64 x.f1,.int .u64 x.f2]:=by
 obtain⟨_,_,rfl,rfl,⟨_,_,rfl,rfl,rfl⟩⟩:=h;exact rfl
theorem k102_mk (w:World)(x:S102):k102.K w x [.int .i64 x.f0,.int .i64 x.f1,.int .u64 x.f2]:=⟨[.int .i64 x.f0],[.int .i64 x.f1,.int .u64 x.f2],rfl,rfl,⟨[.int .i64 x.f1],[.int .u64 x.f2],rfl,rfl,rfl⟩⟩
theorem Es (w:World)(base:Nat)(ok:Nat->Prop)(x:S102):k102.M w base ok x [.int .i64 x.f0,.int .i64 x.f1,.int .u64 x.f2]:=⟨[.int .i64 x.f0],[.int .i64 x.f1,.int .u64 x.f2],rfl,rfl,⟨[.int .i64 x.f1],[.int .u64 x.f2],rfl,rfl,rfl⟩⟩
structure aQ where
 f0:Int
 f1:S100
 f2:S102
 f3:Int
 f4:Int
 f5:Int
def z104:aQ:=⟨(0:Int),z100,z102,(0:Int),(0:Int),(0:Int)⟩
def fE:Kd aQ:=Kd.iso (Kd.pair (Kd.int .u8) (Kd.pair k100 (Kd.pair k102 (Kd.pair (Kd.int .i64) (Kd.pair (Kd.int .i64) (Kd.int .i64)))))) (fun x:aQ=>(x.f0,x.f1,x.f2,x.f3,x.f4,x.f5))
theorem qP {w:World}{x:aQ}{cs:List Value}(h:fE.K w x cs):cs=[.int .u8 x.f0,.int .u8 x.f1.f0,.int .u8 x.f1.f1,.int .u8 x.f1.f2,.int .u8 x.f1.f3,.int .i64 x.f2.f0,.int .i64 x.f2.f1,.int .u64 x.f2.f2,.int .i64 x.f3,.int .i64 x.f4,.int .i64 x.f5]:=by
 obtain⟨_,_,rfl,rfl,⟨_,_,rfl,s1,⟨_,_,rfl,s5,⟨_,_,rfl,rfl,⟨_,_,rfl,rfl,rfl⟩⟩⟩⟩⟩:=h;obtain rfl:=CL s1;obtain rfl:=Cn s5;exact rfl
theorem k104_mk (w:World)(x:aQ):fE.K w x [.int .u8 x.f0,.int .u8 x.f1.f0,.int .u8 x.f1.f1,.int .u8 x.f1.f2,.int .u8 x.f1.f3,.int .i64 x.f2.f0,.int .i64 x.f2.f1,.int .u64 x.f2.f2,.int .i64 x.f3,.int .i64 x.f4,.int .i64 x.f5]:=⟨[.int .u8 x.f0],[.int .u8 x.f1.f0,.int .u8 x.f1.f1,.int .u8 x.f1.f2,.int .u8 x.f1.f3,.int .i64 x.f2.f0,.int .i64 x.f2.f1,.int .u64 x.f2.f2,.int .i64 x.f3,.int .i64 x.f4,.int .i64 x.f5],rfl,rfl,⟨[.int .u8 x.f1.f0,.int .u8 x.f1.f1,.int .u8 x.f1.f2,.int .u8 x.f1.f3],[.int .i64 x.f2.f0,.int .i64 x.f2.f1,.int .u64 x.f2.f2,.int .i64 x.f3,.int .i64 x.f4,.int .i64 x.f5],rfl,(k100_mk w x.f1 ),⟨[.int .i64 x.f2.f0,.int .i64 x.f2.f1,.int .u64 x.f2.f2],[.int .i64 x.f3,.int .i64 x.f4,.int .i64 x.f5],rfl,(k102_mk w x.f2 ),⟨[.int .i64 x.f3],[.int .i64 x.f4,.int .i64 x.f5],rfl,rfl,⟨[.int .i64 x.f4],[.int .i64 x.f5],rfl,rfl,rfl⟩⟩⟩⟩⟩
theorem pK (w:World)(base:Nat)(ok:Nat->Prop)(x:aQ):fE.M w base ok x [.int .u8 x.f0,.int .u8 x.f1.f0,.int .u8 x.f1.f1,.int .u8 x.f1.f2,.int .u8 x.f1.f3,.int .i64 x.f2.f0,.int .i64 x.f2.f1,.int .u64 x.f2.f2,.int .i64 x.f3,.int .i64 x.f4,.int .i64 x.f5]:=⟨[.int .u8 x.f0],[.int .u8 x.f1.f0,.int .u8 x.f1.f1,.int .u8 x.f1.f2,.int .u8 x.f1.f3,.int .i64 x.f2.f0,.int .i64 x.f2.f1,.int .u64 x.f2.f2,.int .i64 x.f3,.int .i64 x.f4,.int .i64 x.f5],rfl,rfl,⟨[.int .u8 x.f1.f0,.int .u8 x.f1.f1,.int .u8 x.f1.f2,.int .u8 x.f1.f3],[.int .i64 x.f2.f0,.int .i64 x.f2.f1,.int .u64 x.f2.f2,.int .i64 x.f3,.int .i64 x.f4,.int .i64 x.f5],rfl,(Ei w base ok x.f1 ),⟨[.int .i64 x.f2.f0,.int .i64 x.f2.f1,.int .u64 x.f2.f2],[.int .i64 x.f3,.int .i64 x.f4,.int .i64 x.f5],rfl,(Es w base ok x.f2 ),⟨[.int .i64 x.f3],[.int .i64 x.f4,.int .i64 x.f5],rfl,rfl,⟨[.int .i64 x.f4],[.int .i64 x.f5],rfl,rfl,rfl⟩⟩⟩⟩⟩
def iG (xs:List aQ)(i:Int):aQ:=xs.getD i.toNat z104
theorem at_T104 {w:World}{A:Option Addr}{n:Nat}{xs:List aQ}(h:Kd.C fE w A n xs)(i:Int)(h0:0<=i)(h1:i<n):∃ ad,A=some ad/\w.cell? (ad.add (i.toNat*11))=some (.int .u8 (iG xs i).f0)/\w.cell? ⟨(ad.add (i.toNat*11)).block,(ad.add (i.toNat*11)).off+1,none⟩=some (.int .u8 (iG xs i).f1.f0)/\w.cell? ⟨(ad.add (i.toNat*11)).block,(ad.add (i.toNat*11)).off+2,none⟩=some (.int .u8 (iG xs i).f1.f1)/\w.cell? ⟨(ad.add (i.toNat*11)).block,(ad.add (i.toNat*11)).off+3,none⟩=some (.int .u8 (iG xs i).f1.f2)/\w.cell? ⟨(ad.add (i.toNat*11)).block,(ad.add (i.toNat*11)).off+4,none⟩=some (.int .u8 (iG xs i).f1.f3)/\w.cell? ⟨(ad.add (i.toNat*11)).block,(ad.add (i.toNat*11)).off+5,none⟩=some (.int .i64 (iG xs i).f2.f0)/\w.cell? ⟨(ad.add (i.toNat*11)).block,(ad.add (i.toNat*11)).off+6,none⟩=some (.int .i64 (iG xs i).f2.f1)/\w.cell? ⟨(ad.add (i.toNat*11)).block,(ad.add (i.toNat*11)).off+7,none⟩=some (.int .u64 (iG xs i).f2.f2)/\w.cell? ⟨(ad.add (i.toNat*11)).block,(ad.add (i.toNat*11)).off+8,none⟩=some (.int .i64 (iG xs i).f3)/\w.cell? ⟨(ad.add (i.toNat*11)).block,(ad.add (i.toNat*11)).off+9,none⟩=some (.int .i64 (iG xs i).f4)/\w.cell? ⟨(ad.add (i.toNat*11)).block,(ad.add (i.toNat*11)).off+10,none⟩=some (.int .i64 (iG xs i).f5):=by
 obtain⟨ad,c,e,_,hK,hc0⟩:=Kd.j5 h z104 i h0 h1;have hc:∀ j u,c[j]? =some u->w.cell? (ad.add (i.toNat*11+j))=some u:=hc0;obtain rfl:=qP hK;exact⟨ad,e,hc 0 _ rfl,by rw[<-dN _ _ 1 (by omega)];exact hc 1 _ rfl,by rw[<-dN _ _ 2 (by omega)];exact hc 2 _ rfl,by rw[<-dN _ _ 3 (by omega)];exact hc 3 _ rfl,by rw[<-dN _ _ 4 (by omega)];exact hc 4 _ rfl,by rw[<-dN _ _ 5 (by omega)];exact hc 5 _ rfl,by rw[<-dN _ _ 6 (by omega)];exact hc 6 _ rfl,by rw[<-dN _ _ 7 (by omega)];exact hc 7 _ rfl,by rw[<-dN _ _ 8 (by omega)];exact hc 8 _ rfl,by rw[<-dN _ _ 9 (by omega)];exact hc 9 _ rfl,by rw[<-dN _ _ 10 (by omega)];exact hc 10 _ rfl⟩
structure S77 where
 f0:(List Int)
 f1:(List Int)
structure S97 where
 f0:(List Int)
 f1:(List Int)
structure S61 where
 f0:(List Int)
 f1:(List Int)
structure S64 where
 f0:(List Int)
 f1:(List Int)
structure S88 where
 f0:(List Int)
 f1:(List Int)
def z88:S88:=⟨([]:List Int),([]:List Int)⟩
def k88:Kd S88:=Kd.iso (Kd.pair (Kd.slice 3 (Kd.int .i64)) (Kd.slice 3 (Kd.int .i64))) (fun x:S88=>(x.f0,x.f1))
theorem sO {w:World}{x:S88}{cs:List Value}(h:k88.K w x cs):∃ A0 c0 A1 c1,cs=[.slice A0 x.f0.length c0,.slice A1 x.f1.length c1]/\x.f0.length<=c0/\(Kd.int .i64).C w A0 x.f0.length x.f0/\x.f1.length<=c1/\(Kd.int .i64).C w A1 x.f1.length x.f1:=by
 obtain⟨_,_,rfl,⟨A0,c0,rfl,l0,g0⟩,⟨A1,c1,rfl,l1,g1⟩⟩:=h;exact⟨A0,c0,A1,c1,rfl,l0,g0,l1,g1⟩
theorem ut (w:World)(x:S88){A0:Option Addr}{c0:Nat}(l0:x.f0.length<=c0)(g0:(Kd.int .i64).C w A0 x.f0.length x.f0){A1:Option Addr}{c1:Nat}(l1:x.f1.length<=c1)(g1:(Kd.int .i64).C w A1 x.f1.length x.f1):k88.K w x [.slice A0 x.f0.length c0,.slice A1 x.f1.length c1]:=⟨[.slice A0 x.f0.length c0],[.slice A1 x.f1.length c1],rfl,⟨A0,c0,rfl,l0,g0⟩,⟨A1,c1,rfl,l1,g1⟩⟩
theorem k88_mkF (W:World)(ok:Nat->Prop)(x:S88){A0:Option Addr}{c0:Nat}(l0:x.f0.length<=c0)(g0:Kd.F (Kd.int .i64) W ok A0 x.f0.length x.f0){A1:Option Addr}{c1:Nat}(l1:x.f1.length<=c1)(g1:Kd.F (Kd.int .i64) W ok A1 x.f1.length x.f1):Kd.FK k88 W ok x [.slice A0 x.f0.length c0,.slice A1 x.f1.length c1]:=fun W2 hW=>ut W2 x l0 (g0 W2 hW) l1 (g1 W2 hW)
def df (xs:List S88)(i:Int):S88:=xs.getD i.toNat z88
theorem nH {w:World}{A:Option Addr}{n:Nat}{xs:List S88}(h:Kd.C k88 w A n xs)(i:Int)(h0:0<=i)(h1:i<n):∃ ad A0 c0 A1 c1,A=some ad/\w.cell? (ad.add (i.toNat*2))=some (.slice A0 (df xs i).f0.length c0)/\w.cell? ⟨(ad.add (i.toNat*2)).block,(ad.add (i.toNat*2)).off+1,none⟩=some (.slice A1 (df xs i).f1.length c1)/\(df xs i).f0.length<=c0/\(Kd.int .i64).C w A0 (df xs i).f0.length (df xs i).f0/\(df xs i).f1.length<=c1/\(Kd.int .i64).C w A1 (df xs i).f1.length (df xs i).f1:=by
 obtain⟨ad,c,e,_,hK,hc0⟩:=Kd.j5 h z88 i h0 h1;have hc:∀ j u,c[j]? =some u->w.cell? (ad.add (i.toNat*2+j))=some u:=hc0;obtain⟨A0,c0,A1,c1,rfl,l0,g0,l1,g1⟩:=sO hK;exact⟨ad,A0,c0,A1,c1,e,hc 0 _ rfl,by rw[<-dN _ _ 1 (by omega)];exact hc 1 _ rfl,l0,g0,l1,g1⟩
structure S89 where
 f0:(List Int)
 f1:(List Int)
def z89:S89:=⟨([]:List Int),([]:List Int)⟩
def k89:Kd S89:=Kd.iso (Kd.pair (Kd.slice 3 (Kd.int .i64)) (Kd.slice 31 (Kd.int .u64))) (fun x:S89=>(x.f0,x.f1))
theorem lL {w:World}{x:S89}{cs:List Value}(h:k89.K w x cs):∃ A0 c0 A1 c1,cs=[.slice A0 x.f0.length c0,.slice A1 x.f1.length c1]/\x.f0.length<=c0/\(Kd.int .i64).C w A0 x.f0.length x.f0/\x.f1.length<=c1/\(Kd.int .u64).C w A1 x.f1.length x.f1:=by
 obtain⟨_,_,rfl,⟨A0,c0,rfl,l0,g0⟩,⟨A1,c1,rfl,l1,g1⟩⟩:=h;exact⟨A0,c0,A1,c1,rfl,l0,g0,l1,g1⟩
theorem tF (w:World)(x:S89){A0:Option Addr}{c0:Nat}(l0:x.f0.length<=c0)(g0:(Kd.int .i64).C w A0 x.f0.length x.f0){A1:Option Addr}{c1:Nat}(l1:x.f1.length<=c1)(g1:(Kd.int .u64).C w A1 x.f1.length x.f1):k89.K w x [.slice A0 x.f0.length c0,.slice A1 x.f1.length c1]:=⟨[.slice A0 x.f0.length c0],[.slice A1 x.f1.length c1],rfl,⟨A0,c0,rfl,l0,g0⟩,⟨A1,c1,rfl,l1,g1⟩⟩
theorem wm {W:World}{ok:Nat->Prop}{x:S89}{cs:List Value}(h:Kd.FK k89 W ok x cs):∃ A0 c0 A1 c1,cs=[.slice A0 x.f0.length c0,.slice A1 x.f1.length c1]/\x.f0.length<=c0/\Kd.F (Kd.int .i64) W ok A0 x.f0.length x.f0/\x.f1.length<=c1/\Kd.F (Kd.int .u64) W ok A1 x.f1.length x.f1:=by
 obtain⟨A0,c0,A1,c1,rfl,l0,_,l1,_⟩:=lL (Kd.uH h);exact⟨A0,c0,A1,c1,rfl,l0,(fun W' hW=>by obtain⟨A0_,c0_,A1_,c1_,he,l0_,g0_,l1_,g1_⟩:=lL (h W' hW);injection (Option.some.inj (show some (Value.slice A0 x.f0.length c0)=some (Value.slice A0_ x.f0.length c0_)from congrArg (fun l=>l[0]?) he))with ha_ _ _;rw[ha_];exact g0_),l1,(fun W' hW=>by obtain⟨A0_,c0_,A1_,c1_,he,l0_,g0_,l1_,g1_⟩:=lL (h W' hW);injection (Option.some.inj (show some (Value.slice A1 x.f1.length c1)=some (Value.slice A1_ x.f1.length c1_)from congrArg (fun l=>l[1]?) he))with ha_ _ _;rw[ha_];exact g1_)⟩
theorem k89_mkF (W:World)(ok:Nat->Prop)(x:S89){A0:Option Addr}{c0:Nat}(l0:x.f0.length<=c0)(g0:Kd.F (Kd.int .i64) W ok A0 x.f0.length x.f0){A1:Option Addr}{c1:Nat}(l1:x.f1.length<=c1)(g1:Kd.F (Kd.int .u64) W ok A1 x.f1.length x.f1):Kd.FK k89 W ok x [.slice A0 x.f0.length c0,.slice A1 x.f1.length c1]:=fun W2 hW=>tF W2 x l0 (g0 W2 hW) l1 (g1 W2 hW)
def aV (xs:List S89)(i:Int):S89:=xs.getD i.toNat z89
theorem qD {w:World}{A:Option Addr}{n:Nat}{xs:List S89}(h:Kd.C k89 w A n xs)(i:Int)(h0:0<=i)(h1:i<n):∃ ad A0 c0 A1 c1,A=some ad/\w.cell? (ad.add (i.toNat*2))=some (.slice A0 (aV xs i).f0.length c0)/\w.cell? ⟨(ad.add (i.toNat*2)).block,(ad.add (i.toNat*2)).off+1,none⟩=some (.slice A1 (aV xs i).f1.length c1)/\(aV xs i).f0.length<=c0/\(Kd.int .i64).C w A0 (aV xs i).f0.length (aV xs i).f0/\(aV xs i).f1.length<=c1/\(Kd.int .u64).C w A1 (aV xs i).f1.length (aV xs i).f1:=by
 obtain⟨ad,c,e,_,hK,hc0⟩:=Kd.j5 h z89 i h0 h1;have hc:∀ j u,c[j]? =some u->w.cell? (ad.add (i.toNat*2+j))=some u:=hc0;obtain⟨A0,c0,A1,c1,rfl,l0,g0,l1,g1⟩:=lL hK;exact⟨ad,A0,c0,A1,c1,e,hc 0 _ rfl,by rw[<-dN _ _ 1 (by omega)];exact hc 1 _ rfl,l0,g0,l1,g1⟩
end
end Go.Proofs.YtglikkmmbdnmbaaGreat.PCan
namespace Go.Proofs.YtglikkmmbdnmbaaGreat.Own
open Go.RowKit Q7
section
theorem yZ {α:Type}{R:α->List Value->Prop}{size:Nat}{ps qs:List α}{cs ds:List Value}(h:fF R size ps cs)(k:fF R size qs ds):fF R size (ps++qs) (cs++ds):=by
 refine⟨by rw[List.length_append,List.length_append,h.1,k.1,Nat.add_mul],fun j q hq=>?_⟩
 rcases Nat.lt_or_ge j ps.length with hj|hj
 . rw[List.getElem?_append_left hj]at hq;have h1:j*size+size<=cs.length:=by rw[h.1,<-Nat.succ_mul];exact Nat.mul_le_mul_right _ hj
   have h2:=h.2 j q hq;rw[List.drop_append_of_le_length (by omega),List.take_append_of_le_length (by rw[List.length_drop];omega)]
   exact h2
 . rw[List.getElem?_append_right hj]at hq;have h2:=k.2 (j - ps.length) q hq
   have e:j*size=cs.length+(j - ps.length)*size:=by
    rw[h.1,<-Nat.add_mul];congr 1;omega
   rw[e,List.drop_append,List.drop_of_length_le (Nat.le_add_right _ _),List.nil_append,Nat.add_sub_cancel_left];exact h2
section
variable {P:Program} {α:Type}
theorem pF (d:Kd α){w0 W:World}(base:Nat)(t ty e:TypeId)(z:Value)(bytes:Nat)
 (ht:P.underlying t=some (.slice e)) (hinfo:(P.info? e).map (fun i=>(i.zero,i.size,i.bytes))=some (some z,d.sz,bytes)) (hz:z.cells.size=d.sz) (hs0:0<d.sz) (hb0:0<bytes)
 (v:Value) (xs ys:List α) (A:Option Addr) (m c:Nat) (ok:Nat->Prop)
 (hflat:∀(W1:World) (ok':Nat->Prop) (q:α) (cs:List Value),d.K W q cs->d.M W1 base ok' q cs)
 (hfresh:∀ k,W.heap.size<=k->ok k)
 (HO:d.R e W base ok v xs) (HR:d.C W A m ys) (HB:Below base w0 W) (hbase:base<=W.heap.size) (hl:(xs.length+m)*bytes<=140737488355328):
 ∃ v1 w1,(Builtin.append_ #[t,t] ty #[v,.slice A m c]).run P W=.ok v1 w1/\d.R e w1 base ok v1 (xs++ys)/\Below base w0 w1/\W.grownBy w1 v.ownBlock/\(v1.ownBlock=v.ownBlock\/∃ b,v1.ownBlock=some b/\W.heap.size<=b):=by
 obtain⟨i0,hi,hzz⟩:=Option.map_eq_some_iff.1 hinfo;simp only[Prod.mk.injEq]at hzz;obtain⟨hz0,hz1,hz2⟩:=hzz;have hm:ys.length=m:=HR.1;obtain⟨hok,inner,hown,hreps⟩:=HO;have hlen:xs.length+m<=140737488355328:=Nat.le_trans (Nat.le_mul_of_pos_right _ hb0) hl
 have hrun:∃ v1 w1 news,(Builtin.append_ #[t,t] ty #[v,.slice A m c]).run P W=.ok v1 w1/\w1.ownsRow base e d.sz v1 (xs.length+m) (inner++news)/\fF (d.K W) d.sz ys news/\W.grownBy w1 v.ownBlock/\(v1.ownBlock=v.ownBlock\/v1.ownBlock=some W.heap.size):=by
  rcases A with _|ad
  . have h0:m=0:=by
     rcases Nat.eq_zero_or_pos m with h0|h0
     . exact h0
     . obtain⟨ad,h,_⟩:=HR.2.2 h0;cases h
    subst h0;obtain rfl:ys=[]:=List.eq_nil_of_length_eq_zero hm;refine⟨v,W,[],?_,by simpa using hown,fF.none _ _,World.grownBy.refl W _,.inl rfl⟩
    rcases hown.2 with⟨rfl,hn⟩|⟨g,cap,cur,rfl,_,_,hnc,_⟩
    . simp[Builtin.append_,run_underlying ht,sizeOf,typeInfo,hi,Builtin.lenOf,Builtin.firstCells]
    . simp[Builtin.append_,run_underlying ht,sizeOf,typeInfo,hi,Builtin.lenOf,Builtin.firstCells,hnc,storeCells]
  . obtain⟨news,hrn,hcells⟩:=fJ.Dn HR
    have h1:∀ u∈news,u.oneCell'=true:=by
     intro u hu;obtain⟨j,hj,rfl⟩:=List.mem_iff_getElem.1 hu
     have hlt:j / d.sz<ys.length:=by
      rw[hrn.1]at hj;exact(Nat.div_lt_iff_lt_mul hs0).2 hj
     have hp:=hrn.2 (j / d.sz) _ (List.getElem?_eq_getElem hlt);refine d.K_one hp _ ?_;have hj2:j=j / d.sz*d.sz+j % d.sz:=by rw[Nat.mul_comm];exact(Nat.div_add_mod j d.sz).symm
     refine List.mem_iff_getElem?.2 ⟨j % d.sz,?_⟩;rw[List.getElem?_take_of_lt (Nat.mod_lt _ hs0),List.getElem?_drop,<-hj2,List.getElem?_eq_getElem hj]
    obtain⟨v1,w1,hr,h2,h3,_,h5⟩:=run_append_own_at (P:=P) W base t ty e i0 z d.sz bytes ht hi hz0 hz1 hz2 hz hs0 v xs.length inner hown ad m c news (by rw[hrn.1,hm]) hcells
     h1 (by simp only[maxLen];omega) hl hbase
    exact⟨v1,w1,news,hr,h2,hrn,h3,h5⟩
 obtain⟨v1,w1,news,hr,hown1,hrn,hg,hat⟩:=hrun
 have hat':v1.ownBlock=v.ownBlock\/∃ b,v1.ownBlock=some b/\W.heap.size<=b:=by
  rcases hat with hat|hat
  . exact .inl hat
  . exact .inr ⟨_,hat,Nat.le_refl _⟩
 refine⟨v1,w1,hr,⟨?_,inner++news,?_,?_⟩,HB.grown hg hbase (kU hown),hg,hat'⟩
 . intro k hk
   rcases hat' with hat|⟨b,hb,hle⟩
   . exact hok k (hat▸hk)
   . rw[hb]at hk;injection hk with hk
     exact hfresh k (by omega)
 . rw[List.length_append,hm];exact hown1
 . exact yZ (hreps.iO (fun _ _ hp=>hflat _ _ _ _ (d.K_of_M hp))) (hrn.iO (fun _ _ hp=>hflat _ _ _ _ hp))
end
section
variable {P:Program} {ops:Array Oper} {rest:List Oper} {o:Oper} {a:Act} {Q:Exit→Act→World→Prop} {K:Act→World→Prop} {α:Type}
theorem jR (d:Kd α){w0 W:World}(base:Nat)(hgd:o.guard=none)(s x:Operand)(t e:TypeId)(z:Value)(bytes:Nat)
 (ho:o.op=.call { callee:=.builtin .append,args:=#[s,x],argTypes:=#[t,t] })
 (ht:P.underlying t=some (.slice e)) (hinfo:(P.info? e).map (fun i=>(i.zero,i.size,i.bytes))=some (some z,d.sz,bytes)) (hz:z.cells.size=d.sz) (hs0:0<d.sz) (hb0:0<bytes)
 (v:Value) (xs ys:List α) (A:Option Addr) (m c:Nat) (ok:Nat->Prop) (hs:a.eval s=v) (hx:a.eval x=.slice A m c)
 (hflat:∀(W1:World) (ok':Nat->Prop) (q:α) (cs:List Value),d.K W q cs->d.M W1 base ok' q cs)
 (hfresh:∀ k,W.heap.size<=k->ok k)
 (HO:d.R e W base ok v xs) (HR:d.C W A m ys) (HB:Below base w0 W) (hbase:base<=W.heap.size) (hl:(xs.length+m)*bytes<=140737488355328)
 (h:∀ v1 w1,d.R e w1 base ok v1 (xs++ys)->Below base w0 w1->W.grownBy w1 v.ownBlock->(v1.ownBlock=v.ownBlock\/∃ b,v1.ownBlock=some b/\W.heap.size<=b)->wpList P ops Q rest (a.put o.dst v1) w1):
 wpList P ops Q (o :: rest) a W:=by
 obtain⟨v1,w1,hr,ho1,hb1,hg1,hat1⟩:=pF (P:=P) d (w0:=w0) base t o.type e z bytes ht hinfo hz hs0 hb0 v xs ys A m c ok hflat hfresh HO HR HB hbase hl;refine wpList_plain hgd fun K hK=>?_
 unfold Oper.wp execOp;simp only[ho,resolve,invoke,builtin,Sem.run_bind,Sem.run_pure,Result.andThen_ok,List.map_toArray,List.map_cons,List.map_nil,hs,hx,hr];exact hK _ _ (h v1 w1 ho1 hb1 hg1 hat1)
end
theorem kX {α:Type}(d:Kd α){W:World}{g t:Nat}{fr:Nat×Nat}{xs:List α}{cs:Array Value}(hb:W.heap[g]? =some (.cells cs t fr))(hr:fF (d.K W) d.sz xs cs.toList)(hm:xs.length<=9223372036854775807):d.C W (some ⟨g,0,none⟩) xs.length xs:=by
 refine⟨rfl,hm,fun _=>⟨_,rfl,fun j p hj=>⟨(cs.toList.drop (j*d.sz)).take d.sz,?_,hr.2 j p hj,fun i u hu=>?_⟩⟩⟩
 . exact d.K_len (hr.2 j p hj)
 . rw[add_plain,cell_of_row W g _ cs t fr hb];rw[List.getElem?_take]at hu
   split at hu
   . rw[List.getElem?_drop]at hu;rw[<-hu,Array.getElem?_toList]
   . cases hu
theorem xU {α:Type}(d:Kd α)(e:Nat)(W:World)(base:Nat)(ok:Nat->Prop)(hb:base<=W.heap.size)(hk:ok W.heap.size):d.R e (W.alloc (.cells #[] e)) base ok (.slice (some ⟨W.heap.size,0,none⟩) 0 0) []:=by
 refine⟨fun k h=>?_,[],?_,fF.none _ _⟩
 . have:W.heap.size=k:=by simpa [Value.ownBlock] using h
   subst this;exact hk
 . have h2:=World.ownsRow_lit (base:=base) (e:=e) (size:=d.sz) W #[] 0 hb (by simp) (by simp)
   simpa using h2
end
section
def Holds (W:World)(g t:Nat)(cs:List Value):Prop:=W.heap[g]? =some (.cells cs.toArray t (0,0))
theorem Holds.lt {W:World}{g t:Nat}{cs:List Value}(h:Holds W g t cs):g<W.heap.size:=gU h
theorem Holds.below {W W1:World}{g t:Nat}{cs:List Value}(h:Holds W g t cs)(hb:Below W.heap.size W W1):Holds W1 g t cs:=dw h hb
theorem Holds.cell {W:World}{g t:Nat}{cs:List Value}(h:Holds W g t cs)(i:Nat):W.cell? ⟨g,i,none⟩=cs[i]?:=by
 rw[aA h i];simp
def splice (cs:List Value)(o:Nat)(vs:List Value):List Value:=cs.take o++vs++cs.drop (o+vs.length)
structure bH (W W1:World)(g:Nat):Prop where
 os:W1.os=W.os
 tape:W1.tape=W.tape
 output:W1.output=W.output
 size:W1.heap.size=W.heap.size
 block:∀ k,k≠g->W1.heap[k]? =W.heap[k]?
theorem bH.keep {W W1:World}{g:Nat}(h:bH W W1 g):kC W W1 g none:=⟨Nat.le_of_eq h.size.symm,fun k _ hk _=>h.block k hk⟩
theorem bH.below {B:Nat}{w W W1:World}{g:Nat}(h:bH W W1 g)(hb:Below B w W)(hg:B<=g):Below B w W1:=
 hb.trans ⟨h.os,h.tape,h.output,Nat.le_of_eq h.size.symm,fun k hk=>h.block k (by omega)⟩
theorem bH.holds {W W1:World}{g g' t:Nat}{cs:List Value}(h:bH W W1 g)(hh:Holds W g' t cs)(hne:g'≠g):Holds W1 g' t cs:=(h.block g' hne).trans hh
theorem dR (W:World)(g o:Nat)(vs:List Value):bH W (W.setCells g o vs) g:=by
 obtain⟨h1,h2,h3,h4⟩:=mO g vs o W;exact⟨h1,h2,h3,h4,fun k hk=>nV vs o k hk⟩
theorem eX {W:World}{g t o:Nat}{cs vs:List Value}(h:Holds W g t cs)(hl:o+vs.length<=cs.length):Holds (W.setCells g o vs) g t (splice cs o vs):=by
 obtain⟨cur',h1,h2,h3⟩:=nX (e:=t) vs o W cs.toArray h (by simpa using hl)
 unfold Holds;rw[h1]
 congr 2
 apply Array.toList_inj.1;rw[h3];simp [splice]
section
variable {P:Program} {ops:Array Oper} {rest:List Oper} {o:Oper} {a:Act} {Q:Exit→Act→World→Prop} {K:Act→World→Prop}
theorem lu {W:World}{g off t ty:Nat}{cs seg:List Value}{d:TypeDesc}(hg:Holds W g t cs)(hseg:(cs.drop off).take seg.length=seg)
 (hu:P.underlying ty=some d) (hd:d.isRow=true) (hi:(P.info? ty).map (·.size)=some seg.length):
 (Instr.loadAt ty (.pointer (some ⟨g,off,none⟩))).run P W=.ok (.agg seg.toArray) W:=by
 have h:=run_loadVar_mid (P:=P) W g off ty seg d (fun j v hv=>by
  rw[hg.cell];rw[<-hseg]at hv;rw[List.getElem?_take]at hv
  split at hv
  . rw[List.getElem?_drop]at hv;exact hv
  . cases hv) hu hd hi
 simp only[Instr.loadAt,Instr.sureAddr,Sem.run_bind,Sem.run_pure,Result.andThen_ok,h]
theorem mI {W:World}{g off t ty:Nat}{cs:List Value}{vs:Array Value}(hg:Holds W g t cs)(hl:off+vs.size<=cs.length)
 (hi:(P.info? ty).map (·.size)=some vs.size) (h1:vs.all (·.oneCell')=true):
 (Instr.storeAt ty (.pointer (some ⟨g,off,none⟩)) (.agg vs)).run P W=.ok () (W.setCells g off vs.toList):=by
 refine run_storeAt_mid (P:=P) W g off ty vs (fun j hj=>⟨?_,?_⟩) hi h1
 . rw[hg.cell,List.getElem?_eq_getElem (by omega)];rfl
 . exact ak hg _
theorem bE {W:World}(hgd:o.guard=none){ty:TypeId}{x:Operand}(ho:o.op=.load ty x){g off t:Nat}{cs seg:List Value}{d:TypeDesc}(hx:a.eval x=.pointer (some ⟨g,off,none⟩))(hg:Holds W g t cs)
 (hseg:(cs.drop off).take seg.length=seg) (hu:P.underlying ty=some d) (hd:d.isRow=true) (hi:(P.info? ty).map (·.size)=some seg.length)
 (h:wpList P ops Q rest (a.put o.dst (.agg seg.toArray)) W):wpList P ops Q (o :: rest) a W:=by
 refine Kd.fA hgd ?_ h;unfold execOp;simp only[ho,hx,lu hg hseg hu hd hi,Sem.run_bind,Sem.run_pure,Result.andThen_ok]
theorem aG {W:World}(hgd:o.guard=none){ty:TypeId}{x y:Operand}(ho:o.op=.store ty x y)(hN:o.dst=none){g off t:Nat}{cs:List Value}{vs:Array Value}(hx:a.eval x=.pointer (some ⟨g,off,none⟩))(hy:a.eval y=.agg vs)(hg:Holds W g t cs)
 (hl:off+vs.size<=cs.length) (hi:(P.info? ty).map (·.size)=some vs.size) (h1:vs.all (·.oneCell')=true)
 (h:∀ w1,Holds w1 g t (splice cs off vs.toList)->bH W w1 g->wpList P ops Q rest a w1):wpList P ops Q (o :: rest) a W:=by
 refine wpList_plain hgd fun K hK=>?_
 unfold Oper.wp execOp;simp only[ho,hx,hy,mI hg hl hi h1,Sem.run_bind,Sem.run_pure,Result.andThen_ok];show K (a.put o.dst undef) _
 rw[hN];exact hK _ _ (h _ (eX hg (by simpa using hl)) (dR _ _ _ _))
theorem gI {W:World}(hgd:o.guard=none){t:TypeId}(ho:o.op=.alloc t){z:Value}(hi:(P.info? t).map (·.zero)=some (some z))
 (h:∀ g,g=W.heap.size->∀ w1,Holds w1 g t z.cells.toList->Below W.heap.size W w1->wpList P ops Q rest (a.put o.dst (.pointer (some ⟨g,0,none⟩))) w1):wpList P ops Q (o :: rest) a W:=by
 have hrun:(Instr.alloc t true (.tuple #[])).run P W=.ok (.pointer (some ⟨W.heap.size,0,none⟩)) (W.alloc (.cells z.cells t (0,0))):=by
  cases hq:P.info? t with
  |none=>simp[hq]at hi
  |some i=>
   have hz:i.zero=some z:=by simpa [hq] using hi
   simp [Instr.alloc,zeroValue,typeInfo,hq,hz,newVar,newRow]
 refine Kd.fA hgd (w1:=W.alloc (.cells z.cells t (0,0))) ?_ (h _ rfl _ ?_ (ae zc _))
 . unfold execOp;simp only[ho,hrun,Sem.run_bind,Sem.run_pure,Result.andThen_ok]
 . unfold Holds;rw[aK]
theorem lC {W:World}{ty:TypeId}{x y:Operand}(ho:o.op=.store ty x y){g off t:Nat}{cs:List Value}{vs:Array Value}(hx:a.eval x=.pointer (some ⟨g,off,none⟩))(hy:a.eval y=.agg vs)(hg:Holds W g t cs)
 (hl:off+vs.size<=cs.length) (hi:(P.info? ty).map (·.size)=some vs.size) (h1:vs.all (·.oneCell')=true):(execOp a.eval o).run P W=.ok .skip (W.setCells g off vs.toList):=by
 unfold execOp;simp only[ho,hx,hy,mI hg hl hi h1,Sem.run_bind,Sem.run_pure,Result.andThen_ok]
end
end
end Go.Proofs.YtglikkmmbdnmbaaGreat.Own
namespace Go.Proofs.YtglikkmmbdnmbaaGreat.Wv
open Go.RowKit Q7
set_option linter.unusedVariables false
set_option linter.unusedSimpArgs false
section
section
variable {P:Program} {ops:Array Oper} {Q:Exit→Act→World→Prop}
def wellZ (ops:Array Oper)(N:Nat):Bool:=
 (List.range ops.size).all fun i=>match ops[i]? with
  |some o=>(o.after.all fun e=>!Region.binds .any e || decide (e.on<i)) && (match o.dst with
   |some t=>decide (t<N) && (List.range ops.size).all (fun j=>j==i || aH ops j != some t)
   |none=>true)
  |none=>false
structure WellZ (ops:Array Oper)(N:Nat):Prop where
 edge:∀(i:Nat) (o:Oper),ops[i]? =some o->∀ e∈o.after,Region.binds .any e=true->e.on<i
 slot:∀ i t,aH ops i=some t->t<N
 apart:∀ i j t,aH ops i=some t->aH ops j=some t->i=j
theorem Eg {N:Nat}(h:wellZ ops N=true):WellZ ops N:=by
 unfold wellZ at h
 have key:∀(i:Nat) (o:Oper),ops[i]? =some o->((o.after.all fun e=>!Region.binds .any e || decide (e.on<i)) && (match o.dst with
  |some t=>decide (t<N) && (List.range ops.size).all (fun j=>j==i || aH ops j != some t)
  |none=>true))=true:=fun i o ho=>by
  have:=List.all_eq_true.1 h i (List.mem_range.2 (Array.getElem?_eq_some_iff.1 ho).1);simp only[ho]at this;exact this
 refine⟨fun i o ho e he hb=>?_,fun i t ht=>?_,fun i j t hi hj=>?_⟩
 . have:=key i o ho;simp only[Bool.and_eq_true]at this;have h3:=Array.all_eq_true_iff_forall_mem.1 this.1 e he
   simpa [hb] using h3
 . unfold aH at ht;cases ho:ops[i]? with
   |none=>rw[ho]at ht;cases ht
   |some o=>
    rw[ho]at ht;have hd:o.dst=some t:=ht;have:=key i o ho;simp only[Bool.and_eq_true,hd,decide_eq_true_eq]at this;exact this.2.1
 . have hjl:=mG hj;unfold aH at hi;cases ho:ops[i]? with
   |none=>rw[ho]at hi;cases hi
   |some o=>
    rw[ho]at hi;have hd:o.dst=some t:=hi;have:=key i o ho;simp only[Bool.and_eq_true,hd,decide_eq_true_eq]at this;have h4:=List.all_eq_true.1 this.2.2 j (List.mem_range.2 hjl);simp only[Bool.or_eq_true,beq_iff_eq,bne_iff_ne,ne_eq]at h4
    rcases h4 with h4|h4
    . exact h4.symm
    . exact absurd hj h4
theorem vY {N:Nat}(hw:WellZ ops N){a a0:Act}(hN:a0.tmps.size=N)(hs:a.tmps.size=a0.tmps.size)(hd:a.defers=a0.defers)
 (hf:∀ t,(∀ j,aH ops j≠some t)->a.tmps[t]? =a0.tmps[t]?):
 a=bA (fun j=>match aH ops j with|some t=>a.eval (.tmp t)|none=>undef) ops.toList 0 a0:=by
 refine uU ?_ (by rw[l5,hd])
 apply Array.ext_getElem?;intro t
 by_cases h:∀ j,aH ops j≠some t
 . rw[hf t h,oV];intro o ho hdt;obtain⟨i,hi,hoi⟩:=List.getElem_of_mem ho;have hi':ops.toList[i]? =some o:=by rw[List.getElem?_eq_getElem hi,hoi]
   rw[Array.getElem?_toList]at hi';exact h i (by unfold aH;rw[hi'];exact hdt)
 . have h':∃ j,aH ops j=some t:=by
    apply Classical.byContradiction;intro hno;exact h (fun j hs=>hno ⟨j,hs⟩)
   obtain⟨j,hjt⟩:=h';have hjt':=hjt;unfold aH at hjt;cases ho:ops[j]? with
   |none=>rw[ho]at hjt;cases hjt
   |some o=>
    rw[ho]at hjt;have htN:t<a0.tmps.size:=by rw[hN];exact hw.slot j t hjt'
    have hp:=rz (fun j=>match aH ops j with|some t=>a.eval (.tmp t)|none=>undef) t ops.toList 0 a0 j o (by rw[Array.getElem?_toList];exact ho) hjt htN (fun j2 o2 hlt hj2 hd2=>by
     rw[Array.getElem?_toList]at hj2;have:=hw.apart j j2 t hjt' (by unfold aH;rw[hj2];exact hd2)
     omega)
    rw[hp];simp only[Nat.zero_add,hjt'];exact qW (by rw[hs];exact htN)
def xc (P:Program)(Q:Exit->Act->World->Prop)(ops:Array Oper)(N:Nat)(I:Array Bool->Act->World->Prop)(a0:Act)(k:Nat)(o:Oper):Prop:=
 ∀ a w L,(∀ t,noB ops ops.size t=true->a.eval (.tmp t)=a0.eval (.tmp t))->L.size=ops.size->L.getD k false=false->I L a w->a.defers=a0.defers->a.tmps.size=N->
  (∀ j t,lI ops o j t=true->L.getD j false=true)->
  ∀ K:Act->World->Prop,(∀ v w',I (L.setIfInBounds k true) (a.put o.dst v) w'->K (a.put o.dst v) w')->(Region.wanted o (yielded ops a.tmps)=true/\Oper.wp P o a w K Q)\/(Region.wanted o (yielded ops a.tmps)=false/\K (a.put o.dst undef) w)
def aZ (P:Program)(Q:Exit->Act->World->Prop)(ops:Array Oper)(N:Nat)(I:Array Bool->Act->World->Prop)(a0:Act):Nat->List Oper->Prop
 |_,[]=>True
 |k,o :: r=>xc P Q ops N I a0 k o/\aZ P Q ops N I a0 (k+1) r
section
variable {N:Nat} {I:Array Bool→Act→World→Prop} {a0:Act}
theorem aZ.nil {k:Nat}:aZ P Q ops N I a0 k []:=trivial
theorem aZ.cons {k:Nat}{o:Oper}{r:List Oper}(h:xc P Q ops N I a0 k o)(hr:aZ P Q ops N I a0 (k+1) r):aZ P Q ops N I a0 k (o :: r):=⟨h,hr⟩
theorem aZ.at:∀{l:List Oper} {k i:Nat} {o:Oper},aZ P Q ops N I a0 k l->l[i]? =some o->xc P Q ops N I a0 (k+i) o
 |[],_,_,_,_,h=>by simp at h
 |o' :: r,k,0,o,hs,h=>by
  obtain rfl:o'=o:=by simpa using h
  exact hs.1
 |o' :: r,k,i+1,o,hs,h=>by
  have:=aZ.at hs.2 (i:=i) (o:=o) (by simpa using h)
  rwa [show k+1+i=k+(i+1) by omega]at this
end
theorem bU {o:Oper}{y:Nat->Option Bool}(h:o.guard=none):Region.wanted o y=true:=by unfold Region.wanted;rw[h]
theorem aM {o:Oper}{a:Act}{g:Nat}{t:Tmp}{b c r:Bool}(h:o.guard=some (g,b))(hs:aH ops g=some t)(hv:a.eval (.tmp t)=.bool c)(hr:(c==b)=r):Region.wanted o (yielded ops a.tmps)=r:=by
 subst hr
 have hd:a.tmps[t]? =some (.bool c):=by
  have h1:a.tmps.getD t undef=.bool c:=hv;rw[Array.getD_eq_getD_getElem?]at h1;cases h2:a.tmps[t]? with
  |none=>rw[h2]at h1;cases h1
  |some v=>rw[h2]at h1;exact congrArg some h1
 unfold aH at hs;unfold Region.wanted yielded;rw[h];simp only[hs,Option.bind_some,hd];cases b<;>cases c<;>rfl
structure InvZ (I:Array Bool->Act->World->Prop)(ops:Array Oper)(a0:Act)(L:Array Bool)(a:Act)(w:World):Prop where
 size:a.tmps.size=a0.tmps.size
 defers:a.defers=a0.defers
 frame:∀ t,(∀ j,aH ops j≠some t)->a.tmps[t]? =a0.tmps[t]?
 inv:I L a w
 closed:dK .any ops L
 lsize:L.size=ops.size
theorem BQ {N:Nat}(hw:WellZ ops N){a0:Act}(hN:a0.tmps.size=N){I:Array Bool->Act->World->Prop}
 (hstep:∀ i o,ops[i]? =some o->xc P Q ops N I a0 i o)
 (hend:∀ a w L,I L a w->(∀ j,j<ops.size->L.getD j false=true)->a.defers=a0.defers->a=bA (fun j=>match aH ops j with|some t=>a.eval (.tmp t)|none=>undef) ops.toList 0 a0->Q .normal a w):
 ∀(fuel:Nat) (L:Array Bool) (a:Act) (w:World),unl ops L<=fuel->InvZ I ops a0 L a w->wpAny P .any ops Q fuel L a w:=by
 intro fuel
 induction fuel with
 |zero=>
  intro L a w hu hI
  have hall:∀ j,j<ops.size->L.getD j false=true:=fun j hj=>by
   cases hL:L.getD j false with
   |true=>rfl
   |false=>
    have:0<unl ops L:=List.countP_pos_iff.2 ⟨j,List.mem_range.2 hj,by rw[di (by have:=hI.lsize;omega) true false,hL];rfl⟩
    omega
  exact⟨ja hI.lsize hall,hend a w L hI.inv hall hI.defers (vY hw hN hI.size hI.defers hI.frame)⟩
 |succ fuel ih=>
  intro L a w hu hI;refine⟨fun hr=>?_,fun i hi=>?_⟩
  . exact hend a w L hI.inv (jy hI.lsize hw.edge hr) hI.defers (vY hw hN hI.size hI.defers hI.frame)
  . obtain⟨hiun,o,ho,hafter⟩:=mem_ready.1 hi;have hlt:=(Array.getElem?_eq_some_iff.1 ho).1;have hunl:=lN hI.lsize hlt hiun;have hclosed:=hI.closed.set hi;unfold wpOp;rw[ho];simp only;have hiun':L.getD i false=false:=by rw[di (by have:=hI.lsize;omega) false true];exact hiun
    have hgo:=hstep i o ho a w L (fun t ht=>fZ (hI.frame t (fun j hj=>mZ ht j (mG hj) hj))) hI.lsize hiun' hI.inv hI.defers (by rw[hI.size,hN]) (fun j t hj=>by
     obtain⟨⟨e,he,hb,rfl⟩,ht⟩:=jY hj
     exact hafter e he hb) (wpAny P .any ops Q fuel (L.setIfInBounds i true)) (fun v w' hb=>by
      refine ih _ _ _ (by omega) ⟨?_,?_,?_,hb,hclosed,?_⟩
      . rw[kP,hI.size]
      . rw[put_defers,hI.defers]
      . intro t ht;rw[iq _ _ _ _ (fun hd=>ht i (by unfold aH;rw[ho];exact hd)),hI.frame t ht]
      . rw[Array.size_setIfInBounds,hI.lsize])
    rcases hgo with⟨h1,h2⟩|⟨h1,h2⟩
    . rw[if_pos h1];exact .inl h2
    . rw[if_neg (by rw[h1];decide)]
      exact h2
theorem mE {id:Nat}{a0:Act}{w0:World}(N:Nat)(I:Array Bool->Act->World->Prop)(hm:P.follows .mixedOrders=true)(hN:a0.tmps.size=N)(hwell:wellZ ops N=true)
 (hI0:I (Array.replicate ops.size false) a0 w0.drew) (hstep:aZ P Q ops N I a0 0 ops.toList)
 (hend:∀(vs:Nat->Value) w L,I L (bA vs ops.toList 0 a0) w->(∀ j,j<ops.size->L.getD j false=true)->(∀ j t,aH ops j=some t->(bA vs ops.toList 0 a0).eval (.tmp t)=vs j)->Q .normal (bA vs ops.toList 0 a0) w):
 (Code.region id ops true).wp P Q a0 w0:=by
 have hw:=Eg hwell;refine wp_region_any hm (BQ (I:=I) hw hN (fun i o ho=>?_) (fun a w L hb hl _ he=>?_) _ _ _ _ ?_ ?_)
 . have h:=aZ.at hstep (i:=i) (o:=o) (by rw[Array.getElem?_toList];exact ho)
   rwa [Nat.zero_add]at h
 . have hv:∀ j t,aH ops j=some t->(bA (fun j=>match aH ops j with|some t=>a.eval (.tmp t)|none=>undef) ops.toList 0 a0).eval (.tmp t)=(fun j=>match aH ops j with|some t=>a.eval (.tmp t)|none=>undef) j:=fun j t ht=>by
    rw[<-he];simp only[ht]
   rw[he]at hb ⊢;rw[<-he]at hv;rw[<-he];rw[<-he]at hb;refine he▸hend _ w L (he▸hb) hl (he▸hv)
 . unfold unl;refine Nat.le_trans List.countP_le_length ?_;rw[List.length_range];exact Nat.le_refl _
 . have hlf:∀ j,(Array.replicate ops.size false).getD j false=false:=fun j=>by
    rw[Array.getD_eq_getD_getElem?]
    by_cases h:j<ops.size
    . rw[Array.getElem?_eq_getElem (by rw[Array.size_replicate];exact h),Array.getElem_replicate];rfl
    . rw[Array.getElem?_eq_none (by rw[Array.size_replicate];omega)];rfl
   exact⟨rfl,rfl,fun _ _=>rfl,hI0,fun j o _ h=>by(rw[hlf]at h;cases h),by rw[Array.size_replicate]⟩
end
end
end Go.Proofs.YtglikkmmbdnmbaaGreat.Wv
namespace Go.Proofs.YtglikkmmbdnmbaaGreat.Im
open Go.RowKit Q7
open YtglikkmmbdnmbaaGreat.Own PCan Wv
set_option linter.unusedVariables false
set_option linter.unusedSimpArgs false
section
structure IZ (w0:World)(pt:List (Nat×Nat))(pv:Nat->Value)(L:Array Bool)(a:Act)(w:World):Prop where
 below:Below w0.heap.size w0 w
 p:∀ x∈pt,L.getD x.1 false=true->a.eval (.tmp x.2)=pv x.1
section
variable {w0 w w':World} {pt:List (Nat×Nat)} {pv:Nat→Value} {L:Array Bool} {a:Act}
def okZ (pt:List (Nat×Nat))(i t:Nat):Bool:=pt.all fun x=>if x.1=i then x.2==t else x.2 != t
theorem IZ.pure (h:IZ w0 pt pv L a w){i t:Nat}(ht:t<a.tmps.size)(hok:okZ pt i t=true):IZ w0 pt pv (L.setIfInBounds i true) (a.put (some t) (pv i)) w:=by
 unfold okZ at hok;rw[List.all_eq_true]at hok;refine⟨h.below,fun x hx hl=>?_⟩
 have h1:=hok x hx
 by_cases e:x.1=i
 . rw[if_pos e]at h1;have h2:x.2=t:=by simpa using h1
   rw[h2,e];exact jT (mo a t _ ht)
 . rw[if_neg e]at h1;have hne:t≠x.2:=fun e2=>by rw[e2]at h1;simp at h1
   rw[fZ (iq a (some t) _ x.2 (fun e=>hne (Option.some.inj e)))]
   rw[getD_set_ne false (fun e2=>e e2.symm)]at hl
   exact h.p x hx hl
theorem IZ.start {n:Nat}:IZ w pt pv (Array.replicate n false) a w.drew:=by
 refine⟨bv zc,fun y hy h=>?_⟩
 rw[Array.getD_eq_getD_getElem?]at h
 by_cases hj:y.1<n
 . rw[Array.getElem?_eq_getElem (by rw[Array.size_replicate];exact hj),Array.getElem_replicate]at h
   cases h
 . rw[Array.getElem?_eq_none (by rw[Array.size_replicate];omega)]at h
   cases h
end
section
variable {P:Program} {ops:Array Oper} {Q:Exit→Act→World→Prop} {o:Oper} {a:Act} {w w':World} {K:Act→World→Prop} {v:Value}
theorem zv (hg:o.guard=none)(hr:(execOp a.eval o).run P w=.ok (.value v) w')(hk:K (a.put o.dst v) w'):(Region.wanted o (yielded ops a.tmps)=true/\Oper.wp P o a w K Q)\/(Region.wanted o (yielded ops a.tmps)=false/\K (a.put o.dst undef) w):=.inl ⟨bU hg,af hr hk⟩
theorem zg {g:Nat}{t:Tmp}{b:Bool}(hg:o.guard=some (g,b))(hs:aH ops g=some t)(hv:a.eval (.tmp t)=.bool b)(hr:(execOp a.eval o).run P w=.ok (.value v) w')(hk:K (a.put o.dst v) w'):(Region.wanted o (yielded ops a.tmps)=true/\Oper.wp P o a w K Q)\/(Region.wanted o (yielded ops a.tmps)=false/\K (a.put o.dst undef) w):=.inl ⟨aM hg hs hv (beq_self_eq_true b),af hr hk⟩
end
section
variable {o:Oper} {a:Act} {W:World}
theorem iX {x:Operand}{v:Value}(ho:o.op=.move x)(hx:a.eval x=v):(execOp a.eval o).run Tryz.prog W=.ok (.value v) W:=by
 unfold execOp;simp only[ho,hx]
 go_simp
theorem sj {x y:Operand}{p:Addr}{n c k:Nat}(ho:o.op=.indexAddr 38 x y)(hx:a.eval x=.slice (some p) n c)(hy:a.eval y=.int .i64 (k:Int))(hk:k<n):(execOp a.eval o).run Tryz.prog W=.ok (.value (.pointer (some (p.add k)))) W:=by
 have h1:(0:Int)<=(k:Int):=by omega
 have h2:(k:Int)<(n:Int):=by omega
 generalize a.eval=E at hx hy ⊢;unfold execOp;simp only[ho,hx,hy]
 go_simp
theorem su {x:Operand}{p:Addr}{v:Value}(ho:o.op=.load 3 x)(hx:a.eval x=.pointer (some p))(hc:W.cell? p=some v):(execOp a.eval o).run Tryz.prog W=.ok (.value v) W:=by
 have hu:=Tryz.underlying3;unfold execOp;simp only[ho,hx]
 go_simp
theorem Ac {x y:Operand}{p q:Int}(ho:o.op=.binOp .neq 3 x y 3)(hx:a.eval x=.int .i64 p)(hy:a.eval y=.int .i64 q):(execOp a.eval o).run Tryz.prog W=.ok (.value (.bool (p != q))) W:=by
 have hu:=Tryz.underlying3;generalize a.eval=E at hx hy ⊢;unfold execOp;simp only[ho,hx,hy]
 go_simp
theorem rQ {x y:Operand}{p:Addr}{n c k:Nat}(ho:o.op=.indexAddr 62 x y)(hx:a.eval x=.slice (some p) n c)(hy:a.eval y=.int .i64 (k:Int))(hk:k<n):(execOp a.eval o).run Tryz.prog W=.ok (.value (.pointer (some (p.add k)))) W:=by
 have h1:(0:Int)<=(k:Int):=by omega
 have h2:(k:Int)<(n:Int):=by omega
 generalize a.eval=E at hx hy ⊢;unfold execOp;simp only[ho,hx,hy]
 go_simp
theorem qI {x:Operand}{p:Addr}{v:Value}(ho:o.op=.load 31 x)(hx:a.eval x=.pointer (some p))(hc:W.cell? p=some v):(execOp a.eval o).run Tryz.prog W=.ok (.value v) W:=by
 have hu:=Tryz.underlying31;unfold execOp;simp only[ho,hx]
 go_simp
theorem yT {x y:Operand}{p q:Int}(ho:o.op=.binOp .neq 31 x y 31)(hx:a.eval x=.int .u64 p)(hy:a.eval y=.int .u64 q):(execOp a.eval o).run Tryz.prog W=.ok (.value (.bool (p != q))) W:=by
 have hu:=Tryz.underlying31;generalize a.eval=E at hx hy ⊢;unfold execOp;simp only[ho,hx,hy]
 go_simp
end
theorem o7 {k:IntKind}{w:World}{A:Option Addr}{l:List Int}{j:Nat}(h:Kd.C (Kd.int k) w A l.length l)(hj:j<l.length):∃ q,A=some q/\w.cell? (q.add j)=some (.int k l[j]):=by
 obtain⟨_,_,h3⟩:=h;obtain⟨ad,ea,hk⟩:=h3 (by omega)
 obtain⟨cs,k1,k2,k3⟩:=hk j l[j] (List.getElem?_eq_getElem hj);obtain rfl:cs=[.int k l[j]]:=k2;refine⟨ad,ea,?_⟩;have h:=k3 0 _ rfl
 rwa [show j*(Kd.int k).sz+0=j from Nat.mul_one j]at h
theorem jK {i:Int}(h0: -9223372036854775808<=i)(h1:i<=9223372036854775807):wrap64 i=i:=by unfold wrap64;omega
theorem oL {w w':World}(h:cz w w'):Below w.heap.size w w':=by
 obtain⟨nd,rfl⟩:=h;exact ah zc nd
def IV (k:IntKind)(w:World)(v:Value)(xs:List Int):Prop:=∃ A c,v=.slice A xs.length c/\xs.length<=c/\Kd.C (Kd.int k) w A xs.length xs
theorem IV.below {k:IntKind}{w w':World}{v:Value}{xs:List Int}(h:IV k w v xs)(hb:Below w.heap.size w w'):IV k w' v xs:=by
 obtain⟨A,c,e,hc,h⟩:=h;exact⟨A,c,e,hc,Kd.aU h hb⟩
def P55 (p q:Addr)(n c d i:Nat)(x y:Int):Nat->Value
 |0=>.slice (some p) n c
 |1=>.int .i64 (i:Int)
 |2=>.pointer (some (p.add i))
 |3=>.int .i64 x
 |4=>.slice (some q) n d
 |5=>.int .i64 (i:Int)
 |6=>.pointer (some (q.add i))
 |7=>.int .i64 y
 |8=>.bool (x != y)
 |_=>undef
theorem mR (x y:Value)(l m:List Int)(w:World)(hl:l.length<=1000000)(hx:IV .i64 w x l)(hy:IV .i64 w y m):Calls Tryz.prog 55 #[x,y] w fun e w'=>e=.returned (.bool (decide (l=m)))/\Below w.heap.size w w':=by
 obtain⟨A,c,rfl,hc,h⟩:=hx;obtain⟨B,d,rfl,hd,h'⟩:=hy
 by_cases hlm:l.length=m.length
 case neg=>
  have q1:((l.length:Int) != (m.length:Int))=true:=bne_iff_ne.2 (by omega)
  have q2:(l.length != m.length)=true:=bne_iff_ne.2 hlm;rw[yd (fun e=>hlm (by rw[e]))]
  clear hlm h h' hc hd hl;go_enter Tryz.func55,Tryz.ntmps55;go_wp2_with fail
  go_ret
  exact⟨rfl,zc⟩
 case pos=>
  rw[<-hlm];have q1:((l.length:Int) != (l.length:Int))=false:=bne_self_eq_false _;have q2:(l.length != l.length)=false:=bne_self_eq_false _;have HH:=Y (And.intro h h');have HL:=Y (And.intro hl hlm);clear h h' hc hd hl hlm;go_enter Tryz.func55,Tryz.ntmps55;go_wp2_with fail
  go_loopg [13] l.length (fun kq v13 w'=>∃ i:Nat,v13=.int .i64 (i:Int)/\aa (i+kq=l.length/\l.take i=m.take i)/\aa (Below w.heap.size w w'))
  case atStart=>exact⟨0,rfl,⟨Nat.zero_add _,rfl⟩,⟨zc⟩⟩
  case round=>
   obtain⟨i,rfl,HI,HB⟩:=hrel;clear q1 q2;cases gk with
   |zero=>
    have r1:decide ((i:Int)<(l.length:Int))=false:=yd (by have:=HI.out.1;omega)
    have r2:decide (i<l.length)=false:=yd (by have:=HI.out.1;omega)
    go_wp2_with fail
    go_ret
    obtain⟨h1,h2⟩:=HI.out
    have e:l=m:=by
     rw[show i=l.length by omega,List.take_length,HL.out.2,List.take_length]at h2
     exact h2
    exact⟨by rw[yb e];rfl,HB.out⟩
   |succ k1=>
    have HIL:=Y (show i<l.length by have:=HI.out.1;omega)
    have r1:decide ((i:Int)<(l.length:Int))=true:=yb (by have:=HIL.out;omega)
    have r2:decide (i<l.length)=true:=yb HIL.out;have hw1:IntKind.i64.wrap ((i:Int)+1)=(i:Int)+1:=by rw[aJ];exact jK (by omega) (by have:=HIL.out;have:=HL.out.1;omega)
    obtain⟨p,rfl,hp⟩:=o7 (Kd.aU HH.out.1 HB.out) HIL.out;obtain⟨q,rfl,hq⟩:=o7 (Kd.aU HH.out.2 HB.out) (by rw[<-HL.out.2];exact HIL.out)
    obtain⟨u,hu⟩:∃ u,u=l[i]'HIL.out:=⟨_,rfl⟩;obtain⟨v,hv⟩:∃ v,v=m[i]'(by rw[<-HL.out.2];exact HIL.out):=⟨_,rfl⟩
    rw[<-hu]at hp;rw[<-hv]at hq;have HX:=Y hp;have HY:=Y hq;have HU:=Y (And.intro hu hv);clear hp hq hu hv;go_upto_region 6 with fail
    refine mE 26 (IZ wr [(0,16),(1,17),(2,18),(3,19),(4,20),(5,21),(6,22),(7,23),(8,24)] (P55 p q l.length c d i u v)) (by kernel_rfl) (by rfl) (by kernel_rfl) IZ.start ?st ?en
    case st=>
     refine .cons (fun a w1 L fr hl hi hI hdf hs hd K hK=>?_) ?_
     . exact zv rfl (iX rfl ((fr 0 (by kernel_rfl)).trans rfl)) (hK _ _ (hI.pure (i:=0) (t:=16) (by rw[hs];decide) (by decide)))
     refine .cons (fun a w1 L fr hl hi hI hdf hs hd K hK=>?_) ?_
     . exact zv rfl (iX rfl ((fr 5 (by kernel_rfl)).trans rfl)) (hK _ _ (hI.pure (i:=1) (t:=17) (by rw[hs];decide) (by decide)))
     refine .cons (fun a w1 L fr hl hi hI hdf hs hd K hK=>?_) ?_
     . exact zv rfl (sj rfl (hI.p (0,16) (by decide) (hd 0 16 (by kernel_rfl))) (hI.p (1,17) (by decide) (hd 1 17 (by kernel_rfl))) HIL.out) (hK _ _ (hI.pure (i:=2) (t:=18) (by rw[hs];decide) (by decide)))
     refine .cons (fun a w1 L fr hl hi hI hdf hs hd K hK=>?_) ?_
     . exact zv rfl (su rfl (hI.p (2,18) (by decide) (hd 2 18 (by kernel_rfl))) ((hI.below.cell (World.block_lt_of_cell? _ _ HX.out)).trans HX.out)) (hK _ _ (hI.pure (i:=3) (t:=19) (by rw[hs];decide) (by decide)))
     refine .cons (fun a w1 L fr hl hi hI hdf hs hd K hK=>?_) ?_
     . exact zv rfl (iX rfl ((fr 1 (by kernel_rfl)).trans rfl)) (hK _ _ (hI.pure (i:=4) (t:=20) (by rw[hs];decide) (by decide)))
     refine .cons (fun a w1 L fr hl hi hI hdf hs hd K hK=>?_) ?_
     . exact zv rfl (iX rfl ((fr 5 (by kernel_rfl)).trans rfl)) (hK _ _ (hI.pure (i:=5) (t:=21) (by rw[hs];decide) (by decide)))
     refine .cons (fun a w1 L fr hl hi hI hdf hs hd K hK=>?_) ?_
     . exact zv rfl (sj rfl (hI.p (4,20) (by decide) (hd 4 20 (by kernel_rfl))) (hI.p (5,21) (by decide) (hd 5 21 (by kernel_rfl))) HIL.out) (hK _ _ (hI.pure (i:=6) (t:=22) (by rw[hs];decide) (by decide)))
     refine .cons (fun a w1 L fr hl hi hI hdf hs hd K hK=>?_) ?_
     . exact zv rfl (su rfl (hI.p (6,22) (by decide) (hd 6 22 (by kernel_rfl))) ((hI.below.cell (World.block_lt_of_cell? _ _ HY.out)).trans HY.out)) (hK _ _ (hI.pure (i:=7) (t:=23) (by rw[hs];decide) (by decide)))
     refine .cons (fun a w1 L fr hl hi hI hdf hs hd K hK=>?_) ?_
     . exact zv rfl (Ac rfl (hI.p (3,19) (by decide) (hd 3 19 (by kernel_rfl))) (hI.p (7,23) (by decide) (hd 7 23 (by kernel_rfl)))) (hK _ _ (hI.pure (i:=8) (t:=24) (by rw[hs];decide) (by decide)))
     exact .nil
    case en=>
     intro vs w6 L hI hall hval;have ee:vs 8=.bool (u != v):=(hval 8 24 (by kernel_rfl)).symm.trans (hI.p (8,24) (by decide) (hall 8 (by decide)))
     have HB6:=Y hI.below;simp only[bA,Act.put,zj,zr,ya,ee];clear hI hall hval ee
     by_cases e:u=v
     . have s1:(u != v)=false:=by rw[e];exact bne_self_eq_false _
       have HE:=Y e;clear e;go_wp2_with fail;go_roundg k1
       case measure=>omega
       case rel=>
        refine⟨i+1,rfl,⟨by have:=HI.out.1;omega,?_⟩,⟨ag HB.out HB.out.size HB6.out⟩⟩
        rw[List.take_succ_eq_append_getElem HIL.out,List.take_succ_eq_append_getElem (by rw[<-HL.out.2];exact HIL.out),HI.out.2,<-HU.out.1,<-HU.out.2,HE.out]
     . have s1:(u != v)=true:=bne_iff_ne.2 e;have HE:=Y e;clear e;go_wp2_with fail
       go_ret
       refine⟨?_,ag HB.out HB.out.size HB6.out⟩;rw[yd (fun e=>HE.out (by rw[HU.out.1,HU.out.2];simp only[e]))]
       rfl
def P58 (p q:Addr)(n c d i:Nat)(x y:Int):Nat->Value
 |0=>.slice (some p) n c
 |1=>.int .i64 (i:Int)
 |2=>.pointer (some (p.add i))
 |3=>.int .u64 x
 |4=>.slice (some q) n d
 |5=>.int .i64 (i:Int)
 |6=>.pointer (some (q.add i))
 |7=>.int .u64 y
 |8=>.bool (x != y)
 |_=>undef
theorem AU (x y:Value)(l m:List Int)(w:World)(hl:l.length<=1000000)(hx:IV .u64 w x l)(hy:IV .u64 w y m):Calls Tryz.prog 58 #[x,y] w fun e w'=>e=.returned (.bool (decide (l=m)))/\Below w.heap.size w w':=by
 obtain⟨A,c,rfl,hc,h⟩:=hx;obtain⟨B,d,rfl,hd,h'⟩:=hy
 by_cases hlm:l.length=m.length
 case neg=>
  have q1:((l.length:Int) != (m.length:Int))=true:=bne_iff_ne.2 (by omega)
  have q2:(l.length != m.length)=true:=bne_iff_ne.2 hlm;rw[yd (fun e=>hlm (by rw[e]))]
  clear hlm h h' hc hd hl;go_enter Tryz.func58,Tryz.ntmps58;go_wp2_with fail
  go_ret
  exact⟨rfl,zc⟩
 case pos=>
  rw[<-hlm];have q1:((l.length:Int) != (l.length:Int))=false:=bne_self_eq_false _;have q2:(l.length != l.length)=false:=bne_self_eq_false _;have HH:=Y (And.intro h h');have HL:=Y (And.intro hl hlm);clear h h' hc hd hl hlm;go_enter Tryz.func58,Tryz.ntmps58;go_wp2_with fail
  go_loopg [13] l.length (fun kq v13 w'=>∃ i:Nat,v13=.int .i64 (i:Int)/\aa (i+kq=l.length/\l.take i=m.take i)/\aa (Below w.heap.size w w'))
  case atStart=>exact⟨0,rfl,⟨Nat.zero_add _,rfl⟩,⟨zc⟩⟩
  case round=>
   obtain⟨i,rfl,HI,HB⟩:=hrel;clear q1 q2;cases gk with
   |zero=>
    have r1:decide ((i:Int)<(l.length:Int))=false:=yd (by have:=HI.out.1;omega)
    have r2:decide (i<l.length)=false:=yd (by have:=HI.out.1;omega)
    go_wp2_with fail
    go_ret
    obtain⟨h1,h2⟩:=HI.out
    have e:l=m:=by
     rw[show i=l.length by omega,List.take_length,HL.out.2,List.take_length]at h2
     exact h2
    exact⟨by rw[yb e];rfl,HB.out⟩
   |succ k1=>
    have HIL:=Y (show i<l.length by have:=HI.out.1;omega)
    have r1:decide ((i:Int)<(l.length:Int))=true:=yb (by have:=HIL.out;omega)
    have r2:decide (i<l.length)=true:=yb HIL.out;have hw1:IntKind.i64.wrap ((i:Int)+1)=(i:Int)+1:=by rw[aJ];exact jK (by omega) (by have:=HIL.out;have:=HL.out.1;omega)
    obtain⟨p,rfl,hp⟩:=o7 (Kd.aU HH.out.1 HB.out) HIL.out;obtain⟨q,rfl,hq⟩:=o7 (Kd.aU HH.out.2 HB.out) (by rw[<-HL.out.2];exact HIL.out)
    obtain⟨u,hu⟩:∃ u,u=l[i]'HIL.out:=⟨_,rfl⟩;obtain⟨v,hv⟩:∃ v,v=m[i]'(by rw[<-HL.out.2];exact HIL.out):=⟨_,rfl⟩
    rw[<-hu]at hp;rw[<-hv]at hq;have HX:=Y hp;have HY:=Y hq;have HU:=Y (And.intro hu hv);clear hp hq hu hv;go_upto_region 6 with fail
    refine mE 26 (IZ wr [(0,16),(1,17),(2,18),(3,19),(4,20),(5,21),(6,22),(7,23),(8,24)] (P58 p q l.length c d i u v)) (by kernel_rfl) (by rfl) (by kernel_rfl) IZ.start ?st ?en
    case st=>
     refine .cons (fun a w1 L fr hl hi hI hdf hs hd K hK=>?_) ?_
     . exact zv rfl (iX rfl ((fr 0 (by kernel_rfl)).trans rfl)) (hK _ _ (hI.pure (i:=0) (t:=16) (by rw[hs];decide) (by decide)))
     refine .cons (fun a w1 L fr hl hi hI hdf hs hd K hK=>?_) ?_
     . exact zv rfl (iX rfl ((fr 5 (by kernel_rfl)).trans rfl)) (hK _ _ (hI.pure (i:=1) (t:=17) (by rw[hs];decide) (by decide)))
     refine .cons (fun a w1 L fr hl hi hI hdf hs hd K hK=>?_) ?_
     . exact zv rfl (rQ rfl (hI.p (0,16) (by decide) (hd 0 16 (by kernel_rfl))) (hI.p (1,17) (by decide) (hd 1 17 (by kernel_rfl))) HIL.out) (hK _ _ (hI.pure (i:=2) (t:=18) (by rw[hs];decide) (by decide)))
     refine .cons (fun a w1 L fr hl hi hI hdf hs hd K hK=>?_) ?_
     . exact zv rfl (qI rfl (hI.p (2,18) (by decide) (hd 2 18 (by kernel_rfl))) ((hI.below.cell (World.block_lt_of_cell? _ _ HX.out)).trans HX.out)) (hK _ _ (hI.pure (i:=3) (t:=19) (by rw[hs];decide) (by decide)))
     refine .cons (fun a w1 L fr hl hi hI hdf hs hd K hK=>?_) ?_
     . exact zv rfl (iX rfl ((fr 1 (by kernel_rfl)).trans rfl)) (hK _ _ (hI.pure (i:=4) (t:=20) (by rw[hs];decide) (by decide)))
     refine .cons (fun a w1 L fr hl hi hI hdf hs hd K hK=>?_) ?_
     . exact zv rfl (iX rfl ((fr 5 (by kernel_rfl)).trans rfl)) (hK _ _ (hI.pure (i:=5) (t:=21) (by rw[hs];decide) (by decide)))
     refine .cons (fun a w1 L fr hl hi hI hdf hs hd K hK=>?_) ?_
     . exact zv rfl (rQ rfl (hI.p (4,20) (by decide) (hd 4 20 (by kernel_rfl))) (hI.p (5,21) (by decide) (hd 5 21 (by kernel_rfl))) HIL.out) (hK _ _ (hI.pure (i:=6) (t:=22) (by rw[hs];decide) (by decide)))
     refine .cons (fun a w1 L fr hl hi hI hdf hs hd K hK=>?_) ?_
     . exact zv rfl (qI rfl (hI.p (6,22) (by decide) (hd 6 22 (by kernel_rfl))) ((hI.below.cell (World.block_lt_of_cell? _ _ HY.out)).trans HY.out)) (hK _ _ (hI.pure (i:=7) (t:=23) (by rw[hs];decide) (by decide)))
     refine .cons (fun a w1 L fr hl hi hI hdf hs hd K hK=>?_) ?_
     . exact zv rfl (yT rfl (hI.p (3,19) (by decide) (hd 3 19 (by kernel_rfl))) (hI.p (7,23) (by decide) (hd 7 23 (by kernel_rfl)))) (hK _ _ (hI.pure (i:=8) (t:=24) (by rw[hs];decide) (by decide)))
     exact .nil
    case en=>
     intro vs w6 L hI hall hval;have ee:vs 8=.bool (u != v):=(hval 8 24 (by kernel_rfl)).symm.trans (hI.p (8,24) (by decide) (hall 8 (by decide)))
     have HB6:=Y hI.below;simp only[bA,Act.put,zj,zr,ya,ee];clear hI hall hval ee
     by_cases e:u=v
     . have s1:(u != v)=false:=by rw[e];exact bne_self_eq_false _
       have HE:=Y e;clear e;go_wp2_with fail;go_roundg k1
       case measure=>omega
       case rel=>
        refine⟨i+1,rfl,⟨by have:=HI.out.1;omega,?_⟩,⟨ag HB.out HB.out.size HB6.out⟩⟩
        rw[List.take_succ_eq_append_getElem HIL.out,List.take_succ_eq_append_getElem (by rw[<-HL.out.2];exact HIL.out),HI.out.2,<-HU.out.1,<-HU.out.2,HE.out]
     . have s1:(u != v)=true:=bne_iff_ne.2 e;have HE:=Y e;clear e;go_wp2_with fail
       go_ret
       refine⟨?_,ag HB.out HB.out.size HB6.out⟩;rw[yd (fun e=>HE.out (by rw[HU.out.1,HU.out.2];simp only[e]))]
       rfl
end
end Go.Proofs.YtglikkmmbdnmbaaGreat.Im
namespace Go.Proofs.YtglikkmmbdnmbaaGreat.Im
open Go.RowKit Q7
open YtglikkmmbdnmbaaGreat.Own PCan
set_option linter.unusedVariables false
set_option linter.unusedSimpArgs false
section
def eqT (t u:S88):Bool:=decide (t.f0=u.f0) && decide (t.f1=u.f1)
def eqN (t u:S89):Bool:=decide (t.f0=u.f0) && decide (t.f1=u.f1)
theorem c76 (t u:S88)(p0 p1 q0 q1:Value)(w:World)(h0:t.f0.length<=1000000)(h1:t.f1.length<=1000000)(hp0:IV .i64 w p0 t.f0)(hp1:IV .i64 w p1 t.f1)(hq0:IV .i64 w q0 u.f0)(hq1:IV .i64 w q1 u.f1):
 Calls Tryz.prog 54 #[.agg #[p0,p1],.agg #[q0,q1]] w fun e w'=>e=.returned (.bool (eqT t u))/\Below w.heap.size w w':=by
 have HP0:=Y hp0;have HP1:=Y hp1;have HQ0:=Y hq0;have HQ1:=Y hq1;obtain⟨A0,c0,rfl,_,_⟩:=hp0;obtain⟨A1,c1,rfl,_,_⟩:=hp1;obtain⟨B0,d0,rfl,_,_⟩:=hq0;obtain⟨B1,d1,rfl,_,_⟩:=hq1;have HW:=Y (show Below w.heap.size w ((w.alloc (.cells #[.slice A0 t.f0.length c0,.slice A1 t.f1.length c1] 61)).alloc (.cells #[.slice B0 u.f0.length d0,.slice B1 u.f1.length d1] 61))from ae (ae zc _) _)
 have HA:aa (Holds ((w.alloc (.cells #[.slice A0 t.f0.length c0,.slice A1 t.f1.length c1] 61)).alloc (.cells #[.slice B0 u.f0.length d0,.slice B1 u.f1.length d1] 61)) w.heap.size 61 [.slice A0 t.f0.length c0,.slice A1 t.f1.length c1]):=⟨Holds.below (aK _ _) (ae zc _)⟩;have HU:aa (Holds ((w.alloc (.cells #[.slice A0 t.f0.length c0,.slice A1 t.f1.length c1] 61)).alloc (.cells #[.slice B0 u.f0.length d0,.slice B1 u.f1.length d1] 61)) (w.heap.size+1) 61 [.slice B0 u.f0.length d0,.slice B1 u.f1.length d1]):=⟨by have h:=aK (w.alloc (.cells #[.slice A0 t.f0.length c0,.slice A1 t.f1.length c1] 61)) (.cells #[.slice B0 u.f0.length d0,.slice B1 u.f1.length d1] 61);rw[World.size_alloc]at h;exact h⟩
 unfold eqT;go_enter Tryz.func54,Tryz.ntmps54;go_wp2_with fail;refine(mR _ _ t.f0 u.f0 _ h0 (HP0.out.below HW.out) (HQ0.out.below HW.out)).mono ?_;rintro e w2 ⟨rfl,hb2⟩;have HX:=Y (ag HW.out HW.out.size hb2);have x1:w2.cell? ⟨w.heap.size,1,none⟩=some (.slice A1 t.f1.length c1):=((HA.out.below hb2).cell 1).trans rfl;have y1:w2.cell? ⟨w.heap.size+1,1,none⟩=some (.slice B1 u.f1.length d1):=((HU.out.below hb2).cell 1).trans rfl;clear hb2
 by_cases he:t.f0=u.f0
 . have d1:decide (t.f0=u.f0)=true:=yb he;rw[d1];clear he;go_wp2_with (go_at_call 55;refine(mR _ _ t.f1 u.f1 _ h1 (HP1.out.below HX.out) (HQ1.out.below HX.out)).mono ?_;rintro e w3 ⟨rfl,hb3⟩;have HY:=Y (ag HX.out HX.out.size hb3);clear hb3)
   go_ret
   exact⟨by rw[d1];rfl,HY.out⟩
 . have d1:decide (t.f0=u.f0)=false:=yd he;rw[d1];clear he;go_wp2_with fail
   go_ret
   exact⟨by rw[d1];rfl,HX.out⟩
theorem c79 (t u:S89)(p0 p1 q0 q1:Value)(w:World)(h0:t.f0.length<=1000000)(h1:t.f1.length<=1000000)(hp0:IV .i64 w p0 t.f0)(hp1:IV .u64 w p1 t.f1)(hq0:IV .i64 w q0 u.f0)(hq1:IV .u64 w q1 u.f1):
 Calls Tryz.prog 57 #[.agg #[p0,p1],.agg #[q0,q1]] w fun e w'=>e=.returned (.bool (eqN t u))/\Below w.heap.size w w':=by
 have HP0:=Y hp0;have HP1:=Y hp1;have HQ0:=Y hq0;have HQ1:=Y hq1;obtain⟨A0,c0,rfl,_,_⟩:=hp0;obtain⟨A1,c1,rfl,_,_⟩:=hp1;obtain⟨B0,d0,rfl,_,_⟩:=hq0;obtain⟨B1,d1,rfl,_,_⟩:=hq1;have HW:=Y (show Below w.heap.size w ((w.alloc (.cells #[.slice A0 t.f0.length c0,.slice A1 t.f1.length c1] 64)).alloc (.cells #[.slice B0 u.f0.length d0,.slice B1 u.f1.length d1] 64))from ae (ae zc _) _)
 have HA:aa (Holds ((w.alloc (.cells #[.slice A0 t.f0.length c0,.slice A1 t.f1.length c1] 64)).alloc (.cells #[.slice B0 u.f0.length d0,.slice B1 u.f1.length d1] 64)) w.heap.size 64 [.slice A0 t.f0.length c0,.slice A1 t.f1.length c1]):=⟨Holds.below (aK _ _) (ae zc _)⟩;have HU:aa (Holds ((w.alloc (.cells #[.slice A0 t.f0.length c0,.slice A1 t.f1.length c1] 64)).alloc (.cells #[.slice B0 u.f0.length d0,.slice B1 u.f1.length d1] 64)) (w.heap.size+1) 64 [.slice B0 u.f0.length d0,.slice B1 u.f1.length d1]):=⟨by have h:=aK (w.alloc (.cells #[.slice A0 t.f0.length c0,.slice A1 t.f1.length c1] 64)) (.cells #[.slice B0 u.f0.length d0,.slice B1 u.f1.length d1] 64);rw[World.size_alloc]at h;exact h⟩
 unfold eqN;go_enter Tryz.func57,Tryz.ntmps57;go_wp2_with fail;refine(mR _ _ t.f0 u.f0 _ h0 (HP0.out.below HW.out) (HQ0.out.below HW.out)).mono ?_;rintro e w2 ⟨rfl,hb2⟩;have HX:=Y (ag HW.out HW.out.size hb2);have x1:w2.cell? ⟨w.heap.size,1,none⟩=some (.slice A1 t.f1.length c1):=((HA.out.below hb2).cell 1).trans rfl;have y1:w2.cell? ⟨w.heap.size+1,1,none⟩=some (.slice B1 u.f1.length d1):=((HU.out.below hb2).cell 1).trans rfl;clear hb2
 by_cases he:t.f0=u.f0
 . have d1:decide (t.f0=u.f0)=true:=yb he;rw[d1];clear he;go_wp2_with (go_at_call 58;refine(AU _ _ t.f1 u.f1 _ h1 (HP1.out.below HX.out) (HQ1.out.below HX.out)).mono ?_;rintro e w3 ⟨rfl,hb3⟩;have HY:=Y (ag HX.out HX.out.size hb3);clear hb3)
   go_ret
   exact⟨by rw[d1];rfl,HY.out⟩
 . have d1:decide (t.f0=u.f0)=false:=yd he;rw[d1];clear he;go_wp2_with fail
   go_ret
   exact⟨by rw[d1];rfl,HX.out⟩
end
section
theorem lt_of_cell {w:World}{p:Addr}{v:Value}(h:w.cell? p=some v):p.block<w.heap.size:=by
 rcases Nat.lt_or_ge p.block w.heap.size with h1|h1
 . exact h1
 . have h2:w.heap[p.block]? =none:=Array.getElem?_eq_none h1;simp [World.cell?,h2]at h
theorem jB {w w':World}{p:Addr}{v:Value}(hb:Below w.heap.size w w')(h:w.cell? p=some v):w'.cell? p=some v:=(hb.cell (lt_of_cell h)).trans h
theorem rdT (l:List S88)(i:Nat)(h:i<l.length):df l (i:Int)=l[i]:=by
 unfold df;rw[Int.toNat_natCast,List.getD_eq_getElem?_getD,List.getElem?_eq_getElem h];rfl
theorem rdN (l:List S89)(i:Nat)(h:i<l.length):aV l (i:Int)=l[i]:=by
 unfold aV;rw[Int.toNat_natCast,List.getD_eq_getElem?_getD,List.getElem?_eq_getElem h];rfl
theorem atT {w:World}{A:Option Addr}{l:List S88}(h:Kd.C k88 w A l.length l)(i:Nat)(hi:i<l.length):
 ∃ ad v0 v1,A=some ad/\(∀ w',Below w.heap.size w w'->w'.cell? (ad.add (i*2))=some v0/\w'.cell? ⟨(ad.add (i*2)).block,(ad.add (i*2)).off+1,none⟩=some v1)/\IV .i64 w v0 l[i].f0/\IV .i64 w v1 l[i].f1:=by
 obtain⟨ad,A0,c0,A1,c1,e,h0,h1,l0,g0,l1,g1⟩:=nH h (i:Int) (by omega) (by omega)
 rw[rdT l i hi]at h0 h1 l0 g0 l1 g1;rw[Int.toNat_natCast]at h0 h1;exact⟨ad,_,_,e,fun w' hb=>⟨jB hb h0,jB hb h1⟩,⟨A0,c0,rfl,l0,g0⟩,⟨A1,c1,rfl,l1,g1⟩⟩
theorem atN {w:World}{A:Option Addr}{l:List S89}(h:Kd.C k89 w A l.length l)(i:Nat)(hi:i<l.length):
 ∃ ad v0 v1,A=some ad/\(∀ w',Below w.heap.size w w'->w'.cell? (ad.add (i*2))=some v0/\w'.cell? ⟨(ad.add (i*2)).block,(ad.add (i*2)).off+1,none⟩=some v1)/\IV .i64 w v0 l[i].f0/\IV .u64 w v1 l[i].f1:=by
 obtain⟨ad,A0,c0,A1,c1,e,h0,h1,l0,g0,l1,g1⟩:=qD h (i:Int) (by omega) (by omega)
 rw[rdN l i hi]at h0 h1 l0 g0 l1 g1;rw[Int.toNat_natCast]at h0 h1;exact⟨ad,_,_,e,fun w' hb=>⟨jB hb h0,jB hb h1⟩,⟨A0,c0,rfl,l0,g0⟩,⟨A1,c1,rfl,l1,g1⟩⟩
def eqR {α:Type}(eq:α->α->Bool)(l m:List α):Bool:=decide (l.length=m.length) && (l.zip m).all (fun p=>eq p.1 p.2)
def xR (t:S88):Prop:=t.f0.length<=1000000/\t.f1.length<=1000000
def xD (t:S89):Prop:=t.f0.length<=1000000/\t.f1.length<=1000000
theorem c75 (l m:List S88)(A B:Option Addr)(c d:Nat)(w:World)(hl:l.length<=1000000)(hs:∀ t∈l,xR t)(hA:Kd.C k88 w A l.length l)(hc:l.length<=c)(hB:Kd.C k88 w B m.length m)(hd:m.length<=d):
 Calls Tryz.prog 53 #[.slice A l.length c,.slice B m.length d,.func (.func 54) #[] #[]] w fun e w'=>e=.returned (.bool (eqR eqT l m))/\Below w.heap.size w w':=by
 have HA:=Y hA;have HBB:=Y hB;have HS:=Y hs;clear hA hB hs;have hu128:=Tryz.underlying61
 by_cases hlm:l.length=m.length
 . have hne:((l.length:Int) != (m.length:Int))=false:=by simp[hlm]
   have HLM:=Y hlm;have HE:=Y (show eqR eqT l m=(l.zip m).all (fun p=>eqT p.1 p.2) by unfold eqR;rw[yb hlm,Bool.true_and])
   rw[<-hlm];rw[<-hlm]at hd;clear hlm;go_enter Tryz.func53,Tryz.ntmps53;go_wp2_with fail
   go_loopg [17] l.length (fun kq v17 w'=>∃ i:Nat,v17=.int .i64 (i:Int)/\i+kq=l.length/\aa (((l.zip m).take i).all (fun p=>eqT p.1 p.2)=true)/\aa (Below w.heap.size w w'))
   case atStart=>exact⟨0,rfl,by omega,⟨rfl⟩,⟨zc⟩⟩
   case round=>
    obtain⟨i,rfl,hi,HP,HW⟩:=hrel;obtain⟨W0,rfl⟩:∃ W0,W0=wr:=⟨wr,rfl⟩;cases gk with
    |zero=>
     have c1:decide ((i:Int)<(l.length:Int))=false:=yd (by omega)
     have c2:decide (i<l.length)=false:=yd (by omega)
     go_wp2_with fail
     go_ret
     refine⟨?_,HW.out⟩;have h:=HP.out;rw[List.take_of_length_le (by rw[List.length_zip];omega)]at h
     rw[HE.out,h];rfl
    |succ k1=>
     have hil:i<l.length:=by omega
     have him:i<m.length:=by have:=HLM.out;omega
     have c1:decide ((i:Int)<(l.length:Int))=true:=yb (by omega)
     have c2:decide (i<l.length)=true:=yb (by omega)
     have q1:(0:Int)<=(i:Int):=by omega
     have q2:(i:Int)<(l.length:Int):=by omega
     have hin:i<1000000000:=by omega
     obtain⟨ad,v0,v1,rfl,hx,hv0,hv1⟩:=atT (Kd.aU HA.out HW.out) i hil;obtain⟨bd,u0,u1,rfl,hy,hu0,hu1⟩:=atT (Kd.aU HBB.out HW.out) i him;have HV0:=Y hv0;have HV1:=Y hv1;have HU0:=Y hu0;have HU1:=Y hu1;obtain⟨A0,c0,rfl,_,_⟩:=hv0;obtain⟨A1,c1',rfl,_,_⟩:=hv1;obtain⟨B0,d0,rfl,_,_⟩:=hu0;obtain⟨B1,d1,rfl,_,_⟩:=hu1;obtain⟨hx0,hx1⟩:=hx W0 zc;obtain⟨hy0,hy1⟩:=hy (W0.alloc (.cells #[.slice A0 l[i].f0.length c0,.slice A1 l[i].f1.length c1'] 61)) (ae zc _);clear hx hy;have HBL:=Y (show Below W0.heap.size W0 ((W0.alloc (.cells #[.slice A0 l[i].f0.length c0,.slice A1 l[i].f1.length c1'] 61)).alloc (.cells #[.slice B0 m[i].f0.length d0,.slice B1 m[i].f1.length d1] 61))from ae (ae zc _) _)
     have hsm:=HS.out l[i] (List.getElem_mem hil)
     have HZ:=Y (show((l.zip m).take (i+1)).all (fun p=>eqT p.1 p.2)=eqT l[i] m[i] by
      rw[List.take_succ_eq_append_getElem (by rw[List.length_zip];omega),List.all_append,HP.out,List.getElem_zip]
      simp)
     go_upto_if 30 with(go_at_call 54;refine(c76 l[i] m[i] _ _ _ _ _ hsm.1 hsm.2 (HV0.out.below HBL.out) (HV1.out.below HBL.out) (HU0.out.below HBL.out) (HU1.out.below HBL.out)).mono ?_;rintro e w3 ⟨rfl,hb3⟩;have HB3:=Y (ag HW.out HW.out.size (ag HBL.out HBL.out.size hb3));clear hb3)
     obtain⟨E,hE⟩:∃ E,E=eqT l[i] m[i]:=⟨_,rfl⟩;rw[<-hE]at HZ ⊢;cases E with
     |true=>
      go_wp2_with fail;go_roundg k1
      case measure=>omega
      case rel=>exact⟨i+1,rfl,by omega,HZ,HB3⟩
     |false=>
      go_wp2_with fail
      go_ret
      refine⟨?_,HB3.out⟩;rw[HE.out]
      have h:(l.zip m).all (fun p=>eqT p.1 p.2)=false:=by
       have h1:=HZ.out;rw[Bool.eq_false_iff];intro h2;rw[List.all_eq_true]at h2;rw[Bool.eq_false_iff]at h1;exact h1 (List.all_eq_true.2 (fun x hx=>h2 x (List.mem_of_mem_take hx)))
      rw[h];rfl
 . have hne:((l.length:Int) != (m.length:Int))=true:=bne_iff_ne.2 (by omega)
   have HE:=Y (show eqR eqT l m=false by unfold eqR;rw[yd hlm,Bool.false_and])
   clear hlm;go_enter Tryz.func53,Tryz.ntmps53;go_wp2_with fail
   go_ret
   exact⟨by rw[HE.out];rfl,zc⟩
theorem c78 (l m:List S89)(A B:Option Addr)(c d:Nat)(w:World)(hl:l.length<=1000000)(hs:∀ t∈l,xD t)(hA:Kd.C k89 w A l.length l)(hc:l.length<=c)(hB:Kd.C k89 w B m.length m)(hd:m.length<=d):
 Calls Tryz.prog 56 #[.slice A l.length c,.slice B m.length d,.func (.func 57) #[] #[]] w fun e w'=>e=.returned (.bool (eqR eqN l m))/\Below w.heap.size w w':=by
 have HA:=Y hA;have HBB:=Y hB;have HS:=Y hs;clear hA hB hs;have hu131:=Tryz.underlying64
 by_cases hlm:l.length=m.length
 . have hne:((l.length:Int) != (m.length:Int))=false:=by simp[hlm]
   have HLM:=Y hlm;have HE:=Y (show eqR eqN l m=(l.zip m).all (fun p=>eqN p.1 p.2) by unfold eqR;rw[yb hlm,Bool.true_and])
   rw[<-hlm];rw[<-hlm]at hd;clear hlm;go_enter Tryz.func56,Tryz.ntmps56;go_wp2_with fail
   go_loopg [17] l.length (fun kq v17 w'=>∃ i:Nat,v17=.int .i64 (i:Int)/\i+kq=l.length/\aa (((l.zip m).take i).all (fun p=>eqN p.1 p.2)=true)/\aa (Below w.heap.size w w'))
   case atStart=>exact⟨0,rfl,by omega,⟨rfl⟩,⟨zc⟩⟩
   case round=>
    obtain⟨i,rfl,hi,HP,HW⟩:=hrel;obtain⟨W0,rfl⟩:∃ W0,W0=wr:=⟨wr,rfl⟩;cases gk with
    |zero=>
     have c1:decide ((i:Int)<(l.length:Int))=false:=yd (by omega)
     have c2:decide (i<l.length)=false:=yd (by omega)
     go_wp2_with fail
     go_ret
     refine⟨?_,HW.out⟩;have h:=HP.out;rw[List.take_of_length_le (by rw[List.length_zip];omega)]at h
     rw[HE.out,h];rfl
    |succ k1=>
     have hil:i<l.length:=by omega
     have him:i<m.length:=by have:=HLM.out;omega
     have c1:decide ((i:Int)<(l.length:Int))=true:=yb (by omega)
     have c2:decide (i<l.length)=true:=yb (by omega)
     have q1:(0:Int)<=(i:Int):=by omega
     have q2:(i:Int)<(l.length:Int):=by omega
     have hin:i<1000000000:=by omega
     obtain⟨ad,v0,v1,rfl,hx,hv0,hv1⟩:=atN (Kd.aU HA.out HW.out) i hil;obtain⟨bd,u0,u1,rfl,hy,hu0,hu1⟩:=atN (Kd.aU HBB.out HW.out) i him;have HV0:=Y hv0;have HV1:=Y hv1;have HU0:=Y hu0;have HU1:=Y hu1;obtain⟨A0,c0,rfl,_,_⟩:=hv0;obtain⟨A1,c1',rfl,_,_⟩:=hv1;obtain⟨B0,d0,rfl,_,_⟩:=hu0;obtain⟨B1,d1,rfl,_,_⟩:=hu1;obtain⟨hx0,hx1⟩:=hx W0 zc;obtain⟨hy0,hy1⟩:=hy (W0.alloc (.cells #[.slice A0 l[i].f0.length c0,.slice A1 l[i].f1.length c1'] 64)) (ae zc _);clear hx hy;have HBL:=Y (show Below W0.heap.size W0 ((W0.alloc (.cells #[.slice A0 l[i].f0.length c0,.slice A1 l[i].f1.length c1'] 64)).alloc (.cells #[.slice B0 m[i].f0.length d0,.slice B1 m[i].f1.length d1] 64))from ae (ae zc _) _)
     have hsm:=HS.out l[i] (List.getElem_mem hil)
     have HZ:=Y (show((l.zip m).take (i+1)).all (fun p=>eqN p.1 p.2)=eqN l[i] m[i] by
      rw[List.take_succ_eq_append_getElem (by rw[List.length_zip];omega),List.all_append,HP.out,List.getElem_zip]
      simp)
     go_upto_if 30 with(go_at_call 57;refine(c79 l[i] m[i] _ _ _ _ _ hsm.1 hsm.2 (HV0.out.below HBL.out) (HV1.out.below HBL.out) (HU0.out.below HBL.out) (HU1.out.below HBL.out)).mono ?_;rintro e w3 ⟨rfl,hb3⟩;have HB3:=Y (ag HW.out HW.out.size (ag HBL.out HBL.out.size hb3));clear hb3)
     obtain⟨E,hE⟩:∃ E,E=eqN l[i] m[i]:=⟨_,rfl⟩;rw[<-hE]at HZ ⊢;cases E with
     |true=>
      go_wp2_with fail;go_roundg k1
      case measure=>omega
      case rel=>exact⟨i+1,rfl,by omega,HZ,HB3⟩
     |false=>
      go_wp2_with fail
      go_ret
      refine⟨?_,HB3.out⟩;rw[HE.out]
      have h:(l.zip m).all (fun p=>eqN p.1 p.2)=false:=by
       have h1:=HZ.out;rw[Bool.eq_false_iff];intro h2;rw[List.all_eq_true]at h2;rw[Bool.eq_false_iff]at h1;exact h1 (List.all_eq_true.2 (fun x hx=>h2 x (List.mem_of_mem_take hx)))
      rw[h];rfl
 . have hne:((l.length:Int) != (m.length:Int))=true:=bne_iff_ne.2 (by omega)
   have HE:=Y (show eqR eqN l m=false by unfold eqR;rw[yd hlm,Bool.false_and])
   clear hlm;go_enter Tryz.func56,Tryz.ntmps56;go_wp2_with fail
   go_ret
   exact⟨by rw[HE.out];rfl,zc⟩
end
section
structure Sh where
 T:List S88
 G:List Int
 N:List S89
def iD (w:World)(v:Value)(S:Sh):Prop:=∃ A0 c0 A1 c1 A2 c2,v=.agg #[.slice A0 S.T.length c0,.slice A1 S.G.length c1,.slice A2 S.N.length c2]/\S.T.length<=c0/\Kd.C k88 w A0 S.T.length S.T/\S.G.length<=c1/\Kd.C (Kd.int .i64) w A1 S.G.length S.G/\S.N.length<=c2/\Kd.C k89 w A2 S.N.length S.N
theorem iD.below {w w':World}{v:Value}{S:Sh}(h:iD w v S)(hb:Below w.heap.size w w'):iD w' v S:=by
 obtain⟨A0,c0,A1,c1,A2,c2,e,l0,h0,l1,h1,l2,h2⟩:=h;exact⟨A0,c0,A1,c1,A2,c2,e,l0,Kd.aU h0 hb,l1,Kd.aU h1 hb,l2,Kd.aU h2 hb⟩
structure Small (S:Sh):Prop where
 T:S.T.length<=1000000
 G:S.G.length<=1000000
 N:S.N.length<=1000000
 t:∀ t∈S.T,xR t
 n:∀ t∈S.N,xD t
def wQ (S U:Sh):Bool:=eqR eqT S.T U.T && eqR eqN S.N U.N && decide (S.G=U.G)
theorem xn {α:Type}{eq:α->α->Bool}(h:∀ x,eq x x=true)(l:List α):eqR eq l l=true:=by
 unfold eqR;rw[yb rfl,Bool.true_and,List.all_eq_true];intro p hp;obtain⟨i,hi⟩:=List.mem_iff_getElem?.1 hp;rw[List.getElem?_zip_eq_some]at hi;have:=Option.some.inj (hi.1.symm.trans hi.2);rw[this];exact h _
theorem tO (S:Sh):wQ S S=true:=by
 unfold wQ;rw[xn (fun x=>by unfold eqT;simp),xn (fun x=>by unfold eqN;simp),yb rfl]
 rfl
theorem um (S U:Sh)(v u:Value)(w:World)(hS:Small S)(hv:iD w v S)(hu:iD w u U):Calls Tryz.prog 16 #[v,u] w fun e w'=>e=.returned (.bool (wQ S U))/\Below w.heap.size w w':=by
 have HS:=Y hS;have hu89:=Tryz.underlying46;obtain⟨A0,c0,A1,c1,A2,c2,rfl,l0,h0,l1,h1,l2,h2⟩:=hv;obtain⟨B0,d0,B1,d1,B2,d2,rfl,m0,k0,m1,k1,m2,k2⟩:=hu;have H0:=Y h0;have H1:=Y h1;have H2:=Y h2;have K0:=Y k0;have K1:=Y k1;have K2:=Y k2;clear h0 h1 h2 k0 k1 k2;have HW:=Y (show Below w.heap.size w ((w.alloc (.cells #[.slice A0 S.T.length c0,.slice A1 S.G.length c1,.slice A2 S.N.length c2] 46)).alloc (.cells #[.slice B0 U.T.length d0,.slice B1 U.G.length d1,.slice B2 U.N.length d2] 46))from ae (ae zc _) _)
 have HA:aa (Holds ((w.alloc (.cells #[.slice A0 S.T.length c0,.slice A1 S.G.length c1,.slice A2 S.N.length c2] 46)).alloc (.cells #[.slice B0 U.T.length d0,.slice B1 U.G.length d1,.slice B2 U.N.length d2] 46)) w.heap.size 46 [.slice A0 S.T.length c0,.slice A1 S.G.length c1,.slice A2 S.N.length c2]):=⟨Holds.below (aK _ _) (ae zc _)⟩;have HU:aa (Holds ((w.alloc (.cells #[.slice A0 S.T.length c0,.slice A1 S.G.length c1,.slice A2 S.N.length c2] 46)).alloc (.cells #[.slice B0 U.T.length d0,.slice B1 U.G.length d1,.slice B2 U.N.length d2] 46)) (w.heap.size+1) 46 [.slice B0 U.T.length d0,.slice B1 U.G.length d1,.slice B2 U.N.length d2]):=⟨by have h:=aK (w.alloc (.cells #[.slice A0 S.T.length c0,.slice A1 S.G.length c1,.slice A2 S.N.length c2] 46)) (.cells #[.slice B0 U.T.length d0,.slice B1 U.G.length d1,.slice B2 U.N.length d2] 46);rw[World.size_alloc]at h;exact h⟩
 unfold wQ;go_enter Tryz.func16,Tryz.ntmps16;go_upto_region 2 with(go_at_call 53;refine(c75 S.T U.T A0 B0 c0 d0 _ HS.out.T HS.out.t (Kd.aU H0.out HW.out) l0 (Kd.aU K0.out HW.out) m0).mono ?_;rintro e w2 ⟨rfl,hb2⟩;have HX:=Y (ag HW.out HW.out.size hb2);have HA2:=Y (HA.out.below hb2);have HU2:=Y (HU.out.below hb2);clear hb2)
 have x2:=(HA2.out.cell 2).trans rfl;have y2:=(HU2.out.cell 2).trans rfl;go_upto_region 3 with(go_at_call 56;refine(c78 S.N U.N A2 B2 c2 d2 _ HS.out.N HS.out.n (Kd.aU H2.out HX.out) l2 (Kd.aU K2.out HX.out) m2).mono ?_;rintro e w3 ⟨rfl,hb3⟩;have HY:=Y (ag HX.out HX.out.size hb3);have HA3:=Y (HA2.out.below hb3);have HU3:=Y (HU2.out.below hb3);clear hb3)
 have x1:=(HA3.out.cell 1).trans rfl;have y1:=(HU3.out.cell 1).trans rfl;obtain⟨E1,hE1⟩:∃ E1,E1=eqR eqT S.T U.T:=⟨_,rfl⟩;obtain⟨E2,hE2⟩:∃ E2,E2=eqR eqN S.N U.N:=⟨_,rfl⟩;have HE1:=Y hE1;have HE2:=Y hE2;rw[<-hE1,<-hE2];clear hE1 hE2;cases E1 with
 |false=>
  go_wp2_with fail
  go_ret
  exact⟨by rw[<-HE1.out];rfl,HY.out⟩
 |true=>
  cases E2 with
  |false=>
   go_wp2_with fail
   go_ret
   exact⟨by rw[<-HE1.out,<-HE2.out];rfl,HY.out⟩
  |true=>
   go_wp2_with (go_at_call 55;refine(mR _ _ S.G U.G _ HS.out.G ⟨A1,c1,rfl,l1,Kd.aU H1.out HY.out⟩ ⟨B1,d1,rfl,m1,Kd.aU K1.out HY.out⟩).mono ?_;rintro e w4 ⟨rfl,hb4⟩;have HZ:=Y (ag HY.out HY.out.size hb4);clear hb4)
   go_ret
   exact⟨by rw[<-HE1.out,<-HE2.out];rfl,HZ.out⟩
end
section
theorem kI:(Tryz.prog.info? 3).map (fun i=>(i.zero,i.size,i.bytes))=some (some (.int .i64 0),(Kd.int .i64).sz,8):=by kernel_rfl
theorem c98 (v:Value)(l:List Int)(w:World)(hv:IV .i64 w v l)(hl:l.length*8<=140737488355328):
 Calls Tryz.prog 76 #[v] w fun e w'=>∃ v0_:Value,e=.returned v0_/\Kd.R (Kd.int .i64) 3 w' w.heap.size (fun _=>True) v0_ l/\Below w.heap.size w w':=by
 obtain⟨A,c,rfl,hc,hr⟩:=hv;have q:∀(w:World) (a:Option Addr) (n c n' c':Nat),(binOp .eql 38 (.slice a n c) (.slice none n' c')).run Tryz.prog w=.ok (.bool a.isNone) w:=fun w a n c n' c'=>Lib.run_eql_slice_nil w _ _ a n c n' c' Tryz.underlying38
 rcases A with _|ad
 . have hl0:l=[]:=by
    rcases l with _|⟨x,l⟩
    . rfl
    . obtain⟨ad,h,_⟩:=hr.2.2 (by simp)
      cases h
   subst hl0;clear hr hc hl;go_enter Tryz.func76,Tryz.ntmps76
   go_wp2
   go_ret
   exact⟨_,rfl,Kd.fo _ _ _ _ _,zc⟩
 . have HR:=Y hr;clear hr hc;go_enter Tryz.func76,Tryz.ntmps76;go_wp2_with (at_builtin;refine jR (Kd.int .i64) (w0:=w) w.heap.size rfl (.tmp 5) (.tmp 6) 38 3 (.int .i64 0) 8 rfl Tryz.underlying38 kI rfl (by decide) (by omega) (.slice (some ⟨w.heap.size,0,none⟩) 0 0) [] l (some ad) l.length c (fun _=>True) rfl rfl (fun _ _ _ _ h=>h) (fun _ _=>trivial) ?aO ?aR ?aB ?aS ?aL ?_)
   case aO=>exact xU _ _ _ _ _ (Nat.le_refl _) trivial
   case aR=>exact Kd.dn HR.out _
   case aB=>exact(Below.refl _ w).alloc (Nat.le_refl _) _
   case aS=>simp
   case aL=>simpa using hl
   intro v1 w1 ho hb hg hat
   go_wp2
   go_ret
   exact⟨_,rfl,by simpa using ho,hb⟩
theorem zK:(Tryz.prog.info? 31).map (fun i=>(i.zero,i.size,i.bytes))=some (some (.int .u64 0),(Kd.int .u64).sz,8):=by kernel_rfl
theorem c114 (v:Value)(l:List Int)(w:World)(hv:IV .u64 w v l)(hl:l.length*8<=140737488355328):
 Calls Tryz.prog 77 #[v] w fun e w'=>∃ v0_:Value,e=.returned v0_/\Kd.R (Kd.int .u64) 31 w' w.heap.size (fun _=>True) v0_ l/\Below w.heap.size w w':=by
 obtain⟨A,c,rfl,hc,hr⟩:=hv;have q:∀(w:World) (a:Option Addr) (n c n' c':Nat),(binOp .eql 62 (.slice a n c) (.slice none n' c')).run Tryz.prog w=.ok (.bool a.isNone) w:=fun w a n c n' c'=>Lib.run_eql_slice_nil w _ _ a n c n' c' Tryz.underlying62
 rcases A with _|ad
 . have hl0:l=[]:=by
    rcases l with _|⟨x,l⟩
    . rfl
    . obtain⟨ad,h,_⟩:=hr.2.2 (by simp)
      cases h
   subst hl0;clear hr hc hl;go_enter Tryz.func77,Tryz.ntmps77
   go_wp2
   go_ret
   exact⟨_,rfl,Kd.fo _ _ _ _ _,zc⟩
 . have HR:=Y hr;clear hr hc;go_enter Tryz.func77,Tryz.ntmps77;go_wp2_with (at_builtin;refine jR (Kd.int .u64) (w0:=w) w.heap.size rfl (.tmp 5) (.tmp 6) 62 31 (.int .u64 0) 8 rfl Tryz.underlying62 zK rfl (by decide) (by omega) (.slice (some ⟨w.heap.size,0,none⟩) 0 0) [] l (some ad) l.length c (fun _=>True) rfl rfl (fun _ _ _ _ h=>h) (fun _ _=>trivial) ?aO ?aR ?aB ?aS ?aL ?_)
   case aO=>exact xU _ _ _ _ _ (Nat.le_refl _) trivial
   case aR=>exact Kd.dn HR.out _
   case aB=>exact(Below.refl _ w).alloc (Nat.le_refl _) _
   case aS=>simp
   case aL=>simpa using hl
   intro v1 w1 ho hb hg hat
   go_wp2
   go_ret
   exact⟨_,rfl,by simpa using ho,hb⟩
def inF (n:Nat)(l:List Int):List Int:=l.map fun x=>if x<1\/(n:Int)<x then 0 else x
theorem Em (n:Nat)(l:List Int)(i:Nat)(hi:i<l.length):((inF n l).take i++l.drop i).set i (if l[i]<1\/(n:Int)<l[i]then 0 else l[i])=(inF n l).take (i+1)++l.drop (i+1):=by
 have h1:i<(inF n l).length:=by unfold inF;rw[List.length_map];exact hi
 have h2:((inF n l).take i).length=i:=by rw[List.length_take];omega
 have h3:(inF n l)[i]=if l[i]<1\/(n:Int)<l[i]then 0 else l[i]:=by simp[inF]
 rw[List.take_succ_eq_append_getElem h1,List.drop_eq_getElem_cons hi,List.set_append_right _ _ (by omega),h2,Nat.sub_self,zr,h3,List.append_assoc]
 rfl
theorem iB (n:Nat)(l:List Int):(inF n l).length=l.length:=by unfold inF;rw[List.length_map]
theorem Ef (n:Nat)(l:List Int)(i:Nat)(hi:i<l.length)(h:¬ (l[i]<1\/(n:Int)<l[i])):(inF n l).take i++l.drop i=(inF n l).take (i+1)++l.drop (i+1):=by
 have h1:i<(inF n l).length:=by rw[iB];exact hi
 have h3:(inF n l)[i]=l[i]:=by simp[inF];omega
 rw[List.take_succ_eq_append_getElem h1,List.drop_eq_getElem_cons hi,h3,List.append_assoc];rfl
theorem c97 (v:Value)(l:List Int)(n:Nat)(A2:Option Addr)(c2:Nat)(p:Addr)(w:World)(hv:IV .i64 w v l)(hl:l.length<=1000000)(hn:n<=1000000)(hp:w.cell? p=some (.slice A2 n c2)):
 Calls Tryz.prog 78 #[v,.pointer (some p)] w fun e w'=>∃ v0_:Value,e=.returned v0_/\Kd.R (Kd.int .i64) 3 w' w.heap.size (fun _=>True) v0_ (inF n l)/\Below w.heap.size w w':=by
 have HV:=Y hv;obtain⟨A,c,rfl,_,_⟩:=hv;have HP:=Y hp;clear hp;go_enter Tryz.func78,Tryz.ntmps78;go_wp2_with (go_at_call 76;refine(c98 _ l _ HV.out (by omega)).mono ?_;rintro e w1 ⟨v1,rfl,hr1,hb1⟩;obtain⟨A1,c1,rfl⟩:=Kd.aD hr1;have HR1:=Y hr1;have HB1:=Y hb1;clear hr1 hb1)
 go_loopg [11] l.length (fun kq v11 w'=>∃ i:Nat,v11=.int .i64 (i:Int)/\i+kq=l.length/\aa (Kd.R (Kd.int .i64) 3 w' w.heap.size (fun _=>True) (.slice A1 l.length c1) ((inF n l).take i++l.drop i))/\aa (Below w.heap.size w w'))
 case atStart=>exact⟨0,rfl,by omega,⟨by simpa using HR1.out⟩,HB1⟩
 case round=>
  obtain⟨i,rfl,hi,HR,HB⟩:=hrel;obtain⟨W0,rfl⟩:∃ W0,W0=wr:=⟨wr,rfl⟩;cases gk with
  |zero=>
   have q1:decide ((i:Int)<(l.length:Int))=false:=yd (by omega)
   have q2:decide (i<l.length)=false:=yd (by omega)
   go_wp2_with fail
   go_ret
   refine⟨_,rfl,?_,HB.out⟩;have h:=HR.out;rw[show i=l.length by omega,List.drop_length,List.append_nil,List.take_of_length_le (by rw[iB];omega)]at h
   exact h
  |succ k1=>
   have hil:i<l.length:=by omega
   have q1:decide ((i:Int)<(l.length:Int))=true:=yb (by omega)
   have q2:decide (i<l.length)=true:=yb (by omega)
   have q3:(0:Int)<=(i:Int):=by omega
   have q4:(i:Int)<(l.length:Int):=by omega
   have hin:i<1000000000:=by omega
   have hlen:((inF n l).take i++l.drop i).length=l.length:=by rw[List.length_append,List.length_take,List.length_drop,iB];omega
   have hx:W0.cell? p=some (.slice A2 n c2):=jB HB.out HP.out;obtain⟨g,cap,he,hgw,hgl,_⟩:=Kd.uw HR.out (by rw[hlen];omega)
   rw[hlen]at he;injection he with he1 he2 he3
   subst he1 he3;have HG:=Y hgw;have hRR:=(show Kd.R (Kd.int .i64) 3 W0 w.heap.size (fun _=>True) (.slice (some ⟨g,0,none⟩) ((inF n l).take i++l.drop i).length c1) ((inF n l).take i++l.drop i) by rw[hlen];exact HR.out)
   have hcl:=(Kd.lG (0:Int) hRR (i:Int) (by omega) (by omega)).1
   have hfr:=(Kd.lG (0:Int) hRR (i:Int) (by omega) (by omega)).2
   have HPUT:=Y (Kd.R_put hRR (i:Int) 0)
   have hrd:qa (0:Int) ((inF n l).take i++l.drop i) (i:Int)=l[i]:=by
    unfold qa;rw[Int.toNat_natCast,List.getD_eq_getElem?_getD,List.getElem?_append_right (by rw[List.length_take];omega),List.length_take,iB,Nat.min_eq_left (by omega),Nat.sub_self,List.drop_eq_getElem_cons hil]
    rfl
   rw[hrd,Int.toNat_natCast]at hcl;rw[Int.toNat_natCast]at hfr HPUT;rw[hlen]at HPUT;have HS:=Y (Em n l i hil);have HK:=Y (Ef n l i hil);have HLI:=Y hi;clear hrd hgw hgl hlen hRR;obtain⟨x,hxx⟩:∃ x,x=l[i]:=⟨_,rfl⟩;rw[<-hxx]at hcl HS HK;clear hxx
   by_cases k1':x<1
   . have d1:decide (x<1)=true:=yb k1';go_wp2_with fail;go_roundg k1
     case measure=>omega
     case rel=>
      refine⟨i+1,rfl,by omega,⟨?_⟩,⟨?_⟩⟩
      . have h:=HS.out;rw[if_pos (.inl k1')]at h;rw[<-h];exact HPUT.out.1
      . exact HB.out.setCell (p:=⟨g,i,none⟩) HG.out _
   . have d1:decide (x<1)=false:=yd k1'
     by_cases k2':(n:Int)<x
     . have d2:decide ((n:Int)<x)=true:=yb k2';go_wp2_with fail;go_roundg k1
       case measure=>omega
       case rel=>
        refine⟨i+1,rfl,by omega,⟨?_⟩,⟨?_⟩⟩
        . have h:=HS.out;rw[if_pos (.inr k2')]at h;rw[<-h];exact HPUT.out.1
        . exact HB.out.setCell (p:=⟨g,i,none⟩) HG.out _
     . have d2:decide ((n:Int)<x)=false:=yd k2';go_wp2_with fail;go_roundg k1
       case measure=>omega
       case rel=>
        refine⟨i+1,rfl,by omega,⟨?_⟩,HB⟩
        rw[<-HK.out (by omega)]
        exact HR.out
end
end Go.Proofs.YtglikkmmbdnmbaaGreat.Im
namespace Go.Proofs.YtglikkmmbdnmbaaGreat.Im
open Go.RowKit Q7
open YtglikkmmbdnmbaaGreat.Own PCan Wv
set_option linter.unusedVariables false
set_option linter.unusedSimpArgs false
section
def bn:Kd (Value×Value) where
 sz:=2
 E:=[]
 K:=fun _ p cs=>cs=[p.1,p.2]/\p.1.oneCell'=true/\p.2.oneCell'=true
 M:=fun _ _ _ p cs=>cs=[p.1,p.2]/\p.1.oneCell'=true/\p.2.oneCell'=true
 K_len:=fun h=>by rw[h.1];rfl
 K_one:=fun h u hu=>by
  rw[h.1]at hu
  rcases List.mem_cons.1 hu with rfl|hu
  . exact h.2.1
  . rcases List.mem_cons.1 hu with rfl|hu
    . exact h.2.2
    . cases hu
 K_below:=fun _ h=>h
 K_of_M:=fun h=>h
 M_mono:=fun _ h=>h
 M_bound:=fun h=>h
 M_move:=fun _ h=>h
 M_lower:=fun _ h=>h
theorem zB (w:World)(p:Value×Value)(h1:p.1.oneCell'=true)(h2:p.2.oneCell'=true):bn.K w p [p.1,p.2]:=⟨rfl,h1,h2⟩
theorem jr (A:Option Addr)(n c:Nat):(Value.slice A n c).oneCell'=true:=rfl
abbrev OI (k:IntKind)(e:Nat)(w:World)(B:Nat)(v u:Value)(xs:List Int):Prop:=Kd.R (Kd.int k) e w B (fun q=>True/\some q≠v.ownBlock) u xs
theorem jN {k:IntKind}{e:Nat}{w:World}{B:Nat}{ok:Nat->Prop}{u:Value}{xs:List Int}(h:Kd.R (Kd.int k) e w B ok u xs):IV k w u xs:=Kd.lX h
theorem IV.one {k:IntKind}{w:World}{u:Value}{xs:List Int}(h:IV k w u xs):u.oneCell'=true:=by
 obtain⟨A,c,rfl,_,_⟩:=h;rfl
def Els {α:Type}(f0 f1:α->List Int)(k:IntKind)(e:Nat)(w:World)(B:Nat)(v:Value)(ps:List (Value×Value))(T:List α):Prop:=
 ps.length=T.length/\∀(i:Nat) (p:Value×Value) (t:α),ps[i]? =some p->T[i]? =some t->OI .i64 3 w B v p.1 (f0 t)/\OI k e w B v p.2 (f1 t)
section
variable {α:Type} {f0 f1:α→List Int} {k:IntKind} {e:Nat} {w w1:World} {B:Nat} {v v1:Value} {ps:List (Value×Value)} {T:List α}
theorem Els.nil:Els f0 f1 k e w B v [] []:=⟨rfl,fun i p t h=>by simp at h⟩
theorem Els.grown (h:Els f0 f1 k e w B v ps T)(hg:w.grownBy w1 v.ownBlock):Els f0 f1 k e w1 B v ps T:=
 ⟨h.1,fun i p t hp ht=>⟨Kd.iU (h.2 i p t hp ht).1 hg (fun q hq=>hq.2),Kd.iU (h.2 i p t hp ht).2 hg (fun q hq=>hq.2)⟩⟩
theorem Els.after (h:Els f0 f1 k e w B v ps T)(hg:w.grownBy w1 v.ownBlock)(hat:v1.ownBlock=v.ownBlock\/∃ b,v1.ownBlock=some b/\w.heap.size<=b):Els f0 f1 k e w1 B v1 ps T:=
 ⟨h.1,fun i p t hp ht=>⟨Kd.lQ (h.2 i p t hp ht).1 hg hat,Kd.lQ (h.2 i p t hp ht).2 hg hat⟩⟩
theorem Els.push {p:Value×Value}{t:α}(h:Els f0 f1 k e w B v ps T)(h0:OI .i64 3 w B v p.1 (f0 t))(h1:OI k e w B v p.2 (f1 t)):Els f0 f1 k e w B v (ps++[p]) (T++[t]):=by
 refine⟨by simp[h.1],fun i q u hq hu=>?_⟩
 rcases Nat.lt_or_ge i ps.length with hi|hi
 . rw[List.getElem?_append_left hi]at hq;rw[List.getElem?_append_left (by rw[<-h.1];exact hi)]at hu
   exact h.2 i q u hq hu
 . have hl:=h.1;rw[List.getElem?_append_right hi]at hq;rw[List.getElem?_append_right (by omega)]at hu
   rw[<-hl]at hu
   have hz:i - ps.length=0:=by
    rcases Nat.eq_zero_or_pos (i - ps.length)with h2|h2
    . exact h2
    . rw[List.getElem?_eq_none (by simp;omega)]at hq
      cases hq
   rw[hz]at hq hu;obtain rfl:p=q:=by simpa using hq
   obtain rfl:t=u:=by simpa using hu
   exact⟨h0,h1⟩
theorem Els.below (h:Els f0 f1 k e w B v ps T)(hb:Below w.heap.size w w1):Els f0 f1 k e w1 B v ps T:=h.grown (cK hb _)
end
theorem pM {α:Type}{d:Kd α}(hsz:d.sz=2){w:World}{A:Option Addr}{ps:List (Value×Value)}{T:List α}(hl:ps.length=T.length)(hC:Kd.C bn w A ps.length ps)
 (h:∀(i:Nat) (p:Value×Value) (t:α),ps[i]? =some p->T[i]? =some t->d.K w t [p.1,p.2]):Kd.C d w A T.length T:=by
 have hm:=Kd.C_max hC;refine⟨rfl,by omega,fun h0=>?_⟩
 obtain⟨ad,e1,h2⟩:=hC.2.2 (by omega)
 refine⟨ad,e1,fun j t ht=>?_⟩
 have hj:j<ps.length:=by rw[hl];exact(List.getElem?_eq_some_iff.1 ht).1
 obtain⟨c,hc,hk,hcell⟩:=h2 j _ (List.getElem?_eq_getElem hj);rw[hk.1]at hc hcell;refine⟨_,hc.trans hsz.symm,h j _ t (List.getElem?_eq_getElem hj) ht,fun i u hu=>?_⟩
 rw[hsz];exact hcell i u hu
theorem yx {w:World}{t:S88}{p:Value×Value}(h0:IV .i64 w p.1 t.f0)(h1:IV .i64 w p.2 t.f1):k88.K w t [p.1,p.2]:=by
 obtain⟨p0,p1⟩:=p;obtain⟨A0,c0,e0,l0,g0⟩:=h0;obtain⟨A1,c1,e1,l1,g1⟩:=h1;simp only at e0 e1;subst e0 e1;exact ut w t l0 g0 l1 g1
theorem tV {w:World}{t:S89}{p:Value×Value}(h0:IV .i64 w p.1 t.f0)(h1:IV .u64 w p.2 t.f1):k89.K w t [p.1,p.2]:=by
 obtain⟨p0,p1⟩:=p;obtain⟨A0,c0,e0,l0,g0⟩:=h0;obtain⟨A1,c1,e1,l1,g1⟩:=h1;simp only at e0 e1;subst e0 e1;exact tF w t l0 g0 l1 g1
section
variable {o:Oper} {a:Act} {W:World}
theorem yO {α:Type}(d:Kd α){w0:World}(base:Nat){s x:Operand}(t e:TypeId)(z:Value)(bytes:Nat)
 (ho:o.op=.call { callee:=.builtin .append,args:=#[s,x],argTypes:=#[t,t] })
 (ht:Tryz.prog.underlying t=some (.slice e)) (hinfo:(Tryz.prog.info? e).map (fun i=>(i.zero,i.size,i.bytes))=some (some z,d.sz,bytes)) (hz:z.cells.size=d.sz) (hs0:0<d.sz) (hb0:0<bytes)
 (v:Value) (xs ys:List α) (A:Option Addr) (m c:Nat) (ok:Nat->Prop) (hs:a.eval s=v) (hx:a.eval x=.slice A m c)
 (hflat:∀(W1:World) (ok':Nat->Prop) (q:α) (cs:List Value),d.K W q cs->d.M W1 base ok' q cs)
 (hfresh:∀ k,W.heap.size<=k->ok k)
 (HO:d.R e W base ok v xs) (HR:d.C W A m ys) (HB:Below base w0 W) (hbase:base<=W.heap.size) (hl:(xs.length+m)*bytes<=140737488355328):
 ∃ v1 w1,(execOp a.eval o).run Tryz.prog W=.ok (.value v1) w1/\d.R e w1 base ok v1 (xs++ys)/\Below base w0 w1/\W.grownBy w1 v.ownBlock/\(v1.ownBlock=v.ownBlock\/∃ b,v1.ownBlock=some b/\W.heap.size<=b):=by
 obtain⟨v1,w1,hr,ho1,hb1,hg1,hat1⟩:=pF (P:=Tryz.prog) d (w0:=w0) base t o.type e z bytes ht hinfo hz hs0 hb0 v xs ys A m c ok hflat hfresh HO HR HB hbase hl;refine⟨v1,w1,?_,ho1,hb1,hg1,hat1⟩;unfold execOp;simp only[ho,resolve,invoke,builtin,Sem.run_bind,Sem.run_pure,Result.andThen_ok,List.map_toArray,List.map_cons,List.map_nil,hs,hx,hr]
theorem gQ {α:Type}{Q:Exit->Act->World->Prop}{K:Act->World->Prop}(d:Kd α){w0:World}(base:Nat){s x:Operand}(t e:TypeId)(z:Value)(bytes:Nat)
 (ho:o.op=.call { callee:=.builtin .append,args:=#[s,x],argTypes:=#[t,t] })
 (ht:Tryz.prog.underlying t=some (.slice e)) (hinfo:(Tryz.prog.info? e).map (fun i=>(i.zero,i.size,i.bytes))=some (some z,d.sz,bytes)) (hz:z.cells.size=d.sz) (hs0:0<d.sz) (hb0:0<bytes)
 (v:Value) (xs ys:List α) (A:Option Addr) (m c:Nat) (ok:Nat->Prop) (hs:a.eval s=v) (hx:a.eval x=.slice A m c)
 (hflat:∀(W1:World) (ok':Nat->Prop) (q:α) (cs:List Value),d.K W q cs->d.M W1 base ok' q cs)
 (hfresh:∀ k,W.heap.size<=k->ok k)
 (HO:d.R e W base ok v xs) (HR:d.C W A m ys) (HB:Below base w0 W) (hbase:base<=W.heap.size) (hl:(xs.length+m)*bytes<=140737488355328)
 (h:∀ v1 w1,d.R e w1 base ok v1 (xs++ys)->Below base w0 w1->W.grownBy w1 v.ownBlock->(v1.ownBlock=v.ownBlock\/∃ b,v1.ownBlock=some b/\W.heap.size<=b)->K (a.put o.dst v1) w1):Oper.wp Tryz.prog o a W K Q:=by
 obtain⟨v1,w1,hr,h1,h2,h3,h4⟩:=yO d base t e z bytes ho ht hinfo hz hs0 hb0 v xs ys A m c ok hs hx hflat hfresh HO HR HB hbase hl;exact af hr (h v1 w1 h1 h2 h3 h4)
end
end
end Go.Proofs.YtglikkmmbdnmbaaGreat.Im

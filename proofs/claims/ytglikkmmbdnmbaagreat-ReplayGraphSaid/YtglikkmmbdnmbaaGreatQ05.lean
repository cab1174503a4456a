/- The graph: what it is (plain), what each act does, and how the program's graph lies. -/
import Derived.Test.YtglikkmmbdnmbaaGreatQ04
import Derived.Defers
import Derived.Recover
import Derived.StillTailTactics
import Derived.BigQuiet
set_option maxHeartbeats 8000000
set_option maxRecDepth 100000
namespace Go.Proofs.YtglikkmmbdnmbaaGreat.Im
open Go.RowKit Q7
open YtglikkmmbdnmbaaGreat.Own PCan Wv
set_option linter.unusedVariables false
set_option linter.unusedSimpArgs false
section
abbrev LL:=List Int×List Int
structure Gm where
 T:List LL
 G:List Int
 O:List LL
def atI {α:Type}(l:List α)(i:Int):Option α:=if 0<=i then l[i.toNat]? else none
theorem lc {α:Type}(l:List α)(i:Nat):atI l (i:Int)=l[i]?:=by unfold atI;rw[if_pos (by omega)];rfl
theorem dC {α:Type}{l:List α}{i:Int}{x:α}(h:atI l i=some x):∃ k:Nat,i=(k:Int)/\l[k]? =some x/\k<l.length:=by
 unfold atI at h
 split at h
 . exact⟨i.toNat,by omega,h,(List.getElem?_eq_some_iff.1 h).1⟩
 . cases h
theorem gY {α:Type}{l:List α}{i:Int}(h:atI l i=none):i<0\/(l.length:Int)<=i:=by
 unfold atI at h
 split at h
 . rw[List.getElem?_eq_none_iff]at h;omega
 . omega
def bV (M:Gm)(t i:Int):Option Int:=(atI M.T t).bind fun th=>atI th.1 i
def iA (M:Gm)(t i x:Int):Gm:={ M with T:=M.T.modify t.toNat fun th=>(th.1.set i.toNat x,th.2) }
def jo (M:Gm)(t i:Int):Except Int Nat:=match bV M t i with
 |none=>.error 2
 |some x=>if x=0 then .error 5 else .ok (x.toNat - 1)
def refsOf (M:Gm)(o:Nat):List Int:=(M.O.getD o ([],[])).1
def bf (M:Gm)(o:Nat):List Int:=(M.O.getD o ([],[])).2
def nZ (M:Gm)(t i k:Int):Except Int Nat:=match jo M t i with
 |.error e=>.error e
 |.ok o=>if 0<=k/\k<(refsOf M o).length then .ok o else .error 2
def mM (M:Gm)(t i k:Int):Except Int Nat:=match jo M t i with
 |.error e=>.error e
 |.ok o=>if 0<=k/\k<(bf M o).length then .ok o else .error 2
def iw (M:Gm)(o k:Nat)(x:Int):Gm:={ M with O:=M.O.modify o fun p=>(p.1.set k x,p.2) }
def ik (M:Gm)(o k:Nat)(x:Int):Gm:={ M with O:=M.O.modify o fun p=>(p.1,p.2.set k x) }
def lF (M:Gm)(r s:Nat):Gm:={ M with O:=M.O++[(List.replicate r 0,List.replicate s 0)] }
def bM (M:Gm)(t d r s:Int):Gm×Int×Int:=match bV M t d with
 |none=>(M,0,2)
 |some _=>if 0<=r/\r<=s/\s<=95 then(iA (lF M r.toNat (s - r).toNat) t d (M.O.length+1),M.O.length+1,0)else(M,0,2)
def gq (M:Gm)(t d s k:Int):Gm×Int×Int:=match bV M t d with
 |none=>(M,0,2)
 |some _=>match nZ M t s k with
  |.error e=>(M,0,e)
  |.ok o=>(iA M t d ((refsOf M o).getD k.toNat 0),(refsOf M o).getD k.toNat 0,0)
def fP (M:Gm)(t o k v:Int):Gm×Int×Int:=match bV M t v with
 |none=>(M,0,2)
 |some x=>match nZ M t o k with
  |.error e=>(M,0,e)
  |.ok b=>(iw M b k.toNat x,0,0)
def bW (M:Gm)(t o k:Int):Gm×Int×Int:=match mM M t o k with
 |.error e=>(M,0,e)
 |.ok b=>(M,(bf M b).getD k.toNat 0,0)
def dM (M:Gm)(t o k v:Int):Gm×Int×Int:=match mM M t o k with
 |.error e=>(M,0,e)
 |.ok b=>(ik M b k.toNat v,0,0)
def iP (M:Gm)(t d i:Int):Gm×Int×Int:=match bV M t d with
 |none=>(M,0,2)
 |some _=>match atI M.G i with
  |none=>(M,0,2)
  |some x=>(iA M t d x,x,0)
def jk (M:Gm)(t i v:Int):Gm×Int×Int:=match bV M t v with
 |none=>(M,0,2)
 |some x=>match atI M.G i with
  |none=>(M,0,2)
  |some _=>({ M with G:=M.G.set i.toNat x },0,0)
def moveF (M:Gm)(t d s:Int):Gm×Int×Int:=match bV M t d with
 |none=>(M,0,2)
 |some _=>match bV M t s with
  |none=>(M,0,2)
  |some x=>(iA M t d x,0,0)
def il (M:Gm)(t d:Int):Gm×Int×Int:=match bV M t d with
 |none=>(M,0,2)
 |some _=>(iA M t d 0,0,0)
def setK (M:Gm)(t:Int)(k:List Int):Gm:={ M with T:=M.T.modify t.toNat fun th=>(th.1,k) }
def gK (M:Gm)(t i:Int):Gm×Int×Int:=match atI M.T t with
 |none=>(M,0,2)
 |some th=>match atI th.1 i with
  |none=>(M,0,2)
  |some x=>if th.2.length=16 then(M,0,4)else(setK M t (th.2++[x]),0,0)
def je (M:Gm)(t i:Int):Gm×Int×Int:=match atI M.T t with
 |none=>(M,0,2)
 |some th=>match atI th.1 i with
  |none=>(M,0,2)
  |some _=>match th.2.getLast? with
   |none=>(M,0,5)
   |some x=>(iA (setK M t th.2.dropLast) t i x,0,0)
def ku (M:Gm)(t i:Int):Gm×Int×Int:=match bV M t i with
 |none=>(M,0,2)
 |some x=>(M,x,0)
def kK (n:Nat)(l:List Int):Prop:=∀ x∈l,0<=x/\x<=(n:Int)
structure ThOk (n:Nat)(t:LL):Prop where
 s1:1<=t.1.length
 s8:t.1.length<=8
 k:t.2.length<=16
 rs:kK n t.1
 rk:kK n t.2
structure ObOk (n:Nat)(t:LL):Prop where
 size:t.1.length+t.2.length<=95
 rs:kK n t.1
 ds:∀ x∈t.2,(Lit.int .u64 x).wf=true
structure Gwf (M:Gm):Prop where
 t1:1<=M.T.length
 t64:M.T.length<=64
 g8:M.G.length<=8
 o:M.O.length<=1000
 ts:∀ t∈M.T,ThOk M.O.length t
 gs:kK M.O.length M.G
 os:∀ t∈M.O,ObOk M.O.length t
theorem kK.mono {n m:Nat}{l:List Int}(h:kK n l)(hn:n<=m):kK m l:=fun x hx=>⟨(h x hx).1,by have:=(h x hx).2;omega⟩
theorem kK.set {n:Nat}{l:List Int}(h:kK n l)(i:Nat){x:Int}(hx:0<=x/\x<=(n:Int)):kK n (l.set i x):=fun y hy=>by
 rcases List.mem_or_eq_of_mem_set hy with hy|rfl
 . exact h y hy
 . exact hx
theorem mem_modify {α:Type}{l:List α}{i:Nat}{f:α->α}{y:α}(h:y∈l.modify i f):y∈l\/∃ x∈l,y=f x:=by
 obtain⟨j,hj⟩:=List.mem_iff_getElem?.1 h;rw[List.getElem?_modify]at hj;cases e:l[j]? with
 |none=>rw[e]at hj;simp at hj
 |some x=>
  rw[e]at hj;have hx:x∈l:=List.mem_iff_getElem?.2 ⟨j,e⟩;have hj':(if i=j then f x else x)=y:=by simpa using hj
  by_cases hij:i=j
  . rw[if_pos hij]at hj';exact .inr ⟨x,hx,hj'.symm⟩
  . rw[if_neg hij]at hj';exact .inl (hj'▸hx)
theorem Gwf.slot {M:Gm}(h:Gwf M){t i x:Int}(hs:bV M t i=some x):0<=x/\x<=(M.O.length:Int):=by
 unfold bV at hs;cases ht:atI M.T t with
 |none=>rw[ht]at hs;cases hs
 |some th=>
  rw[ht]at hs;obtain⟨k,_,hk,_⟩:=dC ht;obtain⟨j,_,hj,_⟩:=dC (show atI th.1 i=some x from hs)
  exact(h.ts th (List.mem_iff_getElem?.2 ⟨k,hk⟩)).rs x (List.mem_iff_getElem?.2 ⟨j,hj⟩)
theorem Gwf.vw {M:Gm}(h:Gwf M)(t i:Int){x:Int}(hx:0<=x/\x<=(M.O.length:Int)):Gwf (iA M t i x):=by
 refine⟨by show 1<=(M.T.modify _ _).length;rw[List.length_modify];exact h.t1,by show(M.T.modify _ _).length<=64;rw[List.length_modify];exact h.t64,h.g8,h.o,fun th hth=>?_,h.gs,h.os⟩
 rcases mem_modify hth with hth|⟨u,hu,rfl⟩
 . exact h.ts th hth
 . have k:=h.ts u hu;exact⟨by show 1<=(u.1.set _ _).length;rw[List.length_set];exact k.s1,by show(u.1.set _ _).length<=8;rw[List.length_set];exact k.s8,k.k,k.rs.set _ hx,k.rk⟩
theorem Gwf.zX {M:Gm}(h:Gwf M)(t:Int){l:List Int}(hl:l.length<=16)(hk:kK M.O.length l):Gwf (setK M t l):=by
 refine⟨by show 1<=(M.T.modify _ _).length;rw[List.length_modify];exact h.t1,by show(M.T.modify _ _).length<=64;rw[List.length_modify];exact h.t64,h.g8,h.o,fun th hth=>?_,h.gs,h.os⟩
 rcases mem_modify hth with hth|⟨u,hu,rfl⟩
 . exact h.ts th hth
 . have k:=h.ts u hu;exact⟨k.s1,k.s8,hl,k.rs,hk⟩
theorem Gwf.vZ {M:Gm}(h:Gwf M)(o k:Nat){x:Int}(hx:0<=x/\x<=(M.O.length:Int)):Gwf (iw M o k x):=by
 have e:(iw M o k x).O.length=M.O.length:=List.length_modify ..;refine⟨h.t1,h.t64,h.g8,by rw[e];exact h.o,by rw[e];exact h.ts,by rw[e];exact h.gs,fun p hp=>?_⟩
 rw[e]
 rcases mem_modify hp with hp|⟨u,hu,rfl⟩
 . exact h.os p hp
 . have k:=h.os u hu;exact⟨by show(u.1.set _ _).length+_<=95;rw[List.length_set];exact k.size,k.rs.set _ hx,k.ds⟩
theorem Gwf.zU {M:Gm}(h:Gwf M)(n:Nat){x:Int}(hx:0<=x/\x<=(M.O.length:Int)):Gwf { M with G:=M.G.set n x }:=⟨h.t1,h.t64,by show(M.G.set n x).length<=8;rw[List.length_set];exact h.g8,h.o,h.ts,h.gs.set n hx,h.os⟩
theorem Gwf.wo {M:Gm}(h:Gwf M)(o k:Nat){x:Int}(hx:(Lit.int .u64 x).wf=true):Gwf (ik M o k x):=by
 have e:(ik M o k x).O.length=M.O.length:=List.length_modify ..;refine⟨h.t1,h.t64,h.g8,by rw[e];exact h.o,by rw[e];exact h.ts,by rw[e];exact h.gs,fun p hp=>?_⟩
 rw[e]
 rcases mem_modify hp with hp|⟨u,hu,rfl⟩
 . exact h.os p hp
 . have k:=h.os u hu;refine⟨by show _+(u.2.set _ _).length<=95;rw[List.length_set];exact k.size,k.rs,fun y hy=>?_⟩
   rcases List.mem_or_eq_of_mem_set hy with hy|rfl
   . exact k.ds y hy
   . exact hx
theorem Gwf.yj {M:Gm}(h:Gwf M){r s:Nat}(hr:r+s<=95)(ho:M.O.length<1000):Gwf (lF M r s):=by
 have e:(lF M r s).O.length=M.O.length+1:=by show(M.O++[_]).length=_;simp
 refine⟨h.t1,h.t64,h.g8,by rw[e];omega,fun t ht=>?_,by rw[e];exact h.gs.mono (Nat.le_succ _),fun p hp=>?_⟩
 . rw[e];have k:=h.ts t ht;exact⟨k.s1,k.s8,k.k,k.rs.mono (Nat.le_succ _),k.rk.mono (Nat.le_succ _)⟩
 . rw[e]
   rcases List.mem_append.1 hp with hp|hp
   . have k:=h.os p hp;exact⟨k.size,k.rs.mono (Nat.le_succ _),k.ds⟩
   . obtain rfl:=List.mem_singleton.1 hp;refine⟨by simpa using hr,fun x hx=>?_,fun x hx=>?_⟩
     . have:=(List.mem_replicate.1 hx).2;omega
     . have:=(List.mem_replicate.1 hx).2;subst this
       decide
structure fq (cs:List Value)(t:LL):Prop where
 len:cs.length=26
 sl:∀(i:Nat) (x:Int),t.1[i]? =some x->cs[i]? =some (.int .i64 x)
 n:cs[8]? =some (.int .i64 (t.1.length:Int))
 st:∀(i:Nat) (x:Int),t.2[i]? =some x->cs[9+i]? =some (.int .i64 x)
 deep:cs[25]? =some (.int .i64 (t.2.length:Int))
structure Ob where
 o:Nat
 r:Nat
 d:Nat
structure Gw where
 bT:Nat
 cT:Nat
 bG:Nat
 gm:Nat
 bs:List Nat
 obs:List Ob
def Rp:Value->Option (DataW Unit×List MemPlace)
 |.pointer (some ⟨b,0,none⟩)=>some (.lit (.int .i64 (b:Int)),[])
 |.pointer none=>some (.lit (.int .i64 (-1)),[])
 |_=>none
theorem uf {v:Value}{z:DataW Unit×List MemPlace}{b:Nat}(h:Rp v=some z)(hz:z.1=.lit (.int .i64 (b:Int))):v=.pointer (some ⟨b,0,none⟩):=by
 unfold Rp at h
 split at h
 . obtain rfl:=Option.some.inj h;injection hz with hz
   injection hz with _ hz
   obtain rfl:=Int.ofNat.inj hz;rfl
 . obtain rfl:=Option.some.inj h;injection hz with hz
   injection hz with _ hz
   omega
 . cases h
def ObD (os:List Nat)(D:DataW Unit):Prop:=Maps.Tidy D/\Maps.size D=os.length/\(∀ x:Int,Maps.has D (.int .i64 x)=decide (1<=x/\x<=(os.length:Int)))/\∀(i b:Nat),os[i]? =some b->D.atKey (.int .i64 ((i:Int)+1)) (.lit (.int .i64 (-1)))=.lit (.int .i64 (b:Int))
theorem zz:ObD [] (.map []):=⟨Maps.tidy_empty,rfl,fun x=>by rw[yd (by simp;omega)];rfl,fun i b h=>by simp at h⟩
theorem zH {os:List Nat}{D:DataW Unit}(h:ObD os D){b:Nat}(ht:Maps.Tidy (D.put (.int .i64 ((os.length:Int)+1)) (.lit (.int .i64 (b:Int))))):ObD (os++[b]) (D.put (.int .i64 ((os.length:Int)+1)) (.lit (.int .i64 (b:Int)))):=by
 have hk:WideAt.IsKeyLit (.int .i64 ((os.length:Int)+1)):=trivial;have hh:Maps.has D (.int .i64 ((os.length:Int)+1))=false:=by rw[h.2.2.1,yd (by omega)]
 refine⟨ht,?_,fun x=>?_,fun i c hi=>?_⟩
 . rw[Maps.size_put h.1,hh,h.2.1];simp
 . by_cases e:x=(os.length:Int)+1
   . subst e;rw[Maps.has_put_same h.1.isMap hk,yb (by simp;omega)]
   . rw[Maps.has_put_other (fun e2=>e (by injection e2)),h.2.2.1 x]
     simp only[List.length_append,List.length_singleton];exact decide_eq_decide.2 (by omega)
 . by_cases e:i=os.length
   . subst e;rw[Maps.atKey_put_same h.1.isMap hk];have:b=c:=by simpa using hi
     rw[this]
   . have hl:i<os.length:=by
      have:=(List.getElem?_eq_some_iff.1 hi).1;rw[List.length_append,List.length_singleton]at this;omega
     rw[List.getElem?_append_left hl]at hi;rw[Maps.atKey_put_other (fun e2=>e (by injection e2;omega)),h.2.2.2 i c hi]
abbrev Iv (l:List Int):List Value:=l.map (.int .i64)
abbrev Uv (l:List Int):List Value:=l.map (.int .u64)
structure GL (F:Nat->Prop)(W:World)(g:Nat)(x:Gw)(M:Gm):Prop where
 hg:Holds W g 69 [.slice (some ⟨x.bT,0,none⟩) M.T.length x.cT,.slice (some ⟨x.bG,0,none⟩) M.G.length M.G.length,.map (some x.gm)]
 hT:∃ cs,Holds W x.bT 70 cs/\∀(i b:Nat),x.bs[i]? =some b->cs[i]? =some (.pointer (some ⟨b,0,none⟩))
 hG:Holds W x.bG 3 (Iv M.G)
 hM:∃ D,W.ownsMap Tryz.prog 3 Rp x.gm M.O.length D/\ObD (x.obs.map Ob.o) D
 lT:x.bs.length=M.T.length
 lO:x.obs.length=M.O.length
 th:∀(i b:Nat) (t:LL),x.bs[i]? =some b->M.T[i]? =some t->∃ cs,Holds W b 119 cs/\fq cs t
 ob:∀(i:Nat) (o:Ob) (t:LL),x.obs[i]? =some o->M.O[i]? =some t->Holds W o.o 126 [.slice (some ⟨o.r,0,none⟩) t.1.length t.1.length,.slice (some ⟨o.d,0,none⟩) t.2.length t.2.length]/\Holds W o.r 3 (Iv t.1)/\Holds W o.d 31 (Uv t.2)
 fp:F g/\F x.bT/\F x.bG/\F x.gm/\(∀ b∈x.bs,F b)/\∀ o∈x.obs,F o.o/\F o.r/\F o.d
 ns:x.bs.Nodup
 no:(x.obs.map Ob.o).Nodup
 nr:(x.bG :: x.obs.map Ob.r).Nodup
 nd:(x.obs.map Ob.d).Nodup
 wf:Gwf M
 lt:∀ q,F q->q<W.heap.size
theorem dH {W W':World}{k b n:Nat}{R:Value->Option (DataW Unit×List MemPlace)}{D:DataW Unit}(h:W.ownsMap Tryz.prog k R b n D)(hb:W'.heap[b]? =W.heap[b]?):W'.ownsMap Tryz.prog k R b n D:=by
 obtain⟨es,clock,h1,h2⟩:=h;exact⟨es,clock,hb.trans h1,h2⟩
section
variable {F:Nat→Prop} {W W':World} {g:Nat} {x:Gw} {M:Gm}
theorem GL.same (h:GL F W g x M)(hz:W.heap.size<=W'.heap.size)(hs:∀ q,F q->q<W.heap.size->W'.heap[q]? =W.heap[q]?):GL F W' g x M:=by
 have hh:∀{q t:Nat} {cs:List Value},F q->Holds W q t cs->Holds W' q t cs:=fun hq hc=>(hs _ hq hc.lt).trans hc
 obtain⟨f1,f2,f3,f4,f5,f6⟩:=h.fp;refine⟨hh f1 h.hg,?_,hh f3 h.hG,?_,h.lT,h.lO,fun i b t hb ht=>?_,fun i o t ho ht=>?_,h.fp,h.ns,h.no,h.nr,h.nd,h.wf,fun q hq=>Nat.lt_of_lt_of_le (h.lt q hq) hz⟩
 . obtain⟨cs,hc,hk⟩:=h.hT;exact⟨cs,hh f2 hc,hk⟩
 . obtain⟨D,hD,hO⟩:=h.hM;exact⟨D,dH hD (hs _ f4 hD.lt),hO⟩
 . obtain⟨cs,hc,hk⟩:=h.th i b t hb ht;exact⟨cs,hh (f5 b (List.mem_iff_getElem?.2 ⟨i,hb⟩)) hc,hk⟩
 . obtain⟨h1,h2,h3⟩:=h.ob i o t ho ht;obtain⟨e1,e2,e3⟩:=f6 o (List.mem_iff_getElem?.2 ⟨i,ho⟩);exact⟨hh e1 h1,hh e2 h2,hh e3 h3⟩
theorem GL.kp (h:GL F W g x M){S:Nat->Prop}(hk:Kp S W W')(hS:∀ q,F q->q<W.heap.size->¬ S q):GL F W' g x M:=h.same hk.size (fun q hq hl=>hk.block q hl (hS q hq hl))
theorem GL.below (h:GL F W g x M)(hb:Below W.heap.size W W'):GL F W' g x M:=h.same hb.size (fun q _ hl=>hb.block q hl)
end
end
section
def errV (e:Int):Value:=.iface 26 (.int .i64 e)
def iQ (e:Int):List PanicEntry:=[{ v:=errV e,recovered:=false }]
theorem gu (e:Int)(w:World):Calls Tryz.prog 61 #[.bool true,.int .i64 e] w fun x w'=>x=.returned (.tuple #[])/\w'=w:=by
 go_enter Tryz.func61,Tryz.ntmps61;go_wp2_with fail;exact⟨rfl,_,results_none rfl _ _ _,rfl,rfl⟩
theorem jq (e:Int)(w:World):Calls Tryz.prog 61 #[.bool false,.int .i64 e] w fun x w'=>x=.panicked (iQ e)/\w'=w:=by
 have hpn:∀(w:World) (v:Value),(Instr.panic (.iface 26 v)).run Tryz.prog w=.halt (.panic (.iface 26 v)) w:=fun _ _=>rfl
 go_enter Tryz.func61,Tryz.ntmps61;go_wp2_with fail;exact⟨rfl,rfl,rfl⟩
section
variable {b:Nat} {cs:List Value} {t:LL} {w:World}
theorem tq (hc:Holds w b 119 cs)(ht:fq cs t)(k:Nat)(hlt:k<t.1.length)(hl:t.1.length<=8):
 Calls Tryz.prog 95 #[.pointer (some ⟨b,0,none⟩),.int .i64 (k:Int)] w fun x w'=>x=.returned (.tuple #[.pointer (some ⟨b,k,none⟩),.int .i64 0])/\w'=w:=by
 have x8:w.cell? ⟨b,8,none⟩=some (.int .i64 (t.1.length:Int)):=(hc.cell 8).trans ht.n;have q1:decide ((k:Int)<0)=false:=yd (by omega)
 have q2:decide ((k:Int)>=(t.1.length:Int))=false:=yd (by omega)
 have q2':decide ((t.1.length:Int)<=(k:Int))=false:=yd (by omega)
 have q2'':decide (t.1.length<=k)=false:=yd (by omega)
 have q3:(0:Int)<=(k:Int):=by omega
 have q4:(k:Int)<8:=by omega
 clear ht hc;go_enter Tryz.func95,Tryz.ntmps95;go_wp2_with fail
 go_ret2
 exact⟨rfl,rfl⟩
theorem xJ (hc:Holds w b 119 cs)(ht:fq cs t)(i:Int)(hi:atI t.1 i=none):
 Calls Tryz.prog 95 #[.pointer (some ⟨b,0,none⟩),.int .i64 i] w fun x w'=>x=.returned (.tuple #[.pointer none,.int .i64 2])/\w'=w:=by
 have x8:w.cell? ⟨b,8,none⟩=some (.int .i64 (t.1.length:Int)):=(hc.cell 8).trans ht.n;have h:=gY hi;clear ht hc hi
 by_cases h0:i<0
 . have q1:decide (i<0)=true:=yb h0;clear h h0;go_enter Tryz.func95,Tryz.ntmps95;go_wp2_with fail
   go_ret2
   exact⟨rfl,rfl⟩
 . have q1:decide (i<0)=false:=yd h0;have q2:decide (i>=(t.1.length:Int))=true:=yb (by omega)
   have q2':decide ((t.1.length:Int)<=i)=true:=yb (by omega)
   clear h h0;go_enter Tryz.func95,Tryz.ntmps95;go_wp2_with fail
   go_ret2
   exact⟨rfl,rfl⟩
theorem Cy (hc:Holds w b 119 cs)(ht:fq cs t)(k:Nat)(y:Int)(hk:t.1[k]? =some y)(hl:t.1.length<=8):
 Calls Tryz.prog 93 #[.pointer (some ⟨b,0,none⟩),.int .i64 (k:Int)] w fun x w'=>x=.returned (.tuple #[.int .i64 y,.int .i64 0])/\w'=w:=by
 have xk:w.cell? ⟨b,k,none⟩=some (.int .i64 y):=(hc.cell k).trans (ht.sl k y hk);have HC:=Y (tq hc ht k (List.getElem?_eq_some_iff.1 hk).1 hl);clear ht hc hk;go_enter Tryz.func93,Tryz.ntmps93;go_wp2_with (go_at_call 95;refine HC.out.mono ?_;rintro e w2 ⟨rfl,rfl⟩)
 go_ret2
 exact⟨rfl,rfl⟩
theorem c93_no (hc:Holds w b 119 cs)(ht:fq cs t)(i:Int)(hi:atI t.1 i=none):
 Calls Tryz.prog 93 #[.pointer (some ⟨b,0,none⟩),.int .i64 i] w fun x w'=>x=.returned (.tuple #[.int .i64 0,.int .i64 2])/\w'=w:=by
 have HC:=Y (xJ hc ht i hi);clear ht hc hi;go_enter Tryz.func93,Tryz.ntmps93;go_wp2_with (go_at_call 95;refine HC.out.mono ?_;rintro e w2 ⟨rfl,rfl⟩)
 go_ret2
 exact⟨rfl,rfl⟩
theorem fq.set {cs:List Value}{t:LL}(h:fq cs t){k:Nat}(hk:k<t.1.length)(h8:t.1.length<=8)(x:Int):fq (cs.set k (.int .i64 x)) (t.1.set k x,t.2):=by
 refine⟨by rw[List.length_set];exact h.len,fun i y hi=>?_,?_,fun i y hi=>?_,?_⟩
 . have hi':(t.1.set k x)[i]? =some y:=hi
   by_cases e:k=i
   . subst e;rw[List.getElem?_set_self hk]at hi';rw[List.getElem?_set_self (by rw[h.len];omega)]
     injection hi' with hi'
     rw[hi']
   . rw[List.getElem?_set_ne e]at hi' ⊢;exact h.sl i y hi'
 . rw[List.getElem?_set_ne (by omega)]
   show _=some (Value.int .i64 (((t.1.set k x).length:Nat):Int))
   rw[List.length_set];exact h.n
 . rw[List.getElem?_set_ne (by omega)]
   exact h.st i y hi
 . rw[List.getElem?_set_ne (by omega)]
   exact h.deep
theorem Bp (cs:List Value)(k:Nat)(v:Value)(h:k<cs.length):splice cs k [v]=cs.set k v:=by
 unfold splice;rw[List.set_eq_take_append_cons_drop,if_pos h];simp
theorem bB {W:World}{g t:Nat}{cs:List Value}(h:Holds W g t cs){k:Nat}(hk:k<cs.length)(v:Value):Holds (W.setCell ⟨g,k,none⟩ v) g t (cs.set k v):=by
 have h1:=eX (vs:=[v]) h (show k+[v].length<=cs.length by simp;omega)
 rw[Bp cs k v hk]at h1;exact h1
theorem bu (W:World)(g k:Nat)(v:Value):bH W (W.setCell ⟨g,k,none⟩ v) g:=dR W g k [v]
theorem xq (hc:Holds w b 119 cs)(ht:fq cs t)(k:Nat)(x:Int)(hlt:k<t.1.length)(hl:t.1.length<=8)(hx:0<=x):
 Calls Tryz.prog 94 #[.pointer (some ⟨b,0,none⟩),.int .i64 (k:Int),.int .i64 x] w fun e w'=>e=.returned (.int .i64 0)/\bH w w' b/\∃ cs',Holds w' b 119 cs'/\fq cs' (t.1.set k x,t.2):=by
 obtain⟨y,hy⟩:∃ y,t.1[k]? =some y:=⟨_,List.getElem?_eq_getElem hlt⟩;have HC:=Y (tq hc ht k hlt hl);have xk:=(hc.cell k).trans (ht.sl k _ hy);have zk:=ak hc k;have HCC:=Y hc;have HT:=Y ht;have q1:decide (x<0)=false:=yd (by omega)
 have HLT:=Y (show k<cs.length by rw[ht.len];omega)
 have HL2:=Y (And.intro hlt hl);clear ht hc hlt hl hx hy;go_enter Tryz.func94,Tryz.ntmps94;go_wp2_with (go_at_call 95;refine HC.out.mono ?_;rintro e w2 ⟨rfl,rfl⟩)
 go_ret
 exact⟨rfl,bu _ _ _ _,_,bB HCC.out HLT.out _,HT.out.set HL2.out.1 HL2.out.2 x⟩
end
section
variable {F:Nat→Prop} {w:World} {g:Nat} {x:Gw} {M:Gm}
theorem GL.thr (h:GL F w g x M){k:Nat}{th:LL}(hk:M.T[k]? =some th):∃ b cs,x.bs[k]? =some b/\w.cell? ⟨x.bT,k,none⟩=some (.pointer (some ⟨b,0,none⟩))/\Holds w b 119 cs/\fq cs th/\ThOk M.O.length th:=by
 have hlt:k<x.bs.length:=by rw[h.lT];exact(List.getElem?_eq_some_iff.1 hk).1
 have hb:=List.getElem?_eq_getElem hlt;obtain⟨cs,h1,h2⟩:=h.th k _ th hb hk;obtain⟨ct,h3,h4⟩:=h.hT;exact⟨_,cs,hb,(h3.cell k).trans (h4 k _ hb),h1,h2,h.wf.ts th (List.mem_iff_getElem?.2 ⟨k,hk⟩)⟩
theorem GL.x0 (h:GL F w g x M):w.cell? ⟨g,0,none⟩=some (.slice (some ⟨x.bT,0,none⟩) M.T.length x.cT):=(h.hg.cell 0).trans rfl
theorem GL.x1 (h:GL F w g x M):w.cell? ⟨g,1,none⟩=some (.slice (some ⟨x.bG,0,none⟩) M.G.length M.G.length):=(h.hg.cell 1).trans rfl
theorem GL.x2 (h:GL F w g x M):w.cell? ⟨g,2,none⟩=some (.map (some x.gm)):=(h.hg.cell 2).trans rfl
theorem qF (h:GL F w g x M)(k b:Nat)(hlt:k<M.T.length)(xT:w.cell? ⟨x.bT,k,none⟩=some (.pointer (some ⟨b,0,none⟩))):
 Calls Tryz.prog 66 #[.pointer (some ⟨g,0,none⟩),.int .i64 (k:Int)] w fun e w'=>e=.returned (.pointer (some ⟨b,0,none⟩))/\w'=w:=by
 have x0:=h.x0;have q1:decide ((k:Int)>=0)=true:=yb (by omega)
 have q1':decide (0<=(k:Int))=true:=yb (by omega)
 have q2:decide ((k:Int)<(M.T.length:Int))=true:=yb (by omega)
 have q2':decide (k<M.T.length)=true:=yb (by omega)
 have q3:(0:Int)<=(k:Int):=by omega
 have q4:(k:Int)<(M.T.length:Int):=by omega
 clear h;go_enter Tryz.func66,Tryz.ntmps66;go_wp2_with (go_at_call 61;refine(gu _ _).mono ?_;rintro e w2 ⟨rfl,rfl⟩)
 go_ret
 exact⟨rfl,rfl⟩
theorem uP (h:GL F w g x M)(i:Int)(hi:atI M.T i=none):
 Calls Tryz.prog 66 #[.pointer (some ⟨g,0,none⟩),.int .i64 i] w fun e w'=>e=.panicked (iQ 2)/\w'=w:=by
 have x0:=h.x0;have hn:=gY hi;have r2:∀ b,b=false->Calls Tryz.prog 61 #[.bool b,.int .i64 2] w fun x w'=>x=.panicked (iQ 2)/\w'=w:=fun b hb=>hb▸jq 2 w
 clear h hi
 by_cases h0:i<0
 . have q1:decide (i>=0)=false:=yd (by omega)
   have q1':decide (0<=i)=false:=yd (by omega)
   clear hn h0;go_enter Tryz.func66,Tryz.ntmps66;go_wp2_with (go_at_call 61;first|(refine(r2 _ rfl).mono ?_;rintro e w2 ⟨rfl,rfl⟩)|(refine(gu _ _).mono ?_;rintro e w2 ⟨rfl,rfl⟩))
   exact⟨rfl,rfl,rfl⟩
 . have q1:decide (i>=0)=true:=yb (by omega)
   have q1':decide (0<=i)=true:=yb (by omega)
   have q2:decide (i<(M.T.length:Int))=false:=yd (by omega)
   clear hn h0;go_enter Tryz.func66,Tryz.ntmps66;go_wp2_with (go_at_call 61;first|(refine(r2 _ rfl).mono ?_;rintro e w2 ⟨rfl,rfl⟩)|(refine(gu _ _).mono ?_;rintro e w2 ⟨rfl,rfl⟩))
   exact⟨rfl,rfl,rfl⟩
end
end
section
section
variable {F:Nat→Prop} {w:World} {g:Nat} {x:Gw} {M:Gm}
theorem jF (h:GL F w g x M)(t i y:Int)(hs:bV M t i=some y):
 Calls Tryz.prog 60 #[.pointer (some ⟨g,0,none⟩),.int .i64 t,.int .i64 i] w fun e w'=>e=.returned (.int .i64 y)/\w'=w:=by
 unfold bV at hs;cases ht:atI M.T t with
 |none=>rw[ht]at hs;cases hs
 |some th=>
  rw[ht]at hs;obtain⟨k,rfl,hk,hlt⟩:=dC ht;obtain⟨j,rfl,hj,_⟩:=dC (show atI th.1 i=some y from hs)
  obtain⟨b,cs,hb,xT,hc,htc,hok⟩:=h.thr hk;have HA:=Y (qF h k b hlt xT);have HB:=Y (Cy hc htc j y hj hok.s8);clear hs ht hk hj hb xT hc htc hok h hlt;go_enter Tryz.func60,Tryz.ntmps60;go_wp2_with (first|(go_at_call 66;refine HA.out.mono ?_;rintro e w2 ⟨rfl,rfl⟩)|(go_at_call 93;refine HB.out.mono ?_;rintro e w2 ⟨rfl,rfl⟩)|(go_at_call 61;refine(gu _ _).mono ?_;rintro e w2 ⟨rfl,rfl⟩))
  go_ret
  exact⟨rfl,rfl⟩
theorem kF (h:GL F w g x M)(t i:Int)(hs:bV M t i=none):
 Calls Tryz.prog 60 #[.pointer (some ⟨g,0,none⟩),.int .i64 t,.int .i64 i] w fun e w'=>e=.panicked (iQ 2)/\w'=w:=by
 unfold bV at hs;cases ht:atI M.T t with
 |none=>
  have HA:=Y (uP h t ht);clear hs ht h;go_enter Tryz.func60,Tryz.ntmps60;go_wp2_with (go_at_call 66;refine HA.out.mono ?_;rintro e w2 ⟨rfl,rfl⟩);exact⟨rfl,rfl,rfl⟩
 |some th=>
  rw[ht]at hs;obtain⟨k,rfl,hk,hlt⟩:=dC ht;obtain⟨b,cs,hb,xT,hc,htc,hok⟩:=h.thr hk;have HA:=Y (qF h k b hlt xT);have HB:=Y (c93_no hc htc i hs);clear hs ht hk hb xT hc htc hok h hlt;go_enter Tryz.func60,Tryz.ntmps60;go_wp2_with (first|(go_at_call 66;refine HA.out.mono ?_;rintro e w2 ⟨rfl,rfl⟩)|(go_at_call 93;refine HB.out.mono ?_;rintro e w2 ⟨rfl,rfl⟩)|(go_at_call 61;refine(jq _ _).mono ?_;rintro e w2 ⟨rfl,rfl⟩))
  exact⟨rfl,rfl,rfl⟩
theorem wf_i64 {y:Int}(h: -9223372036854775808<=y/\y<9223372036854775808):(Lit.int .i64 y).wf=true:=by
 simp [Lit.wf,IntKind.min,IntKind.max,IntKind.bits,IntKind.signed];omega
theorem ask_okb (b:Bool)(hb:b=true)(e:Int)(w:World):Calls Tryz.prog 61 #[.bool b,.int .i64 e] w fun x w'=>x=.returned (.tuple #[])/\w'=w:=hb▸gu e w
theorem GL.obj (h:GL F w g x M){o:Nat}(ho:o<M.O.length):∃ p:Ob,x.obs[o]? =some p/\Holds w p.o 126 [.slice (some ⟨p.r,0,none⟩) (refsOf M o).length (refsOf M o).length,.slice (some ⟨p.d,0,none⟩) (bf M o).length (bf M o).length]/\Holds w p.r 3 (Iv (refsOf M o))/\Holds w p.d 31 (Uv (bf M o))/\ObOk M.O.length (refsOf M o,bf M o):=by
 have hlt:o<x.obs.length:=by rw[h.lO];exact ho
 have e:M.O.getD o ([],[])=M.O[o]:=by rw[List.getD_eq_getElem?_getD,List.getElem?_eq_getElem ho];rfl
 have h1:=h.ob o _ _ (List.getElem?_eq_getElem hlt) (List.getElem?_eq_getElem ho);have h2:=h.wf.os _ (List.getElem_mem ho);unfold refsOf bf;rw[e];exact⟨_,List.getElem?_eq_getElem hlt,h1.1,h1.2.1,h1.2.2,h2⟩
theorem GL.look (h:GL F w g x M){y:Int}(hy:1<=y/\y<=(M.O.length:Int)){p:Ob}(hp:x.obs[y.toNat - 1]? =some p):(Instr.lookup 66 (.map (some x.gm)) (.int .i64 y) false).run Tryz.prog w=.ok (.pointer (some ⟨p.o,0,none⟩)) w:=by
 obtain⟨D,hD,hO⟩:=h.hM
 have hwf:(Lit.int .i64 y).wf=true:=by
  have:=h.wf.o;exact wf_i64 (by omega)
 obtain⟨v,ps,hrun,hv⟩:=hD.lookup (t:=66) (e:=124) (Maps.int_keyed Tryz.underlying3) Tryz.underlying66 (z:=.pointer none) (Tryz.zeroValue124 _) (zd:=.lit (.int .i64 (-1))) (zp:=[]) rfl (Maps.keyOf_int_mk Tryz.underlying3 hwf);have h4:=hO.2.2.2 (y.toNat - 1) p.o (by rw[List.getElem?_map,hp];rfl)
 rw[show((y.toNat - 1:Nat):Int)+1=y by omega]at h4
 rw[h4]at hv;rw[hrun,uf hv rfl]
theorem uT {M:Gm}{t i:Int}{o:Nat}(h:jo M t i=.ok o):∃ y:Int,bV M t i=some y/\y≠0/\o=y.toNat - 1:=by
 unfold jo at h
 split at h
 . cases h
 . rename_i y hy
   split at h
   . cases h
   . injection h with h
     exact⟨y,hy,by assumption,h.symm⟩
theorem jU {M:Gm}{t i e:Int}(h:jo M t i=.error e):(bV M t i=none/\e=2)\/(bV M t i=some 0/\e=5):=by
 unfold jo at h
 split at h
 . rename_i hs
   injection h with h
   exact .inl ⟨hs,h.symm⟩
 . rename_i y hy
   split at h
   . rename_i h0
     injection h with h
     exact .inr ⟨by rw[hy,h0],h.symm⟩
   . cases h
theorem fK (hw:Gwf M){t i:Int}{o:Nat}(h:jo M t i=.ok o):o<M.O.length:=by
 obtain⟨y,hy,h0,rfl⟩:=uT h;have:=hw.slot hy;omega
theorem o8 (h:GL F w g x M)(t i:Int)(o:Nat)(p:Ob)(ho:jo M t i=.ok o)(hp:x.obs[o]? =some p):
 Calls Tryz.prog 63 #[.pointer (some ⟨g,0,none⟩),.int .i64 t,.int .i64 i] w fun e w'=>e=.returned (.pointer (some ⟨p.o,0,none⟩))/\w'=w:=by
 obtain⟨y,hy,h0,rfl⟩:=uT ho;have HA:=Y (jF h t i y hy);have x2:=h.x2;have hlk:=h.look (by have:=h.wf.slot hy;omega) hp
 have q1:decide (y=0)=false:=yd h0;have q2:decide (y≠0)=true:=yb h0;have HN:=Y h0;clear h hy hp ho h0;go_enter Tryz.func63,Tryz.ntmps63;go_wp2_with (first|(go_at_call 60;refine HA.out.mono ?_;rintro e w2 ⟨rfl,rfl⟩)|(go_at_call 61;refine(ask_okb _ (by have:=HN.out;simp[this]) _ _).mono ?_;rintro e w2 ⟨rfl,rfl⟩))
 go_ret
 exact⟨rfl,rfl⟩
theorem xL (h:GL F w g x M)(t i e:Int)(ho:jo M t i=.error e):
 Calls Tryz.prog 63 #[.pointer (some ⟨g,0,none⟩),.int .i64 t,.int .i64 i] w fun r w'=>r=.panicked (iQ e)/\w'=w:=by
 rcases jU ho with⟨hs,rfl⟩|⟨hs,rfl⟩
 . have HA:=Y (kF h t i hs);clear h hs ho;go_enter Tryz.func63,Tryz.ntmps63;go_wp2_with (go_at_call 60;refine HA.out.mono ?_;rintro e w2 ⟨rfl,rfl⟩);exact⟨rfl,rfl,rfl⟩
 . have HA:=Y (jF h t i 0 hs);clear h hs ho;go_enter Tryz.func63,Tryz.ntmps63;go_wp2_with (first|(go_at_call 60;refine HA.out.mono ?_;rintro e w2 ⟨rfl,rfl⟩)|(go_at_call 61;refine(jq _ _).mono ?_;rintro e w2 ⟨rfl,rfl⟩))
   exact⟨rfl,rfl,rfl⟩
theorem rA {M:Gm}{t i k:Int}{o:Nat}(h:mM M t i k=.ok o):jo M t i=.ok o/\∃ n:Nat,k=(n:Int)/\n<(bf M o).length:=by
 unfold mM at h
 split at h
 . cases h
 . rename_i o' ho
   split at h
   . injection h with h
     subst h;exact⟨ho,k.toNat,by omega,by omega⟩
   . cases h
theorem qb {M:Gm}{t i k e:Int}(h:mM M t i k=.error e):jo M t i=.error e\/∃ o,jo M t i=.ok o/\e=2/\¬ (0<=k/\k<(bf M o).length):=by
 unfold mM at h
 split at h
 . rename_i e' he
   injection h with h
   subst h;exact .inl he
 . rename_i o' ho
   split at h
   . cases h
   . rename_i hn
     injection h with h
     exact .inr ⟨o',ho,h.symm,hn⟩
theorem rE {M:Gm}{t i k:Int}{o:Nat}(h:nZ M t i k=.ok o):jo M t i=.ok o/\∃ n:Nat,k=(n:Int)/\n<(refsOf M o).length:=by
 unfold nZ at h
 split at h
 . cases h
 . rename_i o' ho
   split at h
   . injection h with h
     subst h;exact⟨ho,k.toNat,by omega,by omega⟩
   . cases h
theorem nC {M:Gm}{t i k e:Int}(h:nZ M t i k=.error e):jo M t i=.error e\/∃ o,jo M t i=.ok o/\e=2/\¬ (0<=k/\k<(refsOf M o).length):=by
 unfold nZ at h
 split at h
 . rename_i e' he
   injection h with h
   subst h;exact .inl he
 . rename_i o' ho
   split at h
   . cases h
   . rename_i hn
     injection h with h
     exact .inr ⟨o',ho,h.symm,hn⟩
theorem Cs (h:GL F w g x M)(t i:Int)(n o:Nat)(p:Ob)(ho:jo M t i=.ok o)(hn:n<(bf M o).length)(hp:x.obs[o]? =some p):
 Calls Tryz.prog 64 #[.pointer (some ⟨g,0,none⟩),.int .i64 t,.int .i64 i,.int .i64 (n:Int)] w fun e w'=>e=.returned (.pointer (some ⟨p.d,n,none⟩))/\w'=w:=by
 have HA:=Y (o8 h t i o p ho hp);obtain⟨p',hp',h1,_⟩:=h.obj (fK h.wf ho);obtain rfl:p=p':=by rw[hp]at hp';injection hp'
 have x1:=(h1.cell 1).trans rfl;have q1:decide ((n:Int)>=0)=true:=yb (by omega)
 have q1':decide (0<=(n:Int))=true:=yb (by omega)
 have q2:decide ((n:Int)<((bf M o).length:Int))=true:=yb (by omega)
 have q2':decide (n<(bf M o).length)=true:=yb (by omega)
 have q3:(0:Int)<=(n:Int):=by omega
 have q4:(n:Int)<((bf M o).length:Int):=by omega
 clear h ho hp hp' h1;go_enter Tryz.func64,Tryz.ntmps64;go_wp2_with (first|(go_at_call 63;refine HA.out.mono ?_;rintro e w2 ⟨rfl,rfl⟩)|(go_at_call 61;refine(gu _ _).mono ?_;rintro e w2 ⟨rfl,rfl⟩))
 go_ret
 exact⟨rfl,rfl⟩
theorem Cm (h:GL F w g x M)(t i k e:Int)(ho:mM M t i k=.error e):
 Calls Tryz.prog 64 #[.pointer (some ⟨g,0,none⟩),.int .i64 t,.int .i64 i,.int .i64 k] w fun r w'=>r=.panicked (iQ e)/\w'=w:=by
 rcases qb ho with hs|⟨o,hs,rfl,hk⟩
 . have HA:=Y (xL h t i e hs);clear h hs ho;go_enter Tryz.func64,Tryz.ntmps64;go_wp2_with (go_at_call 63;refine HA.out.mono ?_;rintro e w2 ⟨rfl,rfl⟩);exact⟨rfl,rfl,rfl⟩
 . obtain⟨p,hp,h1,_⟩:=h.obj (fK h.wf hs);have HA:=Y (o8 h t i o p hs hp);have x1:=(h1.cell 1).trans rfl;have r2:∀ b,b=false->Calls Tryz.prog 61 #[.bool b,.int .i64 2] w fun x w'=>x=.panicked (iQ 2)/\w'=w:=fun b hb=>hb▸jq 2 w
   clear h ho hp h1 hs
   by_cases h0:k<0
   . have q1:decide (k>=0)=false:=yd (by omega)
     have q1':decide (0<=k)=false:=yd (by omega)
     clear hk h0;go_enter Tryz.func64,Tryz.ntmps64;go_wp2_with (first|(go_at_call 63;refine HA.out.mono ?_;rintro e w2 ⟨rfl,rfl⟩)|(go_at_call 61;refine(r2 _ rfl).mono ?_;rintro e w2 ⟨rfl,rfl⟩))
     exact⟨rfl,rfl,rfl⟩
   . have q1:decide (k>=0)=true:=yb (by omega)
     have q1':decide (0<=k)=true:=yb (by omega)
     have q2:decide (k<((bf M o).length:Int))=false:=yd (by omega)
     clear hk h0;go_enter Tryz.func64,Tryz.ntmps64;go_wp2_with (first|(go_at_call 63;refine HA.out.mono ?_;rintro e w2 ⟨rfl,rfl⟩)|(go_at_call 61;refine(r2 _ rfl).mono ?_;rintro e w2 ⟨rfl,rfl⟩))
     exact⟨rfl,rfl,rfl⟩
theorem D5 (h:GL F w g x M)(n:Nat)(hn:n<M.G.length):
 Calls Tryz.prog 65 #[.pointer (some ⟨g,0,none⟩),.int .i64 (n:Int)] w fun e w'=>e=.returned (.pointer (some ⟨x.bG,n,none⟩))/\w'=w:=by
 have x1:=h.x1;have q1:decide ((n:Int)>=0)=true:=yb (by omega)
 have q1':decide (0<=(n:Int))=true:=yb (by omega)
 have q2:decide ((n:Int)<(M.G.length:Int))=true:=yb (by omega)
 have q2':decide (n<M.G.length)=true:=yb (by omega)
 have q3:(0:Int)<=(n:Int):=by omega
 have q4:(n:Int)<(M.G.length:Int):=by omega
 clear h;go_enter Tryz.func65,Tryz.ntmps65;go_wp2_with (go_at_call 61;refine(gu _ _).mono ?_;rintro e w2 ⟨rfl,rfl⟩)
 go_ret
 exact⟨rfl,rfl⟩
theorem Cw (h:GL F w g x M)(k:Int)(hk:atI M.G k=none):
 Calls Tryz.prog 65 #[.pointer (some ⟨g,0,none⟩),.int .i64 k] w fun r w'=>r=.panicked (iQ 2)/\w'=w:=by
 have x1:=h.x1;have hn:=gY hk;have r2:∀ b,b=false->Calls Tryz.prog 61 #[.bool b,.int .i64 2] w fun x w'=>x=.panicked (iQ 2)/\w'=w:=fun b hb=>hb▸jq 2 w
 clear h hk
 by_cases h0:k<0
 . have q1:decide (k>=0)=false:=yd (by omega)
   have q1':decide (0<=k)=false:=yd (by omega)
   clear hn h0;go_enter Tryz.func65,Tryz.ntmps65;go_wp2_with (go_at_call 61;refine(r2 _ rfl).mono ?_;rintro e w2 ⟨rfl,rfl⟩);exact⟨rfl,rfl,rfl⟩
 . have q1:decide (k>=0)=true:=yb (by omega)
   have q1':decide (0<=k)=true:=yb (by omega)
   have q2:decide (k<(M.G.length:Int))=false:=yd (by omega)
   clear hn h0;go_enter Tryz.func65,Tryz.ntmps65;go_wp2_with (go_at_call 61;refine(r2 _ rfl).mono ?_;rintro e w2 ⟨rfl,rfl⟩);exact⟨rfl,rfl,rfl⟩
end
end
section
theorem CF (ge:Nat)(w:World):
 CallsD Tryz.prog 59 #[.pointer (some ⟨ge,0,none⟩)] .returning w fun e u' w'=>e=.returned (.tuple #[])/\u'=.returning/\Below w.heap.size w w':=by
 refine callsD_of_wpS Tryz.func59 rfl fun c₀ cs hu=>?_
 apply wpS_seq;apply wpS_region;simp [wpOpsS,go_sem,recoverD,hu,Tryz.ntmps59,Exit.thenS];refine wpS_of_wp ?_;have hne:∀(w:World),(binOp .neq 20 .nilIface .nilIface).run Tryz.prog w=.ok (.bool false) w:=fun _=>by kernel_rfl
 rw[show(#[Value.pointer (some ⟨ge,0,none⟩)]++(((Array.replicate 18 undef).setIfInBounds 4 Value.nilIface).setIfInBounds 1 Value.nilIface))=#[Value.pointer (some ⟨ge,0,none⟩),undef,.nilIface,undef,undef,.nilIface,undef,undef,undef,undef,undef,undef,undef,undef,undef,undef,undef,undef,undef] by kernel_rfl]
 go_wp2
 simp [bodyPostS,results,Tryz.results59];exact⟨.returning,by cases c₀;cases hu;rfl,rfl,zc⟩
theorem vg (ge:Nat)(e:Int)(w:World)(b:Int)(h3:Holds w ge 26 [.int .i64 b]):
 CallsD Tryz.prog 59 #[.pointer (some ⟨ge,0,none⟩)] (.panicking (iQ e)) w fun r u' w'=>r=.returned (.tuple #[])/\u'=.panicking [{ v:=errV e,recovered:=true }]/\bH w w' ge/\Holds w' ge 26 [.int .i64 e]:=by
 refine callsD_of_wpS Tryz.func59 rfl fun c₀ cs hu=>?_
 apply wpS_seq;apply wpS_region;simp [wpOpsS,go_sem,recoverD,hu,Tryz.ntmps59,Exit.thenS,iQ];refine wpS_of_wp ?_;have hta:∀(w:World),(Instr.typeAssert (.iface 26 (.int .i64 e)) 20 26 true).run Tryz.prog w=.ok (.tuple #[.int .i64 e,.bool true]) w:=fun _=>by kernel_rfl
 have hne:∀(w:World),(binOp .neq 20 (.iface 26 (.int .i64 e)) .nilIface).run Tryz.prog w=.ok (.bool true) w:=fun _=>by kernel_rfl
 rw[show(#[Value.pointer (some ⟨ge,0,none⟩)]++(((Array.replicate 18 undef).setIfInBounds 4 (errV e)).setIfInBounds 1 (errV e)))=#[Value.pointer (some ⟨ge,0,none⟩),undef,.iface 26 (.int .i64 e),undef,undef,.iface 26 (.int .i64 e),undef,undef,undef,undef,undef,undef,undef,undef,undef,undef,undef,undef,undef] by kernel_rfl]
 have z3:=(h3.cell 0).trans rfl;have z4:=ak h3 0;have H3:=Y h3;clear h3;go_wp2_with fail;simp [bodyPostS,results,Tryz.results59];exact⟨bu _ _ _ _,bB H3.out (by show 0<1;decide) _⟩
end
section
theorem bX {W W':World}(S:Nat->Prop)(h:Below W.heap.size W W'):Kp S W W':=⟨h.os,h.tape,h.output,h.size,fun k hk _=>h.block k hk⟩
theorem bR {W W':World}{g:Nat}(h:bH W W' g):Kp (fun q=>q=g) W W':=⟨h.os,h.tape,h.output,Nat.le_of_eq h.size.symm,fun k _ hk=>h.block k hk⟩
theorem eH {W:World}{a b t t':Nat}{cs cs':List Value}(h:Holds W a t cs)(k:Holds W b t' cs')(ht:t≠t'):a≠b:=fun e=>by
 subst e;have:=h.symm.trans k;injection this with this
 injection this with _ this
 exact ht this
theorem iN {W:World}{a t k b n:Nat}{cs:List Value}{R:Value->Option (DataW Unit×List MemPlace)}{D:DataW Unit}(h:Holds W a t cs)(hD:W.ownsMap Tryz.prog k R b n D):b≠a:=fun e=>by
 subst e;obtain⟨es,clock,hb,_⟩:=hD;rw[show W.heap[b]? =_ from h]at hb
 injection hb with hb
 cases hb
theorem nP {α β:Type}{l:List α}{f:α->β}(h:(l.map f).Nodup){i j:Nat}{a b:α}(ha:l[i]? =some a)(hb:l[j]? =some b)(hij:i≠j):f a≠f b:=fun e=>by
 obtain⟨h1,e1⟩:=List.getElem?_eq_some_iff.1 ha;obtain⟨h2,e2⟩:=List.getElem?_eq_some_iff.1 hb;have:=(List.nodup_iff_pairwise_ne.1 h);rw[List.pairwise_iff_getElem]at this
 rcases Nat.lt_or_gt_of_ne hij with hlt|hgt
 . refine this i j (by simpa using h1) (by simpa using h2) hlt ?_
   rw[List.getElem_map,List.getElem_map,e1,e2,e]
 . refine this j i (by simpa using h2) (by simpa using h1) hgt ?_
   rw[List.getElem_map,List.getElem_map,e1,e2,e]
section
variable {F:Nat→Prop} {w w':World} {g:Nat} {x:Gw} {M M':Gm}
theorem GL.xY (h:GL F w g x M){k b:Nat}{cs':List Value}{t':LL}(hb:x.bs[k]? =some b)(hs:bH w w' b)(hc:Holds w' b 119 cs')(htc:fq cs' t')(hT:∀ i,M'.T[i]? =if k=i then some t' else M.T[i]?)(hl:M'.T.length=M.T.length)(hG:M'.G=M.G)(hO:M'.O=M.O)(hw:Gwf M'):GL F w' g x M':=by
 obtain⟨th,hth⟩:∃ th,M.T[k]? =some th:=⟨_,List.getElem?_eq_getElem (by rw[<-h.lT];exact(List.getElem?_eq_some_iff.1 hb).1)⟩
 obtain⟨cs,hc0,_⟩:=h.th k b th hb hth;have hh:∀{q t:Nat} {cs:List Value},t≠119->Holds w q t cs->Holds w' q t cs:=fun ht hq=>hs.holds hq (eH hq hc0 ht)
 refine⟨by rw[hl,hG];exact hh (by decide) h.hg,?_,by rw[hG];exact hh (by decide) h.hG,?_,by rw[hl];exact h.lT,by rw[hO];exact h.lO,fun i b' t hb' ht=>?_,fun i o t ho ht=>?_,h.fp,h.ns,h.no,h.nr,h.nd,hw,fun q hq=>by rw[hs.size];exact h.lt q hq⟩
 . obtain⟨cs,hc,hk⟩:=h.hT;exact⟨cs,hh (by decide) hc,hk⟩
 . obtain⟨D,hD,hO2⟩:=h.hM;exact⟨D,by rw[hO];exact dH hD (hs.block _ (iN hc0 hD)),hO2⟩
 . rw[hT i]at ht
   by_cases e:k=i
   . rw[if_pos e]at ht;obtain rfl:=Option.some.inj ht;subst e;rw[hb]at hb';obtain rfl:=Option.some.inj hb';exact⟨cs',hc,htc⟩
   . rw[if_neg e]at ht;obtain⟨cs2,h1,h2⟩:=h.th i b' t hb' ht;exact⟨cs2,hs.holds h1 (nP (f:=id) (by simpa using h.ns) hb' hb (fun e2=>e e2.symm)),h2⟩
 . rw[hO]at ht;obtain⟨h1,h2,h3⟩:=h.ob i o t ho ht;exact⟨hh (by decide) h1,hh (by decide) h2,hh (by decide) h3⟩
theorem GL.setG (h:GL F w g x M)(hs:bH w w' x.bG)(hc:Holds w' x.bG 3 (Iv M'.G))(hT:M'.T=M.T)(hl:M'.G.length=M.G.length)(hO:M'.O=M.O)(hw:Gwf M'):GL F w' g x M':=by
 have hh:∀{q t:Nat} {cs:List Value},t≠3->Holds w q t cs->Holds w' q t cs:=fun ht hq=>hs.holds hq (eH hq h.hG ht)
 refine⟨by rw[hT,hl];exact hh (by decide) h.hg,?_,hc,?_,by rw[hT];exact h.lT,by rw[hO];exact h.lO,fun i b' t hb' ht=>?_,fun i o t ho ht=>?_,h.fp,h.ns,h.no,h.nr,h.nd,hw,fun q hq=>by rw[hs.size];exact h.lt q hq⟩
 . obtain⟨cs,hc,hk⟩:=h.hT;exact⟨cs,hh (by decide) hc,hk⟩
 . obtain⟨D,hD,hO2⟩:=h.hM;exact⟨D,by rw[hO];exact dH hD (hs.block _ (iN h.hG hD)),hO2⟩
 . rw[hT]at ht;obtain⟨cs,h1,h2⟩:=h.th i b' t hb' ht;exact⟨cs,hh (by decide) h1,h2⟩
 . rw[hO]at ht;obtain⟨h1,h2,h3⟩:=h.ob i o t ho ht;have hne:o.r≠x.bG:=fun e=>(List.nodup_cons.1 h.nr).1 (by rw[<-e];exact List.mem_map_of_mem (List.mem_iff_getElem?.2 ⟨i,ho⟩))
   exact⟨hh (by decide) h1,hs.holds h2 hne,hh (by decide) h3⟩
theorem gD {α:Type}(l:List α)(f:α->α)(k i:Nat){a:α}(h:l[k]? =some a):(l.modify k f)[i]? =if k=i then some (f a)else l[i]?:=by
 rw[List.getElem?_modify]
 by_cases e:k=i
 . subst e;rw[h];simp
 . simp only[e,if_false];cases l[i]?<;>rfl
theorem lv {M:Gm}{o:Nat}(ho:o<M.O.length):M.O[o]? =some (refsOf M o,bf M o):=by
 have e:M.O.getD o ([],[])=M.O[o]:=by rw[List.getD_eq_getElem?_getD,List.getElem?_eq_getElem ho];rfl
 unfold refsOf bf;rw[e,List.getElem?_eq_getElem ho]
theorem GL.iw (h:GL F w g x M){o n:Nat}{p:Ob}{y:Int}(hp:x.obs[o]? =some p)(hn:n<(refsOf M o).length)(hy:0<=y/\y<=(M.O.length:Int)):GL F (w.setCell ⟨p.r,n,none⟩ (.int .i64 y)) g x (iw M o n y):=by
 have ho:o<M.O.length:=by rw[<-h.lO];exact(List.getElem?_eq_some_iff.1 hp).1
 obtain⟨p',hp',h1,h2,h3,hok⟩:=h.obj ho;obtain rfl:p=p':=by rw[hp]at hp';injection hp'
 have hs:=bu w p.r n (.int .i64 y);have hc:=bB h2 (k:=n) (by simpa using hn) (.int .i64 y)
 have hh:∀{q t:Nat} {cs:List Value},t≠3->Holds w q t cs->Holds (w.setCell ⟨p.r,n,none⟩ (.int .i64 y)) q t cs:=fun ht hq=>hs.holds hq (eH hq h2 ht)
 have hO:(Im.iw M o n y).O.length=M.O.length:=List.length_modify ..;refine⟨hh (by decide) h.hg,?_,hs.holds h.hG (fun e=>(List.nodup_cons.1 h.nr).1 (by rw[e];exact List.mem_map_of_mem (List.mem_iff_getElem?.2 ⟨o,hp⟩))),?_,h.lT,by rw[hO];exact h.lO,fun i b' t hb' ht=>?_,fun i o' t ho' ht=>?_,h.fp,h.ns,h.no,h.nr,h.nd,h.wf.vZ o n hy,fun q hq=>by rw[hs.size];exact h.lt q hq⟩
 . obtain⟨cs,hc,hk⟩:=h.hT;exact⟨cs,hh (by decide) hc,hk⟩
 . obtain⟨D,hD,hO2⟩:=h.hM;exact⟨D,by rw[hO];exact dH hD (hs.block _ (iN h2 hD)),hO2⟩
 . obtain⟨cs,k1,k2⟩:=h.th i b' t hb' ht;exact⟨cs,hh (by decide) k1,k2⟩
 . rw[show(Im.iw M o n y).O[i]? =_ from gD M.O _ o i (lv ho)]at ht
   by_cases e:o=i
   . rw[if_pos e]at ht;subst e;obtain rfl:=Option.some.inj ht;rw[hp]at ho';obtain rfl:=Option.some.inj ho';refine⟨by rw[List.length_set];exact hh (by decide) h1,?_,hh (by decide) h3⟩
     show Holds _ _ _ (List.map _ (List.set _ _ _))
     rw[List.map_set];exact hc
   . rw[if_neg e]at ht;obtain⟨k1,k2,k3⟩:=h.ob i o' t ho' ht;exact⟨hh (by decide) k1,hs.holds k2 (nP (List.nodup_cons.1 h.nr).2 ho' hp (fun e2=>e e2.symm)),hh (by decide) k3⟩
theorem GL.ik (h:GL F w g x M){o n:Nat}{p:Ob}{y:Int}(hp:x.obs[o]? =some p)(hn:n<(bf M o).length)(hy:(Lit.int .u64 y).wf=true):GL F (w.setCell ⟨p.d,n,none⟩ (.int .u64 y)) g x (ik M o n y):=by
 have ho:o<M.O.length:=by rw[<-h.lO];exact(List.getElem?_eq_some_iff.1 hp).1
 obtain⟨p',hp',h1,h2,h3,hok⟩:=h.obj ho;obtain rfl:p=p':=by rw[hp]at hp';injection hp'
 have hs:=bu w p.d n (.int .u64 y);have hc:=bB h3 (k:=n) (by simpa using hn) (.int .u64 y)
 have hh:∀{q t:Nat} {cs:List Value},t≠31->Holds w q t cs->Holds (w.setCell ⟨p.d,n,none⟩ (.int .u64 y)) q t cs:=fun ht hq=>hs.holds hq (eH hq h3 ht)
 have hO:(Im.ik M o n y).O.length=M.O.length:=List.length_modify ..;refine⟨hh (by decide) h.hg,?_,hh (by decide) h.hG,?_,h.lT,by rw[hO];exact h.lO,fun i b' t hb' ht=>?_,fun i o' t ho' ht=>?_,h.fp,h.ns,h.no,h.nr,h.nd,h.wf.wo o n hy,fun q hq=>by rw[hs.size];exact h.lt q hq⟩
 . obtain⟨cs,hc,hk⟩:=h.hT;exact⟨cs,hh (by decide) hc,hk⟩
 . obtain⟨D,hD,hO2⟩:=h.hM;exact⟨D,by rw[hO];exact dH hD (hs.block _ (iN h3 hD)),hO2⟩
 . obtain⟨cs,k1,k2⟩:=h.th i b' t hb' ht;exact⟨cs,hh (by decide) k1,k2⟩
 . rw[show(Im.ik M o n y).O[i]? =_ from gD M.O _ o i (lv ho)]at ht
   by_cases e:o=i
   . rw[if_pos e]at ht;subst e;obtain rfl:=Option.some.inj ht;rw[hp]at ho';obtain rfl:=Option.some.inj ho';refine⟨by rw[List.length_set];exact hh (by decide) h1,hh (by decide) h2,?_⟩
     show Holds _ _ _ (List.map _ (List.set _ _ _))
     rw[List.map_set];exact hc
   . rw[if_neg e]at ht;obtain⟨k1,k2,k3⟩:=h.ob i o' t ho' ht;exact⟨hh (by decide) k1,hh (by decide) k2,hs.holds k3 (nP h.nd ho' hp (fun e2=>e e2.symm))⟩
theorem GL.addOb (h:GL F w g x M)(hl:M.O.length<1000){r s:Nat}(hrs:r+s<=95){w1:World}{p:Ob}(hb:Below w.heap.size w w1)(hp:w.heap.size<=p.o/\w.heap.size<=p.r/\w.heap.size<=p.d)
 (h1:Holds w1 p.o 126 [.slice (some ⟨p.r,0,none⟩) r r,.slice (some ⟨p.d,0,none⟩) s s]) (h2:Holds w1 p.r 3 (List.replicate r (.int .i64 0))) (h3:Holds w1 p.d 31 (List.replicate s (.int .u64 0)))
 {D:DataW Unit} (hD0:w1.ownsMap Tryz.prog 3 Rp x.gm M.O.length D) (hO:ObD (x.obs.map Ob.o) D) (hD:w'.ownsMap Tryz.prog 3 Rp x.gm (M.O.length+1) (D.put (.int .i64 ((M.O.length:Int)+1)) (.lit (.int .i64 (p.o:Int))))) (hg:w1.grownBy w' (some x.gm)):
 GL (fun q=>F q\/q=p.o\/q=p.r\/q=p.d) w' g { x with obs:=x.obs++[p] } (lF M r s)/\Kp F w w':=by
 have hne:∀{q t:Nat} {cs:List Value},Holds w1 q t cs->Holds w' q t cs:=fun hq=>(hg.block _ hq.lt (fun e=>by injection e with e;exact iN hq hD0 e.symm)).trans hq
 have hh:∀{q t:Nat} {cs:List Value},Holds w q t cs->Holds w' q t cs:=fun hq=>hne (hq.below hb)
 obtain⟨f1,f2,f3,f4,f5,f6⟩:=h.fp;have hlO:(lF M r s).O.length=M.O.length+1:=by show(M.O++[_]).length=_;simp
 have hlt:∀{i:Nat} {o:Ob},x.obs[i]? =some o->o.o<w.heap.size/\o.r<w.heap.size/\o.d<w.heap.size:=fun {i o} ho=>by
  have hi:i<M.O.length:=by rw[<-h.lO];exact(List.getElem?_eq_some_iff.1 ho).1
  obtain⟨k1,k2,k3⟩:=h.ob i o _ ho (List.getElem?_eq_getElem hi);exact⟨k1.lt,k2.lt,k3.lt⟩
 have hlm:∀{o:Ob},o∈x.obs->o.o<w.heap.size/\o.r<w.heap.size/\o.d<w.heap.size:=fun ho=>by
  obtain⟨i,hi⟩:=List.mem_iff_getElem?.1 ho;exact hlt hi
 refine⟨⟨hh h.hg,?_,hh h.hG,?_,h.lT,by rw[hlO];show(x.obs++[p]).length=_;simp[h.lO],fun i b' t hb' ht=>?_,fun i o' t ho' ht=>?_,⟨.inl f1,.inl f2,.inl f3,.inl f4,fun b hb=>.inl (f5 b hb),fun o ho=>?_⟩,h.ns,?_,?_,?_,h.wf.yj hrs hl,fun q hq=>?_⟩,?_⟩
 . obtain⟨cs,hc,hk⟩:=h.hT;exact⟨cs,hh hc,hk⟩
 . have e:(x.obs.map Ob.o).length=M.O.length:=by rw[List.length_map,h.lO]
   refine⟨_,by rw[hlO];exact hD,?_⟩
   rw[<-e]at hD ⊢;show ObD ((x.obs++[p]).map Ob.o) _
   rw[List.map_append];exact zH hO (hD.tidy (Maps.int_keyed Tryz.underlying3))
 . obtain⟨cs,k1,k2⟩:=h.th i b' t hb' ht;exact⟨cs,hh k1,k2⟩
 . have ht':(M.O++[(List.replicate r 0,List.replicate s 0)])[i]? =some t:=ht;have ho2:(x.obs++[p])[i]? =some o':=ho'
   by_cases hi:i<M.O.length
   . rw[List.getElem?_append_left hi]at ht';rw[List.getElem?_append_left (by rw[h.lO];exact hi)]at ho2
     obtain⟨k1,k2,k3⟩:=h.ob i o' t ho2 ht';exact⟨hh k1,hh k2,hh k3⟩
   . have hi2:i=M.O.length:=by
      have:=(List.getElem?_eq_some_iff.1 ht').1;rw[List.length_append,List.length_singleton]at this;omega
     subst hi2;have e1:(List.replicate r 0,List.replicate s 0)=t:=by simpa using ht'
     have e2:p=o':=by rw[<-h.lO]at ho2;simpa using ho2
     subst e1 e2;refine⟨?_,?_,?_⟩
     . rw[List.length_replicate,List.length_replicate];exact hne h1
     . show Holds _ _ _ (List.map _ (List.replicate _ _));rw[List.map_replicate];exact hne h2
     . show Holds _ _ _ (List.map _ (List.replicate _ _));rw[List.map_replicate];exact hne h3
 . rcases List.mem_append.1 ho with ho|ho
   . obtain⟨e1,e2,e3⟩:=f6 o ho;exact⟨.inl e1,.inl e2,.inl e3⟩
   . obtain rfl:=List.mem_singleton.1 ho;exact⟨.inr (.inl rfl),.inr (.inr (.inl rfl)),.inr (.inr (.inr rfl))⟩
 . show((x.obs++[p]).map Ob.o).Nodup
   rw[List.map_append,List.nodup_append];refine⟨h.no,by simp,fun a ha b hb2 e=>?_⟩
   obtain⟨o,ho,rfl⟩:=List.mem_map.1 ha;have:=hlm ho;have:b=p.o:=by simpa using hb2
   omega
 . show(x.bG :: (x.obs++[p]).map Ob.r).Nodup
   rw[List.map_append,<-List.cons_append,List.nodup_append];refine⟨h.nr,by simp,fun a ha b hb2 e=>?_⟩
   have hb3:b=p.r:=by simpa using hb2
   rcases List.mem_cons.1 ha with rfl|ha
   . have:=h.hG.lt;omega
   . obtain⟨o,ho,rfl⟩:=List.mem_map.1 ha;have:=hlm ho;omega
 . show((x.obs++[p]).map Ob.d).Nodup
   rw[List.map_append,List.nodup_append];refine⟨h.nd,by simp,fun a ha b hb2 e=>?_⟩
   obtain⟨o,ho,rfl⟩:=List.mem_map.1 ha;have:=hlm ho;have:b=p.d:=by simpa using hb2
   omega
 . have z:=hg.size;have z2:=hb.size
   rcases hq with hq|rfl|rfl|rfl
   . have:=h.lt q hq;omega
   . have:=h1.lt;omega
   . have:=h2.lt;omega
   . have:=h3.lt;omega
 . exact(bX F hb).trans (Kp.jQ hg) (fun q hq e=>by injection e with e;subst e;exact f4)
end
def GStep (F:Nat->Prop)(w:World)(g:Nat)(M':Gm)(w':World):Prop:=∃ F' x',GL F' w' g x' M'/\Kp F w w'/\∀ q,F' q->F q\/w.heap.size<=q
def dfe (ge:Nat):List Deferred:=[{ target:=.fn (.func 59) #[],args:=#[.pointer (some ⟨ge,0,none⟩)] }]
theorem GStep.refl {F:Nat->Prop}{w w':World}{g:Nat}{x:Gw}{M:Gm}(h:GL F w' g x M)(hb:Kp F w w'):GStep F w g M w':=⟨F,x,h,hb,fun _ h=>.inl h⟩
theorem jD {R:Ending->World->Prop}{a:Act}{W:World}{fn:Func}{ge:Nat}{e b:Int}{v:Value}(hd:a.defers=dfe ge)(h3:Holds W ge 26 [.int .i64 b])(hres:∀ W',Holds W' ge 26 [.int .i64 e]->(results fn a.tmps).run Tryz.prog W'=.ok v W')(hR:∀ W',bH W W' ge->R (.returned v) W'):bodyPostD Tryz.prog fn R (.panic (iQ e)) a W:=by
 show Leaves Tryz.prog fn a.tmps R a.defers (.panicking (iQ e)) W
 rw[hd];refine leaves_cons (f:=59) (args:=#[.pointer (some ⟨ge,0,none⟩)]) (by simp) (by simp[go_sem]) ?_
 refine(vg ge e W b h3).mono ?_;rintro r u' w'' ⟨rfl,rfl,hs,hh⟩;exact⟨_,hres _ hh,hR _ hs⟩
theorem mq {R:Ending->World->Prop}{a:Act}{W:World}{fn:Func}{ge:Nat}{e:Int}{v:Value}(hd:a.defers=dfe ge)(h3:Holds W ge 26 [.int .i64 e])(hres:∀ W',Holds W' ge 26 [.int .i64 e]->(results fn a.tmps).run Tryz.prog W'=.ok v W')(hR:∀ W',Below W.heap.size W W'->R (.returned v) W'):bodyPostD Tryz.prog fn R .ret a W:=by
 show Leaves Tryz.prog fn a.tmps R a.defers .returning W
 rw[hd];refine leaves_cons (f:=59) (args:=#[.pointer (some ⟨ge,0,none⟩)]) (by simp) (by simp[go_sem]) ?_
 refine(CF ge W).mono ?_;rintro r u' w'' ⟨rfl,rfl,hb⟩;exact⟨_,hres _ (h3.below hb),hR _ hb⟩
theorem gV {fn:Func}{t u ge:Nat}{tmps:Array Value}{e:Int}{v:Value}(hr:fn.results=#[.tmp t,.cell u 26])(hu:tmps.getD u undef=.pointer (some ⟨ge,0,none⟩))(hv:tmps.getD t undef=v)(W':World)(h:Holds W' ge 26 [.int .i64 e]):(results fn tmps).run Tryz.prog W'=.ok (.tuple #[v,.int .i64 e]) W':=by
 have hu':tmps[u]?.getD undef=.pointer (some ⟨ge,0,none⟩):=by simpa using hu
 have hv':tmps[t]?.getD undef=v:=by simpa using hv
 have x3:W'.cell? ⟨ge,0,none⟩=some (.int .i64 e):=(h.cell 0).trans rfl
 have e3:(loadVar 26 ⟨ge,0,none⟩).run Tryz.prog W'=.ok (.int .i64 e) W':=by
  simp [loadVar,isAgg,Sem.run_bind,run_underlying Tryz.underlying26,go_sem,x3]
 simp [results,hr,hu',hv',asAddr,e3]
theorem iC {fn:Func}{u ge:Nat}{tmps:Array Value}{e:Int}(hr:fn.results=#[.cell u 26])(hu:tmps.getD u undef=.pointer (some ⟨ge,0,none⟩))(W':World)(h:Holds W' ge 26 [.int .i64 e]):(results fn tmps).run Tryz.prog W'=.ok (.int .i64 e) W':=by
 have hu':tmps[u]?.getD undef=.pointer (some ⟨ge,0,none⟩):=by simpa using hu
 have x3:W'.cell? ⟨ge,0,none⟩=some (.int .i64 e):=(h.cell 0).trans rfl
 have e3:(loadVar 26 ⟨ge,0,none⟩).run Tryz.prog W'=.ok (.int .i64 e) W':=by
  simp [loadVar,isAgg,Sem.run_bind,run_underlying Tryz.underlying26,go_sem,x3]
 simp [results,hr,hu',asAddr,e3]
theorem dA {F:Nat->Prop}{w W:World}{g ge:Nat}{x:Gw}{M:Gm}{a:Act}{fn:Func}{e b:Int}{v:Value}(hd:a.defers=dfe ge)(h3:Holds W ge 26 [.int .i64 b])(hgl:GL F W g x M)(hF:¬ F ge)(hb:Below w.heap.size w W)(hge:w.heap.size<=ge)(hres:∀ W',Holds W' ge 26 [.int .i64 e]->(results fn a.tmps).run Tryz.prog W'=.ok v W'):
 bodyPostD Tryz.prog fn (fun r w'=>r=.returned v/\GStep F w g M w') (.panic (iQ e)) a W:=
 jD hd h3 hres (fun W' hs=>⟨rfl,.refl (hgl.kp (bR hs) (fun q hq _ e1=>hF (e1▸hq))) ((bX F hb).trans (bR hs) (fun q hq e1=>absurd hq (by rw[e1];omega)))⟩)
theorem ib {F:Nat->Prop}{w W:World}{g ge:Nat}{M:Gm}{a:Act}{fn:Func}{e:Int}{v:Value}(hd:a.defers=dfe ge)(h3:Holds W ge 26 [.int .i64 e])(hgl:GStep F w g M W)(hres:∀ W',Holds W' ge 26 [.int .i64 e]->(results fn a.tmps).run Tryz.prog W'=.ok v W'):
 bodyPostD Tryz.prog fn (fun r w'=>r=.returned v/\GStep F w g M w') .ret a W:=by
 obtain⟨F',x',h1,h2,h4⟩:=hgl;exact mq hd h3 hres (fun W' hs=>⟨rfl,F',x',h1.below hs,h2.trans (bX (fun _=>False) hs) (fun q _ e1=>e1.elim),h4⟩)
theorem eY (F:Nat->Prop)(w:World)(g:Nat)(x:Gw)(M:Gm)(h:GL F w g x M):∃ ge W,ge=w.heap.size/\W=w.alloc (.cells #[.int .i64 0] 26)/\Holds W ge 26 [.int .i64 0]/\GL F W g x M/\Below w.heap.size w W/\¬ F ge/\w.heap.size<=ge:=by
 have hb:Below w.heap.size w (w.alloc (.cells #[.int .i64 0] 26)):=ae zc _;exact⟨_,_,rfl,rfl,bN rfl,h.below hb,hb,fun e=>Nat.lt_irrefl _ (h.lt _ e),Nat.le_refl _⟩
end
section
section
variable {F:Nat→Prop} {w:World} {g:Nat} {x:Gw} {M:Gm}
theorem qM (h:GL F w g x M)(t i y:Int)(hs:(bV M t i).isSome=true)(hy:0<=y/\y<=(M.O.length:Int)):
 Calls Tryz.prog 62 #[.pointer (some ⟨g,0,none⟩),.int .i64 t,.int .i64 i,.int .i64 y] w fun e w'=>e=.returned (.tuple #[])/\GL F w' g x (iA M t i y)/\Kp F w w':=by
 obtain⟨y0,hs'⟩:=Option.isSome_iff_exists.1 hs;clear hs;have hs:=hs';clear hs';unfold bV at hs;cases ht:atI M.T t with
 |none=>rw[ht]at hs;cases hs
 |some th=>
  rw[ht]at hs;obtain⟨k,rfl,hk,hlt⟩:=dC ht;obtain⟨j,rfl,hj,hjl⟩:=dC (show atI th.1 i=some y0 from hs)
  obtain⟨b,cs,hb,xT,hc,htc,hok⟩:=h.thr hk;have x0:=h.x0;have q3:(0:Int)<=(k:Int):=by omega
  have q4:(k:Int)<(M.T.length:Int):=by omega
  have HB:=Y (xq hc htc j y hjl hok.s8 hy.1);have HR:aa (∀ w',bH w w' b->(∃ cs',Holds w' b 119 cs'/\fq cs' (th.1.set j y,th.2))->GL F w' g x (iA M (k:Int) (j:Int) y)/\Kp F w w'):=⟨fun w' hs ⟨cs',h1,h2⟩=>⟨h.xY hb hs h1 h2 (fun i=>gD M.T _ k i hk) (List.length_modify ..) rfl rfl (h.wf.vw _ _ hy),(bR hs).mono (fun q _ e=>by rw[e];exact h.fp.2.2.2.2.1 b (List.mem_iff_getElem?.2 ⟨k,hb⟩))⟩⟩
  clear hs ht hk hj hb hc htc hok h hy;go_enter Tryz.func62,Tryz.ntmps62;go_wp2_with (go_at_call 94;refine HB.out.mono ?_;rintro e w2 ⟨rfl,hs2,hc2⟩;have HS2:=Y (HR.out _ hs2 hc2);clear hs2 hc2);exact⟨rfl,_,results_none rfl _ _ _,rfl,HS2.out⟩
theorem zu (h:GL F w g x M)(t d:Int):
 Calls Tryz.prog 27 #[.pointer (some ⟨g,0,none⟩),.int .i64 t,.int .i64 d] w fun e w'=>e=.returned (.int .i64 (il M t d).2.2)/\GStep F w g (il M t d).1 w':=by
 obtain⟨ge,W1,hge,hW,h3,hgl,hb,hF,hle⟩:=eY F w g x M h;have H3:=Y h3;have HG:=Y hgl;have HB:=Y hb;have HF:=Y hF;have HL:=Y hle;cases hs:bV M t d with
 |none=>
  have e1:il M t d=(M,0,2):=by unfold il;rw[hs]
  rw[e1];clear e1;have HA:=Y (kF hgl t d hs);clear h3 hgl hb hF hle h hs
  go_enter_defers Tryz.func27,Tryz.ntmps27
  go_upto_region 2 with(fail)
  rw[<-hW,<-hge];clear hW hge;go_wp2_with (go_at_call 60;refine HA.out.mono ?_;rintro e w2 ⟨rfl,hw2⟩;subst w2);exact dA rfl H3.out HG.out HF.out HB.out HL.out (fun W'=>iC rfl rfl W')
 |some y=>
  have e1:il M t d=(iA M t d 0,0,0):=by unfold il;rw[hs]
  rw[e1];clear e1;have HA:=Y (jF hgl t d y hs);have HC:=Y (qM hgl t d 0 (by rw[hs];rfl) (by omega))
  have z3:=(h3.cell 0).trans rfl;clear h3 hgl hb hF hle h hs
  go_enter_defers Tryz.func27,Tryz.ntmps27
  go_upto_region 2 with(fail)
  rw[<-hW,<-hge];clear hW hge;go_wp2_with (first|(go_at_call 60;refine HA.out.mono ?_;rintro e w2 ⟨rfl,hw2⟩;subst w2)|(go_at_call 62;refine HC.out.mono ?_;rintro e w3 ⟨rfl,hg3,hk3⟩;have HG3:=Y hg3;have HK3:=Y hk3;have H33:=Y (hk3.holds H3.out HF.out);have y3:=(H33.out.cell 0).trans rfl;have y4:=ak H33.out 0;clear hg3 hk3))
  refine ib rfl (bB H33.out (k:=0) (by show 0<1;decide) _) ?_ (fun W'=>iC rfl rfl W')
  have hk:=bR (bu w3 ge 0 (.int .i64 0));exact .refl (HG3.out.kp hk (fun q hq _ e1=>HF.out (e1▸hq))) (((bX F HB.out).trans HK3.out (fun q _ e=>e)).trans hk (fun q hq e1=>absurd hq (by rw[e1];have:=HL.out;omega)))
theorem AJ (h:GL F w g x M)(t d s:Int):
 Calls Tryz.prog 26 #[.pointer (some ⟨g,0,none⟩),.int .i64 t,.int .i64 d,.int .i64 s] w fun e w'=>e=.returned (.int .i64 (moveF M t d s).2.2)/\GStep F w g (moveF M t d s).1 w':=by
 obtain⟨ge,W1,hge,hW,h3,hgl,hb,hF,hle⟩:=eY F w g x M h;have H3:=Y h3;have HG:=Y hgl;have HB:=Y hb;have HF:=Y hF;have HL:=Y hle;cases hs:bV M t d with
 |none=>
  have e1:moveF M t d s=(M,0,2):=by unfold moveF;rw[hs]
  rw[e1];clear e1;have HA:=Y (kF hgl t d hs);clear h3 hgl hb hF hle h hs
  go_enter_defers Tryz.func26,Tryz.ntmps26
  go_upto_region 2 with(fail)
  rw[<-hW,<-hge];clear hW hge;go_wp2_with (go_at_call 60;refine HA.out.mono ?_;rintro e w2 ⟨rfl,hw2⟩;subst w2);exact dA rfl H3.out HG.out HF.out HB.out HL.out (fun W'=>iC rfl rfl W')
 |some y=>
  have HA:=Y (jF hgl t d y hs);cases hs2:bV M t s with
  |none=>
   have e1:moveF M t d s=(M,0,2):=by unfold moveF;rw[hs];simp only[];rw[hs2]
   rw[e1];clear e1;have HA2:=Y (kF hgl t s hs2);clear h3 hgl hb hF hle h hs hs2
   go_enter_defers Tryz.func26,Tryz.ntmps26
   go_upto_region 2 with(fail)
   rw[<-hW,<-hge];clear hW hge;go_upto_region 3 with(go_at_call 60;refine HA.out.mono ?_;rintro e w2 ⟨rfl,hw2⟩;subst w2)
   go_wp2_with (go_at_call 60;refine HA2.out.mono ?_;rintro e w2 ⟨rfl,hw2⟩;subst w2);exact dA rfl H3.out HG.out HF.out HB.out HL.out (fun W'=>iC rfl rfl W')
  |some z=>
   have e1:moveF M t d s=(iA M t d z,0,0):=by unfold moveF;rw[hs];simp only[];rw[hs2]
   rw[e1];clear e1;have HA2:=Y (jF hgl t s z hs2);have HC:=Y (qM hgl t d z (by rw[hs];rfl) (h.wf.slot hs2))
   have z3:=(h3.cell 0).trans rfl;clear h3 hgl hb hF hle h hs hs2
   go_enter_defers Tryz.func26,Tryz.ntmps26
   go_upto_region 2 with(fail)
   rw[<-hW,<-hge];clear hW hge;go_upto_region 3 with(go_at_call 60;refine HA.out.mono ?_;rintro e w2 ⟨rfl,hw2⟩;subst w2)
   go_wp2_with (first|(go_at_call 60;refine HA2.out.mono ?_;rintro e w2 ⟨rfl,hw2⟩;subst w2)|(go_at_call 62;refine HC.out.mono ?_;rintro e w3 ⟨rfl,hg3,hk3⟩;have HG3:=Y hg3;have HK3:=Y hk3;have H33:=Y (hk3.holds H3.out HF.out);have y3:=(H33.out.cell 0).trans rfl;have y4:=ak H33.out 0;clear hg3 hk3))
   refine ib rfl (bB H33.out (k:=0) (by show 0<1;decide) _) ?_ (fun W'=>iC rfl rfl W')
   have hk:=bR (bu w3 ge 0 (.int .i64 0));exact .refl (HG3.out.kp hk (fun q hq _ e1=>HF.out (e1▸hq))) (((bX F HB.out).trans HK3.out (fun q _ e=>e)).trans hk (fun q hq e1=>absurd hq (by rw[e1];have:=HL.out;omega)))
theorem AB (h:GL F w g x M)(t d:Int):
 Calls Tryz.prog 30 #[.pointer (some ⟨g,0,none⟩),.int .i64 t,.int .i64 d] w fun e w'=>e=.returned (.tuple #[.int .i64 (ku M t d).2.1,.int .i64 (ku M t d).2.2])/\GStep F w g (ku M t d).1 w':=by
 obtain⟨ge,W1,hge,hW,h3,hgl,hb,hF,hle⟩:=eY F w g x M h;have H3:=Y h3;have HG:=Y hgl;have HB:=Y hb;have HF:=Y hF;have HL:=Y hle;cases hs:bV M t d with
 |none=>
  have e1:ku M t d=(M,0,2):=by unfold ku;rw[hs]
  rw[e1];clear e1;have HA:=Y (kF hgl t d hs);clear h3 hgl hb hF hle h hs
  go_enter_defers Tryz.func30,Tryz.ntmps30
  go_upto_region 2 with(fail)
  rw[<-hW,<-hge];clear hW hge;go_wp2_with (go_at_call 60;refine HA.out.mono ?_;rintro e w2 ⟨rfl,hw2⟩;subst w2);exact dA rfl H3.out HG.out HF.out HB.out HL.out (fun W'=>gV (t:=6) (u:=7) rfl rfl rfl W')
 |some y=>
  have e1:ku M t d=(M,y,0):=by unfold ku;rw[hs]
  rw[e1];clear e1;have HA:=Y (jF hgl t d y hs);have z3:=(h3.cell 0).trans rfl;have z4:=ak h3 0;clear h3 hgl hb hF hle h hs
  go_enter_defers Tryz.func30,Tryz.ntmps30
  go_upto_region 2 with(fail)
  rw[<-hW,<-hge];clear hW hge;go_wp2_with (go_at_call 60;refine HA.out.mono ?_;rintro e w2 ⟨rfl,hw2⟩;subst w2);refine ib rfl (bB H3.out (k:=0) (by show 0<1;decide) _) ?_ (fun W'=>gV (t:=6) (u:=7) rfl rfl rfl W')
  have hk:=bR (bu W1 ge 0 (.int .i64 0));exact .refl (HG.out.kp hk (fun q hq _ e1=>HF.out (e1▸hq))) ((bX F HB.out).trans hk (fun q hq e1=>absurd hq (by rw[e1];have:=HL.out;omega)))
theorem uq (h:GL F w g x M)(t o k:Int):
 Calls Tryz.prog 22 #[.pointer (some ⟨g,0,none⟩),.int .i64 t,.int .i64 o,.int .i64 k] w fun e w'=>e=.returned (.tuple #[.int .u64 (bW M t o k).2.1,.int .i64 (bW M t o k).2.2])/\GStep F w g (bW M t o k).1 w':=by
 obtain⟨ge,W1,hge,hW,h3,hgl,hb,hF,hle⟩:=eY F w g x M h;have H3:=Y h3;have HG:=Y hgl;have HB:=Y hb;have HF:=Y hF;have HL:=Y hle;cases hs:mM M t o k with
 |error e=>
  have e1:bW M t o k=(M,0,e):=by unfold bW;rw[hs]
  rw[e1];clear e1;have HA:=Y (Cm hgl t o k e hs);clear h3 hgl hb hF hle h hs
  go_enter_defers Tryz.func22,Tryz.ntmps22
  go_upto_region 2 with(fail)
  rw[<-hW,<-hge];clear hW hge;go_wp2_with (go_at_call 64;refine HA.out.mono ?_;rintro e w2 ⟨rfl,hw2⟩;subst w2);exact dA rfl H3.out HG.out HF.out HB.out HL.out (fun W'=>gV (t:=8) (u:=9) rfl rfl rfl W')
 |ok b=>
  have e1:bW M t o k=(M,(bf M b).getD k.toNat 0,0):=by unfold bW;rw[hs]
  rw[e1];clear e1;obtain⟨hs2,n,rfl,hn⟩:=rA hs;obtain⟨p,hp,h1,h2,h4,hok⟩:=hgl.obj (fK h.wf hs2);have HA:=Y (Cs hgl t o n b p hs2 hn hp);have x5:W1.cell? ⟨p.d,n,none⟩=some (.int .u64 ((bf M b).getD ((n:Int).toNat) 0)):=(h4.cell n).trans (by rw[Int.toNat_natCast,List.getElem?_map,List.getElem?_eq_getElem hn,List.getD_eq_getElem?_getD,List.getElem?_eq_getElem hn];rfl)
  generalize (bf M b).getD ((n:Int).toNat) 0=y at x5 ⊢;have z3:=(h3.cell 0).trans rfl;have z4:=ak h3 0;clear h3 hgl hb hF hle h hs hs2 hp h1 h2 h4 hok hn
  go_enter_defers Tryz.func22,Tryz.ntmps22
  go_upto_region 2 with(fail)
  rw[<-hW,<-hge];clear hW hge;go_wp2_with (go_at_call 64;refine HA.out.mono ?_;rintro e w2 ⟨rfl,hw2⟩;subst w2);refine ib rfl (bB H3.out (k:=0) (by show 0<1;decide) _) ?_ (fun W'=>gV (t:=8) (u:=9) rfl rfl rfl W')
  have hk:=bR (bu W1 ge 0 (.int .i64 0));exact .refl (HG.out.kp hk (fun q hq _ e1=>HF.out (e1▸hq))) ((bX F HB.out).trans hk (fun q hq e1=>absurd hq (by rw[e1];have:=HL.out;omega)))
theorem rV (h:GL F w g x M)(t o k v:Int)(hv:(Lit.int .u64 v).wf=true):
 Calls Tryz.prog 23 #[.pointer (some ⟨g,0,none⟩),.int .i64 t,.int .i64 o,.int .i64 k,.int .u64 v] w fun e w'=>e=.returned (.int .i64 (dM M t o k v).2.2)/\GStep F w g (dM M t o k v).1 w':=by
 obtain⟨ge,W1,hge,hW,h3,hgl,hb,hF,hle⟩:=eY F w g x M h;have H3:=Y h3;have HG:=Y hgl;have HB:=Y hb;have HF:=Y hF;have HL:=Y hle;cases hs:mM M t o k with
 |error e=>
  have e1:dM M t o k v=(M,0,e):=by unfold dM;rw[hs]
  rw[e1];clear e1;have HA:=Y (Cm hgl t o k e hs);clear h3 hgl hb hF hle h hs hv
  go_enter_defers Tryz.func23,Tryz.ntmps23
  go_upto_region 2 with(fail)
  rw[<-hW,<-hge];clear hW hge;go_wp2_with (go_at_call 64;refine HA.out.mono ?_;rintro e w2 ⟨rfl,hw2⟩;subst w2);exact dA rfl H3.out HG.out HF.out HB.out HL.out (fun W'=>iC rfl rfl W')
 |ok b=>
  have e1:dM M t o k v=(ik M b k.toNat v,0,0):=by unfold dM;rw[hs]
  rw[e1];clear e1;obtain⟨hs2,n,rfl,hn⟩:=rA hs;obtain⟨p,hp,h1,h2,h4,hok⟩:=hgl.obj (fK h.wf hs2);have HA:=Y (Cs hgl t o n b p hs2 hn hp);have HS:=Y (hgl.ik hp hn hv);rw[show((n:Int)).toNat=n from rfl]
  have HST:=Y (bu W1 p.d n (.int .u64 v));have HP:=Y ((hgl.fp.2.2.2.2.2 p (List.mem_iff_getElem?.2 ⟨_,hp⟩)).2.2);have x5:=(h4.cell n).trans (show _=some (.int .u64 ((bf M b)[n]'hn)) by rw[List.getElem?_map,List.getElem?_eq_getElem hn];rfl)
  generalize (bf M b)[n]'hn=yo at x5;have x6:=ak h4 n;clear h3 hgl hb hF hle h hs hs2 hp h1 h2 h4 hok hn hv
  go_enter_defers Tryz.func23,Tryz.ntmps23
  go_upto_region 2 with(fail)
  rw[<-hW,<-hge];clear hW hge;go_upto_region 3 with(go_at_call 64;refine HA.out.mono ?_;rintro e w2 ⟨rfl,hw2⟩;subst w2)
  obtain⟨W2,hW2⟩:∃ W2,W2=W1.setCell ⟨p.d,n,none⟩ (.int .u64 v):=⟨_,rfl⟩;rw[<-hW2]at HS HST ⊢;clear hW2;have H32:=Y (HST.out.holds H3.out (fun e1=>HF.out (e1▸HP.out)))
  have y3:=(H32.out.cell 0).trans rfl;have y4:=ak H32.out 0;go_wp2_with fail;refine ib rfl (bB H32.out (k:=0) (by show 0<1;decide) _) ?_ (fun W'=>iC rfl rfl W')
  have hk:=bR (bu W2 ge 0 (.int .i64 0));exact .refl (HS.out.kp hk (fun q hq _ e1=>HF.out (e1▸hq))) (((bX F HB.out).trans (bR HST.out) (fun q _ e=>by rw[e];exact HP.out)).trans hk (fun q hq e1=>absurd hq (by rw[e1];have:=HL.out;omega)))
theorem C8 (h:GL F w g x M)(t d i:Int):
 Calls Tryz.prog 24 #[.pointer (some ⟨g,0,none⟩),.int .i64 t,.int .i64 d,.int .i64 i] w fun e w'=>e=.returned (.tuple #[.int .i64 (iP M t d i).2.1,.int .i64 (iP M t d i).2.2])/\GStep F w g (iP M t d i).1 w':=by
 obtain⟨ge,W1,hge,hW,h3,hgl,hb,hF,hle⟩:=eY F w g x M h;have H3:=Y h3;have HG:=Y hgl;have HB:=Y hb;have HF:=Y hF;have HL:=Y hle;cases hs:bV M t d with
 |none=>
  have e1:iP M t d i=(M,0,2):=by unfold iP;rw[hs]
  rw[e1];clear e1;have HA:=Y (kF hgl t d hs);clear h3 hgl hb hF hle h hs
  go_enter_defers Tryz.func24,Tryz.ntmps24
  go_upto_region 2 with(fail)
  rw[<-hW,<-hge];clear hW hge;go_wp2_with (go_at_call 60;refine HA.out.mono ?_;rintro e w2 ⟨rfl,hw2⟩;subst w2);exact dA rfl H3.out HG.out HF.out HB.out HL.out (fun W'=>gV (t:=8) (u:=9) rfl rfl rfl W')
 |some y=>
  have HA:=Y (jF hgl t d y hs);cases hs2:atI M.G i with
  |none=>
   have e1:iP M t d i=(M,0,2):=by unfold iP;rw[hs];simp only[];rw[hs2]
   rw[e1];clear e1;have HA2:=Y (Cw hgl i hs2);clear h3 hgl hb hF hle h hs hs2
   go_enter_defers Tryz.func24,Tryz.ntmps24
   go_upto_region 2 with(fail)
   rw[<-hW,<-hge];clear hW hge;go_wp2_with (first|(go_at_call 60;refine HA.out.mono ?_;rintro e w2 ⟨rfl,hw2⟩;subst w2)|(go_at_call 65;refine HA2.out.mono ?_;rintro e w2 ⟨rfl,hw2⟩;subst w2))
   exact dA rfl H3.out HG.out HF.out HB.out HL.out (fun W'=>gV (t:=8) (u:=9) rfl rfl rfl W')
  |some z=>
   have e1:iP M t d i=(iA M t d z,z,0):=by unfold iP;rw[hs];simp only[];rw[hs2]
   rw[e1];clear e1;obtain⟨n,rfl,hn,hnl⟩:=dC hs2;have HA2:=Y (D5 hgl n hnl);have x5:W1.cell? ⟨x.bG,n,none⟩=some (.int .i64 z):=(hgl.hG.cell n).trans (by rw[List.getElem?_map,hn];rfl)
   have HC:=Y (qM hgl t d z (by rw[hs];rfl) (h.wf.gs z (List.mem_iff_getElem?.2 ⟨n,hn⟩)))
   have z3:=(h3.cell 0).trans rfl;clear h3 hgl hb hF hle h hs hs2 hn hnl
   go_enter_defers Tryz.func24,Tryz.ntmps24
   go_upto_region 2 with(fail)
   rw[<-hW,<-hge];clear hW hge;go_wp2_with (first|(go_at_call 60;refine HA.out.mono ?_;rintro e w2 ⟨rfl,hw2⟩;subst w2)|(go_at_call 65;refine HA2.out.mono ?_;rintro e w2 ⟨rfl,hw2⟩;subst w2)|(go_at_call 62;refine HC.out.mono ?_;rintro e w3 ⟨rfl,hg3,hk3⟩;have HG3:=Y hg3;have HK3:=Y hk3;have H33:=Y (hk3.holds H3.out HF.out);have y3:=(H33.out.cell 0).trans rfl;have y4:=ak H33.out 0;clear hg3 hk3))
   refine ib rfl (bB H33.out (k:=0) (by show 0<1;decide) _) ?_ (fun W'=>gV (t:=8) (u:=9) rfl rfl rfl W')
   have hk:=bR (bu w3 ge 0 (.int .i64 0));exact .refl (HG3.out.kp hk (fun q hq _ e1=>HF.out (e1▸hq))) (((bX F HB.out).trans HK3.out (fun q _ e=>e)).trans hk (fun q hq e1=>absurd hq (by rw[e1];have:=HL.out;omega)))
theorem DU (h:GL F w g x M)(t i v:Int):
 Calls Tryz.prog 25 #[.pointer (some ⟨g,0,none⟩),.int .i64 t,.int .i64 i,.int .i64 v] w fun e w'=>e=.returned (.int .i64 (jk M t i v).2.2)/\GStep F w g (jk M t i v).1 w':=by
 obtain⟨ge,W1,hge,hW,h3,hgl,hb,hF,hle⟩:=eY F w g x M h;have H3:=Y h3;have HG:=Y hgl;have HB:=Y hb;have HF:=Y hF;have HL:=Y hle;cases hs:bV M t v with
 |none=>
  have e1:jk M t i v=(M,0,2):=by unfold jk;rw[hs]
  rw[e1];clear e1;have HA:=Y (kF hgl t v hs);clear h3 hgl hb hF hle h hs
  go_enter_defers Tryz.func25,Tryz.ntmps25
  go_upto_region 2 with(fail)
  rw[<-hW,<-hge];clear hW hge;go_wp2_with (go_at_call 60;refine HA.out.mono ?_;rintro e w2 ⟨rfl,hw2⟩;subst w2);exact dA rfl H3.out HG.out HF.out HB.out HL.out (fun W'=>iC rfl rfl W')
 |some y=>
  have HA:=Y (jF hgl t v y hs);cases hs2:atI M.G i with
  |none=>
   have e1:jk M t i v=(M,0,2):=by unfold jk;rw[hs];simp only[];rw[hs2]
   rw[e1];clear e1;have HA2:=Y (Cw hgl i hs2);clear h3 hgl hb hF hle h hs hs2
   go_enter_defers Tryz.func25,Tryz.ntmps25
   go_upto_region 2 with(fail)
   rw[<-hW,<-hge];clear hW hge;go_wp2_with (first|(go_at_call 60;refine HA.out.mono ?_;rintro e w2 ⟨rfl,hw2⟩;subst w2)|(go_at_call 65;refine HA2.out.mono ?_;rintro e w2 ⟨rfl,hw2⟩;subst w2))
   exact dA rfl H3.out HG.out HF.out HB.out HL.out (fun W'=>iC rfl rfl W')
  |some z=>
   have e1:jk M t i v=({ M with G:=M.G.set i.toNat y },0,0):=by unfold jk;rw[hs];simp only[];rw[hs2]
   rw[e1];clear e1;obtain⟨n,rfl,hn,hnl⟩:=dC hs2;have HA2:=Y (D5 hgl n hnl);rw[show((n:Int)).toNat=n from rfl]
   have HST:=Y (bu W1 x.bG n (.int .i64 y));have HS:=Y (hgl.setG (M':={ M with G:=M.G.set n y }) HST.out (by have:=bB hgl.hG (k:=n) (by rw[List.length_map];exact hnl) (.int .i64 y);rw[<-List.map_set]at this;exact this) rfl (List.length_set ..) rfl (hgl.wf.zU n (hgl.wf.slot hs)))
   have HP:=Y (hgl.fp.2.2.1);have x5:W1.cell? ⟨x.bG,n,none⟩=some (.int .i64 z):=(hgl.hG.cell n).trans (by rw[List.getElem?_map,hn];rfl)
   have x6:=ak hgl.hG n;clear h3 hgl hb hF hle h hs hs2 hn hnl
   go_enter_defers Tryz.func25,Tryz.ntmps25
   go_upto_region 2 with(fail)
   rw[<-hW,<-hge];clear hW hge;go_upto_region 4 with(first|(go_at_call 60;refine HA.out.mono ?_;rintro e w2 ⟨rfl,hw2⟩;subst w2)|(go_at_call 65;refine HA2.out.mono ?_;rintro e w2 ⟨rfl,hw2⟩;subst w2))
   obtain⟨W2,hW2⟩:∃ W2,W2=W1.setCell ⟨x.bG,n,none⟩ (.int .i64 y):=⟨_,rfl⟩;rw[<-hW2]at HS HST ⊢;clear hW2;have H32:=Y (HST.out.holds H3.out (fun e1=>HF.out (e1▸HP.out)))
   have y3:=(H32.out.cell 0).trans rfl;have y4:=ak H32.out 0;go_wp2_with fail;refine ib rfl (bB H32.out (k:=0) (by show 0<1;decide) _) ?_ (fun W'=>iC rfl rfl W')
   have hk:=bR (bu W2 ge 0 (.int .i64 0));exact .refl (HS.out.kp hk (fun q hq _ e1=>HF.out (e1▸hq))) (((bX F HB.out).trans (bR HST.out) (fun q _ e=>by rw[e];exact HP.out)).trans hk (fun q hq e1=>absurd hq (by rw[e1];have:=HL.out;omega)))
theorem Bo (h:GL F w g x M)(t d s k:Int):
 Calls Tryz.prog 20 #[.pointer (some ⟨g,0,none⟩),.int .i64 t,.int .i64 d,.int .i64 s,.int .i64 k] w fun e w'=>e=.returned (.tuple #[.int .i64 (gq M t d s k).2.1,.int .i64 (gq M t d s k).2.2])/\GStep F w g (gq M t d s k).1 w':=by
 obtain⟨ge,W1,hge,hW,h3,hgl,hb,hF,hle⟩:=eY F w g x M h;have H3:=Y h3;have HG:=Y hgl;have HB:=Y hb;have HF:=Y hF;have HL:=Y hle;cases hs:bV M t d with
 |none=>
  have e1:gq M t d s k=(M,0,2):=by unfold gq;rw[hs]
  rw[e1];clear e1;have HA:=Y (kF hgl t d hs);clear h3 hgl hb hF hle h hs
  go_enter_defers Tryz.func20,Tryz.ntmps20
  go_upto_region 2 with(fail)
  rw[<-hW,<-hge];clear hW hge;go_wp2_with (go_at_call 60;refine HA.out.mono ?_;rintro e w2 ⟨rfl,hw2⟩;subst w2);exact dA rfl H3.out HG.out HF.out HB.out HL.out (fun W'=>gV (t:=10) (u:=11) rfl rfl rfl W')
 |some y=>
  have HA:=Y (jF hgl t d y hs);cases hs2:nZ M t s k with
  |error e=>
   have e1:gq M t d s k=(M,0,e):=by unfold gq;rw[hs];simp only[];rw[hs2]
   rw[e1];clear e1
   rcases nC hs2 with hs3|⟨b,hs3,rfl,hk⟩
   . have HA2:=Y (xL hgl t s e hs3);clear h3 hgl hb hF hle h hs hs2 hs3
     go_enter_defers Tryz.func20,Tryz.ntmps20
     go_upto_region 2 with(fail)
     rw[<-hW,<-hge];clear hW hge;go_wp2_with (first|(go_at_call 60;refine HA.out.mono ?_;rintro e w2 ⟨rfl,hw2⟩;subst w2)|(go_at_call 63;refine HA2.out.mono ?_;rintro e w2 ⟨rfl,hw2⟩;subst w2))
     exact dA rfl H3.out HG.out HF.out HB.out HL.out (fun W'=>gV (t:=10) (u:=11) rfl rfl rfl W')
   . obtain⟨p,hp,h1,h2,h4,hok⟩:=hgl.obj (fK h.wf hs3);have HA2:=Y (o8 hgl t s b p hs3 hp);have x1:=(h1.cell 0).trans rfl;have r2:∀ b,b=false->∀ w,Calls Tryz.prog 61 #[.bool b,.int .i64 2] w fun x w'=>x=.panicked (iQ 2)/\w'=w:=fun b hb w=>hb▸jq 2 w
     by_cases h0:k<0
     . have q1:decide (k>=0)=false:=yd (by omega)
       have q1':decide (0<=k)=false:=yd (by omega)
       clear h3 hgl hb hF hle h hs hs2 hs3 hk hp h1 h2 h4 hok h0
       go_enter_defers Tryz.func20,Tryz.ntmps20
       go_upto_region 2 with(fail)
       rw[<-hW,<-hge];clear hW hge;go_wp2_with (first|(go_at_call 60;refine HA.out.mono ?_;rintro e w2 ⟨rfl,hw2⟩;subst w2)|(go_at_call 63;refine HA2.out.mono ?_;rintro e w2 ⟨rfl,hw2⟩;subst w2)|(go_at_call 61;refine(r2 _ rfl _).mono ?_;rintro e w2 ⟨rfl,hw2⟩;subst w2))
       exact dA rfl H3.out HG.out HF.out HB.out HL.out (fun W'=>gV (t:=10) (u:=11) rfl rfl rfl W')
     . have q1:decide (k>=0)=true:=yb (by omega)
       have q1':decide (0<=k)=true:=yb (by omega)
       have q2:decide (k<((refsOf M b).length:Int))=false:=yd (by omega)
       clear h3 hgl hb hF hle h hs hs2 hs3 hk hp h1 h2 h4 hok h0
       go_enter_defers Tryz.func20,Tryz.ntmps20
       go_upto_region 2 with(fail)
       rw[<-hW,<-hge];clear hW hge;go_wp2_with (first|(go_at_call 60;refine HA.out.mono ?_;rintro e w2 ⟨rfl,hw2⟩;subst w2)|(go_at_call 63;refine HA2.out.mono ?_;rintro e w2 ⟨rfl,hw2⟩;subst w2)|(go_at_call 61;refine(r2 _ rfl _).mono ?_;rintro e w2 ⟨rfl,hw2⟩;subst w2))
       exact dA rfl H3.out HG.out HF.out HB.out HL.out (fun W'=>gV (t:=10) (u:=11) rfl rfl rfl W')
  |ok b=>
   have e1:gq M t d s k=(iA M t d ((refsOf M b).getD k.toNat 0),(refsOf M b).getD k.toNat 0,0):=by unfold gq;rw[hs];simp only[];rw[hs2]
   rw[e1];clear e1;obtain⟨hs3,n,rfl,hn⟩:=rE hs2;obtain⟨p,hp,h1,h2,h4,hok⟩:=hgl.obj (fK h.wf hs3);have HA2:=Y (o8 hgl t s b p hs3 hp);have x1:=(h1.cell 0).trans rfl;have q1:decide (((n:Nat):Int)>=0)=true:=yb (by omega)
   have q1':decide (0<=((n:Nat):Int))=true:=yb (by omega)
   have q2:decide (((n:Nat):Int)<((refsOf M b).length:Int))=true:=yb (by omega)
   have q2':decide (n<(refsOf M b).length)=true:=yb (by omega)
   have q3:(0:Int)<=((n:Nat):Int):=by omega
   have q4:((n:Nat):Int)<((refsOf M b).length:Int):=by omega
   have x5:W1.cell? ⟨p.r,n,none⟩=some (.int .i64 ((refsOf M b).getD ((n:Int).toNat) 0)):=(h2.cell n).trans (by rw[Int.toNat_natCast,List.getElem?_map,List.getElem?_eq_getElem hn,List.getD_eq_getElem?_getD,List.getElem?_eq_getElem hn];rfl)
   have hz:0<=(refsOf M b).getD ((n:Int).toNat) 0/\(refsOf M b).getD ((n:Int).toNat) 0<=(M.O.length:Int):=hok.rs _ (by show(refsOf M b).getD n 0∈refsOf M b;rw[List.getD_eq_getElem?_getD,List.getElem?_eq_getElem hn];exact List.getElem_mem hn)
   generalize (refsOf M b).getD ((n:Int).toNat) 0=z at x5 hz ⊢;have HC:=Y (qM hgl t d z (by rw[hs];rfl) hz)
   have z3:=(h3.cell 0).trans rfl;clear h3 hgl hb hF hle h hs hs2 hs3 hn hp h1 h2 h4 hok hz
   go_enter_defers Tryz.func20,Tryz.ntmps20
   go_upto_region 2 with(fail)
   rw[<-hW,<-hge];clear hW hge;go_wp2_with (first|(go_at_call 60;refine HA.out.mono ?_;rintro e w2 ⟨rfl,hw2⟩;subst w2)|(go_at_call 63;refine HA2.out.mono ?_;rintro e w2 ⟨rfl,hw2⟩;subst w2)|(go_at_call 61;refine(gu _ _).mono ?_;rintro e w2 ⟨rfl,hw2⟩;subst w2)|(go_at_call 62;refine HC.out.mono ?_;rintro e w3 ⟨rfl,hg3,hk3⟩;have HG3:=Y hg3;have HK3:=Y hk3;have H33:=Y (hk3.holds H3.out HF.out);have y3:=(H33.out.cell 0).trans rfl;have y4:=ak H33.out 0;clear hg3 hk3))
   refine ib rfl (bB H33.out (k:=0) (by show 0<1;decide) _) ?_ (fun W'=>gV (t:=10) (u:=11) rfl rfl rfl W')
   have hk:=bR (bu w3 ge 0 (.int .i64 0));exact .refl (HG3.out.kp hk (fun q hq _ e1=>HF.out (e1▸hq))) (((bX F HB.out).trans HK3.out (fun q _ e=>e)).trans hk (fun q hq e1=>absurd hq (by rw[e1];have:=HL.out;omega)))
theorem zf (h:GL F w g x M)(t o k v:Int):
 Calls Tryz.prog 21 #[.pointer (some ⟨g,0,none⟩),.int .i64 t,.int .i64 o,.int .i64 k,.int .i64 v] w fun e w'=>e=.returned (.int .i64 (fP M t o k v).2.2)/\GStep F w g (fP M t o k v).1 w':=by
 obtain⟨ge,W1,hge,hW,h3,hgl,hb,hF,hle⟩:=eY F w g x M h;have H3:=Y h3;have HG:=Y hgl;have HB:=Y hb;have HF:=Y hF;have HL:=Y hle;cases hs:bV M t v with
 |none=>
  have e1:fP M t o k v=(M,0,2):=by unfold fP;rw[hs]
  rw[e1];clear e1;have HA:=Y (kF hgl t v hs);clear h3 hgl hb hF hle h hs
  go_enter_defers Tryz.func21,Tryz.ntmps21
  go_upto_region 2 with(fail)
  rw[<-hW,<-hge];clear hW hge;go_wp2_with (go_at_call 60;refine HA.out.mono ?_;rintro e w2 ⟨rfl,hw2⟩;subst w2);exact dA rfl H3.out HG.out HF.out HB.out HL.out (fun W'=>iC rfl rfl W')
 |some y=>
  have HA:=Y (jF hgl t v y hs);cases hs2:nZ M t o k with
  |error e=>
   have e1:fP M t o k v=(M,0,e):=by unfold fP;rw[hs];simp only[];rw[hs2]
   rw[e1];clear e1
   rcases nC hs2 with hs3|⟨b,hs3,rfl,hk⟩
   . have HA2:=Y (xL hgl t o e hs3);clear h3 hgl hb hF hle h hs hs2 hs3
     go_enter_defers Tryz.func21,Tryz.ntmps21
     go_upto_region 2 with(fail)
     rw[<-hW,<-hge];clear hW hge;go_wp2_with (first|(go_at_call 60;refine HA.out.mono ?_;rintro e w2 ⟨rfl,hw2⟩;subst w2)|(go_at_call 63;refine HA2.out.mono ?_;rintro e w2 ⟨rfl,hw2⟩;subst w2))
     exact dA rfl H3.out HG.out HF.out HB.out HL.out (fun W'=>iC rfl rfl W')
   . obtain⟨p,hp,h1,h2,h4,hok⟩:=hgl.obj (fK h.wf hs3);have HA2:=Y (o8 hgl t o b p hs3 hp);have x1:=(h1.cell 0).trans rfl;have r2:∀ b,b=false->∀ w,Calls Tryz.prog 61 #[.bool b,.int .i64 2] w fun x w'=>x=.panicked (iQ 2)/\w'=w:=fun b hb w=>hb▸jq 2 w
     by_cases h0:k<0
     . have q1:decide (k>=0)=false:=yd (by omega)
       have q1':decide (0<=k)=false:=yd (by omega)
       clear h3 hgl hb hF hle h hs hs2 hs3 hk hp h1 h2 h4 hok h0
       go_enter_defers Tryz.func21,Tryz.ntmps21
       go_upto_region 2 with(fail)
       rw[<-hW,<-hge];clear hW hge;go_wp2_with (first|(go_at_call 60;refine HA.out.mono ?_;rintro e w2 ⟨rfl,hw2⟩;subst w2)|(go_at_call 63;refine HA2.out.mono ?_;rintro e w2 ⟨rfl,hw2⟩;subst w2)|(go_at_call 61;refine(r2 _ rfl _).mono ?_;rintro e w2 ⟨rfl,hw2⟩;subst w2))
       exact dA rfl H3.out HG.out HF.out HB.out HL.out (fun W'=>iC rfl rfl W')
     . have q1:decide (k>=0)=true:=yb (by omega)
       have q1':decide (0<=k)=true:=yb (by omega)
       have q2:decide (k<((refsOf M b).length:Int))=false:=yd (by omega)
       clear h3 hgl hb hF hle h hs hs2 hs3 hk hp h1 h2 h4 hok h0
       go_enter_defers Tryz.func21,Tryz.ntmps21
       go_upto_region 2 with(fail)
       rw[<-hW,<-hge];clear hW hge;go_wp2_with (first|(go_at_call 60;refine HA.out.mono ?_;rintro e w2 ⟨rfl,hw2⟩;subst w2)|(go_at_call 63;refine HA2.out.mono ?_;rintro e w2 ⟨rfl,hw2⟩;subst w2)|(go_at_call 61;refine(r2 _ rfl _).mono ?_;rintro e w2 ⟨rfl,hw2⟩;subst w2))
       exact dA rfl H3.out HG.out HF.out HB.out HL.out (fun W'=>iC rfl rfl W')
  |ok b=>
   have e1:fP M t o k v=(iw M b k.toNat y,0,0):=by unfold fP;rw[hs];simp only[];rw[hs2]
   rw[e1];clear e1;obtain⟨hs3,n,rfl,hn⟩:=rE hs2;obtain⟨p,hp,h1,h2,h4,hok⟩:=hgl.obj (fK h.wf hs3);have HA2:=Y (o8 hgl t o b p hs3 hp);have x1:=(h1.cell 0).trans rfl;have q1:decide (((n:Nat):Int)>=0)=true:=yb (by omega)
   have q1':decide (0<=((n:Nat):Int))=true:=yb (by omega)
   have q2:decide (((n:Nat):Int)<((refsOf M b).length:Int))=true:=yb (by omega)
   have q2':decide (n<(refsOf M b).length)=true:=yb (by omega)
   have q3:(0:Int)<=((n:Nat):Int):=by omega
   have q4:((n:Nat):Int)<((refsOf M b).length:Int):=by omega
   have x5:W1.cell? ⟨p.r,n,none⟩=some (.int .i64 ((refsOf M b).getD ((n:Int).toNat) 0)):=(h2.cell n).trans (by rw[Int.toNat_natCast,List.getElem?_map,List.getElem?_eq_getElem hn,List.getD_eq_getElem?_getD,List.getElem?_eq_getElem hn];rfl)
   generalize (refsOf M b).getD ((n:Int).toNat) 0=z at x5;rw[show((n:Int)).toNat=n from rfl]
   have HST:=Y (bu W1 p.r n (.int .i64 y));have HS:=Y (hgl.iw hp hn (hgl.wf.slot hs));have HP:=Y ((hgl.fp.2.2.2.2.2 p (List.mem_iff_getElem?.2 ⟨_,hp⟩)).2.1);have x6:=ak h2 n;clear h3 hgl hb hF hle h hs hs2 hs3 hn hp h1 h2 h4 hok
   go_enter_defers Tryz.func21,Tryz.ntmps21
   go_upto_region 2 with(fail)
   rw[<-hW,<-hge];clear hW hge;go_upto_region 6 with(first|(go_at_call 60;refine HA.out.mono ?_;rintro e w2 ⟨rfl,hw2⟩;subst w2)|(go_at_call 63;refine HA2.out.mono ?_;rintro e w2 ⟨rfl,hw2⟩;subst w2)|(go_at_call 61;refine(gu _ _).mono ?_;rintro e w2 ⟨rfl,hw2⟩;subst w2))
   obtain⟨W2,hW2⟩:∃ W2,W2=W1.setCell ⟨p.r,n,none⟩ (.int .i64 y):=⟨_,rfl⟩;rw[<-hW2]at HS HST ⊢;clear hW2;have H32:=Y (HST.out.holds H3.out (fun e1=>HF.out (e1▸HP.out)))
   have y3:=(H32.out.cell 0).trans rfl;have y4:=ak H32.out 0;go_wp2_with fail;refine ib rfl (bB H32.out (k:=0) (by show 0<1;decide) _) ?_ (fun W'=>iC rfl rfl W')
   have hk:=bR (bu W2 ge 0 (.int .i64 0));exact .refl (HS.out.kp hk (fun q hq _ e1=>HF.out (e1▸hq))) (((bX F HB.out).trans (bR HST.out) (fun q _ e=>by rw[e];exact HP.out)).trans hk (fun q hq e1=>absurd hq (by rw[e1];have:=HL.out;omega)))
end
end
end Go.Proofs.YtglikkmmbdnmbaaGreat.Im

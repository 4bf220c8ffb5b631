/-
  Laws of walks through programs, and facts on grammars, trees and queries.
  Conditions: none.
-/
import Derived.Test.YtoioijgdggkabaaGreatDoorGC1
import Derived.Test.YtoioijgdggkabaaGreatDoorChecked
import Derived.Laws.Slices
import Derived.Laws.Strings2
import Derived.Laws.RangeAny
import Derived.Shelf.Strings.Split
import Derived.Shelf.Strings.SlTrimAscii
set_option linter.unusedVariables false
set_option linter.unusedSimpArgs false
namespace Go.J
open Go
section
variable {P:Program}{n:Nat}{F:Fr}{A:World→Prop}{c:Ctx}{H R:List bE}{ty:TypeId}{x y:Operand}{v:Value}{Q:Exit→Act→World→Prop}{ops:Array Oper}{rest:List Oper}
 {pos:String} {after:Array Edge} {t e:TypeId} {m k:Nat} {cs:List Value}
theorem Ev.pD {b o cap size:Nat}{i:Int}{kd:IntKind}(hv:v= .slice (some ⟨b,o,none⟩) m cap)(hx:aL F x v)(hy:aL F y (.int kd i))(ht:P.underlying t=some (.slice e))(hs:(P.info? e).map (·.size)=some size)
 (hi:i=k) (hk:k<m):Ev P n F A (.indexAddr t x y) ty (di v size k 0):= .of_run fun a w ha _=>by
 subst hv;obtain⟨inf,pB,fx⟩:=Option.map_eq_some_iff.1 hs;subst hi
 simp[execOp,hx.eval ha,hy.eval ha,Instr.indexAt,asIntOf,run_underlying ht,sizeOf,typeInfo,pB,fx,hk,dk,Addr.add_lit]
end
def mo (ds:List dJ):dJ:=⟨fun ρ=>∀d∈ds,d.f ρ,fun _ _ h k d hd=>d.mono _ _ h (k d hd)⟩
theorem de.all {P:Program}{f:FuncId}{args:Array Value}{ds:List dJ}{v:Value}(h:de P f args ds v):de P f args [mo ds] v:=by
 intro w ρ st
 have hf:∀d∈ds,d.f ρ:=cw.1 (st.ct (aE (mo ds)) (by simp))
 have e:jB (ds.map aE)=jB ([mo ds].map aE):=by
  funext b
  apply propext
  constructor
  ·intro h;exact absurd h (gM ds b)
  ·intro h;exact absurd h (gM [mo ds] b)
 have S2:dt ⟨w,ρ,jB ([mo ds].map aE),True⟩ [] ρ w:=dt.drop st
 have S3:Start (ds.map aE) ρ w:=by
  have:=S2.uo ds hf
  rw[List.append_nil]at this;unfold Start;rw[e];exact this
 have:=h w ρ S3
 rw[e]at this;exact this
theorem de.pg {P:Program}{f:FuncId}{args:Array Value}{ds G0:List dJ}{v:Value}(h:de P f args ds v)(hi:∀ρ,(∀d∈G0,d.f ρ)→∀d∈ds,d.f ρ):de P f args G0 v:=by
 intro w ρ st
 have hf:∀d∈G0,d.f ρ:=fun d hd=>cw.1 (st.ct (aE d) (List.mem_map_of_mem hd))
 have e:jB (ds.map aE)=jB (G0.map aE):=by
  funext b
  apply propext
  exact⟨fun h=>absurd h (gM ds b),fun h=>absurd h (gM G0 b)⟩
 have S2:dt ⟨w,ρ,jB (G0.map aE),True⟩ [] ρ w:=by
  have:∀(l:List dJ),dt ⟨w,ρ,jB (G0.map aE),True⟩ (l.map aE) ρ w→dt ⟨w,ρ,jB (G0.map aE),True⟩ [] ρ w:=by
   intro l
   induction l with
   |nil=>exact fun h=>h
   |cons d l ih=>exact fun h=>ih h.drop
  exact this G0 st
 have S3:Start (ds.map aE) ρ w:=by
  have:=S2.uo ds (hi ρ hf)
  rw[List.append_nil]at this;unfold Start;rw[e];exact this
 have:=h w ρ S3
 rw[e]at this;exact this
theorem jJ.mo {c:Ctx}{L R:List bE}{ds:List dJ}(h:jJ c L R ds):jJ c L R [J.mo ds]:=fun ρ w hm d hd=>by
 rw[List.mem_singleton.1 hd]
 exact fun d' jk=>h ρ w hm d' jk
theorem eU.mo {c:Ctx}{H:List bE}{ds:List dJ}(h:eU c H ds):eU c H [J.mo ds]:=fun ρ w hm d hd=>by
 rw[List.mem_singleton.1 hd]
 exact fun d' jk=>h ρ w hm d' jk
theorem St.cast {n:Nat}{F:Fr}{c:Ctx}{H H':List bE}{T:Act→World→Prop}(h:H=H')(k:St n F (Mm c H') T):St n F (Mm c H) T:=by rw[h];exact k
section
variable {n:Nat}{F:Fr}{c:Ctx}{H R:List bE}{T:Act→World→Prop}{α:Type}
def au (f:α→dJ)(xs:List α):dJ:=⟨fun ρ=>∀x∈xs,(f x).f ρ,fun ρ gS h k x hx=>(f x).mono _ _ h (k x hx)⟩
theorem St.dK (f:α→dJ)(xs:List α){x:α}[hd:iE (au f xs) H](hx:x∈xs)(k:St n F (Mm c (aE (f x)::H)) T):St n F (Mm c H) T:=
 St.iJ (f x) [au f xs] (fun ρ h=>h _ (List.mem_cons_self ..) x hx) k
theorem St.du (f:α→dJ)(k:St n F (Mm c (aE (au f [])::H)) T):St n F (Mm c H) T:=
 St.fact (au f []) (fun ρ _ _=>fun x hx=>by cases hx) k
theorem St.jr (f:α→dJ){xs:List α}{x:α}[hd:iE (au f xs) H][hx:iE (f x) H](k:St n F (Mm c (aE (au f (xs++ [x]))::H)) T):St n F (Mm c H) T:=
 St.iJ (au f (xs++ [x])) [au f xs,f x] (fun ρ h y hy=>by
  rcases List.mem_append.1 hy with hy|hy
  ·exact h _ (List.mem_cons_self ..) y hy
  ·rw[List.mem_singleton.1 hy];exact h _ (List.mem_cons_of_mem _ (List.mem_cons_self ..))) k
theorem St.fQ (f:α→dJ){xs:List α}{x:α}[hd:iE (au f xs) H][hx:iE (f x) H](k:St n F (Mm c (aE (au f (x::xs))::H)) T):St n F (Mm c H) T:=
 St.iJ (au f (x::xs)) [au f xs,f x] (fun ρ h y hy=>by
  rcases List.mem_cons.1 hy with rfl|hy
  ·exact h _ (List.mem_cons_of_mem _ (List.mem_cons_self ..))
  ·exact h _ (List.mem_cons_self ..) y hy) k
end
abbrev iK (s:ax):Prop:=s.length≤140737488351232
structure mq where
 name:ax
 pv:dQ
 parents:List Int
structure gH where
 name:ax
 sD:Int
 value:Int
structure fp where
 dy:Int
 to:Int
structure jK where
 type:Int
 lv:dQ
 aV:List fp
structure eM where
 nv:dQ
 nodes:List jK
inductive dv where
 |mk (base:ax) (av:dQ) (args:List dv)
inductive cH where
 |mk (kind:Int) (name:ax) (index:Int) (type:dv) (av:dQ) (args:List cH)
inductive bV where
 |mk (eV lex:Int) (kv:dQ) (kids:List bV)
def dv.base:dv→ax| .mk b _ _=>b
def dv.av:dv→dQ| .mk _ v _=>v
def dv.args:dv→List dv| .mk _ _ l=>l
def cH.kind:cH→Int| .mk k _ _ _ _ _=>k
def cH.name:cH→ax| .mk _ s _ _ _ _=>s
def cH.index:cH→Int| .mk _ _ i _ _ _=>i
def cH.type:cH→dv| .mk _ _ _ t _ _=>t
def cH.av:cH→dQ| .mk _ _ _ _ v _=>v
def cH.args:cH→List cH| .mk _ _ _ _ _ l=>l
def bV.eV:bV→Int| .mk r _ _ _=>r
def bV.lex:bV→Int| .mk _ l _ _=>l
def bV.kv:bV→dQ| .mk _ _ v _=>v
def bV.kids:bV→List bV| .mk _ _ _ l=>l
structure bm where
 name:ax
 graph:eM
 kids:Int
 weight:Int
 cl:cH
structure cR where
 word:ax
 graph:eM
 weight:Int
 cl:cH
structure k7 where
 tv:dQ
 types:List mq
 fv:dQ
 c8:List gH
 rv:dQ
 rules:List bm
 xv:dQ
 bK:List cR
 start:eM
def fh:Rp mq:=⟨2,by decide,fun x=>[sv x.name,x.pv.1],fun x=>iK x.name,fun _=>rfl,fun x u h=>by simp at h;rcases h with rfl|rfl;rfl;exact x.pv.2⟩
def cV:Rp gH:=⟨3,by decide,fun x=>[sv x.name,iv x.sD,iv x.value],fun x=>iK x.name∧aj x.sD∧aj x.value,fun _=>rfl,fun x u h=>by simp at h;rcases h with rfl|rfl|rfl<;>rfl⟩
def gB:Rp fp:=⟨2,by decide,fun x=>[iv x.dy,iv x.to],fun x=>aj x.dy∧aj x.to,fun _=>rfl,fun x u h=>by simp at h;rcases h with rfl|rfl<;>rfl⟩
def gI:Rp jK:=⟨2,by decide,fun x=>[iv x.type,x.lv.1],fun x=>aj x.type,fun _=>rfl,fun x u h=>by simp at h;rcases h with rfl|rfl;rfl;exact x.lv.2⟩
def gp:Rp dv:=⟨2,by decide,fun x=>[sv x.base,x.av.1],fun x=>iK x.base,fun _=>rfl,fun x u h=>by simp at h;rcases h with rfl|rfl;rfl;exact x.av.2⟩
abbrev C8 (x:cH):List Value:=[iv x.kind,sv x.name,iv x.index,sv x.type.base,x.type.av.1,x.av.1]
theorem eF {u:Value}{L:List Value}(h:u.oneCell'=true)(k:∀v∈L,v.oneCell'=true):∀v∈u::L,v.oneCell'=true:=fun v hv=>by
 rcases List.mem_cons.1 hv with rfl|hv
 ·exact h
 ·exact k v hv
theorem G1:∀v∈([]:List Value),v.oneCell'=true:=fun v hv=>by cases hv
theorem nz (x:cH):∀u∈C8 x,u.oneCell'=true:=eF rfl (eF rfl (eF rfl (eF rfl (eF x.type.av.2 (eF x.av.2 G1)))))
def bx:Rp cH:=⟨6,by decide,C8,fun x=>aj x.kind∧iK x.name∧aj x.index∧iK x.type.base,fun _=>rfl,fun x u h=>nz x u h⟩
abbrev vJ (x:bV):List Value:=[iv x.eV,iv x.lex,x.kv.1]
def fR:Rp bV:=⟨3,by decide,vJ,fun x=>aj x.eV∧aj x.lex,fun _=>rfl,fun x u h=>by simp at h;rcases h with rfl|rfl|rfl;rfl;rfl;exact x.kv.2⟩
abbrev ID (x:bm):List Value:=[sv x.name,x.graph.nv.1,iv x.kids,iv x.weight,iv x.cl.kind,sv x.cl.name,iv x.cl.index,sv x.cl.type.base,x.cl.type.av.1,x.cl.av.1]
def cJ:Rp bm:=⟨10,by decide,ID,fun x=>iK x.name∧aj x.kids∧aj x.weight∧bx.wf x.cl,fun _=>rfl,fun x u h=>eF rfl (eF x.graph.nv.2 (eF rfl (eF rfl (nz x.cl)))) u h⟩
abbrev AN (x:cR):List Value:=[sv x.word,x.graph.nv.1,iv x.weight,iv x.cl.kind,sv x.cl.name,iv x.cl.index,sv x.cl.type.base,x.cl.type.av.1,x.cl.av.1]
def c6:Rp cR:=⟨9,by decide,AN,fun x=>iK x.word∧aj x.weight∧bx.wf x.cl,fun _=>rfl,fun x u h=>eF rfl (eF x.graph.nv.2 (eF rfl (nz x.cl))) u h⟩
instance (x:mq):fw fh x [sv x.name,x.pv.1]:=⟨rfl⟩
instance (x:gH):fw cV x [sv x.name,iv x.sD,iv x.value]:=⟨rfl⟩
instance (x:fp):fw gB x [iv x.dy,iv x.to]:=⟨rfl⟩
instance (x:jK):fw gI x [iv x.type,x.lv.1]:=⟨rfl⟩
instance (x:dv):fw gp x [sv x.base,x.av.1]:=⟨rfl⟩
instance (x:cH):fw bx x (C8 x):=⟨rfl⟩
instance (x:bV):fw fR x (vJ x):=⟨rfl⟩
instance (x:bm):fw cJ x (ID x):=⟨rfl⟩
instance (x:cR):fw c6 x (AN x):=⟨rfl⟩
inductive ob (ρ:Ro):dv→Prop
 |mk {x:dv} (h:(sl gp x.av.1 x.args).f ρ) (k:∀y∈x.args,ob ρ y):ob ρ x
inductive mM (ρ:Ro):cH→Prop
 |mk {x:cH} (ht:ob ρ x.type) (h:(sl bx x.av.1 x.args).f ρ) (k:∀y∈x.args,mM ρ y):mM ρ x
inductive o1 (ρ:Ro):bV→Prop
 |mk {x:bV} (h:(sl fR x.kv.1 x.kids).f ρ) (k:∀y∈x.kids,o1 ρ y):o1 ρ x
theorem ob.mono {ρ gS:Ro}(h:∀k o,ρ k=some o→gS k=some o){x:dv}(hx:ob ρ x):ob gS x:=by
 induction hx with
 |mk h1 _ ih=>exact .mk ((sl _ _ _).mono _ _ h h1) ih
theorem mM.mono {ρ gS:Ro}(h:∀k o,ρ k=some o→gS k=some o){x:cH}(hx:mM ρ x):mM gS x:=by
 induction hx with
 |mk ht h1 _ ih=>exact .mk (ht.mono h) ((sl _ _ _).mono _ _ h h1) ih
theorem o1.mono {ρ gS:Ro}(h:∀k o,ρ k=some o→gS k=some o){x:bV}(hx:o1 ρ x):o1 gS x:=by
 induction hx with
 |mk h1 _ ih=>exact .mk ((sl _ _ _).mono _ _ h h1) ih
def dB (x:dv):dJ:=⟨fun ρ=>ob ρ x,fun _ _ h k=>k.mono h⟩
def bW (x:cH):dJ:=⟨fun ρ=>mM ρ x,fun _ _ h k=>k.mono h⟩
def dV (x:bV):dJ:=⟨fun ρ=>o1 ρ x,fun _ _ h k=>k.mono h⟩
def hY (x:mq):dJ:=sl aF x.pv.1 x.parents
def fD (x:jK):dJ:=sl gB x.lv.1 x.aV
def py (g:eM):List dJ:=[sl gI g.nv.1 g.nodes,au fD g.nodes]
def bz (g:eM):dJ:=mo (py g)
def IE (x:bm):List dJ:=[bz x.graph,bW x.cl]
def cK (x:bm):dJ:=mo (IE x)
def M0 (x:cR):List dJ:=[bz x.graph,bW x.cl]
def dn (x:cR):dJ:=mo (M0 x)
def G2 (g:k7):List dJ:=[sl fh g.tv.1 g.types,au hY g.types,sl cV g.fv.1 g.c8,sl cJ g.rv.1 g.rules,au cK g.rules,sl c6 g.xv.1 g.bK,au dn g.bK,bz g.start]
def jD (g:k7):dJ:=mo (G2 g)
section
variable {n:Nat}{F:Fr}{c:Ctx}{H R:List bE}{T:Act→World→Prop}
theorem St.mr (x:dv)[hd:iE (dB x) H](k:St n F (Mm c (aE (sl gp x.av.1 x.args)::aE (au dB x.args)::H)) T):St n F (Mm c H) T:=
 St.fP (ι:=Unit) (dB x) (fun _=>[sl gp x.av.1 x.args,au dB x.args]) (fun ρ h=>⟨(),fun e he=>by
  cases h with
  |mk h k=>
   simp only[List.mem_cons,List.not_mem_nil,or_false]at he
   rcases he with rfl|rfl
   ·exact h
   ·exact k⟩) fun _=>k
theorem St.vK (x:cH)[hd:iE (bW x) H](k:St n F (Mm c (aE (dB x.type)::aE (sl bx x.av.1 x.args)::aE (au bW x.args)::H)) T):St n F (Mm c H) T:=
 St.fP (ι:=Unit) (bW x) (fun _=>[dB x.type,sl bx x.av.1 x.args,au bW x.args]) (fun ρ h=>⟨(),fun e he=>by
  cases h with
  |mk ht h k=>
   simp only[List.mem_cons,List.not_mem_nil,or_false]at he
   rcases he with rfl|rfl|rfl
   ·exact ht
   ·exact h
   ·exact k⟩) fun _=>k
theorem St.vL (x:bV)[hd:iE (dV x) H](k:St n F (Mm c (aE (sl fR x.kv.1 x.kids)::aE (au dV x.kids)::H)) T):St n F (Mm c H) T:=
 St.fP (ι:=Unit) (dV x) (fun _=>[sl fR x.kv.1 x.kids,au dV x.kids]) (fun ρ h=>⟨(),fun e he=>by
  cases h with
  |mk h k=>
   simp only[List.mem_cons,List.not_mem_nil,or_false]at he
   rcases he with rfl|rfl
   ·exact h
   ·exact k⟩) fun _=>k
end
end Go.J
namespace Go.Proofs.YtoioijgdggkabaaGreatDoor
open Go Go.J
inductive eZ where
 |mk (base:ax) (args:List eZ)
inductive fS where
 |mk (kind:Int) (name:ax) (index:Int) (type:eZ) (args:List fS)
inductive gU where
 |mk (eV lex:Int) (kids:List gU)
mutual
def cD:dv→eZ
 | .mk b _ l=> .mk b (zJ l)
def zJ:List dv→List eZ
 | []=>[]
 |x::l=>cD x::zJ l
end
mutual
def bN:cH→fS
 | .mk k s i t _ l=> .mk k s i (cD t) (tX l)
def tX:List cH→List fS
 | []=>[]
 |x::l=>bN x::tX l
end
mutual
def ay:bV→gU
 | .mk r x _ l=> .mk r x (tY l)
def tY:List bV→List gU
 | []=>[]
 |x::l=>ay x::tY l
end
theorem o2:∀l:List dv,zJ l=l.map cD
 | []=>rfl
 |x::l=>by rw[zJ,o2 l];rfl
theorem mN:∀l:List cH,tX l=l.map bN
 | []=>rfl
 |x::l=>by rw[tX,mN l];rfl
theorem gN:∀l:List bV,tY l=l.map ay
 | []=>rfl
 |x::l=>by rw[tY,gN l];rfl
def eZ.base:eZ→ax| .mk b _=>b
def eZ.args:eZ→List eZ| .mk _ l=>l
def fS.kind:fS→Int| .mk k _ _ _ _=>k
def fS.name:fS→ax| .mk _ s _ _ _=>s
def fS.index:fS→Int| .mk _ _ i _ _=>i
def fS.type:fS→eZ| .mk _ _ _ t _=>t
def fS.args:fS→List fS| .mk _ _ _ _ l=>l
def gU.eV:gU→Int| .mk r _ _=>r
def gU.lex:gU→Int| .mk _ l _=>l
def gU.kids:gU→List gU| .mk _ _ l=>l
theorem lV (x:dv):(cD x).base=x.base:=by cases x;rfl
theorem gO (x:dv):(cD x).args=x.args.map cD:=by cases x;exact o2 _
theorem mO (x:cH):(bN x).args=x.args.map bN:=by cases x;exact mN _
abbrev dh:=ax×List Int
abbrev kR:=ax×Int×Int
abbrev M1:=Int×List (Int×Int)
abbrev gF:=List M1
structure nX where
 name:ax
 graph:gF
 kids:Int
 weight:Int
 cl:fS
structure FK where
 word:ax
 graph:gF
 weight:Int
 cl:fS
structure mP where
 types:List dh
 c8:List kR
 rules:List nX
 bK:List FK
 start:gF
def ck (x:mq):dh:=(x.name,x.parents)
def ey (x:gH):kR:=(x.name,x.sD,x.value)
def jt (x:fp):Int×Int:=(x.dy,x.to)
def r6 (x:jK):M1:=(x.type,x.aV.map jt)
def fM (g:eM):gF:=g.nodes.map r6
def pE (x:bm):nX:=⟨x.name,fM x.graph,x.kids,x.weight,bN x.cl⟩
def k8 (x:cR):FK:=⟨x.word,fM x.graph,x.weight,bN x.cl⟩
def iW (g:k7):mP:=⟨g.types.map ck,g.c8.map ey,g.rules.map pE,g.bK.map k8,fM g.start⟩
def lu (i:Int):Int→List Int→Int×Int
 |_,[]=>(0,0)
 |last,p::ps=>if p<0∨i≤p then(3,i)else if p≤last then(13,i)else lu i p ps
def gq:List ax→Nat→List dh→Int×Int
 |_,_,[]=>(0,0)
 |known,i,t::ts=>if isName t.1=false then(10,i)else if t.1∈known then(7,i)else if decide (i=0)≠decide (t.2.length=0)then(5,i)
  else if(lu i (-1) t.2).1≠0 then lu i (-1) t.2 else gq (known++ [t.1]) (i+1) ts
def sF (l:List dh):Int×Int:=if l.length=0∨60<l.length then(2,-1)else gq [] 0 l
def C9 (U:List Nat)(i:Nat)(ps:List Int):Nat:=ps.foldl (fun u p=>u|||U.getD p.toNat 0) (2^i)
def jL:List Nat→List dh→List Nat
 |U,[]=>U
 |U,t::l=>jL (U++ [C9 U U.length t.2]) l
def rH (l:List dh):List Nat:=jL [] l
def eS (l:List dh)(i j:Nat):Bool:=((rH l).getD i 0).testBit j
def comm (l:List dh)(a b:Nat):List Nat:=(List.range l.length).filter fun i=>eS l i a&&eS l i b
def ik (l:List dh)(a b:Nat):Bool:=match comm l a b with
 | []=>false
 |m::r=>r.any fun i=> !eS l i m
def oc (l:List dh):Option Nat:=(List.range l.length).find? fun b=>(List.range b).any fun a=>ik l a b
def il (n:Int):List ax→Nat→List kR→Int×Int
 |_,_,[]=>(0,0)
 |known,i,f::fs=>if isName f.1=false then(10,i)else if f.1∈known then(7,i)else if f.2.1<0∨n≤f.2.1∨f.2.2<0∨n≤f.2.2 then(3,i)else il n (known++ [f.1]) (i+1) fs
def fq (ts:List dh)(fs:List kR):Int×Int:=
 if 40<fs.length then(2,-1)else if(sF ts).1≠0 then sF ts else match oc ts with
  |some b=>(16,b)
  |none=>il ts.length [] 0 fs
def uc (nf nn i:Int):Int→List (Int×Int)→Int×Int
 |_,[]=>(0,0)
 |last,x::xs=>if x.1<0∨nf≤x.1∨x.2<0∨nn≤x.2 then(3,i)else if x.1≤last then(13,i)else uc nf nn i x.1 xs
def df (nt nf nn:Int):Nat→gF→Int×Int
 |_,[]=>(0,0)
 |i,x::xs=>if x.1<0∨nt≤x.1 then(3,i)else if(uc nf nn i (-1) x.2).1≠0 then uc nf nn i (-1) x.2 else df nt nf nn (i+1) xs
def e8 (nt nf:Int)(g:gF):Int×Int:=if g.length=0∨60<g.length then(2,-2)else df nt nf g.length 0 g
def sG:M1:=(0,[])
def WU:kR:=([],0,0)
def zK (ts:List dh)(fs:List kR)(g:gF)(t:Int)(x:Int×Int):Bool:=
 !eS ts t.toNat (fs.getD x.1.toNat WU).2.1.toNat|| !eS ts (g.getD x.2.toNat sG).1.toNat (fs.getD x.1.toNat WU).2.2.toNat
def mu (ts:List dh)(fs:List kR)(g:gF)(i:Nat):Bool:=(g.getD i sG).2.any (zK ts fs g (g.getD i sG).1)
def im (ts:List dh)(fs:List kR)(g:gF):Option Nat:=(List.range g.length).find? (mu ts fs g)
def vM (i:Nat)(M:List Bool)(x:Int×Int):List Bool:=if M.getD i false then M.set x.2.toNat true else M
def IG (g:gF)(M:List Bool)(i:Nat):List Bool:=(g.getD i sG).2.foldl (vM i) M
def pass (g:gF)(M:List Bool):List Bool:=(List.range g.length).foldl (IG g) M
def cm (g:gF):Nat→List Bool
 |0=>(List.replicate g.length false).set 0 true
 |k+1=>pass g (cm g k)
def k9:List Bool→Int
 | []=> -1
 |b::l=>if b=false then 0 else if k9 l<0 then-1 else k9 l+1
def L9 (g:gF):Int:=k9 (cm g g.length)
def cO (ts:List dh)(fs:List kR)(g:gF):Int×Int:=
 if(e8 ts.length fs.length g).1≠0 then e8 ts.length fs.length g else match im ts fs g with
  |some i=>(12,i)
  |none=>if 0≤L9 g then(5,L9 g)else(0,0)
def M3 (g:gF)(k:Int):Int:=match(g.getD 0 sG).2.find? fun x=>x.1==k with
 |some x=>x.2
 |none=> -1
def mw (g:gF)(kids:Int):Bool:=(List.range 4).all fun k=>decide (0≤M3 g k)==decide ((k:Int)≤kids)
abbrev sE:ax:=[101]
abbrev sT:ax:=[116]
def fT (b:ax)(m:Nat):Bool:=(decide (b=sE)||decide (b=sT))&&decide (m=0)||decide (b=[])&&decide (m=2)
mutual
def iL:eZ→Nat→Nat→Nat×Int
 | .mk b l,d,n=>if 200<n+1∨40<d then(n+1,1)else if fT b l.length=false then(n+1,5)else iA l (d+1) (n+1)
def iA:List eZ→Nat→Nat→Nat×Int
 | [],_,n=>(n,0)
 |x::l,d,n=>if(iL x d n).2≠0 then iL x d n else iA l d (iL x d n).1
end
def o3 (s:eZ):Int:=(iL s 1 0).2
def kN (s:eZ):Bool:=decide (s.base=[])&&decide (s.args.length=0)
mutual
def iB:eZ→eZ→Bool
 | .mk a l,.mk b m=>decide (a=b)&&decide (l.length=m.length)&&jX l m
def jX:List eZ→List eZ→Bool
 |x::l,y::m=>iB x y&&jX l m
 |_,_=>true
end
def gC (kind:Int)(name:ax)(index:Int)(type:eZ)(m:Nat)(bd:Nat):Int:=
 if kind=1 then(if index≠0∨m≠0 then 5 else if isName name=false then 10 else if o3 type≠0 then 12 else 0)
 else if kind=2 then(if name≠ []∨kN type=false∨m≠0 then 5 else if index<0∨(bd:Int)≤index then 15 else 0)
 else if kind=3 then(if name≠ []∨index≠0∨m≠1 then 5 else if o3 type≠0 then 12 else 0)
 else if kind=4 then(if name≠ []∨index≠0∨kN type=false∨m≠2 then 5 else 0)
 else 4
mutual
def ft:fS→Nat→Nat→Nat→Nat×Int×Int
 | .mk k s i t l,d,bd,n=>if 200<n+1∨40<d then(n+1,1,n)else if gC k s i t l.length bd≠0 then(n+1,gC k s i t l.length bd,n)else jY l (d+1) (if k=3 then bd+1 else bd) (n+1)
def jY:List fS→Nat→Nat→Nat→Nat×Int×Int
 | [],_,_,n=>(n,0,0)
 |x::l,d,bd,n=>if(ft x d bd n).2.1≠0 then ft x d bd n else jY l d bd (ft x d bd n).1
end
def xV:Option eZ→Option eZ→Option eZ
 |some (.mk _ [a,b]),some x=>if iB a x then some b else none
 |_,_=>none
mutual
def pF:fS→List eZ→Option eZ
 | .mk k _ i t l,c=>if k=1 then some t else if k=2 then c[c.length-1-i.toNat]? else if k=3 then(jM l (c++ [t])).map fun b=> .mk [] [t,b]else xV (jM l c) (tZ l c)
def jM:List fS→List eZ→Option eZ
 |x::_,c=>pF x c
 | [],_=>none
def tZ:List fS→List eZ→Option eZ
 |_::l,c=>jM l c
 | [],_=>none
end
def kh (t:fS):Int×Int:=if(ft t 1 0 0).2.1≠0 then(ft t 1 0 0).2 else if(pF t []).isNone then(12,-1)else(0,0)
def kk (ts:List dh)(fs:List kR)(r:nX):Int:=
 if r.kids<1∨3<r.kids∨r.weight<0∨1000000<r.weight then 3 else if(cO ts fs r.graph).1≠0 then(cO ts fs r.graph).1 else if mw r.graph r.kids=false then 5 else(kh r.cl).1
def pz (ts:List dh)(fs:List kR)(x:FK):Int:=
 if isWord x.word=false then 10 else if x.weight<0∨1000000<x.weight then 3 else if(cO ts fs x.graph).1≠0 then(cO ts fs x.graph).1 else(kh x.cl).1
def fi (ts:List dh)(fs:List kR):List ax→Nat→List nX→Int×Int
 |_,_,[]=>(0,0)
 |known,i,r::rs=>if isName r.name=false then(10,i)else if r.name∈known then(7,i)else if kk ts fs r≠0 then(kk ts fs r,i)else fi ts fs (known++ [r.name]) (i+1) rs
def fj (ts:List dh)(fs:List kR):Nat→List FK→Int×Int
 |_,[]=>(0,0)
 |i,x::xs=>if pz ts fs x≠0 then(pz ts fs x,i)else fj ts fs (i+1) xs
def q7 (g:mP):Int×Int:=
 if(fq g.types g.c8).1≠0 then fq g.types g.c8 else if g.c8.length≤3 then(9,-1)else if 40<g.rules.length∨100<g.bK.length then(2,-1)
 else if(fi g.types g.c8 [] 0 g.rules).1≠0 then fi g.types g.c8 [] 0 g.rules else if(fj g.types g.c8 0 g.bK).1≠0 then fj g.types g.c8 0 g.bK
 else if(cO g.types g.c8 g.start).1≠0 then((cO g.types g.c8 g.start).1,-1)else(0,0)
structure AO where
 nodes:Nat
 leaves:Nat
mutual
def ju (rk:List Int)(nl:Int):gU→Nat→Nat→AO→AO×Int×Int
 | .mk r x l,d,ch,s=>
  if 200<s.nodes+1∨48<d then(⟨s.nodes+1,s.leaves⟩,1,s.nodes)
  else if r< -1∨rk.length≤r∨(r= -1∧(x<0∨nl≤x))then(⟨s.nodes+1,s.leaves⟩,3,s.nodes)
  else if 0≤r∧x≠0 then(⟨s.nodes+1,s.leaves⟩,5,s.nodes)
  else if(l.length:Int)≠(if 0≤r then rk.getD r.toNat 0 else 0)then(⟨s.nodes+1,if 0≤r then s.leaves else s.leaves+1⟩,9,s.nodes)
  else if 3<(if l.length=1 then ch+1 else 0)then(⟨s.nodes+1,if 0≤r then s.leaves else s.leaves+1⟩,14,s.nodes)
  else jE rk nl l (d+1) (if l.length=1 then ch+1 else 0) ⟨s.nodes+1,if 0≤r then s.leaves else s.leaves+1⟩
def jE (rk:List Int)(nl:Int):List gU→Nat→Nat→AO→AO×Int×Int
 | [],_,_,s=>(s,0,0)
 |x::l,d,ch,s=>if(ju rk nl x d ch s).2.1≠0 then ju rk nl x d ch s else jE rk nl l d ch (ju rk nl x d ch s).1
end
def km (g:mP)(t:gU):Int×Int:=
 if(ju (g.rules.map nX.kids) g.bK.length t 1 0 ⟨0,0⟩).2.1≠0 then(ju (g.rules.map nX.kids) g.bK.length t 1 0 ⟨0,0⟩).2
 else if 12<(ju (g.rules.map nX.kids) g.bK.length t 1 0 ⟨0,0⟩).1.leaves then(2,-2)else(0,0)
end Go.Proofs.YtoioijgdggkabaaGreatDoor
namespace Go.J
open Go
def bZ (u v:Value):dJ:=⟨fun _=>u=v,fun _ _ _ h=>h⟩
structure od where
 slot:Nat
 gr:List Nat
 K:Value→dJ
instance:Inhabited od:=⟨⟨0,[],fun u=>bZ u u⟩⟩
def q8 (bs:List od)(e:Nat→Value)(ds:List Nat):Fr:=ds.map fun j=>((bs.getD j default).slot,e j)
def my (bs:List od)(e:Nat→Value)(ds:List Nat):List bE:=ds.map fun j=>aE ((bs.getD j default).K (e j))
def mz (c:Ctx)(H:List bE)(slot:Nat)(K:Value→dJ)(a:Act)(w:World):Prop:=a.defers=[]∧∃u,a.tmps[slot]?=some u∧Mm c (aE (K u)::H) w
section
variable {P:Program}{ops:Array Oper}{Q:Exit→Act→World→Prop}{n:Nat}{F:Fr}{c:Ctx}{H R:List bE}
class AP (H H':List bE):Prop where
 eq:∃L,H'=L++H
instance (priority:=high) AP.here (H:List bE):AP H H:=⟨[],rfl⟩
instance AP.there (E:bE)(H H':List bE)[h:AP H H']:AP H (E::H'):=⟨let⟨L,e⟩:=h.eq;⟨E::L,by rw[e];rfl⟩⟩
theorem dt.tail {c:Ctx}{L H:List bE}{ρ:Ro}{w:World}(h:dt c (L++H) ρ w):dt c H ρ w:=by
 induction L with
 |nil=>exact h
 |cons E L ih=>exact ih (dt.drop h)
theorem St.aI {Fb:Fr}{H':List bE}{slot:Nat}{K:Value→dJ}(u:Value)(hl:look Fb slot=some u)(d:dJ)(hd:K u=d)[hi:iE d H'][tl:AP H H']:St n Fb (Mm c H') (mz c H slot K):=
 fun a w ha hw=>⟨ha.defers,u,ha.slot _ _ hl,by
  rw[hd];obtain⟨ρ,hm⟩:=hw.out
  have jk:=cw.1 (hm.ct _ hi.mem)
  obtain⟨L,e⟩:=tl.eq;subst e
  exact Mm.mk (hm.tail.fact d jk)⟩
def Jk (P:Program)(ops:Array Oper)(Q:Exit→Act→World→Prop)(n:Nat)(F:Fr)(dr:Prop)(H:List bE)(bs:List od)(b:od)(o:Oper):Prop:=
 ∀(c:Ctx) (e:Nat→Value),(¬dr→¬c.dr)→St n (q8 bs e b.gr++F) (Mm c (my bs e b.gr++H)) (wpList P ops (Exit.then (mz c H b.slot b.K) Q) [o])
theorem Jk.mk {dr:Prop}{bs:List od}{slot:Nat}{gr:List Nat}{K:Value→dJ}{o:Oper}(Ff:(Nat→Value)→Fr)(L:(Nat→Value)→List bE)(h1:∀e,q8 bs e gr=Ff e)(h2:∀e,my bs e gr=L e)
 (k:∀(c:Ctx) (e:Nat→Value),(¬dr→¬c.dr)→St n (Ff e++F) (Mm c (L e++H)) (wpList P ops (Exit.then (mz c H slot K) Q) [o])):Jk P ops Q n F dr H bs ⟨slot,gr,K⟩ o:=fun c e hd=>by
 show St n (q8 bs e gr++F) (Mm c (my bs e gr++H)) _
 rw[h1,h2];exact k c e hd
def ab (P:Program)(ops:Array Oper)(Q:Exit→Act→World→Prop)(n:Nat)(F:Fr)(dr:Prop)(H:List bE)(bs:List od):List od→List Oper→Prop
 | [],[]=>True
 |b::l,o::m=>Jk P ops Q n F dr H bs b o∧ab P ops Q n F dr H bs l m
 |_,_=>False
theorem ab.nil {dr:Prop}{bs:List od}:ab P ops Q n F dr H bs [] []:=trivial
theorem ab.cons {dr:Prop}{bs l:List od}{b:od}{o:Oper}{m:List Oper}(h:Jk P ops Q n F dr H bs b o)(k:ab P ops Q n F dr H bs l m):ab P ops Q n F dr H bs (b::l) (o::m):=⟨h,k⟩
theorem ab.at_ {dr:Prop}{bs:List od}:∀{l:List od} {m:List Oper},ab P ops Q n F dr H bs l m→l.length=m.length∧∀(i:Nat) (b:od) (o:Oper),l[i]?=some b→m[i]?=some o→Jk P ops Q n F dr H bs b o
 | [],[],_=>⟨rfl,fun i b o h=>by simp at h⟩
 | [],_::_,h=>h.elim
 |_::_,[],h=>h.elim
 |b::l,o::m,h=>by
  obtain⟨h1,h2⟩:=ab.at_ h.2;refine⟨by simp[h1],fun i b' o' hb ho=> ?_⟩
  cases i with
  |zero=>simp at hb ho;subst hb ho;exact h.1
  |succ i=>exact h2 i b' o' (by simpa using hb) (by simpa using ho)
def CA (n lo:Nat)(ex:List Nat)(sd:List (Nat×List Nat))(hd:List Oper):Bool:=
 (sd.zip hd).all (fun p=>p.2.guard.isNone&&p.2.dst==some p.1.1&&Nat.ble (p.1.1+1) n&&(Nat.ble lo p.1.1||ex.contains p.1.1)&&p.1.2.all (fun j=>Nat.ble (j+1) sd.length&&p.2.after.any fun e=>Region.binds .any e&&e.on==j))&&
  (sd.map (·.1)).Nodup
theorem Jl {o:Oper}{a:Act}{w:World}{K:Act→World→Prop}(h:o.wp P a w K Q):o.wp P a w (fun a' w'=>K a' w'∧((∃v,a'=a.put o.dst v)∨a'.defers≠ [])) Q:=by
 unfold Oper.wp at*
 generalize (execOp a.eval o).run P w=r at*
 cases r with
 |ok nx w'=>
  cases nx<;>simp only[Oper.upon]at h⊢
  case value u=>exact⟨h,.inl ⟨u,rfl⟩⟩
  case skip=>exact⟨h,.inl ⟨undef,rfl⟩⟩
  case defer d=>exact⟨h,.inr (by cases o.dst<;>simp[Act.put])⟩
  case enter f args=>
   refine Calls.mono h fun e Hz he=> ?_
   cases e with
   |returned u=>exact⟨he,.inl ⟨u,rfl⟩⟩
   |panicked c=>exact he
   |outgrown=>exact he
  case row WN args=>exact Rows.mono h fun u Hz he=>⟨he,.inl ⟨u,rfl⟩⟩
  all_goals exact h
 |halt x w'=>
  cases x<;>simp only[Oper.upon]at h⊢
  all_goals exact h
theorem sH {i:Nat}{o:Oper}(hi:ops[i]?=some o)(hg:o.guard=none){a:Act}{w:World}{K:Act→World→Prop}(h:wpOp P ops Q i K a w):wpOp P ops Q i (fun a' w'=>K a' w'∧((∃v,a'=a.put o.dst v)∨a'.defers≠ [])) a w:=by
 unfold wpOp at*;rw[hi]at h⊢
 have hw:Region.wanted o (yielded ops a.tmps)=true:=by unfold Region.wanted;rw[hg]
 simp only[hw,if_true]at h⊢
 exact h.imp Jl id
theorem xW {p q:Nat→Bool}{i:Nat}(hp:p i=true)(hq:q i=false)(h:∀j,j≠i→p j=q j):∀m,i<m→(List.range m).countP p=(List.range m).countP q+1:=by
 have eq:∀m,m≤i→(List.range m).countP p=(List.range m).countP q:=by
  intro m hm
  refine List.countP_congr fun j hj=> ?_
  have:=List.mem_range.1 hj
  rw[h j (by omega)]
 intro m
 induction m with
 |zero=>intro h;omega
 |succ m ih=>
  intro hm;rw[List.range_succ,List.countP_append,List.countP_append,List.countP_singleton,List.countP_singleton]
  by_cases e:i=m
  ·subst e
   rw[eq i (Nat.le_refl _),hp,hq];simp
  ·rw[ih (by omega),h m (Ne.symm e)];omega
def FL (m:Nat)(listed:Array Bool):Nat:=(List.range m).countP fun j=> !listed.getD j true
theorem dt.G3 {c:Ctx}{H:List bE}{ρ:Ro}{w:World}(h:dt c H ρ w):dt ⟨w,ρ,jB H,c.dr⟩ H ρ w:=
 ⟨rfl,⟨rfl,fun _=>Nat.le_refl _⟩,rfl,Nat.le_refl _,fun _ _ _=>rfl,h.fits,Ro.le_refl _,fun _ _ _=>rfl,h.ct,fun E hE b hb=>⟨(h.own E hE b hb).1,.inr ⟨E,hE,hb⟩⟩,h.A7⟩
theorem vN:∀{F:Fr} {t:Nat} {x:Value},look F t=some x→t∈F.map (·.1)
 | [],_,_,h=>by simp[look]at h
 |(k,u)::F,t,x,h=>by
  simp only[look]at h
  cases hb:Nat.beq t k with
  |true=>rw[Nat.eq_of_beq_eq_true hb];simp
  |false=>
   simp only[hb,cond_false]at h
   have:=vN h
   simp only[List.map_cons,List.mem_cons];exact .inr this
def tb (acc:List Nat)(o:Oper):Nat:=o.after.toList.foldl (fun u e=>if Region.binds .any e then u|||(2^e.on|||acc.getD e.on 0)else u) 0
def eG:List Oper→List Nat→List Nat
 | [],acc=>acc
 |o::l,acc=>eG l (acc++ [tb acc o])
theorem xX (acc:List Nat)(o:Oper){j:Nat}(h:(tb acc o).testBit j=true):∃e∈o.after,Region.binds .any e=true∧(e.on=j∨(acc.getD e.on 0).testBit j=true):=by
 have key:∀(l:List Edge) (u:Nat),(l.foldl (fun u e=>if Region.binds .any e then u|||(2^e.on|||acc.getD e.on 0)else u) u).testBit j=true→u.testBit j=true∨∃e∈l,Region.binds .any e=true∧(e.on=j∨(acc.getD e.on 0).testBit j=true):=by
  intro l
  induction l with
  |nil=>intro u h;exact .inl h
  |cons e l ih=>
   intro u h;rw[List.foldl_cons]at h
   rcases ih _ h with h1|⟨e',he,h1⟩
   ·split at h1
    ·rename_i hb
     rw[Nat.testBit_or,Nat.testBit_or,Bool.or_eq_true,Bool.or_eq_true,Nat.testBit_two_pow,decide_eq_true_eq]at h1
     rcases h1 with h1|h1
     ·exact .inl h1
     ·exact .inr ⟨e,List.mem_cons_self ..,hb,h1⟩
    ·exact .inl h1
   ·exact .inr ⟨e',List.mem_cons_of_mem _ he,h1⟩
 rcases key _ _ h with h1|⟨e,he,h1⟩
 ·rw[Nat.zero_testBit]at h1;cases h1
 ·exact⟨e,by simpa using he,h1⟩
theorem kA:∀(l m:List Oper) (acc:List Nat),eG (l++m) acc=eG m (eG l acc)
 | [],_,_=>rfl
 |o::l,m,acc=>by rw[List.cons_append,eG,eG,kA l m]
theorem o4:∀(l:List Oper) (acc:List Nat),(eG l acc).length=acc.length+l.length
 | [],_=>rfl
 |o::l,acc=>by rw[eG,o4 l];simp;omega
theorem o5:∀(l:List Oper) (acc:List Nat) (i:Nat),i<acc.length→(eG l acc)[i]?=acc[i]?
 | [],_,_,_=>rfl
 |o::l,acc,i,h=>by rw[eG,o5 l _ i (by simp;omega),List.getElem?_append_left h]
theorem CB {l:List Oper}{i:Nat}{o:Oper}(h:l[i]?=some o):(eG l []).getD i 0=tb (eG (l.take i) []) o:=by
 have hi:=(List.getElem?_eq_some_iff.1 h).1
 have e:eG l []=eG (l.drop (i+1)) (eG (l.take i) []++ [tb (eG (l.take i) []) o]):=by
  conv=>lhs;rw[←List.take_append_drop i l]
  rw[kA,List.drop_eq_getElem_cons hi,eG];rw[List.getElem?_eq_getElem hi]at h;rw[Option.some.inj h]
 have hl:(eG (l.take i) []).length=i:=by rw[o4,List.length_take];simp;omega
 rw[e,List.getD_eq_getElem?_getD,o5 _ _ _ (by simp[hl]),List.getElem?_append_right (by omega),hl,Nat.sub_self];rfl
theorem xY {l:List Oper}{i j:Nat}(h:j<i)(hi:i≤l.length):(eG (l.take i) []).getD j 0=(eG l []).getD j 0:=by
 have e:eG l []=eG (l.drop i) (eG (l.take i) []):=by rw[←kA,List.take_append_drop]
 rw[e,List.getD_eq_getElem?_getD,List.getD_eq_getElem?_getD,o5 (l.drop i) (eG (l.take i) []) j (by rw[o4,List.length_take];simp;omega)]
def ko (l:List Oper)(m:Nat):Bool:=
 ((List.range l.length).all fun i=>match l[i]? with
  |some o=>(o.after.all fun e=>Nat.ble (e.on+1) i)&&(Nat.ble i m||o.after.any fun e=>Region.binds .any e&&e.on==i-1)
  |none=>false)&&(Nat.ble l.length m||(eG l []).getD m 0==2^m-1)
theorem iq {l:List Oper}{m i:Nat}{o:Oper}(h:ko l m=true)(ho:l[i]?=some o):∀e∈o.after,e.on<i:=by
 have hi:=(List.getElem?_eq_some_iff.1 ho).1
 simp only[ko,Bool.and_eq_true]at h
 have h1:=List.all_eq_true.1 h.1 i (List.mem_range.2 hi)
 simp only[ho,Bool.and_eq_true]at h1
 intro e he;exact Nat.le_of_ble_eq_true ((Array.all_eq_true_iff_forall_mem.1 h1.1) e he)
theorem q9 {l:List Oper}{m i:Nat}{o:Oper}(h:ko l m=true)(ho:l[i]?=some o)(hm:m<i):∃e∈o.after,Region.binds .any e=true∧e.on=i-1:=by
 have hi:=(List.getElem?_eq_some_iff.1 ho).1
 simp only[ko,Bool.and_eq_true]at h
 have h1:=List.all_eq_true.1 h.1 i (List.mem_range.2 hi)
 simp only[ho,Bool.and_eq_true,Bool.or_eq_true]at h1
 rcases h1.2 with h2|h2
 ·have:=Nat.le_of_ble_eq_true h2;omega
 ·obtain⟨e,he,hb⟩:=Array.any_eq_true'.1 h2
  simp only[Bool.and_eq_true,beq_iff_eq]at hb
  exact⟨e,he,hb.1,hb.2⟩
def pS (l:List Oper)(listed:Array Bool):Prop:=∀i o,l[i]?=some o→listed.getD i false=true→∀e∈o.after,Region.binds .any e=true→listed.getD e.on false=true
theorem pS.all {l:List Oper}{m:Nat}{listed:Array Bool}(hB:ko l m=true)(hc:pS l listed):∀(i:Nat) (o:Oper),l[i]?=some o→(∀e∈o.after,Region.binds .any e=true→listed.getD e.on false=true)→∀j,((eG l []).getD i 0).testBit j=true→listed.getD j false=true:=by
 intro i
 induction i using Nat.strongRecOn with
 |ind i ih=>
  intro o ho ej j hj
  have hi:=(List.getElem?_eq_some_iff.1 ho).1
  rw[CB ho]at hj;obtain⟨e,he,hb,h1⟩:=xX _ _ hj
  have iU:=iq hB ho e he
  have hl:=ej e he hb
  rcases h1 with rfl|h1
  ·exact hl
  ·rw[xY iU (by omega)]at h1
   have WV:l[e.on]?=some l[e.on]:=List.getElem?_eq_getElem (by omega)
   exact ih e.on iU _ WV (hc _ _ WV hl) j h1
theorem n1 {l:List Oper}{m:Nat}(hB:ko l m=true):∀(r:List Oper) (k:Nat) (listed:Array Bool) (a:Act) (w:World),m≤k→(∀j:Nat,r[j]?=l[k+j]?)→k+r.length=l.length→tN k listed l.length→
 wpList P l.toArray Q r a w→wpAny P .any l.toArray Q r.length listed a w
 | [],k,listed,a,w,_,_,hs,hu,h=>by
  refine⟨?_,h⟩;unfold Region.ready;rw[List.filter_eq_nil_iff];intro i hi
  have LA:=List.mem_range.1 hi
  simp only[List.size_toArray]at LA
  have:listed.getD i true=true:=by rw[hu.getD i true LA];simp at hs;simp;omega
  simp[this]
 |o::r,k,listed,a,w,WW,hl,hs,hu,h=>by
  have hk:k<l.length:=by simp at hs;omega
  have ho:l[k]?=some o:=by simpa using (hl 0).symm
  have zL:l.toArray[k]?=some o:=by simpa using ho
  have fx:listed.size=l.length:=hu.1
  refine⟨fun h0=> ?_,fun i hi=> ?_⟩
  ·have:k∈Region.ready .any l.toArray listed:=mem_ready.2 ⟨by rw[hu.getD k true hk];simp,o,zL,fun e he _=>by
    have:=iq hB ho e he
    rw[hu.getD e.on false (by omega)];simp[this]⟩
   rw[h0]at this;cases this
  ·obtain⟨IH,oi,zM,ej⟩:=mem_ready.1 hi
   have CC:i<l.length:=by have:=(Array.getElem?_eq_some_iff.1 zM).1;simpa using this
   have AQ:l[i]?=some oi:=by simpa using zM
   rw[hu.getD i true CC]at IH
   have Qg:k≤i:=by simpa using IH
   have YQ:i=k:=by
    rcases Nat.lt_or_ge k i with h1|h1
    ·obtain⟨e,he,hb,YR⟩:=q9 hB AQ (by omega)
     have h2:=ej e he hb
     rw[YR,hu.getD (i-1) _ (by omega)]at h2
     simp at h2;omega
    ·omega
   subst YQ
   have ih:=n1 hB r (i+1) (listed.setIfInBounds i true)
   have WX:∀a w,wpList P l.toArray Q r a w→wpAny P .any l.toArray Q r.length (listed.setIfInBounds i true) a w:=fun a w h=>
    ih a w (by omega) (fun j=>by have:=hl (j+1);simpa[Nat.add_assoc,Nat.add_comm 1 j]using this) (by simp at hs⊢;omega) hu.set h
   unfold wpOp;rw[zL]
   simp only[wpList]at h
   simp only
   split
   ·rename_i hw
    simp only[hw,if_true]at h
    exact h.imp (Oper.wp_mono WX) id
   ·rename_i hw
    simp only[hw]at h
    exact WX _ _ h
def YT:Option (Nat×TypeId×Array Value)→Array Bool→(Nat→Value)→List bE→Prop
 |none,_,_,X=>X=[]
 |some (ia,ta,Z),listed,e,X=>(listed.getD ia false=true∧∃b,e ia= .pointer (some ⟨b,0,none⟩)∧X=[aZ b (.cells Z ta (0,0))])∨(listed.getD ia false=false∧X=[])
structure xZ (al:Option (Nat×TypeId×Array Value))(n:Nat)(F:Fr)(c:Ctx)(H:List bE)(bs:List od)(listed:Array Bool)(a:Act)(w:World)(e:Nat→Value)(ρ:Ro)(X:List bE):Prop where
 has:Has n a F
 mem:dt c (H++X) ρ w
 S4:YT al listed e X
 S5:∀(i:Nat) (b:od),bs[i]?=some b→listed.getD i false=true→a.tmps[b.slot]?=some (e i)∧(b.K (e i)).f ρ
theorem xZ.use {al:Option (Nat×TypeId×Array Value)}{X:List bE}{bs:List od}{listed:Array Bool}{a:Act}{w:World}{e:Nat→Value}{ρ:Ro}(h:xZ al n F c H bs listed a w e ρ X)(ds:List Nat)(hd:∀j∈ds,j<bs.length∧listed.getD j false=true):
 Has n a (q8 bs e ds++F)∧dt c (my bs e ds++(H++X)) ρ w:=by
 have gd:∀j,j<bs.length→bs[j]?=some (bs.getD j default):=fun j hj=>by rw[List.getD_eq_getElem?_getD,List.getElem?_eq_getElem hj];rfl
 constructor
 ·refine⟨h.has.size,h.has.defers,fun t v hv=> ?_⟩
  induction ds with
  |nil=>exact h.has.slot t v hv
  |cons j ds ih=>
   simp only[q8,List.map_cons,List.cons_append,look]at hv
   cases hb:Nat.beq t (bs.getD j default).slot with
   |true=>
    have e1:=Nat.eq_of_beq_eq_true hb
    simp only[hb,cond_true,Option.some.injEq]at hv
    subst hv;obtain⟨h1,h2⟩:=hd j (List.mem_cons_self ..)
    rw[e1];exact(h.S5 j _ (gd j h1) h2).1
   |false=>
    simp only[hb,cond_false]at hv
    exact ih (fun k hk=>hd k (List.mem_cons_of_mem _ hk)) hv
 ·have e1:my bs e ds=(ds.map fun j=>(bs.getD j default).K (e j)).map aE:=by unfold my;rw[List.map_map];rfl
  rw[e1]
  refine h.mem.uo _ fun d jk=> ?_
  obtain⟨j,hj,rfl⟩:=List.mem_map.1 jk;obtain⟨h1,h2⟩:=hd j hj;exact(h.S5 j _ (gd j h1) h2).2
def M4 (P:Program)(ops:Array Oper)(n:Nat)(bs:List od):Option (Nat×TypeId×Array Value)→Prop
 |none=>True
 |some (ia,ta,Z)=>(∃d ty pos after,ops[ia]?=some {dst:=some d,op:= .alloc ta,type:=ty,pos:=pos,after:=after,guard:=none}∧Nat.ble (d+1) n=true)∧(P.info? ta).bind (fun i=>i.zero.map Value.cells)=some Z∧(bs.getD ia default).K=(fun u=>bZ u u)
def WY (al:Option (Nat×TypeId×Array Value))(e:Nat→Value)(H:List bE)(h:List bE→Prop):Prop:=match al with
 |none=>h H
 |some (ia,ta,Z)=>∀b,e ia= .pointer (some ⟨b,0,none⟩)→h (aZ b (.cells Z ta (0,0))::H)
theorem Jm {al:Option (Nat×TypeId×Array Value)}{bs:List od}(S6:M4 P ops n bs al){hd tl:List Oper}{lo:Nat}{ex:List Nat}{sd:List (Nat×List Nat)}(Jn:bs.map (fun b=>(b.slot,b.gr))=sd)(zH:F.all (fun p=>Nat.ble (p.1+1) lo&& !(ex.contains p.1))=true)(xc:ops=(hd++tl).toArray)(hB:ko (hd++tl) hd.length=true)(hb:CA n lo ex sd hd=true)(hH:ab P ops Q n F c.dr H bs bs hd)(kB:List Nat)(oe:kB.all (fun j=>Nat.ble (j+1) sd.length)=true)
 (FM:∀ia ta Z,al=some (ia,ta,Z)→ia<hd.length)
 (qA:∀e,WY al e H fun H'=>St n (q8 bs e kB++F) (Mm c (my bs e kB++H')) (wpList P ops Q tl)):
 ∀(f:Nat) (listed:Array Bool) (a:Act) (w:World) (e:Nat→Value) (ρ:Ro) (X:List bE),listed.size=ops.size→pS (hd++tl) listed→(∀j,hd.length≤j→j<ops.size→listed[j]?=some false)→FL hd.length listed=f→
  xZ al n F c H bs listed a w e ρ X→wpAny P .any ops Q (f+tl.length) listed a w:=by
 obtain⟨hlen,YU⟩:=hH.at_
 have fx:ops.size=hd.length+tl.length:=by rw[xc];simp
 have S7:∀i,i<hd.length→ops[i]?=hd[i]?:=fun i hi=>by rw[xc];simp[List.getElem?_append_left hi]
 subst Jn
 simp only[CA,Bool.and_eq_true,decide_eq_true_eq]at hb
 obtain⟨M5,II⟩:=hb;rw[List.map_map]at II
 change (bs.map (·.slot)).Nodup at II
 rw[List.length_map]at oe
 have M5:=List.all_eq_true.1 M5
 have each:∀(i:Nat) (b:od) (o:Oper),bs[i]?=some b→hd[i]?=some o→o.guard=none∧o.dst=some b.slot∧b.slot<n∧b.slot∉F.map (·.1)∧∀j∈b.gr,j<bs.length∧∃ed∈o.after,Region.binds .any ed=true∧ed.on=j:=by
  intro i b o IJ ho
  have h1:=M5 ((b.slot,b.gr),o) (List.mem_of_getElem? (i:=i) (by rw[List.getElem?_zip_eq_some];exact⟨by rw[List.getElem?_map,IJ];rfl,ho⟩))
  simp only[Bool.and_eq_true,Option.isNone_iff_eq_none,beq_iff_eq,Bool.not_eq_true']at h1
  obtain⟨⟨⟨⟨h1,h2⟩,h3⟩,h4⟩,h5⟩:=h1
  refine⟨h1,h2,Nat.le_of_ble_eq_true h3,fun hm=>(by
   obtain⟨p,hp,he⟩:=List.mem_map.1 hm
   have q0:=List.all_eq_true.1 zH p hp
   simp only[Bool.and_eq_true,Bool.not_eq_true']at q0
   have q1:=Nat.le_of_ble_eq_true q0.1
   have q3:p.1=b.slot:=he
   rcases Bool.or_eq_true _ _|>.mp h4 with q2|q2
   ·have q2:=Nat.le_of_ble_eq_true q2
    omega
   ·rw[q3]at q0;rw[q2]at q0;cases q0.2),fun j hj=> ?_⟩
  have h6:=List.all_eq_true.1 h5 j hj
  simp only[Bool.and_eq_true]at h6
  obtain⟨ed,LB,Jo⟩:=Array.any_eq_true'.1 h6.2
  simp only[Bool.and_eq_true,beq_iff_eq]at Jo
  exact⟨by have:=Nat.le_of_ble_eq_true h6.1;rwa[List.length_map]at this,ed,LB,Jo.1,Jo.2⟩
 intro f
 induction f with
 |zero=>
  intro listed a w e ρ X hs I8 AR hu hI
  have all:∀j,j<hd.length→listed[j]?=some true:=fun j hj=>by
   have h1:¬0<FL hd.length listed:=by omega
   unfold FL at h1;rw[List.countP_pos_iff]at h1
   have iU:j<listed.size:=by omega
   cases hv:listed[j]? with
   |none=>rw[Array.getElem?_eq_none_iff]at hv;omega
   |some b=>
    cases b with
    |true=>rfl
    |false=>exact absurd ⟨j,List.mem_range.2 hj,by rw[Array.getD_eq_getD_getElem?,hv];rfl⟩ h1
  have WZ:tN hd.length listed ops.size:=⟨hs,fun j hj=>by
   rcases Nat.lt_or_ge j hd.length with h|h
   ·rw[all j h];simp[h]
   ·rw[AR j h hj];simp[Nat.not_lt.2 h]⟩
  rw[Nat.zero_add];rw[xc]at WZ⊢;refine n1 hB tl hd.length listed a w (Nat.le_refl _) (fun j=>by simp[List.getElem?_append_right]) (by simp) (by simpa using WZ) ?_;rw[←xc]
  obtain⟨h1,h2⟩:=hI.use kB fun j hj=>by
   have h3:=Nat.le_of_ble_eq_true (List.all_eq_true.1 oe j hj)
   exact⟨h3,by rw[Array.getD_eq_getD_getElem?,all j (by omega)];rfl⟩
  have ht:=qA e
  have hx:=hI.S4
  cases al with
  |none=>
   have hx:X=[]:=hx
   subst hx;exact ht a w h1 (Mm.mk (by rw[List.append_nil]at h2;exact h2))
  |some q=>
   obtain⟨ia,ta,Z⟩:=q
   have hl:listed.getD ia false=true:=by rw[Array.getD_eq_getD_getElem?,all ia (FM ia ta Z rfl)];rfl
   rcases hx with⟨_,b,hb,rfl⟩|⟨hb,_⟩
   ·exact ht b hb a w h1 (Mm.mk (h2.perm (List.Perm.append_left _ (List.perm_append_comm (l₁:=H) (l₂:=[aZ b (.cells Z ta (0,0))])))))
   ·rw[hl]at hb;cases hb
 |succ f ih=>
  intro listed a w e ρ X hs I8 AR hu hI
  have hex:∃j,j<hd.length∧listed.getD j true=false:=by
   have h1:0<FL hd.length listed:=by omega
   unfold FL at h1;rw[List.countP_pos_iff]at h1;obtain⟨j,hj,h⟩:=h1;exact⟨j,List.mem_range.1 hj,by simpa using h⟩
  rw[show f+1+tl.length=(f+tl.length)+1 by omega];refine⟨fun h0=> ?_,fun i hi=> ?_⟩
  ·obtain⟨j,hj,LC⟩:=hex
   exact absurd h0 (rE hs (fun i o ho=>iq hB (by rw[xc]at ho;simpa using ho)) ⟨j,by omega,LC⟩)
  ·obtain⟨IH,o,zM,ej⟩:=mem_ready.1 hi
   have hiN:i<ops.size:=(Array.getElem?_eq_some_iff.1 zM).1
   have Wa:i<hd.length:=by
    rcases Nat.lt_or_ge i hd.length with h|h
    ·exact h
    ·obtain⟨j,hj,LC⟩:=hex
     exfalso
     have AQ:(hd++tl)[i]?=some o:=by rw[xc]at zM;simpa using zM
     rcases Nat.lt_or_ge hd.length i with h2|h2
     ·obtain⟨ed,LB,Jo,YV⟩:=q9 hB AQ h2
      have h1:=ej ed LB Jo
      rw[YV]at h1
      have h3:=AR (i-1) (by omega) (by omega)
      rw[Array.getD_eq_getD_getElem?,h3]at h1
      cases h1
     ·obtain rfl:i=hd.length:=by omega
      have M6:(eG (hd++tl) []).getD hd.length 0=2^hd.length-1:=by
       simp only[ko,Bool.and_eq_true,Bool.or_eq_true]at hB
       rcases hB.2 with h3|h3
       ·have:=Nat.le_of_ble_eq_true h3
        have iU:=(List.getElem?_eq_some_iff.1 AQ).1
        omega
       ·simpa using h3
      have h1:=I8.all hB _ o AQ (fun ed LB Jo=>by
       have h3:=ej ed LB Jo
       have iU:=iq hB AQ ed LB
       rw[Array.getD_eq_getD_getElem?,Array.getElem?_eq_getElem (show ed.on<listed.size by omega)]at h3⊢
       simpa using h3) j (by rw[M6,Nat.testBit_two_pow_sub_one];simpa using hj)
      have iU:j<listed.size:=by omega
      rw[Array.getD_eq_getD_getElem?,Array.getElem?_eq_getElem iU]at h1 LC
      simp at h1 LC
      rw[h1]at LC;cases LC
   have Wb:hd[i]?=some o:=by rw[←S7 i Wa];exact zM
   have IJ:bs[i]?=some (bs[i]'(by omega)):=List.getElem?_eq_getElem (by omega)
   generalize bs[i]'(by omega)=b at IJ
   obtain⟨g1,g2,g3,g4,g5⟩:=each i b o IJ Wb
   have SA:=YU i b o IJ Wb
   obtain⟨u1,u2⟩:=hI.use b.gr fun j hj=>by
    obtain⟨q1,ed,q2,q3,q4⟩:=g5 j hj;refine⟨q1,?_⟩
    have h1:=ej ed q2 q3
    rw[q4]at h1
    have iU:j<listed.size:=by omega
    rw[Array.getD_eq_getD_getElem?,Array.getElem?_eq_getElem iU]at h1⊢
    simpa using h1
   have iU:i<listed.size:=by omega
   have M7:FL hd.length (listed.setIfInBounds i true)=f:=by
    have h1:=xW (p:=fun j=> !listed.getD j true) (q:=fun j=> !(listed.setIfInBounds i true).getD j true) (i:=i) (by simp[IH]) (by simp[Array.getD_eq_getD_getElem?,iU]) (fun j hj=>by
     simp only[Array.getD_eq_getD_getElem?,Array.getElem?_setIfInBounds];rw[if_neg (Ne.symm hj)]) hd.length Wa
    unfold FL at hu⊢;omega
   have M8:∀j,hd.length≤j→j<ops.size→(listed.setIfInBounds i true)[j]?=some false:=fun j hj SB=>by
    rw[Array.getElem?_setIfInBounds,if_neg (by omega)];exact AR j hj SB
   have other:∀j,j≠i→(listed.setIfInBounds i true).getD j false=listed.getD j false:=fun j hj=>by
    rw[Array.getD_eq_getD_getElem?,Array.getD_eq_getD_getElem?,Array.getElem?_setIfInBounds,if_neg (Ne.symm hj)]
   have M9:pS (hd++tl) (listed.setIfInBounds i true):=fun j oj hj MA ed he hb=>by
    have er:ed.on≠i→(listed.setIfInBounds i true).getD ed.on false=listed.getD ed.on false:=fun h=>other _ h
    have MB:(listed.setIfInBounds i true).getD i false=true:=by rw[Array.getD_eq_getD_getElem?,Array.getElem?_setIfInBounds,if_pos rfl,if_pos iU];rfl
    by_cases e1:ed.on=i
    ·rw[e1];exact MB
    ·rw[er e1]
     by_cases e2:j=i
     ·subst e2
      have:oj=o:=by
       have q:(hd++tl)[j]?=some o:=by rw[xc]at zM;simpa using zM
       rw[q]at hj;exact(Option.some.inj hj).symm
      subst this
      have h3:=ej ed he hb
      have YW:=iq hB hj ed he
      rw[Array.getD_eq_getD_getElem?,Array.getElem?_eq_getElem (show ed.on<listed.size by omega)]at h3⊢
      simpa using h3
     ·rw[other _ e2]at MA
      exact I8 j oj hj MA ed he hb
   have MC:∀v,Has n (a.put (some b.slot) v) F:=fun v=>by
    refine⟨by simp[Act.put,hI.has.size],by simp[Act.put,hI.has.defers],fun t x hx=> ?_⟩
    have er:b.slot≠t:=fun h=>g4 (h▸vN hx)
    simp[Act.put,er,hI.has.slot t x hx]
   have MD:∀(v:Value) (gS:Ro),Ro.le ρ gS→(b.K v).f gS→∀(j:Nat) (bj:od),bs[j]?=some bj→(listed.setIfInBounds i true).getD j false=true→
    (a.put (some b.slot) v).tmps[bj.slot]?=some (if j=i then v else e j)∧(bj.K (if j=i then v else e j)).f gS:=fun v gS hle YX j bj Qh MA=>by
    by_cases e1:j=i
    ·subst e1
     rw[IJ]at Qh;cases Qh
     have AU:b.slot<a.tmps.size:=by rw[hI.has.size];exact g3
     refine⟨by rw[if_pos rfl];simp[Act.put,AU],by rw[if_pos rfl];exact YX⟩
    ·rw[if_neg e1]
     rw[other j e1]at MA;obtain⟨k1,k2⟩:=hI.S5 j bj Qh MA;refine⟨?_,(bj.K (e j)).mono ρ gS hle k2⟩
     have er:b.slot≠bj.slot:=fun h=>by
      have q1:(bs.map (·.slot))[i]?=some b.slot:=by rw[List.getElem?_map,IJ];rfl
      have q2:(bs.map (·.slot))[j]?=some bj.slot:=by rw[List.getElem?_map,Qh];rfl
      have:=(List.getElem?_inj (i:=i) (j:=j) (by rw[List.length_map];omega) II).1 (by rw[q1,q2,h])
      exact e1 this.symm
     simp[Act.put,er,k1]
   have r0:dt ⟨w,ρ,jB H,c.dr⟩ H ρ w:=(hI.mem.left).G3
   by_cases ME:∃ta Z,al=some (i,ta,Z)
   ·obtain⟨ta,Z,rfl⟩:=ME
    obtain⟨⟨d0,Qi,G4,Qj,MF,I4⟩,hz,hK⟩:=S6;rw[zM]at MF
    have ho:o={dst:=some d0,op:= .alloc ta,type:=Qi,pos:=G4,after:=Qj,guard:=none}:=Option.some.inj MF
    have SC:d0=b.slot:=by rw[ho]at g2;exact Option.some.inj g2
    have LD:X=[]:=by
     rcases hI.S4 with⟨hx,_⟩|⟨_,hx⟩
     ·rw[Array.getD_eq_getD_getElem?,Array.getElem?_eq_getElem iU]at IH hx
      simp at IH hx
      rw[IH]at hx;cases hx
     ·exact hx
    subst LD
    have k1:wpOp P ops Q i (fun a' w'=>a'.defers=[]∧∃b0,a'.tmps[b.slot]?=some (.pointer (some ⟨b0,0,none⟩))∧Mm ⟨w,ρ,jB H,c.dr⟩ (aZ b0 (.cells Z ta (0,0))::H) w') a w:=by
     refine St.one (n:=n) (F:=F) (A:=Mm ⟨w,ρ,jB H,c.dr⟩ H) zM ?_ a w hI.has (Mm.mk r0);rw[ho];refine St.alloc hz I4 (fun b0=>St.nil (St.a7 fun a' w' Wc ui=>⟨Wc.defers,b0,?_,ui⟩));rw[←SC];exact Wc.slot _ _ (by simp[look])
    refine wpOp_mono (fun a' w' hk=> ?_) (sH zM g1 k1);obtain⟨⟨SD,b0,MG,iT⟩,Jp⟩:=hk
    rcases Jp with⟨v,rfl⟩|n5
    ·obtain⟨gS,iT⟩:=iT.out
     have n7:dt c (H++ [aZ b0 (.cells Z ta (0,0))]) gS w':=by
      have:=dt.step (R:=[]) hI.mem iT
      rw[List.append_nil]at this;exact this.perm (List.perm_append_comm (l₁:=[aZ b0 (.cells Z ta (0,0))]) (l₂:=H))
     rw[g2]at MG⊢
     have SE:v= .pointer (some ⟨b0,0,none⟩):=by
      have:b.slot<a.tmps.size:=by rw[hI.has.size];exact g3
      simpa[Act.put,this]using MG
     have YY:b.K=fun u=>bZ u u:=by
      have:bs.getD i default=b:=by rw[List.getD_eq_getElem?_getD,IJ];rfl
      rw[←this];exact hK
     refine ih (listed.setIfInBounds i true) _ w' (fun k=>if k=i then v else e k) gS _ (by simp[hs]) M9 M8 M7 ⟨MC v,n7,.inl ⟨?_,b0,?_,rfl⟩,MD v gS iT.le ?_⟩
     ·rw[Array.getD_eq_getD_getElem?,Array.getElem?_setIfInBounds,if_pos rfl,if_pos iU];rfl
     ·show(if i=i then v else e i)=_
      rw[if_pos rfl];exact SE
     ·rw[YY];exact rfl
    ·exact absurd SD n5
   ·have k1:=St.one (i:=i) zM (SA ⟨w,ρ,jB H,c.dr⟩ e (fun h=>h)) a w u1 (Mm.mk (by
     have e1:my bs e b.gr=(b.gr.map fun j=>(bs.getD j default).K (e j)).map aE:=by unfold my;rw[List.map_map];rfl
     rw[e1]
     refine r0.uo _ fun d jk=> ?_
     have:=u2.ct (aE d) (List.mem_append_left _ (by rw[e1];exact List.mem_map_of_mem jk))
     exact cw.1 this))
    refine wpOp_mono (fun a' w' hk=> ?_) (sH zM g1 k1);obtain⟨⟨SD,u,MG,iT⟩,Jp⟩:=hk
    rcases Jp with⟨v,rfl⟩|n5
    ·obtain⟨gS,iT⟩:=iT.out
     have YZ:(b.K u).f gS:=cw.1 (iT.ct _ (List.mem_cons_self ..))
     have n7:dt c (H++X) gS w':=dt.step hI.mem iT.drop
     rw[g2]at MG⊢
     have SE:v=u:=by
      have:b.slot<a.tmps.size:=by rw[hI.has.size];exact g3
      simpa[Act.put,this]using MG
     subst SE;refine ih (listed.setIfInBounds i true) _ w' (fun k=>if k=i then v else e k) gS X (by simp[hs]) M9 M8 M7 ⟨MC v,n7,?_,MD v gS iT.le YZ⟩
     have hx:=hI.S4
     cases al with
     |none=>exact hx
     |some q=>
      obtain⟨ia,ta,Z⟩:=q
      have er:ia≠i:=fun h=>ME ⟨ta,Z,by rw[h]⟩
      rcases hx with⟨h1,b0,h2,h3⟩|⟨h1,h2⟩
      ·refine .inl ⟨by rw[other ia er];exact h1,b0,?_,h3⟩
       show(if ia=i then v else e ia)=_
       rw[if_neg er];exact h2
      ·exact .inr ⟨by rw[other ia er];exact h1,h2⟩
    ·exact absurd SD n5
theorem St.MH {id:Nat}(al:Option (Nat×TypeId×Array Value))(m lo:Nat)(ex:List Nat){l:List Oper}(bs:List od)(sd:List (Nat×List Nat))(kB:List Nat)(S6:M4 P l.toArray n bs al)(FM:∀ia ta Z,al=some (ia,ta,Z)→ia<(l.take m).length)(Jn:bs.map (fun b=>(b.slot,b.gr))=sd)(zH:F.all (fun p=>Nat.ble (p.1+1) lo&& !(ex.contains p.1))=true)(hm:P.follows .mixedOrders=true)(hB:ko l (l.take m).length=true)(hb:CA n lo ex sd (l.take m)=true)(oe:kB.all (fun j=>Nat.ble (j+1) sd.length)=true)
 (hH:ab P l.toArray Q n F c.dr H bs bs (l.take m)) (qA:∀e,WY al e H fun H'=>St n (q8 bs e kB++F) (Mm c (my bs e kB++H')) (wpList P l.toArray Q (l.drop m))):
 St n F (Mm c H) ((Code.region id l.toArray true).wp P Q):=by
 intro a w ha hw;refine wp_region_any hm ?_
 have ui:=(Mm.drawn c H) w hw
 obtain⟨ρ,hr⟩:=ui.out
 have hlen:l.length=(l.take m).length+(l.drop m).length:=by rw[←List.length_append,List.take_append_drop]
 have no:∀i,(Array.replicate l.length false).getD i false=false:=fun i=>by
  rw[Array.getD_eq_getD_getElem?,Array.getElem?_replicate];split<;>rfl
 have h0:=Jm (ops:=l.toArray) (hd:=l.take m) (tl:=l.drop m) S6 Jn zH (by rw[List.take_append_drop]) (by rw[List.take_append_drop];exact hB) hb hH kB oe FM qA (FL (l.take m).length (Array.replicate l.length false)) (Array.replicate l.length false) a {w with drawn:=w.drawn+1} (fun _=>undef) ρ [] (by simp) (fun i _ _ hl=>by rw[no]at hl;cases hl) (fun j hj SB=>by
  rw[Array.getElem?_replicate,if_pos (by simpa using SB)]) rfl ⟨ha,by rw[List.append_nil];exact hr,by
   cases al with
   |none=>exact rfl
   |some q=>exact .inr ⟨no _,rfl⟩,fun i b _ hl=>by rw[no]at hl;cases hl⟩
 have hu:FL (l.take m).length (Array.replicate l.length false)=(l.take m).length:=by
  unfold FL;rw[List.countP_eq_length.2,List.length_range];intro j hj
  have:=List.mem_range.1 hj
  rw[Array.getD_eq_getD_getElem?,Array.getElem?_replicate,if_pos (by omega)];rfl
 rw[hu,←hlen]at h0
 simpa using h0
theorem St.AV {T:Act→World→Prop}{a b d e f:bE}(h:St n F (Mm c (a::b::d::e::f::R)) T):St n F (Mm c ([a,b,d,e,f]++R)) T:=h
theorem St.Jq {T:Act→World→Prop}{a b d e f g:bE}(h:St n F (Mm c (a::b::d::e::f::g::R)) T):St n F (Mm c ([a,b,d,e,f,g]++R)) T:=h
theorem St.IK {id:Nat}(m lo:Nat)(ex:List Nat){l:List Oper}(bs:List od)(sd:List (Nat×List Nat))(kB:List Nat)(Jn:bs.map (fun b=>(b.slot,b.gr))=sd)(zH:F.all (fun p=>Nat.ble (p.1+1) lo&& !(ex.contains p.1))=true)(hm:P.follows .mixedOrders=true)(hB:ko l (l.take m).length=true)(hb:CA n lo ex sd (l.take m)=true)(oe:kB.all (fun j=>Nat.ble (j+1) sd.length)=true)
 (Ft:(Nat→Value)→Fr) (Lt:(Nat→Value)→List bE) (t1:∀e,q8 bs e kB=Ft e) (t2:∀e,my bs e kB=Lt e)
 (hH:ab P l.toArray Q n F c.dr H bs bs (l.take m)) (qA:∀e,St n (Ft e++F) (Mm c (Lt e++H)) (wpList P l.toArray Q (l.drop m))):
 St n F (Mm c H) ((Code.region id l.toArray true).wp P Q):=St.MH none m lo ex bs sd kB trivial (fun _ _ _ h=>by cases h) Jn zH hm hB hb oe hH (fun e=>by show St _ _ _ _;rw[t1,t2];exact qA e)
theorem St.SF {id:Nat}(ia:Nat){ta:TypeId}{Z:Array Value}{d0 Qi:Nat}{G4:String}{Qj:Array Edge}(m lo:Nat)(ex:List Nat){l:List Oper}(bs:List od)(sd:List (Nat×List Nat))(kB:List Nat)
 (SA:l.toArray[ia]?=some {dst:=some d0,op:= .alloc ta,type:=Qi,pos:=G4,after:=Qj,guard:=none}) (I4:Nat.ble (d0+1) n=true) (hz:(P.info? ta).bind (fun i=>i.zero.map Value.cells)=some Z) (hK:(bs.getD ia default).K=(fun u=>bZ u u)) (FM:Nat.ble (ia+1) (l.take m).length=true)
 (Jn:bs.map (fun b=>(b.slot,b.gr))=sd) (zH:F.all (fun p=>Nat.ble (p.1+1) lo&& !(ex.contains p.1))=true) (hm:P.follows .mixedOrders=true) (hB:ko l (l.take m).length=true) (hb:CA n lo ex sd (l.take m)=true) (oe:kB.all (fun j=>Nat.ble (j+1) sd.length)=true)
 (Ft:(Nat→Value)→Fr) (Lt:(Nat→Value)→List bE) (t1:∀e,q8 bs e kB=Ft e) (t2:∀e,my bs e kB=Lt e)
 (hH:ab P l.toArray Q n F c.dr H bs bs (l.take m)) (qA:∀e b,e ia= .pointer (some ⟨b,0,none⟩)→St n (Ft e++F) (Mm c (Lt e++(aZ b (.cells Z ta (0,0))::H))) (wpList P l.toArray Q (l.drop m))):
 St n F (Mm c H) ((Code.region id l.toArray true).wp P Q):=
 St.MH (some (ia,ta,Z)) m lo ex bs sd kB ⟨⟨d0,Qi,G4,Qj,SA,I4⟩,hz,hK⟩ (fun i _ _ h=>by cases h;exact Nat.le_of_ble_eq_true FM) Jn zH hm hB hb oe hH (fun e b hb=>by rw[t1,t2];exact qA e b hb)
end
end Go.J
namespace Go.J
open Go Go.Proofs.YtoioijgdggkabaaGreatDoor
abbrev aK (x:dv):Value:= .agg #[sv x.base,x.av.1]
abbrev bT (x:cH):Value:= .agg #[iv x.kind,sv x.name,iv x.index,sv x.type.base,x.type.av.1,x.av.1]
abbrev kp (x:bV):Value:= .agg #[iv x.eV,iv x.lex,x.kv.1]
abbrev eN (x:eM):Value:= .agg #[x.nv.1]
abbrev m9 (x:bm):Value:= .agg #[sv x.name,x.graph.nv.1,iv x.kids,iv x.weight,iv x.cl.kind,sv x.cl.name,iv x.cl.index,sv x.cl.type.base,x.cl.type.av.1,x.cl.av.1]
abbrev MI (x:cR):Value:= .agg #[sv x.word,x.graph.nv.1,iv x.weight,iv x.cl.kind,sv x.cl.name,iv x.cl.index,sv x.cl.type.base,x.cl.type.av.1,x.cl.av.1]
abbrev pG (g:k7):Value:= .agg #[g.tv.1,g.fv.1,g.rv.1,g.xv.1,g.start.nv.1]
def ah (s:eZ)(u:Value):dJ:=⟨fun ρ=>∃x:dv,u=aK x∧cD x=s∧gp.wf x∧ob ρ x,fun _ _ h ⟨x,a,b,c,d⟩=>⟨x,a,b,c,d.mono h⟩⟩
def isTerm (t:fS)(u:Value):dJ:=⟨fun ρ=>∃x:cH,u=bT x∧bN x=t∧bx.wf x∧mM ρ x,fun _ _ h ⟨x,a,b,c,d⟩=>⟨x,a,b,c,d.mono h⟩⟩
def cP (g:gF)(u:Value):dJ:=⟨fun ρ=>∃x:eM,u=eN x∧fM x=g∧(bz x).f ρ,fun _ _ h ⟨x,a,b,c⟩=>⟨x,a,b,(bz x).mono _ _ h c⟩⟩
def dL (r:nX)(u:Value):dJ:=⟨fun ρ=>∃x:bm,u=m9 x∧pE x=r∧cJ.wf x∧(cK x).f ρ,fun _ _ h ⟨x,a,b,c,d⟩=>⟨x,a,b,c,(cK x).mono _ _ h d⟩⟩
def og (g:mP)(u:Value):dJ:=⟨fun ρ=>∃x:k7,u=pG x∧iW x=g∧(jD x).f ρ,fun _ _ h ⟨x,a,b,c⟩=>⟨x,a,b,(jD x).mono _ _ h c⟩⟩
def iM (ts:List fS)(u:Value):dJ:=⟨fun ρ=>u.oneCell'=true∧∃xs:List cH,xs.map bN=ts∧(sl bx u xs).f ρ∧(au bW xs).f ρ,fun _ _ h ⟨a,xs,b,c,d⟩=>⟨a,xs,b,(sl _ _ _).mono _ _ h c,(au _ _).mono _ _ h d⟩⟩
def kC (rs:List nX)(u:Value):dJ:=⟨fun ρ=>u.oneCell'=true∧∃xs:List bm,xs.map pE=rs∧(sl cJ u xs).f ρ∧(au cK xs).f ρ,fun _ _ h ⟨a,xs,b,c,d⟩=>⟨a,xs,b,(sl _ _ _).mono _ _ h c,(au _ _).mono _ _ h d⟩⟩
def bM {α:Type}(R:Rp α)(xs:List α)(u:Value):dJ:=⟨fun ρ=>u.oneCell'=true∧(sl R u xs).f ρ,fun _ _ h ⟨a,b⟩=>⟨a,(sl _ _ _).mono _ _ h b⟩⟩
def eC {α:Type}(R:Rp α)(xs:List (List α))(u:Value):dJ:=⟨fun ρ=>u.oneCell'=true∧(ub R u xs).f ρ,fun _ _ h ⟨a,b⟩=>⟨a,(ub _ _ _).mono _ _ h b⟩⟩
section
variable {n:Nat}{F:Fr}{c:Ctx}{H R:List bE}{T:Act→World→Prop}
theorem St.bH {P:Program}(k:Nat)(u v:Value)[hd:iE (bZ u v) H](hk:look F k=some u)(h:St n ((k,v)::F) (Mm c H) T):St n F (Mm c H) T:=by
 intro a w ha hw;obtain⟨ρ,hm⟩:=hw.out
 have e:u=v:=cw.1 (hm.ct _ hd.mem)
 subst e;refine h a w ⟨ha.size,ha.defers,fun t x hx=> ?_⟩ hw
 simp only[look]at hx
 cases hb:Nat.beq t k with
 |true=>
  rw[Nat.eq_of_beq_eq_true hb]
  simp only[hb,cond_true,Option.some.injEq]at hx
  subst hx;exact ha.slot _ _ hk
 |false=>simp only[hb,cond_false]at hx;exact ha.slot _ _ hx
theorem St.n8 {ι:Sort _}(d:dJ)[hd:iE d H](p:ι→Prop)(L:ι→List dJ)(h:∀ρ,d.f ρ→∃x,p x∧∀e∈L x,e.f ρ)(k:∀x,p x→St n F (Mm c ((L x).map aE++H)) T):St n F (Mm c H) T:=by
 intro a w ha hw;obtain⟨ρ,hm⟩:=hw.out;obtain⟨x,hp,hx⟩:=h ρ (cw.1 (hm.ct _ hd.mem));exact k x hp a w ha (Mm.mk (hm.uo (L x) hx))
theorem St.ah (s:eZ)(u:Value)[hd:iE (J.ah s u) H](k:∀x:dv,u=aK x∧cD x=s∧gp.wf x→St n F (Mm c (aE (dB x)::H)) T):St n F (Mm c H) T:=
 St.n8 (J.ah s u) _ (fun x=>[dB x]) (fun ρ ⟨x,a,b,c,d⟩=>⟨x,⟨a,b,c⟩,fun e he=>by rw[List.mem_singleton.1 he];exact d⟩) k
theorem St.isTerm (t:fS)(u:Value)[hd:iE (J.isTerm t u) H](k:∀x:cH,u=bT x∧bN x=t∧bx.wf x→St n F (Mm c (aE (bW x)::H)) T):St n F (Mm c H) T:=
 St.n8 (J.isTerm t u) _ (fun x=>[bW x]) (fun ρ ⟨x,a,b,c,d⟩=>⟨x,⟨a,b,c⟩,fun e he=>by rw[List.mem_singleton.1 he];exact d⟩) k
theorem St.cP (g:gF)(u:Value)[hd:iE (J.cP g u) H](k:∀x:eM,u=eN x∧fM x=g→St n F (Mm c (aE (bz x)::H)) T):St n F (Mm c H) T:=
 St.n8 (J.cP g u) _ (fun x=>[bz x]) (fun ρ ⟨x,a,b,c⟩=>⟨x,⟨a,b⟩,fun e he=>by rw[List.mem_singleton.1 he];exact c⟩) k
theorem St.dL (r:nX)(u:Value)[hd:iE (J.dL r u) H](k:∀x:bm,u=m9 x∧pE x=r∧cJ.wf x→St n F (Mm c (aE (cK x)::H)) T):St n F (Mm c H) T:=
 St.n8 (J.dL r u) _ (fun x=>[cK x]) (fun ρ ⟨x,a,b,c,d⟩=>⟨x,⟨a,b,c⟩,fun e he=>by rw[List.mem_singleton.1 he];exact d⟩) k
theorem St.og (g:mP)(u:Value)[hd:iE (J.og g u) H](k:∀x:k7,u=pG x∧iW x=g→St n F (Mm c (aE (jD x)::H)) T):St n F (Mm c H) T:=
 St.n8 (J.og g u) _ (fun x=>[jD x]) (fun ρ ⟨x,a,b,c⟩=>⟨x,⟨a,b⟩,fun e he=>by rw[List.mem_singleton.1 he];exact c⟩) k
theorem St.iM (ts:List fS)(u:Value)[hd:iE (J.iM ts u) H](k:∀xs:List cH,u.oneCell'=true∧xs.map bN=ts→St n F (Mm c (aE (sl bx u xs)::aE (au bW xs)::H)) T):St n F (Mm c H) T:=
 St.n8 (J.iM ts u) _ (fun xs=>[sl bx u xs,au bW xs]) (fun ρ ⟨a,xs,b,c,d⟩=>⟨xs,⟨a,b⟩,fun e he=>by
  simp only[List.mem_cons,List.not_mem_nil,or_false]at he
  rcases he with rfl|rfl
  ·exact c
  ·exact d⟩) k
theorem St.kC (ts:List nX)(u:Value)[hd:iE (J.kC ts u) H](k:∀xs:List bm,u.oneCell'=true∧xs.map pE=ts→St n F (Mm c (aE (sl cJ u xs)::aE (au cK xs)::H)) T):St n F (Mm c H) T:=
 St.n8 (J.kC ts u) _ (fun xs=>[sl cJ u xs,au cK xs]) (fun ρ ⟨a,xs,b,c,d⟩=>⟨xs,⟨a,b⟩,fun e he=>by
  simp only[List.mem_cons,List.not_mem_nil,or_false]at he
  rcases he with rfl|rfl
  ·exact c
  ·exact d⟩) k
theorem St.bM {α:Type}(Rr:Rp α)(xs:List α)(u:Value)[hd:iE (J.bM Rr xs u) H](k:u.oneCell'=true→St n F (Mm c (aE (sl Rr u xs)::H)) T):St n F (Mm c H) T:=
 St.n8 (ι:=Unit) (J.bM Rr xs u) (fun _=>u.oneCell'=true) (fun _=>[sl Rr u xs]) (fun ρ ⟨a,b⟩=>⟨(),a,fun e he=>by rw[List.mem_singleton.1 he];exact b⟩) fun _=>k
theorem St.eC {α:Type}(Rr:Rp α)(xs:List (List α))(u:Value)[hd:iE (J.eC Rr xs u) H](k:u.oneCell'=true→St n F (Mm c (aE (ub Rr u xs)::H)) T):St n F (Mm c H) T:=
 St.n8 (ι:=Unit) (J.eC Rr xs u) (fun _=>u.oneCell'=true) (fun _=>[ub Rr u xs]) (fun ρ ⟨a,b⟩=>⟨(),a,fun e he=>by rw[List.mem_singleton.1 he];exact b⟩) fun _=>k
theorem St.n9 (b:ax)(u:Value)(hu:u.oneCell'=true)(l:List dv)[h1:iE (sl gp u l) H][h2:iE (au dB l) H](k:St n F (Mm c (aE (dB (.mk b ⟨u,hu⟩ l))::H)) T):St n F (Mm c H) T:=
 St.iJ (dB (.mk b ⟨u,hu⟩ l)) [sl gp u l,au dB l] (fun ρ h=> .mk (h _ (List.mem_cons_self ..)) (h _ (List.mem_cons_of_mem _ (List.mem_cons_self ..)))) k
theorem St.tc (kd:Int)(nm:ax)(i:Int)(s:dv)(u:Value)(hu:u.oneCell'=true)(l:List cH)[h0:iE (dB s) H][h1:iE (sl bx u l) H][h2:iE (au bW l) H](k:St n F (Mm c (aE (bW (.mk kd nm i s ⟨u,hu⟩ l))::H)) T):St n F (Mm c H) T:=
 St.iJ (bW (.mk kd nm i s ⟨u,hu⟩ l)) [dB s,sl bx u l,au bW l] (fun ρ h=> .mk (h (dB s) (by simp)) (h (sl bx u l) (by simp)) (h (au bW l) (by simp))) k
theorem St.td (r x:Int)(u:Value)(hu:u.oneCell'=true)(l:List bV)[h1:iE (sl fR u l) H][h2:iE (au dV l) H](k:St n F (Mm c (aE (dV (.mk r x ⟨u,hu⟩ l))::H)) T):St n F (Mm c H) T:=
 St.iJ (dV (.mk r x ⟨u,hu⟩ l)) [sl fR u l,au dV l] (fun ρ h=> .mk (h _ (List.mem_cons_self ..)) (h _ (List.mem_cons_of_mem _ (List.mem_cons_self ..)))) k
theorem St.IL (x:dv){s:eZ}(u:Value)(hu:u=aK x)(hs:cD x=s)(hw:gp.wf x)[hd:iE (dB x) H](k:St n F (Mm c (aE (J.ah s u)::H)) T):St n F (Mm c H) T:=
 St.iJ (J.ah s u) [dB x] (fun ρ h=>⟨x,hu,hs,hw,h _ (List.mem_cons_self ..)⟩) k
theorem St.toTerm (x:cH){s:fS}(u:Value)(hu:u=bT x)(hs:bN x=s)(hw:bx.wf x)[hd:iE (bW x) H](k:St n F (Mm c (aE (J.isTerm s u)::H)) T):St n F (Mm c H) T:=
 St.iJ (J.isTerm s u) [bW x] (fun ρ h=>⟨x,hu,hs,hw,h _ (List.mem_cons_self ..)⟩) k
theorem St.G5 (x:eM){g:gF}(u:Value)(hu:u=eN x)(hs:fM x=g)[hd:iE (bz x) H](k:St n F (Mm c (aE (J.cP g u)::H)) T):St n F (Mm c H) T:=
 St.iJ (J.cP g u) [bz x] (fun ρ h=>⟨x,hu,hs,h _ (List.mem_cons_self ..)⟩) k
theorem St.eW {α:Type}{Rr:Rp α}{xs:List α}(u:Value)(hu:u.oneCell'=true)[hd:iE (sl Rr u xs) H](k:St n F (Mm c (aE (J.bM Rr xs u)::H)) T):St n F (Mm c H) T:=
 St.iJ (J.bM Rr xs u) [sl Rr u xs] (fun ρ h=>⟨hu,h _ (List.mem_cons_self ..)⟩) k
theorem St.eD {α:Type}{Rr:Rp α}{xs:List (List α)}(u:Value)(hu:u.oneCell'=true)[hd:iE (ub Rr u xs) H](k:St n F (Mm c (aE (J.eC Rr xs u)::H)) T):St n F (Mm c H) T:=
 St.iJ (J.eC Rr xs u) [ub Rr u xs] (fun ρ h=>⟨hu,h _ (List.mem_cons_self ..)⟩) k
end
abbrev bu:dQ:=⟨.slice none 0 0,rfl⟩
end Go.J
namespace Go.J
open Go Go.ChangeShapes Go.WideShapes Go.ChangeAt Go.RowKit Go.Deep Go.Proofs.YtoioijgdggkabaaGreatDoor
section
variable {H:Type}{enc:TypeId×Value→H}{P:Program}{W:World}{α:Type}
abbrev Tr (enc:TypeId×Value→H)(P:Program)(W:World)(n:Nat)(t:TypeId)(cs:List Value)(y:DataW H×List MemPlace):Prop:=DataW.trod enc P W 0 (fun _=>true) true n t cs=some y
theorem xf {t:TypeId}{fs:Array Field}{ps:List (DataW H)}(ht:P.underlying t=some (.struct fs))(h:mj ((DataW.agg ps).weights P t)=true):mj (DataW.weightsEach P (fs.toList.map (·.type)) ps)=true:=by
 simpa only[DataW.weights,ht]using h
theorem o6 {t:TypeId}{fs:Array Field}{n:Nat}{cs:List Value}{y:DataW H×List MemPlace}(ht:P.underlying t=some (.struct fs))(h:Tr enc P W n t cs y)(hw:mj (y.1.weights P t)=true):
 ∃m,n=m+1∧∀(i:Nat) (f:Field),fs[i]?=some f→∃z,Tr enc P W m f.type ((cs.drop f.offset).take (P.cellsOf f.type)) z∧mj (z.1.weights P f.type)=true:=by
 obtain⟨xs,m,hn,hy,_,hl,hf⟩:=DataW.trod_struct ht h;subst hy;refine⟨m,hn,fun i f hi=> ?_⟩
 have h1:=hf i f hi
 have IH:i<fs.size:=(Array.getElem?_eq_some_iff.1 hi).1
 have h2:xs[i]?=some (xs[i]'(by omega)):=List.getElem?_eq_getElem (by omega)
 refine⟨xs[i]'(by omega),h1.trans h2,?_⟩;refine ml (xf ht hw) (j:=i) (t:=f.type) (d:=(xs[i]'(by omega)).1) ?_ ?_
 ·rw[List.getElem?_map,Array.getElem?_toList,hi];rfl
 ·rw[List.getElem?_map,h2];rfl
theorem ga {fs:Array Field}{m:Nat}{cs:List Value}(hp:∀(i:Nat) (f:Field),fs[i]?=some f→∃z,Tr enc P W m f.type ((cs.drop f.offset).take (P.cellsOf f.type)) z∧mj (z.1.weights P f.type)=true)
 (i:Nat) {f:Field} {t:TypeId} {o k:Nat} (hi:fs[i]?=some f) (ht:f.type=t) (ho:f.offset=o) (hk:P.cellsOf t=k):∃z,Tr enc P W m t ((cs.drop o).take k) z∧mj (z.1.weights P t)=true:=by
 subst ht ho hk;exact hp i f hi
theorem AW (R:Rp α){t e:TypeId}{IA:List Value}{d:DataW H}{p:List MemPlace}{fuel:Nat}(ht:P.underlying t=some (.slice e))(hc:P.cellsOf e=R.size)
 (Lz:∀(n:Nat),n<fuel→∀(cs:List Value) (y:DataW H×List MemPlace),cs.length=R.size→Tr enc P W n e cs y→mj (y.1.weights P e)=true→∃x:α,cs=R.cells x∧R.wf x)
 (nc:mj (d.weights P t)=true) (hf:Tr enc P W fuel t IA (d,p)):∃(v:Value) (xs:List α),IA=[v]∧v.oneCell'=true∧(sl R v xs).f (J.all W)∧((d= .nil∧xs=[])∨∃es sp,d= .slice es sp∧es.length=xs.length):=by
 rcases DataW.trod_slice ht hf with⟨jl,MJ⟩|⟨a,len,cap,elems,rest,n,hn,jl,MJ,_,hl,hm,hlen,he,_,_⟩
 ·exact⟨.slice none 0 0,[],jl,rfl,xQ _ _,.inl ⟨by simpa using (Prod.mk.inj MJ).1,rfl⟩⟩
 ·refine⟨.slice (some a) len cap,?_⟩
  rw[jl]
  suffices hs:∃xs:List α,(sl R (.slice (some a) len cap) xs).f (J.all W)∧((d= .nil∧xs=[])∨∃es sp,d= .slice es sp∧es.length=xs.length) by
   obtain⟨xs,h1,h2⟩:=hs;exact⟨xs,rfl,rfl,h1,h2⟩
  rcases Nat.eq_zero_or_pos len with hz|nh
  ·refine⟨[],⟨_,cap,by rw[hz];rfl,Nat.zero_le _,hm,(fun x hx=>by cases hx),.inl rfl⟩,.inr ⟨_,_,(Prod.mk.inj MJ).1,by rw[List.length_map,hlen,hz];rfl⟩⟩
  have each:∀i,i<len→∃x:α,R.wf x∧∀k u,k<R.size→(R.cells x)[k]?=some u→W.cell? ((a.add (i*R.size)).add k)=some u:=fun i hi=>by
   have h0:=he i hi
   rw[List.getElem?_eq_getElem (show i<elems.length by omega)]at h0;obtain⟨cs,h1,h2⟩:=Option.bind_eq_some_iff.1 h0;rw[hc]at h1;obtain⟨_,h4,h5⟩:=World.cells?_some h1;obtain⟨x,rfl,hw⟩:=Lz n (by omega) cs _ h4 h2 (AG ht (by rw[(Prod.mk.inj MJ).1]at nc;exact nc) (.inl (List.mem_map_of_mem (List.getElem_mem (show i<elems.length by omega)))));exact⟨x,hw,fun k u hk hu=>by rw[h5 k hk,hu]⟩
  obtain⟨x0,ML⟩:=each 0 (by omega)
  haveI:Inhabited α:=⟨x0⟩
  obtain⟨X,hX⟩:=choose_lt (α:=α) each
  have uu:((List.range len).map X).length=len:=by simp
  obtain⟨b,off,spot⟩:=a
  have SG:∃u,(R.cells (X 0))[0]?=some u:=by
   have:=R.len (X 0)
   have:=R.pos
   exact⟨_,List.getElem?_eq_getElem (by omega)⟩
  obtain⟨u0,SG⟩:=SG
  have CD:=(hX 0 (by omega)).2 0 u0 R.pos SG
  rw[Nat.zero_mul,Deep.add_add]at CD;obtain⟨hs,C,e',fr,hb,_⟩:=ei CD
  have vF:spot=none:=by simpa[Addr.add]using hs
  subst vF
  have hb:W.heap[b]?=some (.cells C e' fr):=by simpa[Addr.add]using hb
  refine⟨(List.range len).map X,⟨some ⟨b,off,none⟩,cap,by rw[uu],by rw[uu];exact hl,hm,?_,.inr ⟨b,off,C,e',fr,rfl,hb,?_⟩⟩,.inr ⟨_,_,(Prod.mk.inj MJ).1,by simp[hlen]⟩⟩
  ·intro x Ya
   obtain⟨i,hi,rfl⟩:=List.mem_map.1 Ya;exact(hX i (List.mem_range.1 hi)).1
  ·intro j u hj
   obtain⟨i,k,x,h1,h2,h3,h4⟩:=tQ _ _ _ hj
   have CC:i<((List.range len).map X).length:=(List.getElem?_eq_some_iff.1 h1).1
   rw[uu]at CC
   have Jr:x=X i:=by simpa[CC]using h1.symm
   subst Jr
   have:=(hX i CC).2 k u h2 h4
   rw[Deep.add_add,←h3]at this;obtain⟨_,C',Ry,Rz,jC,mn⟩:=ei this
   have jC:W.heap[b]?=some (.cells C' Ry Rz):=by
    by_cases h0:j=0
    ·subst h0;simpa[Addr.add]using jC
    ·simpa[Addr.add,h0]using jC
   have mn:C'[off+j]?=some u:=by
    by_cases h0:j=0
    ·subst h0;simpa[Addr.add]using mn
    ·simpa[Addr.add,h0]using mn
   rw[hb]at jC
   simp only[Option.some.injEq,Obj.cells.injEq]at jC
   rw[jC.1];exact mn
def Rp.with {α:Type}(R:Rp α)(p:α→Prop):Rp α:=⟨R.size,R.pos,R.cells,fun x=>R.wf x∧p x,R.len,R.one⟩
theorem G6 {R:Rp α}{p:α→Prop}{v:Value}{xs:List α}{ρ:Ro}(h:(sl (R.with p) v xs).f ρ):(sl R v xs).f ρ∧∀x∈xs,p x:=by
 obtain⟨a,cap,h1,h2,h3,h4,h5⟩:=h;exact⟨⟨a,cap,h1,h2,h3,fun x hx=>(h4 x hx).1,h5⟩,fun x hx=>(h4 x hx).2⟩
theorem AX {t e:TypeId}{es sp:List (DataW H)}(ht:P.underlying t=some (.slice e))(h:mj ((DataW.slice es sp).weights P t)=true):es.length*P.bytesOf e≤140737488351232:=by
 simp only[mj,DataW.weights,ht,List.all_cons,Bool.and_eq_true,decide_eq_true_eq]at h
 have h1:=h.1
 have h2:es.length*P.bytesOf e≤(es.length+sp.length)*P.bytesOf e:=Nat.mul_le_mul_right _ (by omega)
 unfold reachBytes at h1;omega
theorem vO (R:Rp α)(p:α→Prop){t e:TypeId}{IA:List Value}{y:DataW H×List MemPlace}{fuel:Nat}(ht:P.underlying t=some (.slice e))(hc:P.cellsOf e=R.size)
 (Lz:∀(n:Nat),n<fuel→∀(cs:List Value) (y:DataW H×List MemPlace),cs.length=R.size→Tr enc P W n e cs y→mj (y.1.weights P e)=true→∃x:α,cs=R.cells x∧R.wf x∧p x)
 (hf:Tr enc P W fuel t IA y) (nc:mj (y.1.weights P t)=true):∃(v:dQ) (xs:List α),IA=[v.1]∧(sl R v.1 xs).f (J.all W)∧(∀x∈xs,p x)∧xs.length*P.bytesOf e≤140737488351232:=by
 obtain⟨v,xs,h1,h2,h3,h4⟩:=AW (R.with p) (d:=y.1) (p:=y.2) ht hc (fun n hn cs y hl hy hw=>by
  obtain⟨x,a,b⟩:=Lz n hn cs y hl hy hw
  exact⟨x,a,b⟩) nc hf
 obtain⟨h5,h6⟩:=G6 h3;refine⟨⟨v,h2⟩,xs,h1,h5,h6,?_⟩
 rcases h4 with⟨_,rfl⟩|⟨es,sp,he,hl⟩
 ·simp
 ·rw[he]at nc
  rw[←hl];exact AX ht nc
theorem te {e:TypeId}(he:P.underlying e=some (.int .i64)){n:Nat}{cs:List Value}{y:DataW H×List MemPlace}(h:Tr enc P W n e cs y):∃x:Int,cs=[iv x]∧aj x:=by
 obtain⟨z,rfl,_,hw⟩:=DataW.trod_int he h;exact⟨z,rfl,wf_i64 hw⟩
theorem CE {e:TypeId}(he:P.underlying e=some .string){n:Nat}{cs:List Value}{y:DataW H×List MemPlace}(h:Tr enc P W n e cs y)(Qk:mj (y.1.weights P e)=true):∃x:ax,cs=[sv x]∧iK x:=by
 obtain⟨s,rfl,hy,hw⟩:=DataW.trod_string he h;refine⟨s.data.toList,by rw[Bs],?_⟩;subst hy
 simp only[mj,DataW.weights,reachBytes,List.all_cons,List.all_nil,Bool.and_true]at Qk
 exact of_decide_eq_true Qk
end
end Go.J
namespace Go.Proofs.YtoioijgdggkabaaGreatDoor
open Go Go.J
structure Nq where
 no:Nat
 leaf:Bool
 label:ax
 up:Int
 fin:Nat
 AY:Nat
 to:Nat
def tf:Nq:=⟨0,false,[],0,0,0,0⟩
def Wd:fS:= .mk 0 [] 0 (.mk [] []) []
def Yb:FK:=⟨[],[],0,Wd⟩
def Yc:nX:=⟨[],[],0,0,Wd⟩
mutual
def wq:gU→Nat
 | .mk _ _ l=>1+nA l
def nA:List gU→Nat
 | []=>0
 |x::l=>wq x+nA l
end
mutual
def tg:gU→Nat
 | .mk r _ l=>(if r<0 then 1 else 0)+kq l
def kq:List gU→Nat
 | []=>0
 |x::l=>tg x+kq l
end
def CF (g:mP)(r x:Int):ax:=if r<0 then(g.bK.getD x.toNat Yb).word else(g.rules.getD r.toNat Yc).name
mutual
def o7 (g:mP):gU→Nat→Int→Nat→List Nq
 | .mk r x l,k,up,w=>⟨k,decide (r<0),CF g r x,up,k+(1+nA l),w,w+((if r<0 then 1 else 0)+kq l)⟩::oh g l (k+1) k (w+(if r<0 then 1 else 0))
def oh (g:mP):List gU→Nat→Int→Nat→List Nq
 | [],_,_,_=>[]
 |x::l,k,up,w=>o7 g x k up w++oh g l (k+wq x) up (w+tg x)
end
mutual
def ir (nr nl:Nat):gU→Prop
 | .mk r x l=>(-1≤r∧r<nr)∧(r<0→l=[]∧0≤x∧x<nl)∧(0≤r→l≠ [])∧kr nr nl l
def kr (nr nl:Nat):List gU→Prop
 | []=>True
 |x::l=>ir nr nl x∧kr nr nl l
end
mutual
theorem pT (g:mP):∀(t:gU) (k:Nat) (up:Int) (w:Nat),(o7 g t k up w).length=wq t
 | .mk r x l,k,up,w=>by rw[o7,List.length_cons,th g l,wq];omega
theorem th (g:mP):∀(l:List gU) (k:Nat) (up:Int) (w:Nat),(oh g l k up w).length=nA l
 | [],_,_,_=>by rw[oh,nA];rfl
 |x::l,k,up,w=>by rw[oh,List.length_append,pT g x,th g l,nA]
end
mutual
theorem zN {nr nl:Nat}:∀t:gU,ir nr nl t→0<tg t
 | .mk r x l,h=>by
  rw[ir]at h;rw[tg]
  by_cases hr:r<0
  ·rw[if_pos hr];omega
  ·have:=G7 l h.2.2.2 (h.2.2.1 (by omega));omega
theorem G7 {nr nl:Nat}:∀l:List gU,kr nr nl l→l≠ []→0<kq l
 | [],_,h=>absurd rfl h
 |x::l,h,_=>by
  rw[kr]at h
  have:=zN x h.1
  rw[kq];omega
end
def zO (x y:Nq):Prop:=x.no<y.no∧((y.no<x.fin∧x.AY≤y.AY∧y.to≤x.to)∨(x.fin≤y.no∧x.to≤y.AY))
def MM (k m w n:Nat)(x:Nq):Prop:=k≤x.no∧x.no<x.fin∧x.fin≤k+m∧w≤x.AY∧x.AY<x.to∧x.to≤w+n
mutual
theorem CG {nr nl:Nat}(g:mP):∀(t:gU) (k:Nat) (up:Int) (w:Nat),ir nr nl t→(o7 g t k up w).Pairwise zO∧∀x∈o7 g t k up w,MM k (wq t) w (tg t) x
 | .mk r x l,k,up,w,h=>by
  have hp:=zN _ h
  rw[ir]at h;obtain⟨h1,h2⟩:=CH g l (k+1) k (w+(if r<0 then 1 else 0)) h.2.2.2;rw[o7,wq];rw[tg]at hp⊢;refine⟨List.pairwise_cons.2 ⟨fun y hy=> ?_,h1⟩,fun y hy=> ?_⟩
  ·obtain⟨a1,a2,a3,a4,a5,a6⟩:=h2 y hy
   refine⟨?_,Or.inl ⟨?_,?_,?_⟩⟩<;>dsimp only<;>omega
  ·rcases List.mem_cons.1 hy with rfl|hy
   ·refine⟨?_,?_,?_,?_,?_,?_⟩<;>dsimp only<;>omega
   ·obtain⟨a1,a2,a3,a4,a5,a6⟩:=h2 y hy
    refine⟨?_,?_,?_,?_,?_,?_⟩<;>omega
theorem CH {nr nl:Nat}(g:mP):∀(l:List gU) (k:Nat) (up:Int) (w:Nat),kr nr nl l→(oh g l k up w).Pairwise zO∧∀x∈oh g l k up w,MM k (nA l) w (kq l) x
 | [],_,_,_,_=>by rw[oh];exact⟨List.Pairwise.nil,fun x hx=>by cases hx⟩
 |t::l,k,up,w,h=>by
  rw[kr]at h;obtain⟨h1,h2⟩:=CG g t k up w h.1;obtain⟨h3,h4⟩:=CH g l (k+wq t) up (w+tg t) h.2;rw[oh,nA,kq];refine⟨List.pairwise_append.2 ⟨h1,h3,fun x hx y hy=> ?_⟩,fun y hy=> ?_⟩
  ·obtain⟨a1,a2,a3,a4,a5,a6⟩:=h2 x hx
   obtain⟨b1,b2,b3,b4,b5,b6⟩:=h4 y hy;exact⟨by omega,Or.inr ⟨by omega,by omega⟩⟩
  ·rcases List.mem_append.1 hy with hy|hy
   ·obtain⟨a1,a2,a3,a4,a5,a6⟩:=h2 y hy
    refine⟨?_,?_,?_,?_,?_,?_⟩<;>omega
   ·obtain⟨b1,b2,b3,b4,b5,b6⟩:=h4 y hy
    refine⟨?_,?_,?_,?_,?_,?_⟩<;>omega
end
mutual
theorem CI (g:mP):∀(t:gU) (k:Nat) (up:Int) (w i:Nat) (x:Nq),(o7 g t k up w)[i]?=some x→x.no=k+i
 | .mk r y l,k,up,w,i,x,h=>by
  rw[o7]at h
  cases i with
  |zero=>rw[List.getElem?_cons_zero]at h;cases h;rfl
  |succ i=>rw[List.getElem?_cons_succ]at h;have:=CJ g l _ _ _ i x h;omega
theorem CJ (g:mP):∀(l:List gU) (k:Nat) (up:Int) (w i:Nat) (x:Nq),(oh g l k up w)[i]?=some x→x.no=k+i
 | [],_,_,_,_,_,h=>by rw[oh]at h;simp at h
 |t::l,k,up,w,i,x,h=>by
  rw[oh]at h
  rcases Nat.lt_or_ge i (wq t)with hi|hi
  ·rw[List.getElem?_append_left (by rw[pT];exact hi)]at h
   exact CI g t k up w i x h
  ·rw[List.getElem?_append_right (by rw[pT];exact hi),pT]at h
   have:=CJ g l _ _ _ _ x h
   omega
end
structure bL where
 name:ax
 kind:Int
 label:ax
structure cL where
 kind:Int
 a:Int
 b:Int
def om (v:bL)(x:Nq):Bool:=
 if v.kind=2 then !x.leaf&&decide (x.label=v.label)else if v.kind=3 then x.leaf&&decide (x.label=v.label)else if v.kind=4 then x.leaf else true
def qB (L:List Nq)(k:Int)(a b:Nat):Bool:=
 if k=1 then decide ((L.getD b tf).up=(a:Int))else if k=2 then decide (a<b)&&decide (b<(L.getD a tf).fin)
 else if k=3 then decide ((L.getD a tf).to≤(L.getD b tf).AY)else if k=4 then decide ((L.getD a tf).to=(L.getD b tf).AY)
 else decide (a≠b)&&decide ((L.getD a tf).up=(L.getD b tf).up)
def oo (L:List Nq)(p:List Nat)(x:cL):Bool:= !decide (max x.a x.b=(p.length:Int)-1)||qB L x.kind (p.getD x.a.toNat 0) (p.getD x.b.toNat 0)
def okB (L:List Nq)(ks:List cL)(p:List Nat):Bool:=ks.all (oo L p)
def FN (L:List Nq)(ks:List cL)(v:bL)(p:List Nat)(i:Nat):Bool:=om v (L.getD i tf)&&okB L ks (p++ [i])
def vP (L:List Nq)(ks:List cL):List bL→List Nat→List (List Nat)
 | [],p=>[p]
 |v::vs,p=>(List.range L.length).flatMap fun i=>if FN L ks v p i then vP L ks vs (p++ [i])else []
def rI (L:List Nq)(ks:List cL):List bL→List Nat→List (List Nat)→List (List Nat)
 | [],p,O=>O++ [p]
 |v::vs,p,O=>(List.range L.length).foldl (fun O i=>if 500<O.length then O else if FN L ks v p i then rI L ks vs (p++ [i]) O else O) O
def dp:List ax→Nat→List bL→Int×Int
 |_,_,[]=>(0,0)
 |known,i,v::vs=>if v.kind<1∨4<v.kind then(4,i)else if isName v.name=false∨(v.kind=2∧isName v.label=false)∨(v.kind=3∧isWord v.label=false)then(10,i)
  else if v.name∈known then(7,i)else if(v.kind=1∨v.kind=4)∧v.label≠ []then(5,i)else dp (known++ [v.name]) (i+1) vs
def fI (n:Int):Nat→List cL→Int×Int
 |_,[]=>(0,0)
 |i,l::ls=>if l.kind<1∨5<l.kind then(4,i)else if l.a<0∨n≤l.a∨l.b<0∨n≤l.b then(3,i)else if l.a=l.b then(5,i)else fI n (i+1) ls
def ec (vs:List bL)(ks:List cL):Int×Int:=if 4<vs.length∨8<ks.length then(2,-1)else if vs.length=0 then(9,-1)else if(dp [] 0 vs).1≠0 then dp [] 0 vs else fI vs.length vs.length ks
theorem rJ {α:Type}(A B:List α)(n:Nat):(A.take n++B).take n=(A++B).take n:=by
 rcases Nat.lt_or_ge A.length n with h|h
 ·rw[List.take_of_length_le (l:=A) (by omega)]
 ·rw[List.take_append_of_le_length (by rw[List.length_take];omega),List.take_take,Nat.min_self,List.take_append_of_le_length h]
theorem ti (L:List Nq)(ks:List cL):∀(vs:List bL) (p:List Nat) (O:List (List Nat)),O.length≤501→(vs=[]→O.length≤500)→rI L ks vs p O=(O++vP L ks vs p).take 501
 | [],p,O,_,h=>by
  have:=h rfl
  rw[rI,vP,List.take_of_length_le]
  rw[List.length_append];simp only[List.length_cons,List.length_nil];omega
 |v::vs,p,O,h,hv=>by
  clear hv
  rw[rI,vP]
  generalize List.range L.length=is
  induction is generalizing O with
  |nil=>rw[List.foldl_nil,List.flatMap_nil,List.append_nil,List.take_of_length_le h]
  |cons i is ih=>
   rw[List.foldl_cons,List.flatMap_cons]
   by_cases hO:500<O.length
   ·rw[if_pos hO,ih O h,List.take_append_of_le_length (by omega),List.take_append_of_le_length (by omega)]
   ·rw[if_neg hO]
    by_cases hg:FN L ks v p i=true
    ·rw[if_pos hg,if_pos hg,ti L ks vs (p++ [i]) O h (fun _=>by omega),ih _ (by rw[List.length_take];omega),rJ,List.append_assoc]
    ·rw[if_neg hg,if_neg hg,ih O h,List.nil_append]
mutual
theorem CK {rk:List Int}{nl:Nat}(hk:∀k∈rk,1≤k):∀(t:gU) (d ch:Nat) (s:AO),(ju rk nl t d ch s).2.1=0→ir rk.length nl t∧(ju rk nl t d ch s).1.nodes=s.nodes+wq t∧(ju rk nl t d ch s).1.nodes≤200∧(ju rk nl t d ch s).1.leaves=s.leaves+tg t
 | .mk r x l,d,ch,s,h=>by
  rw[ju]at h⊢
  by_cases h1:200<s.nodes+1∨48<d
  ·rw[if_pos h1]at h;exact absurd h (by simp)
  rw[if_neg h1]at h⊢
  by_cases h2:r< -1∨rk.length≤r∨(r= -1∧(x<0∨nl≤x))
  ·rw[if_pos h2]at h;exact absurd h (by simp)
  rw[if_neg h2]at h⊢
  by_cases h3:0≤r∧x≠0
  ·rw[if_pos h3]at h;exact absurd h (by simp)
  rw[if_neg h3]at h⊢
  by_cases h4:(l.length:Int)≠(if 0≤r then rk.getD r.toNat 0 else 0)
  ·rw[if_pos h4]at h;exact absurd h (by simp)
  rw[if_neg h4]at h⊢
  by_cases h5:3<(if l.length=1 then ch+1 else 0)
  ·rw[if_pos h5]at h;exact absurd h (by simp)
  rw[if_neg h5]at h⊢;obtain⟨k1,k2,k3,k4⟩:=zP hk l _ _ _ h (show s.nodes+1≤200 by omega);refine⟨?_,by rw[k2,wq];dsimp only;omega,k3,?_⟩
  ·rw[ir]
   refine⟨by omega,fun hr=> ?_,fun hr hl=> ?_,k1⟩
   ·rw[if_neg (by omega)]at h4
    refine⟨List.eq_nil_of_length_eq_zero (by omega),by omega,by omega⟩
   ·rw[if_pos hr,hl]at h4
    have iU:r.toNat<rk.length:=by omega
    have:=hk (rk.getD r.toNat 0) (by rw[List.getD_eq_getElem?_getD,List.getElem?_eq_getElem iU];exact List.getElem_mem iU)
    simp only[List.length_nil]at h4
    omega
  ·rw[k4,tg]
   dsimp only
   by_cases hr:0≤r
   ·rw[if_pos hr,if_neg (by omega)];omega
   ·rw[if_neg hr,if_pos (by omega)];omega
theorem zP {rk:List Int}{nl:Nat}(hk:∀k∈rk,1≤k):∀(l:List gU) (d ch:Nat) (s:AO),(jE rk nl l d ch s).2.1=0→s.nodes≤200→kr rk.length nl l∧(jE rk nl l d ch s).1.nodes=s.nodes+nA l∧(jE rk nl l d ch s).1.nodes≤200∧(jE rk nl l d ch s).1.leaves=s.leaves+kq l
 | [],d,ch,s,_,hs=>by rw[jE,kr,nA,kq];exact⟨trivial,rfl,hs,rfl⟩
 |x::l,d,ch,s,h,hs=>by
  rw[jE]at h⊢
  by_cases h1:(ju rk nl x d ch s).2.1≠0
  ·rw[if_pos h1]at h;exact absurd h h1
  rw[if_neg h1]at h⊢;obtain⟨a1,a2,a3,a4⟩:=CK hk x d ch s (Decidable.not_not.1 h1);obtain⟨b1,b2,b3,b4⟩:=zP hk l d ch _ h a3;rw[kr,nA,kq];exact⟨⟨a1,b1⟩,by omega,b3,by omega⟩
end
structure sI (L:List Nq):Prop where
 ahead:L.Pairwise zO
 no:∀(i:Nat) (x:Nq),L[i]?=some x→x.no=i
 words:∀x∈L,x.AY<x.to∧x.no<x.fin
theorem sI.of {nr nl:Nat}(g:mP){t:gU}(h:ir nr nl t):sI (o7 g t 0 (-1) 0):=by
 obtain⟨h1,h2⟩:=CG g t 0 (-1) 0 h;exact⟨h1,fun i x hx=>by have:=CI g t 0 (-1) 0 i x hx;omega,fun x hx=>by obtain⟨a1,a2,a3,a4,a5,a6⟩:=h2 x hx;exact⟨a5,a2⟩⟩
theorem getD_some {L:List Nq}{i:Nat}(h:i<L.length):L[i]?=some (L.getD i tf):=by
 rw[List.getD_eq_getElem?_getD,List.getElem?_eq_getElem h];rfl
theorem sI.lt {L:List Nq}(h:sI L){i j:Nat}(Ql:i<j)(hj:j<L.length):zO (L.getD i tf) (L.getD j tf)∧(L.getD i tf).no=i∧(L.getD j tf).no=j:=by
 have h1:=getD_some (show i<L.length by omega)
 have h2:=getD_some hj
 refine⟨?_,h.no _ _ h1,h.no _ _ h2⟩
 have:=List.pairwise_iff_getElem.1 h.ahead i j (by omega) hj Ql
 rw[List.getElem?_eq_getElem (show i<L.length by omega)]at h1;rw[List.getElem?_eq_getElem hj]at h2
 injection h1 with h1;injection h2 with h2
 rw[←h1,←h2];exact this
theorem sI.one {L:List Nq}(h:sI L){i:Nat}(hi:i<L.length):(L.getD i tf).AY<(L.getD i tf).to:=(h.words _ (List.mem_of_getElem? (getD_some hi))).1
end Go.Proofs.YtoioijgdggkabaaGreatDoor
namespace Go.J
open Go Go.Proofs.YtoioijgdggkabaaGreatDoor
def cC:Rp bL:=⟨3,by decide,fun x=>[sv x.name,iv x.kind,sv x.label],fun x=>iK x.name∧aj x.kind∧iK x.label,fun _=>rfl,fun x u h=>by simp at h;rcases h with rfl|rfl|rfl<;>rfl⟩
def cE:Rp cL:=⟨3,by decide,fun x=>[iv x.kind,iv x.a,iv x.b],fun x=>aj x.kind∧aj x.a∧aj x.b,fun _=>rfl,fun x u h=>by simp at h;rcases h with rfl|rfl|rfl<;>rfl⟩
def fU:Rp Nq:=⟨6,by decide,fun x=>[.bool x.leaf,sv x.label,iv x.up,iv (x.fin:Int),iv (x.AY:Int),iv (x.to:Int)],fun _=>True,fun _=>rfl,fun x u h=>by simp at h;rcases h with rfl|rfl|rfl|rfl|rfl|rfl<;>rfl⟩
instance (x:bL):fw cC x [sv x.name,iv x.kind,sv x.label]:=⟨rfl⟩
instance (x:cL):fw cE x [iv x.kind,iv x.a,iv x.b]:=⟨rfl⟩
instance (x:Nq):fw fU x [.bool x.leaf,sv x.label,iv x.up,iv (x.fin:Int),iv (x.AY:Int),iv (x.to:Int)]:=⟨rfl⟩
structure cF where
 vv:dQ
 vars:List bL
 kv:dQ
 aV:List cL
abbrev da (q:cF):Value:= .agg #[q.vv.1,q.kv.1]
def kD (q:cF):List dJ:=[sl cC q.vv.1 q.vars,sl cE q.kv.1 q.aV]
def bG (q:cF):dJ:=mo (kD q)
end Go.J
set_option maxRecDepth 20000
namespace Go.Proofs.YtoioijgdggkabaaGreatDoor
open Go Go.J Go.ChangeShapes Go.WideShapes Go.ChangeAt Go.RowKit Go.Deep
theorem MN {α:Type}{l:List α}(h:l.length=2):∃a0 a1,l=[a0,a1]:=match l,h with
 | [a0,a1],_=>⟨a0,a1,rfl⟩
theorem IM {α:Type}{l:List α}(h:l.length=3):∃a0 a1 a2,l=[a0,a1,a2]:=match l,h with
 | [a0,a1,a2],_=>⟨a0,a1,a2,rfl⟩
theorem tj:Tryz.prog.cellsOf 3=1:=by kernel_rfl
theorem xg:Tryz.prog.cellsOf 9=1:=by kernel_rfl
theorem G8:Tryz.prog.cellsOf 22=1:=by kernel_rfl
theorem G9:Tryz.prog.cellsOf 23=1:=by kernel_rfl
theorem GA:Tryz.prog.cellsOf 25=2:=by kernel_rfl
theorem GB:Tryz.prog.cellsOf 38=3:=by kernel_rfl
theorem GC:Tryz.prog.cellsOf 40=3:=by kernel_rfl
section
variable {H:Type}{enc:TypeId×Value→H}{W:World}
theorem GD:∀(n:Nat) (cs:List Value) (y:DataW H×List MemPlace),cs.length=3→Tr enc Tryz.prog W n 38 cs y→mj (y.1.weights Tryz.prog 38)=true→∃x:bL,cs=cC.cells x∧cC.wf x∧True:=by
 intro n;intro cs y hl h hw;obtain⟨c0,c1,c2,rfl⟩:=IM hl;obtain⟨m,rfl,hp⟩:=o6 Tryz.underlying38 h hw;obtain⟨z0,t0,w0⟩:=ga hp 0 rfl rfl rfl xg
 have t0:Tr enc Tryz.prog W m 9 [c0] z0:=t0
 obtain⟨x0,e0,k0⟩:=CE Tryz.underlying9 t0 w0;obtain⟨z1,t1,w1⟩:=ga hp 1 rfl rfl rfl tj
 have t1:Tr enc Tryz.prog W m 3 [c1] z1:=t1
 obtain⟨x1,e1,k1⟩:=te Tryz.underlying3 t1;obtain⟨z2,t2,w2⟩:=ga hp 2 rfl rfl rfl xg
 have t2:Tr enc Tryz.prog W m 9 [c2] z2:=t2
 obtain⟨x2,e2,k2⟩:=CE Tryz.underlying9 t2 w2
 simp only[List.cons.injEq,and_true]at e0
 subst e0
 simp only[List.cons.injEq,and_true]at e1
 subst e1
 simp only[List.cons.injEq,and_true]at e2
 subst e2;exact⟨⟨x0,x1,x2⟩,rfl,⟨k0,k1,k2⟩,trivial⟩
theorem Js:∀(n:Nat) (cs:List Value) (y:DataW H×List MemPlace),cs.length=3→Tr enc Tryz.prog W n 40 cs y→mj (y.1.weights Tryz.prog 40)=true→∃x:cL,cs=cE.cells x∧cE.wf x∧True:=by
 intro n;intro cs y hl h hw;obtain⟨c0,c1,c2,rfl⟩:=IM hl;obtain⟨m,rfl,hp⟩:=o6 Tryz.underlying40 h hw;obtain⟨z0,t0,w0⟩:=ga hp 0 rfl rfl rfl tj
 have t0:Tr enc Tryz.prog W m 3 [c0] z0:=t0
 obtain⟨x0,e0,k0⟩:=te Tryz.underlying3 t0;obtain⟨z1,t1,w1⟩:=ga hp 1 rfl rfl rfl tj
 have t1:Tr enc Tryz.prog W m 3 [c1] z1:=t1
 obtain⟨x1,e1,k1⟩:=te Tryz.underlying3 t1;obtain⟨z2,t2,w2⟩:=ga hp 2 rfl rfl rfl tj
 have t2:Tr enc Tryz.prog W m 3 [c2] z2:=t2
 obtain⟨x2,e2,k2⟩:=te Tryz.underlying3 t2
 simp only[List.cons.injEq,and_true]at e0
 subst e0
 simp only[List.cons.injEq,and_true]at e1
 subst e1
 simp only[List.cons.injEq,and_true]at e2
 subst e2;exact⟨⟨x0,x1,x2⟩,rfl,⟨k0,k1,k2⟩,trivial⟩
theorem CL:∀(n:Nat) (cs:List Value) (y:DataW H×List MemPlace),cs.length=2→Tr enc Tryz.prog W n 25 cs y→mj (y.1.weights Tryz.prog 25)=true→∃x:cF,cs=[x.vv.1,x.kv.1]∧(bG x).f (J.all W)∧x.vars.length*40≤140737488351232∧x.aV.length*24≤140737488351232:=by
 intro n;intro cs y hl h hw;obtain⟨c0,c1,rfl⟩:=MN hl;obtain⟨m,rfl,hp⟩:=o6 Tryz.underlying25 h hw;obtain⟨z0,t0,w0⟩:=ga hp 0 rfl rfl rfl G8
 have t0:Tr enc Tryz.prog W m 22 [c0] z0:=t0
 obtain⟨x0,l0,e0,f0,k0,s0⟩:=vO cC (fun _=>True) Tryz.underlying22 GB (fun n _=>GD n) t0 w0;obtain⟨z1,t1,w1⟩:=ga hp 1 rfl rfl rfl G9
 have t1:Tr enc Tryz.prog W m 23 [c1] z1:=t1
 obtain⟨x1,l1,e1,f1,k1,s1⟩:=vO cE (fun _=>True) Tryz.underlying23 GC (fun n _=>Js n) t1 w1
 simp only[List.cons.injEq,and_true]at e0
 subst e0
 simp only[List.cons.injEq,and_true]at e1
 subst e1
 exact⟨⟨x0,l0,x1,l1⟩,rfl,(fun d hd=>by
  simp only[kD,List.mem_cons,List.not_mem_nil,or_false]at hd
  rcases hd with rfl|rfl
  ·exact f0
  ·exact f1),s0,s1⟩
theorem xh {v:Value}{d:DataW H}{p:List MemPlace}{MO:Nat}(hv:Value.okWide Tryz.prog W .any MO 25 v)(hw:mj (d.weights Tryz.prog 25)=true)(h:DataW.Trod enc Tryz.prog W 0 (fun _=>true) true 25 v d p):∃x:cF,v=da x∧(bG x).f (J.all W)∧x.vars.length*40≤140737488351232∧x.aV.length*24≤140737488351232:=by
 obtain⟨cs,rfl,hc⟩:=okWide_struct Tryz.underlying25 hv;obtain⟨fuel,hf⟩:=h;obtain⟨x,e,q,s⟩:=CL fuel cs.toList (d,p) (by rw[Array.length_toList,hc,GA]) hf hw;exact⟨x,congrArg Value.agg (Array.toList_inj.1 e),q,s⟩
end
end Go.Proofs.YtoioijgdggkabaaGreatDoor
namespace Go.J
open Go
section
variable {P:Program}{n:Nat}{F:Fr}{c:Ctx}{A:World→Prop}{H R:List bE}{ty t:TypeId}{x lo hi:Operand}{s:ax}{Q:Exit→Act→World→Prop}{ops:Array Oper}{rest:List Oper}{d:Nat}{pos:String}{after:Array Edge}
theorem ku (s:ax)(l h:Nat):Value.string ((⟨s.toArray⟩:ByteArray).extract l h)=sv ((s.take h).drop l):=by
 unfold sv
 congr 1
 apply ByteArray.ext
 simp[ByteArray.data_extract,List.drop_take]
theorem nB (s:ax):(⟨s.toArray⟩:ByteArray).size=s.length:=by simp[ByteArray.size]
theorem Ev.jN {i:Int}{k:IntKind}{l:Nat}(hx:aL F x (sv s))(zH:aL F lo (.int k i))(ht:P.underlying t=some .string)(hi:i=l)(hl:l≤s.length):Ev P n F A (.slice t x (some lo) none none) ty (sv (s.drop l)):= .of_run fun a w ha _=>by
 subst hi
 have:=run_slice_string_l (P:=P) w t ⟨s.toArray⟩ ht k l (by omega) (by rw[nB];omega)
 rw[Int.toNat_natCast,ku,nB,List.take_length]at this
 simp only[sv]at this⊢
 simp[execOp,hx.eval ha,zH.eval ha,Instr.sliceAt,run_underlying ht,this,sv]
theorem Ev.kE {i:Int}{k:IntKind}{l:Nat}(hx:aL F x (sv s))(zH:aL F hi (.int k i))(ht:P.underlying t=some .string)(LA:i=l)(hl:l≤s.length):Ev P n F A (.slice t x none (some hi) none) ty (sv (s.take l)):= .of_run fun a w ha _=>by
 subst LA
 have:=run_slice_string_h (P:=P) w t ⟨s.toArray⟩ ht k l (by omega) (by rw[nB];omega)
 rw[Int.toNat_natCast,ku,List.drop_zero]at this
 simp only[sv]at this⊢
 simp[execOp,hx.eval ha,zH.eval ha,Instr.sliceAt,run_underlying ht,this,sv]
end
variable {P:Program}{n:Nat}{F:Fr}{A:World→Prop}{t:TypeId}{ty:TypeId}{x lo hi:Operand}{s:ax}
theorem Ev.zQ {i j:Int}{k k':IntKind}{l m:Nat}(hx:aL F x (sv s))(zH:aL F lo (.int k i))(Lq:aL F hi (.int k' j))(ht:P.underlying t=some .string)(LA:i=l)(hj:j=m)(hl:l≤m∧m≤s.length):Ev P n F A (.slice t x (some lo) (some hi) none) ty (sv ((s.take m).drop l)):= .of_run fun a w ha _=>by
 subst LA hj
 have:=run_slice_string (P:=P) w t ⟨s.toArray⟩ k k' l m ht (by omega) (by omega) (by rw[nB];omega)
 rw[Int.toNat_natCast,Int.toNat_natCast,ku]at this
 simp only[sv]at this⊢
 simp[execOp,hx.eval ha,zH.eval ha,Lq.eval ha,Instr.sliceAt,run_underlying ht,this,sv]
end Go.J
namespace Go.J
open Go Go.RowKit
theorem eI.Jt {P:Program}{f:FuncId}{args:Array Value}{e:TypeId}{vs:List Value}{n:Nat}(hn:vs.length=n)(hm:n≤maxLen)(h:∀w,Calls P f args w fun en w'=>en= .returned (.slice (some ⟨w.heap.size,0,none⟩) n n)∧w'=w.alloc (.cells vs.toArray e)):
 eI P f args [] (fun v H'=>∃b,v= .slice (some ⟨b,0,none⟩) n n∧H'=[row v e 1 n vs]):=by
 intro w ρ hs;refine(h w).mono ?_;rintro en w' ⟨rfl,rfl⟩;refine⟨_,_,rfl,⟨_,rfl,rfl⟩,Mm.mk (ρ:=ρ) ?_⟩
 have h0:dt ⟨w,ρ,jB [],True⟩ [] ρ w:=hs
 refine h0.AB rfl ⟨rfl,Nat.le_refl _⟩ rfl (by simp) (fun k hk=>RowKit.Below.heap_alloc w _ k hk) (e6.2 ⟨by simp[hn],.inr ⟨w.heap.size,n,_,rfl,Nat.zero_le _,heap_alloc_new w _,Nat.le_refl _,hm,by simp[hn],by simp only[List.toList_toArray];exact List.take_of_length_le (by omega)⟩⟩) ?_
 intro b hb;rw[eL]at hb;simp[Value.ownBlock]at hb;omega
end Go.J
namespace Go.Proofs
open Go.Shelf
def Tryz.oq:Go.Shelf.Ren:=⟨fun|138=>68|143=>69|195=>62|197=>72|217=>100|218=>87|219=>88|221=>47|224=>102|225=>101|260=>89|266=>111|267=>103|268=>67|314=>112|n=>n,fun|0=>0|3=>3|4=>4|5=>5|9=>9|21=>21|31=>62|46=>164|51=>189|105=>147|119=>160|138=>162|139=>163|146=>190|n=>n,fun|1=>3|3=>1|4=>2|n=>n⟩
theorem Tryz.tm:Go.Proofs.Lays.n221 Tryz.prog Tryz.oq:={
 mixed:=by kernel_rfl
 f138:=Tryz.func68.trans (congrArg some (by kernel_rfl))
 f143:=Tryz.func69.trans (congrArg some (by kernel_rfl))
 f195:=Tryz.func62.trans (congrArg some (by kernel_rfl))
 f197:=Tryz.func72.trans (congrArg some (by kernel_rfl))
 f217:=Tryz.func100.trans (congrArg some (by kernel_rfl))
 f218:=Tryz.func87.trans (congrArg some (by kernel_rfl))
 f219:=Tryz.func88.trans (congrArg some (by kernel_rfl))
 f221:=Tryz.func47.trans (congrArg some (by kernel_rfl))
 f224:=Tryz.func102.trans (congrArg some (by kernel_rfl))
 f225:=Tryz.func101.trans (congrArg some (by kernel_rfl))
 f260:=Tryz.func89.trans (congrArg some (by kernel_rfl))
 f266:=Tryz.func111.trans (congrArg some (by kernel_rfl))
 f267:=Tryz.func103.trans (congrArg some (by kernel_rfl))
 f268:=Tryz.func67.trans (congrArg some (by kernel_rfl))
 f314:=Tryz.func112.trans (congrArg some (by kernel_rfl))
 t0:=Tryz.underlying0
 a0:=Tryz.isAgg0
 z0:=Tryz.sizeOf0
 v0:=Tryz.zeroValue0
 t3:=Tryz.underlying3
 a3:=Tryz.isAgg3
 z3:=Tryz.sizeOf3
 v3:=Tryz.zeroValue3
 t4:=Tryz.underlying4
 a4:=Tryz.isAgg4
 z4:=Tryz.sizeOf4
 v4:=Tryz.zeroValue4
 t5:=Tryz.underlying5
 a5:=Tryz.isAgg5
 z5:=Tryz.sizeOf5
 v5:=Tryz.zeroValue5
 t9:=Tryz.underlying9
 a9:=Tryz.isAgg9
 z9:=Tryz.sizeOf9
 v9:=Tryz.zeroValue9
 t21:=Tryz.underlying21
 a21:=Tryz.isAgg21
 z21:=Tryz.sizeOf21
 v21:=Tryz.zeroValue21
 t31:=Tryz.underlying62
 a31:=Tryz.isAgg62
 z31:=Tryz.sizeOf62
 v31:=Tryz.zeroValue62
 t46:=Tryz.underlying164
 a46:=Tryz.isAgg164
 z46:=Tryz.sizeOf164
 v46:=Tryz.zeroValue164
 t51:=Tryz.underlying189
 a51:=Tryz.isAgg189
 z51:=Tryz.sizeOf189
 v51:=Tryz.zeroValue189
 t105:=Tryz.underlying147
 a105:=Tryz.isAgg147
 z105:=Tryz.sizeOf147
 v105:=Tryz.zeroValue147
 t119:=Tryz.underlying160
 a119:=Tryz.isAgg160
 z119:=Tryz.sizeOf160
 t138:=Tryz.underlying162
 a138:=Tryz.isAgg162
 z138:=Tryz.sizeOf162
 v138:=Tryz.zeroValue162
 t139:=Tryz.underlying163
 a139:=Tryz.isAgg163
 z139:=Tryz.sizeOf163
 v139:=Tryz.zeroValue163
 t146:=Tryz.underlying190
 a146:=Tryz.isAgg190
 z146:=Tryz.sizeOf190
 v146:=Tryz.zeroValue190
 g1:=by kernel_rfl
 g3:=by kernel_rfl
 g4:=by kernel_rfl}
def Tryz.ou:Go.Shelf.Ren:=⟨fun|119=>105|137=>104|151=>73|152=>90|161=>24|197=>72|217=>100|224=>102|225=>101|227=>50|228=>71|231=>49|233=>51|235=>52|260=>89|266=>111|n=>n,fun|0=>0|3=>3|4=>4|5=>5|9=>9|21=>21|46=>164|105=>147|116=>120|117=>121|119=>160|124=>124|138=>162|139=>163|n=>n,fun|3=>1|4=>2|n=>n⟩
theorem Tryz.GF:Go.Proofs.Lays.n161 Tryz.prog Tryz.ou:={
 mixed:=by kernel_rfl
 f119:=Tryz.func105.trans (congrArg some (by kernel_rfl))
 f137:=Tryz.func104.trans (congrArg some (by kernel_rfl))
 f151:=Tryz.func73.trans (congrArg some (by kernel_rfl))
 f152:=Tryz.func90.trans (congrArg some (by kernel_rfl))
 f161:=Tryz.func24.trans (congrArg some (by kernel_rfl))
 f197:=Tryz.func72.trans (congrArg some (by kernel_rfl))
 f217:=Tryz.func100.trans (congrArg some (by kernel_rfl))
 f224:=Tryz.func102.trans (congrArg some (by kernel_rfl))
 f225:=Tryz.func101.trans (congrArg some (by kernel_rfl))
 f227:=Tryz.func50.trans (congrArg some (by kernel_rfl))
 f228:=Tryz.func71.trans (congrArg some (by kernel_rfl))
 f231:=Tryz.func49.trans (congrArg some (by kernel_rfl))
 f233:=Tryz.func51.trans (congrArg some (by kernel_rfl))
 f235:=Tryz.func52.trans (congrArg some (by kernel_rfl))
 f260:=Tryz.func89.trans (congrArg some (by kernel_rfl))
 f266:=Tryz.func111.trans (congrArg some (by kernel_rfl))
 t0:=Tryz.underlying0
 a0:=Tryz.isAgg0
 z0:=Tryz.sizeOf0
 v0:=Tryz.zeroValue0
 t3:=Tryz.underlying3
 a3:=Tryz.isAgg3
 z3:=Tryz.sizeOf3
 v3:=Tryz.zeroValue3
 t4:=Tryz.underlying4
 a4:=Tryz.isAgg4
 z4:=Tryz.sizeOf4
 v4:=Tryz.zeroValue4
 t5:=Tryz.underlying5
 a5:=Tryz.isAgg5
 z5:=Tryz.sizeOf5
 v5:=Tryz.zeroValue5
 t9:=Tryz.underlying9
 a9:=Tryz.isAgg9
 z9:=Tryz.sizeOf9
 v9:=Tryz.zeroValue9
 t21:=Tryz.underlying21
 a21:=Tryz.isAgg21
 z21:=Tryz.sizeOf21
 v21:=Tryz.zeroValue21
 t46:=Tryz.underlying164
 a46:=Tryz.isAgg164
 z46:=Tryz.sizeOf164
 v46:=Tryz.zeroValue164
 t105:=Tryz.underlying147
 a105:=Tryz.isAgg147
 z105:=Tryz.sizeOf147
 v105:=Tryz.zeroValue147
 t116:=Tryz.underlying120
 a116:=Tryz.isAgg120
 z116:=Tryz.sizeOf120
 t117:=Tryz.underlying121
 a117:=Tryz.isAgg121
 z117:=Tryz.sizeOf121
 v117:=Tryz.zeroValue121
 t119:=Tryz.underlying160
 a119:=Tryz.isAgg160
 z119:=Tryz.sizeOf160
 t124:=Tryz.underlying124
 a124:=Tryz.isAgg124
 z124:=Tryz.sizeOf124
 v124:=Tryz.zeroValue124
 t138:=Tryz.underlying162
 a138:=Tryz.isAgg162
 z138:=Tryz.sizeOf162
 v138:=Tryz.zeroValue162
 t139:=Tryz.underlying163
 a139:=Tryz.isAgg163
 z139:=Tryz.sizeOf163
 v139:=Tryz.zeroValue163
 g3:=by kernel_rfl
 g4:=by kernel_rfl}
end Go.Proofs
namespace Go.J
open Go
section
variable {P:Program}{n:Nat}{F:Fr}{A:World→Prop}{c:Ctx}{H R:List bE}{ty:TypeId}{x y:Operand}{v:Value}{Q:Exit→Act→World→Prop}{ops:Array Oper}{rest:List Oper}
 {pos:String} {after:Array Edge} {t e:TypeId}
theorem tn {b off:Nat}{L:List Value}{u:Value}{ρ:Ro}{w:World}(iT:dt c (aZ b (.cells L.toArray e (0,0))::R) ρ w)(ho:off<L.length):w.cell? ⟨b,off,none⟩=some L[off]∧w.frozen? ⟨b,off,none⟩=false∧
 dt c (aZ b (.cells (L.set off u).toArray e (0,0))::R) ρ (w.setCell ⟨b,off,none⟩ u):=by
 have hb:=eK.1 (iT.ct _ (List.mem_cons_self ..))
 refine⟨by rw[bp hb];simp,by simp[World.frozen?,hb],?_⟩;refine iT.alter rfl ⟨rfl,Nat.le_refl _⟩ rfl (by simp) (fun k hk er=> ?_) (eK.2 ?_) (fun b' jC=>by rw[gT]at jC⊢;exact .inl jC)
 ·rw[gT]at er
  simp only[World.setCell,Array.getElem?_modify]
  rw[if_neg (fun e=>er (by rw[e]))]
 ·rw[kX hb];simp
theorem St.jZ {T:Act→World→Prop}(L:List bE)(hs:L.Sublist H)(k:St n F (Mm c L) T):St n F (Mm c H) T:=k.pg fun w hw=>by
 obtain⟨ρ,h⟩:=hw.out;exact Mm.mk ⟨h.os,h.tape,h.output,h.size,h.wi,h.fits,h.le,h.new,fun E hE=>h.ct E (hs.subset hE),fun E hE=>h.own E (hs.subset hE),h.A7.sublist hs⟩
theorem St.CM {b off:Nat}{L L':List Value}{u1:Value}[tk:kL b H (.cells L.toArray e (0,0)) R](hx:aL F x (.pointer (some ⟨b,off,none⟩)))(hy:aL F y (.agg #[u1]))(hs:(P.info? t).map (·.size)=some 1)(h1:u1.oneCell'=true)
 (AE:Nat.ble (off+1) L.length=true) (hL:L.set off u1=L') (h:St n F (Mm c (aZ b (.cells L'.toArray e (0,0))::R)) (wpList P ops Q rest)):
 St n F (Mm c H) (wpList P ops Q ({dst:=none,op:= .store t x y,type:=ty,pos:=pos,after:=after,guard:=none}::rest)):=by
 subst hL;refine St.lT (K:=fun u H'=>H'=aZ b (.cells (L.set off u1).toArray e (0,0))::R) ?_ ?_
 ·intro a w ρ ha hm
  have MP:=hm.perm tk.perm
  obtain⟨c1,f1,AF⟩:=tn (u:=u1) MP (Nat.le_of_ble_eq_true AE);obtain⟨i,hi,fx⟩:=Option.map_eq_some_iff.1 hs;refine⟨.skip,_,ρ,_,?_,⟨_,.inr ⟨rfl,rfl⟩,rfl⟩,AF⟩
  simp[execOp,hx.eval ha,hy.eval ha,Instr.storeAt,Instr.sureAddr,storeVar,sizeOf,typeInfo,hi,fx,bR,storeCells,run_store P w _ u1 _ h1,c1,f1,Addr.add_zero',Addr.add_lit]
 ·rintro _ _ rfl
  exact h
theorem St.CN {b off:Nat}{L L':List Value}{u1 u2:Value}[tk:kL b H (.cells L.toArray e (0,0)) R](hx:aL F x (.pointer (some ⟨b,off,none⟩)))(hy:aL F y (.agg #[u1,u2]))(hs:(P.info? t).map (·.size)=some 2)(h1:u1.oneCell'=true)(h2:u2.oneCell'=true)
 (AE:Nat.ble (off+2) L.length=true) (hL:(L.set off u1).set (off+1) u2=L') (h:St n F (Mm c (aZ b (.cells L'.toArray e (0,0))::R)) (wpList P ops Q rest)):
 St n F (Mm c H) (wpList P ops Q ({dst:=none,op:= .store t x y,type:=ty,pos:=pos,after:=after,guard:=none}::rest)):=by
 subst hL;refine St.lT (K:=fun u H'=>H'=aZ b (.cells ((L.set off u1).set (off+1) u2).toArray e (0,0))::R) ?_ ?_
 ·intro a w ρ ha hm
  have MP:=hm.perm tk.perm
  have ho:=Nat.le_of_ble_eq_true AE
  obtain⟨c1,f1,AF⟩:=tn (u:=u1) MP (show off<L.length by omega);obtain⟨c2,f2,rn⟩:=tn (u:=u2) AF (show off+1<(L.set off u1).length by rw[List.length_set];omega);obtain⟨i,hi,fx⟩:=Option.map_eq_some_iff.1 hs;refine⟨.skip,_,ρ,_,?_,⟨_,.inr ⟨rfl,rfl⟩,rfl⟩,rn⟩
  simp[execOp,hx.eval ha,hy.eval ha,Instr.storeAt,Instr.sureAddr,storeVar,sizeOf,typeInfo,hi,fx,bR,storeCells,run_store P w _ u1 _ h1,run_store P _ _ u2 _ h2,c1,f1,c2,f2,Addr.add_zero',Addr.add_lit]
 ·rintro _ _ rfl
  exact h
end
section
variable {P:Program}{n:Nat}{F:Fr}{c:Ctx}{H R:List bE}{ty:TypeId}{x y:Operand}{t e:TypeId}
theorem Ev.nC {b off:Nat}{dd:TypeDesc}{fr:Nat×Nat}{L L':List Value}[hb:c4 b H (.cells L.toArray e fr)](m:Nat)(hx:aL F x (.pointer (some ⟨b,off,none⟩)))(ht:P.underlying t=some dd)(pQ:(match dd with| .struct _| .array _ _=>True|_=>False))
 (hs:(P.info? t).map (·.size)=some m) (hL:(L.drop off).take m=L') (hl:L'.length=m):Ev P n F (Mm c H) (.load t x) ty (.agg L'.toArray):= .of_run fun a w ha hw=>by
 obtain⟨ρ,hm⟩:=hw.out
 have h1:=eK.1 (hm.ct _ hb.mem)
 have h4:=fZ (P:=P) (w:=w) (b:=b) (off:=off) (L:=L') ht pQ (by rw[hl];exact hs) (fun j u hj=>by
  rw[bp h1];rw[←hL,List.getElem?_take]at hj
  split at hj
  ·rw[List.getElem?_drop]at hj;simpa using hj
  ·cases hj)
 simp[execOp,hx.eval ha,Instr.loadAt,Instr.sureAddr,h4]
end
theorem dv.ind {p:dv→Prop}(h:∀x,(∀y∈x.args,p y)→p x)(x:dv):p x:=
 dv.rec (motive_1:=p) (motive_2:=fun l=>∀y∈l,p y) (fun b v l ih=>h (.mk b v l) ih) (fun y hy=>by cases hy) (fun a l ha hl y hy=>by
  rcases List.mem_cons.1 hy with rfl|hy
  ·exact ha
  ·exact hl y hy) x
theorem cH.ind {p:cH→Prop}(h:∀x,(∀y∈x.args,p y)→p x)(x:cH):p x:=
 cH.rec (motive_1:=p) (motive_2:=fun l=>∀y∈l,p y) (fun k s i t v l ih=>h (.mk k s i t v l) ih) (fun y hy=>by cases hy) (fun a l ha hl y hy=>by
  rcases List.mem_cons.1 hy with rfl|hy
  ·exact ha
  ·exact hl y hy) x
theorem bV.ind {p:bV→Prop}(h:∀x,(∀y∈x.kids,p y)→p x)(x:bV):p x:=
 bV.rec (motive_1:=p) (motive_2:=fun l=>∀y∈l,p y) (fun r i v l ih=>h (.mk r i v l) ih) (fun y hy=>by cases hy) (fun a l ha hl y hy=>by
  rcases List.mem_cons.1 hy with rfl|hy
  ·exact ha
  ·exact hl y hy) x
section
variable {P:Program}{n:Nat}{F F0:Fr}{A:World→Prop}{c:Ctx}{H R:List bE}{ty:TypeId}{x y:Operand}{v:Value}{Q:Exit→Act→World→Prop}{ops:Array Oper}{rest:List Oper}{d:Nat}{pos:String}{after:Array Edge}{op:Op}{t u e:TypeId}{i j:Int}{k:IntKind}
theorem St.ee (jw:Ev P n F A op ty v)(h:St n ((d,v)::F) A (wpList P ops Q rest))(hd:Nat.ble (d+1) n=true:=by rfl):St n F A (wpList P ops Q ({dst:=some d,op:=op,type:=ty,pos:=pos,after:=after,guard:=none}::rest)):=St.ev v jw hd h
theorem Sq.ee {T:Act→Prop}(jw:Ev P n F A op ty v)(h:Sq n ((d,v)::F) (wpQuiet P ops A T rest))(hd:Nat.ble (d+1) n=true:=by rfl):Sq n F (wpQuiet P ops A T ({dst:=some d,op:=op,type:=ty,pos:=pos,after:=after,guard:=none}::rest)):=Sq.ev v jw hd h
theorem St.sA {b m:Nat}{L L':List Value}[tk:kL b H (.cells L.toArray t (0,0)) R](hx:aL F x (.pointer (some ⟨b,0,none⟩)))(hy:aL F y (.agg L'.toArray))(hs:(P.info? e).map (·.size)=some m)(h:St n F (Mm c (aZ b (.cells L'.toArray t (0,0))::R)) (wpList P ops Q rest))
 (hm:m=L'.length:=by rfl) (hl:L.length=L'.length:=by first|simp only[List.length_cons,List.length_nil]|rfl) (h1:L'.all (·.oneCell')=true:=by rfl):
 St n F (Mm c H) (wpList P ops Q ({dst:=none,op:= .store e x y,type:=ty,pos:=pos,after:=after,guard:=none}::rest)):=St.JT hx hy (by rw[hs,hm]) hl h1 h
theorem ab.cc {dr:Prop}{bs l:List od}{slot:Nat}{gr:List Nat}{K:Value→dJ}{o:Oper}{m:List Oper}(Ff:(Nat→Value)→Fr)(L:(Nat→Value)→List bE)(h:∀(c:Ctx) (e:Nat→Value),(¬dr→¬c.dr)→St n (Ff e++F) (Mm c (L e++H)) (wpList P ops (Exit.then (mz c H slot K) Q) [o]))(k:ab P ops Q n F dr H bs l m)(h1:∀e,q8 bs e gr=Ff e:=by exact fun _=>rfl)(h2:∀e,my bs e gr=L e:=by exact fun _=>rfl):ab P ops Q n F dr H bs (⟨slot,gr,K⟩::l) (o::m):=⟨Jk.mk Ff L h1 h2 h,k⟩
theorem ab.c0 {dr:Prop}{bs l:List od}{slot:Nat}{gr:List Nat}{K:Value→dJ}{o:Oper}{m:List Oper}(h:∀(c:Ctx) (e:Nat→Value),(¬dr→¬c.dr)→St n ((fun e=>[]) e++F) (Mm c ((fun e=>[]) e++H)) (wpList P ops (Exit.then (mz c H slot K) Q) [o]))(k:ab P ops Q n F dr H bs l m)(h1:∀e,q8 bs e gr=(fun e=>[]) e:=by exact fun _=>rfl)(h2:∀e,my bs e gr=(fun e=>[]) e:=by exact fun _=>rfl):ab P ops Q n F dr H bs (⟨slot,gr,K⟩::l) (o::m):=⟨Jk.mk (fun e=>[]) (fun e=>[]) h1 h2 h,k⟩
theorem St.rT {fn:Func}{post:Value→List bE→Prop}{rl:List ResultVar}(vs:List Value)(H':List bE)(hr:fn.results=rl.toArray)(hv:I2 P F H rl vs)(hp:post (A9 vs) H')(hH:∀w,Mm c H w→Mm c H' w:=by exact fun _ hw=>hw.sub):
 St n F (Mm c H) (bodyPost P fn (fun e w'=>∃v H',e= .returned v∧post v H'∧Mm c H' w') .ret):=St.Le vs H' hr hv hp hH
theorem St.rU {fn:Func}{post:Value→List bE→Prop}{rl:List ResultVar}(vs:List Value)(H':List bE)(hr:fn.results=rl.toArray)(hp:post (A9 vs) H')(hv:I2 P F H rl vs:=by first|exact⟨rfl,trivial⟩|exact⟨⟨_,_,_,_,rfl,c4.mem,.inl ⟨⟨_,Yd⟩,Ye,rfl⟩⟩,trivial⟩)(hH:∀w,Mm c H w→Mm c H' w:=by exact fun _ hw=>hw.sub):
 St n F (Mm c H) (bodyPost P fn (fun e w'=>∃v H',e= .returned v∧post v H'∧Mm c H' w') .ret):=St.Le vs H' hr hv hp hH
theorem St.sr {id:Nat}{l:List Oper}{y:Code}(h:St n F A (wpList P l.toArray (Exit.then (y.wp P Q) Q) l)):St n F A ((Code.seq (Code.region id l.toArray false) y).wp P Q):=St.seq (St.rg h)
theorem St.pH {ι κ:Type}{body:Code}(G:ι→κ→Fr→Fr)(Hf:ι→κ→List bE)(φ:ι→κ→Prop)(μ:ι→κ→Nat)(fO:ι)(tL:κ)(hk:aG F F0)(h0:φ fO tL)
 (round:∀x z,φ x z→St n (G x z F0) (Mm c (Hf x z)) (body.wp P (Exit.then (tK n G F0 φ μ c Hf (μ x z)) Q))) (hF:Sub (G fO tL F0) F:=by repeat(first|exact Sub.nil|refine Sub.cons (by first|rfl|exact congrArg (fun z=>some (iv z)) (by first|omega|(dsimp only;omega))|exact congrArg (fun z=>some (Value.bool z)) (by first|assumption|exact Eq.symm (by assumption))) ?_)) (hH:∀w,Mm c H w→Mm c (Hf fO tL) w:=by exact fun _ hw=>hw.sub):
 St n F (Mm c H) ((Code.loop body).wp P Q):=St.JV G Hf φ μ fO tL hk h0 hF hH round
theorem St.lH {ι:Type}{body:Code}(G:ι→Fr→Fr)(Hf:ι→List bE)(φ:ι→Prop)(μ:ι→Nat)(fO:ι)(hk:aG F F0)(h0:φ fO)
 (round:∀x,φ x→St n (G x F0) (Mm c (Hf x)) (body.wp P (Exit.then (oV n G F0 φ μ c Hf (μ x)) Q))) (hF:Sub (G fO F0) F:=by repeat(first|exact Sub.nil|refine Sub.cons (by first|rfl|exact congrArg (fun z=>some (iv z)) (by first|omega|(dsimp only;omega))|exact congrArg (fun z=>some (Value.bool z)) (by first|assumption|exact Eq.symm (by assumption))) ?_)) (hH:∀w,Mm c H w→Mm c (Hf fO) w:=by exact fun _ hw=>hw.sub):
 St n F (Mm c H) ((Code.loop body).wp P Q):=St.I6 G Hf φ μ fO hk h0 hF hH round
theorem St.lS {ι:Type}{body:Code}(G:ι→Fr→Fr)(φ:ι→Prop)(μ:ι→Nat)(fO:ι)(hk:aG F F0)(h0:φ fO)
 (round:∀x,φ x→St n (G x F0) (Mm c H) (body.wp P (Exit.then (oV n G F0 φ μ c (fun _=>H) (μ x)) Q))) (hF:Sub (G fO F0) F:=by repeat(first|exact Sub.nil|refine Sub.cons (by first|rfl|exact congrArg (fun z=>some (iv z)) (by first|omega|(dsimp only;omega))|exact congrArg (fun z=>some (Value.bool z)) (by first|assumption|exact Eq.symm (by assumption))) ?_)):
 St n F (Mm c H) ((Code.loop body).wp P Q):=St.Li G φ μ fO hk h0 hF round
theorem St.ly {ι κ:Type}{G:ι→κ→Fr→Fr}{Hf:ι→κ→List bE}{φ:ι→κ→Prop}{μ:ι→κ→Nat}{k:Nat}(y:ι)(z:κ)(xJ:φ y z)(hm:μ y z<k:=by first|omega|(dsimp only;omega))(hF:Sub (G y z F0) F:=by repeat(first|exact Sub.nil|refine Sub.cons (by first|rfl|exact congrArg (fun z=>some (iv z)) (by first|omega|(dsimp only;omega))|exact congrArg (fun z=>some (Value.bool z)) (by first|assumption|exact Eq.symm (by assumption))) ?_))(hA:∀w,Mm c H w→Mm c (Hf y z) w:=by exact fun _ hw=>hw.sub):
 St n F (Mm c H) (tK n G F0 φ μ c Hf k):=St.zE y z xJ hm hF hA
theorem St.aH {ι:Type}{G:ι→Fr→Fr}{Hf:ι→List bE}{φ:ι→Prop}{μ:ι→Nat}{k:Nat}(y:ι)(xJ:φ y)(hm:μ y<k:=by first|omega|(dsimp only;omega))(hF:Sub (G y F0) F:=by repeat(first|exact Sub.nil|refine Sub.cons (by first|rfl|exact congrArg (fun z=>some (iv z)) (by first|omega|(dsimp only;omega))|exact congrArg (fun z=>some (Value.bool z)) (by first|assumption|exact Eq.symm (by assumption))) ?_))(hA:∀w,Mm c H w→Mm c (Hf y) w:=by exact fun _ hw=>hw.sub):
 St n F (Mm c H) (oV n G F0 φ μ c Hf k):=St.Bm y xJ hm hF hA
theorem St.aS {ι:Type}{G:ι→Fr→Fr}{φ:ι→Prop}{μ:ι→Nat}{k:Nat}{H':List bE}(y:ι)(xJ:φ y)(hm:μ y<k:=by first|omega|(dsimp only;omega))(hF:Sub (G y F0) F:=by repeat(first|exact Sub.nil|refine Sub.cons (by first|rfl|exact congrArg (fun z=>some (iv z)) (by first|omega|(dsimp only;omega))|exact congrArg (fun z=>some (Value.bool z)) (by first|assumption|exact Eq.symm (by assumption))) ?_))(hA:∀w,Mm c H w→Mm c H' w:=by exact fun _ hw=>hw.sub):
 St n F (Mm c H) (oV n G F0 φ μ c (fun _=>H') k):=St.JU y xJ hm hF hA
theorem St.mE {ι:Type}{G:ι→Fr→Fr}{Hf:ι→List bE}{φ:ι→Prop}(y:ι)(xJ:φ y)(hF:Sub (G y F0) F:=by repeat(first|exact Sub.nil|refine Sub.cons (by first|rfl|exact congrArg (fun z=>some (iv z)) (by first|omega|(dsimp only;omega))|exact congrArg (fun z=>some (Value.bool z)) (by first|assumption|exact Eq.symm (by assumption))) ?_))(hA:∀w,Mm c H w→Mm c (Hf y) w:=by exact fun _ hw=>hw.sub):
 St n F (Mm c H) (Met n G F0 φ c Hf):=St.met y xJ hF hA
theorem Ev.l0 {b off:Nat}{fr:Nat×Nat}{d:TypeDesc}{u:Value}{L:List Value}[hb:c4 b H (.cells L.toArray e fr)](hx:aL F x (.pointer (some ⟨b,off,none⟩)))(ht:P.underlying t=some d)(pQ:(match d with| .struct _| .array _ _=>False|_=>True):=by trivial)
 (hu:L[off]?=some u:=by rfl):Ev P n F (Mm c H) (.load t x) ty u:=Ev.cY hx ht pQ hu
theorem Ev.o0 {p q:Bool}(hx:aL F x (.bool p):=by exact .mk rfl)(hy:(!p)=true→aL F y (.bool q):=by exact fun hp=>aL.gv rfl hp):Ev P n F A (.pick x (.const (.bool true)) y) ty (.bool (p||q)):=Ev.or hx hy
theorem Ev.n0 {p q:Bool}(hx:aL F x (.bool p):=by exact .mk rfl)(hy:p=true→aL F y (.bool q):=by exact fun hp=>aL.gv rfl hp):Ev P n F A (.pick x y (.const (.bool false))) ty (.bool (p&&q)):=Ev.and hx hy
theorem Ev.a0 (hx:aL F x (iv i):=by exact .mk rfl)(hy:aL F y (iv j):=by exact .mk rfl)(h: -9223372036854775808≤i+j∧i+j≤9223372036854775807:=by omega):Ev P n F A (.binOp .add t x y u) ty (iv (i+j)):=Ev.add hx hy h
theorem Ev.s0 (hx:aL F x (iv i):=by exact .mk rfl)(hy:aL F y (iv j):=by exact .mk rfl)(h: -9223372036854775808≤i-j∧i-j≤9223372036854775807:=by omega):Ev P n F A (.binOp .sub t x y u) ty (iv (i-j)):=Ev.sub hx hy h
theorem Ev.ez (hx:aL F x (.int k i):=by exact .mk rfl)(hy:aL F y (.int k j):=by exact .mk rfl):Ev P n F A (.binOp .lss t x y u) ty (.bool (decide (i<j))):=Ev.lss hx hy
theorem Ev.fE (hx:aL F x (.int k i):=by exact .mk rfl)(hy:aL F y (.int k j):=by exact .mk rfl):Ev P n F A (.binOp .eql t x y u) ty (.bool (decide (i=j))):=Ev.eql hx hy
theorem Ev.kz (hx:aL F x (.int k i):=by exact .mk rfl)(hy:aL F y (.int k j):=by exact .mk rfl):Ev P n F A (.binOp .neq t x y u) ty (.bool (!decide (i=j))):=Ev.neq hx hy
theorem Ev.vQ (hx:aL F x (.int k i):=by exact .mk rfl)(hy:aL F y (.int k j):=by exact .mk rfl):Ev P n F A (.binOp .gtr t x y u) ty (.bool (decide (j<i))):=Ev.gtr hx hy
theorem Ev.xi (hx:aL F x (.int k i):=by exact .mk rfl)(hy:aL F y (.int k j):=by exact .mk rfl):Ev P n F A (.binOp .geq t x y u) ty (.bool (decide (j≤i))):=Ev.geq hx hy
theorem Ev.Ju (hx:aL F x (.int k i):=by exact .mk rfl)(hy:aL F y (.int k j):=by exact .mk rfl):Ev P n F A (.binOp .leq t x y u) ty (.bool (decide (i≤j))):=Ev.leq hx hy
theorem St.nn {K:Act→World→Prop}(h:St n F A K):St n F A (wpList P ops (Exit.then K Q) []):=h
theorem St.dup (d:dJ){T:Act→World→Prop}[hd:mK [d] H](k:St n F (Mm c (aE d::H)) T):St n F (Mm c H) T:=St.iJ d [d] (fun ρ h=>h _ (List.mem_cons_self ..)) k
end
section
variable {P:Program}{ops:Array Oper}{Q:Exit→Act→World→Prop}{n:Nat}{F:Fr}{c:Ctx}{H Fp r r' C':List bE}{f:Nat}{listed:Array Bool}{d:Nat}{op:Op}{ty:TypeId}{pos:String}{after:Array Edge}{v:Value}
theorem SW.dd (i:Nat)(hi:ops[i]?=some {dst:=some d,op:=op,type:=ty,pos:=pos,after:=after,guard:=none})(jw:∀R,Ev P n F (Mm c (Fp++R)) op ty v)(h:SW P ops Q n ((d,v)::F) c Fp r f (listed.setIfInBounds i true))
 (hQ:NP Q:=by assumption) (hs:Region.noSelect ops=true:=by assumption) (hr:((Region.ready .any ops listed).contains i&&Region.free .any ops listed i)=true:=by kernel_rfl) (hd:Nat.ble (d+1) n=true:=by rfl):SW P ops Q n F c Fp r (f+1) listed:=SW.defer i hQ hs hi jw hr hd h
end
end Go.J
namespace Go.Proofs
theorem MQ:type_of% @Tryz.underlying0:=Tryz.underlying0
theorem bf:type_of% @Tryz.underlying3:=Tryz.underlying3
theorem zR:type_of% @Tryz.underlying4:=Tryz.underlying4
theorem IP:type_of% @Tryz.underlying5:=Tryz.underlying5
theorem cZ:type_of% @Tryz.underlying9:=Tryz.underlying9
theorem cM:type_of% @Tryz.underlying22:=Tryz.underlying22
theorem dw:type_of% @Tryz.underlying23:=Tryz.underlying23
theorem fV:type_of% @Tryz.underlying25:=Tryz.underlying25
theorem bC:type_of% @Tryz.underlying28:=Tryz.underlying28
theorem gP:type_of% @Tryz.underlying38:=Tryz.underlying38
theorem tq:type_of% @Tryz.underlying40:=Tryz.underlying40
theorem dM:type_of% @Tryz.underlying41:=Tryz.underlying41
theorem gQ:type_of% @Tryz.underlying44:=Tryz.underlying44
theorem pI:type_of% @Tryz.underlying45:=Tryz.underlying45
theorem rK:type_of% @Tryz.underlying47:=Tryz.underlying47
theorem pJ:type_of% @Tryz.underlying48:=Tryz.underlying48
theorem kS:type_of% @Tryz.underlying49:=Tryz.underlying49
theorem gu:type_of% @Tryz.underlying50:=Tryz.underlying50
theorem tr:type_of% @Tryz.underlying52:=Tryz.underlying52
theorem CO:type_of% @Tryz.underlying54:=Tryz.underlying54
theorem rL:type_of% @Tryz.underlying56:=Tryz.underlying56
theorem rM:type_of% @Tryz.underlying58:=Tryz.underlying58
theorem bJ:type_of% @Tryz.underlying61:=Tryz.underlying61
theorem kT:type_of% @Tryz.underlying62:=Tryz.underlying62
theorem pK:type_of% @Tryz.underlying67:=Tryz.underlying67
theorem fk:type_of% @Tryz.underlying77:=Tryz.underlying77
theorem fA:type_of% @Tryz.underlying84:=Tryz.underlying84
theorem bb:type_of% @Tryz.underlying86:=Tryz.underlying86
theorem fJ:type_of% @Tryz.underlying92:=Tryz.underlying92
theorem fl:type_of% @Tryz.underlying95:=Tryz.underlying95
theorem dq:type_of% @Tryz.underlying126:=Tryz.underlying126
theorem mA:type_of% @Tryz.underlying128:=Tryz.underlying128
theorem fW:type_of% @Tryz.underlying137:=Tryz.underlying137
theorem vR:type_of% @Tryz.underlying141:=Tryz.underlying141
theorem kO:type_of% @Tryz.underlying153:=Tryz.underlying153
theorem vS:type_of% @Tryz.underlying164:=Tryz.underlying164
theorem qC:type_of% @Tryz.underlying172:=Tryz.underlying172
theorem sJ:type_of% @Tryz.underlying178:=Tryz.underlying178
end Go.Proofs
namespace Go.Proofs.YtoioijgdggkabaaGreatDoor
open Go Go.J
theorem mixed:Tryz.prog.follows .mixedOrders=true:=by kernel_rfl
theorem iP:(Tryz.prog.info? 86).bind (fun i=>i.zero.map Value.cells)=some #[.string ⟨#[]⟩,.slice none 0 0]:=by kernel_rfl
theorem Jv (w:World):cj Tryz.prog 86 w= .ok #[(0,1),(1,1)] w:=by kernel_rfl
theorem bB:(Tryz.prog.info? 86).map (·.size)=some 2:=by kernel_rfl
theorem GG:(Tryz.prog.info? 86).bind (·.zero)=some (Value.agg #[.string ⟨#[]⟩,.slice none 0 0]):=by kernel_rfl
theorem qD:(Tryz.prog.info? 95).bind (fun i=>i.zero.map Value.cells)=some #[.int .i64 0,.string ⟨#[]⟩,.int .i64 0,.string ⟨#[]⟩,.slice none 0 0,.slice none 0 0]:=by kernel_rfl
theorem GH (w:World):cj Tryz.prog 95 w= .ok #[(0,1),(1,1),(2,1),(3,2),(5,1)] w:=by kernel_rfl
theorem dI:(Tryz.prog.info? 95).map (·.size)=some 6:=by kernel_rfl
theorem Jw:(Tryz.prog.info? 95).bind (·.zero)=some (Value.agg #[.int .i64 0,.string ⟨#[]⟩,.int .i64 0,.string ⟨#[]⟩,.slice none 0 0,.slice none 0 0]):=by kernel_rfl
theorem AZ:aU Tryz.prog 32:=⟨_,Tryz.func32,rfl,by kernel_rfl⟩
theorem l2:aU Tryz.prog 33:=⟨_,Tryz.func33,rfl,by kernel_rfl⟩
theorem jc:aU Tryz.prog 39:=⟨_,Tryz.func39,rfl,by kernel_rfl⟩
theorem iu:aU Tryz.prog 42:=⟨_,Tryz.func42,rfl,by kernel_rfl⟩
theorem kF:aU Tryz.prog 41:=⟨_,Tryz.func41,rfl,by kernel_rfl⟩
theorem iw:aU Tryz.prog 40:=⟨_,Tryz.func40,rfl,by kernel_rfl⟩
theorem MR:(Tryz.prog.info? 52).bind (fun i=>i.zero.map Value.cells)=some #[.slice none 0 0]:=by kernel_rfl
theorem e9:(Tryz.prog.info? 61).map (·.size)=some 1:=by kernel_rfl
theorem cu:(Tryz.prog.info? 3).map (·.size)=some 1:=by kernel_rfl
theorem MS (w:World):cj Tryz.prog 139 w= .ok #[(0,1),(1,1)] w:=by kernel_rfl
theorem zS:(Tryz.prog.info? 139).bind (fun i=>i.zero.map Value.cells)=some #[.int .i64 0,.slice none 0 0]:=by kernel_rfl
theorem jO:(Tryz.prog.info? 139).map (·.size)=some 2:=by kernel_rfl
theorem jP:ak Tryz.prog 139 1=some 1:=by kernel_rfl
theorem MT (w:World):cj Tryz.prog 141 w= .ok #[(0,1),(1,1)] w:=by kernel_rfl
theorem zT:(Tryz.prog.info? 141).bind (fun i=>i.zero.map Value.cells)=some #[.int .i64 0,.int .i64 0]:=by kernel_rfl
theorem gJ:(Tryz.prog.info? 141).map (·.size)=some 2:=by kernel_rfl
theorem zU:(Tryz.prog.info? 141).bind (·.zero)=some (Value.agg #[.int .i64 0,.int .i64 0]):=by kernel_rfl
theorem IQ:(Tryz.prog.info? 141).map (·.bytes)=some 16:=by kernel_rfl
theorem IU:(Tryz.prog.info? 137).map (·.size)=some 1:=by kernel_rfl
theorem gw:ak Tryz.prog 52 0=some 0:=by kernel_rfl
theorem IV:(Tryz.prog.info? 139).bind (·.zero)=some (Value.agg #[.int .i64 0,.slice none 0 0]):=by kernel_rfl
theorem MU:(Tryz.prog.info? 139).map (·.bytes)=some 32:=by kernel_rfl
theorem SH:(Tryz.prog.info? 50).map (·.size)=some 1:=by kernel_rfl
theorem qE:(Tryz.prog.info? 52).map (·.size)=some 1:=by kernel_rfl
theorem Jx:(Tryz.prog.info? 47).bind (fun i=>i.zero.map Value.cells)=some #[.slice none 0 0,.slice none 0 0]:=by kernel_rfl
theorem tt:(Tryz.prog.info? 9).map (·.size)=some 1:=by kernel_rfl
theorem MV (w:World):cj Tryz.prog 136 w= .ok #[(0,1),(1,1)] w:=by kernel_rfl
theorem zV:(Tryz.prog.info? 136).bind (fun i=>i.zero.map Value.cells)=some #[.string ⟨#[]⟩,.slice none 0 0]:=by kernel_rfl
theorem mB:(Tryz.prog.info? 136).map (·.size)=some 2:=by kernel_rfl
theorem dx:(Tryz.prog.info? 3).bind (·.zero)=some (Value.int .i64 0):=by kernel_rfl
theorem pU:ak Tryz.prog 136 1=some 1:=by kernel_rfl
theorem iy:ak Tryz.prog 47 0=some 0:=by kernel_rfl
theorem IW:(Tryz.prog.info? 136).bind (·.zero)=some (Value.agg #[.string ⟨#[]⟩,.slice none 0 0]):=by kernel_rfl
theorem MW:(Tryz.prog.info? 136).map (·.bytes)=some 40:=by kernel_rfl
theorem SI:(Tryz.prog.info? 44).map (·.size)=some 1:=by kernel_rfl
theorem o8:ak Tryz.prog 47 1=some 1:=by kernel_rfl
theorem SJ:(Tryz.prog.info? 45).map (·.size)=some 1:=by kernel_rfl
theorem o9:(Tryz.prog.info? 47).map (·.size)=some 2:=by kernel_rfl
theorem l3:ak Tryz.prog 54 2=some 3:=by kernel_rfl
theorem tu:aU Tryz.prog 36:=⟨_,Tryz.func36,rfl,by kernel_rfl⟩
theorem MX (w:World):cj Tryz.prog 100 w= .ok #[(0,1),(1,1),(2,1),(3,6)] w:=by kernel_rfl
theorem IX:(Tryz.prog.info? 100).bind (fun i=>i.zero.map Value.cells)=some #[.string ⟨#[]⟩,.slice none 0 0,.int .i64 0,.int .i64 0,.string ⟨#[]⟩,.int .i64 0,.string ⟨#[]⟩,.slice none 0 0,.slice none 0 0]:=by kernel_rfl
theorem l4:(Tryz.prog.info? 100).map (·.size)=some 9:=by kernel_rfl
theorem sK:(Tryz.prog.info? 100).bind (·.zero)=some (Value.agg #[.string ⟨#[]⟩,.slice none 0 0,.int .i64 0,.int .i64 0,.string ⟨#[]⟩,.int .i64 0,.string ⟨#[]⟩,.slice none 0 0,.slice none 0 0]):=by kernel_rfl
theorem CP:(Tryz.prog.info? 100).map (·.bytes)=some 144:=by kernel_rfl
theorem Jy:(Tryz.prog.info? 49).map (·.size)=some 1:=by kernel_rfl
theorem MY:(Tryz.prog.info? 54).bind (fun i=>i.zero.map Value.cells)=some #[.slice none 0 0,.slice none 0 0,.slice none 0 0,.slice none 0 0,.slice none 0 0]:=by kernel_rfl
theorem LF:(Tryz.prog.info? 9).bind (·.zero)=some (Value.string ⟨#[]⟩):=by kernel_rfl
theorem SK (w:World):cj Tryz.prog 91 w= .ok #[(0,1),(1,1),(2,1)] w:=by kernel_rfl
theorem Jz:(Tryz.prog.info? 91).bind (fun i=>i.zero.map Value.cells)=some #[.string ⟨#[]⟩,.int .i64 0,.int .i64 0]:=by kernel_rfl
theorem xj:(Tryz.prog.info? 91).map (·.size)=some 3:=by kernel_rfl
theorem SL:(Tryz.prog.info? 91).bind (·.zero)=some (Value.agg #[.string ⟨#[]⟩,.int .i64 0,.int .i64 0]):=by kernel_rfl
theorem SM:aU Tryz.prog 34:=⟨_,Tryz.func34,rfl,by kernel_rfl⟩
theorem CQ:ak Tryz.prog 54 0=some 0:=by kernel_rfl
theorem SN:aU Tryz.prog 35:=⟨_,Tryz.func35,rfl,by kernel_rfl⟩
theorem ef:(Tryz.prog.info? 61).bind (·.zero)=some (Value.slice none 0 0):=by kernel_rfl
theorem MZ (w:World):cj Tryz.prog 98 w= .ok #[(0,1),(1,1),(2,1),(3,1),(4,6)] w:=by kernel_rfl
theorem K0:(Tryz.prog.info? 98).bind (fun i=>i.zero.map Value.cells)=some #[.string ⟨#[]⟩,.slice none 0 0,.int .i64 0,.int .i64 0,.int .i64 0,.string ⟨#[]⟩,.int .i64 0,.string ⟨#[]⟩,.slice none 0 0,.slice none 0 0]:=by kernel_rfl
theorem xk:(Tryz.prog.info? 98).map (·.size)=some 10:=by kernel_rfl
theorem SO:(Tryz.prog.info? 98).bind (·.zero)=some (Value.agg #[.string ⟨#[]⟩,.slice none 0 0,.int .i64 0,.int .i64 0,.int .i64 0,.string ⟨#[]⟩,.int .i64 0,.string ⟨#[]⟩,.slice none 0 0,.slice none 0 0]):=by kernel_rfl
theorem oA:ak Tryz.prog 54 1=some 2:=by kernel_rfl
theorem SP:(Tryz.prog.info? 48).map (·.size)=some 1:=by kernel_rfl
theorem K1:aU Tryz.prog 38:=⟨_,Tryz.func38,rfl,by kernel_rfl⟩
theorem jd:aU Tryz.prog 37:=⟨_,Tryz.func37,rfl,by kernel_rfl⟩
theorem CR:ak Tryz.prog 54 3=some 4:=by kernel_rfl
theorem Aa:(Tryz.prog.info? 54).map (·.size)=some 5:=by kernel_rfl
theorem dR:(Tryz.prog.info? 28).bind (fun i=>i.zero.map Value.cells)=some #[.int .i64 0,.int .i64 0]:=by kernel_rfl
theorem K2 (w:World):cj Tryz.prog 28 w= .ok #[(0,1),(1,1)] w:=by kernel_rfl
theorem aR:(Tryz.prog.info? 28).map (·.size)=some 2:=by kernel_rfl
theorem oB:ak Tryz.prog 86 0=some 0:=by kernel_rfl
theorem gx:ak Tryz.prog 86 1=some 1:=by kernel_rfl
theorem IY:aU Tryz.prog 109:=⟨_,Tryz.func109,rfl,by kernel_rfl⟩
theorem LG:(Tryz.prog.info? 3).bind (fun i=>i.zero.map Value.cells)=some #[.int .i64 0]:=by kernel_rfl
theorem Ma:(Tryz.prog.info? 187).bind (fun i=>i.zero.map Value.cells)=some #[.nilFunc]:=by kernel_rfl
theorem Mb:(Tryz.prog.info? 187).map (·.size)=some 1:=by kernel_rfl
theorem IZ:aU Tryz.prog 110:=⟨_,Tryz.func110,rfl,by kernel_rfl⟩
theorem rN:aU Tryz.prog 94:=⟨_,Tryz.func94,rfl,by kernel_rfl⟩
theorem CS:ak Tryz.prog 95 0=some 0:=by kernel_rfl
theorem oC:ak Tryz.prog 95 2=some 2:=by kernel_rfl
theorem gy:ak Tryz.prog 95 4=some 5:=by kernel_rfl
theorem tx:ak Tryz.prog 95 1=some 1:=by kernel_rfl
theorem u5:aU Tryz.prog 22:=⟨_,Tryz.func22,rfl,by kernel_rfl⟩
theorem mQ:ak Tryz.prog 95 3=some 3:=by kernel_rfl
theorem Mc:aU Tryz.prog 95:=⟨_,Tryz.func95,rfl,by kernel_rfl⟩
theorem Md:aU Tryz.prog 96:=⟨_,Tryz.func96,rfl,by kernel_rfl⟩
theorem vT:aU Tryz.prog 93:=⟨_,Tryz.func93,rfl,by kernel_rfl⟩
theorem cW:ak Tryz.prog 28 0=some 0:=by kernel_rfl
theorem SQ:(Tryz.prog.info? 86).map (·.bytes)=some 40:=by kernel_rfl
theorem GI:aU Tryz.prog 97:=⟨_,Tryz.func97,rfl,by kernel_rfl⟩
theorem Me:(Tryz.prog.info? 172).bind (fun i=>i.zero.map Value.cells)=some #[.nilFunc]:=by kernel_rfl
theorem Mf:(Tryz.prog.info? 172).map (·.size)=some 1:=by kernel_rfl
theorem qF:aU Tryz.prog 74:=⟨_,Tryz.func74,rfl,by kernel_rfl⟩
theorem u6:ak Tryz.prog 136 0=some 0:=by kernel_rfl
theorem nD:(Tryz.prog.info? 128).bind (fun i=>i.zero.map Value.cells)=some #[.slice none 0 0,.slice none 0 0]:=by kernel_rfl
theorem eJ:(Tryz.prog.info? 153).map (·.size)=some 1:=by kernel_rfl
theorem mC:(Tryz.prog.info? 153).bind (·.zero)=some (Value.int .u64 0):=by kernel_rfl
theorem mD:(Tryz.prog.info? 153).map (·.bytes)=some 8:=by kernel_rfl
theorem Mg (w:World):cj Tryz.prog 128 w= .ok #[(0,1),(1,1)] w:=by kernel_rfl
theorem gD:(Tryz.prog.info? 128).map (·.size)=some 2:=by kernel_rfl
theorem nE:ak Tryz.prog 128 0=some 0:=by kernel_rfl
theorem pV:ak Tryz.prog 128 1=some 1:=by kernel_rfl
theorem SR:aU Tryz.prog 91:=⟨_,Tryz.func91,rfl,by kernel_rfl⟩
theorem SS:aU Tryz.prog 75:=⟨_,Tryz.func75,rfl,by kernel_rfl⟩
theorem Mh:aU Tryz.prog 55:=⟨_,Tryz.func55,rfl,by kernel_rfl⟩
theorem SU:aU Tryz.prog 76:=⟨_,Tryz.func76,rfl,by kernel_rfl⟩
theorem xl:ak Tryz.prog 91 0=some 0:=by kernel_rfl
theorem xo:ak Tryz.prog 91 1=some 1:=by kernel_rfl
theorem xu:ak Tryz.prog 91 2=some 2:=by kernel_rfl
theorem Ab:aU Tryz.prog 81:=⟨_,Tryz.func81,rfl,by kernel_rfl⟩
theorem pW:ak Tryz.prog 139 0=some 0:=by kernel_rfl
theorem lW:ak Tryz.prog 141 0=some 0:=by kernel_rfl
theorem kG:ak Tryz.prog 141 1=some 1:=by kernel_rfl
theorem Ia:(Tryz.prog.info? 4).map (·.size)=some 1:=by kernel_rfl
theorem Yf:(Tryz.prog.info? 4).bind (·.zero)=some (Value.bool false):=by kernel_rfl
theorem Yg:(Tryz.prog.info? 4).map (·.bytes)=some 1:=by kernel_rfl
theorem Mi:(Tryz.prog.info? 3).map (·.bytes)=some 8:=by kernel_rfl
theorem SV:aU Tryz.prog 98:=⟨_,Tryz.func98,rfl,by kernel_rfl⟩
theorem SX:aU Tryz.prog 79:=⟨_,Tryz.func79,rfl,by kernel_rfl⟩
theorem Mj:aU Tryz.prog 80:=⟨_,Tryz.func80,rfl,by kernel_rfl⟩
theorem SY:aU Tryz.prog 82:=⟨_,Tryz.func82,rfl,by kernel_rfl⟩
theorem Ib:aU Tryz.prog 113:=⟨_,Tryz.func113,rfl,by kernel_rfl⟩
theorem Mk:aU Tryz.prog 108:=⟨_,Tryz.func108,rfl,by kernel_rfl⟩
theorem Ic:aU Tryz.prog 107:=⟨_,Tryz.func107,rfl,by kernel_rfl⟩
theorem Ml:aU Tryz.prog 106:=⟨_,Tryz.func106,rfl,by kernel_rfl⟩
theorem SZ:aU Tryz.prog 92:=⟨_,Tryz.func92,rfl,by kernel_rfl⟩
theorem GJ {u0:Value}(h0:u0.oneCell'=true)(w:World):(Instr.build 86 #[(0,u0)]).run Tryz.prog w= .ok (.agg #[u0,.slice none 0 0]) w:=
 bP iP (Jv w) (by simp[Instr.fill,J.bR,J.aB h0])
theorem vU {u0 u1 vV vW:Value}(h0:u0.oneCell'=true)(h1:u1.oneCell'=true)(w:World):(Instr.build 95 #[(0,u0),(1,u1),(3,.agg #[vV,vW])]).run Tryz.prog w= .ok (.agg #[u0,u1,.int .i64 0,vV,vW,.slice none 0 0]) w:=
 bP qD (GH w) (by simp[Instr.fill,J.bR,J.aB h0,J.aB h1])
theorem Ac {u0 u2:Value}(h0:u0.oneCell'=true)(h2:u2.oneCell'=true)(w:World):(Instr.build 95 #[(0,u0),(2,u2)]).run Tryz.prog w= .ok (.agg #[u0,.string ⟨#[]⟩,u2,.string ⟨#[]⟩,.slice none 0 0,.slice none 0 0]) w:=
 bP qD (GH w) (by simp[Instr.fill,J.bR,J.aB h0,J.aB h2])
theorem vX {u0 vV vW u4:Value}(h0:u0.oneCell'=true)(h4:u4.oneCell'=true)(w:World):(Instr.build 95 #[(0,u0),(3,.agg #[vV,vW]),(4,u4)]).run Tryz.prog w= .ok (.agg #[u0,.string ⟨#[]⟩,.int .i64 0,vV,vW,u4]) w:=
 bP qD (GH w) (by simp[Instr.fill,J.bR,J.aB h0,J.aB h4])
theorem Ad {u0 u4:Value}(h0:u0.oneCell'=true)(h4:u4.oneCell'=true)(w:World):(Instr.build 95 #[(0,u0),(4,u4)]).run Tryz.prog w= .ok (.agg #[u0,.string ⟨#[]⟩,.int .i64 0,.string ⟨#[]⟩,.slice none 0 0,u4]) w:=
 bP qD (GH w) (by simp[Instr.fill,J.bR,J.aB h0,J.aB h4])
theorem CT {u0:Value}(h0:u0.oneCell'=true)(w:World):(Instr.build 139 #[(0,u0)]).run Tryz.prog w= .ok (.agg #[u0,.slice none 0 0]) w:=
 bP zS (MS w) (by simp[Instr.fill,J.bR,J.aB h0])
theorem xw {u0 u1:Value}(h0:u0.oneCell'=true)(h1:u1.oneCell'=true)(w:World):(Instr.build 141 #[(0,u0),(1,u1)]).run Tryz.prog w= .ok (.agg #[u0,u1]) w:=
 bP zT (MT w) (by simp[Instr.fill,J.bR,J.aB h0,J.aB h1])
theorem CU {u0:Value}(h0:u0.oneCell'=true)(w:World):(Instr.build 136 #[(0,u0)]).run Tryz.prog w= .ok (.agg #[u0,.slice none 0 0]) w:=
 bP zV (MV w) (by simp[Instr.fill,J.bR,J.aB h0])
theorem l5 {u0 u2 vV vW Mn Mo Mp Mq vY:Value}(h0:u0.oneCell'=true)(h2:u2.oneCell'=true)(w:World):(Instr.build 100 #[(0,u0),(2,u2),(3,.agg #[vV,vW,Mn,Mo,Mp,Mq]),(1,.agg #[vY])]).run Tryz.prog w= .ok (.agg #[u0,vY,u2,vV,vW,Mn,Mo,Mp,Mq]) w:=
 bP IX (MX w) (by simp[Instr.fill,J.bR,J.aB h0,J.aB h2])
theorem gh {u0 u1 u2:Value}(h0:u0.oneCell'=true)(h1:u1.oneCell'=true)(h2:u2.oneCell'=true)(w:World):(Instr.build 91 #[(0,u0),(1,u1),(2,u2)]).run Tryz.prog w= .ok (.agg #[u0,u1,u2]) w:=
 bP Jz (SK w) (by simp[Instr.fill,J.bR,J.aB h0,J.aB h1,J.aB h2])
theorem mF {u0 u2 CV CW CX CY CZ Ca vY:Value}(h0:u0.oneCell'=true)(h2:u2.oneCell'=true)(w:World):(Instr.build 98 #[(0,u0),(2,u2),(4,.agg #[CV,CW,CX,CY,CZ,Ca]),(1,.agg #[vY])]).run Tryz.prog w= .ok (.agg #[u0,vY,u2,.int .i64 0,CV,CW,CX,CY,CZ,Ca]) w:=
 bP K0 (MZ w) (by simp[Instr.fill,J.bR,J.aB h0,J.aB h2])
theorem fc {u0 u2 u3 CV CW CX CY CZ Ca vY:Value}(h0:u0.oneCell'=true)(h2:u2.oneCell'=true)(h3:u3.oneCell'=true)(w:World):(Instr.build 98 #[(0,u0),(2,u2),(3,u3),(4,.agg #[CV,CW,CX,CY,CZ,Ca]),(1,.agg #[vY])]).run Tryz.prog w= .ok (.agg #[u0,vY,u2,u3,CV,CW,CX,CY,CZ,Ca]) w:=
 bP K0 (MZ w) (by simp[Instr.fill,J.bR,J.aB h0,J.aB h2,J.aB h3])
theorem zW {u1:Value}(h1:u1.oneCell'=true)(w:World):(Instr.build 86 #[(1,u1)]).run Tryz.prog w= .ok (.agg #[.string ⟨#[]⟩,u1]) w:=
 bP iP (Jv w) (by simp[Instr.fill,J.bR,J.aB h1])
theorem u7 (w:World):(Instr.build 86 #[]).run Tryz.prog w= .ok (.agg #[.string ⟨#[]⟩,.slice none 0 0]) w:=
 bP iP (Jv w) (by simp[Instr.fill,J.bR])
theorem gR {u0 u1:Value}(h0:u0.oneCell'=true)(h1:u1.oneCell'=true)(w:World):(Instr.build 128 #[(0,u0),(1,u1)]).run Tryz.prog w= .ok (.agg #[u0,u1]) w:=
 bP nD (Mg w) (by simp[Instr.fill,J.bR,J.aB h0,J.aB h1])
theorem zX {u0:Value}(h0:u0.oneCell'=true)(w:World):(Instr.build 28 #[(0,u0)]).run Tryz.prog w= .ok (.agg #[u0,.int .i64 0]) w:=
 bP dR (K2 w) (by simp[Instr.fill,J.bR,J.aB h0])
theorem cX {u0 u1:Value}(h0:u0.oneCell'=true)(h1:u1.oneCell'=true)(w:World):(Instr.build 28 #[(0,u0),(1,u1)]).run Tryz.prog w= .ok (.agg #[u0,u1]) w:=
 bP dR (K2 w) (by simp[Instr.fill,J.bR,J.aB h0,J.aB h1])
theorem fK (w:World):(Instr.build 28 #[]).run Tryz.prog w= .ok (.agg #[.int .i64 0,.int .i64 0]) w:=
 bP dR (K2 w) (by simp[Instr.fill,J.bR])
theorem nF (b:ax)(v:dQ)(l:List dv):cD (.mk b v l)= .mk b (l.map cD):=by rw[cD,o2]
theorem l6 (k:Int)(s:ax)(i:Int)(t:dv)(v:dQ)(l:List cH):bN (.mk k s i t v l)= .mk k s i (cD t) (l.map bN):=by rw[bN,mN]
abbrev S0:eZ:= .mk [] []
abbrev je:dv:= .mk [] bu []
theorem u9 {α:Type}{p:α→Prop}{x y:α}(hx:p x)(hy:p y):∀z∈[x,y],p z:=fun z hz=>by
 simp only[List.mem_cons,List.not_mem_nil,or_false]at hz
 rcases hz with rfl|rfl
 ·exact hx
 ·exact hy
theorem Cb {α:Type}{p:α→Prop}{x:α}(hx:p x):∀z∈[x],p z:=fun z hz=>by rw[List.mem_singleton.1 hz];exact hx
theorem Mr:aj 1:=by unfold aj;decide
theorem Ms:aj 2:=by unfold aj;decide
theorem Mt:aj 3:=by unfold aj;decide
theorem Mu:aj 4:=by unfold aj;decide
theorem Cc:aj 0:=by unfold aj;decide
theorem iX (s:ax)(hs:iK s):eI Tryz.prog 32 #[sv s] ([].map aE) (fun v H'=>H'=[aE (ah (.mk s []) v)]):=by
 refine eI.body (args:=[sv s]) 5 Tryz.func32 rfl Tryz.ntmps32 rfl (fun c=> ?_);refine St.cast (H':=[]) rfl ?_;refine St.sr ?_;refine St.alloc iP rfl (fun b2=> ?_);refine St.nn (St.sr ?_);refine St.mv ?_;refine St.ee (Ev.build (ps:=[(0,(.tmp 3))]) (aQ.cons (aL.mk rfl) aQ.nil) (fun w=>GJ rfl w)) ?_;refine St.sA (.mk rfl) (.mk rfl) bB ?_;refine St.nn (St.ae ?_);refine St.dN gp ?_;refine St.du dB ?_;refine St.n9 s (.slice none 0 0) rfl [] ?_;refine St.IL (.mk s bu []) (s:= .mk s []) (aK (.mk s bu [])) rfl (nF _ _ _) hs ?_;refine St.rT [_] [aE (ah (.mk s []) (aK (.mk s bu [])))] Tryz.results32 ⟨⟨_,_,_,_,rfl,c4.mem,.inl ⟨⟨_,bb⟩,bB,rfl⟩⟩,trivial⟩ ?_;rfl
theorem dT (u1 u2:Value)(s1 s2:eZ):eI Tryz.prog 33 #[u1,u2] ([ah s1 u1,ah s2 u2].map aE) (fun v H'=>H'=[aE (ah (.mk [] [s1,s2]) v)]):=by
 refine eI.body (args:=[u1,u2]) 9 Tryz.func33 rfl Tryz.ntmps33 rfl (fun c=> ?_);refine St.cast (H':=[aE (ah s1 u1),aE (ah s2 u2)]) rfl ?_;refine St.seq ?_;refine St.ah s1 u1 (fun x hx=> ?_);obtain⟨rfl,rfl,nY⟩:=hx;refine St.ah s2 u2 (fun y hy=> ?_);obtain⟨rfl,rfl,Mv⟩:=hy;refine St.rg ?_;refine St.dS (.mk rfl) rfl (fun b2=> ?_);refine St.dS (.mk rfl) rfl (fun b3=> ?_);refine St.alloc iP rfl (fun b4=> ?_);refine St.nn (St.sr ?_);refine St.ee (Ev.an (.mk rfl) bb trivial (by exact bB)) ?_;refine St.ee (Ev.an (.mk rfl) bb trivial (by exact bB)) ?_;refine St.cS rfl (.cons (.mk rfl) (.cons (.mk rfl) .nil)) fA bB GG rfl rfl (by simp[Value.cells]) rfl rfl (fun b7=> ?_);refine St.aM (.slice (some ⟨b7,0,none⟩) 2 2) gp [x,y] rfl rfl (u9 nY Mv) ?_;refine St.du dB ?_;refine St.fQ dB (xs:=[]) (x:=y) ?_;refine St.fQ dB (xs:=[y]) (x:=x) ?_;refine St.n9 [] (.slice (some ⟨b7,0,none⟩) 2 2) rfl [x,y] ?_;refine St.ee (Ev.build (ps:=[(1,(.tmp 7))]) (aQ.cons (aL.mk rfl) aQ.nil) (fun w=>zW rfl w)) ?_;refine St.sA (.mk rfl) (.mk rfl) bB ?_;refine St.nn (St.ae ?_);refine St.IL (.mk [] ⟨(.slice (some ⟨b7,0,none⟩) 2 2),rfl⟩ [x,y]) (s:= .mk [] [cD x,cD y]) (aK (.mk [] ⟨(.slice (some ⟨b7,0,none⟩) 2 2),rfl⟩ [x,y])) rfl (nF _ _ _) (Nat.zero_le _) ?_;refine St.rT [_] [aE (ah (.mk [] [cD x,cD y]) (aK (.mk [] ⟨(.slice (some ⟨b7,0,none⟩) 2 2),rfl⟩ [x,y])))] Tryz.results33 ⟨⟨_,_,_,_,rfl,c4.mem,.inl ⟨⟨_,bb⟩,bB,rfl⟩⟩,trivial⟩ ?_;rfl
theorem ca (name:ax)(hn:iK name)(u:Value)(s:eZ):eI Tryz.prog 39 #[sv name,u] ([ah s u].map aE) (fun v H'=>H'=[aE (isTerm (.mk 1 name 0 s []) v)]):=by
 refine eI.body (args:=[sv name,u]) 8 Tryz.func39 rfl Tryz.ntmps39 rfl (fun c=> ?_);refine St.cast (H':=[aE (ah s u)]) rfl ?_;refine St.seq ?_;refine St.ah s u (fun x hx=> ?_);obtain⟨rfl,rfl,nY⟩:=hx;refine St.rg ?_;refine St.dS (.mk rfl) rfl (fun b3=> ?_);refine St.alloc qD rfl (fun b4=> ?_);refine St.nn (St.sr ?_);refine St.mv ?_;refine St.ee (Ev.an (.mk rfl) bb trivial (by exact bB)) ?_;refine St.ee (Ev.build (ps:=[(0,(.const (.int .i64 1))),(1,(.tmp 5)),(3,(.tmp 6))]) (aQ.cons (aL.mk rfl) (aQ.cons (aL.mk rfl) (aQ.cons (aL.mk rfl) aQ.nil))) (fun w=>vU rfl rfl w)) ?_;refine St.sA (.mk rfl) (.mk rfl) dI ?_ (h1:=(by simp only[List.all_cons,List.all_nil,Bool.and_true,Bool.and_eq_true];exact⟨rfl,rfl,rfl,rfl,x.av.2,rfl⟩));refine St.nn (St.ae ?_);refine St.dN bx ?_;refine St.du bW ?_;refine St.tc 1 name 0 x (.slice none 0 0) rfl [] ?_;refine St.toTerm (.mk 1 name 0 x bu []) (s:= .mk 1 name 0 (cD x) []) (bT (.mk 1 name 0 x bu [])) rfl (l6 _ _ _ _ _ _) ⟨Mr,hn,Cc,nY⟩ ?_;refine St.rT [_] [aE (isTerm (.mk 1 name 0 (cD x) []) (bT (.mk 1 name 0 x bu [])))] Tryz.results39 ⟨⟨_,_,_,_,rfl,c4.mem,.inl ⟨⟨_,fl⟩,dI,rfl⟩⟩,trivial⟩ ?_;rfl
theorem bc (i:Int)(hi:aj i):eI Tryz.prog 42 #[iv i] ([].map aE) (fun v H'=>H'=[aE (isTerm (.mk 2 [] i S0 []) v)]):=by
 refine eI.body (args:=[iv i]) 5 Tryz.func42 rfl Tryz.ntmps42 rfl (fun c=> ?_);refine St.cast (H':=[]) rfl ?_;refine St.sr ?_;refine St.alloc qD rfl (fun b2=> ?_);refine St.nn (St.sr ?_);refine St.mv ?_;refine St.ee (Ev.build (ps:=[(0,(.const (.int .i64 2))),(2,(.tmp 3))]) (aQ.cons (aL.mk rfl) (aQ.cons (aL.mk rfl) aQ.nil)) (fun w=>Ac rfl rfl w)) ?_;refine St.sA (.mk rfl) (.mk rfl) dI ?_;refine St.nn (St.ae ?_);refine St.dN gp ?_;refine St.du dB ?_;refine St.n9 [] (.slice none 0 0) rfl [] ?_;refine St.dN bx ?_;refine St.du bW ?_;refine St.tc 2 [] i je (.slice none 0 0) rfl [] ?_;refine St.toTerm (.mk 2 [] i je bu []) (s:= .mk 2 [] i S0 []) (bT (.mk 2 [] i je bu [])) rfl (by rw[l6,nF];rfl) ⟨Ms,Nat.zero_le _,hi,Nat.zero_le _⟩ ?_;refine St.rT [_] [aE (isTerm (.mk 2 [] i S0 []) (bT (.mk 2 [] i je bu [])))] Tryz.results42 ⟨⟨_,_,_,_,rfl,c4.mem,.inl ⟨⟨_,fl⟩,dI,rfl⟩⟩,trivial⟩ ?_;rfl
theorem cQ (u1 u2:Value)(s:eZ)(t:fS):eI Tryz.prog 40 #[u1,u2] ([ah s u1,isTerm t u2].map aE) (fun v H'=>H'=[aE (isTerm (.mk 3 [] 0 s [t]) v)]):=by
 refine eI.body (args:=[u1,u2]) 9 Tryz.func40 rfl Tryz.ntmps40 rfl (fun c=> ?_);refine St.cast (H':=[aE (ah s u1),aE (isTerm t u2)]) rfl ?_;refine St.seq ?_;refine St.ah s u1 (fun x hx=> ?_);obtain⟨rfl,rfl,nY⟩:=hx;refine St.isTerm t u2 (fun y hy=> ?_);obtain⟨rfl,rfl,Mv⟩:=hy;refine St.rg ?_;refine St.dS (.mk rfl) rfl (fun b2=> ?_);refine St.dS (.mk rfl) rfl (fun b3=> ?_);refine St.alloc qD rfl (fun b4=> ?_);refine St.nn (St.sr ?_);refine St.ee (Ev.an (.mk rfl) bb trivial (by exact bB)) ?_;refine St.ee (Ev.an (.mk rfl) fl trivial (by exact dI)) ?_;refine St.cS rfl (.cons (.mk rfl) .nil) fJ dI Jw rfl rfl (by simp[Value.cells]) rfl rfl (fun b7=> ?_);refine St.aM (.slice (some ⟨b7,0,none⟩) 1 1) bx [y] rfl rfl (Cb Mv) ?_;refine St.du bW ?_;refine St.fQ bW (xs:=[]) (x:=y) ?_;refine St.tc 3 [] 0 x (.slice (some ⟨b7,0,none⟩) 1 1) rfl [y] ?_;refine St.ee (Ev.build (ps:=[(0,(.const (.int .i64 3))),(3,(.tmp 5)),(4,(.tmp 7))]) (aQ.cons (aL.mk rfl) (aQ.cons (aL.mk rfl) (aQ.cons (aL.mk rfl) aQ.nil))) (fun w=>vX rfl rfl w)) ?_;refine St.sA (.mk rfl) (.mk rfl) dI ?_ (h1:=(by simp only[List.all_cons,List.all_nil,Bool.and_true,Bool.and_eq_true];exact⟨rfl,rfl,rfl,rfl,x.av.2,rfl⟩));refine St.nn (St.ae ?_);refine St.toTerm (.mk 3 [] 0 x ⟨(.slice (some ⟨b7,0,none⟩) 1 1),rfl⟩ [y]) (s:= .mk 3 [] 0 (cD x) [bN y]) (bT (.mk 3 [] 0 x ⟨(.slice (some ⟨b7,0,none⟩) 1 1),rfl⟩ [y])) rfl (l6 _ _ _ _ _ _) ⟨Mt,Nat.zero_le _,Cc,nY⟩ ?_;refine St.rT [_] [aE (isTerm (.mk 3 [] 0 (cD x) [bN y]) (bT (.mk 3 [] 0 x ⟨(.slice (some ⟨b7,0,none⟩) 1 1),rfl⟩ [y])))] Tryz.results40 ⟨⟨_,_,_,_,rfl,c4.mem,.inl ⟨⟨_,fl⟩,dI,rfl⟩⟩,trivial⟩ ?_;rfl
theorem cx (u1 u2:Value)(t1 t2:fS):eI Tryz.prog 41 #[u1,u2] ([isTerm t1 u1,isTerm t2 u2].map aE) (fun v H'=>H'=[aE (isTerm (.mk 4 [] 0 S0 [t1,t2]) v)]):=by
 refine eI.body (args:=[u1,u2]) 9 Tryz.func41 rfl Tryz.ntmps41 rfl (fun c=> ?_);refine St.cast (H':=[aE (isTerm t1 u1),aE (isTerm t2 u2)]) rfl ?_;refine St.seq ?_;refine St.isTerm t1 u1 (fun x hx=> ?_);obtain⟨rfl,rfl,nY⟩:=hx;refine St.isTerm t2 u2 (fun y hy=> ?_);obtain⟨rfl,rfl,Mv⟩:=hy;refine St.rg ?_;refine St.dS (.mk rfl) rfl (fun b2=> ?_);refine St.dS (.mk rfl) rfl (fun b3=> ?_);refine St.alloc qD rfl (fun b4=> ?_);refine St.nn (St.sr ?_);refine St.ee (Ev.an (.mk rfl) fl trivial (by exact dI)) ?_;refine St.ee (Ev.an (.mk rfl) fl trivial (by exact dI)) ?_;refine St.cS rfl (.cons (.mk rfl) (.cons (.mk rfl) .nil)) fJ dI Jw rfl rfl (by simp[Value.cells]) rfl rfl (fun b7=> ?_);refine St.aM (.slice (some ⟨b7,0,none⟩) 2 2) bx [x,y] rfl rfl (u9 nY Mv) ?_;refine St.dN gp ?_;refine St.du dB ?_;refine St.n9 [] (.slice none 0 0) rfl [] ?_;refine St.du bW ?_;refine St.fQ bW (xs:=[]) (x:=y) ?_;refine St.fQ bW (xs:=[y]) (x:=x) ?_;refine St.tc 4 [] 0 je (.slice (some ⟨b7,0,none⟩) 2 2) rfl [x,y] ?_;refine St.ee (Ev.build (ps:=[(0,(.const (.int .i64 4))),(4,(.tmp 7))]) (aQ.cons (aL.mk rfl) (aQ.cons (aL.mk rfl) aQ.nil)) (fun w=>Ad rfl rfl w)) ?_;refine St.sA (.mk rfl) (.mk rfl) dI ?_;refine St.nn (St.ae ?_);refine St.toTerm (.mk 4 [] 0 je ⟨(.slice (some ⟨b7,0,none⟩) 2 2),rfl⟩ [x,y]) (s:= .mk 4 [] 0 S0 [bN x,bN y]) (bT (.mk 4 [] 0 je ⟨(.slice (some ⟨b7,0,none⟩) 2 2),rfl⟩ [x,y])) rfl (by rw[l6,nF];rfl) ⟨Mu,Nat.zero_le _,Cc,Nat.zero_le _⟩ ?_;refine St.rT [_] [aE (isTerm (.mk 4 [] 0 S0 [bN x,bN y]) (bT (.mk 4 [] 0 je ⟨(.slice (some ⟨b7,0,none⟩) 2 2),rfl⟩ [x,y])))] Tryz.results41 ⟨⟨_,_,_,_,rfl,c4.mem,.inl ⟨⟨_,fl⟩,dI,rfl⟩⟩,trivial⟩ ?_;rfl
mutual
def Qm:eZ→Nat
 | .mk _ l=>GK l+1
def GK:List eZ→Nat
 | []=>0
 |x::l=>Qm x+GK l
end
mutual
def Qn:fS→Nat
 | .mk _ _ _ _ l=>GL l+1
def GL:List fS→Nat
 | []=>0
 |x::l=>Qn x+GL l
end
theorem GM (x:eZ)(d n:Nat):iL x d n=if 200<n+1∨40<d then(n+1,1)else if fT x.base x.args.length=false then(n+1,5)else iA x.args (d+1) (n+1):=by cases x;rw[iL];rfl
def qG (x:fS)(b:Nat):Int:=gC x.kind x.name x.index x.type x.args.length b
theorem K3 (x:fS)(d b n:Nat):ft x d b n=if 200<n+1∨40<d then(n+1,1,(n:Int))else if qG x b≠0 then(n+1,qG x b,(n:Int))else jY x.args (d+1) (if x.kind=3 then b+1 else b) (n+1):=by cases x;rw[ft];rfl
theorem Cd:∀(x:fS) (d b n:Nat),(ft x d b n).2.1=0→(ft x d b n).2=(0,0):=by
 intro x;refine fS.rec (motive_1:=fun x=>∀d b n,(ft x d b n).2.1=0→(ft x d b n).2=(0,0)) (motive_2:=fun l=>∀d b n,(jY l d b n).2.1=0→(jY l d b n).2=(0,0)) ?_ ?_ ?_ x
 ·intro k s i t l ih d b n h
  rw[ft]at h⊢
  split
  ·rename_i h1;rw[if_pos h1]at h;exact absurd h (by simp)
  ·rename_i h1
   rw[if_neg h1]at h
   split
   ·rename_i h2;rw[if_pos h2]at h;exact absurd h h2
   ·rename_i h2;rw[if_neg h2]at h;exact ih _ _ _ h
 ·intro d b n _;rfl
 ·intro x l FO Ce d b n h
  rw[jY]at h⊢
  split
  ·rename_i h1;rw[if_pos h1]at h;exact absurd h h1
  ·rename_i h1;rw[if_neg h1]at h;exact Ce _ _ _ h
theorem uA:∀(x:fS) (d b n:Nat),(ft x d b n).2.1=0→(ft x d b n).1≤200∧(ft x d b n).1=n+Qn x:=by
 intro x;refine fS.rec (motive_1:=fun x=>∀d b n,(ft x d b n).2.1=0→(ft x d b n).1≤200∧(ft x d b n).1=n+Qn x) (motive_2:=fun l=>∀d b n,(jY l d b n).2.1=0→(n≤200→(jY l d b n).1≤200)∧(jY l d b n).1=n+GL l) ?_ ?_ ?_ x
 ·intro k s i t l ih d b n h
  rw[ft]at h⊢
  by_cases h1:200<n+1∨40<d
  ·rw[if_pos h1]at h;exact absurd h (by simp)
  rw[if_neg h1]at h⊢
  by_cases h2:gC k s i t l.length b≠0
  ·rw[if_pos h2]at h;exact absurd h h2
  rw[if_neg h2]at h⊢;obtain⟨k1,k2⟩:=ih _ _ _ h;exact⟨k1 (by omega),by rw[k2,Qn];omega⟩
 ·intro d b n _;exact⟨fun h=>h,rfl⟩
 ·intro x l FO Ce d b n h
  rw[jY]at h⊢
  by_cases h1:(ft x d b n).2.1≠0
  ·rw[if_pos h1]at h;exact absurd h h1
  rw[if_neg h1]at h⊢;obtain⟨a1,a2⟩:=FO d b n (Decidable.not_not.1 h1);obtain⟨b1,b2⟩:=Ce _ _ _ h;exact⟨fun _=>b1 a1,by rw[b2,a2,GL];omega⟩
theorem K4:∀(x:fS) (d b n:Nat),n≤200→(ft x d b n).1≤201:=by
 intro x;refine fS.rec (motive_1:=fun x=>∀d b n,n≤200→(ft x d b n).1≤201) (motive_2:=fun l=>∀d b n,n≤200→(jY l d b n).1≤201) ?_ ?_ ?_ x
 ·intro k s i t l ih d b n hn
  rw[ft]
  split
  ·show n+1≤201;omega
  ·split
   ·show n+1≤201;omega
   ·exact ih _ _ _ (by omega)
 ·intro d b n h;show n≤201;omega
 ·intro x l FO Ce d b n h
  rw[jY]
  split
  ·exact FO d b n h
  ·rename_i h1
   exact Ce _ _ _ (uA x d b n (Decidable.not_not.1 h1)).1
inductive GN:fS→Nat→Nat→Prop
 |mk {x:fS} {d b:Nat} (hd:d≤40) (h:qG x b=0) (k:∀y∈x.args,GN y (d+1) (if x.kind=3 then b+1 else b)):GN x d b
theorem Cf:∀(x:fS) (d b n:Nat),(ft x d b n).2.1=0→GN x d b:=by
 intro x;refine fS.rec (motive_1:=fun x=>∀d b n,(ft x d b n).2.1=0→GN x d b) (motive_2:=fun l=>∀d b n,(jY l d b n).2.1=0→∀y∈l,GN y d b) ?_ ?_ ?_ x
 ·intro k s i t l ih d b n h
  rw[ft]at h
  by_cases h1:200<n+1∨40<d
  ·rw[if_pos h1]at h;exact absurd h (by simp)
  rw[if_neg h1]at h
  by_cases h2:gC k s i t l.length b≠0
  ·rw[if_pos h2]at h;exact absurd h h2
  rw[if_neg h2]at h;exact .mk (by omega) (Decidable.not_not.1 h2) (ih _ _ _ h)
 ·intro d b n _ y hy;cases hy
 ·intro x l FO Ce d b n h y hy
  rw[jY]at h
  by_cases h1:(ft x d b n).2.1≠0
  ·rw[if_pos h1]at h;exact absurd h h1
  rw[if_neg h1]at h
  rcases List.mem_cons.1 hy with rfl|hy
  ·exact FO _ _ _ (Decidable.not_not.1 h1)
  ·exact Ce _ _ _ h y hy
theorem GN.inv {x:fS}{d b:Nat}(h:GN x d b):d≤40∧qG x b=0∧∀y∈x.args,GN y (d+1) (if x.kind=3 then b+1 else b):=by
 cases h with
 |mk a b c=>exact⟨a,b,c⟩
theorem Ae {k:Int}{nm:ax}{ix:Int}{tp:eZ}{m b:Nat}(h:gC k nm ix tp m b=0):
 (k=1∧o3 tp=0∧m=0)∨(k=2∧0≤ix∧ix<b∧m=0)∨(k=3∧m=1∧o3 tp=0)∨(k=4∧m=2):=by
 unfold gC at h
 by_cases h1:k=1
 ·rw[if_pos h1]at h
  by_cases c:ix≠0∨m≠0
  ·rw[if_pos c]at h;cases h
  rw[if_neg c]at h
  by_cases c2:isName nm=false
  ·rw[if_pos c2]at h;cases h
  rw[if_neg c2]at h
  by_cases c3:o3 tp≠0
  ·rw[if_pos c3]at h;cases h
  exact .inl ⟨h1,Decidable.not_not.1 c3,by omega⟩
 rw[if_neg h1]at h
 by_cases h2:k=2
 ·rw[if_pos h2]at h
  by_cases c:nm≠ []∨kN tp=false∨m≠0
  ·rw[if_pos c]at h;cases h
  rw[if_neg c]at h
  by_cases c2:ix<0∨(b:Int)≤ix
  ·rw[if_pos c2]at h;cases h
  exact .inr (.inl ⟨h2,by omega,by omega,Decidable.not_not.1 fun hm=>c (.inr (.inr hm))⟩)
 rw[if_neg h2]at h
 by_cases h3:k=3
 ·rw[if_pos h3]at h
  by_cases c:nm≠ []∨ix≠0∨m≠1
  ·rw[if_pos c]at h;cases h
  rw[if_neg c]at h
  by_cases c3:o3 tp≠0
  ·rw[if_pos c3]at h;cases h
  exact .inr (.inr (.inl ⟨h3,Decidable.not_not.1 fun hm=>c (.inr (.inr hm)),Decidable.not_not.1 c3⟩))
 rw[if_neg h3]at h
 by_cases h4:k=4
 ·rw[if_pos h4]at h
  by_cases c:nm≠ []∨ix≠0∨kN tp=false∨m≠2
  ·rw[if_pos c]at h;cases h
  exact .inr (.inr (.inr ⟨h4,Decidable.not_not.1 fun hm=>c (.inr (.inr (.inr hm)))⟩))
 rw[if_neg h4]at h;cases h
theorem GO (x:fS)(c:List eZ):pF x c=if x.kind=1 then some x.type else if x.kind=2 then c[c.length-1-x.index.toNat]? else if x.kind=3 then(jM x.args (c++ [x.type])).map fun b=> .mk [] [x.type,b]else xV (jM x.args c) (tZ x.args c):=by
 cases x;rw[pF];rfl
theorem nG (x:fS)(l:List fS)(c:List eZ):jM (x::l) c=pF x c:=by rw[jM]
theorem vZ (x y:fS)(l:List fS)(c:List eZ):tZ (x::y::l) c=pF y c:=by rw[tZ,jM]
theorem Af (a b:Option eZ)(h:∀s l x,a=some s→s.args=l→b=some x→¬∃p q,l=[p,q]∧iB p x=true):xV a b=none:=by
 unfold xV
 split
 ·rename_i _ p q x
  split
  ·rename_i hs;exact absurd ⟨p,q,rfl,hs⟩ (h _ _ _ rfl rfl rfl)
  ·rfl
 ·rfl
theorem Ag {s p q x:eZ}(hl:s.args=[p,q])(h:iB p x=true):xV (some s) (some x)=some q:=by
 cases s with
 |mk b l=>
  cases (show l=[p,q]from hl)
  show(if iB p x then some q else none)=some q
  rw[if_pos h]
theorem vc (x:fS)(d b n:Nat):jY [x] d b n=ft x d b n:=by
 rw[jY,jY]
 split
 ·rfl
 ·rename_i h
  have:=Cd x d b n (Decidable.not_not.1 h)
  rw[←this]
theorem Cg (x y:fS)(d b n:Nat):jY [x,y] d b n=if(ft x d b n).2.1≠0 then ft x d b n else ft y d b (ft x d b n).1:=by rw[jY,vc]
inductive xx:eZ→Prop
 |leaf {b:ax} (h:b=sE∨b=sT):xx (.mk b [])
 |fn {x y:eZ} (hx:xx x) (hy:xx y):xx (.mk [] [x,y])
theorem qH {b:ax}{l:List eZ}(h:fT b l.length=true):((b=sE∨b=sT)∧l=[])∨(b=[]∧∃x y,l=[x,y]):=by
 unfold fT at h
 simp only[Bool.or_eq_true,Bool.and_eq_true,decide_eq_true_eq]at h
 rcases h with⟨h1,h2⟩|⟨h1,h2⟩
 ·exact .inl ⟨h1,List.eq_nil_of_length_eq_zero h2⟩
 ·refine .inr ⟨h1,?_⟩
  match l,h2 with
  | [x,y],_=>exact⟨x,y,rfl⟩
theorem zY:∀(x:eZ) (d n:Nat),(iL x d n).2=0→xx x∧(iL x d n).1=n+Qm x∧(iL x d n).1≤200:=by
 intro x;refine eZ.rec (motive_1:=fun x=>∀d n,(iL x d n).2=0→xx x∧(iL x d n).1=n+Qm x∧(iL x d n).1≤200) (motive_2:=fun l=>∀d n,(iA l d n).2=0→(∀x∈l,xx x)∧(iA l d n).1=n+GK l∧(n≤200→(iA l d n).1≤200)) ?_ ?_ ?_ x
 ·intro b l ih d n h
  rw[iL]at h⊢
  by_cases h1:200<n+1∨40<d
  ·rw[if_pos h1]at h;exact absurd h (by simp)
  rw[if_neg h1]at h⊢
  by_cases h2:fT b l.length=false
  ·rw[if_pos h2]at h;exact absurd h (by simp)
  rw[if_neg h2]at h⊢;obtain⟨k1,k2,k3⟩:=ih _ _ h;refine⟨?_,by rw[k2,Qm];omega,k3 (by omega)⟩
  rcases qH (by simpa using h2)with⟨hb,rfl⟩|⟨rfl,x,y,rfl⟩
  ·exact .leaf hb
  ·exact .fn (k1 x (by simp)) (k1 y (by simp))
 ·intro d n _;exact⟨fun x hx=>(by cases hx),rfl,fun h=>h⟩
 ·intro x l FO Ce d n h
  rw[iA]at h⊢
  by_cases h1:(iL x d n).2≠0
  ·rw[if_pos h1]at h;exact absurd h h1
  rw[if_neg h1]at h⊢;obtain⟨a1,a2,a3⟩:=FO d n (Decidable.not_not.1 h1);obtain⟨b1,b2,b3⟩:=Ce _ _ h;refine⟨fun y hy=> ?_,by rw[b2,a2,GK];omega,fun _=>b3 a3⟩
  rcases List.mem_cons.1 hy with rfl|hy
  ·exact a1
  ·exact b1 y hy
end Go.Proofs.YtoioijgdggkabaaGreatDoor
namespace Go.J
open Go
end Go.J
namespace Go.Proofs.YtoioijgdggkabaaGreatDoor
open Go Go.J
theorem GP:∀(x:eZ) (d n:Nat),n≤200→(iL x d n).1≤201:=by
 intro x;refine eZ.rec (motive_1:=fun x=>∀d n,n≤200→(iL x d n).1≤201) (motive_2:=fun l=>∀d n,n≤200→(iA l d n).1≤201) ?_ ?_ ?_ x
 ·intro b l ih d n hn
  rw[iL]
  split
  ·show n+1≤201;omega
  ·split
   ·show n+1≤201;omega
   ·exact ih _ _ (by omega)
 ·intro d n h;show n≤201;omega
 ·intro x l FO Ce d n h
  rw[iA]
  split
  ·exact FO d n h
  ·rename_i h1
   exact Ce _ _ (zY x d n (Decidable.not_not.1 h1)).2.2
theorem xy {l:List eZ}{k:Nat}{y:eZ}(h:l[k]?=some y)(d n:Nat):iA (l.drop k) d n=if(iL y d n).2≠0 then iL y d n else iA (l.drop (k+1)) d (iL y d n).1:=by rw[bS h,iA]
theorem Ah {l:List eZ}{k:Nat}(h:l.length≤k)(d n:Nat):iA (l.drop k) d n=(n,0):=by rw[List.drop_of_length_le h,iA]
theorem vd {b:ax}{m:Nat}(h:fT b m=true):m≤2:=by
 unfold fT at h
 simp only[Bool.or_eq_true,Bool.and_eq_true,decide_eq_true_eq]at h
 rcases h with⟨_,h⟩|⟨_,h⟩<;>omega
theorem ve (b:ax)(m:Nat):(((b==([101]:ax))||(b==([116]:ax)))&&decide ((m:Int)=0)||((b==([]:ax))&&decide ((m:Int)=2)))=fT b m:=by
 unfold fT;rw[Bool.eq_iff_iff]
 simp only[Bool.or_eq_true,Bool.and_eq_true,beq_iff_eq,decide_eq_true_eq]
 constructor
 ·rintro (⟨h,k⟩|⟨h,k⟩)
  ·exact .inl ⟨h,by omega⟩
  ·exact .inr ⟨h,by omega⟩
 ·rintro (⟨h,k⟩|⟨h,k⟩)
  ·exact .inl ⟨h,by omega⟩
  ·exact .inr ⟨h,by omega⟩
theorem fB (s:ax)(hs:s.length≤9223372036854775807):de Tryz.prog 22 #[sv s] [] (.bool (isName s)):=by
 refine de.iZ (args:=[sv s]) 55 Tryz.func22 rfl Tryz.ntmps22 rfl (fun c=> ?_);refine St.sr ?_;refine St.ao ?_;refine St.nn (St.seq (St.sr ?_));refine St.mv ?_;refine St.ee (Ev.dF (.mk rfl) cZ) ?_;refine St.ee Ev.fE ?_;refine St.mv ?_;refine St.gf _ rfl rfl (fun hg=>Ev.move (.mk rfl)) rfl ?_;refine St.gf _ rfl rfl (fun hg=>Ev.dF (aL.gv rfl hg) cZ) rfl ?_;refine St.gf _ rfl rfl (fun hg=>Ev.gtr (aL.gv rfl hg) (.mk rfl)) rfl ?_;refine St.ee Ev.o0 ?_;refine St.mv ?_;refine St.gf _ rfl rfl (fun hg=>Ev.move (.mk rfl)) rfl ?_;refine St.gf _ rfl rfl (fun hg=>Ev.fz (k:=0) (aL.gv rfl hg) (.mk rfl) cZ rfl (by first|omega|(simp only[aA]at hg;omega))) rfl ?_;refine St.gf _ rfl rfl (fun hg=>Ev.lss (aL.gv rfl hg) (.mk rfl)) rfl ?_;refine St.ee Ev.o0 ?_;refine St.mv ?_;refine St.gf _ rfl rfl (fun hg=>Ev.move (.mk rfl)) rfl ?_;refine St.gf _ rfl rfl (fun hg=>Ev.fz (k:=0) (aL.gv rfl hg) (.mk rfl) cZ rfl (by first|omega|(simp only[aA]at hg;omega))) rfl ?_;refine St.gf _ rfl rfl (fun hg=>Ev.gtr (aL.gv rfl hg) (.mk rfl)) rfl ?_;refine St.ee Ev.o0 ?_;refine St.nn ?_;refine St.cond _ rfl (fun pL=> ?_) (fun pL=> ?_)
 ·try simp only[aA]at pL
  refine St.sr ?_;refine St.ao ?_;refine St.nn (St.ae (St.a8 ?_));refine St.rU [_] [] Tryz.results22 ?_;exact be (ke (by omega)).symm
 ·try simp only[aA]at pL
  refine St.skip (St.a7 (St.seq (St.sr ?_)));refine St.mv ?_;refine St.ee (Ev.dF (.mk rfl) cZ) ?_;refine St.mv ?_;refine St.nn (St.block ?_);refine St.lS (ι:=Nat) (fun k T=>(25,iv k)::T) (fun k=>k≤s.length∧(s.take k).all eE=true) (fun k=>s.length-k) 0 (aG.cons 0 rfl (aG.cons 24 rfl aG.nil)) ⟨Nat.zero_le _,rfl⟩ ?_;intro k iQ;obtain⟨hk,ej⟩:=iQ;refine St.sr ?_;refine St.ee Ev.ez ?_;refine St.nn (St.seq ?_);refine St.cond _ rfl (fun Qo=> ?_) (fun Qo=> ?_)
  ·try simp only[aA]at Qo
   refine St.skip (St.a7 (St.seq (St.block (St.sr ?_))));refine St.mv ?_;refine St.ao ?_;refine St.nn (St.sr ?_);refine St.mv ?_;refine St.mv ?_;refine St.ee (Ev.fz (.mk rfl) (.mk rfl) cZ rfl (by omega)) ?_;refine St.ao ?_;refine St.nn (St.sr ?_);refine St.mv ?_;refine St.ee Ev.xi ?_;refine St.mv ?_;refine St.gt _ rfl rfl (fun hg=>Ev.move (.mk rfl)) rfl ?_;refine St.gt _ rfl rfl (fun hg=>Ev.leq (aL.gv rfl hg) (.mk rfl)) rfl ?_;refine St.ee Ev.n0 ?_;refine St.mv ?_;refine St.gf _ rfl rfl (fun hg=>Ev.move (.mk rfl)) rfl ?_;refine St.gf _ rfl rfl (fun hg=>Ev.geq (aL.gv rfl hg) (.mk rfl)) rfl ?_;refine St.gf _ rfl rfl (fun hg=>Ev.move (aL.gv rfl hg)) rfl ?_;refine St.kW _ rfl rfl (fun hg=>Ev.move (.mk rfl)) rfl ?_;refine St.kW _ rfl rfl (fun hg=>Ev.leq (aL.gv rfl hg) (.mk rfl)) rfl ?_;refine St.gf _ rfl rfl (fun hg=>Ev.and (aL.gv rfl hg) (fun hp=>aL.gv rfl (ji hg hp))) rfl ?_;refine St.ee Ev.o0 ?_;refine St.mv ?_;refine St.gf _ rfl rfl (fun hg=>Ev.move (.mk rfl)) rfl ?_;refine St.gf _ rfl rfl (fun hg=>Ev.eql (aL.gv rfl hg) (.mk rfl)) rfl ?_;refine St.ee Ev.o0 ?_;refine St.mv ?_;refine St.gf _ rfl rfl (fun hg=>Ev.move (.mk rfl)) rfl ?_;refine St.gf _ rfl rfl (fun hg=>Ev.eql (aL.gv rfl hg) (.mk rfl)) rfl ?_;refine St.ee Ev.o0 ?_;refine St.ee (Ev.not (.mk rfl)) ?_;refine St.nn ?_;refine St.cond _ rfl (fun FP=> ?_) (fun FP=> ?_)
   ·try simp only[aA]at FP
    refine St.sr ?_;refine St.ao ?_;refine St.nn (St.ae (St.aN (St.a8 (St.a8 (St.aN (St.a8 ?_))))));refine St.rU [_] [] Tryz.results22 ?_;exact be (oZ (k:=k) (by omega) (by simp only[eE,low,digit,Bool.and_eq_false_iff,Bool.or_eq_false_iff,decide_eq_false_iff_not];omega)).symm
   ·try simp only[aA]at FP
    refine St.skip (St.aW (St.a7 (St.rg ?_)));refine St.ee Ev.a0 ?_;refine St.mv ?_;refine St.nn ?_;refine St.aS (k+1) ⟨by omega,m8 (d:=0) ej (by simp only[eE,low,digit,Bool.and_eq_true,Bool.or_eq_true,decide_eq_true_eq];exact FP)⟩
  ·try simp only[aA]at Qo
   refine St.exit (St.aJ (St.aJ (St.bO (St.a7 (St.sr ?_)))));refine St.ao ?_;refine St.nn (St.ae ?_);refine St.rU [_] [] Tryz.results22 ?_;exact be (oa (by omega) (by omega) (by simp only[low,Bool.and_eq_true,decide_eq_true_eq];omega) (oY ej (by omega))).symm
theorem bU (a b:Int):de Tryz.prog 20 #[iv a,iv b] [] (fv (a,b)):=by
 refine de.iZ (args:=[iv a,iv b]) 8 Tryz.func20 rfl Tryz.ntmps20 rfl (fun c=> ?_);refine St.sr ?_;refine St.alloc dR rfl (fun b4=> ?_);refine St.nn (St.sr ?_);refine St.mv ?_;refine St.mv ?_;refine St.ee (Ev.build (ps:=[(0,(.tmp 5)),(1,(.tmp 6))]) (aQ.cons (aL.mk rfl) (aQ.cons (aL.mk rfl) aQ.nil)) (fun w=>cX rfl rfl w)) ?_;refine St.sA (.mk rfl) (.mk rfl) aR ?_;refine St.nn (St.ae ?_);refine St.rT [_] [] Tryz.results20 ⟨⟨_,_,_,_,rfl,c4.mem,.inl ⟨⟨_,bC⟩,aR,rfl⟩⟩,trivial⟩ ?_;rfl
theorem cy (a b:Int):de Tryz.prog 54 #[iv a,iv b] [] (fv (a,b)):=by
 refine de.iZ (args:=[iv a,iv b]) 8 Tryz.func54 rfl Tryz.ntmps54 rfl (fun c=> ?_);refine St.sr ?_;refine St.alloc dR rfl (fun b4=> ?_);refine St.nn (St.sr ?_);refine St.mv ?_;refine St.mv ?_;refine St.ee (Ev.build (ps:=[(0,(.tmp 5)),(1,(.tmp 6))]) (aQ.cons (aL.mk rfl) (aQ.cons (aL.mk rfl) aQ.nil)) (fun w=>cX rfl rfl w)) ?_;refine St.sA (.mk rfl) (.mk rfl) aR ?_;refine St.nn (St.ae ?_);refine St.rT [_] [] Tryz.results54 ⟨⟨_,_,_,_,rfl,c4.mem,.inl ⟨⟨_,bC⟩,aR,rfl⟩⟩,trivial⟩ ?_;rfl
theorem dg (a b:Int):de Tryz.prog 60 #[iv a,iv b] [] (fv (a,b)):=by
 refine de.iZ (args:=[iv a,iv b]) 8 Tryz.func60 rfl Tryz.ntmps60 rfl (fun c=> ?_);refine St.sr ?_;refine St.alloc dR rfl (fun b4=> ?_);refine St.nn (St.sr ?_);refine St.mv ?_;refine St.mv ?_;refine St.ee (Ev.build (ps:=[(0,(.tmp 5)),(1,(.tmp 6))]) (aQ.cons (aL.mk rfl) (aQ.cons (aL.mk rfl) aQ.nil)) (fun w=>cX rfl rfl w)) ?_;refine St.sA (.mk rfl) (.mk rfl) aR ?_;refine St.nn (St.ae ?_);refine St.rT [_] [] Tryz.results60 ⟨⟨_,_,_,_,rfl,c4.mem,.inl ⟨⟨_,bC⟩,aR,rfl⟩⟩,trivial⟩ ?_;rfl
theorem bX (a b:Int):de Tryz.prog 74 #[iv a,iv b] [] (fv (a,b)):=by
 refine de.iZ (args:=[iv a,iv b]) 8 Tryz.func74 rfl Tryz.ntmps74 rfl (fun c=> ?_);refine St.sr ?_;refine St.alloc dR rfl (fun b4=> ?_);refine St.nn (St.sr ?_);refine St.mv ?_;refine St.mv ?_;refine St.ee (Ev.build (ps:=[(0,(.tmp 5)),(1,(.tmp 6))]) (aQ.cons (aL.mk rfl) (aQ.cons (aL.mk rfl) aQ.nil)) (fun w=>cX rfl rfl w)) ?_;refine St.sA (.mk rfl) (.mk rfl) aR ?_;refine St.nn (St.ae ?_);refine St.rT [_] [] Tryz.results74 ⟨⟨_,_,_,_,rfl,c4.mem,.inl ⟨⟨_,bC⟩,aR,rfl⟩⟩,trivial⟩ ?_;rfl
theorem e5 (a b:Int):de Tryz.prog 81 #[iv a,iv b] [] (fv (a,b)):=by
 refine de.iZ (args:=[iv a,iv b]) 8 Tryz.func81 rfl Tryz.ntmps81 rfl (fun c=> ?_);refine St.sr ?_;refine St.alloc dR rfl (fun b4=> ?_);refine St.nn (St.sr ?_);refine St.mv ?_;refine St.mv ?_;refine St.ee (Ev.build (ps:=[(0,(.tmp 5)),(1,(.tmp 6))]) (aQ.cons (aL.mk rfl) (aQ.cons (aL.mk rfl) aQ.nil)) (fun w=>cX rfl rfl w)) ?_;refine St.sA (.mk rfl) (.mk rfl) aR ?_;refine St.nn (St.ae ?_);refine St.rT [_] [] Tryz.results81 ⟨⟨_,_,_,_,rfl,c4.mem,.inl ⟨⟨_,bC⟩,aR,rfl⟩⟩,trivial⟩ ?_;rfl
theorem sL (x:dv):de Tryz.prog 96 #[aK x] [dB x] (.bool (kN (cD x))):=by
 refine de.mf (args:=[aK x]) 12 Tryz.func96 rfl Tryz.ntmps96 rfl (fun c=> ?_);refine St.sr ?_;refine St.dS (.mk rfl) rfl (fun b1=> ?_);refine St.ao ?_;refine St.nn (St.seq ?_);refine St.mr x ?_;refine St.rg ?_;refine St.ee (Ev.aD (.mk rfl) oB) ?_;refine St.ee (Ev.l0 (.mk rfl) cZ) ?_;refine St.ee (Ev.fC (.mk rfl) (.mk rfl)) ?_;refine St.mv ?_;refine St.gt _ rfl rfl (fun hg=>Ev.aD (.mk rfl) gx) rfl ?_;refine St.gt _ rfl rfl (fun hg=>Ev.cY (aL.gv rfl hg) fA trivial (by rfl)) rfl ?_;refine St.gt _ rfl rfl (fun hg=>Ev.bA (aL.gv rfl hg) fA) rfl ?_;refine St.gt _ rfl rfl (fun hg=>Ev.eql (aL.gv rfl hg) (.mk rfl)) rfl ?_;refine St.ee Ev.n0 ?_;refine St.ao ?_;refine St.nn (St.ae ?_);refine St.rU [_] [] Tryz.results96 ?_;exact be (by rw[kN,lV,gO,List.length_map,Bool.eq_iff_iff];simp only[Bool.and_eq_true,beq_iff_eq,decide_eq_true_eq];exact⟨fun h=>⟨h.1,by have:=h.2;omega⟩,fun h=>⟨h.1,by have:=h.2;omega⟩⟩)
set_option maxHeartbeats 1000000 in
theorem uB (bn bw tw:Nat):∀(x:dv) (d n:Nat),d≤100→n≤200→eI Tryz.prog 109 ([aK x,iv (d:Nat)]++ [Value.pointer (some ⟨bn,0,none⟩),Value.pointer (some ⟨bw,0,none⟩)]).toArray [aE (dB x),aZ bn (.cells [iv (n:Nat)].toArray 3 (0,0)),aZ bw (.cells [(.func (.func 109) #[] [Value.pointer (some ⟨bn,0,none⟩),Value.pointer (some ⟨bw,0,none⟩)].toArray)].toArray tw (0,0))] (fun v H'=>v=iv (iL (cD x) d n).2∧H'=[aZ bn (.cells [iv ((iL (cD x) d n).1:Nat)].toArray 3 (0,0)),aZ bw (.cells [(.func (.func 109) #[] [Value.pointer (some ⟨bn,0,none⟩),Value.pointer (some ⟨bw,0,none⟩)].toArray)].toArray tw (0,0))]):=by
 intro x
 induction x using dv.ind
 rename_i x ih
 intro d n hd hn;refine eI.body (args:=[aK x,iv (d:Nat)]++ [Value.pointer (some ⟨bn,0,none⟩),Value.pointer (some ⟨bw,0,none⟩)]) 62 Tryz.func109 rfl Tryz.ntmps109 rfl (fun c=> ?_);refine St.seq ?_
 have dC:=GM (cD x) d n
 rw[lV,gO,List.length_map]at dC;refine St.mr x ?_;refine St.rg ?_;refine St.dS (.mk rfl) rfl (fun b4=> ?_);refine St.ao ?_;refine St.nn (St.sr ?_);refine St.ee (Ev.l0 (.mk rfl) bf) ?_;refine St.ee Ev.a0 ?_;refine St.bQ (.mk rfl) (.mk rfl) cu rfl (by rfl) ?_;refine St.hS bn (L':=[iv ((n+1:Nat):Int)]) rfl ?_;refine St.nn (St.seq (St.sr ?_));refine St.ee (Ev.l0 (.mk rfl) bf) ?_;refine St.ee Ev.vQ ?_;refine St.mv ?_;refine St.gf _ rfl rfl (fun hg=>Ev.move (.mk rfl)) rfl ?_;refine St.gf _ rfl rfl (fun hg=>Ev.gtr (aL.gv rfl hg) (.mk rfl)) rfl ?_;refine St.ee Ev.o0 ?_;refine St.nn ?_;refine St.cond _ rfl (fun eT=> ?_) (fun eT=> ?_)
 ·try simp only[aA]at eT
  rw[if_pos (by omega)]at dC;refine St.sr ?_;refine St.ao ?_;refine St.nn (St.ae (St.a8 ?_));refine St.rU [_] [aZ bn (.cells [iv ((n+1):Nat)].toArray 3 (0,0)),aZ bw (.cells [(.func (.func 109) #[] [Value.pointer (some ⟨bn,0,none⟩),Value.pointer (some ⟨bw,0,none⟩)].toArray)].toArray tw (0,0))] Tryz.results109 ?_
  rw[dC];exact⟨rfl,rfl⟩
 ·try simp only[aA]at eT
  rw[if_neg (by omega)]at dC;refine St.skip (St.a7 (St.sr ?_));refine St.ee (Ev.aD (.mk rfl) oB) ?_;refine St.ee (Ev.l0 (.mk rfl) cZ) ?_;refine St.ee (Ev.fC (.mk rfl) (.mk rfl)) ?_;refine St.mv ?_;refine St.gf _ rfl rfl (fun hg=>Ev.aD (.mk rfl) oB) rfl ?_;refine St.gf _ rfl rfl (fun hg=>Ev.cY (aL.gv rfl hg) cZ trivial (by rfl)) rfl ?_;refine St.gf _ rfl rfl (fun hg=>Ev.fC (aL.gv rfl hg) (.mk rfl)) rfl ?_;refine St.ee Ev.o0 ?_;refine St.ao ?_;refine St.nn (St.seq (St.sr ?_));refine St.mv ?_;refine St.mv ?_;refine St.gt _ rfl rfl (fun hg=>Ev.aD (.mk rfl) gx) rfl ?_;refine St.gt _ rfl rfl (fun hg=>Ev.cY (aL.gv rfl hg) fA trivial (by rfl)) rfl ?_;refine St.gt _ rfl rfl (fun hg=>Ev.bA (aL.gv rfl hg) fA) rfl ?_;refine St.gt _ rfl rfl (fun hg=>Ev.eql (aL.gv rfl hg) (.mk rfl)) rfl ?_;refine St.ee Ev.n0 ?_;refine St.mv ?_;refine St.gf _ rfl rfl (fun hg=>Ev.aD (.mk rfl) oB) rfl ?_;refine St.gf _ rfl rfl (fun hg=>Ev.cY (aL.gv rfl hg) cZ trivial (by rfl)) rfl ?_;refine St.gf _ rfl rfl (fun hg=>Ev.fC (aL.gv rfl hg) (.mk rfl)) rfl ?_;refine St.gf _ rfl rfl (fun hg=>Ev.move (aL.gv rfl hg)) rfl ?_;refine St.kW _ rfl rfl (fun hg=>Ev.aD (.mk rfl) gx) rfl ?_;refine St.kW _ rfl rfl (fun hg=>Ev.cY (aL.gv rfl hg) fA trivial (by rfl)) rfl ?_;refine St.kW _ rfl rfl (fun hg=>Ev.bA (aL.gv rfl hg) fA) rfl ?_;refine St.kW _ rfl rfl (fun hg=>Ev.eql (aL.gv rfl hg) (.mk rfl)) rfl ?_;refine St.gf _ rfl rfl (fun hg=>Ev.and (aL.gv rfl hg) (fun hp=>aL.gv rfl (ji hg hp))) rfl ?_;refine St.ee Ev.o0 ?_;refine St.ee (Ev.not (.mk rfl)) ?_;refine St.nn ?_;refine St.cond _ rfl (fun sM=> ?_) (fun sM=> ?_)
  ·rw[ve]at sM
   rw[if_pos (by simpa using sM)]at dC;refine St.sr ?_;refine St.ao ?_;refine St.nn (St.ae (St.a8 ?_));refine St.rU [_] [aZ bn (.cells [iv ((n+1):Nat)].toArray 3 (0,0)),aZ bw (.cells [(.func (.func 109) #[] [Value.pointer (some ⟨bn,0,none⟩),Value.pointer (some ⟨bw,0,none⟩)].toArray)].toArray tw (0,0))] Tryz.results109 ?_
   rw[dC];exact⟨rfl,rfl⟩
  ·rw[ve]at sM
   have K5:=vd (show fT x.base x.args.length=true by simpa using sM)
   rw[if_neg (by simpa using sM)]at dC;refine St.skip (St.a7 (St.seq (St.sr ?_)));refine St.ee (Ev.aD (.mk rfl) gx) ?_;refine St.ee (Ev.l0 (.mk rfl) fA) ?_;refine St.ee (Ev.bA (.mk rfl) fA) ?_;refine St.mv ?_;refine St.nn (St.block ?_);refine St.pH (ι:=Nat) (κ:=Nat) (fun k z T=>(49,iv k)::T) (fun k z=>[aZ bn (.cells [iv (z:Nat)].toArray 3 (0,0)),aZ bw (.cells [(.func (.func 109) #[] [Value.pointer (some ⟨bn,0,none⟩),Value.pointer (some ⟨bw,0,none⟩)].toArray)].toArray tw (0,0)),aE (sl gp x.av.1 x.args),aE (au dB x.args)]) (fun k z=>k≤x.args.length∧z≤200∧iA (x.args.map cD) (d+1) (n+1)=iA ((x.args.map cD).drop k) (d+1) z) (fun k z=>x.args.length-k) 0 (n+1) (aG.cons 1 rfl (aG.cons 3 rfl (aG.cons 47 rfl (aG.cons 48 rfl aG.nil)))) ⟨Nat.zero_le _,by omega,rfl⟩ ?_;rintro k z ⟨hk,hz,AU⟩;refine St.sr ?_;refine St.ee Ev.ez ?_;refine St.nn (St.seq ?_);refine St.cond _ rfl (fun Ch=> ?_) (fun Ch=> ?_)
   ·try simp only[aA]at Ch
    obtain⟨y,hy⟩:=aY (show k<x.args.length by omega)
    have rO:=List.mem_of_getElem? hy
    have n7:=xy (l:=x.args.map cD) (k:=k) (y:=cD y) (by rw[List.getElem?_map,hy];rfl) (d+1) z
    refine St.dK dB x.args (x:=y) rO ?_
    have hle:=GP (cD y) (d+1) z hz
    refine St.skip (St.a7 (St.seq (St.block (St.sr ?_))));refine St.ee (Ev.aa (k:=k) (.mk rfl) (.mk rfl) fA bB (by omega) (by omega)) ?_;refine St.ee (Ev.iH (.mk rfl) hy bb trivial bB fw.eq) ?_;refine St.alloc iP rfl (fun b9=> ?_);refine St.sA (.mk rfl) (.mk rfl) bB ?_ (h1:=(by simp only[List.all_cons,List.all_nil,Bool.and_true,Bool.and_eq_true];exact⟨rfl,y.av.2⟩));refine St.nn (St.sr ?_);refine St.ee (Ev.l0 (.mk rfl) Tryz.underlying187) ?_;refine St.ee (Ev.an (.mk rfl) bb trivial (by exact bB)) ?_;refine St.mv ?_;refine St.ee Ev.a0 ?_;refine St.slot 56 (iv ((d+1:Nat):Int)) rfl rfl ?_;refine St.cp (ih y rO (d+1) z (by omega) hz) IY (.mk rfl) (.cons (.mk rfl) (.cons (.mk rfl) .nil)) rfl ?_;rintro Yh _ ⟨rfl,rfl⟩;refine St.cI ?_;refine St.ao ?_;refine St.nn (St.sr ?_);refine St.mv ?_;refine St.ee Ev.kz ?_;refine St.nn ?_;refine St.cond _ rfl (fun Sa=> ?_) (fun Sa=> ?_)
    ·try simp only[aA]at Sa
     refine St.sr ?_;refine St.mv ?_;refine St.ao ?_;refine St.nn (St.ae (St.aN (St.a8 (St.a8 (St.aN (St.a8 ?_))))));refine St.rU [_] [aZ bn (.cells [iv ((iL (cD y) (d+1) z).1:Nat)].toArray 3 (0,0)),aZ bw (.cells [(.func (.func 109) #[] [Value.pointer (some ⟨bn,0,none⟩),Value.pointer (some ⟨bw,0,none⟩)].toArray)].toArray tw (0,0))] Tryz.results109 ?_
     rw[dC,AU,n7,if_pos (by omega)];exact⟨rfl,rfl⟩
    ·try simp only[aA]at Sa
     refine St.skip (St.aW (St.a7 (St.rg ?_)));refine St.ee Ev.a0 ?_;refine St.mv ?_;refine St.nn ?_
     have We:=(zY (cD y) (d+1) z (by omega)).2.2
     refine St.ly (k+1) (iL (cD y) (d+1) z).1 ⟨by omega,We,by rw[AU,n7,if_neg (by omega)]⟩
   ·try simp only[aA]at Ch
    rw[Ah (by rw[List.length_map];omega)]at AU;refine St.exit (St.aJ (St.aJ (St.bO (St.a7 (St.sr ?_)))));refine St.ao ?_;refine St.nn (St.ae ?_);refine St.rU [_] [aZ bn (.cells [iv (z:Nat)].toArray 3 (0,0)),aZ bw (.cells [(.func (.func 109) #[] [Value.pointer (some ⟨bn,0,none⟩),Value.pointer (some ⟨bw,0,none⟩)].toArray)].toArray tw (0,0))] Tryz.results109 ?_
    rw[dC,AU];exact⟨rfl,rfl⟩
theorem ov (x:dv):de Tryz.prog 95 #[aK x] [dB x] (fv (o3 (cD x),0)):=by
 refine de.mf (args:=[aK x]) 10 Tryz.func95 rfl Tryz.ntmps95 rfl (fun c=> ?_);refine St.sr ?_;refine St.dS (.mk rfl) rfl (fun b1=> ?_);refine St.alloc dR rfl (fun b2=> ?_);refine St.nn (St.sr ?_);refine St.alloc LG rfl (fun b3=> ?_);refine St.bQ (.mk rfl) (.mk rfl) cu rfl (by rfl) ?_;refine St.hS b3 (L':=[iv ((0:Nat):Int)]) rfl ?_;refine St.nn (St.sr ?_);refine St.alloc Ma rfl (fun b4=> ?_);refine St.nn (St.sr ?_);refine St.ee (Ev.func (.cons (.mk rfl) (.cons (.mk rfl) .nil))) ?_;refine St.bQ (.mk rfl) (.mk rfl) Mb rfl (by rfl) ?_;refine St.nn (St.sr ?_);refine St.ee (Ev.l0 (.mk rfl) Tryz.underlying187) ?_;refine St.ee (Ev.an (.mk rfl) bb trivial (by exact bB)) ?_;refine St.cp (uB b3 b4 187 x 1 0 (by omega) (by omega)) IY (.mk rfl) (.cons (.mk rfl) (.cons (.mk rfl) .nil)) rfl ?_;rintro v8 _ ⟨rfl,rfl⟩;refine St.cI ?_;refine St.ee (Ev.build (ps:=[(0,(.tmp 8))]) (aQ.cons (aL.mk rfl) aQ.nil) (fun w=>zX rfl w)) ?_;refine St.sA (.mk rfl) (.mk rfl) aR ?_;refine St.nn (St.ae ?_);refine St.rT [_] [] Tryz.results95 ⟨⟨_,_,_,_,rfl,c4.mem,.inl ⟨⟨_,bC⟩,aR,rfl⟩⟩,trivial⟩ ?_;rfl
theorem Ci (x y:eZ):iB x y=(decide (x.base=y.base)&&decide (x.args.length=y.args.length)&&jX x.args y.args):=by cases x;cases y;rw[iB];rfl
theorem vf {l m:List eZ}{k:Nat}{x y:eZ}(hx:l[k]?=some x)(hy:m[k]?=some y):jX (l.drop k) (m.drop k)=(iB x y&&jX (l.drop (k+1)) (m.drop (k+1))):=by rw[bS hx,bS hy,jX]
theorem xz {l m:List eZ}{k:Nat}(h:l.length≤k):jX (l.drop k) (m.drop k)=true:=by rw[List.drop_of_length_le h,jX];intro _ _ _ _ h;cases h
theorem Aj:∀(x y:dv),de Tryz.prog 110 #[aK x,aK y] [dB x,dB y] (.bool (iB (cD x) (cD y))):=by
 intro x
 induction x using dv.ind
 rename_i x ih
 intro y;refine de.zC (args:=[aK x,aK y]) 39 Tryz.func110 rfl Tryz.ntmps110 rfl (fun c=> ?_);refine St.seq ?_
 have hs:=Ci (cD x) (cD y)
 rw[lV,lV,gO,gO,List.length_map,List.length_map]at hs;refine St.mr x ?_;refine St.mr y ?_;refine St.wf x.av.1 (fun nY uu=> ?_);refine St.rg ?_;refine St.dS (.mk rfl) rfl (fun b2=> ?_);refine St.dS (.mk rfl) rfl (fun b3=> ?_);refine St.ao ?_;refine St.nn (St.seq (St.sr ?_));refine St.ee (Ev.aD (.mk rfl) oB) ?_;refine St.ee (Ev.l0 (.mk rfl) cZ) ?_;refine St.ee (Ev.aD (.mk rfl) oB) ?_;refine St.ee (Ev.l0 (.mk rfl) cZ) ?_;refine St.ee (Ev.oU (.mk rfl) (.mk rfl)) ?_;refine St.mv ?_;refine St.gf _ rfl rfl (fun hg=>Ev.aD (.mk rfl) gx) rfl ?_;refine St.gf _ rfl rfl (fun hg=>Ev.cY (aL.gv rfl hg) fA trivial (by rfl)) rfl ?_;refine St.gf _ rfl rfl (fun hg=>Ev.bA (aL.gv rfl hg) fA) rfl ?_;refine St.gf _ rfl rfl (fun hg=>Ev.aD (.mk rfl) gx) rfl ?_;refine St.gf _ rfl rfl (fun hg=>Ev.cY (aL.gv rfl hg) fA trivial (by rfl)) rfl ?_;refine St.gf _ rfl rfl (fun hg=>Ev.bA (aL.gv rfl hg) fA) rfl ?_;refine St.gf _ rfl rfl (fun hg=>Ev.neq (aL.gv rfl hg) (aL.gv rfl hg)) rfl ?_;refine St.ee Ev.o0 ?_;refine St.nn ?_;refine St.cond _ rfl (fun gz=> ?_) (fun gz=> ?_)
 ·try simp only[aA]at gz
  refine St.sr ?_;refine St.ao ?_;refine St.nn (St.ae (St.a8 ?_));refine St.rU [_] [] Tryz.results110 ?_;exact be (by rw[hs];rcases gz with h|h<;>simp[h]<;>omega)
 ·try simp only[aA]at gz
  obtain⟨hb,hl⟩:x.base=y.base∧x.args.length=y.args.length:=⟨by simpa using gz.1,by have:=gz.2;omega⟩
  rw[hb,hl,decide_eq_true rfl,decide_eq_true rfl,Bool.true_and,Bool.true_and]at hs;refine St.skip (St.a7 (St.seq (St.sr ?_)));refine St.ee (Ev.aD (.mk rfl) gx) ?_;refine St.ee (Ev.l0 (.mk rfl) fA) ?_;refine St.ee (Ev.bA (.mk rfl) fA) ?_;refine St.mv ?_;refine St.nn (St.block ?_);refine St.lS (ι:=Nat) (fun k T=>(23,iv k)::T) (fun k=>k≤x.args.length∧jX (x.args.map cD) (y.args.map cD)=jX ((x.args.map cD).drop k) ((y.args.map cD).drop k)) (fun k=>x.args.length-k) 0 (aG.cons 2 rfl (aG.cons 3 rfl (aG.cons 22 rfl aG.nil))) ⟨Nat.zero_le _,rfl⟩ ?_;intro k iQ;obtain⟨hk,hv⟩:=iQ;refine St.sr ?_;refine St.ee Ev.ez ?_;refine St.nn (St.seq ?_);refine St.cond _ rfl (fun y0=> ?_) (fun y0=> ?_)
  ·try simp only[aA]at y0
   obtain⟨u,hu⟩:=aY (show k<x.args.length by omega);obtain⟨w,hw⟩:=aY (show k<y.args.length by omega);refine St.dK dB x.args (x:=u) (List.mem_of_getElem? hu) ?_;refine St.dK dB y.args (x:=w) (List.mem_of_getElem? hw) ?_
   have n7:=vf (l:=x.args.map cD) (m:=y.args.map cD) (k:=k) (x:=cD u) (y:=cD w) (by rw[List.getElem?_map,hu];rfl) (by rw[List.getElem?_map,hw];rfl)
   refine St.skip (St.a7 (St.seq (St.block (St.sr ?_))));refine St.mv ?_;refine St.ao ?_;refine St.nn (St.seq ?_);refine St.rq mixed (by kernel_rfl) (Mm.drawn _ _) ?_;refine Sq.ee (Ev.aD (.mk rfl) gx) ?_;refine Sq.ee (Ev.l0 (.mk rfl) fA) ?_;refine Sq.ee (Ev.move (.mk rfl)) ?_;refine Sq.ee (Ev.aa (k:=k) (.mk rfl) (.mk rfl) fA bB (by omega) (by omega)) ?_;refine Sq.ee (Ev.iH (.mk rfl) hu bb trivial bB fw.eq) ?_;refine Sq.ee (Ev.aD (.mk rfl) gx) ?_;refine Sq.ee (Ev.l0 (.mk rfl) fA) ?_;refine Sq.ee (Ev.move (.mk rfl)) ?_;refine Sq.ee (Ev.aa (k:=k) (.mk rfl) (.mk rfl) fA bB (by omega) (by omega)) ?_;refine Sq.ee (Ev.iH (.mk rfl) hw bb trivial bB fw.eq) ?_;refine Sq.ee (Ev.call (ih u (List.mem_of_getElem? hu) w) IZ (.cons (.mk rfl) (.cons (.mk rfl) .nil))) ?_;refine Sq.ee (Ev.not (.mk rfl)) ?_;refine Sq.nil ?_;refine St.a7 ?_;refine St.cond _ rfl (fun Ak=> ?_) (fun Ak=> ?_)
   ·skip
    refine St.sr ?_;refine St.ao ?_;refine St.nn (St.ae (St.aN (St.a8 (St.a8 (St.aN (St.a8 ?_))))));refine St.rU [_] [] Tryz.results110 ?_;exact be (by rw[hs,hv,n7,show iB (cD u) (cD w)=false by simpa using Ak];rfl)
   ·skip
    refine St.skip (St.aW (St.a7 (St.rg ?_)));refine St.ee Ev.a0 ?_;refine St.mv ?_;refine St.nn ?_;refine St.aS (k+1) ⟨by omega,by rw[hv,n7,show iB (cD u) (cD w)=true by simpa using Ak,Bool.true_and]⟩
  ·try simp only[aA]at y0
   rw[xz (by rw[List.length_map];omega)]at hv;refine St.exit (St.aJ (St.aJ (St.bO (St.a7 (St.sr ?_)))));refine St.ao ?_;refine St.nn (St.ae ?_);refine St.rU [_] [] Tryz.results110 ?_;exact be (by rw[hs,hv])
end Go.Proofs.YtoioijgdggkabaaGreatDoor

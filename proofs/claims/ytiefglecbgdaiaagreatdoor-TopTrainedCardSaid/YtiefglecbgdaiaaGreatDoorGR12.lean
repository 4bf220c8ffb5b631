/-
  Laws of walks through programs, and facts on grammars, trees and queries.
  Conditions: none.
-/
import Derived.Test.YtiefglecbgdaiaaGreatDoorGR11
set_option maxHeartbeats 4000000
set_option maxRecDepth 20000
set_option linter.unusedVariables false
set_option linter.unusedSimpArgs false
namespace Go.Proofs.YtiefglecbgdaiaaGreatDoor
open Go Go.J Tryz
def rp:List cM:=[[116,111,112],[114,117,108,101],[115,105,103,110],[110,117,109],[115,105,110,103],[112,108,117,114],[115],[110,112],[118,112],[110],[100,101,116],[105,118],[116,118],[97,100,118],[99,111,110,106]]
def AN:List Int:=[0,0,0,0,3,3,2,2,2,2,2,2,2,2,2]
def js:List jh:=[⟨[109,111,116,104,101,114],1,2⟩,⟨[111,110,101],1,2⟩,⟨[116,119,111],1,2⟩,⟨[116,104,114,101,101],1,2⟩,⟨[110,117,109],2,3⟩]
abbrev Qs:kM:=⟨[115],(cG [[1,0,1,1,2,2,4],[6],[7,4,3],[3],[8,4,3]]),2,0,(aw (ao (ao (.mk [101] []) (.mk [116] [])) (.mk [116] [])) (aw (ao (.mk [101] []) (.mk [116] [])) (aM (ab 1) (ab 0))))⟩
abbrev Qt:kM:=⟨[110,112],(cG [[1,0,1,1,3,2,4],[7,4,2],[3],[10,4,2],[9,4,2]]),2,1,(aw (ao (ao (.mk [101] []) (.mk [116] [])) (ao (ao (.mk [101] []) (.mk [116] [])) (.mk [116] []))) (aw (ao (.mk [101] []) (.mk [116] [])) (aM (ab 1) (ab 0))))⟩
abbrev Qu:kM:=⟨[118,112,45,105,118],(cG [[1,0,1,1,3],[8,4,2],[3],[11,4,2]]),1,0,(aw (ao (.mk [101] []) (.mk [116] [])) (ab 0))⟩
abbrev Qv:kM:=⟨[118,112,45,116,118],(cG [[1,0,1,1,3,2,4],[8,4,2],[3],[12,4,2],[7]]),2,2,(aw (ao (.mk [101] []) (ao (.mk [101] []) (.mk [116] []))) (aw (ao (ao (.mk [101] []) (.mk [116] [])) (.mk [116] [])) (aw (.mk [101] []) (aM (ab 1) (aw (.mk [101] []) (aM (aM (ab 3) (ab 1)) (ab 0)))))))⟩
abbrev Qw:kM:=⟨[118,112,45,110,111,116],(cG [[1,0,1,1,3,2,4],[8,4,2],[3],[13],[8,4,2]]),2,3,(aw (ao (.mk [116] []) (.mk [116] [])) (aw (ao (.mk [101] []) (.mk [116] [])) (aw (.mk [101] []) (aM (ab 2) (aM (ab 1) (ab 0))))))⟩
abbrev Qx:kM:=⟨[110,112,45,97,110,100],(cG [[1,0,1,1,3,2,4,3,5],[7,4,2],[5],[7],[14],[7]]),3,4,(aw (ao (ao (.mk [101] []) (.mk [116] [])) (.mk [116] [])) (aw (ao (.mk [116] []) (ao (.mk [116] []) (.mk [116] []))) (aw (ao (ao (.mk [101] []) (.mk [116] [])) (.mk [116] [])) (aw (ao (.mk [101] []) (.mk [116] [])) (aM (aM (ab 2) (aM (ab 3) (ab 0))) (aM (ab 1) (ab 0)))))))⟩
def uu:List kM:=[Qs,Qt,Qu,Qv,Qw,Qx]
def rm:List Bg:=[⟨[101,118,101,114,121],cG [[10,4,1],[4]],1,(nE [97,108,108] [105,102] false)⟩,⟨[97],cG [[10,4,1],[4]],0,(nE [115,111,109,101] [97,110,100] false)⟩,⟨[110,111],cG [[10]],2,(nE [115,111,109,101] [97,110,100] true)⟩,⟨[100,111,103],cG [[9,4,1],[4]],0,(bf [100,111,103] (ao (.mk [101] []) (.mk [116] [])))⟩,⟨[100,111,103,115],cG [[9,4,1],[5]],0,(bf [100,111,103] (ao (.mk [101] []) (.mk [116] [])))⟩,⟨[99,97,116],cG [[9,4,1],[4]],0,(bf [99,97,116] (ao (.mk [101] []) (.mk [116] [])))⟩,⟨[99,97,116,115],cG [[9,4,1],[5]],0,(bf [99,97,116] (ao (.mk [101] []) (.mk [116] [])))⟩,⟨[102,105,115,104],cG [[9,4,1],[4]],1,(bf [102,105,115,104] (ao (.mk [101] []) (.mk [116] [])))⟩,⟨[102,105,115,104],cG [[9,4,1],[5]],2,(bf [102,105,115,104] (ao (.mk [101] []) (.mk [116] [])))⟩,⟨[98,97,114,107,115],cG [[11,4,1],[4]],0,(bf [98,97,114,107] (ao (.mk [101] []) (.mk [116] [])))⟩,⟨[98,97,114,107],cG [[11,4,1],[5]],0,(bf [98,97,114,107] (ao (.mk [101] []) (.mk [116] [])))⟩,⟨[115,108,101,101,112,115],cG [[11,4,1],[4]],0,(bf [115,108,101,101,112] (ao (.mk [101] []) (.mk [116] [])))⟩,⟨[115,108,101,101,112],cG [[11,4,1],[5]],0,(bf [115,108,101,101,112] (ao (.mk [101] []) (.mk [116] [])))⟩,⟨[99,104,97,115,101,115],cG [[12,4,1],[4]],0,(bf [99,104,97,115,101] (ao (.mk [101] []) (ao (.mk [101] []) (.mk [116] []))))⟩,⟨[99,104,97,115,101],cG [[12,4,1],[5]],0,(bf [99,104,97,115,101] (ao (.mk [101] []) (ao (.mk [101] []) (.mk [116] []))))⟩,⟨[115,101,101,115],cG [[12,4,1],[4]],1,(bf [115,101,101] (ao (.mk [101] []) (ao (.mk [101] []) (.mk [116] []))))⟩,⟨[115,101,101],cG [[12,4,1],[5]],1,(bf [115,101,101] (ao (.mk [101] []) (ao (.mk [101] []) (.mk [116] []))))⟩,⟨[110,111,116],cG [[13]],0,(bf [110,111,116] (ao (.mk [116] []) (.mk [116] [])))⟩,⟨[97,110,100],cG [[14]],0,(bf [97,110,100] (ao (.mk [116] []) (ao (.mk [116] []) (.mk [116] []))))⟩,⟨[114,101,120],cG [[7,4,1],[4]],0,(aw (ao (.mk [101] []) (.mk [116] [])) (aM (ab 0) (bf [114,101,120] (.mk [101] []))))⟩,⟨[109,105,97],cG [[7,4,1],[4]],0,(aw (ao (.mk [101] []) (.mk [116] [])) (aM (ab 0) (bf [109,105,97] (.mk [101] []))))⟩]
def wK:fD:=⟨za rp AN 15,js.map iJ,uu,rm,cG [[6]]⟩
abbrev BR (h i j k l m e:Nat)(tv:ah)(f:List sD)(rv:Value)(g:List cK)(a b c d:fk)(w:Value)(X:List fq):List ay:=[tI m [tv.1,(tO e 5 5),rv,w,(.slice none 0 0)] 32,row w 100 9 (X).length (rows cy (X)),aD (aL dz X),aD (sl bZ rv g),aD (aL bb g),aD (sl lW tv.1 f),aD (aL s6 f),aD (sl fw (tO e 5 5) js),tI l [sv d.base,d.av.1] 86,aD (dL (ao (.mk [101] []) (ao (.mk [101] []) (.mk [116] []))) (aV d)),tI k [sv c.base,c.av.1] 86,aD (dL (ao (.mk [101] []) (.mk [116] [])) (aV c)),tI j [sv b.base,b.av.1] 86,tI i [sv a.base,a.av.1] 86,aD (dL (.mk [116] []) (aV b)),aD (dL (.mk [101] []) (aV a)),tI h [(.slice none 0 0),(.slice none 0 0),(.slice none 0 0),(.slice none 0 0),(.slice none 0 0)] 32]
theorem St.BQ {n:Nat}{F:Fr}{c:Ctx}{H:List ay}{T:Act→World→Prop}(L:List ay)(k:St n F (Mm c L) T)(a:L.Sublist H:=by repeat(first|exact List.Sublist.slnil|with_reducible refine List.Sublist.cons_cons _ ?_|refine List.Sublist.cons _ ?_)):St n F (Mm c H) T:=St.aoG L a k
theorem fN {X:List fq}{x:fq}{k:Nat}{r:Bg}(h1:∀y∈X,cy.wf y)(a:X.map jg=rm.take k)(b:X.length=k)(c:jg x=r)(d:cy.wf x)(e:rm.take (k+1)=rm.take k++ [r]:=by exact rfl):
 ∃Y,Y=X++ [x]∧(∀y∈Y,cy.wf y)∧Y.map jg=rm.take (k+1)∧Y.length=k+1:=
 ⟨_,rfl,λy hy=>(ca.1 hy).elim (h1 y) λq=>by rw[ba.1 q];exact d,by rw[cY,a,e,fM,kb,c],by rw[cA,b];rfl⟩
theorem wfI {l:List Int}(h:l.all (λx=>decide (-9223372036854775808≤x)&&decide (x≤9223372036854775807))=true):∀x∈l,aJ.wf x:=λx hx=>by
 have:=fY.1 h x hx
 simp only[Bool.and_eq_true,decide_eq_true_eq]at this
 exact this
theorem JK:∀x∈rp,fK.wf x:=λx hx=>by
 have h:rp.all (λx=>decide (x.length≤140737488351232))=true:=by decide
 show x.length≤140737488351232
 exact im (fY.1 h x hx)
theorem aaA:∀x∈AN,aJ.wf x:=wfI (by decide)
theorem JJ:∀x∈js,fw.wf x:=λx hx=>by
 have h:js.all (λx=>decide (x.name.length≤140737488351232)&&(decide (-9223372036854775808≤x.CR)&&decide (x.CR≤9223372036854775807))&&(decide (-9223372036854775808≤x.value)&&decide (x.value≤9223372036854775807)))=true:=by decide
 have:=fY.1 h x hx
 simp only[Bool.and_eq_true,decide_eq_true_eq]at this
 exact⟨this.1.1,this.1.2,this.2⟩
theorem ZL {α:Type}{l:List α}(h:l.length=6):∃a b c d e f,l=[a,b,c,d,e,f]:=by
 match l,h with
 | [a,b,c,d,e,f],_=>exact⟨a,b,c,d,e,f,rfl⟩
theorem an7 {n:Nat}{F:Fr}{c:Ctx}{H:List ay}{T:Act→World→Prop}{α:Type}(Rr:Rp α)(v:Value)(vs:List ah)(iZ:List (List α))(ds:List e8)(a:ds=(vs.zip iZ).map (λp=>sl Rr p.1.1 p.2))(b:vs.length=iZ.length)[h1:mT (sl cr v vs) H][d:lG ds H]
 (k:St n F (Mm c (aD (SS Rr v iZ)::H)) T):St n F (Mm c H) T:=
 St.fact (SS Rr v iZ) (λρ w hm=>⟨vs,b,dJ.1 (hm.dR _ h1.mem),λi u x hu hx=>by
  have e:(u,x)∈vs.zip iZ:=aY (i:=i) (by rw[List.getElem?_zip_eq_some];exact⟨hu,hx⟩)
  exact dJ.1 (hm.dR _ (d.mem _ (by rw[a];exact cS.2 ⟨(u,x),e,rfl⟩)))⟩) k
theorem Hc:dx prog 6 #[] ([].map aD) (λv H'=>H'=[aD (zd wK v)]):=by
 refine dx.body (args:=[]) 256 func6 rfl ntmps6 rfl (λc=>St.cast (H':=[]) rfl (g2 ?_));refine St.al (λn=>g4 ?_);refine St.ak (mU [101] (by decide)) Lo (.aq rfl) rfl ?_;rintro v8 _ rfl;refine St.bB (St.dL (.mk [101] []) v8 (λi UI=>?_));obtain⟨YZ,anR,anS⟩:=UI;subst YZ;refine St.ak (mU [116] (by decide)) Lo (.aq rfl) rfl ?_;rintro v9 _ rfl;refine St.bB (St.dL (.mk [116] []) v9 (λg UK=>?_));obtain⟨Yc,anX,anY⟩:=UK;subst Yc;refine St.al (λo=>St.al (λp=>g8 ?_));refine St.ak (fQ (aV i) (aV g) (.mk [101] []) (.mk [116] [])) qj (.aX rfl rfl) rfl ?_;rintro v12 _ rfl;refine St.bB (St.dL (ao (.mk [101] []) (.mk [116] [])) v12 (λf hxp=>?_));obtain⟨Ya,anT,anU⟩:=hxp;subst Ya;refine St.al (λq=>g7 ?_);refine St.ak (fQ (aV i) (aV f) (.mk [101] []) (ao (.mk [101] []) (.mk [116] []))) qj (.aX rfl rfl) rfl ?_;rintro v15 _ rfl;refine St.bB (St.dL (ao (.mk [101] []) (ao (.mk [101] []) (.mk [116] []))) v15 (λm hxr=>?_));obtain⟨Yb,anV,anW⟩:=hxr;subst Yb;refine St.al (λr=>g5 ?_);refine St.al (λa=>g4 ?_);refine St.iu rfl (.cons (.mk rfl) (.cons (.mk rfl) (.cons (.mk rfl) (.cons (.mk rfl) (.cons (.mk rfl) (.cons (.mk rfl) (.cons (.mk rfl) (.aoA rfl rfl rfl rfl rfl rfl rfl rfl)))))))) Mz sz9 zv9 rfl rfl (by simp[Value.cells]) rfl rfl (λN=> ?_);refine St.bU (tO N 15 15) fK rp rfl rfl JK (St.ZY (Rr:=fK) (xs:=rp) (tO N 15 15) rfl (St.bi AN (λZw=> ?_) bQ dQ ec));refine St.ZY (Rr:=aJ) (xs:=AN) (tO Zw 15 15) rfl (St.ee (Ev.build (au.eI rfl rfl rfl) (λw=>lJ rfl rfl rfl w)) (St.ee (Ev.build (au.eI rfl rfl rfl) (λw=>lJ rfl rfl rfl w)) (St.ee (Ev.build (au.eI rfl rfl rfl) (λw=>lJ rfl rfl rfl w)) (St.ee (Ev.build (au.eI rfl rfl rfl) (λw=>lJ rfl rfl rfl w)) (St.ee (Ev.build (au.eI rfl rfl rfl) (λw=>lJ rfl rfl rfl w)) (St.iu rfl (.BM rfl rfl rfl rfl rfl) Gy Mt ao1 rfl rfl (by simp[Value.cells]) rfl rfl (λb=> ?_)))))));refine St.bU (tO b 5 5) fw js rfl rfl JJ (St.ak (vk (tO N 15 15) (tO Zw 15 15) (tO b 5 5) rp AN rfl rfl (by decide)) ajT (.eI rfl rfl rfl) rfl ?_);rintro v24 _ ⟨tv,j,rfl,hts,rfl⟩;refine St.dD (go ?_);refine St.R5 (L':=[tv.1,(tO b 5 5),(.slice none 0 0),(.slice none 0 0),(.slice none 0 0)]) (aa.mk rfl) (aa.mk rfl) RD tv.2 rfl rfl rfl (g4 ?_);refine St.ak BJ ajU (.aq rfl) rfl ?_;rintro v26 _ rfl;refine St.bB (St.mO tK v26 (λms YP=>?_));obtain⟨h26,O⟩:=YP;obtain⟨m0,m1,m2,m3,m4,m5,rfl⟩:=ZL (show ms.length=6 by have:=congrArg List.length O;rw[aO]at this;exact this);refine St.wf v26 (λt _=>?_)
 simp only[tK,List.map_cons,List.map_nil,List.cons.injEq,and_true]at O
 obtain⟨hm0,hm1,hm2,hm3,hm4,hm5⟩:=O;refine St.bh cu [m0,m1,m2,m3,m4,m5] (x:=m0) (by simp) ?_;refine St.bh cu [m0,m1,m2,m3,m4,m5] (x:=m1) (by simp) ?_;refine St.bh cu [m0,m1,m2,m3,m4,m5] (x:=m2) (by simp) ?_;refine St.bh cu [m0,m1,m2,m3,m4,m5] (x:=m3) (by simp) ?_;refine St.bh cu [m0,m1,m2,m3,m4,m5] (x:=m4) (by simp) ?_;refine St.bh cu [m0,m1,m2,m3,m4,m5] (x:=m5) (by simp) ?_
 have amJ:=t m0 (by simp)
 have amK:=t m1 (by simp)
 have amL:=t m2 (by simp)
 have amM:=t m3 (by simp)
 have amN:=t m4 (by simp)
 have amO:=t m5 (by simp)
 refine g4 ?_;refine St.Vd 67 27 [] (⟨27,[],λu=>cZ u v26⟩::⟨28,[0],λu=>cZ u (eL v26 cz.size 0 0)⟩::⟨29,[1],λu=>cZ u (cR m0)⟩::⟨30,[],λu=>fa aJ [1,0,1,1,2,2,4] u⟩::⟨31,[],λu=>fa aJ [6] u⟩::⟨32,[],λu=>fa aJ [7,4,3] u⟩::⟨33,[],λu=>fa aJ [3] u⟩::⟨34,[],λu=>fa aJ [8,4,3] u⟩::⟨35,[3,4,5,6,7],λu=>fW aJ [[1,0,1,1,2,2,4],[6],[7,4,3],[3],[8,4,3]] u⟩::⟨36,[8],λu=>bS (cG [[1,0,1,1,2,2,4],[6],[7,4,3],[3],[8,4,3]]) u⟩::⟨37,[2,9],λu=>fI Qs u⟩::⟨38,[],λu=>cZ u v26⟩::⟨39,[11],λu=>cZ u (eL v26 cz.size 1 0)⟩::⟨40,[12],λu=>cZ u (cR m1)⟩::⟨41,[],λu=>fa aJ [1,0,1,1,3,2,4] u⟩::⟨42,[],λu=>fa aJ [7,4,2] u⟩::⟨43,[],λu=>fa aJ [3] u⟩::⟨44,[],λu=>fa aJ [10,4,2] u⟩::⟨45,[],λu=>fa aJ [9,4,2] u⟩::⟨46,[14,15,16,17,18],λu=>fW aJ [[1,0,1,1,3,2,4],[7,4,2],[3],[10,4,2],[9,4,2]] u⟩::⟨47,[19],λu=>bS (cG [[1,0,1,1,3,2,4],[7,4,2],[3],[10,4,2],[9,4,2]]) u⟩::⟨48,[13,20],λu=>fI Qt u⟩::⟨49,[],λu=>cZ u v26⟩::⟨50,[22],λu=>cZ u (eL v26 cz.size 2 0)⟩::⟨51,[23],λu=>cZ u (cR m2)⟩::⟨52,[],λu=>fa aJ [1,0,1,1,3] u⟩::⟨53,[],λu=>fa aJ [8,4,2] u⟩::⟨54,[],λu=>fa aJ [3] u⟩::⟨55,[],λu=>fa aJ [11,4,2] u⟩::⟨56,[25,26,27,28],λu=>fW aJ [[1,0,1,1,3],[8,4,2],[3],[11,4,2]] u⟩::⟨57,[29],λu=>bS (cG [[1,0,1,1,3],[8,4,2],[3],[11,4,2]]) u⟩::⟨58,[24,30],λu=>fI Qu u⟩::⟨59,[],λu=>cZ u v26⟩::⟨60,[32],λu=>cZ u (eL v26 cz.size 3 0)⟩::⟨61,[33],λu=>cZ u (cR m3)⟩::⟨62,[],λu=>fa aJ [1,0,1,1,3,2,4] u⟩::⟨63,[],λu=>fa aJ [8,4,2] u⟩::⟨64,[],λu=>fa aJ [3] u⟩::⟨65,[],λu=>fa aJ [12,4,2] u⟩::⟨66,[],λu=>fa aJ [7] u⟩::⟨67,[35,36,37,38,39],λu=>fW aJ [[1,0,1,1,3,2,4],[8,4,2],[3],[12,4,2],[7]] u⟩::⟨68,[40],λu=>bS (cG [[1,0,1,1,3,2,4],[8,4,2],[3],[12,4,2],[7]]) u⟩::⟨69,[34,41],λu=>fI Qv u⟩::⟨70,[],λu=>cZ u v26⟩::⟨71,[43],λu=>cZ u (eL v26 cz.size 4 0)⟩::⟨72,[44],λu=>cZ u (cR m4)⟩::⟨73,[],λu=>fa aJ [1,0,1,1,3,2,4] u⟩::⟨74,[],λu=>fa aJ [8,4,2] u⟩::⟨75,[],λu=>fa aJ [3] u⟩::⟨76,[],λu=>fa aJ [13] u⟩::⟨77,[],λu=>fa aJ [8,4,2] u⟩::⟨78,[46,47,48,49,50],λu=>fW aJ [[1,0,1,1,3,2,4],[8,4,2],[3],[13],[8,4,2]] u⟩::⟨79,[51],λu=>bS (cG [[1,0,1,1,3,2,4],[8,4,2],[3],[13],[8,4,2]]) u⟩::⟨80,[45,52],λu=>fI Qw u⟩::⟨81,[],λu=>cZ u v26⟩::⟨82,[54],λu=>cZ u (eL v26 cz.size 5 0)⟩::⟨83,[55],λu=>cZ u (cR m5)⟩::⟨84,[],λu=>fa aJ [1,0,1,1,3,2,4,3,5] u⟩::⟨85,[],λu=>fa aJ [7,4,2] u⟩::⟨86,[],λu=>fa aJ [5] u⟩::⟨87,[],λu=>fa aJ [7] u⟩::⟨88,[],λu=>fa aJ [14] u⟩::⟨89,[],λu=>fa aJ [7] u⟩::⟨90,[57,58,59,60,61,62],λu=>fW aJ [[1,0,1,1,3,2,4,3,5],[7,4,2],[5],[7],[14],[7]] u⟩::⟨91,[63],λu=>bS (cG [[1,0,1,1,3,2,4,3,5],[7,4,2],[5],[7],[14],[7]]) u⟩::⟨92,[56,64],λu=>fI Qx u⟩::⟨93,[10,21,31,42,53,65],λu=>pa uu u⟩::[]) ((27,[])::(28,[0])::(29,[1])::(30,[])::(31,[])::(32,[])::(33,[])::(34,[])::(35,[3,4,5,6,7])::(36,[8])::(37,[2,9])::(38,[])::(39,[11])::(40,[12])::(41,[])::(42,[])::(43,[])::(44,[])::(45,[])::(46,[14,15,16,17,18])::(47,[19])::(48,[13,20])::(49,[])::(50,[22])::(51,[23])::(52,[])::(53,[])::(54,[])::(55,[])::(56,[25,26,27,28])::(57,[29])::(58,[24,30])::(59,[])::(60,[32])::(61,[33])::(62,[])::(63,[])::(64,[])::(65,[])::(66,[])::(67,[35,36,37,38,39])::(68,[40])::(69,[34,41])::(70,[])::(71,[43])::(72,[44])::(73,[])::(74,[])::(75,[])::(76,[])::(77,[])::(78,[46,47,48,49,50])::(79,[51])::(80,[45,52])::(81,[])::(82,[54])::(83,[55])::(84,[])::(85,[])::(86,[])::(87,[])::(88,[])::(89,[])::(90,[57,58,59,60,61,62])::(91,[63])::(92,[56,64])::(93,[10,21,31,42,53,65])::[]) [66] rfl rfl mixed (by kernel_rfl) (by kernel_rfl) (by rfl) (λe=>[(93,e 66)]) (λe=>[aD (pa uu (e 66))]) (λ_=>rfl) (λ_=>rfl) ?_ (λe=> ?_)
 ·refine an.c0 (λc e d=> ?_) ?_
  ·refine St.aM ?_
   refine go ?_;refine St.fact (cZ v26 v26) (λ_ _ _=>rfl) ?_;exact St.bg _
  refine an.cc (λe=>[(27,e 0)]) (λe=>[aD (cZ (e 0) v26)]) (λc e d=> ?_) ?_
  ·refine St.bB ?_
   refine St.bm (P:=prog) 27 (e 0) v26 rfl (St.ee (Ev.cI (k:=0) (.mk rfl) (.mk rfl) lx jy zE (by simp)) ?_);refine St.fact (cZ (eL v26 cz.size 0 0) (eL v26 cz.size 0 0)) (λ_ _ _=>rfl) ?_;exact St.bg _
  refine an.cc (λe=>[(28,e 1)]) (λe=>[aD (cZ (e 1) (eL v26 cz.size 0 0))]) (λc e d=> ?_) ?_
  ·refine St.bB ?_
   refine St.bm (P:=prog) 28 (e 1) (eL v26 cz.size 0 0) rfl (St.ee (Ev.iD (.mk rfl) (show [m0,m1,m2,m3,m4,m5][0]?=some m0 from rfl) sL trivial jy gH.eq) (St.fact (cZ (cR m0) (cR m0)) (λ_ _ _=>rfl) ?_));exact St.bg _
  refine an.bi ?_ bQ dQ ec;refine an.bi ?_ bQ dQ ec;refine an.bi ?_ bQ dQ ec;refine an.bi ?_ bQ dQ ec;refine an.bi ?_ bQ dQ ec;refine an.bw ?_ jG fT kh (λ_=>(.BM rfl rfl rfl rfl rfl));refine an.cc (λe=>[(35,e 8)]) (λe=>[aD (fW aJ [[1,0,1,1,2,2,4],[6],[7,4,3],[3],[8,4,3]] (e 8))]) (λc e d=> ?_) ?_
  ·refine St.bB ?_
   refine St.ak (gZ (e 8) [[1,0,1,1,2,2,4],[6],[7,4,3],[3],[8,4,3]] (by decide) (by decide)) FJ (.aq rfl) rfl ?_;rintro v36 _ rfl;refine St.bB ?_;exact St.bg _
  refine an.cc (λe=>[(29,e 2),(36,e 9)]) (λe=>[aD (cZ (e 2) (cR m0)),aD (bS (cG [[1,0,1,1,2,2,4],[6],[7,4,3],[3],[8,4,3]]) (e 9))]) (λc e d=> ?_) ?_
  ·refine St.dD ?_
   refine St.bm (P:=prog) 29 (e 2) (cR m0) rfl (St.bS (cG [[1,0,1,1,2,2,4],[6],[7,4,3],[3],[8,4,3]]) (e 9) (λy hy=>?_));obtain⟨z,A⟩:=hy;rw[z];refine St.ee (Ev.build (au.gn rfl rfl rfl rfl) (λw=>sR rfl rfl w)) (St.fF (fI Qs (sZ (⟨[115],y,2,0,m0⟩:cK))) [aI y,cu m0] (λρ h=>⟨(⟨[115],y,2,0,m0⟩:cK),rfl,by show(⟨_,bE y,_,_,cx m0⟩:kM)=_;rw[A,hm0],⟨(show nY [115] by decide),(show aZ 2 by unfold aZ;decide),(show aZ 0 by unfold aZ;decide),amJ⟩,h⟩) ?_);exact St.bg _
  refine an.c0 (λc e d=> ?_) ?_
  ·refine St.aM ?_
   refine go ?_;refine St.fact (cZ v26 v26) (λ_ _ _=>rfl) ?_;exact St.bg _
  refine an.cc (λe=>[(38,e 11)]) (λe=>[aD (cZ (e 11) v26)]) (λc e d=> ?_) ?_
  ·refine St.bB ?_
   refine St.bm (P:=prog) 38 (e 11) v26 rfl (St.ee (Ev.cI (k:=1) (.mk rfl) (.mk rfl) lx jy zE (by simp)) ?_);refine St.fact (cZ (eL v26 cz.size 1 0) (eL v26 cz.size 1 0)) (λ_ _ _=>rfl) ?_;exact St.bg _
  refine an.cc (λe=>[(39,e 12)]) (λe=>[aD (cZ (e 12) (eL v26 cz.size 1 0))]) (λc e d=> ?_) ?_
  ·refine St.bB ?_
   refine St.bm (P:=prog) 39 (e 12) (eL v26 cz.size 1 0) rfl (St.ee (Ev.iD (.mk rfl) (show [m0,m1,m2,m3,m4,m5][1]?=some m1 from rfl) sL trivial jy gH.eq) (St.fact (cZ (cR m1) (cR m1)) (λ_ _ _=>rfl) ?_));exact St.bg _
  refine an.bi ?_ bQ dQ ec;refine an.bi ?_ bQ dQ ec;refine an.bi ?_ bQ dQ ec;refine an.bi ?_ bQ dQ ec;refine an.bi ?_ bQ dQ ec;refine an.bw ?_ jG fT kh (λ_=>(.BM rfl rfl rfl rfl rfl));refine an.cc (λe=>[(46,e 19)]) (λe=>[aD (fW aJ [[1,0,1,1,3,2,4],[7,4,2],[3],[10,4,2],[9,4,2]] (e 19))]) (λc e d=> ?_) ?_
  ·refine St.bB ?_
   refine St.ak (gZ (e 19) [[1,0,1,1,3,2,4],[7,4,2],[3],[10,4,2],[9,4,2]] (by decide) (by decide)) FJ (.aq rfl) rfl ?_;rintro v47 _ rfl;refine St.bB ?_;exact St.bg _
  refine an.cc (λe=>[(40,e 13),(47,e 20)]) (λe=>[aD (cZ (e 13) (cR m1)),aD (bS (cG [[1,0,1,1,3,2,4],[7,4,2],[3],[10,4,2],[9,4,2]]) (e 20))]) (λc e d=> ?_) ?_
  ·refine St.dD ?_
   refine St.bm (P:=prog) 40 (e 13) (cR m1) rfl (St.bS (cG [[1,0,1,1,3,2,4],[7,4,2],[3],[10,4,2],[9,4,2]]) (e 20) (λy hy=>?_));obtain⟨z,A⟩:=hy;rw[z];refine St.ee (Ev.build (au.BM rfl rfl rfl rfl rfl) (λw=>jr rfl rfl rfl w)) (St.fF (fI Qt (sZ (⟨[110,112],y,2,1,m1⟩:cK))) [aI y,cu m1] (λρ h=>⟨(⟨[110,112],y,2,1,m1⟩:cK),rfl,by show(⟨_,bE y,_,_,cx m1⟩:kM)=_;rw[A,hm1],⟨(show nY [110,112] by decide),(show aZ 2 by unfold aZ;decide),(show aZ 1 by unfold aZ;decide),amK⟩,h⟩) ?_);exact St.bg _
  refine an.c0 (λc e d=> ?_) ?_
  ·refine St.aM ?_
   refine go ?_;refine St.fact (cZ v26 v26) (λ_ _ _=>rfl) ?_;exact St.bg _
  refine an.cc (λe=>[(49,e 22)]) (λe=>[aD (cZ (e 22) v26)]) (λc e d=> ?_) ?_
  ·refine St.bB ?_
   refine St.bm (P:=prog) 49 (e 22) v26 rfl (St.ee (Ev.cI (k:=2) (.mk rfl) (.mk rfl) lx jy zE (by simp)) ?_);refine St.fact (cZ (eL v26 cz.size 2 0) (eL v26 cz.size 2 0)) (λ_ _ _=>rfl) ?_;exact St.bg _
  refine an.cc (λe=>[(50,e 23)]) (λe=>[aD (cZ (e 23) (eL v26 cz.size 2 0))]) (λc e d=> ?_) ?_
  ·refine St.bB ?_
   refine St.bm (P:=prog) 50 (e 23) (eL v26 cz.size 2 0) rfl (St.ee (Ev.iD (.mk rfl) (show [m0,m1,m2,m3,m4,m5][2]?=some m2 from rfl) sL trivial jy gH.eq) (St.fact (cZ (cR m2) (cR m2)) (λ_ _ _=>rfl) ?_));exact St.bg _
  refine an.bi ?_ bQ dQ ec;refine an.bi ?_ bQ dQ ec;refine an.bi ?_ bQ dQ ec;refine an.bi ?_ bQ dQ ec;refine an.bw ?_ jG fT kh (λ_=>(.gn rfl rfl rfl rfl));refine an.cc (λe=>[(56,e 29)]) (λe=>[aD (fW aJ [[1,0,1,1,3],[8,4,2],[3],[11,4,2]] (e 29))]) (λc e d=> ?_) ?_
  ·refine St.bB ?_
   refine St.ak (gZ (e 29) [[1,0,1,1,3],[8,4,2],[3],[11,4,2]] (by decide) (by decide)) FJ (.aq rfl) rfl ?_;rintro v57 _ rfl;refine St.bB ?_;exact St.bg _
  refine an.cc (λe=>[(51,e 24),(57,e 30)]) (λe=>[aD (cZ (e 24) (cR m2)),aD (bS (cG [[1,0,1,1,3],[8,4,2],[3],[11,4,2]]) (e 30))]) (λc e d=> ?_) ?_
  ·refine St.dD ?_
   refine St.bm (P:=prog) 51 (e 24) (cR m2) rfl (St.bS (cG [[1,0,1,1,3],[8,4,2],[3],[11,4,2]]) (e 30) (λy hy=>?_));obtain⟨z,A⟩:=hy;rw[z];refine St.ee (Ev.build (au.gn rfl rfl rfl rfl) (λw=>sR rfl rfl w)) (St.fF (fI Qu (sZ (⟨[118,112,45,105,118],y,1,0,m2⟩:cK))) [aI y,cu m2] (λρ h=>⟨(⟨[118,112,45,105,118],y,1,0,m2⟩:cK),rfl,by show(⟨_,bE y,_,_,cx m2⟩:kM)=_;rw[A,hm2],⟨(show nY [118,112,45,105,118] by decide),(show aZ 1 by unfold aZ;decide),(show aZ 0 by unfold aZ;decide),amL⟩,h⟩) ?_);exact St.bg _
  refine an.c0 (λc e d=> ?_) ?_
  ·refine St.aM ?_
   refine go ?_;refine St.fact (cZ v26 v26) (λ_ _ _=>rfl) ?_;exact St.bg _
  refine an.cc (λe=>[(59,e 32)]) (λe=>[aD (cZ (e 32) v26)]) (λc e d=> ?_) ?_
  ·refine St.bB ?_
   refine St.bm (P:=prog) 59 (e 32) v26 rfl (St.ee (Ev.cI (k:=3) (.mk rfl) (.mk rfl) lx jy zE (by simp)) ?_);refine St.fact (cZ (eL v26 cz.size 3 0) (eL v26 cz.size 3 0)) (λ_ _ _=>rfl) ?_;exact St.bg _
  refine an.cc (λe=>[(60,e 33)]) (λe=>[aD (cZ (e 33) (eL v26 cz.size 3 0))]) (λc e d=> ?_) ?_
  ·refine St.bB ?_
   refine St.bm (P:=prog) 60 (e 33) (eL v26 cz.size 3 0) rfl (St.ee (Ev.iD (.mk rfl) (show [m0,m1,m2,m3,m4,m5][3]?=some m3 from rfl) sL trivial jy gH.eq) (St.fact (cZ (cR m3) (cR m3)) (λ_ _ _=>rfl) ?_));exact St.bg _
  refine an.bi ?_ bQ dQ ec;refine an.bi ?_ bQ dQ ec;refine an.bi ?_ bQ dQ ec;refine an.bi ?_ bQ dQ ec;refine an.bi ?_ bQ dQ ec;refine an.bw ?_ jG fT kh (λ_=>(.BM rfl rfl rfl rfl rfl));refine an.cc (λe=>[(67,e 40)]) (λe=>[aD (fW aJ [[1,0,1,1,3,2,4],[8,4,2],[3],[12,4,2],[7]] (e 40))]) (λc e d=> ?_) ?_
  ·refine St.bB ?_
   refine St.ak (gZ (e 40) [[1,0,1,1,3,2,4],[8,4,2],[3],[12,4,2],[7]] (by decide) (by decide)) FJ (.aq rfl) rfl ?_;rintro v68 _ rfl;refine St.bB ?_;exact St.bg _
  refine an.cc (λe=>[(61,e 34),(68,e 41)]) (λe=>[aD (cZ (e 34) (cR m3)),aD (bS (cG [[1,0,1,1,3,2,4],[8,4,2],[3],[12,4,2],[7]]) (e 41))]) (λc e d=> ?_) ?_
  ·refine St.dD ?_
   refine St.bm (P:=prog) 61 (e 34) (cR m3) rfl (St.bS (cG [[1,0,1,1,3,2,4],[8,4,2],[3],[12,4,2],[7]]) (e 41) (λy hy=>?_));obtain⟨z,A⟩:=hy;rw[z];refine St.ee (Ev.build (au.BM rfl rfl rfl rfl rfl) (λw=>jr rfl rfl rfl w)) (St.fF (fI Qv (sZ (⟨[118,112,45,116,118],y,2,2,m3⟩:cK))) [aI y,cu m3] (λρ h=>⟨(⟨[118,112,45,116,118],y,2,2,m3⟩:cK),rfl,by show(⟨_,bE y,_,_,cx m3⟩:kM)=_;rw[A,hm3],⟨(show nY [118,112,45,116,118] by decide),(show aZ 2 by unfold aZ;decide),(show aZ 2 by unfold aZ;decide),amM⟩,h⟩) ?_);exact St.bg _
  refine an.c0 (λc e d=> ?_) ?_
  ·refine St.aM ?_
   refine go ?_;refine St.fact (cZ v26 v26) (λ_ _ _=>rfl) ?_;exact St.bg _
  refine an.cc (λe=>[(70,e 43)]) (λe=>[aD (cZ (e 43) v26)]) (λc e d=> ?_) ?_
  ·refine St.bB ?_
   refine St.bm (P:=prog) 70 (e 43) v26 rfl (St.ee (Ev.cI (k:=4) (.mk rfl) (.mk rfl) lx jy zE (by simp)) ?_);refine St.fact (cZ (eL v26 cz.size 4 0) (eL v26 cz.size 4 0)) (λ_ _ _=>rfl) ?_;exact St.bg _
  refine an.cc (λe=>[(71,e 44)]) (λe=>[aD (cZ (e 44) (eL v26 cz.size 4 0))]) (λc e d=> ?_) ?_
  ·refine St.bB ?_
   refine St.bm (P:=prog) 71 (e 44) (eL v26 cz.size 4 0) rfl (St.ee (Ev.iD (.mk rfl) (show [m0,m1,m2,m3,m4,m5][4]?=some m4 from rfl) sL trivial jy gH.eq) (St.fact (cZ (cR m4) (cR m4)) (λ_ _ _=>rfl) ?_));exact St.bg _
  refine an.bi ?_ bQ dQ ec;refine an.bi ?_ bQ dQ ec;refine an.bi ?_ bQ dQ ec;refine an.bi ?_ bQ dQ ec;refine an.bi ?_ bQ dQ ec;refine an.bw ?_ jG fT kh (λ_=>(.BM rfl rfl rfl rfl rfl));refine an.cc (λe=>[(78,e 51)]) (λe=>[aD (fW aJ [[1,0,1,1,3,2,4],[8,4,2],[3],[13],[8,4,2]] (e 51))]) (λc e d=> ?_) ?_
  ·refine St.bB ?_
   refine St.ak (gZ (e 51) [[1,0,1,1,3,2,4],[8,4,2],[3],[13],[8,4,2]] (by decide) (by decide)) FJ (.aq rfl) rfl ?_;rintro v79 _ rfl;refine St.bB ?_;exact St.bg _
  refine an.cc (λe=>[(72,e 45),(79,e 52)]) (λe=>[aD (cZ (e 45) (cR m4)),aD (bS (cG [[1,0,1,1,3,2,4],[8,4,2],[3],[13],[8,4,2]]) (e 52))]) (λc e d=> ?_) ?_
  ·refine St.dD ?_
   refine St.bm (P:=prog) 72 (e 45) (cR m4) rfl (St.bS (cG [[1,0,1,1,3,2,4],[8,4,2],[3],[13],[8,4,2]]) (e 52) (λy hy=>?_));obtain⟨z,A⟩:=hy;rw[z];refine St.ee (Ev.build (au.BM rfl rfl rfl rfl rfl) (λw=>jr rfl rfl rfl w)) (St.fF (fI Qw (sZ (⟨[118,112,45,110,111,116],y,2,3,m4⟩:cK))) [aI y,cu m4] (λρ h=>⟨(⟨[118,112,45,110,111,116],y,2,3,m4⟩:cK),rfl,by show(⟨_,bE y,_,_,cx m4⟩:kM)=_;rw[A,hm4],⟨(show nY [118,112,45,110,111,116] by decide),(show aZ 2 by unfold aZ;decide),(show aZ 3 by unfold aZ;decide),amN⟩,h⟩) ?_);exact St.bg _
  refine an.c0 (λc e d=> ?_) ?_
  ·refine St.aM ?_
   refine go ?_;refine St.fact (cZ v26 v26) (λ_ _ _=>rfl) ?_;exact St.bg _
  refine an.cc (λe=>[(81,e 54)]) (λe=>[aD (cZ (e 54) v26)]) (λc e d=> ?_) ?_
  ·refine St.bB ?_
   refine St.bm (P:=prog) 81 (e 54) v26 rfl (St.ee (Ev.cI (k:=5) (.mk rfl) (.mk rfl) lx jy zE (by simp)) ?_);refine St.fact (cZ (eL v26 cz.size 5 0) (eL v26 cz.size 5 0)) (λ_ _ _=>rfl) ?_;exact St.bg _
  refine an.cc (λe=>[(82,e 55)]) (λe=>[aD (cZ (e 55) (eL v26 cz.size 5 0))]) (λc e d=> ?_) ?_
  ·refine St.bB ?_
   refine St.bm (P:=prog) 82 (e 55) (eL v26 cz.size 5 0) rfl (St.ee (Ev.iD (.mk rfl) (show [m0,m1,m2,m3,m4,m5][5]?=some m5 from rfl) sL trivial jy gH.eq) (St.fact (cZ (cR m5) (cR m5)) (λ_ _ _=>rfl) ?_));exact St.bg _
  refine an.bi ?_ bQ dQ ec;refine an.bi ?_ bQ dQ ec;refine an.bi ?_ bQ dQ ec;refine an.bi ?_ bQ dQ ec;refine an.bi ?_ bQ dQ ec;refine an.bi ?_ bQ dQ ec;refine an.bw ?_ jG fT kh (λ_=>(.Z2 rfl rfl rfl rfl rfl rfl));refine an.cc (λe=>[(90,e 63)]) (λe=>[aD (fW aJ [[1,0,1,1,3,2,4,3,5],[7,4,2],[5],[7],[14],[7]] (e 63))]) (λc e d=> ?_) ?_
  ·refine St.bB ?_
   refine St.ak (gZ (e 63) [[1,0,1,1,3,2,4,3,5],[7,4,2],[5],[7],[14],[7]] (by decide) (by decide)) FJ (.aq rfl) rfl ?_;rintro v91 _ rfl;refine St.bB ?_;exact St.bg _
  refine an.cc (λe=>[(83,e 56),(91,e 64)]) (λe=>[aD (cZ (e 56) (cR m5)),aD (bS (cG [[1,0,1,1,3,2,4,3,5],[7,4,2],[5],[7],[14],[7]]) (e 64))]) (λc e d=> ?_) ?_
  ·refine St.dD ?_
   refine St.bm (P:=prog) 83 (e 56) (cR m5) rfl (St.bS (cG [[1,0,1,1,3,2,4,3,5],[7,4,2],[5],[7],[14],[7]]) (e 64) (λy hy=>?_));obtain⟨z,A⟩:=hy;rw[z];refine St.ee (Ev.build (au.BM rfl rfl rfl rfl rfl) (λw=>jr rfl rfl rfl w)) (St.fF (fI Qx (sZ (⟨[110,112,45,97,110,100],y,3,4,m5⟩:cK))) [aI y,cu m5] (λρ h=>⟨(⟨[110,112,45,97,110,100],y,3,4,m5⟩:cK),rfl,by show(⟨_,bE y,_,_,cx m5⟩:kM)=_;rw[A,hm5],⟨(show nY [110,112,45,97,110,100] by decide),(show aZ 3 by unfold aZ;decide),(show aZ 4 by unfold aZ;decide),amO⟩,h⟩) ?_);exact St.bg _
  refine an.cc (λe=>[(37,e 10),(48,e 21),(58,e 31),(69,e 42),(80,e 53),(92,e 65)]) (λe=>[aD (fI Qs (e 10)),aD (fI Qt (e 21)),aD (fI Qu (e 31)),aD (fI Qv (e 42)),aD (fI Qw (e 53)),aD (fI Qx (e 65))]) (λc e d=> ?_) ?_
  ·refine St.NZ ?_
   refine St.fI Qs (e 10) (λB amT=>?_);obtain⟨aeY,aeX,aeZ⟩:=amT;rw[aeY];refine St.fI Qt (e 21) (λC amU=>?_);obtain⟨ae1,ae0,ae2⟩:=amU;rw[ae1];refine St.fI Qu (e 31) (λD amV=>?_);obtain⟨ae4,ae3,ae5⟩:=amV;rw[ae4];refine St.fI Qv (e 42) (λE amW=>?_);obtain⟨ae7,ae6,ae8⟩:=amW;rw[ae7];refine St.fI Qw (e 53) (λF amX=>?_);obtain⟨afA,ae9,afB⟩:=amX;rw[afA];refine St.fI Qx (e 65) (λG amY=>?_);obtain⟨afD,afC,afE⟩:=amY;rw[afD];refine St.iu rfl (.Z2 rfl rfl rfl rfl rfl rfl) BX oV Zt rfl rfl (by simp[Value.cells,J.cells_one B.graph.nv.2,J.cells_one B.fB.type.av.2,J.cells_one B.fB.av.2,J.cells_one C.graph.nv.2,J.cells_one C.fB.type.av.2,J.cells_one C.fB.av.2,J.cells_one D.graph.nv.2,J.cells_one D.fB.type.av.2,J.cells_one D.fB.av.2,J.cells_one E.graph.nv.2,J.cells_one E.fB.type.av.2,J.cells_one E.fB.av.2,J.cells_one F.graph.nv.2,J.cells_one F.fB.type.av.2,J.cells_one F.fB.av.2,J.cells_one G.graph.nv.2,J.cells_one G.fB.type.av.2,J.cells_one G.fB.av.2]) rfl rfl (λK=> ?_);refine St.bU (tO K 6 6) bZ [B,C,D,E,F,G] rfl rfl (all_cons aeZ (all_cons ae2 (all_cons ae5 (all_cons ae8 (all_cons afB (all_cons afE (all_nil))))))) (K9 bb [B,C,D,E,F,G] [bb B,bb C,bb D,bb E,bb F,bb G] rfl (St.fF (pa uu (tO K 6 6)) [sl bZ (tO K 6 6) [B,C,D,E,F,G],aL bb [B,C,D,E,F,G]] (λρ h=>⟨rfl,[B,C,D,E,F,G],by simp only[List.map_cons,List.map_nil,aeX,ae0,ae3,ae6,ae9,afC];rfl,h (sl bZ (tO K 6 6) [B,C,D,E,F,G]) (by simp),h (aL bb [B,C,D,E,F,G]) (by simp)⟩) ?_));exact St.bg _
  exact an.nil
 refine St.bB (St.pa uu (e 66) (λl amZ=>?_));obtain⟨M,afF⟩:=amZ
 generalize e 66=rv at M⊢
 refine St.e7 100 9 (St.aP (.slice none 0 0) (show _=([]:List fq).length from rfl) (show _=rows cy []from rfl) (St.dN dz ?_))
 obtain⟨X0,L⟩:∃X:List fq,X=[]:=⟨_,rfl⟩
 rw[←L]
 have R:∀x∈X0,cy.wf x:=by rw[L];exact λx hx=>by cases hx
 have akZ:X0.map jg=rm.take 0:=by rw[L];rfl
 have ak1:Value.oneCell' (.slice none 0 0)=true:=rfl
 have ak0:X0.length=0:=by rw[L];rfl
 refine go ?_;refine St.cP (.mk rfl) (.mk rfl) ahV M (by rfl) ?_;refine g4 ?_;refine St.ee (Ev.func (.aq rfl)) (g6 ?_);refine St.ak (lj [97,108,108] [105,102] false (by decide) (by decide)) Xr (.eI rfl rfl rfl) rfl ?_;rintro v97 _ rfl;refine St.bB (St.bi [10,4,1] (λb98=> ?_) bQ dQ ec);refine St.bi [4] (λb99=> ?_) bQ dQ ec;refine St.bw [tO b98 3 3,tO b99 1 1] [[10,4,1],[4]] (λaiD=> ?_) jG fT kh (.aX rfl rfl);refine St.ej (eM a tv.1 (tO b 5 5) rv (.slice none 0 0) (.slice none 0 0) X0 [101,118,101,114,121] 1 v97 (tO aiD 2 2) (nE [97,108,108] [105,102] false) [[10,4,1],[4]] (by decide) (by unfold aZ;decide) ak1 zE R (by decide) (by decide)) oL (.mk rfl) (.gn rfl rfl rfl rfl) rfl ?_;rintro aoM _ ⟨w1,x1,rfl,alF,am9,anA,rfl⟩;refine St.kG ?_;obtain⟨X1,hX1,S,alC,alD⟩:=fN R akZ ak0 am9 anA;rw[←hX1];refine St.BQ (BR n o p q r a b tv j rv l i g f m w1 X1) (g5 ?_);refine St.ak (lj [115,111,109,101] [97,110,100] false (by decide) (by decide)) Xr (.eI rfl rfl rfl) rfl ?_;rintro aoN _ rfl;refine St.bB (St.bi [10,4,1] (λaaP=> ?_) bQ dQ ec);refine St.bi [4] (λaiE=> ?_) bQ dQ ec;refine St.bw [tO aaP 3 3,tO aiE 1 1] [[10,4,1],[4]] (λaiF=> ?_) jG fT kh (.aX rfl rfl);refine St.ej (eM a tv.1 (tO b 5 5) rv (.slice none 0 0) w1 X1 [97] 0 aoN (tO aiF 2 2) (nE [115,111,109,101] [97,110,100] false) [[10,4,1],[4]] (by decide) (by unfold aZ;decide) alF zE S (by decide) (by decide)) oL (.mk rfl) (.gn rfl rfl rfl rfl) rfl ?_;rintro v107 _ ⟨w2,x2,rfl,alK,anB,anC,rfl⟩;refine St.kG ?_;obtain⟨X2,hX2,T,alI,alJ⟩:=fN S alC alD anB anC;rw[←hX2];refine St.BQ (BR n o p q r a b tv j rv l i g f m w2 X2) (g5 ?_);refine St.ak (lj [115,111,109,101] [97,110,100] true (by decide) (by decide)) Xr (.eI rfl rfl rfl) rfl ?_;rintro v109 _ rfl;refine St.bB (St.bi [10] (λaaQ=> ?_) bQ dQ ec);refine St.bw [tO aaQ 1 1] [[10]] (λaiG=> ?_) jG fT kh (.aq rfl);refine St.ej (eM a tv.1 (tO b 5 5) rv (.slice none 0 0) w2 X2 [110,111] 2 v109 (tO aiG 1 1) (nE [115,111,109,101] [97,110,100] true) [[10]] (by decide) (by unfold aZ;decide) alK zE T (by decide) (by decide)) oL (.mk rfl) (.gn rfl rfl rfl rfl) rfl ?_;rintro aqO _ ⟨w3,x3,rfl,alN,anD,anE,rfl⟩;refine St.kG ?_;obtain⟨X3,hX3,U,alL,alM⟩:=fN T alI alJ anD anE;rw[←hX3];refine St.BQ (BR n o p q r a b tv j rv l i g f m w3 X3) (g6 ?_);refine St.ak (eP [100,111,103] (by decide) (aV f) (ao (.mk [101] []) (.mk [116] []))) oM (.aX rfl rfl) rfl ?_;rintro aoO _ rfl;refine St.bB (St.bi [9,4,1] (λaiH=> ?_) bQ dQ ec);refine St.bi [4] (λaiI=> ?_) bQ dQ ec;refine St.bw [tO aiH 3 3,tO aiI 1 1] [[9,4,1],[4]] (λaaR=> ?_) jG fT kh (.aX rfl rfl);refine St.ej (eM a tv.1 (tO b 5 5) rv (.slice none 0 0) w3 X3 [100,111,103] 0 aoO (tO aaR 2 2) (bf [100,111,103] (ao (.mk [101] []) (.mk [116] []))) [[9,4,1],[4]] (by decide) (by unfold aZ;decide) alN zE U (by decide) (by decide)) oL (.mk rfl) (.gn rfl rfl rfl rfl) rfl ?_;rintro aqQ _ ⟨w4,x4,rfl,alQ,anF,anG,rfl⟩;refine St.kG ?_;obtain⟨X4,hX4,V,alO,alP⟩:=fN U alL alM anF anG;rw[←hX4];refine St.BQ (BR n o p q r a b tv j rv l i g f m w4 X4) (g6 ?_);refine St.ak (eP [100,111,103] (by decide) (aV f) (ao (.mk [101] []) (.mk [116] []))) oM (.aX rfl rfl) rfl ?_;rintro aoQ _ rfl;refine St.bB (St.bi [9,4,1] (λaiJ=> ?_) bQ dQ ec);refine St.bi [5] (λaaS=> ?_) bQ dQ ec;refine St.bw [tO aiJ 3 3,tO aaS 1 1] [[9,4,1],[5]] (λaiK=> ?_) jG fT kh (.aX rfl rfl);refine St.ej (eM a tv.1 (tO b 5 5) rv (.slice none 0 0) w4 X4 [100,111,103,115] 0 aoQ (tO aiK 2 2) (bf [100,111,103] (ao (.mk [101] []) (.mk [116] []))) [[9,4,1],[5]] (by decide) (by unfold aZ;decide) alQ zE V (by decide) (by decide)) oL (.mk rfl) (.gn rfl rfl rfl rfl) rfl ?_;rintro aqS _ ⟨w5,x5,rfl,alT,anH,anI,rfl⟩;refine St.kG ?_;obtain⟨X5,hX5,W,alR,alS⟩:=fN V alO alP anH anI;rw[←hX5];refine St.BQ (BR n o p q r a b tv j rv l i g f m w5 X5) (g6 ?_);refine St.ak (eP [99,97,116] (by decide) (aV f) (ao (.mk [101] []) (.mk [116] []))) oM (.aX rfl rfl) rfl ?_;rintro aoR _ rfl;refine St.bB (St.bi [9,4,1] (λaiM=> ?_) bQ dQ ec);refine St.bi [4] (λaiN=> ?_) bQ dQ ec;refine St.bw [tO aiM 3 3,tO aiN 1 1] [[9,4,1],[4]] (λaiO=> ?_) jG fT kh (.aX rfl rfl);refine St.ej (eM a tv.1 (tO b 5 5) rv (.slice none 0 0) w5 X5 [99,97,116] 0 aoR (tO aiO 2 2) (bf [99,97,116] (ao (.mk [101] []) (.mk [116] []))) [[9,4,1],[4]] (by decide) (by unfold aZ;decide) alT zE W (by decide) (by decide)) oL (.mk rfl) (.gn rfl rfl rfl rfl) rfl ?_;rintro aqT _ ⟨w6,x6,rfl,alW,anJ,anK,rfl⟩;refine St.kG ?_;obtain⟨X6,hX6,Y,alU,alV⟩:=fN W alR alS anJ anK;rw[←hX6];refine St.BQ (BR n o p q r a b tv j rv l i g f m w6 X6) (g6 ?_);refine St.ak (eP [99,97,116] (by decide) (aV f) (ao (.mk [101] []) (.mk [116] []))) oM (.aX rfl rfl) rfl ?_;rintro aoS _ rfl;refine St.bB (St.bi [9,4,1] (λaiP=> ?_) bQ dQ ec);refine St.bi [5] (λaiQ=> ?_) bQ dQ ec;refine St.bw [tO aiP 3 3,tO aiQ 1 1] [[9,4,1],[5]] (λDQ=> ?_) jG fT kh (.aX rfl rfl);refine St.ej (eM a tv.1 (tO b 5 5) rv (.slice none 0 0) w6 X6 [99,97,116,115] 0 aoS (tO DQ 2 2) (bf [99,97,116] (ao (.mk [101] []) (.mk [116] []))) [[9,4,1],[5]] (by decide) (by unfold aZ;decide) alW zE Y (by decide) (by decide)) oL (.mk rfl) (.gn rfl rfl rfl rfl) rfl ?_;rintro aqV _ ⟨w7,x7,rfl,alZ,anL,anM,rfl⟩;refine St.kG ?_;obtain⟨X7,hX7,Z,alX,alY⟩:=fN Y alU alV anL anM;rw[←hX7];refine St.BQ (BR n o p q r a b tv j rv l i g f m w7 X7) (g6 ?_);refine St.ak (eP [102,105,115,104] (by decide) (aV f) (ao (.mk [101] []) (.mk [116] []))) oM (.aX rfl rfl) rfl ?_;rintro v143 _ rfl;refine St.bB (St.bi [9,4,1] (λaiR=> ?_) bQ dQ ec);refine St.bi [4] (λaiS=> ?_) bQ dQ ec;refine St.bw [tO aiR 3 3,tO aiS 1 1] [[9,4,1],[4]] (λaiT=> ?_) jG fT kh (.aX rfl rfl);refine St.ej (eM a tv.1 (tO b 5 5) rv (.slice none 0 0) w7 X7 [102,105,115,104] 1 v143 (tO aiT 2 2) (bf [102,105,115,104] (ao (.mk [101] []) (.mk [116] []))) [[9,4,1],[4]] (by decide) (by unfold aZ;decide) alZ zE Z (by decide) (by decide)) oL (.mk rfl) (.gn rfl rfl rfl rfl) rfl ?_;rintro aqW _ ⟨w8,x8,rfl,al2,anN,anO,rfl⟩;refine St.kG ?_;obtain⟨X8,hX8,ad9,al0,al1⟩:=fN Z alX alY anN anO;rw[←hX8];refine St.BQ (BR n o p q r a b tv j rv l i g f m w8 X8) (g6 ?_);refine St.ak (eP [102,105,115,104] (by decide) (aV f) (ao (.mk [101] []) (.mk [116] []))) oM (.aX rfl rfl) rfl ?_;rintro Ru _ rfl;refine St.bB (St.bi [9,4,1] (λaiU=> ?_) bQ dQ ec);refine St.bi [5] (λaiV=> ?_) bQ dQ ec;refine St.bw [tO aiU 3 3,tO aiV 1 1] [[9,4,1],[5]] (λaiW=> ?_) jG fT kh (.aX rfl rfl);refine St.ej (eM a tv.1 (tO b 5 5) rv (.slice none 0 0) w8 X8 [102,105,115,104] 2 Ru (tO aiW 2 2) (bf [102,105,115,104] (ao (.mk [101] []) (.mk [116] []))) [[9,4,1],[5]] (by decide) (by unfold aZ;decide) al2 zE ad9 (by decide) (by decide)) oL (.mk rfl) (.gn rfl rfl rfl rfl) rfl ?_;rintro v154 _ ⟨w9,x9,rfl,al5,anP,anQ,rfl⟩;refine St.kG ?_;obtain⟨X9,hX9,aeA,al3,al4⟩:=fN ad9 al0 al1 anP anQ;rw[←hX9];refine St.BQ (BR n o p q r a b tv j rv l i g f m w9 X9) (g6 ?_);refine St.ak (eP [98,97,114,107] (by decide) (aV f) (ao (.mk [101] []) (.mk [116] []))) oM (.aX rfl rfl) rfl ?_;rintro v157 _ rfl;refine St.bB (St.bi [11,4,1] (λaiX=> ?_) bQ dQ ec);refine St.bi [4] (λaiY=> ?_) bQ dQ ec;refine St.bw [tO aiX 3 3,tO aiY 1 1] [[11,4,1],[4]] (λaaU=> ?_) jG fT kh (.aX rfl rfl);refine St.ej (eM a tv.1 (tO b 5 5) rv (.slice none 0 0) w9 X9 [98,97,114,107,115] 0 v157 (tO aaU 2 2) (bf [98,97,114,107] (ao (.mk [101] []) (.mk [116] []))) [[11,4,1],[4]] (by decide) (by unfold aZ;decide) al5 zE aeA (by decide) (by decide)) oL (.mk rfl) (.gn rfl rfl rfl rfl) rfl ?_;rintro VP _ ⟨w10,x10,rfl,adC,afS,afT,rfl⟩;refine St.kG ?_;obtain⟨X10,ak2,W5,adA,adB⟩:=fN aeA al3 al4 afS afT;rw[←ak2];refine St.BQ (BR n o p q r a b tv j rv l i g f m w10 X10) (g6 ?_);refine St.ak (eP [98,97,114,107] (by decide) (aV f) (ao (.mk [101] []) (.mk [116] []))) oM (.aX rfl rfl) rfl ?_;rintro v164 _ rfl;refine St.bB (St.bi [11,4,1] (λaiZ=> ?_) bQ dQ ec);refine St.bi [5] (λai0=> ?_) bQ dQ ec;refine St.bw [tO aiZ 3 3,tO ai0 1 1] [[11,4,1],[5]] (λLe=> ?_) jG fT kh (.aX rfl rfl);refine St.ej (eM a tv.1 (tO b 5 5) rv (.slice none 0 0) w10 X10 [98,97,114,107] 0 v164 (tO Le 2 2) (bf [98,97,114,107] (ao (.mk [101] []) (.mk [116] []))) [[11,4,1],[5]] (by decide) (by unfold aZ;decide) adC zE W5 (by decide) (by decide)) oL (.mk rfl) (.gn rfl rfl rfl rfl) rfl ?_;rintro v168 _ ⟨w11,x11,rfl,adF,afU,afV,rfl⟩;refine St.kG ?_;obtain⟨X11,ak3,W6,adD,adE⟩:=fN W5 adA adB afU afV;rw[←ak3];refine St.BQ (BR n o p q r a b tv j rv l i g f m w11 X11) (g6 ?_);refine St.ak (eP [115,108,101,101,112] (by decide) (aV f) (ao (.mk [101] []) (.mk [116] []))) oM (.aX rfl rfl) rfl ?_;rintro v171 _ rfl;refine St.bB (St.bi [11,4,1] (λNd=> ?_) bQ dQ ec);refine St.bi [4] (λai1=> ?_) bQ dQ ec;refine St.bw [tO Nd 3 3,tO ai1 1 1] [[11,4,1],[4]] (λai2=> ?_) jG fT kh (.aX rfl rfl);refine St.ej (eM a tv.1 (tO b 5 5) rv (.slice none 0 0) w11 X11 [115,108,101,101,112,115] 0 v171 (tO ai2 2 2) (bf [115,108,101,101,112] (ao (.mk [101] []) (.mk [116] []))) [[11,4,1],[4]] (by decide) (by unfold aZ;decide) adF zE W6 (by decide) (by decide)) oL (.mk rfl) (.gn rfl rfl rfl rfl) rfl ?_;rintro v175 _ ⟨w12,x12,rfl,adI,afW,afX,rfl⟩;refine St.kG ?_;obtain⟨X12,ak4,W7,adG,adH⟩:=fN W6 adD adE afW afX;rw[←ak4];refine St.BQ (BR n o p q r a b tv j rv l i g f m w12 X12) (g6 ?_);refine St.ak (eP [115,108,101,101,112] (by decide) (aV f) (ao (.mk [101] []) (.mk [116] []))) oM (.aX rfl rfl) rfl ?_;rintro aoV _ rfl;refine St.bB (St.bi [11,4,1] (λai3=> ?_) bQ dQ ec);refine St.bi [5] (λai4=> ?_) bQ dQ ec;refine St.bw [tO ai3 3 3,tO ai4 1 1] [[11,4,1],[5]] (λai5=> ?_) jG fT kh (.aX rfl rfl);refine St.ej (eM a tv.1 (tO b 5 5) rv (.slice none 0 0) w12 X12 [115,108,101,101,112] 0 aoV (tO ai5 2 2) (bf [115,108,101,101,112] (ao (.mk [101] []) (.mk [116] []))) [[11,4,1],[5]] (by decide) (by unfold aZ;decide) adI zE W7 (by decide) (by decide)) oL (.mk rfl) (.gn rfl rfl rfl rfl) rfl ?_;rintro v182 _ ⟨w13,x13,rfl,adL,afY,afZ,rfl⟩;refine St.kG ?_;obtain⟨X13,ak5,W8,adJ,adK⟩:=fN W7 adG adH afY afZ;rw[←ak5];refine St.BQ (BR n o p q r a b tv j rv l i g f m w13 X13) (g6 ?_);refine St.ak (eP [99,104,97,115,101] (by decide) (aV m) (ao (.mk [101] []) (ao (.mk [101] []) (.mk [116] [])))) oM (.aX rfl rfl) rfl ?_;rintro aoW _ rfl;refine St.bB (St.bi [12,4,1] (λai6=> ?_) bQ dQ ec);refine St.bi [4] (λai7=> ?_) bQ dQ ec;refine St.bw [tO ai6 3 3,tO ai7 1 1] [[12,4,1],[4]] (λai8=> ?_) jG fT kh (.aX rfl rfl);refine St.ej (eM a tv.1 (tO b 5 5) rv (.slice none 0 0) w13 X13 [99,104,97,115,101,115] 0 aoW (tO ai8 2 2) (bf [99,104,97,115,101] (ao (.mk [101] []) (ao (.mk [101] []) (.mk [116] [])))) [[12,4,1],[4]] (by decide) (by unfold aZ;decide) adL zE W8 (by decide) (by decide)) oL (.mk rfl) (.gn rfl rfl rfl rfl) rfl ?_;rintro aqY _ ⟨w14,x14,rfl,adO,af1,af2,rfl⟩;refine St.kG ?_;obtain⟨X14,ak6,W9,adM,adN⟩:=fN W8 adJ adK af1 af2;rw[←ak6];refine St.BQ (BR n o p q r a b tv j rv l i g f m w14 X14) (g6 ?_);refine St.ak (eP [99,104,97,115,101] (by decide) (aV m) (ao (.mk [101] []) (ao (.mk [101] []) (.mk [116] [])))) oM (.aX rfl rfl) rfl ?_;rintro Rv _ rfl;refine St.bB (St.bi [12,4,1] (λai9=> ?_) bQ dQ ec);refine St.bi [5] (λajA=> ?_) bQ dQ ec;refine St.bw [tO ai9 3 3,tO ajA 1 1] [[12,4,1],[5]] (λajB=> ?_) jG fT kh (.aX rfl rfl);refine St.ej (eM a tv.1 (tO b 5 5) rv (.slice none 0 0) w14 X14 [99,104,97,115,101] 0 Rv (tO ajB 2 2) (bf [99,104,97,115,101] (ao (.mk [101] []) (ao (.mk [101] []) (.mk [116] [])))) [[12,4,1],[5]] (by decide) (by unfold aZ;decide) adO zE W9 (by decide) (by decide)) oL (.mk rfl) (.gn rfl rfl rfl rfl) rfl ?_;rintro v196 _ ⟨w15,x15,rfl,adR,af3,af4,rfl⟩;refine St.kG ?_;obtain⟨X15,ak7,WA,adP,adQ⟩:=fN W9 adM adN af3 af4;rw[←ak7];refine St.BQ (BR n o p q r a b tv j rv l i g f m w15 X15) (g6 ?_);refine St.ak (eP [115,101,101] (by decide) (aV m) (ao (.mk [101] []) (ao (.mk [101] []) (.mk [116] [])))) oM (.aX rfl rfl) rfl ?_;rintro aoX _ rfl;refine St.bB (St.bi [12,4,1] (λajC=> ?_) bQ dQ ec);refine St.bi [4] (λajD=> ?_) bQ dQ ec;refine St.bw [tO ajC 3 3,tO ajD 1 1] [[12,4,1],[4]] (λajE=> ?_) jG fT kh (.aX rfl rfl);refine St.ej (eM a tv.1 (tO b 5 5) rv (.slice none 0 0) w15 X15 [115,101,101,115] 1 aoX (tO ajE 2 2) (bf [115,101,101] (ao (.mk [101] []) (ao (.mk [101] []) (.mk [116] [])))) [[12,4,1],[4]] (by decide) (by unfold aZ;decide) adR zE WA (by decide) (by decide)) oL (.mk rfl) (.gn rfl rfl rfl rfl) rfl ?_;rintro v203 _ ⟨w16,x16,rfl,adU,af5,af6,rfl⟩;refine St.kG ?_;obtain⟨X16,ak8,WB,adS,adT⟩:=fN WA adP adQ af5 af6;rw[←ak8];refine St.BQ (BR n o p q r a b tv j rv l i g f m w16 X16) (g6 ?_);refine St.ak (eP [115,101,101] (by decide) (aV m) (ao (.mk [101] []) (ao (.mk [101] []) (.mk [116] [])))) oM (.aX rfl rfl) rfl ?_;rintro v206 _ rfl;refine St.bB (St.bi [12,4,1] (λajF=> ?_) bQ dQ ec);refine St.bi [5] (λajG=> ?_) bQ dQ ec;refine St.bw [tO ajF 3 3,tO ajG 1 1] [[12,4,1],[5]] (λajH=> ?_) jG fT kh (.aX rfl rfl);refine St.ej (eM a tv.1 (tO b 5 5) rv (.slice none 0 0) w16 X16 [115,101,101] 1 v206 (tO ajH 2 2) (bf [115,101,101] (ao (.mk [101] []) (ao (.mk [101] []) (.mk [116] [])))) [[12,4,1],[5]] (by decide) (by unfold aZ;decide) adU zE WB (by decide) (by decide)) oL (.mk rfl) (.gn rfl rfl rfl rfl) rfl ?_;rintro v210 _ ⟨w17,x17,rfl,adX,af7,af8,rfl⟩;refine St.kG ?_;obtain⟨X17,ak9,WC,adV,adW⟩:=fN WB adS adT af7 af8;rw[←ak9];refine St.BQ (BR n o p q r a b tv j rv l i g f m w17 X17) (g7 ?_);refine St.ak (fQ (aV g) (aV g) (.mk [116] []) (.mk [116] [])) qj (.aX rfl rfl) rfl ?_;rintro aoY _ rfl;refine St.bB (St.ak (eP [110,111,116] (by decide) aoY (ao (.mk [116] []) (.mk [116] []))) oM (.aX rfl rfl) rfl ?_);rintro aoZ _ rfl;refine St.bB (St.bi [13] (λajI=> ?_) bQ dQ ec);refine St.bw [tO ajI 1 1] [[13]] (λajJ=> ?_) jG fT kh (.aq rfl);refine St.ej (eM a tv.1 (tO b 5 5) rv (.slice none 0 0) w17 X17 [110,111,116] 0 aoZ (tO ajJ 1 1) (bf [110,111,116] (ao (.mk [116] []) (.mk [116] []))) [[13]] (by decide) (by unfold aZ;decide) adX zE WC (by decide) (by decide)) oL (.mk rfl) (.gn rfl rfl rfl rfl) rfl ?_;rintro v218 _ ⟨w18,x18,rfl,ad0,af9,agA,rfl⟩;refine St.kG ?_;obtain⟨X18,alA,WD,adY,adZ⟩:=fN WC adV adW af9 agA;rw[←alA];refine St.BQ (BR n o p q r a b tv j rv l i g f m w18 X18) (g3 ?_);refine St.Vd 9 219 [] (⟨219,[],λu=>cZ u (.func (.func 29) #[] #[tW a])⟩::⟨220,[],λu=>cZ u ((aV g))⟩::⟨221,[],λu=>cZ u ((aV g))⟩::⟨222,[],λu=>cZ u ((aV g))⟩::⟨223,[2,3],λu=>dL (ao (.mk [116] []) (.mk [116] [])) u⟩::⟨224,[1,4],λu=>dL (ao (.mk [116] []) (ao (.mk [116] []) (.mk [116] []))) u⟩::⟨225,[5],λu=>isTerm (bf [97,110,100] (ao (.mk [116] []) (ao (.mk [116] []) (.mk [116] [])))) u⟩::⟨226,[],λu=>fa aJ [14] u⟩::⟨227,[7],λu=>fW aJ [[14]] u⟩::[]) ((219,[])::(220,[])::(221,[])::(222,[])::(223,[2,3])::(224,[1,4])::(225,[5])::(226,[])::(227,[7])::[]) [0,6,8] rfl rfl mixed (by kernel_rfl) (by kernel_rfl) (by rfl) (λe=>[(219,e 0),(225,e 6),(227,e 8)]) (λe=>[aD (cZ (e 0) (.func (.func 29) #[] #[tW a])),aD (isTerm (bf [97,110,100] (ao (.mk [116] []) (ao (.mk [116] []) (.mk [116] [])))) (e 6)),aD (fW aJ [[14]] (e 8))]) (λ_=>rfl) (λ_=>rfl) ?_ (λe=> ?_)
 ·refine an.c0 (λc e d=> ?_) ?_
  ·refine St.aM ?_
   refine go ?_;refine St.fact (cZ (.func (.func 29) #[] #[tW a]) (.func (.func 29) #[] #[tW a])) (λ_ _ _=>rfl) ?_;exact St.bg _
  refine an.c0 (λc e d=> ?_) ?_
  ·refine St.aM ?_
   refine go ?_;refine St.fact (cZ ((aV g)) ((aV g))) (λ_ _ _=>rfl) ?_;exact St.bg _
  refine an.c0 (λc e d=> ?_) ?_
  ·refine St.aM ?_
   refine go ?_;refine St.fact (cZ ((aV g)) ((aV g))) (λ_ _ _=>rfl) ?_;exact St.bg _
  refine an.c0 (λc e d=> ?_) ?_
  ·refine St.aM ?_
   refine go ?_;refine St.fact (cZ ((aV g)) ((aV g))) (λ_ _ _=>rfl) ?_;exact St.bg _
  refine an.cc (λe=>[(221,e 2),(222,e 3)]) (λe=>[aD (cZ (e 2) ((aV g))),aD (cZ (e 3) ((aV g)))]) (λc e d=> ?_) ?_
  ·refine St.dD ?_
   refine St.bm (P:=prog) 221 (e 2) ((aV g)) rfl (St.bm (P:=prog) 222 (e 3) ((aV g)) rfl (St.ak (fQ (aV g) (aV g) (.mk [116] []) (.mk [116] [])) qj (.aX rfl rfl) rfl ?_));rintro aqZ _ rfl;refine St.bB ?_;exact St.bg _
  refine an.cc (λe=>[(220,e 1),(223,e 4)]) (λe=>[aD (cZ (e 1) ((aV g))),aD (dL (ao (.mk [116] []) (.mk [116] [])) (e 4))]) (λc e d=> ?_) ?_
  ·refine St.dD ?_
   refine St.bm (P:=prog) 220 (e 1) ((aV g)) rfl (St.ak (fQ (aV g) (e 4) (.mk [116] []) (ao (.mk [116] []) (.mk [116] []))) qj (.aX rfl rfl) rfl ?_);rintro aq0 _ rfl;refine St.bB ?_;exact St.bg _
  refine an.cc (λe=>[(224,e 5)]) (λe=>[aD (dL (ao (.mk [116] []) (ao (.mk [116] []) (.mk [116] []))) (e 5))]) (λc e d=> ?_) ?_
  ·refine St.bB ?_
   refine St.ak (eP [97,110,100] (by decide) (e 5) (ao (.mk [116] []) (ao (.mk [116] []) (.mk [116] [])))) oM (.aX rfl rfl) rfl ?_;rintro aq1 _ rfl;refine St.bB ?_;exact St.bg _
  refine an.bi ?_ bQ dQ ec;refine an.bw ?_ jG fT kh (λ_=>(.aq rfl));exact an.nil
 refine St.kG (St.bm (P:=prog) 219 (e 0) (.func (.func 29) #[] #[tW a]) rfl (St.ej (eM a tv.1 (tO b 5 5) rv (.slice none 0 0) w18 X18 [97,110,100] 0 (e 6) (e 8) (bf [97,110,100] (ao (.mk [116] []) (ao (.mk [116] []) (.mk [116] [])))) [[14]] (by decide) (by unfold aZ;decide) ad0 zE WD (by decide) (by decide)) oL (.mk rfl) (.gn rfl rfl rfl rfl) rfl ?_));rintro v228 _ ⟨w19,x19,rfl,ad3,agB,agC,rfl⟩;refine St.kG ?_;obtain⟨X19,alB,WE,ad1,ad2⟩:=fN WD adY adZ agB agC;rw[←alB];refine St.BQ (BR n o p q r a b tv j rv l i g f m w19 X19) (g3 ?_);refine St.Vd 10 229 [] (⟨229,[],λu=>cZ u (.func (.func 29) #[] #[tW a])⟩::⟨230,[],λu=>cZ u ((aV f))⟩::⟨231,[],λu=>isTerm (ab 0) u⟩::⟨232,[],λu=>cZ u ((aV i))⟩::⟨233,[3],λu=>isTerm (bf [114,101,120] (.mk [101] [])) u⟩::⟨234,[2,4],λu=>isTerm (aM (ab 0) (bf [114,101,120] (.mk [101] []))) u⟩::⟨235,[1,5],λu=>isTerm (aw (ao (.mk [101] []) (.mk [116] [])) (aM (ab 0) (bf [114,101,120] (.mk [101] [])))) u⟩::⟨236,[],λu=>fa aJ [7,4,1] u⟩::⟨237,[],λu=>fa aJ [4] u⟩::⟨238,[7,8],λu=>fW aJ [[7,4,1],[4]] u⟩::[]) ((229,[])::(230,[])::(231,[])::(232,[])::(233,[3])::(234,[2,4])::(235,[1,5])::(236,[])::(237,[])::(238,[7,8])::[]) [0,6,9] rfl rfl mixed (by kernel_rfl) (by kernel_rfl) (by rfl) (λe=>[(229,e 0),(235,e 6),(238,e 9)]) (λe=>[aD (cZ (e 0) (.func (.func 29) #[] #[tW a])),aD (isTerm (aw (ao (.mk [101] []) (.mk [116] [])) (aM (ab 0) (bf [114,101,120] (.mk [101] [])))) (e 6)),aD (fW aJ [[7,4,1],[4]] (e 9))]) (λ_=>rfl) (λ_=>rfl) ?_ (λe=> ?_)
 ·refine an.c0 (λc e d=> ?_) ?_
  ·refine St.aM ?_
   refine go ?_;refine St.fact (cZ (.func (.func 29) #[] #[tW a]) (.func (.func 29) #[] #[tW a])) (λ_ _ _=>rfl) ?_;exact St.bg _
  refine an.c0 (λc e d=> ?_) ?_
  ·refine St.aM ?_
   refine go ?_;refine St.fact (cZ ((aV f)) ((aV f))) (λ_ _ _=>rfl) ?_;exact St.bg _
  refine an.c0 (λc e d=> ?_) ?_
  ·refine St.aM ?_
   refine St.ak (cw 0 (by unfold aZ;decide)) mi (.aq rfl) rfl ?_;rintro aq2 _ rfl;refine St.bB ?_;exact St.bg _
  refine an.c0 (λc e d=> ?_) ?_
  ·refine St.aM ?_
   refine go ?_;refine St.fact (cZ ((aV i)) ((aV i))) (λ_ _ _=>rfl) ?_;exact St.bg _
  refine an.cc (λe=>[(232,e 3)]) (λe=>[aD (cZ (e 3) ((aV i)))]) (λc e d=> ?_) ?_
  ·refine St.bB ?_
   refine St.bm (P:=prog) 232 (e 3) ((aV i)) rfl (St.ak (eP [114,101,120] (by decide) (aV i) (.mk [101] [])) oM (.aX rfl rfl) rfl ?_);rintro v233 _ rfl;refine St.bB ?_;exact St.bg _
  refine an.cc (λe=>[(231,e 2),(233,e 4)]) (λe=>[aD (isTerm (ab 0) (e 2)),aD (isTerm (bf [114,101,120] (.mk [101] [])) (e 4))]) (λc e d=> ?_) ?_
  ·refine St.dD ?_
   refine St.ak (ei (e 2) (e 4) (ab 0) (bf [114,101,120] (.mk [101] []))) pT (.aX rfl rfl) rfl ?_;rintro v234 _ rfl;refine St.bB ?_;exact St.bg _
  refine an.cc (λe=>[(230,e 1),(234,e 5)]) (λe=>[aD (cZ (e 1) ((aV f))),aD (isTerm (aM (ab 0) (bf [114,101,120] (.mk [101] []))) (e 5))]) (λc e d=> ?_) ?_
  ·refine St.dD ?_
   refine St.bm (P:=prog) 230 (e 1) ((aV f)) rfl (St.ak (eC (aV f) (e 5) (ao (.mk [101] []) (.mk [116] [])) (aM (ab 0) (bf [114,101,120] (.mk [101] [])))) mh (.aX rfl rfl) rfl ?_);rintro aq3 _ rfl;refine St.bB ?_;exact St.bg _
  refine an.bi ?_ bQ dQ ec;refine an.bi ?_ bQ dQ ec;refine an.bw ?_ jG fT kh (λ_=>(.aX rfl rfl));exact an.nil
 refine St.kG (St.bm (P:=prog) 229 (e 0) (.func (.func 29) #[] #[tW a]) rfl (St.ej (eM a tv.1 (tO b 5 5) rv (.slice none 0 0) w19 X19 [114,101,120] 0 (e 6) (e 9) (aw (ao (.mk [101] []) (.mk [116] [])) (aM (ab 0) (bf [114,101,120] (.mk [101] [])))) [[7,4,1],[4]] (by decide) (by unfold aZ;decide) ad3 zE WE (by decide) (by decide)) oL (.mk rfl) (.gn rfl rfl rfl rfl) rfl ?_));rintro aq4 _ ⟨w20,x20,rfl,ad6,agD,agE,rfl⟩;refine St.kG ?_;obtain⟨X20,alG,WG,ad4,ad5⟩:=fN WE ad1 ad2 agD agE;rw[←alG];refine St.BQ (BR n o p q r a b tv j rv l i g f m w20 X20) (g3 ?_);refine St.Vd 10 240 [] (⟨240,[],λu=>cZ u (.func (.func 29) #[] #[tW a])⟩::⟨241,[],λu=>cZ u ((aV f))⟩::⟨242,[],λu=>isTerm (ab 0) u⟩::⟨243,[],λu=>cZ u ((aV i))⟩::⟨244,[3],λu=>isTerm (bf [109,105,97] (.mk [101] [])) u⟩::⟨245,[2,4],λu=>isTerm (aM (ab 0) (bf [109,105,97] (.mk [101] []))) u⟩::⟨246,[1,5],λu=>isTerm (aw (ao (.mk [101] []) (.mk [116] [])) (aM (ab 0) (bf [109,105,97] (.mk [101] [])))) u⟩::⟨247,[],λu=>fa aJ [7,4,1] u⟩::⟨248,[],λu=>fa aJ [4] u⟩::⟨249,[7,8],λu=>fW aJ [[7,4,1],[4]] u⟩::[]) ((240,[])::(241,[])::(242,[])::(243,[])::(244,[3])::(245,[2,4])::(246,[1,5])::(247,[])::(248,[])::(249,[7,8])::[]) [0,6,9] rfl rfl mixed (by kernel_rfl) (by kernel_rfl) (by rfl) (λe=>[(240,e 0),(246,e 6),(249,e 9)]) (λe=>[aD (cZ (e 0) (.func (.func 29) #[] #[tW a])),aD (isTerm (aw (ao (.mk [101] []) (.mk [116] [])) (aM (ab 0) (bf [109,105,97] (.mk [101] [])))) (e 6)),aD (fW aJ [[7,4,1],[4]] (e 9))]) (λ_=>rfl) (λ_=>rfl) ?_ (λe=> ?_)
 ·refine an.c0 (λc e d=> ?_) ?_
  ·refine St.aM ?_
   refine go ?_;refine St.fact (cZ (.func (.func 29) #[] #[tW a]) (.func (.func 29) #[] #[tW a])) (λ_ _ _=>rfl) ?_;exact St.bg _
  refine an.c0 (λc e d=> ?_) ?_
  ·refine St.aM ?_
   refine go ?_;refine St.fact (cZ ((aV f)) ((aV f))) (λ_ _ _=>rfl) ?_;exact St.bg _
  refine an.c0 (λc e d=> ?_) ?_
  ·refine St.aM ?_
   refine St.ak (cw 0 (by unfold aZ;decide)) mi (.aq rfl) rfl ?_;rintro aq5 _ rfl;refine St.bB ?_;exact St.bg _
  refine an.c0 (λc e d=> ?_) ?_
  ·refine St.aM ?_
   refine go ?_;refine St.fact (cZ ((aV i)) ((aV i))) (λ_ _ _=>rfl) ?_;exact St.bg _
  refine an.cc (λe=>[(243,e 3)]) (λe=>[aD (cZ (e 3) ((aV i)))]) (λc e d=> ?_) ?_
  ·refine St.bB ?_
   refine St.bm (P:=prog) 243 (e 3) ((aV i)) rfl (St.ak (eP [109,105,97] (by decide) (aV i) (.mk [101] [])) oM (.aX rfl rfl) rfl ?_);rintro aq6 _ rfl;refine St.bB ?_;exact St.bg _
  refine an.cc (λe=>[(242,e 2),(244,e 4)]) (λe=>[aD (isTerm (ab 0) (e 2)),aD (isTerm (bf [109,105,97] (.mk [101] [])) (e 4))]) (λc e d=> ?_) ?_
  ·refine St.dD ?_
   refine St.ak (ei (e 2) (e 4) (ab 0) (bf [109,105,97] (.mk [101] []))) pT (.aX rfl rfl) rfl ?_;rintro aq7 _ rfl;refine St.bB ?_;exact St.bg _
  refine an.cc (λe=>[(241,e 1),(245,e 5)]) (λe=>[aD (cZ (e 1) ((aV f))),aD (isTerm (aM (ab 0) (bf [109,105,97] (.mk [101] []))) (e 5))]) (λc e d=> ?_) ?_
  ·refine St.dD ?_
   refine St.bm (P:=prog) 241 (e 1) ((aV f)) rfl (St.ak (eC (aV f) (e 5) (ao (.mk [101] []) (.mk [116] [])) (aM (ab 0) (bf [109,105,97] (.mk [101] [])))) mh (.aX rfl rfl) rfl ?_);rintro aq8 _ rfl;refine St.bB ?_;exact St.bg _
  refine an.bi ?_ bQ dQ ec;refine an.bi ?_ bQ dQ ec;refine an.bw ?_ jG fT kh (λ_=>(.aX rfl rfl));exact an.nil
 refine St.kG (St.bm (P:=prog) 240 (e 0) (.func (.func 29) #[] #[tW a]) rfl (St.ej (eM a tv.1 (tO b 5 5) rv (.slice none 0 0) w20 X20 [109,105,97] 0 (e 6) (e 9) (aw (ao (.mk [101] []) (.mk [116] [])) (aM (ab 0) (bf [109,105,97] (.mk [101] [])))) [[7,4,1],[4]] (by decide) (by unfold aZ;decide) ad6 zE WG (by decide) (by decide)) oL (.mk rfl) (.gn rfl rfl rfl rfl) rfl ?_));rintro aq9 _ ⟨s,x21,rfl,Q,agF,agG,rfl⟩;refine St.kG ?_;obtain⟨H,alH,ad8,ad7,ao2⟩:=fN WG ad4 ad5 agF agG;rw[←alH];refine St.BQ (BR n o p q r a b tv j rv l i g f m s H) (g4 ?_);refine St.bi [6] (λajK=> ?_) bQ dQ ec;refine St.bw [tO ajK 1 1] [[6]] (λajL=> ?_) jG fT kh (.aq rfl);refine St.ak (gZ (tO ajL 1 1) [[6]] (by decide) (by decide)) FJ (.aq rfl) rfl ?_;rintro ao0 _ rfl;refine St.bB (St.bS (cG [[6]]) ao0 (λI hyz=>?_));obtain⟨rfl,anZ⟩:=hyz;refine go ?_;refine St.R4 (L':=[tv.1,(tO b 5 5),rv,s,I.nv.1]) (aa.mk rfl) (aa.mk rfl) jx I.nv.2 rfl rfl (g5 ?_);refine St.sA (.mk rfl) (.mk rfl) RE ?_ (h1:=(by simp only[List.all_cons,List.all_nil,Bool.and_true,Bool.and_eq_true];exact⟨tv.2,rfl,M,Q,I.nv.2⟩));refine g3 ?_;refine St.bU s cy H rfl rfl ad8 (St.fF (cj (⟨tv,j,⟨(tO b 5 5),rfl⟩,js,⟨rv,M⟩,l,⟨s,Q⟩,H,I⟩:eU)) [sl lW tv.1 j,aL s6 j,sl fw (tO b 5 5) js,sl bZ rv l,aL bb l,sl cy s H,aL dz H,aI I] (λρ h=>h) (St.fF (zd wK (eF (⟨tv,j,⟨(tO b 5 5),rfl⟩,js,⟨rv,M⟩,l,⟨s,Q⟩,H,I⟩:eU))) [cj (⟨tv,j,⟨(tO b 5 5),rfl⟩,js,⟨rv,M⟩,l,⟨s,Q⟩,H,I⟩:eU)] (λρ h=>⟨(⟨tv,j,⟨(tO b 5 5),rfl⟩,js,⟨rv,M⟩,l,⟨s,Q⟩,H,I⟩:eU),rfl,by show(⟨j.map dG,js.map iJ,l.map iE,H.map jg,bE I⟩:fD)=wK;rw[hts,afF,ad7,anZ];rfl,h _ (aR ..)⟩) ?_));refine St.rV [_] [aD (zd wK (eF (⟨tv,j,⟨(tO b 5 5),rfl⟩,js,⟨rv,M⟩,l,⟨s,Q⟩,H,I⟩:eU)))] ?_;rfl
mutual
def r6:dY→dY→Bool
 | .mk r l ks,.mk r' b a=>(decide (r=r')&&decide (l=b))&&je ks a
def je:List dY→List dY→Bool
 | [],[]=>true
 |t::l,a::b=>r6 t a&&je l b
 | [],_::_=>false
 |_::_,[]=>false
end
mutual
theorem CZ:∀t:dY,r6 t t=true
 | .mk r l ks=>by rw[r6,tN ks];simp
theorem tN:∀l:List dY,je l l=true
 | []=>by rw[je]
 |t::l=>by rw[je,CZ t,tN l];rfl
end
theorem AH:∀{a b:List dY},je a b=true→a.length=b.length
 | [],[],_=>rfl
 |t::a,u::b,h=>by
  rw[je,nQ]at h;rw[fL,fL,AH h.2]
 | [],_::_,h=>by rw[je]at h;cases h
 |_::_,[],h=>by rw[je]at h;cases h
theorem Gb {a b:List bM}{k:Nat}{x y:bM}(h1:a[k]?=some x)(c:b[k]?=some y):je ((a.drop k).map aN) ((b.drop k).map aN)=(r6 (aN x) (aN y)&&je ((a.drop (k+1)).map aN) ((b.drop (k+1)).map aN)):=by
 rw[bW h1,bW c,fM,fM,je]
theorem JG {a b:List bM}{k:Nat}(h1:a.length≤k)(c:b.length≤k):je ((a.drop k).map aN) ((b.drop k).map aN)=true:=by
 rw[iy h1,iy c];exact tN []
theorem He (e f:Value)(a b:List bM)(n:∀x y,x∈a→y∈b→dK prog 13 #[dA x,dA y] [ae x,ae y] (.bool (r6 (aN x) (aN y)))):dK prog 46 #[e,f] [sl bR e a,aL ae a,sl bR f b,aL ae b] (.bool (je (a.map aN) (b.map aN))):=by
 refine dK.Jt (args:=[e,f]) 27 func46 rfl ntmps46 rfl (λc=>go ?_);refine St.wf e (λo r=>St.wf f (λs t=>g14 ?_));refine St.cq (λp=> ?_) (λp=> ?_)
 ·refine g7 ?_
  refine St.rV [_] [] ?_;exact be (Bool.eq_false_iff.2 λh=>by have:=AH h;simp at this;omega).symm
 ·refine g11 ?_
  refine St.lS (ι:=Nat) (λk T=>(13,iv k)::T) (λk=>k≤a.length∧je (a.map aN) (b.map aN)=je ((a.drop k).map aN) ((b.drop k).map aN)) (λk=>a.length-k) 0 (aC.k3 0 1 12) ⟨aQ _,rfl⟩ ?_;rintro k ⟨hk,g⟩;refine g6 ?_;refine St.cq (λq=> ?_) (λq=> ?_)
  ·obtain⟨x,hx⟩:=aF (show k<a.length by omega)
   obtain⟨y,hy⟩:=aF (show k<b.length by omega)
   have j:=aY hx
   have l:=aY hy
   refine St.bh ae a (x:=x) j (St.bh ae b (x:=y) l ?_)
   have m:=Gb hx hy
   refine g11 ?_;refine St.rq mixed (by kernel_rfl) (Mm.drawn _ _) ?_;refine g3 ?_;refine Sq.ee (Ev.iD (.mk rfl) hx po trivial jo gH.eq) (Sq.slot 19 (dA x) rfl rfl (g3 ?_));refine Sq.ee (Ev.iD (.mk rfl) hy po trivial jo gH.eq) (Sq.slot 23 (dA y) rfl rfl (Sq.ee (Ev.call (n x y j l) abN (.aX rfl rfl)) (g3 ?_)));refine St.cond _ rfl (λi=> ?_) (λi=> ?_)
   ·skip
    have d:r6 (aN x) (aN y)=false:=by simpa using i
    refine g11 ?_;refine St.rV [_] [] ?_;exact be (by rw[g,m,d];rfl)
   ·skip
    have d:r6 (aN x) (aN y)=true:=by simpa using i
    refine g8 ?_;refine St.aS (k+1) ⟨by omega,by rw[g,m,d];rfl⟩
  ·refine g11 ?_
   refine St.rV [_] [] ?_;exact be (by rw[g,JG zE zE])
theorem La:∀(x y:bM),dK prog 13 #[dA x,dA y] [ae x,ae y] (.bool (r6 (aN x) (aN y))):=by
 intro x
 induction x using bM.ind
 rename_i x e
 intro y;refine dK.qf (args:=[dA x,dA y]) 24 func13 rfl ntmps13 rfl (λc=>go ?_);refine St.kS x (St.kS y (go ?_));refine St.cC (.mk rfl) rfl (λg=>St.cC (.mk rfl) rfl (λh=>g11 ?_));refine St.gt _ rfl rfl (λd=>Ev.cU (.mk rfl) tD) rfl (St.gt _ rfl rfl (λd=>Ev.jN (aa.gv rfl d) fA trivial (by rfl)) rfl ?_);refine St.gt _ rfl rfl (λd=>Ev.cU (.mk rfl) tD) rfl (St.gt _ rfl rfl (λd=>Ev.jN (aa.gv rfl d) fA trivial (by rfl)) rfl ?_);refine St.gt _ rfl rfl (λd=>Ev.eql (aa.gv rfl d) (aa.gv rfl d)) rfl (g2 ?_);refine St.gt _ rfl rfl (λd=>Ev.cU (.mk rfl) Dt) rfl (St.gt _ rfl rfl (λd=>Ev.jN (aa.gv rfl d) rE trivial (by rfl)) rfl ?_);refine St.gt _ rfl rfl (λd=>Ev.cU (.mk rfl) Dt) rfl (St.gt _ rfl rfl (λd=>Ev.jN (aa.gv rfl d) rE trivial (by rfl)) rfl ?_);refine St.gt _ rfl rfl (λd=>Ev.call (He x.kv.1 y.kv.1 x.kids y.kids (λa b f _=>e a f b)) ajY (.cons (aa.gv rfl d) (.cons (aa.gv rfl d) .nil))) rfl (g5 ?_);refine St.rV [_] [] ?_;exact be (by rw[fG,fG y,r6])
theorem Qy:(km wK).1=0:=by kernel_rfl
theorem Ot {g:fD}{words:List cM}(h:(e9 g words).2.1=0):(e9 g words).2=(0,0):=by
 unfold e9 at h⊢
 by_cases h1:(fO g words).2.1≠0
 ·rw[aB h1]at h;exact absurd h h1
 rw[aA h1]at h⊢
 by_cases a:200<(Lb (fO g words).1.1 (fO g words).1.2).length
 ·rw[aB a]at h;exact absurd h (by decide)
 ·rw[aA a]
theorem xk (g:eU)(tv:Value)(trees:List bM)(wv:Value)(words:List cM):kL prog 3 #[eF g,tv,wv] [cj g,sl bR tv trees,aL ae trees,sl fK wv words,tz,u8] (.bool true):=by
 refine kL.body (args:=[eF g,tv,wv]) (ds:=[cj g,sl bR tv trees,aL ae trees,sl fK wv words,tz,u8]) 160 func3 rfl ntmps3 rfl (λc A=>St.cast (H':=[aD (cj g),aD (sl bR tv trees),aD (aL ae trees),aD (sl fK wv words),aD (tz),aD (u8)]) rfl (g2 ?_));refine St.cC (.mk rfl) rfl (λb3=>g5 ?_);refine St.ak Hc cb6 (.nil) rfl ?_;rintro v25 _ rfl;refine St.bB (St.zd wK v25 (λgs L=>?_));obtain⟨rfl,M⟩:=L;refine St.gi bR (St.dN ae (St.pS A (wc gs (.slice none 0 0) []) cb5 (.aX rfl rfl) rfl ?_));rintro v26 _ ⟨rv,xv,R,X,fl,rfl,N,O,rfl⟩;refine St.dD ?_;rw[M]at N O
 have P5:=N Qy rfl
 have P:R.length=6:=(O P5).2.rl.trans (by kernel_rfl)
 refine g3 ?_;refine St.al (λb7=>St.al (λb8=>g11 ?_));refine St.gf _ rfl rfl (λd=>Ev.cU (.mk rfl) I8) rfl (St.gf _ rfl rfl (λd=>Ev.jN (aa.gv rfl d) bQ trivial (by rfl)) rfl ?_);refine St.gf _ rfl rfl (λd=>Ev.gN (aa.gv rfl d) bQ) rfl (St.gf _ rfl rfl (λd=>Ev.neq (aa.gv rfl d) (.mk rfl)) rfl (g3 ?_));refine St.cq (λh37=> ?_) (λh37=> ?_)
 ·exfalso;omega
 ·refine g5 ?_
  refine St.slot 39 (eF g) rfl rfl (go ?_);refine St.pS A (wc g tv trees) cb5 (.aX rfl rfl) rfl ?_
  clear N O P5 P
  rintro v41 _ ⟨rv,xv,R,X,fl,rfl,hk1,hk2,rfl⟩;refine St.dD (g15 ?_);refine St.cq (λh46=> ?_) (λh46=> ?_)
  ·refine g7 ?_
   refine St.rV [_] [] ?_;rfl
  ·obtain⟨S,U⟩:=hk2 zE
   refine g5 ?_;refine St.slot 48 (eF g) rfl rfl (go ?_);refine St.pS A (wg g wv words) cb7 (.aX rfl rfl) rfl ?_;rintro v50 _ ⟨t9,outs,rfl,I,rfl⟩;refine St.dD (St.wf t9.1 (λV _=>g3 ?_));refine St.slot 52 (.agg #[iv (e9 (bK g) words).2.1,iv (e9 (bK g) words).2.2]) rfl rfl (g12 ?_);refine St.cq (λW=> ?_) (λW=> ?_)
   ·refine g7 ?_
    refine St.rV [_] [] ?_;rfl
   ·have Y:=Ot (show(e9 (bK g) words).2.1=0 by omega)
    have J:=congrArg List.length I
    rw[aO]at J
    have amC:=E0 (bK g) words
    refine g4 ?_;refine St.iu rfl (.nil) wW nG Jh rfl rfl (by simp[Value.cells]) rfl rfl (λC=> ?_);refine St.aP (tO C 0 0) (show _=(((outs.take 0).map aN).map λt=>(dm (bK g) R X t).getD (0,0)).length from rfl) (show _=rows dv (((outs.take 0).map aN).map λt=>(dm (bK g) R X t).getD (0,0))from rfl) (g10 ?_);refine St.qe b8 [iv 0,iv 0] (by rw[Y]) ?_;refine St.lH (ι:=Nat×ah) (λ⟨i,r⟩ T=>(11,iv i)::(10,r.1)::T) (λ⟨i,r⟩=>[row r.1 47 2 ((((outs.take i).map aN).map λt=>(dm (bK g) R X t).getD (0,0))).length (rows dv ((((outs.take i).map aN).map λt=>(dm (bK g) R X t).getD (0,0)))),tI b7 [rv.1,xv.1] 37,tI b3 (kR g) 32,tI b8 [iv 0,iv 0] 39,aD (cj g),aD (sl fK wv words),aD (tz),aD (u8),aD (sl aJ rv.1 R),aD (sl aJ xv.1 X),aD (sl bR t9.1 outs),aD (aL ae outs)]) (λ⟨i,r⟩=>i≤outs.length∧∀t∈(outs.take i).map aN,(dm (bK g) R X t).isSome=true) (λ⟨i,r⟩=>outs.length-i) ⟨0,⟨(tO C 0 0),rfl⟩⟩ (aC.k5 2 3 7 8 9) ⟨aQ _,λt ht=>by cases ht⟩ ?_;rintro ⟨i,r⟩ ⟨hi,B⟩
    dsimp only at hi B⊢
    have hll:(((outs.take i).map aN).map λt=>(dm (bK g) R X t).getD (0,0)).length≤200:=by rw[aO,aO,eR];omega
    refine g9 ?_;refine St.cq (λh60=> ?_) (λh60=> ?_)
    ·obtain⟨o,s⟩:=aF (show i<outs.length by omega)
     have e:=aY s
     have YU:aN o∈(e9 (bK g) words).1:=by rw[←I];exact dh e
     obtain⟨P6,p5,_⟩:=KK YU;refine St.bh ae outs (x:=o) e ?_
     obtain⟨q,hq⟩:∃q,q=(dm (bK g) R X (aN o)).getD (0,0):=⟨_,rfl⟩
     obtain⟨f,n⟩:∃f:Pr,f=if(dm (bK g) R X (aN o)).isSome=true then(0,0)else(18,0):=⟨_,rfl⟩
     have UG:=Bp (g:=bK g) (R:=R) (X:=X) s
     have D:=LY g rv xv R X o S U (by rw[P6]) (V o e)
     rw[←hq,←n]at D;refine g5 ?_;refine St.jm [] mixed (λnp ns=>SW.gd 0 ?_);refine SW.slot 64 (eF g) rfl rfl (SW.gd 1 ?_);refine SW.slot 65 (.agg #[rv.1,xv.1]) rfl rfl (SW.gd 2 ?_);refine SW.gd 3 ?_;refine SW.gd 4 ?_;refine SW.dd 5 rfl (λ_=>Ev.iD (.mk rfl) s po trivial jo gH.eq) (SW.slot 69 (dA o) rfl rfl (SW.dd 6 rfl (λ_=>Ev.nj A D cb8 (.eI rfl rfl rfl)) (SW.slot 70 (.tuple #[.agg #[iv q.1,iv q.2],.agg #[iv f.1,iv f.2]]) rfl rfl (SW.gd 7 ?_))));refine SW.gd 8 ?_;refine SW.gd 9 ?_;refine SW.Xe 10 11 (by kernel_rfl) rfl rfl (by kernel_rfl) (by kernel_rfl) N8 N7 rfl rfl rfl (λb12 Vc=> ?_);refine SW.t1 12 ?_;refine g3 ?_;refine SW.go (SW.t1 13 ?_);refine g3 ?_;refine SW.go (SW.dn (g9 ?_));refine St.cq (λE=> ?_) (λE=> ?_)
     ·have h18:f.1=18:=by
       rw[n]
       by_cases c:(dm (bK g) R X (aN o)).isSome=true
       ·rw[n,aB c]at E;exact absurd rfl E
       ·rw[aA c]
      refine g15 ?_;refine St.rV [_] [] ?_;exact be (by simp[h18])
     ·have hps:(dm (bK g) R X (aN o)).isSome=true:=by
       by_cases c:(dm (bK g) R X (aN o)).isSome=true
       ·exact c
       ·rw[n,aA c]at E;simp at E
      refine g5 ?_;refine St.slot 80 (rY q) rfl rfl (St.iu rfl (.aq rfl) wW nG Jh rfl rfl (by simp[Value.cells]) rfl rfl (λb81=> ?_));refine St.bH (.mk rfl) (.mk rfl) wW nG Jh Xm (by intro u hu;exact dv.one q u hu) zE zE rfl rfl rfl rfl (λv82 aqG=> ?_);refine St.aP v82 (show _=(((outs.take (i+1)).map aN).map λt=>(dm (bK g) R X t).getD (0,0)).length by rw[UG,cA];rfl) (show _=rows dv (((outs.take (i+1)).map aN).map λt=>(dm (bK g) R X t).getD (0,0)) by rw[UG,bN,←hq];rfl) ?_;refine St.cH v82 (λh82 _=>g10 ?_);refine St.aH ⟨i+1,⟨v82,h82⟩⟩ ⟨by dsimp only;omega,λz hz=>by rw[kB s]at hz;exact(ca.1 hz).elim (B z) (λh=>by rw[ba.1 h];exact hps)⟩
    ·obtain rfl:i=outs.length:=by omega
     rw[iT,I]at B⊢
     have j:=DK (g:=bK g) (R:=R) (X:=X) _ B
     have hLl:((e9 (bK g) words).1.map λt=>(dm (bK g) R X t).getD (0,0)).length=outs.length:=by rw[aO,J]
     obtain⟨⟨Z,hov⟩,MF⟩:∃z,z=r:=⟨r,rfl⟩
     subst MF;refine St.bU Z dv ((e9 (bK g) words).1.map λt=>(dm (bK g) R X t).getD (0,0)) rfl rfl (zT λp MB=>pf (j p MB)) (g8 ?_);refine St.ee (Ev.call (zS Z ((e9 (bK g) words).1.map λt=>(dm (bK g) R X t).getD (0,0))) cb9 (.aq rfl)) ?_
     obtain⟨Q,hQ⟩:∃Q,Q=(sV ((e9 (bK g) words).1.map λt=>(dm (bK g) R X t).getD (0,0))):=⟨_,rfl⟩
     refine St.slot 85 (.tuple #[.agg #[iv Q.1.1,iv Q.1.2],.agg #[iv Q.2.1,iv Q.2.2]]) rfl (by rw[hQ];rfl) ?_;refine g3 ?_;refine St.al (λNc=>g7 ?_);refine St.slot 89 (eF g) rfl rfl (go ?_);refine St.slot 90 (.agg #[rv.1,xv.1]) rfl rfl (go ?_);refine St.ee (Ev.nj A (Ex g rv xv R X wv words S U Y B) ajR (.eI rfl rfl rfl)) (St.slot 92 (.tuple #[.agg #[iv Q.1.1,iv Q.1.2],.agg #[iv Q.2.1,iv Q.2.2]]) rfl (by rw[hQ];rfl) ?_);refine g3 ?_;refine St.al (λb15=>St.al (λb16=>g8 ?_));refine St.slot 95 (.agg #[iv Q.2.1,iv Q.2.2]) rfl rfl (go ?_);refine St.slot 96 (.agg #[iv Q.2.1,iv Q.2.2]) rfl rfl (St.ee (Ev.Cg (.mk rfl) (.mk rfl) Tryz.eqGuardType39 (λw=>acT _ _ _ _ w)) (go ?_));refine St.gf _ rfl rfl (λd=>Ev.MS (.mk rfl) vB trivial (by exact nG)) rfl ?_;refine St.gf _ rfl rfl (λd=>Ev.MS (.mk rfl) vB trivial (by exact nG)) rfl ?_;refine St.gf _ rfl rfl (λd=>Ev.Cg (aa.gv rfl d) (aa.gv rfl d) Tryz.eqGuardType47 (λw=>acU _ _ _ _ w)) rfl (g3 ?_);refine St.cond _ rfl (λF=> ?_) (λF=> ?_)
     ·skip
      exact absurd F (by simp)
     ·skip
      refine g5 ?_;refine St.slot 104 (eF g) rfl rfl (go ?_);refine St.slot 105 (.agg #[rv.1,xv.1]) rfl rfl (go ?_);refine St.pS A (HQ g rv xv R X wv words S U Y B) ajS (.eI rfl rfl rfl) rfl ?_;rintro v107 _ ⟨t,p,rfl,al7,rfl⟩;refine St.bB (g5 ?_);refine St.al (λZw=>St.al (λb18=>g8 ?_))
      have hok:decide ((e9 (bK g) words).1≠ [])=decide ((0:Int)<(outs.length:Int)):=by
       rw[J]
       cases (e9 (bK g) words).1 with
       |nil=>rfl
       |cons a l=>rw[cX (by simp),cX (by simp)]
      refine g5 ?_;refine St.gf _ rfl rfl (λd=>Ev.move (.mk rfl)) rfl (St.gf _ rfl rfl (λd=>Ev.move (.mk rfl)) rfl (St.gf _ rfl rfl (λd=>Ev.gN (aa.gv rfl d) rE) rfl (St.gf _ rfl rfl (λd=>Ev.gtr (aa.gv rfl d) (.mk rfl)) rfl (St.gf _ rfl rfl (λd=>Ev.uF (aa.gv rfl d) (aa.gv rfl d) EY) rfl (g3 ?_)))));refine St.cond _ rfl (λG=> ?_) (λG=> ?_)
      ·skip
       exact absurd G (by simp[hok])
      ·skip
       refine g16 ?_;refine St.lH (ι:=Nat×Bool) (λ⟨i,b⟩ T=>(21,iv i)::(20,.bool b)::T) (λ⟨i,b⟩=>[tI Zw (oA t) 51,tI b18 [iv p.1,iv p.2] 47,aD (ae t),aD (sl dv Z ((e9 (bK g) words).1.map λt=>(dm (bK g) R X t).getD (0,0))),aD (cj g),aD (sl fK wv words),aD (tz),aD (u8),aD (sl aJ rv.1 R),aD (sl aJ xv.1 X),aD (sl bR t9.1 outs),aD (aL ae outs)]) (λ⟨i,b⟩=>i≤outs.length∧((e9 (bK g) words).1=[]∨oJ ((e9 (bK g) words).1.map λt=>(dm (bK g) R X t).getD (0,0)) ((e9 (bK g) words).1.map λt=>(dm (bK g) R X t).getD (0,0)).length<i→b=true)) (λ⟨i,b⟩=>outs.length-i) ⟨0,!decide ((e9 (bK g) words).1≠ [])⟩ (aC.k4 9 10 17 18) ⟨aQ _,λh=>by rcases h with h|h;(rw[h];rfl);exact absurd h (Nat.not_lt_zero _)⟩ ?_;rintro ⟨i,b⟩ ⟨hi,hb⟩
       dsimp only at hi hb⊢
       refine g9 ?_;refine St.cq (λakN=> ?_) (λakN=> ?_)
       ·obtain⟨o,s⟩:=aF (show i<outs.length by omega)
        have e:=aY s
        refine St.bh ae outs (x:=o) e ?_
        have YQ:(e9 (bK g) words).1≠ []:=λh=>by rw[h,List.length_nil]at J;omega
        obtain⟨v,m⟩:=al7 YQ;obtain⟨q,K⟩:=aF (show i<((e9 (bK g) words).1.map λt=>(dm (bK g) R X t).getD (0,0)).length by omega)
        have hpf:=j p (aY m)
        have H:=j q (aY K)
        have hcm:jM p q=(gK p q,(0,0)):=by unfold jM;rw[CB hpf H];rfl
        have hge:0≤gK p q:=by
         have h:=(yD j zE ((e9 (bK g) words).1.map λt=>(dm (bK g) R X t).getD (0,0)).length (aU _)).2 i zE
         rw[yN K,yN m]at h;rw[zR (x:=q) (y:=p)];omega
        refine g5 ?_;refine St.jm [] mixed (λnp ns=>SW.gd 0 ?_);refine Sq.slot 131 (rY p) rfl rfl (SW.gd 1 ?_);refine SW.gd 2 ?_;refine SW.gd 3 ?_;refine SW.dd 4 rfl (λ_=>Ev.iD (.mk rfl) K vB trivial nG gH.eq) (Sq.slot 135 (rY q) rfl rfl (SW.dd 5 rfl (λ_=>Ev.call (qn p q (pf hpf) (pf H)) abI (.aX rfl rfl)) (Sq.slot 136 (.tuple #[iv (gK p q),.agg #[iv 0,iv 0]]) rfl (by rw[hcm];rfl) ?_)));refine SW.gd 6 ?_;refine SW.gd 7 ?_;refine SW.gd 8 ?_;refine SW.t1 9 ?_;refine St.al (λb23=>g2 ?_);refine SW.go (SW.gd 10 ?_);refine SW.t1 11 ?_;refine g3 ?_;refine SW.go (SW.dn (g8 ?_));refine St.known 142 _ false rfl (by rfl) ?_;refine St.eK rfl rfl (go ?_);refine St.eK rfl rfl (go ?_);refine St.ee (Ev.p8 (.mk rfl) rfl (.mk rfl)) (g2 ?_);refine St.cq (λakQ=> ?_) (λakQ=> ?_)
        ·exfalso;omega
        ·refine g2 ?_
         refine St.rq mixed (by kernel_rfl) (Mm.drawn _ _) ?_;refine g2 ?_;refine Sq.gf _ rfl rfl (λd=>Ev.MS (.mk rfl) po trivial (by exact jo)) rfl ?_;refine Sq.gf _ rfl rfl (λd=>Ev.move (.mk rfl)) rfl (Sq.gf _ rfl rfl (λd=>Ev.move (.mk rfl)) rfl (Sq.gf _ rfl rfl (λd=>Ev.cI (k:=i) (aa.gv rfl d) (aa.gv rfl d) rE jo (by first|omega|(simp only[cn]at d;omega)) zE) rfl ?_));refine Sq.gf _ rfl rfl (λd=>Ev.iD (aa.gv rfl d) s po trivial jo gH.eq) rfl (Sq.gf _ rfl rfl (λd=>Ev.call (La t o) abN (.cons (aa.gv rfl d) (.cons (aa.gv rfl d) .nil))) rfl (Sq.gf _ rfl rfl (λd=>Ev.move (aa.gv rfl d)) rfl (Sq.CG _ rfl rfl (λd=>Ev.move (.mk rfl)) rfl (Sq.CG _ rfl rfl (λd=>Ev.eql (aa.gv rfl d) (.mk rfl)) rfl (Sq.gf _ rfl rfl (λd=>Ev.and (aa.gv rfl d) (λhp=>aa.gv rfl (yk d hp))) rfl (g11 ?_))))))
         refine St.vQ ⟨i+1,b||(r6 (aN t) (aN o)&&decide (gK p q=0))⟩ ⟨by dsimp only;omega,λh=>by
          dsimp only
          rcases h with h|h
          ·exact absurd h YQ
          ·dsimp only at h
           rcases dI (oJ ((e9 (bK g) words).1.map λt=>(dm (bK g) R X t).getD (0,0)) ((e9 (bK g) words).1.map λt=>(dm (bK g) R X t).getD (0,0)).length) i with h2|h2
           ·rw[hb (.inr h2)];rfl
           ·have h3:oJ ((e9 (bK g) words).1.map λt=>(dm (bK g) R X t).getD (0,0)) ((e9 (bK g) words).1.map λt=>(dm (bK g) R X t).getD (0,0)).length=i:=Nat.le_antisymm (Nat.le_of_lt_succ h) h2
            rw[h3]at v m;rw[←I,bJ,s]at v;rw[K]at m;rw[←Option.some.inj v,←Option.some.inj m]
            show(b||(r6 (aN o) (aN o)&&_))=true
            rw[CZ,zQ];simp⟩ (by first|omega|(dsimp only;omega)) (by repeat(first|exact Sub.nil|refine Sub.cons (by first|rfl|exact congrArg (λz=>some (iv z)) (by first|omega|(dsimp only;omega))|exact congrArg (λz=>some (Value.bool z)) (by first|assumption|exact jI (by assumption))) ?_)) (λ_ hw=>hw.sub)
       ·refine g12 ?_
        refine St.rV [_] [] ?_;exact be (hb (by rcases Nat.eq_zero_or_pos outs.length with h|h;exact .inl (ka zE);exact .inr (by have:=(yD j zE ((e9 (bK g) words).1.map λt=>(dm (bK g) R X t).getD (0,0)).length (aU _)).1;omega)))
end Go.Proofs.YtiefglecbgdaiaaGreatDoor

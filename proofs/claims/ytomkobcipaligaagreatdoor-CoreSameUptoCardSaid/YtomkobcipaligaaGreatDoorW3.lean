/-
  Equations. Printed by a program.
-/
import Derived.Test.YtomkobcipaligaaGreatDoorW2
import Derived.Shelf.Strings.OnBuilder
import Derived.Shelf.Strings.Repeat
import Derived.Shelf.Strconv.Itoa4
import Derived.Test.YtomkobcipaligaaGreatDoorChecked
import Derived.KernelRfl
import Derived.Sort.Grow
import Derived.Shelf.Sort.Plain
set_option linter.all false
set_option linter.deprecated false
set_option maxHeartbeats 4000000
def Go.ac{p:Prop}(h:p:=by kernel_rfl):p:=h
namespace Go.aj
def ali{p:Prop}(h:p:=by
 cases hq:Nat.beq o.1 i with
 |false=>rfl
 |true=>have:=dX hq;omega):p:=h
def akW{p:Prop}(h:p:=by
 intro l o ho;unfold NU at ho;rw [hlp,hc]at ho;exact hp l o ho):p:=h
def akA{p:Prop}(h:p:=by
 obtain⟨U,h2⟩:=aiX hX h;exact⟨0,x,rfl,aB1 he,U,h2⟩):p:=h
def aky{p:Prop}(h:p:=by
 obtain⟨U,h2⟩:=aiX hX h;exact⟨0,x,rfl,U,h2⟩):p:=h
def akx{p:Prop}(h:p:=by
 rw [hb]at hr;have:=dX hb;subst this;exact he fX hr):p:=h
def aaX{p:Prop}(h:p:=by unfold Cw;rw [al6 fX]):p:=h
def aaG{p:Prop}(h:p:=by simp [lJ]at hi):p:=h
end Go.aj
namespace Go.aj
def bU:=@cond_true
def My:=@Go.wpIn_loop_rounds
def yu:=@Bool.false_and
end Go.aj
namespace Go.aj
open Go
noncomputable section
variable {X:Cx} {R:Type}
variable{x:AV}{c root:Code}{k:Ex->St->Option R}{fn:Func}{f:FuncId}{σ:ax}{m mask p:Nat}{nt:Nt}{r:R}{s:Sh}{st:St}{t:TypeId}{args:ak}{M:aF}
def eD.vY:eD->Bool| .cell _| .vw _| .any =>false|_=>true
def Sh.vY:Sh->Bool| .one s=>s.vY|_=>false
def gp.vY:gp->Bool| .gone =>true|_=>false
def bg:List eD->Nat->ak->ak
 | [],_,_=>[]
 |s::ss,i,xs=>BW s (xs.getD i .top)::bg ss (i+1) xs
def Ed:Sh->AV->AV
 | .one s,x=>BW s x
 | .agg ss,x=> .agg (bg ss 0 x.cells)
 | .eJ f ss,x=> .eJ f [] (bg ss 0 x.gV)
def Ox:List (Nat×Sh)->Nat->ak->bL
 | [],_,_=>[]
 |e::es,i,l=>match e.2.vY with|true=>(e.1,Ed e.2 .top)::Ox es i l|false=>(e.1,Ed e.2 (l.getD i .top))::Ox es (i+1) l
def NN:List (Nat×Sh)->Nat->ak->bL
 | [],_,_=>[]
 |e::es,i,l=>(e.1,Ed e.2 (l.getD i .top))::NN es (i+1) l
def aU(rows:aY):List (AV×AV):=rows.map λr=>(r.getD 0 .top,r.getD 1 .top)
def bz(es:List (AV×AV)):aY:=es.map λe=>[e.1,e.2]
def yd:eE->AV
 | .row t xs=> .ae t xs
 | .fP t xs=> .ae t xs
 | .var _ cs=> .agg cs
 | .map _ _ _ es=> .ae 0 (bz es)
 | .loop _ env _ _=> .agg (env.map (·.2))
 |_=> .top
def oz:gp->AV->eE
 | .row t,x=> .row t x.rows
 | .fP t,x=> .fP t x.rows
 | .var ks ss,x=> .var ks (bg ss 0 x.cells)
 | .arr ks,x=> .var ks x.cells
 | .mp k ag ks,x=> .map k ag ks (aU x.rows)
 | .loop s es p,x=> .loop s (NN es 0 x.cells) false p
 | .gone,_=> .dead
def Ov:List gp->Nat->ak->aF
 | [],_,_=>[]
 |s::ss,i,l=>match s.vY with|true=>oz s .top ::Ov ss i l|false=>oz s (l.getD i .top)::Ov ss (i+1) l
def nE:List (Nat×Sh)->Nat
 | []=>0
 |e::es=>match e.2.vY with|true=>nE es|false=>nE es+1
def unpack(σ:ax)(l:ak):St:=⟨Ox σ.env 0 l,Ov σ.mem (nE σ.env) l,[],.tJ⟩
def Bu(lk:Nat->AV):List (Nat×Sh)->ak
 | []=>[]
 |e::es=>match e.2.vY with|true=>Bu lk es|false=>lk e.1::Bu lk es
def F9:List gp->aF->ak
 |s::ss,b::M=>match s.vY with|true=>F9 ss M|false=>yd b::F9 ss M
 |_,_=>[]
def pack(σ:ax)(lk:Nat->AV)(M:aF):ak:=Bu lk σ.env++F9 σ.mem M
def ajd:∀{ss:List eD} {ys pre:ak},Ak ss ys=true->bg ss pre.length (pre++ys)=ys
 | [],[],pre,_=>rfl
 |s::ss,y::ys,pre,h=>by
  simp only [Ak,bw]at h;have ih:=ajd (pre:=pre++[y]) h.2;rw [fy,cw]at ih;simp only [bg];rw [show(pre++y::ys).getD pre.length .top =y by simp [List.getD]];rw [Sq h.1];exact xC (y:: ·) ih
 | [],_::_,_,h=>SG
 |_::_,[],_,h=>SG
def ZR{ss:List eD}{ys:ak}(h:Ak ss ys=true):bg ss 0 ys=ys:=ajd (pre:=[]) h
def aak(h:Kv s x=true):Ed s x=x:=by
 unfold Kv at h;split at h
 ·exact Sq h
 ·simp only [Ed,AV.cells];rw [ZR h]
 ·rw [bw]at h;simp only [Ed,AV.gV];rw [ZR h.2,dX h.1]
 ·exact aD
def aA3{s:eD}(h:s.vY=true)(x y:AV):BW s x=BW s y:=by cases s<;>first|rfl|cases h
def aA8(h:s.vY=true)(x y:AV):Ed s x=Ed s y:=by
 cases s with
 |one s=>exact aA3 h x y
 |agg _=>exact aD
 |eJ _ _=>exact aD
def aam{lk:Nat->AV}:∀{es:List (Nat×Sh)} {pre post:ak},Kx lk es=true->Ox es pre.length (pre++(Bu lk es++post))=GV lk es
 | [],_,_,_=>rfl
 |e::es,pre,post,h=>by
  simp only [Kx,bw]at h;simp only [Ox,Bu,GV];rw [aaf h.1];cases hc:e.2.vY with
  |true=>
   simp only;rw [aA8 hc .top (lk e.1),aak h.1,aam h.2]
  |false=>
   simp only;have ih:=aam (pre:=pre++[lk e.1]) (post:=post) h.2;rw [fy,cw]at ih;rw [show(pre++(lk e.1::Bu lk es++post)).getD pre.length .top =lk e.1 by simp [List.getD],aak h.1];exact xC ((e.1,lk e.1):: ·) ih
def air:∀{es:List (Nat×Sh)} {env:bL} {pre:ak},DX es env=true->NN es pre.length (pre++env.map (·.2))=env
 | [],[],_,_=>rfl
 |e::es,x::env,pre,h=>by
  simp only [DX,bw]at h;have ih:=air (pre:=pre++[x.2]) h.2;rw [fy,cw]at ih;simp only [NN,jG];rw [show(pre++x.2::env.map (·.2)).getD pre.length .top =x.2 by simp [List.getD],aak h.1.2,<-dX h.1.1];exact xC (x:: ·) ih
 | [],_::_,_,h=>SE
 |_::_,[],_,h=>SE
def az7{es:List (Nat×Sh)}{env:bL}(h:DX es env=true):NN es 0 (env.map (·.2))=env:=air (pre:=[]) h
def wy(es:List (AV×AV)):aU (bz es)=es:=by
 unfold aU bz;rw [IT]
 induction es with
 |nil=>rfl
 |cons e es ih=>simp only [jG,ih];rfl
def aje{s:gp}{b:eE}(h:okB s b=true):oz s (yd b)=b:=by
 unfold okB at h;split at h
 ·simp only [oz,yd,AV.rows];rw [eq_of_beq h]
 ·simp only [oz,yd,AV.rows];rw [eq_of_beq h]
 ·rw [bw]at h;simp only [oz,yd,AV.cells];rw [ZR h.2,eq_of_beq h.1]
 ·simp only [oz,yd,AV.cells];rw [eq_of_beq h]
 ·rw [bw,bw]at h;simp only [oz,yd,AV.rows];rw [wy,eq_of_beq h.1.1,eq_of_beq h.1.2,eq_of_beq h.2]
 ·rw [bw,bw]at h;simp only [oz,yd,AV.cells];rw [az7 h.1.2,dX h.1.1,ajr h.2]
 ·rfl
 ·exact aD
def aA9{s:gp}(h:s.vY=true)(x y:AV):oz s x=oz s y:=by cases s<;>first|rfl|cases h
def aal:∀{ss:List gp} {M:aF} {pre:ak},G9 ss M=true->Ov ss pre.length (pre++F9 ss M)=M
 | [],[],_,_=>rfl
 |s::ss,b::M,pre,h=>by
  simp only [G9,bw]at h;simp only [Ov,F9];cases hc:s.vY with
  |true=>
   simp only;rw [aA9 hc .top (yd b),aje h.1,aal h.2]
  |false=>
   simp only;have ih:=aal (pre:=pre++[yd b]) h.2;rw [fy,cw]at ih;rw [show(pre++yd b::F9 ss M).getD pre.length .top =yd b by simp [List.getD],aje h.1];exact xC (b:: ·) ih
 | [],_::_,_,h=>SB
 |_::_,[],_,h=>SB
def abI{lk:Nat->AV}:∀(es:List (Nat×Sh)),nE es=(Bu lk es).length
 | []=>rfl
 |e::es=>by
  simp only [nE,Bu];cases e.2.vY with
  |true=>exact abI es
  |false=>simp only [fk,abI (lk:=lk) es]
def Jz(σ:ax)(bC:dx)(st:St):ak:=pack σ (λt=>iM (idx bC) 4 (look st.env t)) (tC st.mem bC)
def QM{bC:dx}(h:zK σ bC st=true):unpack σ (Jz σ bC st)=Jq σ bC st:=by
 unfold zK at h;rw [bw,bw]at h;unfold unpack Jz pack Jq ap6;have U:=aam (pre:=[]) (post:=F9 σ.mem (tC st.mem bC)) h.1.2;have h2:=aal (pre:=Bu (λt=>iM (idx bC) 4 (look st.env t)) σ.env) h.2;rw [<-abI]at h2;rw [h2,aag h.2];exact xC (λe=>(⟨e,_,[],.tJ⟩:St)) U
structure Wy where
 cv:List Cv
 bC:St->dx
variable{w:Wy}
abbrev UO:=Nat×ak
variable{L:mO UO}{o:UO}{g:ak->Option UO}
section
variable {O:Type}
def HG(X:Cx)(m:Nat)(w:Wy)(σ:ax)(st:St)(f:ak->Option O):Option O:=
 kB X w.cv st λcm=>bf (zK σ (w.bC cm) cm&&pre m (w.bC cm)&&cm.kR.isEmpty) (f (Jz σ (w.bC cm) cm))
def ahr(hX:X.Ok){f:ak->Option O}{o:O}(h:HG X m w σ st f=some o):
 ∃l,f l=some o/\∀{nt:Nt} {rdc:Cy} {w0:World} {S:Sc} {F:bD} {ρ:bJ} {a:Act} {w:World},Inv X w0 S F ρ st.mem w->iz X nt st rdc F ρ a w->
  ∃F' ρ',Inv X w0 S F' ρ' (unpack σ l).mem w/\iz X nt (unpack σ l) rdc F' ρ' a w/\uw m F F' ρ ρ' w w:=by
 obtain⟨cm,h,e1,e2,hr⟩:=wj hX w.cv h;replace h:=cO h;obtain⟨U,h⟩:=h;rw [bw,bw]at U;obtain⟨⟨U,h2⟩,h3⟩:=U;refine⟨_,h,λ{nt rdc w0 S F ρ a w'} hI hs=> ?_⟩;obtain⟨F1,ρ1,i1,s1,g1⟩:=hr (nt:=nt) (rdc:=rdc) (a:=a) hI hs;obtain⟨bB,kl,_⟩:=Q7 U;rw [QM U];refine⟨F1,sub sk ρ1 (w.bC cm),?_,⟨Y3 hX U i1 s1.env,s1.size,?_,s1.rd,s1.kept⟩,?_⟩
 ·have:=(i1.anZ hX bB sk).1;rw [<-kl]at this;exact this
 ·have:=s1.defs;have hd:cm.kR=[]:=by simpa using h3
  rw [hd]at this;exact this
 ·refine(g1.toF m).trans ⟨λ_ h=>h,λid hd hm hh=> ?_,λ_ _=>rfl⟩;have:=aBl h2 hm;rw [Sa this (fK.1 hh).1];exact hh
end
structure Ow where
 e:Ex
 w:Wy
 σ:ax
variable{xs:List Ow}
def UC:Ex->Ex->Bool
 | .normal,.normal =>true
 | .ret,.ret =>true
 | .exit i,.exit j=>Nat.beq i j
 |_,_=>false
def aB1{a b:Ex}(h:UC a b=true):a=b:=by
 cases a<;>cases b<;>simp only [UC,nP]at h
 ·rfl
 ·exact Je
 ·rfl
def fits(X:Cx)(w:Wy)(σ:ax)(st:St):Bool:=match kB X w.cv st (λcm=>some (zK σ (w.bC cm) cm))with|some b=>b|none=>false
def ap7(e:Ex):List Ow->Bool
 | []=>false
 |x::xs=>match UC x.e e with|true=>true|false=>ap7 e xs
def Cs(X:Cx)(m:Nat):List Ow->Nat->Ex->St->Option UO
 | [],_,_,_=>none
 |x::xs,i,e,st=>
  match UC x.e e with
  |false=>Cs X m xs (i+1) e st
  |true=>
   match ap7 e xs with
   |false=>HG X m x.w x.σ st λl=>some (i,l)
   |true=>match fits X x.w x.σ st with|true=>HG X m x.w x.σ st λl=>some (i,l)|false=>Cs X m xs (i+1) e st
def TW(X:Cx)(m:Nat)(st:St)(σ:ax)(o:UO):Prop:=
 ∀{nt:Nt} {rdc:Cy} {w0:World} {S:Sc} {F:bD} {ρ:bJ} {a:Act} {w:World},Inv X w0 S F ρ st.mem w->iz X nt st rdc F ρ a w->
  ∃F' ρ',Inv X w0 S F' ρ' (unpack σ o.2).mem w/\iz X nt (unpack σ o.2) rdc F' ρ' a w/\uw m F F' ρ ρ' w w
def aiX(hX:X.Ok){i:Nat}(h:HG X m w σ st (λl=>some (i,l))=some o):o.1=i/\TW X m st σ o:=by
 obtain⟨l,h,hr⟩:=ahr hX h;injection h with h;subst h;exact⟨rfl,hr⟩
def YX(hX:X.Ok){m:Nat}{e:Ex}{st:St}{o:UO}:∀{xs:List Ow} {i:Nat},Cs X m xs i e st=some o->∃j x,xs[j]?=some x/\x.e=e/\o.1=i+j/\TW X m st x.σ o
 | [],i,h=>aD
 |x::xs,i,h=>by
  have next:Cs X m xs (i+1) e st=some o->∃j y,(x::xs)[j]?=some y/\y.e=e/\o.1=i+j/\TW X m st y.σ o:=by
   intro h;obtain⟨j,y,U,h2,h3,h4⟩:=YX hX h;exact⟨j+1,y,U,h2,by omega,h4⟩
  simp only [Cs]at h;split at h
  ·exact next h
  ·rename_i he;split at h
   ·exact akA
   ·split at h
    ·exact akA
    ·exact next h
def Pm:List Ow->Nat->UO->(Ex->St->Option R)->Option R
 | [],_,_,_=>none
 |x::xs,i,o,k=>
  match xs with
  | []=>k x.e (unpack x.σ o.2)
  |_::_=>match Nat.beq o.1 i with|true=>k x.e (unpack x.σ o.2)|false=>Pm xs (i+1) o k
def alY{o:UO}{k:Ex->St->Option R}:∀{xs:List Ow} {i j:Nat} {x:Ow},xs[j]?=some x->o.1=i+j->Pm xs i o k=k x.e (unpack x.σ o.2)
 | [],i,j,x,h,_=>gU
 |y::ys,i,0,x,h,ho=>by
  simp at h;subst h;cases ys with
  |nil=>rfl
  |cons z zs=>simp only [Pm];rw [ho];simp
 |y::ys,i,j+1,x,h,ho=>by
  cases ys with
  |nil=>exact gU
  |cons z zs=>
   have hb:Nat.beq o.1 i=false:=ali;rw [Pm];simp only [hb];exact alY (qc) (by omega)
def aEi(X:Cx)(m:Nat)(bk:Wy)(σ:ax)(xs:List Ow)(LF:ak->Option UO)(e:Ex)(st:St):Option UO:=
 match e with
 | .normal =>HG X m bk σ st LF
 | .exit i=>Cs X m xs 0 (.exit i) st
 | .ret =>Cs X m xs 0 .ret st
def DB(X:Cx)(L:mO UO)(c:Code)(p m:Nat)(bk:Wy)(σ:ax)(xs:List Ow):Nat->ak->Option UO
 |0,_=>none
 |n+1,l=>qq X L c (2*p) (unpack σ l) (aEi X m bk σ xs (DB X L c p m bk σ xs n))
def adn(X:Cx)(L:mO UO)(c:Code)(p m:Nat)(σ:ax)(xs:List Ow)(l:ak):Option UO:=qq X L c p (unpack σ l) (Cs X m xs 0)
abbrev RW:=Fence->Nat->(Exit->Act->World->Prop)->Act->World->Prop
def amb(X:Cx)(nt:Nt)(W:RW)(st:St)(e:Exit)(aV:St):Prop:=
 ∀{rdc:Cy} {n:Nat} {w0:World} {S:Sc} {F:bD} {ρ:bJ} {a:Act} {w:World} {Q:Exit->Act->World->Prop},Inv X w0 S F ρ st.mem w->iz X nt st rdc F ρ a w->
  (∀a' w' F' ρ',Inv X w0 S F' ρ' aV.mem w'->iz X nt aV rdc F' ρ' a' w'->Grow F F' ρ ρ' w w'->Q e a' w')->W (nK rdc.r) n Q a w
def aDk(X:Cx)(nt:Nt)(W:RW)(m:Nat)(st:St)(e:Exit)(aV:St):Prop:=
 ∀{rdc:Cy} {n:Nat} {w0:World} {S:Sc} {F:bD} {ρ:bJ} {a:Act} {w:World} {Q:Exit->Act->World->Prop},Inv X w0 S F ρ st.mem w->iz X nt st rdc F ρ a w->
  (∀a' w' F' ρ',Inv X w0 S F' ρ' aV.mem w'->iz X nt aV rdc F' ρ' a' w'->uw m F F' ρ ρ' w w'->Q e a' w')->W (nK rdc.r) n Q a w
abbrev wpW(X:Cx)(c:Code):RW:=λF n Q a w=>c.wpIn F n X.P Q a w
abbrev B7(X:Cx)(c:Code)(N:Nat):RW:=λF n Q a w=>Code.roundsIn F n X.P c Q N a w
def acg(X:Cx)(nt:Nt)(W:RW)(m:Nat)(σ:ax)(xs:List Ow)(f:ak->Option UO):Prop:=
 ∀l o,f l=some o->∃j x,xs[j]?=some x/\o.1=j/\aDk X nt W m (unpack σ l) (Ex.pd x.e) (unpack x.σ o.2)
abbrev adt(X:Cx)(nt:Nt)(c:Code):=acg X nt (wpW X c)
def aB6(hX:X.Ok)(hL:L.Ok X root)(fX:At root p c):adt X L.dV.nt c m σ xs (adn X L c p m σ xs):=by
 intro l o h;obtain⟨e,lL,du,hk⟩:=wk hX hL c fX h;obtain⟨j,x,U,h2,h3,h4⟩:=YX hX hk;refine⟨j,x,U,by omega,λ{rdc n w0 S F ρ a w Q} hI hs hq=> ?_⟩;refine du hI hs λa' w' F' ρ' eZ c7 hg=> ?_;obtain⟨F2,ρ2,i2,s2,g2⟩:=h4 eZ c7;rw [<-h2];exact hq a' w' F2 ρ2 i2 s2 ((hg.toF m).trans g2)
def X6(hX:X.Ok){root c:Code}{p m:Nat}{L:mO UO}(hL:L.Ok X root)(fX:At root p (.loop c)){bk:Wy}{σ:ax}{xs:List Ow}:
 ∀(fuel:Nat) {l:ak} {o:UO},DB X L c p m bk σ xs fuel l=some o->∃j x,xs[j]?=some x/\o.1=j/\∀{rdc:Cy} {n:Nat} {w0:World} {S:Sc} {F:bD} {ρ:bJ} {a:Act} {w:World} {Q:Exit->Act->World->Prop},
  Inv X w0 S F ρ (unpack σ l).mem w->iz X L.dV.nt (unpack σ l) rdc F ρ a w->
  (∀a' w' F' ρ',Inv X w0 S F' ρ' (unpack x.σ o.2).mem w'->iz X L.dV.nt (unpack x.σ o.2) rdc F' ρ' a' w'->uw m F F' ρ ρ' w w'->Q (Ex.pd x.e) a' w')->Code.roundsIn (nK rdc.r) n X.P c Q fuel a w
 |0,l,o,h=>aD
 |fuel+1,l,o,h=>by
  simp only [DB]at h;obtain⟨e,aV,du,h⟩:=wk hX hL c (fX.down false λl hl=>yI) h;have out:e≠ .normal ->Cs X m xs 0 e aV=some o->∃j x,xs[j]?=some x/\o.1=j/\∀{rdc:Cy} {n:Nat} {w0:World} {S:Sc} {F:bD} {ρ:bJ} {a:Act} {w:World} {Q:Exit->Act->World->Prop},
   Inv X w0 S F ρ (unpack σ l).mem w->iz X L.dV.nt (unpack σ l) rdc F ρ a w->
   (∀a' w' F' ρ',Inv X w0 S F' ρ' (unpack x.σ o.2).mem w'->iz X L.dV.nt (unpack x.σ o.2) rdc F' ρ' a' w'->uw m F F' ρ ρ' w w'->Q (Ex.pd x.e) a' w')->Code.roundsIn (nK rdc.r) n X.P c Q (fuel+1) a w:=by
   intro eY hg;obtain⟨j,x,U,h2,h3,h4⟩:=YX hX hg;refine⟨j,x,U,by omega,λ{rdc n w0 S F ρ a w Q} hI hs hq=> ?_⟩;rw [RI];refine du hI hs λa' w' F' ρ' eZ c7 hg=> ?_;obtain⟨F2,ρ2,i2,s2,g2⟩:=h4 eZ c7;have:=hq a' w' F2 ρ2 i2 s2 ((hg.toF m).trans g2);rw [h2]at this;cases e with
   |normal=>exact absurd rfl eY
   |exit i=>exact this
   |ret=>exact this
  cases e with
  |normal=>
   obtain⟨l',h,hr⟩:=ahr hX h;obtain⟨j,x,U,h2,h3⟩:=X6 hX hL fX fuel h;refine⟨j,x,U,h2,λ{rdc n w0 S F ρ a w Q} hI hs hq=> ?_⟩;rw [RI];refine du hI hs λa' w' F' ρ' eZ c7 hg=> ?_;obtain⟨F2,ρ2,i2,s2,g2⟩:=hr eZ c7;exact h3 i2 s2 λHO tI xv wN GO GL N2=>hq HO tI xv wN GO GL ((hg.toF m).trans (g2.trans N2))
  |exit i=>exact out (by simp) h
  |ret=>exact out (by simp) h
def aAr(hX:X.Ok)(hL:L.Ok X root)(fX:At root p (.loop c)){bk:Wy}{fuel:Nat}:adt X L.dV.nt (.loop c) m σ xs (DB X L c p m bk σ xs fuel):=by
 intro l o h;obtain⟨j,x,U,h2,h3⟩:=X6 hX hL fX fuel h;exact⟨j,x,U,h2,λ{rdc n w0 S F ρ a w Q} hI hs hq=>My fuel (h3 hI hs hq)⟩
def JI(X:Cx)(m mask:Nat)(w:Wy)(σ:ax)(xs:List Ow)(nt:Nt)(f:ak->Option UO)(st:St)(k:Ex->St->Option R):Option R:=
 kB X w.cv st λcm=>
  bf (zK σ (w.bC cm) cm&&Nat.beq (nt.mask&&&mask) mask&&cm.kR.isEmpty)
   (match f (Jz σ (w.bC cm) cm)with
    |none=>none
    |some o=>Pm xs 0 o λe so=>bf (IY m cm.mem (w.bC cm) so.mem) (k e (Ta m mask (w.bC cm) cm so)))
def agr(hX:X.Ok){W:RW}{f:ak->Option UO}(hf:acg X ⟨nt.n,mask⟩ W m σ xs f)
 (h:JI X m mask w σ xs nt f st k=some r):∃e aV,amb X nt W st (Ex.pd e) aV/\k e aV=some r:=by
 unfold JI at h;obtain⟨cm,h,e1,e2,mD⟩:=wj hX w.cv h;replace h:=cO h;obtain⟨U,h⟩:=h;rw [bw,bw]at U;obtain⟨⟨U,abZ⟩,D4⟩:=U;have D4:cm.kR=[]:=by simpa using D4
 have abZ:nt.mask&&&mask=mask:=dX abZ;split at h
 ·cases h
 ·rename_i o ho;obtain⟨j,x,hx,hj,du⟩:=hf _ _ ho;rw [alY hx (by omega)]at h;replace h:=cO h;obtain⟨hm,h⟩:=h;refine⟨_,_,λ{rdc n w0 S F ρ a w' Q} hI hs hq=> ?_,h⟩;obtain⟨F1,ρ1,i1,s1,g1⟩:=mD (nt:=nt) (rdc:=rdc) (a:=a) hI hs;obtain⟨bB,kl,_⟩:=Q7 U;have J9:=i1.sub hX bB sk;refine du (rdc:=⟨rdc.r,rdc.db,λt=>a.tmps.getD t undef⟩) (n:=n) (w0:=w') (S:=hand ρ1 cm.mem (w.bC cm) F1) (F:=F1) (ρ:=sub sk ρ1 (w.bC cm)) (a:=a) (w:=w')
   (by rw [QM U,kl];exact J9)
   ⟨by rw [QM U];exact Y3 hX U i1 s1.env,s1.size,by have:=s1.defs;rw [D4]at this;exact this,s1.rd,λ_ _=>rfl⟩ ?_
  intro a' tI F' ρ' eZ c7 lQ;obtain⟨i3,g3,r3⟩:=i1.merge hX bB sk eZ lQ hm;refine hq a' tI F' _ i3 ⟨λt=> ?_,c7.size,?_,c7.rd,λt ht=> ?_⟩ (g1.trans g3)
  ·rcases agB (GC (qJ m (w.bC cm) cm.mem.length) 4 (unpack x.σ o.2).env) (cm.env.filter (λp=> !mask.testBit p.1)) t with e|e
   ·simp only [Ta];rw [e];exact(c7.env.iM hX r3 4) t
   ·simp only [Ta];rw [e];rcases ahn mask cm.env t with e'|⟨hb,e'⟩
    ·rw [e'];exact .top _
    ·rw [e'];have hk:=c7.kept t hb;rw [hk];exact(s1.env t).grow g3
  ·have hd:=c7.defs;simp only [Ta];rw [D4];exact hd
  ·have hb:mask.testBit t=false:=by
    rw [<-abZ,Nat.testBit_and,ht,yu]
   have hk:=c7.kept t hb;rw [hk];exact s1.kept t ht
def agQ(hX:X.Ok){f:ak->Option UO}(hf:adt X ⟨nt.n,mask⟩ c m σ xs f)
 (h:JI X m mask w σ xs nt f st k=some r):∃e aV,sE X nt c st (Ex.pd e) aV/\k e aV=some r:=agr hX hf h
def abH(X:Cx)(L:mO R)(c:Code)(p:Nat)(next:(Ex->St->Option R)->St->Option R)(st:St)(k:Ex->St->Option R):Option R:=
 qq X L c p st λe aV=>match e with| .normal =>next k aV| .exit i=>k (.exit i) aV| .ret =>k .ret aV
def aAn(hX:X.Ok){N:Nat}{L:mO R}(hL:L.Ok X root)(fX:At root p (.loop c)){next:(Ex->St->Option R)->St->Option R}
 (hn:∀{st k r},next k st=some r->∃e aV,amb X L.dV.nt (B7 X c N) st (Ex.pd e) aV/\k e aV=some r)    (h:abH X L c (2*p) next st k=some r):
 ∃e aV,sE X L.dV.nt (.loop c) st (Ex.pd e) aV/\k e aV=some r:=by
 unfold abH at h;obtain⟨e,cm,du,h⟩:=wk hX hL c (fX.down false λl hl=>yI) h;cases e with
 |normal=>
  obtain⟨e',aV,hr,hk⟩:=hn h;refine⟨e',aV,λ{rdc n w0 S F ρ a w Q} hI hs hq=>My (N+1) ?_,hk⟩;exact amF
 |exit i=>
  refine⟨.exit i,cm,λ{rdc n w0 S F ρ a w Q} hI hs hq=>My 1 ?_,h⟩;exact Ty
 |ret=>
  refine⟨.ret,cm,λ{rdc n w0 S F ρ a w Q} hI hs hq=>My 1 ?_,h⟩;exact Ty
def dec:Nat->Nat->List Bool
 |0,_=>[]
 |n+1,p=>match Nat.ble p 1 with|true=>[]|false=>Nat.beq (p %2) 1::dec n (p/2)
def ai4:∀l:List Bool,l.length<enc l
 | []=>by simp [enc]
 |b::l=>by have:=ai4 l;simp only [enc,fk];cases b<;>simp<;>omega
def ai8:∀(l:List Bool) (n:Nat),l.length<=n->dec n (enc l)=l
 | [],0,_=>rfl
 | [],n+1,_=>rfl
 |b::l,0,h=>gU
 |b::l,n+1,h=>by
  have U:=Sl l;have h2:Nat.ble (enc (b::l)) 1=false:=by
   cases hq:Nat.ble (enc (b::l)) 1 with
   |false=>rfl
   |true=>have:=zI hq;simp only [enc]at this;omega
  simp only [dec,h2];have ih:=ai8 l n (qc);have e1:enc (b::l)/2=enc l:=by simp only [enc];cases b<;>simp<;>omega
  have e2:Nat.beq (enc (b::l) %2) 1=b:=by
   cases b
   ·have:enc (false::l) %2=0:=by simp only [enc];simp
    exact kg
   ·have:enc (true::l) %2=1:=by simp only [enc,bU];omega
    exact kg
  rw [e1,e2,ih]
def AR(root:Code)(p:Nat):Option Code:=F6 root (dec p p)
def al6(h:At root p c):AR root p=some c:=by
 obtain⟨l,U,h2⟩:=h;subst U;unfold AR;rw [ai8 l _ (Nat.le_of_lt (ai4 l)),h2]
def VB(root:Code)(p:Nat):Code:=match AR root p with|some c=>c|none=> .skip
def Cw(root:Code)(p:Nat):Code:=match AR root p with|some (.loop c)=>c|_=> .skip
def gOf(root:Code)(p:Nat):Operand:=match AR root p with|some (.rangeFunc g _ _ _)=>g|_=> .func 0
def Ud(root:Code)(p:Nat):Bool:=match AR root p with|some (.rangeFunc _ _ _ _)=>Nat.beq (enc (dec p p)) p|_=>false
def Tl(nt:Nat)(root:Code)(p:Nat):Site:=match AR root p with|some (.rangeFunc _ ps a b)=>⟨nt,ps,a,b⟩|_=>⟨0,#[],.skip,.skip⟩
structure Pc where
 p:Nat
 lp:Bool
 m:Nat
 mask:Nat
 σ:ax
 en:Wy
 bk:Wy
 xs:List Ow
inductive lT where
 |nil
 |pc(q:Pc)(eu:lT)
 |rg(p s:Nat)(wW:dx)(f:FuncId)(fn:Func)(qk eu:lT)
 |ur(p n:Nat)(eu:lT)
 |pl(q:Pc)(eu:lT)
abbrev YT(R:Type):=Nat->ak->aF->(AV->aF->Option R)->Option R
def full(n:Nat):Nat:=2^n- 1
def ow(fn:Func):Code:=fn.body.getD .skip
def Om(p:Nat)(e:se R)(L:mO R):mO R:={L with loop:=λq=>match Nat.beq q p with|true=>e|false=>L.loop q}
def adq(p:Nat)(e:se R)(L:mO R):mO R:={L with range:=λq=>match Nat.beq q p with|true=>e|false=>L.range q}
def ads(p:Nat)(e:se R)(L:mO R):mO R:={L with cut:=λq=>match Nat.beq q p with|true=>some e|false=>L.cut q}
def TQ(s:Nat)(e y:YT R):YT R:=λid args M k=>
 match gm M id with
 |some (.loop s' _ _ _)=>(match Nat.beq s' s with|true=>e id args M k|false=>y id args M k)
 |_=>none
def aai{root:Code}{p:Nat}{e:se R}{L:mO R}(h:L.Ok X root)(he:al9 X root L.dV.nt (p,e)):(Om p e L).Ok X root where
 dV:=h.dV
 range:=h.range
 cut:=h.cut
 loop:=λ{q c st k r} fX hr=>by
  simp only [Om]at hr;cases hb:Nat.beq q p with
  |true=>
   exact akx
  |false=>rw [hb]at hr;exact h.loop fX hr
def aCe{root:Code}{p:Nat}{e:se R}{L:mO R}(h:L.Ok X root)(he:aja X root L.dV.nt (p,e)):(adq p e L).Ok X root where
 dV:=h.dV
 loop:=h.loop
 cut:=h.cut
 range:=λ{q g ps a b st k r} fX hr=>by
  simp only [adq]at hr;cases hb:Nat.beq q p with
  |true=>
   exact akx
  |false=>rw [hb]at hr;exact h.range fX hr
def aCf{root:Code}{p:Nat}{e:se R}{L:mO R}(h:L.Ok X root)(he:anx X root L.dV.nt (p,e)):(ads p e L).Ok X root where
 dV:=h.dV
 loop:=h.loop
 range:=h.range
 cut:=λ{q c f st k r} fX hf hr=>by
  simp only [ads]at hf;split at hf
  ·rename_i hb;have:=dX hb;subst this;injection hf with hf;subst hf;exact he fX hr
  ·exact h.cut fX hf hr
def aA1{s:Nat}{e y:YT R}(he:HP X e)(hy:HP X y):HP X (TQ s e y):=by
 intro id args M k r h;unfold TQ at h;rw [fR]at h;split at h
 ·split at h
  ·exact he h
  ·exact hy h
 ·exact aD
def NU(X:Cx)(root:Code)(q:Pc)(L:mO UO)(N:Nat)(l:ak):Option UO:=
 match q.lp with
 |true=>DB X L (Cw root q.p) q.p q.m q.bk q.σ q.xs N l
 |false=>adn X L (VB root q.p) q.p q.m q.σ q.xs l
def ou(X:Cx)(N:Nat)(cs:(R:Type)->List (CE R)):Func->((R:Type)->YT R)->lT->Nat->(R:Type)->mO R
 |fn,y,.nil,mask,R=>amy ⟨fn.ntmps,mask⟩ (cs R) (y R) [] [] []
 |fn,y,.pc q eu,mask,R=>
  match q.lp with
  |true=>Om q.p (JI X q.m q.mask q.en q.σ q.xs ⟨fn.ntmps,mask⟩ (NU X (ow fn) q (ou X N cs fn y eu q.mask UO) N)) (ou X N cs fn y eu mask R)
  |false=>ads q.p (JI X q.m q.mask q.en q.σ q.xs ⟨fn.ntmps,mask⟩ (NU X (ow fn) q (ou X N cs fn y eu q.mask UO) N)) (ou X N cs fn y eu mask R)
 |fn,y,.pl q eu,mask,R=>Om q.p (abH X (ou X N cs fn y eu mask R) (Cw (ow fn) q.p) (2*q.p) λk st=>JI X q.m q.mask q.en q.σ q.xs ⟨fn.ntmps,mask⟩ (DB X (ou X N cs fn y eu q.mask UO) (Cw (ow fn) q.p) q.p q.m q.bk q.σ q.xs N) st k) (ou X N cs fn y eu mask R)
 |fn,y,.ur p n eu,mask,R=>Om p (Su X (ou X N cs fn y eu mask R) (Cw (ow fn) p) (2*p) n) (ou X N cs fn y eu mask R)
 |fn,y,.rg p s wW f gn qk eu,mask,R=>
  adq p (Z3 X (aaB ⟨fn.ntmps,mask⟩ (inl f (Oe X (ou X N cs gn (λR=>TQ s (Sk X (ou X N cs fn y eu (full fn.ntmps) R) s p) (y R)) qk (full gn.ntmps) R) (ow gn) gn.results.toList))) s wW (gOf (ow fn) p)) (ou X N cs fn y eu mask R)
structure Enters(X:Cx)(f:FuncId)(fn:Func):Prop where
 at_:X.P.funcs[f]?=some fn
 body:fn.body.isSome=true
 name:(fn.name== "runtime.NumGoroutine")=false
def Enters.cd(h:Enters X f fn):fn.body=some (ow fn):=by
 have:=h.body;unfold ow;cases hb:fn.body with
 |none=>rw [hb]at this;cases this
 |some c=>rfl
def Enters.call(h:Enters X f fn)(vs:Array Value)(w:World):(callFunc f vs).run X.P w= .ok (.enter f vs) w:=enters h.at_ h.cd h.name vs w
def DK(X:Cx):Func->lT->Prop
 |_,.nil =>True
 |fn,.pc _ eu=>DK X fn eu
 |fn,.pl _ eu=>DK X fn eu
 |fn,.ur _ _ eu=>DK X fn eu
 |fn,.rg p s _ f gn qk eu=>(X.site s=Tl fn.ntmps (ow fn) p/\Ud (ow fn) p=true/\Enters X f gn/\DK X gn qk)/\DK X fn eu
def ui{N:Nat}{cs:(R:Type)->List (CE R)}:∀(eu:lT) (fn:Func) (y:(R:Type)->YT R) (mask:Nat) (R:Type),(ou X N cs fn y eu mask R).dV.nt =⟨fn.ntmps,mask⟩
 | .nil,_,_,_,_=>rfl
 | .pc q eu,fn,y,mask,R=>by
   simp only [ou];split
   ·exact ui eu fn y mask R
   ·exact ui eu fn y mask R
 | .ur _ _ eu,fn,y,mask,R=>ui eu fn y mask R
 | .pl _ eu,fn,y,mask,R=>ui eu fn y mask R
 | .rg _ _ _ _ _ _ eu,fn,y,mask,R=>ui eu fn y mask R
def aBf(h:Ud root p=true):∃g ps a b,AR root p=some (.rangeFunc g ps a b)/\At root p (.rangeFunc g ps a b):=by
 unfold Ud at h;split at h
 ·rename_i g ps a b hc;exact⟨g,ps,a,b,hc,dec p p,dX h,hc⟩
 ·exact aD
def Bg(hX:X.Ok){N:Nat}{cs:(R:Type)->List (CE R)}(qn:∀R,nB (yX X) (cs R)):
 ∀(eu:lT) {fn:Func} {y:(R:Type)->YT R} (_:∀R,HP X (y R)) (_:DK X fn eu) (mask:Nat) (R:Type),(ou X N cs fn y eu mask R).Ok X (ow fn)
 | .nil,fn,y,hy,_,mask,R=>aAo (qn R) (hy R) trivial trivial trivial
 | .pl q eu,fn,y,hy,h,mask,R=>by
   have hi:=Bg (N:=N) hX qn eu hy h mask R;have hq:=Bg (N:=N) hX qn eu hy h q.mask UO;refine aai hi ?_;intro c st k r fX hr;have hc:Cw (ow fn) q.p=c:=aaX;simp only at hr;rw [hc]at hr;refine aAn hX hi fX (N:=N) (λ{st k r} h=> ?_) hr;have hp:acg X (ou X N cs fn y eu q.mask UO).dV.nt (B7 X c N) q.m q.σ q.xs (DB X (ou X N cs fn y eu q.mask UO) c q.p q.m q.bk q.σ q.xs N):=λl o ho=>X6 hX hq fX N ho;rw [ui]at hp;rw [ui];exact agr hX hp h
 | .ur p n eu,fn,y,hy,h,mask,R=>by
   have hi:=Bg (N:=N) hX qn eu hy h mask R;refine aai hi ?_;intro c st k r fX hr;have hc:Cw (ow fn) p=c:=aaX;simp only at hr;rw [hc]at hr;obtain⟨e,aV,hk,hr⟩:=af9 hX hi fX n hr;exact⟨e,aV,λ{rdc n w0 S F ρ a w Q} hI hs hq=>My _ (hr hI hs hq),hk⟩
 | .pc q eu,fn,y,hy,h,mask,R=>by
   have hi:=Bg (N:=N) hX qn eu hy h mask R;have hq:=Bg (N:=N) hX qn eu hy h q.mask UO;simp only [ou];split
   ·rename_i hlp;refine aai hi ?_;intro c st k r fX hr;have hc:Cw (ow fn) q.p=c:=aaX;have hp:=aAr (m:=q.m) (bk:=q.bk) (σ:=q.σ) (xs:=q.xs) (fuel:=N) hX hq fX;rw [ui]at hp;rw [ui];refine agQ hX (f:=NU X (ow fn) q (ou X N cs fn y eu q.mask UO) N) (c:= .loop c) ?_ hr;exact akW
   ·rename_i hlp;refine aCf hi ?_;intro c st k r fX hr;have hc:VB (ow fn) q.p=c:=by unfold VB;rw [al6 fX]
    have hp:=aB6 (m:=q.m) (σ:=q.σ) (xs:=q.xs) hX hq fX;rw [ui]at hp;rw [ui];refine agQ hX (f:=NU X (ow fn) q (ou X N cs fn y eu q.mask UO) N) (c:=c) ?_ hr;exact akW
 | .rg p s wW f gn qk eu,fn,y,hy,h,mask,R=>by
   have hi:=λmask R=>Bg (N:=N) hX qn eu hy h.2 mask R;obtain⟨⟨hs,vO,zm,uA⟩,_⟩:=h;obtain⟨g,ps,a,b,hc,fX⟩:=aBf vO;have Gi:X.site s=⟨fn.ntmps,ps,a,b⟩:=by rw [hs];unfold Tl;rw [hc]
   have hyk:∀R,HP X (TQ s (Sk X (ou X N cs fn y eu (full fn.ntmps) R) s p) (y R)):=by
    intro R;refine aA1 ?_ (hy R);intro id args M k r hr;refine axD hX (hi (full fn.ntmps) R) (g:=g) (ps:=ps) ?_ hr;rw [Gi];exact fX
   have hk:=Bg (N:=N) hX qn qk hyk uA (full gn.ntmps) R;refine aCe (hi mask R) ?_;intro g' rF a' b' st k r aK1 hr;have:=aK1.det (dec p p) (dX (by unfold Ud at vO;rw [hc]at vO;exact vO));unfold AR at hc;rw [hc]at this;injection this with this;injection this with e1 e2 e3 e4;subst e1;subst e2;subst e3;subst e4;have hg:gOf (ow fn) p=g:=by unfold gOf AR;rw [hc]
   rw [ui];simp only [hg]at hr;refine axE hX (T:=aaB ⟨fn.ntmps,mask⟩ _) (azJ (aCZ (g:=f) λ{args M k r} h=> ?_)) Gi hr;exact YE hX hk zm.at_ zm.cd (by rw [ui]) zm.call rfl h
structure Rw where
 w:Wy
 σ:ax
def aoV(j:Nat):List (Nat×Nat×Nat)->Nat->ak->Option Nat
 | [],_,_=>none
 |p::ps,k,xs=>match Nat.beq p.1 j with|true=>some (xs.getD k .top).id |false=>aoV j ps (k+1) xs
def aoZ(j:Nat)(s:eD)(x:AV):Option Nat:=
 match s with
 | .au i| .ptr i _ _| .jz i| .mpr i| .vw i=>match Nat.beq i j with|true=>some x.id|false=>none
 | .cl _ ps=>aoV j ps 0 x.gV
 |_=>none
def Uf(j:Nat):List eD->Nat->ak->Option Nat
 | [],_,_=>none
 |s::ss,k,xs=>match aoZ j s (xs.getD k .top)with|some i=>some i|none=>Uf j ss (k+1) xs
def aoU(j:Nat)(s:Sh)(x:AV):Option Nat:=
 match s with
 | .one s=>aoZ j s x
 | .agg ss=>Uf j ss 0 x.cells
 | .eJ _ ss=>Uf j ss 0 x.gV
def aoX(j:Nat)(st:St):List (Nat×Sh)->Option Nat
 | []=>none
 |e::es=>match aoU j e.2 (look st.env e.1)with|some i=>some i|none=>aoX j st es
def aoW(j:Nat):List (Nat×Sh)->Nat->bL->Option Nat
 | [],_,_=>none
 |e::es,k,l=>match aoU j e.2 (l.getD k (0,.top)).2 with|some i=>some i|none=>aoW j es (k+1) l
def aoY(j:Nat)(st:St):List gp->dx->Option Nat
 |b::bs,i::is=>
  match(match b with| .var _ ss=>Uf j ss 0 (st.mem.getD i .dead).cells | .loop _ es _=>aoW j es 0 (st.mem.getD i .dead).acT |_=>none)with
  |some n=>some n
  |none=>aoY j st bs is
 |_,_=>none
def an3(m:Nat)(σ:ax)(st:St):Nat->dx->dx
 |0,acc=>acc
 |n+1,acc=>an3 m σ st n (acc++[match Nat.blt acc.length m with|true=>acc.length|false=>match aoX acc.length st σ.env with|some i=>i|none=>(aoY acc.length st σ.mem acc).getD 0])
def Du(m:Nat)(σ:ax)(st:St):dx:=an3 m σ st σ.mem.length []
inductive Cl where
 |fn(v:Nat)
 |fc(v:Nat)(c:List Cv)
 |acQ(v:Nat)(ps:List (Nat×TypeId))
 |inl(f:FuncId)(fn:Func)(eu:lT)
 |ext(g:ak->Option UO)
 |Uo(t:TypeId)(v vn ve:Nat)
 |Eg(f:FuncId)(t:TypeId)
structure FD where
 f:FuncId
 fn:Func
 na:Nat
 nr:Nat
 m:Nat
 σ:ax
 outs:List Rw
 calls:List Cl
 eu:lT
variable{d:FD}
def DU(nr:Nat)(env:bL):AV:=match nr with|1=>look env 0|n=> .eV (DJ n env)
def Pj(X:Cx)(m:Nat):List Rw->Nat->St->Option UO
 | [],_,_=>none
 |x::xs,i,st=>
  match xs with
  | []=>HG X m x.w x.σ st λl=>some (i,l)
  |_::_=>match fits X x.w x.σ st with|true=>HG X m x.w x.σ st λl=>some (i,l)|false=>Pj X m xs (i+1) st
def acM(X:Cx)(m nr:Nat)(outs:List Rw)(x:AV)(M:aF):Option UO:=
 match nr with
 |1=>Pj X m outs 0 ⟨[(0,x)],M,[],.tJ⟩
 |n=>match x with| .eV xs=>bf (Nat.beq xs.length n) (Pj X m outs 0 ⟨qz 0 xs,M,[],.tJ⟩)|_=>none
def YY(hX:X.Ok){m:Nat}{st:St}{o:UO}:∀{xs:List Rw} {i:Nat},Pj X m xs i st=some o->∃j x,xs[j]?=some x/\o.1=i+j/\TW X m st x.σ o
 | [],i,h=>aD
 | [x],i,h=>aky
 |x::y::xs,i,h=>by
  rw [Pj]at h;split at h
  ·exact aky
  ·obtain⟨j,z,U,h2,h3⟩:=YY hX h;exact⟨j+1,z,U,by omega,h3⟩
def uE(X:Cx)(d:FD)(g:ak->Option UO):Prop:=
 ∀l o,g l=some o->∃j x,d.outs[j]?=some x/\o.1=j/\yF X d.f d.m (DJ d.na (unpack d.σ l).env) (unpack d.σ l).mem (DU d.nr (unpack x.σ o.2).env) (unpack x.σ o.2).mem
def azd(hX:X.Ok){nr:Nat}{outs:List Rw}{M1:aF}(hc:wH X f args M x M1)(h:acM X m nr outs x M1=some o):
 ∃j y,outs[j]?=some y/\o.1=j/\yF X f m args M (DU nr (unpack y.σ o.2).env) (unpack y.σ o.2).mem :=by
 unfold acM at h;split at h
 ·obtain⟨j,y,U,h2,hr⟩:=YY hX h;refine⟨j,y,U,by omega,λ{w0 S F ρ w vs} hI zZ=> ?_⟩;refine(hc.2 hI zZ).mono ?_;rintro e w' ⟨v,ρ',F',rfl,eZ,hg,hx⟩;obtain⟨F2,ρ2,i2,s2,g2⟩:=hr (nt:=⟨1,0⟩) (rdc:=⟨none,λ_=>False,λt=>(#[v]:Array Value).getD t undef⟩) (a:={tmps:= #[v],defers:=[]}) eZ ⟨λt=>by
   simp only [sy,look_nil]
   by_cases ht:t=0
   ·subst ht;simpa using hx
   ·have:(t==0)=false:=by simpa using ht
    simp only [this,nP,lI];exact .top _,rfl,Marks.nil _ _ (λ_ h=>h.elim),.inl rfl,λ_ _=>rfl⟩
  exact⟨v,ρ2,F2,rfl,i2,(hg.toF m).trans g2,s2.env 0⟩
 ·rename_i Hu;split at h
  ·rename_i xs;replace h:=cO h;obtain⟨hn,h⟩:=h;have hn:xs.length=nr:=dX hn;obtain⟨j,y,U,h2,hr⟩:=YY hX h;refine⟨j,y,U,by omega,λ{w0 S F ρ w vs} hI zZ=> ?_⟩;refine(hc.2 hI zZ).mono ?_;rintro e w' ⟨v,ρ',F',rfl,eZ,hg,hx⟩;cases hx with
   |eV cs us hl zj=>
    obtain⟨F2,ρ2,i2,s2,g2⟩:=hr (nt:=⟨us.length,0⟩) (rdc:=⟨none,λ_=>False,λt=>us.toArray.getD t undef⟩) (a:={tmps:=us.toArray,defers:=[]}) eZ ⟨ahk ⟨hl,zj⟩,by simp,Marks.nil _ _ (λ_ h=>h.elim),.inl rfl,λ_ _=>rfl⟩;refine⟨.tuple us.toArray,ρ2,F2,rfl,i2,(hg.toF m).trans g2,?_⟩;have hr3:=ahW s2.env;rw [hl,hn]at hr3;have e:DU nr (unpack y.σ o.2).env = .eV (DJ nr (unpack y.σ o.2).env):=by
     unfold DU;split
     ·exact absurd rfl Hu
     ·rfl
    rw [e];exact .eV _ us hr3.1 hr3.2
  ·exact aD
def KX(nr:Nat):List Rw->Nat->UO->(AV->aF->Option R)->Option R
 | [],_,_,_=>none
 |x::xs,i,o,k=>
  match xs with
  | []=>k (DU nr (unpack x.σ o.2).env) (unpack x.σ o.2).mem
  |_::_=>match Nat.beq o.1 i with|true=>k (DU nr (unpack x.σ o.2).env) (unpack x.σ o.2).mem |false=>KX nr xs (i+1) o k
def alZ{nr:Nat}{o:UO}{k:AV->aF->Option R}:∀{xs:List Rw} {i j:Nat} {x:Rw},xs[j]?=some x->o.1=i+j->KX nr xs i o k=k (DU nr (unpack x.σ o.2).env) (unpack x.σ o.2).mem
 | [],i,j,x,h,_=>gU
 |y::ys,i,0,x,h,ho=>by
  simp at h;subst h;cases ys with
  |nil=>rfl
  |cons z zs=>simp only [KX];rw [ho];simp
 |y::ys,i,j+1,x,h,ho=>by
  cases ys with
  |nil=>exact gU
  |cons z zs=>
   have hb:Nat.beq o.1 i=false:=ali;rw [KX];simp only [hb];exact alZ (qc) (by omega)
def TT(X:Cx)(d:FD)(w:Wy)(g:ak->Option UO)(args:ak)(M:aF)(k:AV->aF->Option R):Option R:=
 bf (Nat.beq args.length d.na) (kB X w.cv ⟨qz 0 args,M,[],.tJ⟩ λcm=>
  bf (zK d.σ (w.bC cm) cm)
   (match g (Jz d.σ (w.bC cm) cm)with
    |none=>none
    |some o=>KX d.nr d.outs 0 o λx Mc=>bf (IY d.m cm.mem (w.bC cm) Mc) (k (iM (qJ d.m (w.bC cm) cm.mem.length) 4 x) (merge d.m cm.mem (w.bC cm) Mc))))
def wR(x:AV):dx:=x.cells.flatMap lJ
def aiZ{k:Kind}{c:AV->aF->Option R}(h:kZ k x M c=some r):
 ∃x' M',c x' M'=some r/\(∀{β:Type} (c':AV->aF->Option β),kZ k x M c'=c' x' M')/\dc (lJ x) M M'/\(∀id∈lJ x',id∈lJ x)/\(x'=x∨∃t ys,x'= .ae t ys):=by
 unfold kZ at h⊢;split at h
 ·exact⟨_,_,h,λ_=>rfl,dc.refl _ _,(λid hi=>aaG),.inr ⟨_,_,rfl⟩⟩
 ·rename_i t id;split at h
  ·rename_i t' xs hb;obtain⟨U,h⟩:=cO h;exact⟨_,_,h,λc'=>by simp only [hb,U,bf],by simpa [lJ]using dc.set M id _,(λi hi=>aaG),.inr ⟨_,_,rfl⟩⟩
  ·rename_i t' xs hb;obtain⟨U,h⟩:=cO h;exact⟨_,_,h,λc'=>by simp only [hb,U,bf],dc.refl _ _,(λi hi=>aaG),.inr ⟨_,_,rfl⟩⟩
  ·exact aD
 ·exact⟨_,_,h,λ_=>rfl,dc.refl _ _,λ_ h=>h,.inl rfl⟩
def aic:∀(ks:er) (xs:ak) (M:aF) {c:ak->aF->Option R} {r:R},uB ks xs M c=some r->
 ∃jN M',c jN M'=some r/\(∀{β:Type} (c':ak->aF->Option β),uB ks xs M c'=c' jN M')/\dc (xs.flatMap lJ) M M'/\∀id∈jN.flatMap lJ,id∈xs.flatMap lJ
 | [],xs,M,c,r,h=>⟨xs,M,h,λ_=>rfl,dc.refl _ _,λ_ h=>h⟩
 |k::ks,[],M,c,r,h=>⟨[],M,h,λ_=>rfl,dc.refl _ _,λ_ h=>h⟩
 |k::ks,x::xs,M,c,r,h=>by
  obtain⟨x',M1,h,d1,a1,o1,_⟩:=aiZ (show kZ k x M (λx' M'=>uB ks xs M' λjN v8=>c (x'::jN) v8)=some r from h);obtain⟨jN,M2,h,d2,a2,o2⟩:=aic ks xs M1 h;refine⟨x'::jN,M2,h,λc'=> ?_,?_,λid hi=> ?_⟩
  ·show kZ k x M (λx' M'=>uB ks xs M' λjN v8=>c' (x'::jN) v8)=_;rw [d1,d2]
  ·rw [zF];exact a1.trans a2
  ·rw [zF,mE]at hi⊢;rcases hi with hi|hi
   ·exact .inl (o1 id hi)
   ·exact .inr (o2 id hi)
def Cv.OS:Cv->Bool| .kZ _ _=>true| .nZ _ _=>true|_=>false
def R0{A:dx}{k:St->Option R}{r:R}:∀(cs:List Cv) {st:St},cs.all Cv.OS=true->kB X cs st k=some r->(∀t,∀id∈wR (look st.env t),id∈A)->
 ∃aV,k aV=some r/\(∀{β:Type} (k':St->Option β),kB X cs st k'=k' aV)/\dc A st.mem aV.mem
 | [],st,_,h,_=>⟨st,h,λ_=>rfl,dc.refl _ _⟩
 |c::cs,st,hf,h,hA=>by
  rw [Dg,bw]at hf;have low:∀{t:Nat} {x:AV},(∀id∈wR x,id∈A)->∀u,∀id∈wR (look ((t,x)::st.env) u),id∈A:=λ{t x} hx u id hi=>by
   simp only [sy,look_nil]at hi
   by_cases hu:u=t
   ·subst hu;simp at hi;exact hx id hi
   ·have:(u==t)=false:=by simpa using hu
    simp only [this,nP,lI]at hi;exact hA u id hi
  cases c with
  |kZ t kd=>
   obtain⟨x,M1,h,d1,a1,o1,e1⟩:=aiZ (show kZ kd (look st.env t) st.mem (λx M=>kB X cs {st with env:=(t,x)::st.env,mem:=M} k)=some r from h);have oc:∀{y:AV} {id:Nat},id∈lJ y->id∈wR y:=λ{y id} h=>by
    cases y<;>simp_all [lJ,wR,AV.cells]
   have hx:∀id∈wR x,id∈A:=λid hi=>by
    rcases e1 with rfl|⟨t',ys,rfl⟩
    ·exact hA t id hi
    ·simp [wR,AV.cells,lJ]at hi
   obtain⟨aV,h,d2,a2⟩:=R0 cs hf.2 h (low hx);refine⟨aV,h,λk'=> ?_,?_⟩
   ·show kZ kd (look st.env t) st.mem (λx M=>kB X cs {st with env:=(t,x)::st.env,mem:=M} k')=_;rw [d1,d2]
   ·exact((a1.mono λi hi=>hA t i (oc hi)).trans a2).mono λi hi=>Jj
  |nZ t ks=>
   simp only [kB]at h⊢;cases hl:look st.env t with
   |agg xs=>
    rw [hl]at h;obtain⟨U,h⟩:=cO h;obtain⟨ys,M1,h,d1,a1,o1⟩:=aic _ _ _ h;have ha:∀id∈xs.flatMap lJ,id∈A:=λid hi=>hA t id (by rw [hl];exact hi);obtain⟨aV,h,d2,a2⟩:=R0 cs hf.2 h (low λid hi=>ha id (o1 id hi));refine⟨aV,h,λk'=> ?_,((a1.mono ha).trans a2).mono λi hi=>Jj⟩;simp only [U,bf];rw [d1,d2]
   |_=>
    rw [hl]at h;obtain⟨aV,h,d2,a2⟩:=R0 cs hf.2 h hA;exact⟨aV,h,λk'=>d2 k',a2⟩
  |_=>cases hf.1
def No(args:ak):dx:=args.flatMap wR
def ay7:∀(j:Nat) (t:Nat),∀id∈wR (look (qz j args) t),id∈No args:=by
 induction args with
 |nil=>intro j t id hi;simp [qz,look_nil,wR,AV.cells,lJ]at hi
 |cons x xs ih=>
  intro j t id hi;simp only [qz,sy,look_nil]at hi;unfold No;rw [zF,mE]
  by_cases ht:t=j
  ·subst ht;simp at hi;exact .inl hi
  ·have:(t==j)=false:=by simpa using ht
   simp only [this,nP,lI]at hi;exact .inr (ih _ _ id hi)
def ay5(hX:X.Ok)(hg:uE X d g)(hc:∀(vs:Array Value) (w:World),(callFunc d.f vs).run X.P w= .ok (.enter d.f vs) w)
   {k:AV->aF->Option R}  (h:TT X d w g args M k=some r):∃x M',wH X d.f args M x M'/\k x M'=some r/\(w.cv=[]->dc (w.bC ⟨qz 0 args,M,[],.tJ⟩) M M')/\(w.cv.all Cv.OS=true->∀s,kB X w.cv ⟨qz 0 args,M,[],.tJ⟩ (λcm=>some (w.bC cm))=some s->dc (No args++s) M M'):=by
 unfold TT at h;replace h:=cO h;obtain⟨hna,h⟩:=h;have hna:args.length=d.na:=dX hna;have aKD:∃cm,(bf (zK d.σ (w.bC cm) cm) (match g (Jz d.σ (w.bC cm) cm)with|none=>none|some o=>KX d.nr d.outs 0 o λx Mc=>bf (IY d.m cm.mem (w.bC cm) Mc) (k (iM (qJ d.m (w.bC cm) cm.mem.length) 4 x) (merge d.m cm.mem (w.bC cm) Mc))))=some r/\(w.cv=[]->cm=⟨qz 0 args,M,[],.tJ⟩)/\(w.cv.all Cv.OS=true->(∀{β:Type} (k':St->Option β),kB X w.cv ⟨qz 0 args,M,[],.tJ⟩ k'=k' cm)/\dc (No args) M cm.mem)/\
  ∀{nt:Nt} {rdc:Cy} {w0:World} {S:Sc} {F:bD} {ρ:bJ} {a:Act} {w:World},Inv X w0 S F ρ M w->iz X nt ⟨qz 0 args,M,[],.tJ⟩ rdc F ρ a w->∃F' ρ',Inv X w0 S F' ρ' cm.mem w/\iz X nt cm rdc F' ρ' a w/\Grow F F' ρ ρ' w w:=by
  cases mD:w.cv with
  |nil=>rw [mD]at h;exact⟨_,h,λ_=>rfl,λ_=>⟨λ_=>rfl,dc.refl _ _⟩,λ{nt rdc w0 S F ρ a w} hI hs=>⟨F,ρ,hI,hs,Grow.refl _ _ _⟩⟩
  |cons c cs=>
   rw [mD]at h;cases hf:(c::cs).all Cv.OS with
   |false=>
    obtain⟨cm,h,_,_,mD⟩:=wj hX (c::cs) h;exact⟨cm,h,(λe=>by cases e),(λe=>by cases e),mD⟩
   |true=>
    obtain⟨cm,h,hd,ha⟩:=R0 (c::cs) hf h (λt id hi=>ay7 0 t id hi);obtain⟨lL,e,_,_,mD⟩:=wj hX (k:=λs=>some s) (c::cs) (hd _);injection e with e;subst e;exact⟨_,h,(λe=>by cases e),(λ_=>⟨hd,ha⟩),mD⟩
 clear h;obtain⟨cm,h,aKK,jP,mD⟩:=aKD;replace h:=cO h;obtain⟨U,h⟩:=h;split at h
 ·cases h
 ·rename_i o ho;obtain⟨j,y,hy,hj,hf⟩:=hg _ _ ho;rw [alZ hy (by omega)]at h;replace h:=cO h;obtain⟨hm,h⟩:=h;refine⟨_,_,⟨hc,λ{w0 S F ρ w' vs} hI hr=> ?_⟩,h,(λe=>by rw [aKK e];exact agA),λhf s hs=>by
   rw [(jP hf).1]at hs;injection hs with hs;subst hs;exact(jP hf).2.trans agA⟩
  obtain⟨F1,ρ1,i1,s1,g1⟩:=mD (nt:=⟨vs.length,0⟩) (rdc:=⟨none,λ_=>False,λt=>vs.toArray.getD t undef⟩) (a:={tmps:=vs.toArray,defers:=[]}) hI ⟨ahk hr,by simp,Marks.nil _ _ (λ_ h=>h.elim),.inl rfl,λ_ _=>rfl⟩;obtain⟨bB,kl,_⟩:=Q7 U;have J9:=i1.sub hX bB sk;have N3:=Y3 hX U i1 s1.env;have zZ:=ahW N3;have hl:vs.length=d.na:=by rw [hr.1];exact hna
  rw [hl]at zZ;rw [QM U]at hf;have Bz:=hf (w0:=w') (S:=hand ρ1 cm.mem (w.bC cm) F1) (F:=F1) (ρ:=sub sk ρ1 (w.bC cm)) (w:=w') (vs:=vs) (by rw [kl];exact J9) zZ;refine Bz.mono ?_;rintro e tI ⟨v,ρ',F',rfl,eZ,lQ,hx⟩;obtain⟨i3,g3,r3⟩:=i1.merge hX bB sk eZ lQ hm;exact⟨v,_,F',rfl,i3,g1.trans g3,hx.iM hX.kinds r3 4⟩
def kC(cv:List Cv)(M:aF)(k:AV->aF->Option R)(x:AV)(M':aF):Option R:=match cv with| []=>k x M'|_::_=>bf (Nat.ble M.length M'.length) (k x M')
def wC(X:Cx)(w:Wy)(args:ak)(M:aF):Option dx:=
 match w.cv with
 | []=>some (w.bC ⟨qz 0 args,M,[],.tJ⟩)
 |_::_=>match w.cv.all Cv.OS with
  |true=>(match kB X w.cv ⟨qz 0 args,M,[],.tJ⟩ (λcm=>some (w.bC cm))with|some s=>some (No args++s)|none=>none)
  |false=>some (List.range M.length)
def Oi(X:Cx)(d:FD)(w:Wy)(g:ak->Option UO)(R:Type):CE R:=
 ⟨d.f,λargs M=>fits X w d.σ ⟨qz 0 args,M,[],.tJ⟩,wC X w,λargs M k=>TT X d w g args M (kC w.cv M k)⟩
def Sn(hX:X.Ok)(hg:uE X d g)(hc:∀(vs:Array Value) (w:World),(callFunc d.f vs).run X.P w= .ok (.enter d.f vs) w):yX X (Oi X d w g R):=by
 intro args M k r h;have h':TT X d w g args M (kC w.cv M k)=some r:=h;obtain⟨x,M',U,h2,h3,h4⟩:=ay5 hX hg hc h';cases mD:w.cv with
 |nil=>
  rw [mD]at h2;refine⟨x,M',U,h2,λids hi=> ?_⟩;have hi:wC X w args M=some ids:=hi;unfold wC at hi;rw [mD]at hi;injection hi with hi;subst hi;exact h3 mD
 |cons c cs=>
  rw [mD]at h2;obtain⟨hle,h2⟩:=cO (show bf _ _=some r from h2);refine⟨x,M',U,h2,λids hi=> ?_⟩;have hi:wC X w args M=some ids:=hi;unfold wC at hi;rw [mD]at hi;simp only at hi;rw [mD]at h4;split at hi
  ·rename_i hf;split at hi
   ·rename_i s hs;injection hi with hi;subst hi;exact h4 hf s hs
   ·cases hi
  ·injection hi with hi;subst hi;exact⟨zI hle,λi hi hn=>absurd (Bf.2 hi) hn⟩
def xX(t:TypeId):Option UO->Bool
 |some (0,[.ae t' []])=>Nat.beq t' t
 |_=>false
def aiV{o:Option UO}(h:xX t o=true):o=some (0,[.ae t []]):=by
 unfold xX at h;split at h
 ·exact Je
 ·exact aD
def DZ(t:TypeId)(gn ge g:ak->Option UO)(l:ak):Option UO:=
 match(l.getD 0 .top).rows with
 | []=>bif xX t (gn [])&&xX t (ge [])then some (0,[.ae t []])else none
 |_::_=>g l
def MR(t:TypeId):List Rw->Bool
 | [⟨_,⟨[(0,.one (.au 0))],[.row t']⟩⟩]=>Nat.beq t' t
 |_=>false
def Bj(t:TypeId)(b:Nat):ax->Bool
 |⟨[(0,.one (.cell (.slice t')))],[]⟩=>Nat.beq b 0&&Nat.beq t' t
 |⟨[(0,.one .jI)],[]⟩=>Nat.beq b 1
 |⟨[(0,.one .mS)],[]⟩=>Nat.beq b 2
 |_=>false
def aaD(t:TypeId)(d dn de:FD):Bool:=
 Nat.beq dn.f d.f&&Nat.beq de.f d.f&&Nat.beq d.na 1&&Nat.beq dn.na 1&&Nat.beq de.na 1&&Nat.beq d.nr 1&&Nat.beq dn.nr 1&&Nat.beq de.nr 1&&Nat.beq d.m 0&&Nat.beq dn.m 0&&Nat.beq de.m 0&&
  Bj t 0 d.σ&&Bj t 1 dn.σ&&Bj t 2 de.σ&&MR t d.outs&&MR t dn.outs&&MR t de.outs
def YQ{xs:List Rw}(h:MR t xs=true):∃w,xs=[⟨w,⟨[(0,.one (.au 0))],[.row t]⟩⟩]:=by
 unfold MR at h;split at h
 ·rename_i w t';exact⟨w,Je⟩
 ·exact aD
def aBt(h:Bj t 0 σ=true):σ=⟨[(0,.one (.cell (.slice t)))],[]⟩:=by
 unfold Bj at h;split at h
 ·rw [bw]at h;rw [dX h.2]
 ·exact aD
 ·exact aD
 ·exact aD
def aBs(h:Bj t 1 σ=true):σ=⟨[(0,.one .jI)],[]⟩:=by
 unfold Bj at h;split at h
 ·exact aD
 ·rfl
 ·exact aD
 ·exact aD
def aBr(h:Bj t 2 σ=true):σ=⟨[(0,.one .mS)],[]⟩:=by
 unfold Bj at h;split at h
 ·exact aD
 ·exact aD
 ·rfl
 ·exact aD
def aBw{dn de:FD}{gn ge:ak->Option UO}(hq:aaD t d dn de=true)(h:uE X d g)(hn:uE X dn gn)(he:uE X de ge):uE X d (DZ t gn ge g):=by
 simp only [aaD,bw]at hq;obtain⟨⟨⟨⟨⟨⟨⟨⟨⟨⟨⟨⟨⟨⟨⟨⟨q1,q2⟩,q3⟩,q4⟩,q5⟩,q6⟩,q7⟩,q8⟩,q9⟩,rD⟩,xb⟩,y4⟩,G7⟩,y0⟩,G6⟩,G5⟩,B8⟩:=hq;intro l o ho;unfold DZ at ho;split at ho
 ·rename_i hl;have ht:(xX t (gn [])&&xX t (ge []))=true/\o=(0,[.ae t []]):=by
   cases hc:(xX t (gn [])&&xX t (ge []))with
   |false=>rw [hc]at ho;cases ho
   |true=>rw [hc]at ho;exact⟨rfl,by injection ho with ho;exact ho.symm⟩
  obtain⟨ht,rfl⟩:=ht;rw [bw]at ht;have U:=hn _ _ (aiV ht.1);have h2:=he _ _ (aiV ht.2);obtain⟨w,e⟩:=YQ G6;obtain⟨wn,en⟩:=YQ G5;obtain⟨we,ee⟩:=YQ B8;refine⟨0,_,by rw [e];rfl,rfl,?_⟩;rw [aBt y4,dX q3,dX q6,dX q9];obtain⟨jn,xn,U9,Hy,Vn⟩:=U;obtain⟨je,xe,zd,hje,hce⟩:=h2;subst Hy;subst hje;rw [en]at U9;rw [ee]at zd;injection U9 with U9;injection zd with zd;subst U9;subst zd;rw [aBs G7,dX q4,dX q7,dX rD,dX q1]at Vn;rw [aBr y0,dX q5,dX q8,dX xb,dX q2]at hce;intro w0 S F ρ w vs hI hv;have ig:dm X.K ρ F w [.ae t (l.getD 0 .top).rows] vs:=hv;rw [hl]at ig;obtain⟨hlen,nm⟩:=ig
  match vs,hlen with
  | [v],_=>
    have hr:=nm 0 _ v rfl rfl;have one:∀{x:AV},a8 X.K ρ F w x v->dm X.K ρ F w [x] [v]:=λhx=>⟨rfl,λj y u hy hu=>by
     cases j with
     |zero=>simp at hy hu;subst hy;subst hu;exact hx
     |succ j=>simp at hy⟩
    cases hr with
    |ng=>exact Vn hI (one .jI)
    |ae _ _ a cap vss ko=>exact hce hI (one (.mS a cap))
 ·exact h l o ho
def FW:aY->Option bQ
 | []=>some []
 |r::rs=>match r with
  | [.int .i64 n]=>(match FW rs with|some l=>some (n::l)|none=>none)
  |_=>none
def qX(l:bQ):aY:=l.map λn=>[AV.int .i64 n]
def qa(l:bQ):bQ:=l.mergeSort λx y=>decide (x<=y)
def ahp:∀{rs:aY} {l:bQ},FW rs=some l->rs=qX l
 | [],l,h=>aaW
 |r::rs,l,h=>by
  unfold FW at h;split at h
  ·rename_i n;split at h
   ·rename_i l' hl;injection h with h;subst h;rw [ahp hl];rfl
   ·exact aD
  ·exact aD
def an1(t:TypeId):ak->Option UO
 | [.ae _ (x::xs)]=>match FW (x::xs)with|some zs=>bf (Nat.ble zs.length 4611686018427387903) (some (0,[.ae t (qX (qa zs))]))|none=>none
 |_=>none
def abC(t:TypeId):ax->Bool
 |⟨[(0,.one (.au 0))],[.row t']⟩=>Nat.beq t' t
 |_=>false
def aar(t:TypeId):List Rw->Bool
 | [⟨_,⟨[],[.row t']⟩⟩]=>Nat.beq t' t
 |_=>false
def Gy(d:FD)(l:ak):Option UO:=
 match d.calls with
 | .Eg f t::_=>(match Nat.beq d.f f&&Nat.beq d.na 1&&Nat.beq d.nr 0&&Nat.beq d.m 1&&abC t d.σ&&aar t d.outs with|true=>an1 t l|false=>none)
 |_=>none
def acf(X:Cx)(f:FuncId)(t:TypeId):Prop:=∀zs:bQ,zs≠ []->zs.length<=4611686018427387903->yF X f 1 [.au 0] [.row t (qX zs)] (.eV []) [.row t (qX (qa zs))]
def aAd(h:abC t σ=true):σ=⟨[(0,.one (.au 0))],[.row t]⟩:=by
 unfold abC at h;split at h
 ·exact Je
 ·exact aD
def azF{xs:List Rw}(h:aar t xs=true):∃w,xs=[⟨w,⟨[],[.row t]⟩⟩]:=by
 unfold aar at h;split at h
 ·rename_i w t';exact⟨w,Je⟩
 ·exact aD
def aBc{cl:List Cl}(hc:d.calls= .Eg f t::cl)(hs:acf X f t){l:ak}(h:Gy d l=some o):
 ∃j x,d.outs[j]?=some x/\o.1=j/\yF X d.f d.m (DJ d.na (unpack d.σ l).env) (unpack d.σ l).mem (DU d.nr (unpack x.σ o.2).env) (unpack x.σ o.2).mem :=by
 unfold Gy at h;rw [hc]at h;simp only at h;split at h
 ·rename_i hq;simp only [bw]at hq;obtain⟨⟨⟨⟨⟨q1,q2⟩,q3⟩,q4⟩,q5⟩,q6⟩:=hq;unfold an1 at h;split at h
  ·rename_i u x xs;split at h
   ·rename_i zs hz;replace h:=cO h;obtain⟨hlen,h⟩:=h;injection h with h;subst h;have hx:=ahp hz;obtain⟨w,e⟩:=azF q6;refine⟨0,_,by rw [e];rfl,rfl,?_⟩;rw [aAd q5,dX q1,dX q2,dX q3,dX q4];have eY:zs≠ []:=by intro e0;rw [e0]at hx;cases hx
    have key:= @hs zs eY (zI hlen);rw [<-hx]at key;exact @key
   ·exact aD
  ·exact aD
 ·cases h
def DY(R:Type):CE R:=⟨0,λ_ _=>false,λ_ _=>none,λ_ _ _=>none⟩
def FJ:yX X (DY R):=by intro args M k r h;cases h
def aEL(e:CE R)(ps:List (Nat×TypeId)):CE R:=⟨e.f,λargs M=>e.test (FN ps args) M,λargs M=>e.wr (FN ps args) M,λargs M k=>e.run (FN ps args) M k⟩
def aEM(X:Cx)(L:mO R)(f:FuncId)(fn:Func):CE R:=
 ⟨f,λ_ _=>true,λ_ M=>some (List.range M.length),λargs M k=>Oe X L (ow fn) fn.results.toList args M λx M'=>bf (Nat.ble M.length M'.length) (k x M')⟩
def vZ(X:Cx)(N:Nat)(E:List FD)(G:Nat->ak->Option UO):List Cl->(R:Type)->List (CE R)
 | [],_=>[]
 | .fn v::cl,R=>(match E[v]? with|none=>DY R|some d=>Oi X d ⟨[],Du 0 d.σ⟩ (G v) R)::vZ X N E G cl R
 | .fc v c::cl,R=>(match E[v]? with|none=>DY R|some d=>Oi X d ⟨c,Du 0 d.σ⟩ (G v) R)::vZ X N E G cl R
 | .acQ v ps::cl,R=>(match E[v]? with|none=>DY R|some d=>aEL (Oi X d ⟨[],Du 0 d.σ⟩ (G v) R) ps)::vZ X N E G cl R
 | .inl f fn eu::cl,R=>aEM X (ou X N (vZ X N E G cl) fn (λ_=>OM) eu (full fn.ntmps) R) f fn::vZ X N E G cl R
 | .ext _::cl,R=>DY R::vZ X N E G cl R
 | .Eg _ _::cl,R=>DY R::vZ X N E G cl R
 | .Uo t v vn ve::cl,R=>(match E[v]?,E[vn]?,E[ve]? with|some d,some dn,some de=>(match aaD t d dn de with|true=>Oi X d ⟨[],Du 0 d.σ⟩ (DZ t (G vn) (G ve) (G v)) R|false=>DY R)|_,_,_=>DY R)::vZ X N E G cl R
def ap0(d:FD):Option (ak->Option UO):=match d.calls with| .ext g::_=>some g|_=>none
def Gp(X:Cx)(d:FD):Prop:=match ap0 d with|some g=>uE X d g|none=>True
def bN(X:Cx)(E:List FD)(G:Nat->ak->Option UO)(N v:Nat)(l:ak):Option UO:=
 match E[v]? with
 |none=>none
 |some d=>match ap0 d with
  |some g=>g l
  |none=>match Gy d l with
  |some o=>some o
  |none=>Oe X (ou X N (vZ X N E G d.calls) d.fn (λ_=>OM) d.eu (full d.fn.ntmps) UO) (ow d.fn) d.fn.results.toList (DJ d.na (unpack d.σ l).env) (unpack d.σ l).mem (acM X d.m d.nr d.outs)
def FU(X:Cx)(E:List FD):Nat->Nat->ak->Option UO
 |0,_,_=>none
 |N+1,v,l=>bN X E (FU X E N) N v l
def adu(X:Cx):Cl->Prop
 | .inl f fn eu=>Enters X f fn/\DK X fn eu
 | .Eg f t=>acf X f t
 |_=>True
def UM(X:Cx)(d:FD):Prop:=Enters X d.f d.fn/\DK X d.fn d.eu/\nB (adu X) d.calls/\Gp X d
def nB.at{α:Type}{P:α->Prop}:∀{l:List α} {i:Nat} {a:α},nB P l->l[i]?=some a->P a
 | [],i,a,_,h=>gU
 |b::l,0,a,h,hi=>by simp at hi;subst hi;exact h.1
 |b::l,i+1,a,h,hi=>nB.at h.2 (Jj)
def Bq(hX:X.Ok){N:Nat}{E:List FD}(hE:nB (UM X) E){G:Nat->ak->Option UO}(hG:∀v d,E[v]?=some d->uE X d (G v)):∀{cl:List Cl},nB (adu X) cl->∀R,nB (yX X) (vZ X N E G cl R)
 | [],_,R=>trivial
 | .fn v::cl,h,R=>⟨by
    split
    ·exact FJ
    ·rename_i d hd;exact Sn hX (hG v d hd) (hE.at hd).1.call,Bq hX hE hG h.2 R⟩
 | .fc v c::cl,h,R=>⟨by
    split
    ·exact FJ
    ·rename_i d hd;exact Sn hX (hG v d hd) (hE.at hd).1.call,Bq hX hE hG h.2 R⟩
 | .acQ v ps::cl,h,R=>⟨by
    split
    ·exact FJ
    ·rename_i d hd;exact aCJ (Sn hX (hG v d hd) (hE.at hd).1.call) ps _,Bq hX hE hG h.2 R⟩
 | .inl f fn eu::cl,h,R=>by
   obtain⟨⟨zm,xZ⟩,fh⟩:=h;refine⟨aBK λ{args M k r} hr=> ?_,Bq hX hE hG fh R⟩;exact YE hX (Bg hX (Bq hX hE hG fh) eu (λ_=>ajt) xZ (full fn.ntmps) R) zm.at_ zm.cd (by rw [ui]) zm.call rfl hr
 | .ext _::cl,h,R=>⟨FJ,Bq hX hE hG h.2 R⟩
 | .Eg _ _::cl,h,R=>⟨FJ,Bq hX hE hG h.2 R⟩
 | .Uo t v vn ve::cl,h,R=>⟨by
    split
    ·rename_i d dn de hd hdn hde;split
     ·rename_i hq;exact Sn hX (aBw hq (hG v d hd) (hG vn dn hdn) (hG ve de hde)) (hE.at hd).1.call
     ·exact FJ
    ·exact FJ,Bq hX hE hG h.2 R⟩
def ach(hX:X.Ok){E:List FD}(hE:nB (UM X) E):∀N v d,E[v]?=some d->uE X d (FU X E N v)
 |0,v,d,hd=>by intro l o h;cases h
 |N+1,v,d,hd=>by
  intro l o h;simp only [FU,bN,hd]at h;obtain⟨zm,xZ,fh,hex⟩:=hE.at hd;unfold Gp at hex;split at h
  ·rename_i g hg;rw [hg]at hex;exact hex l o h
  split at h
  ·rename_i o' ho;injection h with h;subst h;cases hc:d.calls with
   |nil=>unfold Gy at ho;rw [hc]at ho;cases ho
   |cons c cl=>
    cases c with
    |Eg f t=>
     rw [hc]at fh;exact aBc hc fh.1 ho
    |_=>unfold Gy at ho;rw [hc]at ho;cases ho
  obtain⟨x,M',U,h2⟩:=YE hX (Bg hX (Bq hX hE (ach hX hE N) fh) d.eu (λ_=>ajt) xZ (full d.fn.ntmps) UO) zm.at_ zm.cd (by rw [ui]) zm.call rfl h;exact azd hX U h2
abbrev gI(l:ak)(j:Nat):Int:=(l.getD j .top).toI
abbrev gB(l:ak)(j:Nat):Bool:=(l.getD j .top).toB
abbrev gS(l:ak)(j:Nat):ByteArray:=(l.getD j .top).toS
abbrev gR(l:ak)(j:Nat):aY:=(l.getD j .top).rows
abbrev gC(l:ak)(j:Nat):ak:=(l.getD j .top).cells
abbrev iI(n:Int):AV:= .int .i64 n
abbrev bH(n:Int):Int:=IntKind.wrap .i64 n
abbrev ln(xs:aY):Int:=(xs.length:Int)
def ib(i:Int)(n:Nat):Bool:=decide (0<=i)&&decide (i<n)
abbrev gA(xs:aY)(j:Nat):Row:=xs.getD j []
def sT(l:ak):bL->ak
 | []=>l
 |e::es=>sT (l.set e.1 e.2) es
def bO(t:Option UO)(f:Nat->ak->Option R):Option R:=match t with|none=>none|some o=>f o.1 o.2
abbrev YF:=Nat->((R:Type)->List (CE R))->(R:Type)->YT R
def yNo:YF:=λ_ _ _=>OM
def lpU(X:Cx)(E:List FD)(cl:List Cl)(fn:Func)(y:YF)(q:Pc)(eu:lT)(G:Nat->ak->Option UO)(N n:Nat)(l:ak):Option UO:=
 DB X (ou X N (vZ X N E G cl) fn (y N (vZ X N E G cl)) eu q.mask UO) (Cw (ow fn) q.p) q.p q.m q.bk q.σ q.xs n l
def ctU(X:Cx)(E:List FD)(cl:List Cl)(fn:Func)(y:YF)(q:Pc)(eu:lT)(G:Nat->ak->Option UO)(N:Nat)(l:ak):Option UO:=
 adn X (ou X N (vZ X N E G cl) fn (y N (vZ X N E G cl)) eu q.mask UO) (VB (ow fn) q.p) q.p q.m q.σ q.xs l
def cI:eD:= .cell (.int .i64)
def cU:eD:= .cell (.int .u8)
def cB:eD:= .cell .bool
def cS(t:TypeId):eD:= .cell (.slice t)
def eI(t:Nat):Nat×Sh:=(t,.one cI)
def eB(t:Nat):Nat×Sh:=(t,.one cB)
def eS(t e:Nat):Nat×Sh:=(t,.one (cS e))
def eO(t j:Nat):Nat×Sh:=(t,.one (.au j))
def eP(t j:Nat):Nat×Sh:=(t,.one (.ptr j 0 0))
def eA(t:Nat)(h:List eD):Nat×Sh:=(t,.agg h)
def OO:eD->Kind
 | .cell (.slice _)=> .any
 | .cell k=>k
 |_=> .any
def bV(h:List eD):gp:= .var (h.map OO) h
def cK(t c:Nat)(ty:TypeId):Cv:= .AF (λenv _=>(look env t).id) c ty
def xN(σ:ax):Ex×List Cv×ax:=(.normal,[],σ)
def xR(σ:ax):Ex×List Cv×ax:=(.ret,[],σ)
def xE(k:Nat)(σ:ax):Ex×List Cv×ax:=(.exit k,[],σ)
def pP(lp:Bool)(q p m mask:Nat)(σ:ax)(xs:List (Ex×List Cv×ax)):Pc:=⟨p,lp,m,mask,σ,⟨[],Du q σ⟩,⟨[],match lp with|true=>Du m σ|false=>λ_=>[]⟩,xs.map λx=>⟨x.1,⟨x.2.1,Du m x.2.2⟩,x.2.2⟩⟩
def pJ:=pP false
def pL:=pP true
def jO(c:List Cv)(q:Pc):Pc:={q with en:=⟨c,q.en.bC⟩}
def bkC(c:List Cv)(q:Pc):Pc:={q with bk:=⟨c,q.bk.bC⟩}
def uY(c:List Cv)(f:FuncId)(fn:Func)(na nr m:Nat)(σ o:ax)(cl:List Cl)(eu:lT):FD:=⟨f,fn,na,nr,m,σ,[⟨⟨c,Du m o⟩,o⟩],cl,eu⟩
def bW:=uY []
def Ee:Nat->lT->lT
 |0,i=>i
 |k+1,.pc _ i=>Ee k i
 |k+1,.pl _ i=>Ee k i
 |k+1,.rg _ _ _ _ _ _ i=>Ee k i
 |k+1,.ur _ _ i=>Ee k i
 |_,.nil => .nil
def hdI:lT->Pc
 | .pc q _=>q
 | .pl q _=>q
 |_=>⟨0,false,0,0,⟨[],[]⟩,⟨[],λ_=>[]⟩,⟨[],λ_=>[]⟩,[]⟩
def dB(X:Cx)(E:List FD)(d:FD)(k:Nat):=lpU X E d.calls d.fn yNo (hdI (Ee k d.eu)) (Ee (k+1) d.eu)
def dw(X:Cx)(E:List FD)(d:FD)(k:Nat):=ctU X E d.calls d.fn yNo (hdI (Ee k d.eu)) (Ee (k+1) d.eu)
def z0:Kind->AV
 | .int k=> .int k 0
 | .bool => .bool false
 | .slice t=> .ae t []
 |_=> .top
end
end Go.aj
namespace Go.aj
def ajX{p:Prop}(h:p:=by
 rintro e w' ⟨rfl,rfl⟩;exact⟨rfl,Below.refl _ _⟩):p:=h
end Go.aj
namespace Go.aj
def e8:=@List.map_eq_nil_iff
end Go.aj
namespace Go.aj
open Go Go.Shelf Go.RowKit Go.Proofs
noncomputable section
variable {R:Type} {X:Cx} {w0 w:World} {S:Sc} {F:bD} {ρ:bJ} {M:aF}
variable{s:ByteArray}{d:FD}{N:Go.Shelf.Ren}{n:Int}{g:Nat}{t:TypeId}
abbrev JW(s:ByteArray):Nat:=s.data.toList.length
abbrev T4(s:ByteArray):aY:=Jr s
abbrev an0(l:List UInt8):ByteArray:=⟨⟨l⟩⟩
abbrev HK(a b:ByteArray):Bool:=AG a.data.toList b.data.toList
def cC(a b:ByteArray)(k:ByteArray->Option R):Option R:=bf (decide (a.data.toList.length+b.data.toList.length<=140737488355328)) (k ⟨⟨a.data.toList++b.data.toList⟩⟩)
def ado(n:Nat)(xs:aY)(k:List UInt8->Option R):Option R:=match bytesOf n xs with|some l=>k l|none=>none
def cQ(n:Int):Bool:=decide (-9223372036854775808<=n)&&decide (n<=9223372036854775807)
def J6(n:Int):ByteArray:=⟨⟨Lib.itoa n⟩⟩
def acO(s:ByteArray)(n:Nat):ByteArray:=⟨⟨Lib.repeatL s.data.toList n⟩⟩
def I8:aY->Option (List ByteArray)
 | []=>some []
 |r::rs=>match r with
  | [.str s]=>(match I8 rs with|some l=>some (s::l)|none=>none)
  |_=>none
def J5(l:List ByteArray)(sep:ByteArray):ByteArray:=⟨⟨Lib.join (l.map (·.data.toList)) sep.data.toList⟩⟩
def Ur(xs:aY)(sep:ByteArray)(k:ByteArray->Option R):Option R:=
 match I8 xs with|some l=>bf (decide (l.length<=140737488355328)&&decide (JW (J5 l sep)<=140737488355328)) (k (J5 l sep))|none=>none
def ahh:∀{rs:aY} {l:List ByteArray},I8 rs=some l->rs=l.map λs=>[AV.str s]
 | [],l,h=>aaW
 |r::rs,l,h=>by
  unfold I8 at h;split at h
  ·rename_i s;split at h
   ·rename_i l' hl;injection h with h;subst h;rw [ahh hl];rfl
   ·exact aD
  ·exact aD
def acY:ak->Option UO
 | [.int .i64 n]=>bf (cQ n) (some (0,[.str (J6 n)]))
 |_=>none
def fmtG:ak->Option UO
 | [.int .i64 n,.int .i64 b]=>bf (cQ n&&decide (b=10)) (some (0,[.str (J6 n)]))
 |_=>none
def acP:ak->Option UO
 | [.str s,.int .i64 n]=>bf (decide (0<=n)&&decide (n<140737488355328)&&decide (JW s*n.toNat<=140737488355328)) (some (0,[.str (acO s n.toNat)]))
 |_=>none
def acW(t:TypeId):ak->Option UO
 | [.ae t' xs,.str sep]=>(match Nat.beq t' t with|true=>Ur xs sep λz=>some (0,[.str z])|false=>none)
 |_=>none
def aJZ:List ByteArray:=[⟨#[]⟩,⟨#[43]⟩,⟨#[45]⟩,⟨#[42]⟩,⟨#[47]⟩,⟨#[114,101,109]⟩,⟨#[109,111,100]⟩,⟨#[61]⟩,⟨#[47,61]⟩,⟨#[60]⟩,⟨#[60,61]⟩,⟨#[62]⟩,⟨#[62,61]⟩,⟨#[97,110,100]⟩,⟨#[111,114]⟩,⟨#[120,111,114]⟩,⟨#[110,101,103]⟩,⟨#[97,98,115]⟩,⟨#[110,111,116]⟩]
abbrev UY(n:Nat):ByteArray:=aJZ.getD n ByteArray.empty
def opG:ak->Option UO
 | [.int .u8 n]=>bf (decide (0<=n)&&decide (n<19)) (some (0,[.str (UY n.toNat)]))
 |_=>none
def Sj{f:FuncId}{m:Nat}{args:ak}
 (h:∀{w0:World} {S:Sc} {F:bD} {ρ:bJ} {w:World} {vs:gz},Inv X w0 S F ρ M w->dm X.K ρ F w args vs->Calls X.P f vs.toArray w λe w'=>e= .returned (.string s)/\Below w.heap.size w w'):
 yF X f m args M (.str s) M:=by
 intro w0 S F ρ w vs hI hv;refine(h hI hv).mono ?_;rintro e w' ⟨rfl,hb⟩;exact⟨.string s,ρ,F,rfl,hI.grown ⟨hb.os,hb.tape,hb.output,hb.size,λk hk _=>hb.block k hk⟩,⟨λ_ h=>h,λ_ _ _ h=>h,λa ha=>hb.block _ (hI.fz a ha)⟩,.str s⟩
def ahP(hI:Inv X w0 S F ρ M w){n:String}{k:IntKind}{zs:bQ}(hn:X.P.globalNamed n=some g)(ht:X.dV=some (g,(zs.map λz=>Value.int k z).toArray)):Lib.TabIs X.P w n k zs:=by
 obtain⟨⟨t,z,U⟩,_,_⟩:=hI.dV g _ ht;simp [Lib.TabIs,World.var?,hn,U]
def ahf(w:World)(k:Nat)(os:Array Obj):Below w.heap.size w (Go.Sort.grow (w.drewN k) os):=
 ⟨rfl,rfl,rfl,by simp [Go.Sort.grow,World.drewN],λi hi=>by simp only [Go.Sort.grow,World.drewN];rw [IU hi]⟩
def dm.two{K:TypeId->er}{x y:AV}{vs:gz}(h:dm K ρ F w [x,y] vs):∃u v,vs=[u,v]/\a8 K ρ F w x u/\a8 K ρ F w y v:=by
 obtain⟨hl,hr⟩:=h
 match vs,hl with
 | [u,v],_=>exact⟨u,v,rfl,hr 0 _ _ rfl rfl,hr 1 _ _ rfl rfl⟩
def aKr(L:LaysM.n171 X.P N)(hn:X.P.globalNamed "internal/strconv.uint64pow10" =some g)(ht:X.dV=some (g,(Lib.pow10Tab.map fun z=>Value.int .u64 z).toArray))(hr:cQ n=true)(m:Nat):
 yF X (N.f 171) m [.int .i64 n] M (.str (J6 n)) M:=by
 refine Sj λ{w0 S F ρ w vs} hI hv=> ?_;obtain⟨v,rfl,h⟩:=dm.one hv;cases h;simp only [cQ,bw,gG]at hr;refine(Any.strconv_Itoa L n hr.1 hr.2 w (ahP hI hn ht)).mono ?_;rintro e w' ⟨rfl,k,os,rfl⟩;exact⟨rfl,ahf w k os⟩
def aLb(L:LaysM.n173 X.P N)(hn:X.P.globalNamed "internal/strconv.uint64pow10" =some g)(ht:X.dV=some (g,(Lib.pow10Tab.map fun z=>Value.int .u64 z).toArray))(hr:cQ n=true)(m:Nat):
 yF X (N.f 173) m [.int .i64 n,.int .i64 10] M (.str (J6 n)) M:=by
 refine Sj λ{w0 S F ρ w vs} hI hv=> ?_;obtain⟨u,v,rfl,h,h2⟩:=dm.two hv;cases h;cases h2;simp only [cQ,bw,gG]at hr;refine(Any.strconv_FormatInt_10 L n hr.1 hr.2 w (ahP hI hn ht)).mono ?_;rintro e w' ⟨rfl,k,os,rfl⟩;exact⟨rfl,ahf w k os⟩
def aJO(L:Lays.n105 X.P N)(B:Builder.Extra X.P N)(h0:0<=n)(U:n<140737488355328)(h2:JW s*n.toNat<=140737488355328)(m:Nat):
 yF X (N.f 105) m [.str s,.int .i64 n] M (.str (acO s n.toNat)) M:=by
 refine Sj λ{w0 S F ρ w vs} hI hv=> ?_;obtain⟨u,v,rfl,h,h3⟩:=dm.two hv;cases h;cases h3;have e:((n.toNat:Nat):Int)=n:=by omega
 have hs:s.size=JW s:=rfl;have:=Any.strings_Repeat L B s n.toNat w (by omega) (by rw [hs];exact h2);rw [e]at this;exact this
def aKn(L:Lays.n156 X.P N)(B:Builder.Extra X.P N)(hK:X.K t=[.str]){l:List ByteArray}{sep:ByteArray}(U:l.length<=140737488355328)(h2:JW (J5 l sep)<=140737488355328)(m:Nat):
 yF X (N.f 156) m [.ae t (l.map λs=>[AV.str s]),.str sep] M (.str (J5 l sep)) M:=by
 refine Sj λ{w0 S F ρ w vs} hI hv=> ?_;obtain⟨u,v,rfl,h,h3⟩:=dm.two hv;cases h3;generalize hx:(l.map λs=>[AV.str s])=xs at h;cases h with
 |ng=>
  have:l=[]:=e8.1 hx;subst this;refine(Any.strings_Join_none L B none 0 sep w).mono ?_;exact ajX
 |ae _ _ a cap vss hl nA mB hk hc h=>
  subst hx;have sN:∀(j:Nat) s,l[j]?=some s->w.cell? (a.add j)=some (.string s):=λj s hj=>by
   have jx:(l.map λs=>[AV.str s])[j]?=some [AV.str s]:=by rw [kG,hj];rfl
   have EW:j<vss.length:=by rw [hl];exact(fK.1 jx).1
   obtain⟨hlen,E2⟩:=hc j _ (dy EW);rw [hK]at hlen E2;obtain⟨v,hv⟩:=ahF.1 hlen;have hv0:(vss[j])[0]?=some v:=by rw [hv];rfl
   have hr:=h j _ _ jx (dy EW) 0 (.str s) v rfl hv0;cases hr;simpa using(E2 0 _ hv0).1
  rcases l with _|⟨s0,l⟩
  ·refine(Any.strings_Join_none L B (some a) cap sep w).mono ?_;exact ajX
  ·have h0:=sN 0 s0 rfl;obtain⟨bk,o,sp⟩:=a;have hsp:sp=none:=by
    cases sp with
    |none=>rfl
    |some q=>
     exfalso;simp [Addr.add,World.cell?]at h0;split at h0<;>cases h0
   subst hsp;have apF:∀j,(⟨bk,o,none⟩:Addr).add j=⟨bk,o+j,none⟩:=λj=>by
    unfold Addr.add
    by_cases hj:j=0
    ·subst hj;simp
    ·simp [hj]
   have:=Any.strings_Join L B bk o cap (s0::l) sep w (λj x hj=>by rw [<-apF];exact sN j x hj) (by have:=ahH w _ h0;rw [apF]at this;exact this) U (by simpa using nA) h2;rw [fY];exact this
def Dl(d:FD):Prop:=(d.outs[0]?).map (·.σ)=some ⟨[(0,.one (.cell .str))],[]⟩
def aEk(L:LaysM.n171 X.P N)(hn:X.P.globalNamed "internal/strconv.uint64pow10" =some g)(ht:X.dV=some (g,(Lib.pow10Tab.map fun z=>Value.int .u64 z).toArray))(hf:d.f=N.f 171)(ha:d.na=1)(hr:d.nr=1)
 (hσ:d.σ=⟨[(0,.one (.cell (.int .i64)))],[]⟩) (ho:Dl d):uE X d acY:=by
 intro l o h;unfold acY at h;split at h
 ·rename_i n;obtain⟨di,h⟩:=cO h;injection h with h;subst h;unfold Dl at ho;cases hx:d.outs[0]? with
  |none=>rw [hx]at ho;cases ho
  |some x=>
   rw [hx]at ho;have ho:x.σ=_:=Option.some.inj ho;refine⟨0,x,hx,rfl,?_⟩;rw [hf,ha,hr,hσ,ho];exact aKr L hn ht di _
 ·cases h
def aEz(L:LaysM.n173 X.P N)(hn:X.P.globalNamed "internal/strconv.uint64pow10" =some g)(ht:X.dV=some (g,(Lib.pow10Tab.map fun z=>Value.int .u64 z).toArray))(hf:d.f=N.f 173)(ha:d.na=2)(hr:d.nr=1)
 (hσ:d.σ=⟨[(0,.one (.cell (.int .i64))),(1,.one (.cell (.int .i64)))],[]⟩) (ho:Dl d):uE X d fmtG:=by
 intro l o h;unfold fmtG at h;split at h
 ·rename_i n b;obtain⟨di,h⟩:=cO h;injection h with h;subst h;rw [bw,gG]at di;obtain⟨di,rfl⟩:=di;unfold Dl at ho;cases hx:d.outs[0]? with
  |none=>rw [hx]at ho;cases ho
  |some x=>
   rw [hx]at ho;have ho:x.σ=_:=Option.some.inj ho;refine⟨0,x,hx,rfl,?_⟩;rw [hf,ha,hr,hσ,ho];exact aLb L hn ht di _
 ·cases h
def aDQ(L:Lays.n105 X.P N)(B:Builder.Extra X.P N)(hf:d.f=N.f 105)(ha:d.na=2)(hr:d.nr=1)
 (hσ:d.σ=⟨[(0,.one (.cell .str)),(1,.one (.cell (.int .i64)))],[]⟩) (ho:Dl d):uE X d acP:=by
 intro l o h;unfold acP at h;split at h
 ·rename_i s n;obtain⟨di,h⟩:=cO h;injection h with h;subst h;simp only [bw,gG]at di;unfold Dl at ho;cases hx:d.outs[0]? with
  |none=>rw [hx]at ho;cases ho
  |some x=>
   rw [hx]at ho;have ho:x.σ=_:=Option.some.inj ho;refine⟨0,x,hx,rfl,?_⟩;rw [hf,ha,hr,hσ,ho];exact aJO L B di.1.1 di.1.2 di.2 _
 ·cases h
def aEj(L:Lays.n156 X.P N)(B:Builder.Extra X.P N)(hK:X.K t=[.str])(hf:d.f=N.f 156)(ha:d.na=2)(hr:d.nr=1)
 (hσ:d.σ=⟨[(0,.one (.cell (.slice t))),(1,.one (.cell .str))],[]⟩) (ho:Dl d):uE X d (acW t):=by
 intro l o h;unfold acW at h;split at h
 ·rename_i t' xs sep;split at h
  ·rename_i ht;have ht:=dX ht;subst ht;unfold Ur at h;split at h
   ·rename_i ss hs;obtain⟨di,h⟩:=cO h;injection h with h;subst h;simp only [bw,gG]at di;unfold Dl at ho;cases hx:d.outs[0]? with
    |none=>rw [hx]at ho;cases ho
    |some x=>
     rw [hx]at ho;have ho:x.σ=_:=Option.some.inj ho;refine⟨0,x,hx,rfl,?_⟩;rw [hf,ha,hr,hσ,ho,ahh hs];exact aKn L B hK di.1 di.2 _
   ·exact aD
  ·exact aD
 ·cases h
def aJ0{d0:FD}{g:ak->Option UO}(h:uE X d0 g)(hd:d0={d with calls:=[]})(jP:nB (λj=>g [.int .u8 (j:Nat)]=some (0,[.str (UY j)])) (List.range 19)):uE X d opG:=by
 subst hd;intro l o ho;unfold opG at ho;split at ho
 ·rename_i n;obtain⟨hn,ho⟩:=cO ho;injection ho with ho;subst ho;simp only [bw,gG]at hn;have hj:(List.range 19)[n.toNat]?=some n.toNat:=by rw [wz (by omega)]
  have:=nB.at jP hj;rw [show((n.toNat:Nat):Int)=n by omega]at this;exact h _ _ this
 ·cases ho
end
end Go.aj
namespace Go.Proofs.B
open Go Go.aj
set_option maxRecDepth 100000
noncomputable section
noncomputable def aDF:List (Nat×Site):=[(0,Tl 17 (ow Tryz.f35) 30),(1,Tl 13 (ow Tryz.f34) 58)]
noncomputable def tiL:List (Nat×TI):=[0,1,2,3,4,5,9,22,23,24,26,29,32,33,34,35,36,37,38,39,41,47,49,51,52,54,55,57,67,82,84,88,89,91,93,94,96,98,99,102,110,112,113,115,116,118,120,122,123,125,127,134,138,166,167,176,178,179,190,203,204,206,207,208,218,219,223,229,236,237,239,244,261,264,267,275].map λt=>(t,DQ Tryz.prog t)
def rdL:tu:=[2,3,4,22,23,24,26,29,32,33,34,35,36,37,38,39,41,51,52,54,55,57,67,110,112,113,115,116,118,120,134]
def Vw:Nat->AV:=λg=>match g with|_=> .top
def aC4:∀g,Vw g= .top ∨(Vw g).pure =true:=λg=>by unfold Vw;split<;>first|exact .inl rfl|exact .inr rfl
def vwL:List (Nat×Nat):=[(28,36),(41,88),(44,88),(56,36)]
noncomputable def CX:Cx:=⟨Tryz.prog,xK tiL,am6 aDF,Vw,DD [166],true,λd t=>alF vwL d t,(some ⟨[.any,.any,.any],127,125,122,244,202⟩),(some (0,(Lib.pow10Tab.map λz=>Value.int .u64 z).toArray))⟩
def hX:CX.Ok:=aEH (λu h=>by injection h with h;subst h;exact⟨by kernel_rfl,by kernel_rfl,aDp (by kernel_rfl),by kernel_rfl,by decide,⟨_,Tryz.func202,by kernel_rfl,by kernel_rfl,by kernel_rfl,by kernel_rfl⟩⟩) aC4 (el:=[166]) (by kernel_rfl) (by repeat' first|exact trivial|refine⟨?_,?_⟩|rfl|kernel_rfl) ⟨(by show Kf Tryz.prog _=true;kernel_rfl),trivial⟩
abbrev wI:Nat:=3
abbrev sF:Nat:=5
abbrev RT:Nat:=9
abbrev aCl:Nat:=36
abbrev ud:Nat:=41
abbrev Fm:Nat:=54
abbrev Ix:Nat:=57
abbrev Fq:Nat:=67
abbrev CP:Nat:=98
abbrev Fo:Nat:=110
abbrev LR:Nat:=112
abbrev Me:Nat:=115
abbrev wc:Nat:=118
abbrev YM:Nat:=120
abbrev L6:Nat:=134
abbrev Yf:Nat:=166
abbrev zz0:ak:=[.int .u8 2,.int .u8 0,iI 0,iI 0,iI 0,iI 0,iI 0,iI 0,.ae Fm ([])]
abbrev zz1:ak:=[.int .u8 1,iI 0,iI 0,iI 0,.ae Fm ([])]
abbrev zz2:ak:=[iI 1,iI 0,iI 9,.bool false,.ae wI ([])]
abbrev Au:ak:=[.bool false,.bool false,.ae wI ([]),iI 0,iI 0]
abbrev zz4:ak:=[.bool false,.bool false,.ae wI ([]),iI 0,iI 1]
abbrev zz5:ak:=[.bool false,.bool false,.ae wI ([]),iI ((-2147483648)),iI 2147483647]
abbrev zz6:ak:=[.bool false,.bool false,.ae wI ([]),iI 0,iI 32]
abbrev zz7:ak:=[.int .u8 1,iI 0,iI 0,iI 0,iI 0,iI 0,.bool false,.bool false,.bool false,.bool false,.bool false,.int .u8 0,.ae Fm ([]),.ae Fm ([]),.ae wc ([]),.ae wc ([]),.ae wI ([]),.ae ud ([]),.ae Fo ([]),.ae LR ([]),.ae Me ([])]
def XV:Nat:=0
def Rb:Nat:=1
def Mg:Nat:=2
def Yn:Nat:=3
def Fx:Nat:=4
def LZ:Nat:=5
def Q2:Nat:=6
def RX:Nat:=7
def CV:Nat:=8
def yr:Nat:=9
def XX:Nat:=10
def Is:Nat:=11
def VU:Nat:=12
def VX:Nat:=13
def Xy:Nat:=14
def Q4:Nat:=15
def WQ:Nat:=16
def XJ:Nat:=17
def Xk:Nat:=18
def L0:Nat:=19
def Qv:Nat:=20
def L9:Nat:=21
def LJ:Nat:=22
def Yo:Nat:=23
def afY:Nat:=24
def QF:Nat:=25
def XZ:Nat:=26
def afX:Nat:=27
def XY:Nat:=28
def afW:Nat:=29
def Lz:Nat:=30
def Fb:Nat:=31
def Fa:Nat:=32
def Ff:Nat:=33
def Qp:Nat:=34
def A4:Nat:=35
def u6:Nat:=36
def Rc:Nat:=37
def X7:Nat:=38
def L2:Nat:=39
def PV:Nat:=47
def We:Nat:=64
def WU:Nat:=65
def Ma:Nat:=66
def wa:Nat:=67
def ae8:Nat:=68
def VV:Nat:=69
def VY:Nat:=70
def XW:Nat:=71
def mU:Nat:=72
def Q3:Nat:=73
def u9:Nat:=74
def zu:Nat:=75
def Ij:Nat:=76
def AW:Nat:=77
def HS:Nat:=78
def Qq:Nat:=79
def PE:Nat:=80
def Pz:Nat:=81
def Qk:Nat:=82
def Pw:Nat:=83
def Qj:Nat:=84
def PB:Nat:=85
def Qi:Nat:=86
def W6:Nat:=87
def QP:Nat:=88
def LD:Nat:=89
def CJ:Nat:=90
def CK:Nat:=91
def Ie:Nat:=92
def Fi:Nat:=93
def VJ:Nat:=94
def VO:Nat:=95
def W4:Nat:=96
def Pu:Nat:=97
def VS:Nat:=98
def WR:Nat:=99
def CL:Nat:=100
def VP:Nat:=101
def VW:Nat:=102
def Xe:Nat:=103
def Xx:Nat:=104
def L1:Nat:=105
def adW:Nat:=106
def aec:Nat:=107
def XK:Nat:=108
def Lr:Nat:=109
def zx:Nat:=110
def Lw:Nat:=111
def Qg:Nat:=112
def H9:Nat:=113
def Fe:Nat:=114
def yp:Nat:=115
def Qh:Nat:=116
def VL:Nat:=117
def VT:Nat:=118
def W7:Nat:=119
def Mh:Nat:=120
def Qo:Nat:=121
def Xd:Nat:=122
def Py:Nat:=123
def WT:Nat:=124
def LG:Nat:=125
def H8:Nat:=126
def LA:Nat:=127
def PQ:Nat:=128
def Fu:Nat:=129
def P9:Nat:=130
def H4:Nat:=131
def H3:Nat:=132
def P1:Nat:=133
def VI:Nat:=134
def Px:Nat:=135
def W5:Nat:=136
def jE:Nat:=137
def XU:Nat:=138
def zA:Nat:=139
def Qa:Nat:=140
def Qn:Nat:=141
def V4:Nat:=142
def aen:Nat:=143
def Ll:Nat:=144
def V3:Nat:=145
def PJ:Nat:=146
def sw:Nat:=147
def xy:Nat:=148
def W3:Nat:=149
def pC:Nat:=150
def P2:Nat:=151
def QO:Nat:=152
def LV:Nat:=153
def xw:Nat:=154
def oU:Nat:=155
def CG:Nat:=156
def zz:Nat:=157
def LB:Nat:=158
def Xf:Nat:=159
def aev:Nat:=160
def agG:Nat:=161
def ahq:Nat:=162
def agH:Nat:=165
def YW:Nat:=166
def CY:Nat:=167
def yo:Nat:=168
def A3:Nat:=169
def Iq:Nat:=170
def Q1:Nat:=171
def YB:Nat:=172
def Mi:Nat:=173
def V2:Nat:=174
def QS:Nat:=175
def V0:Nat:=176
def X8:Nat:=177
def VZ:Nat:=178
def QR:Nat:=179
def V1:Nat:=180
def QQ:Nat:=181
def Yg:List eD:=[.cell (.slice 120),.cell (.int .i64),.cell (.slice 57),.cell (.slice 67)]
def fU:List eD:=[.cell (.int .u8),.cell (.int .i64),.cell (.int .i64),.cell (.int .i64),.cell (.int .i64),.cell (.int .i64),.cell .bool,.cell .bool,.cell .bool,.cell .bool,.cell .bool,.cell (.int .u8),.cell (.slice 54),.cell (.slice 54),.cell (.slice 118),.cell (.slice 118),.cell (.slice 3),.cell (.slice 41),.cell (.slice 110),.cell (.slice 112),.cell (.slice 115)]
def lU:List eD:=[.cell (.int .u8),.cell (.int .u8),.cell (.int .i64),.cell (.int .i64),.cell (.int .i64),.cell (.int .i64),.cell (.int .i64),.cell (.int .i64),.cell (.slice 54)]
def Q9:List eD:=[.cell (.int .i64),.cell (.int .i64),.cell (.int .i64),.cell .bool,.cell (.slice 3)]
def afU:List eD:=[.cell (.int .i64),.cell (.int .i64),.cell (.int .i64)]
def QZ:List eD:=[.cell (.int .i64),.cell (.slice 3),.cell (.slice 54)]
def Ba:List eD:=[.cell (.int .u8),.cell (.int .u8),.cell (.int .i64),.cell (.int .i64),.cell (.int .i64),.cell (.int .i64),.cell (.int .i64),.cell (.int .i64),.cell .any]
def Da:List eD:=[.cell .bool,.cell .bool,.cell .any,.cell (.int .i64),.cell (.int .i64)]
def sx:List eD:=[.cell .bool,.cell .bool,.cell (.slice 3),.cell (.int .i64),.cell (.int .i64)]
def dM:List eD:=[.cell (.slice 120),.cell (.int .i64),.cell (.slice 120),.cell (.int .i64),.cell (.slice 57),.cell (.slice 67),.cell .any,.cell (.int .i64),.cell .any]
def lE:List eD:=[.cell .any,.cell (.int .i64),.cell (.slice 3),.cell (.slice 3),.cell (.slice 3),.cell (.slice 3),.cell (.slice 3),.cell .bool,.cell .bool,.cell .bool,.cell (.int .i64),.cell (.int .i64)]
def mX:List eD:=[.cell (.int .u8),.cell (.int .i64),.cell (.int .i64),.cell (.int .i64),.cell (.int .i64),.cell (.int .i64),.cell .bool,.cell .bool,.cell .bool,.cell .bool,.cell .bool,.cell (.int .u8),.cell .any,.cell .any,.cell .any,.cell .any,.cell .any,.cell .any,.cell .any,.cell .any,.cell .any]
def Ir:List eD:=[.cell (.int .u8),.cell (.int .i64),.cell (.int .i64),.cell (.int .i64),.cell (.slice 54)]
def Xw:List eD:=[.cell (.slice 3),.cell (.int .u8),.cell (.int .i64),.cell (.int .i64),.cell (.int .i64),.cell (.int .i64),.cell (.int .i64),.cell .bool,.cell .bool,.cell .bool,.cell .bool,.cell .bool,.cell (.int .u8),.cell (.slice 54),.cell (.slice 54),.cell (.slice 118),.cell (.slice 118),.cell (.slice 3),.cell (.slice 41),.cell (.slice 110),.cell (.slice 112),.cell (.slice 115)]
def CQ:List eD:=[.cell (.int .u8),.cell (.int .u8),.cell (.int .u8),.cell (.int .i64),.cell (.int .i64),.cell (.int .i64),.cell (.int .i64),.cell (.int .i64),.cell (.int .i64),.cell (.slice 54),.cell (.int .i64),.cell (.slice 54),.cell (.int .u8),.cell (.int .i64),.cell (.int .i64),.cell (.int .i64),.cell (.int .i64),.cell (.int .i64),.cell .bool,.cell .bool,.cell .bool,.cell .bool,.cell .bool,.cell (.int .u8),.cell (.slice 54),.cell (.slice 54),.cell (.slice 118),.cell (.slice 118),.cell (.slice 3),.cell (.slice 41),.cell (.slice 110),.cell (.slice 112),.cell (.slice 115),.cell (.int .u8),.cell (.int .i64),.cell (.int .i64),.cell (.int .i64),.cell (.int .i64),.cell (.int .i64),.cell .bool,.cell .bool,.cell .bool,.cell .bool,.cell .bool,.cell (.int .u8),.cell (.slice 54),.cell (.slice 54),.cell (.slice 118),.cell (.slice 118),.cell (.slice 3),.cell (.slice 41),.cell (.slice 110),.cell (.slice 112),.cell (.slice 115)]
def aga:List eD:=[.cell (.int .u8),.cell (.int .i64),.cell (.int .i64),.cell (.int .i64),.cell (.int .i64),.cell (.int .i64),.cell .bool,.cell .bool,.cell .bool,.cell .bool,.cell .bool,.cell (.int .u8),.cell (.slice 54),.cell (.slice 54),.cell (.slice 118),.cell (.slice 118),.cell (.slice 3),.cell (.slice 41),.cell (.slice 110),.cell (.slice 112),.cell (.slice 115),.cell (.int .u8),.cell (.int .i64),.cell (.int .i64),.cell (.int .i64),.cell (.int .i64),.cell (.int .i64),.cell .bool,.cell .bool,.cell .bool,.cell .bool,.cell .bool,.cell (.int .u8),.cell (.slice 54),.cell (.slice 54),.cell (.slice 118),.cell (.slice 118),.cell (.slice 3),.cell (.slice 41),.cell (.slice 110),.cell (.slice 112),.cell (.slice 115)]
def Bb:List eD:=[.cell (.int .u8),.cell (.int .i64),.cell (.int .i64),.cell (.int .i64),.cell .any]
def aAb:List eD:=[.cell .any,.cell (.int .i64),.cell (.slice 3),.cell (.slice 3),.cell .any,.cell (.slice 3),.cell (.slice 3),.cell .bool,.cell .bool,.cell .bool,.cell (.int .i64),.cell (.int .i64)]
def aAc:List eD:=[.cell .any,.cell (.int .i64),.cell (.slice 3),.cell (.slice 3),.cell (.slice 3),.cell .any,.cell (.slice 3),.cell .bool,.cell .bool,.cell .bool,.cell (.int .i64),.cell (.int .i64)]
def agt:List eD:=[.cell (.int .i64),.cell (.slice 134),.cell (.int .u8),.cell (.int .i64),.cell (.int .i64),.cell (.int .i64),.cell (.int .i64),.cell (.int .i64),.cell .bool,.cell .bool,.cell .bool,.cell .bool,.cell .bool,.cell (.int .u8),.cell (.slice 54),.cell (.slice 54),.cell (.slice 118),.cell (.slice 118),.cell (.slice 3),.cell (.slice 41),.cell (.slice 110),.cell (.slice 112),.cell (.slice 115),.cell (.int .i64)]
end
noncomputable section
def v0:gp:=bV [cU,cI,cI,cI,cI,cI,cB,cB,cB,cB,cB,cU,cS 54,cS 54,cS 118,cS 118,cS 3,cS 41,cS 110,cS 112,cS 115]
def s1:ax:=⟨[eP 1 0,eO 3 1,eI 4],[v0,.row 41]⟩
def s2:ax:=⟨[eO 3 1],[v0,.row 41]⟩
def awl:Pc:=pL 0 58 1 536870808 s1 [xE 0 s2]
def s3:ax:=⟨[eP 1 0,eO 3 1],[v0,.row 41]⟩
def awv:Pc:=jO [.mk 3 41] (pJ 0 14 1 536870808 s3 [xN s2])
def s4:ax:=⟨[eP 1 0,eO 3 1,eI 5],[v0,.row 41]⟩
def avD:Pc:=pL 0 250 1 562941363486760 s4 [xE 2 s2]
def awu:Pc:=pJ 0 62 1 562941363486760 s3 [xN s2]
def s5:ax:=⟨[eP 1 0,eO 3 1,eI 6],[v0,.row 41]⟩
def avC:Pc:=pL 0 506 1 2361182678484869185608 s5 [xE 4 s2]
def h6:List eD:=[cU,cI,cI,cI,cI,cI,cB,cB,cB,cB,cB,cU,cS 54,cS 54,cS 118,cS 118,cS 3,cS 41,cS 110,cS 112,cS 115]
def s7:ax:=⟨[eA 0 h6],[]⟩
def s8:ax:=⟨[eO 0 0],[.row 41]⟩
def Iw:FD:=bW 38 Tryz.f38 1 1 0 s7 s8 [] (.pc avC<| .pc awu<| .pc avD<| .pc awv<| .pc awl<| .nil)
def s9:ax:=⟨[eI 3,eO 4 0,eI 5],[.row 41]⟩
def s10:ax:=⟨[eI 3],[.row 41]⟩
def awk:Pc:=pL 0 122 1 2096936 s9 [xE 0 s10]
def B0:ax:=⟨[eI 0],[]⟩
def ahc:FD:=bW 25 Tryz.f25 1 1 0 s7 B0 [.fn 2,.fn 3] (.pc awk<| .nil)
def v12:gp:=bV [cS 120,cI,cS 57,cS 67]
def UT:ax:=⟨[eP 1 0],[v12]⟩
def Kq:ax:=⟨[eB 2],[v12]⟩
def axx:Pc:=pJ 0 6 1 2097124 UT [xN ⟨[],[v12]⟩,xR Kq]
def s15:ax:=⟨[eP 1 0,eI 3,eI 4],[v12]⟩
def awm:Pc:=pL 0 122 1 562949951324188 s15 [xR Kq,xE 0 ⟨[],[v12]⟩]
def lv:List eD:=[cS 120,cI,cS 57,cS 67]
def OD:ax:=⟨[eA 0 lv],[]⟩
def iL:ax:=⟨[eB 0],[]⟩
def YJ:FD:=bW 7 Tryz.f7 1 1 0 OD iL [.fn 2] (.pc awm<| .pc axx<| .nil)
def kp:List eD:=[cU,cU,cI,cI,cI,cI,cI,cI,cS 54]
def s20:ax:=⟨[eA 0 kp],[]⟩
def ayX:FD:=uY [.nZ 0 [.raw,.raw,.raw,.raw,.raw,.raw,.raw,.raw,.slice 54]] 21 Tryz.f21 1 1 0 B0 s20 [] .nil
def s21:ax:=⟨[eA 0 kp,eA 1 kp],[]⟩
def ym:List eD:=[cU,cU,cI,cI,cI,cI,cI,cI,.au 0]
def s23:ax:=⟨[eA 0 ym],[.row 54]⟩
def aAX:FD:=bW 33 Tryz.f33 2 1 0 s21 s23 [] .nil
def h24:List eD:=[.au 0,cI,.au 1,cS 67]
def s25:ax:=⟨[eA 0 h24],[.row 120,.row 57]⟩
def ayq:FD:=uY [.nZ 0 [.raw,.raw,.raw,.slice 67]] 16 Tryz.f16 1 1 0 iL s25 [.fn 6,.fc 7 [.nZ 0 [.raw,.raw,.raw,.raw,.raw,.raw,.raw,.raw,.slice 54]]] .nil
def s26:ax:=⟨[eS 0 3,eI 1,eI 2,eS 9 3,eI 10,eI 11],[]⟩
def Av:ax:=⟨[eB 6],[]⟩
def avI:Pc:=pL 0 26 0 274877905344 s26 [xR Av,xE 0 ⟨[],[]⟩]
def s28:ax:=⟨[eS 0 3,eI 1,eI 2],[]⟩
def agp:FD:=bW 90 Tryz.f90 3 1 0 s28 iL [] (.pc avI<| .nil)
def s29:ax:=⟨[eI 0,eP 1 0],[bV [cS 120]]⟩
def s30:ax:=⟨[eB 0],[bV [cS 120]]⟩
def awU:FD:=bW 92 Tryz.f92 2 1 1 s29 s30 [] .nil
def s31:ax:=⟨[eS 0 3,(1,.one (.cl 92 [(0,0,0)])),eI 7,eI 8],[bV [cS 120]]⟩
def s32:ax:=⟨[eI 4],[bV [cS 120]]⟩
def s33:ax:=⟨[],[bV [cS 120]]⟩
def aqJ:Pc:=pL 0 26 1 524080 s31 [xR s32,xE 0 s33]
def s34:ax:=⟨[eS 0 3,(1,.one (.cl 92 [(0,0,0)]))],[bV [cS 120]]⟩
def s35:ax:=⟨[eI 0],[bV [cS 120]]⟩
def aea:FD:=bW 141 Tryz.f141 2 1 1 s34 s35 [.fn 14] (.pc aqJ<| .nil)
def aqR:FD:=bW 91 Tryz.f91 2 1 1 s34 s30 [.fn 13] .nil
def s36:ax:=⟨[eP 1 0],[bV [cS 120]]⟩
def s37:ax:=⟨[eB 2],[bV [cS 120]]⟩
def avP:Pc:=pJ 0 6 1 16324 s36 [xN s33,xR s37]
def Kk:gp:=bV [cI,cI,cI,cB,cS 3]
def s39:ax:=⟨[eP 5 0],[Kk]⟩
def s40:ax:=⟨[eB 2],[Kk]⟩
def att:Pc:=pJ 0 15666 1 267386884 s39 [xN ⟨[],[Kk]⟩,xR s40]
def s41:ax:=⟨[eP 1 0,eP 5 1],[bV [cS 120],Kk]⟩
def s42:ax:=⟨[],[bV [cS 120],Kk]⟩
def s43:ax:=⟨[eB 2],[bV [cS 120],Kk]⟩
def as2:Pc:=pJ 0 125342 2 302231382846063255748612 s41 [xN s42,xR s43]
def s44:ax:=⟨[eP 1 0,eI 3,eS 14 120,eI 15,eI 16],[bV [cS 120]]⟩
def s45:ax:=⟨[eI 3],[bV [cS 120]]⟩
def auB:Pc:=pL 0 122 1 9671406556917033397583916 s44 [xR s37,xE 0 s45]
def s46:ax:=⟨[eS 0 120],[]⟩
def LW:FD:=bW 39 Tryz.f39 1 1 0 s46 iL [.fn 11,.fn 12] (.pc auB<| .pc as2<| .pc att<| .pc avP<| .nil)
def US:ax:=⟨[(0,.one (.cell (.int .u64))),(1,.one (.cell (.int .u64)))],[]⟩
def av8:FD:=bW 184 Tryz.f184 2 2 0 US US [] .nil
def axj:FD:=bW 142 Tryz.f142 2 2 0 US US [.fn 18] .nil
def s48:ax:=⟨[eI 1],[]⟩
def asj:Pc:=pJ 0 6 0 3584 s48 [xN ⟨[],[]⟩]
def s49:ax:=⟨[(5,.one (.cell (.int .u64))),(6,.one (.cell (.int .u64)))],[]⟩
def arZ:Pc:=pJ 0 30 0 266338304 s49 [xN ⟨[],[]⟩]
def s50:ax:=⟨[eO 7 0,eI 8],[.row 166]⟩
def UR:ax:=⟨[],[.row 166]⟩
def arL:Pc:=pL 0 508 1 140720308486400 s50 [xE 0 UR]
def s52:ax:=⟨[eS 0 166,eI 1],[]⟩
def s53:ax:=⟨[eO 0 0],[.row 166]⟩
def PY:FD:=bW 93 Tryz.f93 2 1 0 s52 s53 [.fn 17] (.pc arL<| .pc arZ<| .pc asj<| .nil)
def s54:ax:=⟨[eI 1,eI 2,(7,.one (.mpr 0)),eS 11 3,eI 12,eI 13],[.mp (.int .i64) false [.bool]]⟩
def s55:ax:=⟨[eB 6],[.mp (.int .i64) false [.bool]]⟩
def s56:ax:=⟨[],[.mp (.int .i64) false [.bool]]⟩
def avF:Pc:=pL 0 58 1 8589926976 s54 [xR s55,xE 0 s56]
def ago:FD:=bW 94 Tryz.f94 3 1 0 s28 iL [] (.pc avF<| .nil)
def s57:ax:=⟨[eO 4 0,eI 5,eS 45 3,eI 46,eI 47],[.row 166]⟩
def s58:ax:=⟨[eO 2 1,eB 3],[.row 166,.row 166]⟩
def auA:Pc:=pL 0 29902 1 9223231299366420748 s57 [(.ret,[.mk 2 166],s58),xE 2 UR]
def s59:ax:=⟨[eP 1 0,eO 4 1,eS 29 67,eI 30,eI 31],[v12,.row 166]⟩
def Ko:ax:=⟨[eO 2 2,eB 3],[v12,.row 166,.row 166]⟩
def Kn:ax:=⟨[],[v12,.row 166]⟩
def awn:Pc:=pL 0 58 2 18446744071562068332 s59 [(.ret,[.mk 2 166],Ko),xE 0 Kn]
def s62:ax:=⟨[eP 1 0,eO 4 1],[v12,.row 166]⟩
def awx:Pc:=pJ 0 14 2 18446744073441116524 s62 [xN Kn,xR Ko]
def s63:ax:=⟨[eP 1 0,eS 14 3],[v12]⟩
def s64:ax:=⟨[eO 2 1,eB 3],[v12,.row 166]⟩
def ar5:Pc:=pJ 0 1026765618 1 5069364460873632225711913697292 s63 [xN ⟨[],[v12]⟩,(.ret,[.mk 2 166],s64)]
def v65:gp:=bV [cI,cI,cI]
def s66:ax:=⟨[eP 1 0,eO 4 1,eI 16,eP 17 2],[v12,.row 166,v65]⟩
def s67:ax:=⟨[],[v12,.row 166,v65]⟩
def s68:ax:=⟨[eO 2 3,eB 3],[v12,.row 166,v65,.row 166]⟩
def arw:Pc:=pJ 0 1051407994470 3 21778068886791632394242160610385000923148 s66 [xN s67,(.ret,[.mk 2 166],s68)]
def s69:ax:=⟨[eP 1 0,eO 4 1,eI 9,eI 11,eS 102 3,eI 103,eI 104],[v12,.row 166]⟩
def arX:Pc:=pL 0 4107062478 2 696898287433799563569339525596314045972492 s69 [xR Ko,xE 10 Kn]
def s70:ax:=⟨[eP 1 0,eO 4 1,eI 9,eI 11,eO 84 2,eI 85,eI 86],[v12,.row 166,.row 36]⟩
def s71:ax:=⟨[eO 2 3,eB 3],[v12,.row 166,.row 36,.row 166]⟩
def s72:ax:=⟨[],[v12,.row 166,.row 36]⟩
def atk:Pc:=pL 0 8021606 3 1393796574908163868974729936704255413141516 s70 [xR s71,xE 8 s72]
def s73:ax:=⟨[eP 1 0,eO 4 1,eI 9,eS 73 134,eI 74,eI 75],[v12,.row 166]⟩
def auz:Pc:=pL 0 31334 2 2787593149816327892654185852218088026757132 s73 [xR Ko,xE 6 Kn]
def s74:ax:=⟨[eP 1 0,eO 4 1,eS 65 57,eI 66,eI 67],[v12,.row 166]⟩
def avH:Pc:=pL 0 122 2 5575186299632655785383781994209500700302860 s74 [xR Ko,xE 4 Kn]
def aww:Pc:=pJ 0 30 2 5575186299632655785383911121418016667164172 s62 [xN Kn,xR Ko]
def s75:ax:=⟨[eO 4 0,eS 150 3,eI 151,eI 152],[.row 166]⟩
def auy:Pc:=pL 0 64102 1 11686304107876399506105245517852466176701931454476 s75 [(.ret,[.mk 2 166],s58),xE 14 UR]
def s76:ax:=⟨[eO 4 0,eS 143 120,eI 144,eI 145],[.row 166]⟩
def avG:Pc:=pL 0 250 1 23383981595804049630012674252023983017771911348236 s76 [xR s58,xE 12 UR]
def s77:ax:=⟨[eO 0 0,eB 1],[.row 166]⟩
def wg:FD:=bW 40 Tryz.f40 1 2 0 OD s77 [.fn 11,.fc 16 [.kZ 0 (.slice 166)],.fn 19] (.pc avG<| .pc auy<| .pc aww<| .pc avH<| .pc auz<| .pc atk<| .pc arX<| .pc arw<| .pc ar5<| .pc awx<| .pc awn<| .pc auA<| .nil)
def s78:ax:=⟨[eI 1,eP 2 0,eS 23 54,eI 24,eI 25],[bV [cI]]⟩
def s79:ax:=⟨[eB 6],[bV [cI]]⟩
def s80:ax:=⟨[],[bV [cI]]⟩
def avE:Pc:=pL 0 122 1 68685922624 s78 [xR s79,xE 0 s80]
def s81:ax:=⟨[eA 0 kp,eI 1,eP 2 0],[bV [cI]]⟩
def s82:ax:=⟨[eB 0],[bV [cI]]⟩
def agO:FD:=bW 95 Tryz.f95 3 1 1 s81 s82 [.fn 21] (.pc avE<| .nil)
def qh:gp:=bV [cU,cU,cI,cI,cI,cI,cI,cI,cS 54]
def v84:gp:=bV [cU,cU,cI,cI,cI,cI,cI,cI,.au 2]
def Km:ax:=⟨[eP 0 0,eP 1 1],[qh,v84,.row 54]⟩
def Kl:ax:=⟨[],[qh,v84,.row 54]⟩
def ax6:FD:=bW 186 Tryz.f186 2 0 3 Km Kl [] .nil
def ax5:FD:=bW 187 Tryz.f187 2 0 3 Km Kl [] .nil
def ax4:FD:=bW 188 Tryz.f188 2 0 3 Km Kl [] .nil
def ax2:FD:=bW 190 Tryz.f190 2 0 3 Km Kl [] .nil
def ax3:FD:=bW 189 Tryz.f189 2 0 3 Km Kl [] .nil
def ax1:FD:=bW 191 Tryz.f191 2 0 3 Km Kl [] .nil
noncomputable def ay2:List Cl:=[.fc 24 [cK 1 8 54],.fc 25 [cK 1 8 54],.fn 26,.fc 28 [cK 1 8 54],.fn 27,.fc 29 [cK 1 8 54]]
noncomputable def ava:lT:= .ur 26 4 lT.nil
noncomputable def ayx:List Cl:= .inl 185 Tryz.f185 ava::ay2
def s87:ax:=⟨[(19,.one (cU))],[]⟩
def s88:ax:=⟨[eB 20],[]⟩
def au6:Pc:=pJ 0 4084 0 15728640 s87 [xN s88]
def s89:ax:=⟨[eB 65],[]⟩
def atu:Pc:=pJ 0 4184062 0 553402322211286548480 s87 [xN s89]
def s90:ax:=⟨[eA 0 kp,eI 1],[]⟩
def Ys:FD:=uY [.nZ 0 [.raw,.raw,.raw,.raw,.raw,.raw,.raw,.raw,.slice 54]] 143 Tryz.f143 1 2 0 s20 s90 ayx (.pc atu<| .pc au6<| .nil)
def s91:ax:=⟨[eS 0 98],[]⟩
def s92:ax:=⟨[eO 0 0],[.row 98]⟩
def auQ:FD:=bW 144 Tryz.f144 1 1 0 s91 s92 [] .nil
def s93:ax:=⟨[(0,.one (.jI))],[]⟩
def atg:FD:=uY [.mk 0 98] 144 Tryz.f144 1 1 0 s93 s92 [] .nil
def s94:ax:=⟨[(0,.one (.mS))],[]⟩
def atf:FD:=bW 144 Tryz.f144 1 1 0 s94 s92 [] .nil
def Ph:List eD:=[cS 120,cI]
def s96:ax:=⟨[eA 0 Ph,eI 1,eI 2],[]⟩
def avy:FD:=bW 145 Tryz.f145 3 1 0 s96 iL [] .nil
def s97:ax:=⟨[eA 0 Ph,eI 1,eI 2,eI 3],[]⟩
def awR:FD:=bW 146 Tryz.f146 4 1 0 s97 iL [] .nil
def Cr:List eD:=[cB,cB,cS 3,cI,cI]
def s99:ax:=⟨[eA 0 Cr],[]⟩
def azY:FD:=uY [.nZ 0 [.raw,.raw,.slice 3,.raw,.raw]] 147 Tryz.f147 0 1 0 ⟨[],[]⟩ s99 [] .nil
def awc:FD:=bW 42 Tryz.f42 1 1 0 s99 iL [] .nil
def azw:FD:=uY [.nZ 0 [.raw,.raw,.slice 3,.raw,.raw]] 148 Tryz.f148 0 1 0 ⟨[],[]⟩ s99 [] .nil
def oM:gp:=bV [cB,cB,cS 3,cI,cI]
def aJB:ax:=⟨[eP 4 0,eP 5 1],[oM,oM]⟩
def aJA:ax:=⟨[eB 8],[oM,oM]⟩
def awA:Pc:=pJ 0 6 2 130816 aJB [xN aJA]
def acL:ax:=⟨[(0,.one (cU))],[]⟩
def aJz:ax:=⟨[eB 17],[]⟩
def avR:Pc:=pJ 0 56 0 16646144 acL [xN aJz]
def aJy:ax:=⟨[eB 26],[]⟩
def au7:Pc:=pJ 0 230 0 8522825728 acL [xN aJy]
def aJx:ax:=⟨[(0,.one (cU)),eA 1 Cr,eA 2 Cr],[]⟩
def acK:ax:=⟨[eA 0 Cr,eB 1],[]⟩
def QT:FD:=uY [.nZ 0 [.raw,.raw,.slice 3,.raw,.raw]] 149 Tryz.f149 3 2 0 aJx acK [.fn 36,.fn 35,.fn 37] (.pc au7<| .pc avR<| .pc awA<| .nil)
def aoQ:ax:=⟨[(0,.one (.cell (.int .u64)))],[]⟩
def av9:FD:=bW 218 Tryz.f218 1 1 0 aoQ B0 [] .nil
def axk:FD:=bW 213 Tryz.f213 1 1 0 aoQ B0 [.fn 42] .nil
def aJw:ax:=⟨[eO 0 0,eI 1,eI 7],[.row 3]⟩
def BJ:ax:=⟨[],[.row 3]⟩
def aqO:Pc:=pL 1 402 1 562949953355904 aJw [xE 2 BJ]
def aJv:ax:=⟨[eO 0 0,eI 1,eI 2,eI 6],[.row 3]⟩
def aqW:Pc:=pL 1 6 1 562949953420480 aJv [xE 0 BJ]
def aJu:ax:=⟨[eO 0 0,eI 1,eI 2],[.row 3]⟩
def aq6:FD:=bW 222 Tryz.f222 3 0 1 aJu BJ [.fn 45] (.pc aqW<| .pc aqO<| .nil)
def aJt:ax:=⟨[eO 0 0,eI 1,eI 2,eI 3,eB 8],[.row 3]⟩
def aoP:ax:=⟨[eI 3],[.row 3]⟩
def aq7:Pc:=pJ 1 910 1 4380866641928 aJt [xN aoP]
def aJs:ax:=⟨[eO 0 0,eI 1,eI 2,eI 11,eI 12],[.row 3]⟩
def aJr:ax:=⟨[eI 11,eI 12],[.row 3]⟩
def aq4:Pc:=pJ 1 3646 1 2305280059260278784 aJs [xN aJr]
def aJq:ax:=⟨[eB 8,eB 9,eI 12],[.row 3]⟩
def aJp:ax:=⟨[eB 68],[.row 3]⟩
def aq0:Pc:=pJ 1 14588 1 587989967349491957760 aJq [xN aJp]
def aJo:ax:=⟨[eO 0 0,eI 1,eI 2,eB 8,eB 9,eI 12],[.row 3]⟩
def aq3:Pc:=pJ 1 7294 1 9442427122730076733440 aJo [xN BJ,xR BJ]
def aJn:ax:=⟨[eO 0 0,eI 1,eI 2,eI 11],[.row 3]⟩
def aoO:ax:=⟨[eI 1],[.row 3]⟩
def aqZ:Pc:=pJ 1 14590 1 19807031183833118659095568386 aJn [xN aoO,xE 1 aoO]
def aJm:ax:=⟨[eO 0 0,eI 1,eI 2,eI 3,eB 8,eB 9],[.row 3]⟩
def aq8:Pc:=pL 1 14 1 21778071482940061661655974875633165532942 aJm [xR BJ]
def aJl:ax:=⟨[eO 0 0,eI 1,eI 2,eI 3],[.row 3]⟩
def arj:FD:=bW 212 Tryz.f212 4 0 1 aJl BJ [.fn 48,.fn 49,.fn 50,.fn 52,.fn 55,.fn 59,.fn 60,.fn 45,.fn 61,.fn 62] (.pc aq8<| .pc aqZ<| .pc aq3<| .pc aq0<| .pc aq4<| .pc aq7<| .nil)
def JZ:ax:=⟨[eO 0 0],[.row 3]⟩
def PX:FD:=bW 192 Tryz.f192 1 0 1 JZ BJ [.Eg 192 3,.fn 48,.fn 41] .nil
def aJk:ax:=⟨[eO 0 0,eI 3,(4,.one (.vw 0)),eI 5],[.row 3]⟩
def arf:Pc:=pL 1 59690 1 18014397972611112 aJk [xE 2 aoP]
def aJj:ax:=⟨[eO 0 0,eI 3],[.row 3]⟩
def aJi:ax:=⟨[eO 2 1],[.gone,.row 3]⟩
def ars:Pc:=pL 1 58 1 1152921504606846012 aJj [xR aJi,xE 0 BJ]
def aJh:ax:=⟨[eO 0 1],[.gone,.row 3]⟩
def Wh:FD:=uY [.mov 0] 193 Tryz.f193 1 1 1 JZ aJh [] (.pc ars<| .pc arf<| .nil)
def Ae:gp:=bV [cB,cB,.au 3,cI,cI]
def aJg:ax:=⟨[eP 2 0,eP 3 1,eP 4 2],[oM,oM,Ae,.row 3]⟩
def aJf:ax:=⟨[],[oM,oM,Ae,.row 3]⟩
def aJe:ax:=⟨[eB 5],[oM,oM,Ae,.row 3]⟩
def awz:Pc:=jO [cK 4 2 3] (pJ 0 6 3 268434976 aJg [xN aJf,(.ret,[.AF (λenv M=>2) 2 3],aJe)])
def JS:gp:=bV [cB,cB,.au 4,cI,cI]
def aJd:ax:=⟨[eP 4 0,eP 6 1,eO 31 2,eI 32,eI 33],[Ae,JS,.row 98,.row 3,.row 3]⟩
def aJc:ax:=⟨[eB 5],[Ae,JS,.row 98,.row 3,.row 3]⟩
def aJb:ax:=⟨[],[Ae,JS,.row 98,.row 3,.row 3]⟩
def auZ:Pc:=jO [cK 6 2 3] (pL 0 122 3 36028788429029664 aJd [(.ret,[.AF (λenv M=>0) 2 3],aJc),xE 0 aJb])
def aJa:ax:=⟨[eA 0 Cr,eA 1 Cr],[]⟩
def aK7:List eD:=[cB,cB,.au 0,cI,cI]
def aoN:ax:=⟨[eA 0 aK7,eB 1],[.row 3]⟩
def Yb:FD:=bW 150 Tryz.f150 2 2 0 aJa aoN [.fn 47,.fn 64] (.pc auZ<| .pc awz<| .nil)
def NM:gp:=bV [cB,cB,.au 2,cI,cI]
def aI9:ax:=⟨[eP 3 0,eP 4 1],[oM,NM,.row 3]⟩
def aI8:ax:=⟨[],[oM,NM,.row 3]⟩
def aI7:ax:=⟨[eB 5],[oM,NM,.row 3]⟩
def asq:Pc:=jO [cK 4 2 3] (pJ 0 6 2 523296 aI9 [xN aI8,(.ret,[.AF (λenv M=>1) 2 3],aI7)])
def JR:gp:=bV [cS 120,cI]
def aI6:ax:=⟨[eP 2 0,eP 6 1,eS 20 3,eI 21,eI 22],[JR,NM,.row 3]⟩
def aI5:ax:=⟨[],[JR,NM,.row 3]⟩
def arN:Pc:=bkC [.AF (λenv M=>1) 2 3] (jO [cK 6 2 3] (pL 0 122 2 4503599623177088 aI6 [xE 0 aI5]))
def aI4:ax:=⟨[eA 0 Ph,eA 1 Cr],[]⟩
def WW:FD:=bW 151 Tryz.f151 2 2 0 aI4 aoN [] (.pc arN<| .pc asq<| .nil)
def aI3:ax:=⟨[eP 4 0,eP 6 1,eP 8 2,eI 9],[qh,Ae,qh,.row 3]⟩
def aI2:ax:=⟨[],[qh,Ae,qh,.row 3]⟩
def aI1:ax:=⟨[eB 7],[qh,Ae,qh,.row 3]⟩
def ats:Pc:=jO [cK 6 2 3] (pJ 0 14 3 1208925819614629141151872 aI3 [xN aI2,(.ret,[.AF (λenv M=>1) 2 3],aI1)])
def aI0:ax:=⟨[eS 2 98,eP 4 0,eO 10 1,eI 11,eS 13 98],[qh,.row 98]⟩
def aIZ:ax:=⟨[eS 13 98],[qh,.row 98]⟩
def ar4:Pc:=pJ 0 64102 2 10140585831806192521836176089088 aI0 [(.normal,[.kZ 13 (.slice 98)],aIZ)]
def aIY:ax:=⟨[eS 2 98,eP 3 0,eP 4 1,eP 6 2,eO 10 3,eS 81 54,eI 82,eI 83],[JR,qh,JS,.row 98,.row 3]⟩
def aoM:ax:=⟨[eB 7],[JR,qh,Ae,.row 3]⟩
def aoL:ax:=⟨[eO 10 3],[JR,qh,JS,.row 98,.row 3]⟩
def asJ:Pc:=pL 0 250 3 332306998936557561669034731672501376 aIY [(.ret,[.AF (λenv M=>2) 2 3],aoM),xE 0 aoL]
def aIX:ax:=⟨[eS 2 98,eP 3 0,eP 4 1,eP 6 2,eO 10 3],[JR,qh,JS,.row 98,.row 3]⟩
def atr:Pc:=jO [.mk 10 98] (pJ 0 62 3 332306998945020042406337135895444608 aIX [xN aoL,xR aoM])
def aIW:ax:=⟨[(119,.one (cU))],[]⟩
def aIV:ax:=⟨[eB 235],[]⟩
def arH:Pc:=pJ 0 1038334 0 386497795420271572096346328287513425337262102441541647089101356532760576 aIW [xN aIV]
def aIU:ax:=⟨[eA 0 Ph,eA 1 kp,eS 2 98],[]⟩
def Ih:FD:=uY [.nZ 0 [.raw,.raw,.slice 3,.raw,.raw]] 96 Tryz.f96 3 2 0 aIU acK [.fn 36,.fn 22,.fn 23,.Uo 98 30 31 32,.fn 33,.fn 34,.fn 35,.fn 37,.fn 38,.fn 39,.fn 65] (.pc arH<| .pc atr<| .pc asJ<| .pc ar4<| .pc ats<| .nil)
def aIT:ax:=⟨[eA 0 Ph,eA 1 kp],[]⟩
def axm:FD:=uY [.nZ 0 [.raw,.raw,.slice 3,.raw,.raw]] 41 Tryz.f41 2 2 0 aIT acK [.fn 21,.acQ 22 [(2,98)]] .nil
def aIS:ax:=⟨[eS 0 3,eI 1,eI 7,eI 8],[]⟩
def aIR:ax:=⟨[eI 4],[]⟩
def asE:Pc:=pL 0 26 0 524080 aIS [xR aIR,xE 0 ⟨[],[]⟩]
def acJ:ax:=⟨[eS 0 3,eI 1],[]⟩
def aff:FD:=bW 152 Tryz.f152 2 1 0 acJ B0 [] (.pc asE<| .nil)
def atM:FD:=bW 97 Tryz.f97 2 1 0 acJ iL [.fn 68] .nil
def aIQ:ax:=⟨[eA 0 kp,eP 1 0,eP 2 1],[bV [cS 120],bV [cS 3]]⟩
def aoK:ax:=⟨[eB 0],[bV [cS 120],bV [cS 3]]⟩
def ax0:FD:=bW 99 Tryz.f99 3 1 2 aIQ aoK [.fn 66] .nil
def aIP:ax:=⟨[eS 0 54,(1,.one (.cl 99 [(0,0,0),(1,0,0)])),eI 7,eI 8],[bV [cS 120],bV [cS 3]]⟩
def aIO:ax:=⟨[eI 4],[bV [cS 120],bV [cS 3]]⟩
def aIN:ax:=⟨[],[bV [cS 120],bV [cS 3]]⟩
def aqL:Pc:=pL 0 26 2 524080 aIP [xR aIO,xE 0 aIN]
def aoJ:ax:=⟨[eS 0 54,(1,.one (.cl 99 [(0,0,0),(1,0,0)]))],[bV [cS 120],bV [cS 3]]⟩
def aIM:ax:=⟨[eI 0],[bV [cS 120],bV [cS 3]]⟩
def aeb:FD:=bW 153 Tryz.f153 2 1 2 aoJ aIM [.fn 71] (.pc aqL<| .nil)
def aqS:FD:=bW 98 Tryz.f98 2 1 2 aoJ aoK [.fn 70] .nil
def aIL:ax:=⟨[(9,.one (cU))],[]⟩
def aIK:ax:=⟨[eB 10],[]⟩
def avO:Pc:=pJ 0 116 0 31744 aIL [xN aIK]
def aIJ:ax:=⟨[eP 3 0,eP 4 1,eP 5 2,eB 7],[bV [cS 120],bV [cS 3],qh]⟩
def aII:ax:=⟨[eB 7],[bV [cS 120],bV [cS 3],qh]⟩
def awy:Pc:=pJ 0 14 3 35184372088704 aIJ [xN aII]
def aIH:ax:=⟨[eS 0 120,eS 1 3,eA 2 kp],[]⟩
def Yr:FD:=bW 43 Tryz.f43 3 1 0 aIH iL [.fn 67,.fn 69] (.pc awy<| .pc avO<| .nil)
def axn:FD:=bW 20 Tryz.f20 2 1 0 s21 iL [.fn 75] .nil
def aIG:ax:=⟨[eS 1 54,(2,.one (.fn 20)),eS 15 54,eI 16,eI 17],[]⟩
def aqG:Pc:=pL 0 58 0 4294837184 aIG [xR Av,xE 0 ⟨[],[]⟩]
def aIF:ax:=⟨[eS 0 54,eS 1 54,(2,.one (.fn 20))],[]⟩
def ad8:FD:=bW 63 Tryz.f63 3 1 0 aIF iL [.fn 76] (.pc aqG<| .nil)
def aIE:ax:=⟨[eS 0 3,eS 1 3,eI 12,eI 13],[]⟩
def NT:ax:=⟨[eB 4],[]⟩
def asF:Pc:=pL 0 58 0 67100720 aIE [xR NT,xE 0 ⟨[],[]⟩]
def acI:ax:=⟨[eS 0 3,eS 1 3],[]⟩
def afg:FD:=bW 58 Tryz.f58 2 1 0 acI iL [] (.pc asF<| .nil)
def Uz:List eD:=[cU,cI,cI,cI,cS 54]
def aID:ax:=⟨[eA 0 Uz,eA 1 Uz],[]⟩
def awS:FD:=bW 68 Tryz.f68 2 1 0 aID iL [.fn 75] .nil
def aIC:ax:=⟨[eS 1 118,(2,.one (.fn 68)),eS 15 118,eI 16,eI 17],[]⟩
def aqA:Pc:=pL 0 58 0 4294837184 aIC [xR Av,xE 0 ⟨[],[]⟩]
def aIB:ax:=⟨[eS 0 118,eS 1 118,(2,.one (.fn 68))],[]⟩
def ad2:FD:=bW 67 Tryz.f67 3 1 0 aIB iL [.fn 79] (.pc aqA<| .nil)
def aIA:ax:=⟨[eS 1 41,(2,.one (.fn 22)),eS 15 41,eI 16,eI 17],[]⟩
def aqF:Pc:=pL 0 58 0 4294837184 aIA [xR Av,xE 0 ⟨[],[]⟩]
def aIz:ax:=⟨[eS 0 41,eS 1 41,(2,.one (.fn 22))],[]⟩
def ad7:FD:=bW 69 Tryz.f69 3 1 0 aIz iL [.fn 74] (.pc aqF<| .nil)
def apL:List eD:=[cU,cI,cI,cI,cI,cI,cB,cB,cB,cB,cB,cU,cS 54,cS 54,cS 118,cS 118,cS 3,cS 41,cS 110,cS 112,cS 115,cU,cI,cI,cI,cI,cI,cB,cB,cB,cB,cB,cU,cS 54,cS 54,cS 118,cS 118,cS 3,cS 41,cS 110,cS 112,cS 115]
def aIy:ax:=⟨[eA 0 apL,eA 1 apL],[]⟩
def awf:FD:=bW 70 Tryz.f70 2 1 0 aIy iL [.fn 74] .nil
def aIx:ax:=⟨[eS 1 110,(2,.one (.fn 70)),eS 15 110,eI 16,eI 17],[]⟩
def aqw:Pc:=pL 0 58 0 4294837184 aIx [xR Av,xE 0 ⟨[],[]⟩]
def aIw:ax:=⟨[eS 0 110,eS 1 110,(2,.one (.fn 70))],[]⟩
def adV:FD:=bW 73 Tryz.f73 3 1 0 aIw iL [.fn 82] (.pc aqw<| .nil)
def apK:List eD:=[cS 3,cU,cI,cI,cI,cI,cI,cB,cB,cB,cB,cB,cU,cS 54,cS 54,cS 118,cS 118,cS 3,cS 41,cS 110,cS 112,cS 115]
def aIv:ax:=⟨[eA 0 apK,eA 1 apK],[]⟩
def awe:FD:=bW 71 Tryz.f71 2 1 0 aIv iL [.fn 74,.fn 77] .nil
def aIu:ax:=⟨[eS 1 112,(2,.one (.fn 71)),eS 15 112,eI 16,eI 17],[]⟩
def aqm:Pc:=pL 0 58 0 4294837184 aIu [xR Av,xE 0 ⟨[],[]⟩]
def aIt:ax:=⟨[eS 0 112,eS 1 112,(2,.one (.fn 71))],[]⟩
def adE:FD:=bW 74 Tryz.f74 3 1 0 aIt iL [.fn 84] (.pc aqm<| .nil)
def adi:List eD:=[cU,cU,cU,cI,cI,cI,cI,cI,cI,cS 54,cI,cS 54,cU,cI,cI,cI,cI,cI,cB,cB,cB,cB,cB,cU,cS 54,cS 54,cS 118,cS 118,cS 3,cS 41,cS 110,cS 112,cS 115,cU,cI,cI,cI,cI,cI,cB,cB,cB,cB,cB,cU,cS 54,cS 54,cS 118,cS 118,cS 3,cS 41,cS 110,cS 112,cS 115]
def aIs:ax:=⟨[eA 0 adi,eA 1 adi],[]⟩
def awd:FD:=bW 72 Tryz.f72 2 1 0 aIs iL [.fn 76,.fn 74,.fn 75] .nil
def aIr:ax:=⟨[eS 1 115,(2,.one (.fn 72)),eS 15 115,eI 16,eI 17],[]⟩
def aqB:Pc:=pL 0 58 0 4294837184 aIr [xR Av,xE 0 ⟨[],[]⟩]
def aIq:ax:=⟨[eS 0 115,eS 1 115,(2,.one (.fn 72))],[]⟩
def ad3:FD:=bW 75 Tryz.f75 3 1 0 aIq iL [.fn 86] (.pc aqB<| .nil)
def BI:ax:=⟨[eP 2 0,eP 3 1],[v0,v0]⟩
def aIp:ax:=⟨[eB 8],[v0,v0]⟩
def auE:Pc:=pJ 0 24 2 72057594037927680 BI [xN aIp]
def aIo:ax:=⟨[eB 56],[v0,v0]⟩
def atY:Pc:=pJ 0 102 2 1237940039213322680861196288 BI [xN aIo]
def aIn:ax:=⟨[eB 90],[v0,v0]⟩
def atX:Pc:=pJ 0 414 2 10384592479129615971680717759315968 BI [xN aIn]
def xU:ax:=⟨[],[v0,v0]⟩
def Ai:ax:=⟨[eB 4],[v0,v0]⟩
def au8:Pc:=pJ 0 6 2 87112285931760246646623899502532662132496 BI [xN xU,xR Ai]
def aoI:ax:=⟨[eA 0 h6,eA 1 h6],[]⟩
def LS:FD:=bW 22 Tryz.f22 2 1 0 aoI iL [.fn 77,.fn 75,.fn 78,.fn 80,.fn 81,.fn 83,.fn 85] (.pc au8<| .pc atX<| .pc atY<| .pc auE<| .nil)
def aoH:ax:=⟨[(24,.one (cU))],[]⟩
def aIm:ax:=⟨[eB 51],[]⟩
def as1:Pc:=pJ 0 33390590 0 15762598695796736 aoH [xN aIm]
def aIl:ax:=⟨[eB 63],[]⟩
def ar3:Pc:=pJ 0 2136997886 0 64563604257983430656 aoH [xN aIl]
def JQ:gp:=bV [cU,cI,cI,cI,cI,cI,cB,cB,cB,cB,cB,cU,.au 3,.au 4,.au 5,.au 6,.au 7,.au 8,.au 9,.au 10,.au 11]
def aIk:ax:=⟨[eP 1 0,eP 4 1,eI 5,eI 6,eI 7,(8,.one (.mpr 2))],[v0,JQ,.mp (.str) false [.bool],.row 54,.row 54,.row 118,.row 118,.row 3,.row 41,.row 110,.row 112,.row 115]⟩
def aIj:ax:=⟨[eI 5,eI 6,eI 7],[v0,JQ,.mp (.str) false [.bool],.row 54,.row 54,.row 118,.row 118,.row 3,.row 41,.row 110,.row 112,.row 115]⟩
def aIi:ax:=⟨[eB 2],[v0,JQ,.mp (.str) false [.bool],.row 54,.row 54,.row 118,.row 118,.row 3,.row 41,.row 110,.row 112,.row 115]⟩
def avN:Pc:=jO [cK 4 12 54,cK 4 13 54,cK 4 14 118,cK 4 15 118,cK 4 16 3,cK 4 17 41,cK 4 18 110,cK 4 19 112,cK 4 20 115] (pJ 0 254 3 11150372599265311570767859136324180744601828 aIk [xN aIj,xR aIi])
def acy:gp:=bV [cU,cI,cI,cI,cI,cI,cB,cB,cB,cB,cB,cU,.au 12,.au 13,.au 14,.au 15,.au 16,.au 17,.au 18,.au 19,.au 20]
def aIh:ax:=⟨[eP 1 0,eP 3 1,eP 4 2,eI 5,eI 6,eI 7],[v0,JQ,acy,.row 54,.row 54,.row 118,.row 118,.row 3,.row 41,.row 110,.row 112,.row 115,.row 54,.row 54,.row 118,.row 118,.row 3,.row 41,.row 110,.row 112,.row 115]⟩
def aIg:ax:=⟨[],[v0,JQ,acy,.fP 54,.fP 54,.fP 118,.fP 118,.fP 3,.fP 41,.fP 110,.fP 112,.fP 115,.fP 54,.fP 54,.fP 118,.fP 118,.fP 3,.fP 41,.fP 110,.fP 112,.fP 115]⟩
def aIf:ax:=⟨[eB 2],[v0,JQ,acy,.fP 54,.fP 54,.fP 118,.fP 118,.fP 3,.fP 41,.fP 110,.fP 112,.fP 115,.fP 54,.fP 54,.fP 118,.fP 118,.fP 3,.fP 41,.fP 110,.fP 112,.fP 115]⟩
def avM:Pc:=jO [cK 3 12 54,cK 3 13 54,cK 3 14 118,cK 3 15 118,cK 3 16 3,cK 3 17 41,cK 3 18 110,cK 3 19 112,cK 3 20 115] (pJ 0 510 3 374144408006338547794831746407509316707737978011652 aIh [xN aIg,xR aIf])
def Md:FD:=bW 100 Tryz.f100 1 1 0 s7 iL [.fc 74 [.nZ 0 [.raw,.raw,.raw,.raw,.raw,.raw,.raw,.raw,.raw,.raw,.raw,.raw,.slice 54,.slice 54,.slice 118,.slice 118,.slice 3,.slice 41,.slice 110,.slice 112,.slice 115],.nZ 1 [.raw,.raw,.raw,.raw,.raw,.raw,.raw,.raw,.raw,.raw,.raw,.raw,.slice 54,.slice 54,.slice 118,.slice 118,.slice 3,.slice 41,.slice 110,.slice 112,.slice 115]]] (.pc avM<| .pc avN<| .pc ar3<| .pc as1<| .nil)
def aIe:ax:=⟨[(4,.one (cU))],[]⟩
def aId:ax:=⟨[eB 5],[]⟩
def avQ:Pc:=pJ 0 52 0 32736 aIe [xN aId]
def agq:FD:=bW 154 Tryz.f154 1 1 0 s7 iL [] (.pc avQ<| .nil)
def ew:gp:=bV [cS 120,cI,cS 120,cI,cS 57,cS 67,.au 1,cI,.mpr 2]
def iD:gp:=bV [.ptr 0 0 0,cI,cS 3,cS 3,cS 3,cS 3,cS 3,cB,cB,cB,cI,cI]
def BH:ax:=⟨[eP 2 3,eP 3 4],[ew,.row 166,.mp (.int .i64) false [.int .i64],iD,v0]⟩
def BG:ax:=⟨[],[ew,.row 166,.mp (.int .i64) false [.int .i64],iD,v0]⟩
def DT:ax:=⟨[eB 4],[ew,.row 166,.mp (.int .i64) false [.int .i64],iD,v0]⟩
def asW:Pc:=pJ 3 6 5 8176 BH [xN BG,xR DT]
def aIc:ax:=⟨[(14,.one (cU))],[ew,.row 166,.mp (.int .i64) false [.int .i64]]⟩
def aIb:ax:=⟨[eB 15],[ew,.row 166,.mp (.int .i64) false [.int .i64]]⟩
def ar0:Pc:=pJ 3 116 3 491520 aIc [xN aIb]
def asn:Pc:=pJ 3 14 5 1073733648 BH [xN BG,xR DT]
def GP:List eD:=[.ptr 0 0 0,cI,cS 3,cS 3,cS 3,cS 3,cS 3,cB,cB,cB,cI,cI]
def DS:ax:=⟨[eA 0 GP,eA 1 h6],[ew,.row 166,.mp (.int .i64) false [.int .i64]]⟩
def sW:ax:=⟨[eB 0],[ew,.row 166,.mp (.int .i64) false [.int .i64]]⟩
def P4:FD:=bW 101 Tryz.f101 2 1 3 DS sW [.fn 88] (.pc asn<| .pc ar0<| .pc asW<| .nil)
def Ua:ax:=⟨[eA 0 GP,eI 1],[ew,.row 166,.mp (.int .i64) false [.int .i64]]⟩
def awO:FD:=bW 158 Tryz.f158 2 1 3 Ua sW [.fn 67] .nil
def sV:gp:=bV [.ptr 1 0 0,cI,cS 3,cS 3,cS 3,cS 3,cS 3,cB,cB,cB,cI,cI]
def sU:gp:=bV [cS 120,cI,cS 120,cI,cS 57,cS 67,.au 2,cI,.mpr 3]
def aIa:ax:=⟨[eA 0 kp,eP 1 0],[sV,sU,.row 166,.mp (.int .i64) false [.int .i64]]⟩
def DR:ax:=⟨[eB 0],[sV,sU,.row 166,.mp (.int .i64) false [.int .i64]]⟩
def auR:FD:=bW 232 Tryz.f232 2 1 4 aIa DR [.fn 92] .nil
def aH9:ax:=⟨[eS 0 54,(1,.one (.cl 232 [(0,0,0)])),eI 7,eI 8],[sV,sU,.row 166,.mp (.int .i64) false [.int .i64]]⟩
def acH:ax:=⟨[eI 4],[sV,sU,.row 166,.mp (.int .i64) false [.int .i64]]⟩
def T9:ax:=⟨[],[sV,sU,.row 166,.mp (.int .i64) false [.int .i64]]⟩
def aqo:Pc:=pL 4 26 4 524080 aH9 [xR acH,xE 0 T9]
def aoG:ax:=⟨[eS 0 54,(1,.one (.cl 232 [(0,0,0)]))],[sV,sU,.row 166,.mp (.int .i64) false [.int .i64]]⟩
def acG:ax:=⟨[eI 0],[sV,sU,.row 166,.mp (.int .i64) false [.int .i64]]⟩
def adH:FD:=bW 153 Tryz.f153 2 1 4 aoG acG [.fn 96] (.pc aqo<| .nil)
def aqu:FD:=bW 98 Tryz.f98 2 1 4 aoG DR [.fn 95] .nil
def aH8:ax:=⟨[eP 2 3,eP 3 4],[ew,.row 166,.mp (.int .i64) false [.int .i64],iD,qh]⟩
def aH7:ax:=⟨[],[ew,.row 166,.mp (.int .i64) false [.int .i64],iD,qh]⟩
def aH6:ax:=⟨[eB 4],[ew,.row 166,.mp (.int .i64) false [.int .i64],iD,qh]⟩
def atV:Pc:=pJ 3 6 5 268435440 aH8 [xN aH7,xR aH6]
def T8:ax:=⟨[eA 0 GP,eA 1 kp],[ew,.row 166,.mp (.int .i64) false [.int .i64]]⟩
def afs:FD:=bW 214 Tryz.f214 2 1 3 T8 sW [.fn 94,.fn 93] (.pc atV<| .nil)
def aH5:ax:=⟨[eA 0 Cr,eB 1],[ew,.row 166,.mp (.int .i64) false [.int .i64]]⟩
def awa:FD:=bW 194 Tryz.f194 2 2 3 T8 aH5 [.fn 20,.fn 92] .nil
def aH4:ax:=⟨[eI 0,eP 1 0],[sV,sU,.row 166,.mp (.int .i64) false [.int .i64]]⟩
def aup:FD:=bW 195 Tryz.f195 2 1 4 aH4 DR [.fn 67] .nil
def aH3:ax:=⟨[eS 0 3,(1,.one (.cl 195 [(0,0,0)])),eI 7,eI 8],[sV,sU,.row 166,.mp (.int .i64) false [.int .i64]]⟩
def aqq:Pc:=pL 4 26 4 524080 aH3 [xR acH,xE 0 T9]
def aoF:ax:=⟨[eS 0 3,(1,.one (.cl 195 [(0,0,0)]))],[sV,sU,.row 166,.mp (.int .i64) false [.int .i64]]⟩
def adM:FD:=bW 141 Tryz.f141 2 1 4 aoF acG [.fn 99] (.pc aqq<| .nil)
def aqy:FD:=bW 91 Tryz.f91 2 1 4 aoF DR [.fn 98] .nil
def BE:gp:=bV [cU,cI,cI,cI,cS 54]
def acx:gp:=bV [cU,cI,cI,cI,.au 5]
def aoE:ax:=⟨[eP 3 3,eP 6 4,eI 7],[ew,.row 166,.mp (.int .i64) false [.int .i64],BE,acx,.row 54]⟩
def aH2:ax:=⟨[eI 7],[ew,.row 166,.mp (.int .i64) false [.int .i64],BE,acx,.row 54]⟩
def aE4:gp:=bV [cU,cI,cI,cI,.au 6]
def aoD:ax:=⟨[eO 4 5,eB 5],[ew,.row 166,.mp (.int .i64) false [.int .i64],BE,aE4,.row 3,.row 54]⟩
def asY:Pc:=jO [cK 6 4 54] (pJ 3 30 5 137438937264 aoE [xN aH2,(.ret,[.mk 4 3],aoD)])
def aH1:ax:=⟨[],[ew,.row 166,.mp (.int .i64) false [.int .i64],BE,acx,.row 54]⟩
def asX:Pc:=pJ 3 62 5 9223371899415822384 aoE [xN aH1,(.ret,[.mk 4 3],aoD)]
def aE3:gp:=bV [cB,cB,.au 6,cI,cI]
def aH0:ax:=⟨[eP 2 3,eP 3 4,eI 7,eP 8 5],[ew,.row 166,.mp (.int .i64) false [.int .i64],iD,BE,aE3,.row 3]⟩
def aoC:ax:=⟨[],[ew,.row 166,.mp (.int .i64) false [.int .i64],iD,BE,oM]⟩
def acF:ax:=⟨[eO 4 6,eB 5],[ew,.row 166,.mp (.int .i64) false [.int .i64],iD,BE,oM,.row 3]⟩
def aso:Pc:=jO [cK 8 2 3] (pJ 3 254 6 75548640353877468643888 aH0 [(.normal,[.GQ (λenv M=>5) 2 3],aoC),(.ret,[.mk 4 3],acF)])
def aoB:ax:=⟨[eP 2 3,eP 3 4,eP 8 5],[ew,.row 166,.mp (.int .i64) false [.int .i64],iD,BE,oM]⟩
def arG:Pc:=pJ 3 130908 6 174224561478926776223592541944072665825328 aoB [xN aoC,(.ret,[.mk 4 3],acF)]
def aHZ:ax:=⟨[eS 10 3],[ew,.row 166,.mp (.int .i64) false [.int .i64],iD,BE,oM]⟩
def ar1:Pc:=pJ 3 1022 6 1393796574908163946270424528314608270705712 aoB [(.normal,[.kZ 10 (.slice 3)],aHZ),(.ret,[.mk 4 3],acF)]
def aoA:ax:=⟨[eA 0 GP,eA 1 Uz],[ew,.row 166,.mp (.int .i64) false [.int .i64]]⟩
def aHY:ax:=⟨[eS 0 3,eB 1],[ew,.row 166,.mp (.int .i64) false [.int .i64]]⟩
def Ia:FD:=uY [.kZ 0 (.slice 3)] 155 Tryz.f155 2 2 3 aoA aHY [.fn 97,.fn 33,.fn 34,.fn 93,.fn 91] (.pc ar1<| .pc arG<| .pc aso<| .pc asX<| .pc asY<| .nil)
def aHX:ax:=⟨[eI 0,eP 1 0],[bV [cS 3]]⟩
def aoz:ax:=⟨[eB 0],[bV [cS 3]]⟩
def axl:FD:=bW 233 Tryz.f233 2 1 1 aHX aoz [.fn 67] .nil
def aHW:ax:=⟨[eS 0 3,(1,.one (.cl 233 [(0,0,0)])),eI 7,eI 8],[bV [cS 3]]⟩
def aHV:ax:=⟨[eI 4],[bV [cS 3]]⟩
def aHU:ax:=⟨[],[bV [cS 3]]⟩
def aqP:Pc:=pL 0 26 1 524080 aHW [xR aHV,xE 0 aHU]
def aoy:ax:=⟨[eS 0 3,(1,.one (.cl 233 [(0,0,0)]))],[bV [cS 3]]⟩
def aHT:ax:=⟨[eI 0],[bV [cS 3]]⟩
def aed:FD:=bW 141 Tryz.f141 2 1 1 aoy aHT [.fn 108] (.pc aqP<| .nil)
def aqV:FD:=bW 91 Tryz.f91 2 1 1 aoy aoz [.fn 107] .nil
def ayr:FD:=bW 215 Tryz.f215 2 1 0 acI iL [.fn 106] .nil
def adh:List eD:=[cI,cI,cI,cB,cS 3]
def aHS:ax:=⟨[eA 0 Cr,eA 1 adh],[]⟩
def awQ:FD:=bW 197 Tryz.f197 2 1 0 aHS iL [.fn 105] .nil
def Gu:gp:=bV [.ptr 2 0 0,cI,cS 3,cS 3,cS 3,cS 3,cS 3,cB,cB,cB,cI,cI]
def Gt:gp:=bV [cS 120,cI,cS 120,cI,cS 57,cS 67,.au 3,cI,.mpr 4]
def aHR:ax:=⟨[eI 0,eP 1 0,eP 2 1],[oM,Gu,Gt,.row 166,.mp (.int .i64) false [.int .i64]]⟩
def aox:ax:=⟨[eB 0],[oM,Gu,Gt,.row 166,.mp (.int .i64) false [.int .i64]]⟩
def avw:FD:=bW 196 Tryz.f196 3 1 5 aHR aox [.fn 104] .nil
def aHQ:ax:=⟨[eS 0 3,(1,.one (.cl 196 [(0,0,0),(1,0,0)])),eI 7,eI 8],[oM,Gu,Gt,.row 166,.mp (.int .i64) false [.int .i64]]⟩
def aHP:ax:=⟨[eI 4],[oM,Gu,Gt,.row 166,.mp (.int .i64) false [.int .i64]]⟩
def aHO:ax:=⟨[],[oM,Gu,Gt,.row 166,.mp (.int .i64) false [.int .i64]]⟩
def aqz:Pc:=pL 5 26 5 524080 aHQ [xR aHP,xE 0 aHO]
def aow:ax:=⟨[eS 0 3,(1,.one (.cl 196 [(0,0,0),(1,0,0)]))],[oM,Gu,Gt,.row 166,.mp (.int .i64) false [.int .i64]]⟩
def aHN:ax:=⟨[eI 0],[oM,Gu,Gt,.row 166,.mp (.int .i64) false [.int .i64]]⟩
def ad1:FD:=bW 141 Tryz.f141 2 1 5 aow aHN [.fn 103] (.pc aqz<| .nil)
def aqI:FD:=bW 91 Tryz.f91 2 1 5 aow aox [.fn 102] .nil
def aHM:ax:=⟨[eA 0 GP,eA 1 kp,eS 2 3],[ew,.row 166,.mp (.int .i64) false [.int .i64]]⟩
def awP:FD:=bW 156 Tryz.f156 3 1 3 aHM sW [.fn 101,.fn 91] .nil
def ath:FD:=bW 157 Tryz.f157 2 1 3 T8 sW [.fn 36,.fn 91] .nil
def auT:FD:=bW 159 Tryz.f159 2 1 3 T8 sW [.fn 91] .nil
def auq:FD:=bW 160 Tryz.f160 2 1 3 aoA sW [.fn 90] .nil
def aov:ax:=⟨[eA 0 GP,eI 1,eI 2],[ew,.row 166,.mp (.int .i64) false [.int .i64]]⟩
def awb:FD:=bW 161 Tryz.f161 3 1 3 aov sW [] .nil
def avx:FD:=bW 162 Tryz.f162 3 1 3 aov sW [] .nil
def azu:FD:=bW 168 Tryz.f168 1 1 0 s7 iL [.fc 74 [.nZ 1 [.raw,.raw,.raw,.raw,.raw,.raw,.raw,.raw,.raw,.raw,.raw,.raw,.slice 54,.slice 54,.slice 118,.slice 118,.slice 3,.slice 41,.slice 110,.slice 112,.slice 115]]] .nil
def acE:ax:=⟨[(8,.one (cU))],[ew,.row 166,.mp (.int .i64) false [.int .i64]]⟩
def aHL:ax:=⟨[eB 9],[ew,.row 166,.mp (.int .i64) false [.int .i64]]⟩
def asm:Pc:=pJ 3 116 3 3584 acE [xN aHL]
def aHK:ax:=⟨[eP 3 3,eI 5],[ew,.row 166,.mp (.int .i64) false [.int .i64],v0]⟩
def aHJ:ax:=⟨[eI 5],[ew,.row 166,.mp (.int .i64) false [.int .i64],v0]⟩
def aou:ax:=⟨[eB 4],[ew,.row 166,.mp (.int .i64) false [.int .i64],v0]⟩
def asV:Pc:=pJ 3 14 4 34359738352 aHK [xN aHJ,xR aou]
def Xi:FD:=bW 163 Tryz.f163 2 1 3 DS sW [.fn 110,.fn 115] (.pc asV<| .pc asm<| .nil)
def aot:ax:=⟨[eA 0 adh,eA 1 adh],[]⟩
def azv:FD:=bW 199 Tryz.f199 2 1 0 aot iL [.fn 105] .nil
def Gs:gp:=bV [.ptr 3 0 0,cI,cS 3,cS 3,cS 3,cS 3,cS 3,cB,cB,cB,cI,cI]
def sS:gp:=bV [cS 3,cS 3]
def Gr:gp:=bV [cS 120,cI,cS 120,cI,cS 57,cS 67,.au 4,cI,.mpr 5]
def aHI:ax:=⟨[eI 0,eP 1 0,eP 2 1,eP 3 2],[Gs,sS,bV [cI],Gr,.row 166,.mp (.int .i64) false [.int .i64]]⟩
def aos:ax:=⟨[eB 0],[Gs,sS,bV [cI],Gr,.row 166,.mp (.int .i64) false [.int .i64]]⟩
def auU:FD:=bW 198 Tryz.f198 4 1 6 aHI aos [.fn 120] .nil
def aHH:ax:=⟨[eS 0 3,(1,.one (.cl 198 [(0,0,0),(1,0,0),(2,0,0)])),eI 7,eI 8],[Gs,sS,bV [cI],Gr,.row 166,.mp (.int .i64) false [.int .i64]]⟩
def aHG:ax:=⟨[eI 4],[Gs,sS,bV [cI],Gr,.row 166,.mp (.int .i64) false [.int .i64]]⟩
def aHF:ax:=⟨[],[Gs,sS,bV [cI],Gr,.row 166,.mp (.int .i64) false [.int .i64]]⟩
def aqv:Pc:=pL 6 26 6 524080 aHH [xR aHG,xE 0 aHF]
def aor:ax:=⟨[eS 0 3,(1,.one (.cl 198 [(0,0,0),(1,0,0),(2,0,0)]))],[Gs,sS,bV [cI],Gr,.row 166,.mp (.int .i64) false [.int .i64]]⟩
def aHE:ax:=⟨[eI 0],[Gs,sS,bV [cI],Gr,.row 166,.mp (.int .i64) false [.int .i64]]⟩
def adU:FD:=bW 141 Tryz.f141 2 1 6 aor aHE [.fn 119] (.pc aqv<| .nil)
def aqE:FD:=bW 91 Tryz.f91 2 1 6 aor aos [.fn 118] .nil
def atW:Pc:=pJ 3 6 5 67104784 BH [xN BG,xR DT]
def aHD:ax:=⟨[eP 3 3,eP 5 4],[ew,.row 166,.mp (.int .i64) false [.int .i64],v0,sS]⟩
def aHC:ax:=⟨[],[ew,.row 166,.mp (.int .i64) false [.int .i64],v0,sS]⟩
def aHB:ax:=⟨[eB 4],[ew,.row 166,.mp (.int .i64) false [.int .i64],v0,sS]⟩
def atp:Pc:=pJ 3 30 5 144112989052600336 aHD [xN aHC,xR aHB]
def aHA:ax:=⟨[eP 2 3,eP 5 4,eS 58 54,eI 59,eI 60],[ew,.row 166,.mp (.int .i64) false [.int .i64],iD,sS]⟩
def aoq:ax:=⟨[eB 4],[ew,.row 166,.mp (.int .i64) false [.int .i64],iD,sS]⟩
def aop:ax:=⟨[],[ew,.row 166,.mp (.int .i64) false [.int .i64],iD,sS]⟩
def asH:Pc:=pL 3 250 5 75556710804409716572368 aHA [xR aoq,xE 0 aop]
def aHz:ax:=⟨[eP 2 3,eP 3 4,eP 5 5],[ew,.row 166,.mp (.int .i64) false [.int .i64],iD,v0,sS]⟩
def aHy:ax:=⟨[],[ew,.row 166,.mp (.int .i64) false [.int .i64],iD,v0,sS]⟩
def aHx:ax:=⟨[eB 4],[ew,.row 166,.mp (.int .i64) false [.int .i64],iD,v0,sS]⟩
def ato:Pc:=pJ 3 62 6 75557719610726247563472 aHz [xN aHy,xR aHx]
def aHw:ax:=⟨[eP 2 3,eP 5 4,eS 77 118,eI 78,eI 79],[ew,.row 166,.mp (.int .i64) false [.int .i64],iD,sS]⟩
def asG:Pc:=pL 3 506 5 316912045594147543059588452112 aHw [xR aoq,xE 2 aop]
def Ig:FD:=bW 164 Tryz.f164 2 1 3 DS sW [.fn 117,.fn 90,.fn 100,.fn 113] (.pc asG<| .pc ato<| .pc asH<| .pc atp<| .pc atW<| .nil)
def awN:FD:=bW 165 Tryz.f165 2 1 3 Ua sW [.fn 67,.fn 113] .nil
def aHv:ax:=⟨[eI 0,eI 1,eP 2 0],[sV,sU,.row 166,.mp (.int .i64) false [.int .i64]]⟩
def aur:FD:=bW 200 Tryz.f200 3 1 4 aHv DR [.fn 120] .nil
def aHu:ax:=⟨[eS 1 3,(2,.one (.cl 200 [(0,0,0)])),eS 15 3,eI 16,eI 17],[sV,sU,.row 166,.mp (.int .i64) false [.int .i64]]⟩
def aHt:ax:=⟨[eB 6],[sV,sU,.row 166,.mp (.int .i64) false [.int .i64]]⟩
def aqr:Pc:=pL 4 58 4 4294837184 aHu [xR aHt,xE 0 T9]
def aHs:ax:=⟨[eS 0 3,eS 1 3,(2,.one (.cl 200 [(0,0,0)]))],[sV,sU,.row 166,.mp (.int .i64) false [.int .i64]]⟩
def adN:FD:=bW 201 Tryz.f201 3 1 4 aHs DR [.fn 124] (.pc aqr<| .nil)
def atn:Pc:=pJ 3 6 5 17179868944 BH [xN BG,xR DT]
def afh:FD:=bW 166 Tryz.f166 2 1 3 DS sW [.fn 113,.fn 123] (.pc atn<| .nil)
def arS:Pc:=pJ 3 13820 5 316912650057057068899199090704 BH [xN BG,xR DT]
def aHr:ax:=⟨[eB 184],[ew,.row 166,.mp (.int .i64) false [.int .i64]]⟩
def arF:Pc:=pJ 3 884734 3 171639500576979552136134867040834628565298781684563443712 acE [xN aHr]
def aHq:ax:=⟨[eB 193],[ew,.row 166,.mp (.int .i64) false [.int .i64]]⟩
def art:Pc:=pJ 3 3538942 3 87879424295413530693701051924907329825432976222496483180544 acE [xN aHq]
def Qb:FD:=bW 102 Tryz.f102 2 1 3 DS sW [.fn 19,.fn 67,.fn 33,.fn 90,.fn 100,.fn 109,.fn 93,.fn 110,.fn 111,.fn 112,.fn 113,.fn 114,.fn 116,.fn 121,.fn 122] (.pc art<| .pc arF<| .pc arS<| .nil)
def aoo:ax:=⟨[eA 0 GP],[ew,.row 166,.mp (.int .i64) false [.int .i64]]⟩
def avv:FD:=uY [.nZ 0 [.raw,.raw,.slice 3,.raw,.raw,.raw,.raw,.raw,.raw,.raw,.raw,.raw]] 167 Tryz.f167 1 1 3 aoo aoo [] .nil
def atq:Pc:=pJ 3 6 5 8796092956688 BH [xN BG,xR DT]
def aHp:ax:=⟨[eP 2 3,eS 44 3,eI 45,eI 46],[ew,.row 166,.mp (.int .i64) false [.int .i64],iD]⟩
def aHo:ax:=⟨[],[ew,.row 166,.mp (.int .i64) false [.int .i64],iD]⟩
def asI:Pc:=pL 3 58 4 576390383559245888 aHp [xE 0 aHo]
def as0:Pc:=pJ 3 14 5 576451956210401344 BH [xN BG]
def aHn:ax:=⟨[eP 7 3,eP 8 4,eS 66 110,eI 67,eI 68],[ew,.row 166,.mp (.int .i64) false [.int .i64],iD,iD]⟩
def aHm:ax:=⟨[eB 4],[ew,.row 166,.mp (.int .i64) false [.int .i64],iD,iD]⟩
def aHl:ax:=⟨[],[ew,.row 166,.mp (.int .i64) false [.int .i64],iD,iD]⟩
def ash:Pc:=pL 3 506 5 38685331079762954237772816 aHn [xR aHm,xE 2 aHl]
def aHk:ax:=⟨[eP 3 3,eP 7 4,eP 8 5],[ew,.row 166,.mp (.int .i64) false [.int .i64],v0,iD,iD]⟩
def aHj:ax:=⟨[],[ew,.row 166,.mp (.int .i64) false [.int .i64],v0,iD,iD]⟩
def aHi:ax:=⟨[eB 4],[ew,.row 166,.mp (.int .i64) false [.int .i64],v0,iD,iD]⟩
def asp:Pc:=pJ 3 126 6 38685589334179986171495440 aHk [xN aHj,xR aHi]
def acw:gp:=bV [cS 3,cU,cI,cI,cI,cI,cI,cB,cB,cB,cB,cB,cU,cS 54,cS 54,cS 118,cS 118,cS 3,cS 41,cS 110,cS 112,cS 115]
def aHh:ax:=⟨[eP 2 3,eP 3 4,eI 12,eP 13 5],[ew,.row 166,.mp (.int .i64) false [.int .i64],iD,v0,acw]⟩
def aHg:ax:=⟨[],[ew,.row 166,.mp (.int .i64) false [.int .i64],iD,v0,acw]⟩
def aHf:ax:=⟨[eB 4],[ew,.row 166,.mp (.int .i64) false [.int .i64],iD,v0,acw]⟩
def arv:Pc:=pJ 3 2096434 6 170141173319264429905852091742258462736 aHh [xN aHg,xR aHf]
def aHe:ax:=⟨[(11,.one (.mpr 3)),eS 128 3,eI 129,eI 130],[ew,.row 166,.mp (.int .i64) false [.int .i64],.mp (.int .i64) false [.bool]]⟩
def aHd:ax:=⟨[eB 4],[ew,.row 166,.mp (.int .i64) false [.int .i64],.mp (.int .i64) false [.bool]]⟩
def aHc:ax:=⟨[],[ew,.row 166,.mp (.int .i64) false [.int .i64],.mp (.int .i64) false [.bool]]⟩
def aro:Pc:=pL 3 16771482 4 1392435445440480192492128893610795521310736 aHe [xR aHd,xE 6 aHc]
def aHb:ax:=⟨[eP 2 3,eP 3 4,(11,.one (.mpr 5)),eS 96 112,eI 97,eI 98],[ew,.row 166,.mp (.int .i64) false [.int .i64],iD,v0,.mp (.int .i64) false [.bool]]⟩
def aHa:ax:=⟨[eB 4],[ew,.row 166,.mp (.int .i64) false [.int .i64],iD,v0,.mp (.int .i64) false [.bool]]⟩
def aG9:ax:=⟨[],[ew,.row 166,.mp (.int .i64) false [.int .i64],iD,v0,.mp (.int .i64) false [.bool]]⟩
def arM:Pc:=pL 3 16378 6 89202980794122175653492816033243071848165392 aHb [xR aHa,xE 4 aG9]
def AX:FD:=bW 103 Tryz.f103 2 1 3 DS sW [.fn 72,.fn 11,.fn 19,.fn 126] (.pc arM<| .pc aro<| .pc arv<| .pc asp<| .pc ash<| .pc as0<| .pc asI<| .pc atq<| .nil)
def aG8:ax:=⟨[eP 3 3],[ew,.row 166,.mp (.int .i64) false [.int .i64],v0]⟩
def aG7:ax:=⟨[],[ew,.row 166,.mp (.int .i64) false [.int .i64],v0]⟩
def asZ:Pc:=pJ 3 6 4 17179867152 aG8 [xN aG7,xR aou]
def aG6:ax:=⟨[(58,.one (cU))],[ew,.row 166,.mp (.int .i64) false [.int .i64]]⟩
def aG5:ax:=⟨[eB 76],[ew,.row 166,.mp (.int .i64) false [.int .i64]]⟩
def ark:Pc:=pJ 3 16593878 3 528905046081400263933952 aG6 [xN aG5]
def acv:gp:=bV [cU,cU,cU,cI,cI,cI,cI,cI,cI,cS 54,cI,cS 54,cU,cI,cI,cI,cI,cI,cB,cB,cB,cB,cB,cU,cS 54,cS 54,cS 118,cS 118,cS 3,cS 41,cS 110,cS 112,cS 115,cU,cI,cI,cI,cI,cI,cB,cB,cB,cB,cB,cU,cS 54,cS 54,cS 118,cS 118,cS 3,cS 41,cS 110,cS 112,cS 115]
def aG4:ax:=⟨[eP 2 3,eP 7 4,eP 8 5,(9,.one (cU))],[ew,.row 166,.mp (.int .i64) false [.int .i64],iD,acv,iD]⟩
def aG3:ax:=⟨[(9,.one (cU))],[ew,.row 166,.mp (.int .i64) false [.int .i64],iD,acv,iD]⟩
def aG2:ax:=⟨[eB 4],[ew,.row 166,.mp (.int .i64) false [.int .i64],iD,acv,iD]⟩
def aru:Pc:=pJ 3 518558 6 85070591730234615865555421481790341648 aG4 [(.normal,[.GQ (λenv M=>5) 4 3],aG3),xR aG2]
def aG1:ax:=⟨[eP 2 3,(5,.one (.mpr 4)),eS 44 115,eI 45,eI 46],[ew,.row 166,.mp (.int .i64) false [.int .i64],iD,.mp (.int .u8) false [.int .i64]]⟩
def aG0:ax:=⟨[eB 4],[ew,.row 166,.mp (.int .i64) false [.int .i64],iD,.mp (.int .u8) false [.int .i64]]⟩
def aGZ:ax:=⟨[],[ew,.row 166,.mp (.int .i64) false [.int .i64],iD,.mp (.int .u8) false [.int .i64]]⟩
def arW:Pc:=pL 3 506 5 11150372599265311570767859136253812008813456 aG1 [xR aG0,xE 0 aGZ]
def aGY:ax:=⟨[(5,.one (.mpr 3)),eI 10],[ew,.row 166,.mp (.int .i64) false [.int .i64],.mp (.int .u8) false [.int .i64]]⟩
def aGX:ax:=⟨[eI 10],[ew,.row 166,.mp (.int .i64) false [.int .i64],.mp (.int .u8) false [.int .i64]]⟩
def ar2:Pc:=pJ 3 510 4 1382646202308898634775214532904198413370786816 aGY [xN aGX]
def H7:FD:=bW 104 Tryz.f104 2 1 3 DS sW [.fn 72,.fn 128,.fn 109,.fn 110,.fn 121,.fn 115] (.pc ar2<| .pc arW<| .pc aru<| .pc ark<| .pc asZ<| .nil)
def aon:ax:=⟨[eS 0 3],[]⟩
def avu:FD:=bW 169 Tryz.f169 1 1 0 aon JZ [] .nil
def atO:FD:=uY [.mk 0 3] 169 Tryz.f169 1 1 0 s93 JZ [] .nil
def atN:FD:=bW 169 Tryz.f169 1 1 0 s94 JZ [] .nil
def azs:FD:=bW 107 Tryz.f107 2 1 0 acJ JZ [.Uo 3 130 131 132] .nil
def aK6:List eD:=[.ptr 0 0 0,cI,cS 3,cS 3,.au 3,cS 3,cS 3,cB,cB,cB,cI,cI]
def aGW:ax:=⟨[eA 0 aK6],[ew,.row 166,.mp (.int .i64) false [.int .i64],.row 3]⟩
def ati:FD:=bW 105 Tryz.f105 2 1 3 Ua aGW [.fn 129,.fn 126] .nil
def aK5:List eD:=[.ptr 0 0 0,cI,cS 3,cS 3,cS 3,.au 3,cS 3,cB,cB,cB,cI,cI]
def aGV:ax:=⟨[eA 0 aK5],[ew,.row 166,.mp (.int .i64) false [.int .i64],.row 3]⟩
def auV:FD:=bW 106 Tryz.f106 2 1 3 Ua aGV [.fn 129,.fn 126] .nil
def aGU:ax:=⟨[eA 0 h6,eP 1 0],[sV,sU,.row 166,.mp (.int .i64) false [.int .i64]]⟩
def auS:FD:=bW 109 Tryz.f109 2 1 4 aGU DR [.fn 72] .nil
def aGT:ax:=⟨[eS 0 41,(1,.one (.cl 109 [(0,0,0)])),eI 7,eI 8],[sV,sU,.row 166,.mp (.int .i64) false [.int .i64]]⟩
def aqn:Pc:=pL 4 26 4 524080 aGT [xR acH,xE 0 T9]
def aom:ax:=⟨[eS 0 41,(1,.one (.cl 109 [(0,0,0)]))],[sV,sU,.row 166,.mp (.int .i64) false [.int .i64]]⟩
def adG:FD:=bW 170 Tryz.f170 2 1 4 aom acG [.fn 136] (.pc aqn<| .nil)
def aqt:FD:=bW 108 Tryz.f108 2 1 4 aom DR [.fn 135] .nil
def atm:Pc:=pJ 3 14 5 8796092989456 BH [xN BG,xR DT]
def atl:Pc:=pJ 3 62 5 44601490397061246283071436545155985523605616 BH [(.normal,[.GQ (λenv M=>3) 2 3,.GQ (λenv M=>3) 3 3,.GQ (λenv M=>3) 6 3],BG),xR DT]
def Xn:FD:=bW 44 Tryz.f44 2 1 3 DS sW [.fn 72,.fc 72 [.nZ 0 [.raw,.raw,.raw,.raw,.slice 3,.raw,.raw,.raw,.raw,.raw,.raw,.raw]],.fc 72 [.nZ 0 [.raw,.raw,.raw,.raw,.raw,.slice 3,.raw,.raw,.raw,.raw,.raw,.raw]],.fn 73,.fn 87,.fn 89,.fn 125,.fn 127,.fn 128,.fn 133,.fn 129,.fn 134] (.pc atl<| .pc atm<| .nil)
def aya:Pc:=pJ 0 6 1 288230376151580676 UT [xN ⟨[],[v12]⟩,xR Kq]
def aGS:ax:=⟨[eS 59 57,eI 60,eI 61],[]⟩
def aGR:ax:=⟨[eB 2],[]⟩
def axu:Pc:=pL 0 58 0 1237940036979537265685430292 aGS [xR aGR,xE 0 ⟨[],[]⟩]
def axy:Pc:=pJ 0 14 1 1237940038997149898747412500 UT [xN ⟨[],[v12]⟩,xR Kq]
def JP:gp:=bV [cI,cS 3,cS 54]
def aGQ:ax:=⟨[eP 9 0],[JP]⟩
def aGP:ax:=⟨[],[JP]⟩
def aGO:ax:=⟨[eB 2],[JP]⟩
def au9:Pc:=pJ 0 130354 1 85065399433376081038215121361612832772 aGQ [xN aGP,xR aGO]
def aGN:ax:=⟨[eP 1 0,eP 9 1,eS 127 54,eI 128,eI 129],[v12,JP]⟩
def aGM:ax:=⟨[eB 2],[v12,JP]⟩
def aGL:ax:=⟨[],[v12,JP]⟩
def au0:Pc:=pL 0 521422 2 2923003273981241102565492738505816824448328677380 aGN [xR aGM,xE 4 aGL]
def aGK:ax:=⟨[eP 1 0,eS 106 67,eI 107,eI 108],[v12]⟩
def aws:Pc:=pL 0 1018 1 5846006549323611348296185672438405295467709610500 aGK [xR Kq,xE 2 ⟨[],[v12]⟩]
def aw5:Pc:=pJ 0 254 1 5846006549323611632249920123561791230729227614724 UT [xN ⟨[],[v12]⟩,xR Kq]
def T2:gp:=bV [cS 120,cI,cS 120,cI,cS 57,cS 67,.au 2,cI,.mpr 1]
def aGJ:ax:=⟨[eP 7 0,eS 163 57,eI 164,eI 165],[T2,.mp (.int .i64) false [.int .i64],.row 166]⟩
def aol:ax:=⟨[eB 2],[T2,.mp (.int .i64) false [.int .i64],.row 166]⟩
def aok:ax:=⟨[],[T2,.mp (.int .i64) false [.int .i64],.row 166]⟩
def awr:Pc:=pL 0 2042 2 383077117164077625696204238872930374848055790704574468 aGJ [xR aol,xE 6 aok]
def aGI:ax:=⟨[eP 7 0,eI 180,eI 181],[T2,.mp (.int .i64) false [.int .i64],.row 166]⟩
def awq:Pc:=pL 0 4090 2 100430562775105160443655914077268362039270449633180185067524 aGI [xR aol,xE 8 aok]
def zC:FD:=bW 13 Tryz.f13 1 1 0 OD iL [.fn 10,.fn 15,.fn 20,.fn 36,.fn 66,.fc 72 [.nZ 0 [.raw,.raw,.slice 3,.slice 3,.slice 3,.slice 3,.slice 3,.raw,.raw,.raw,.raw,.raw]]] (.pc awq<| .pc awr<| .pc aw5<| .pc aws<| .pc au0<| .pc au9<| .pc axy<| .pc axu<| .pc aya<| .nil)
def BF:ax:=⟨[(0,.one (.cell .str))],[]⟩
def af8:FD:=bW 113 Tryz.f113 1 1 0 B0 BF [.ext acY] .nil
def azX:FD:=bW 51 Tryz.f51 1 1 0 B0 BF [.fn 138] .nil
def aGH:ax:=⟨[(3,.one (.cell .str)),eS 6 3,eI 7,eI 8],[]⟩
def aGG:ax:=⟨[(3,.one (.cell .str))],[]⟩
def aw2:Pc:=pL 0 58 0 261928 aGH [xE 0 aGG]
def ahd:FD:=bW 52 Tryz.f52 1 1 0 aon BF [.fn 137] (.pc aw2<| .nil)
def aoj:ax:=⟨[(0,.one (.cell .str)),eI 1],[]⟩
def afG:FD:=bW 111 Tryz.f111 2 1 0 aoj BF [.ext acP] .nil
def acu:gp:=bV [.jh,.au 1,cS 120]
def aGF:ax:=⟨[eP 0 0],[acu,.row 5]⟩
def ni:gp:=bV [.ptr 0 0 0,.au 1,cS 120]
def Gz:ax:=⟨[],[ni,.row 5]⟩
def arB:FD:=bW 171 Tryz.f171 1 0 2 aGF Gz [] .nil
def aGE:ax:=⟨[eP 0 0,(1,.one (.cell .str))],[acu,.row 5]⟩
def Gq:gp:=bV [.ptr 0 0 0,.au 2,cS 120]
def aoi:ax:=⟨[eI 0],[Gq,.gone,.row 5]⟩
def arn:FD:=bW 110 Tryz.f110 2 2 2 aGE aoi [.fn 143] .nil
def aoh:ax:=⟨[eP 0 0],[ni,.row 5]⟩
def ari:FD:=bW 171 Tryz.f171 1 0 2 aoh Gz [] .nil
def aGD:ax:=⟨[eP 0 0,(1,.one (.cell .str))],[ni,.row 5]⟩
def are:FD:=bW 110 Tryz.f110 2 2 2 aGD aoi [.fn 145] .nil
def aGC:ax:=⟨[eP 0 0,(1,.one (cU))],[ni,.row 5]⟩
def Ah:ax:=⟨[],[Gq,.gone,.row 5]⟩
def arD:FD:=bW 112 Tryz.f112 2 1 2 aGC Ah [.fn 145] .nil
def aog:ax:=⟨[eP 0 0,eS 14 9,eI 15,eI 16],[Gq,.gone,.row 5]⟩
def asK:Pc:=pL 2 26 2 67043456 aog [xE 0 Ah]
def aGB:ax:=⟨[eP 0 0,eI 1,eS 2 9],[acu,.row 5]⟩
def afi:FD:=bW 50 Tryz.f50 3 0 2 aGB Ah [.fn 142,.fn 144,.fn 141,.fn 146] (.pc asK<| .nil)
def arR:Pc:=pL 2 26 2 67043456 aog [xE 0 Ah]
def aGA:ax:=⟨[eP 0 0,eI 1,eS 2 9],[ni,.row 5]⟩
def aeN:FD:=bW 50 Tryz.f50 3 0 2 aGA Ah [.fn 144,.fn 141,.fn 146] (.pc arR<| .nil)
def aGz:ax:=⟨[eI 0,eI 1],[]⟩
def ae7:FD:=bW 114 Tryz.f114 2 1 0 aGz BF [.ext fmtG] .nil
def azZ:FD:=bW 53 Tryz.f53 1 1 0 B0 BF [.fn 149] .nil
def aGy:ax:=⟨[eP 0 0,eI 1,eI 2],[ni,.row 5]⟩
def JY:ax:=⟨[(0,.one (.cell .str))],[ni,.row 5]⟩
def auW:FD:=bW 115 Tryz.f115 3 1 2 aGy JY [.fn 137] .nil
def Ya:FD:=bW 116 Tryz.f116 1 1 0 acL BF [.ext opG] .nil
def aGx:ax:=⟨[eS 0 9,(1,.one (.cell .str))],[]⟩
def af7:FD:=bW 117 Tryz.f117 2 1 0 aGx BF [.ext (acW RT)] .nil
def aGw:ax:=⟨[eP 0 0,eO 5 2,eS 13 54,eI 14,eI 15],[ni,.row 5,.row 9]⟩
def aGv:ax:=⟨[],[ni,.row 5,.row 9]⟩
def asi:Pc:=pL 2 58 3 134185152 aGw [xE 0 aGv]
def aGu:ax:=⟨[eP 0 0,eP 3 2,eO 5 3],[ni,.row 5,qh,.row 9]⟩
def aGt:ax:=⟨[],[ni,.row 5,qh,.row 9]⟩
def ast:Pc:=pJ 2 14 4 134213824 aGu [xN aGt]
def aGs:ax:=⟨[eP 0 0,eA 1 kp],[ni,.row 5]⟩
def W8:FD:=bW 54 Tryz.f54 2 1 2 aGs JY [.fn 137,.fn 148,.fn 150,.fn 151,.fn 152,.fc 153 [.kZ 0 (.slice 9)]] (.pc ast<| .pc asi<| .nil)
def aGr:ax:=⟨[eP 0 0,eA 1 Uz],[ni,.row 5]⟩
def aus:FD:=bW 177 Tryz.f177 2 1 2 aGr JY [.fn 137,.fn 150,.fn 151] .nil
def aGp:ax:=⟨[eB 0,(1,.one (.cell .str))],[]⟩
def azt:FD:=bW 119 Tryz.f119 2 1 0 aGp BF [] .nil
def aof:ax:=⟨[eP 0 0,eA 1 h6],[ni,.row 5]⟩
def auX:FD:=bW 178 Tryz.f178 2 1 2 aof JY [.fn 150] .nil
def aGo:ax:=⟨[eP 0 0,eO 5 2,eS 177 54,eI 178,eI 179],[ni,.row 5,.row 9]⟩
def aGn:ax:=⟨[eO 5 2],[ni,.row 5,.row 9]⟩
def ara:Pc:=pL 2 1855425871850 2 1568509186076237246529768182288341449433779491554916827424 aGo [xE 1 aGn]
def aGm:ax:=⟨[eP 0 0,eP 3 2,eO 5 3],[ni,.row 5,v0,.row 9]⟩
def aGl:ax:=⟨[eO 5 3],[ni,.row 5,v0,.row 9]⟩
def arb:Pc:=jO [.mk 5 9] (pJ 2 463856467962 3 1569179652875366072905299959112719709701612689920872153376 aGm [xN aGl])
def aGk:ax:=⟨[eP 0 0,eO 6 2,eS 191 118,eI 192,eI 193],[ni,.row 5,.row 9]⟩
def aGj:ax:=⟨[eO 6 2],[ni,.row 5,.row 9]⟩
def aq9:Pc:=jO [.mk 6 9] (pL 2 3710851743706 2 25698454504673071047143721898612186307523043189635757295797312 aGk [xE 3 aGj])
def P5:FD:=bW 118 Tryz.f118 2 1 2 aof JY [.fn 137,.fn 139,.fn 150,.fc 153 [.kZ 0 (.slice 9)],.fn 157,.fn 156,.fn 158] (.pc aq9<| .pc arb<| .pc ara<| .nil)
def aGi:ax:=⟨[eP 0 0,eA 1 adi],[ni,.row 5]⟩
def avz:FD:=bW 120 Tryz.f120 2 1 2 aGi JY [.fn 137,.fn 150] .nil
def aGh:ax:=⟨[eP 0 0,eI 1,eS 27 110,eI 28,eI 29],[Gq,.gone,.row 5]⟩
def arQ:Pc:=pL 2 1874 2 1152921504069976192 aGh [xE 1 Ah]
def T0:gp:=bV [.ptr 0 0 0,.au 3,cS 120]
def aoe:ax:=⟨[eP 0 0,eI 1,eP 5 2],[T0,.gone,v0,.row 5]⟩
def acD:ax:=⟨[],[T0,.gone,v0,.row 5]⟩
def ar6:Pc:=pJ 2 468 3 1152921504539738240 aoe [xN acD]
def aGg:ax:=⟨[eP 0 0,eI 1,eS 103 115,eI 104,eI 105],[Gq,.gone,.row 5]⟩
def arP:Pc:=pL 2 7538 2 1393796574867599127138679051192628091553792 aGg [xE 5 Ah]
def aGf:ax:=⟨[eP 0 0,eI 1,eS 74 112,eI 75,eI 76],[Gq,.gone,.row 5]⟩
def arE:Pc:=pL 2 15034 2 1267650524670365675582379786752 aGf [xE 3 Ah]
def ass:Pc:=pJ 2 14 3 11150372599265311570767859136324180748798592 aoe [xN acD,xR acD]
def aGe:ax:=⟨[eP 5 2,eS 12 41],[T0,.gone,v0,.row 5]⟩
def aGd:ax:=⟨[eS 12 41],[T0,.gone,v0,.row 5]⟩
def asr:Pc:=pJ 2 62 3 91299250842784371141447230608222392005483827200 aGe [(.normal,[.kZ 12 (.slice 41)],aGd)]
def aGc:ax:=⟨[eP 0 0,eI 1,eS 156 41,eI 157,eI 158],[Gq,.gone,.row 5]⟩
def arY:Pc:=pL 2 254 2 373779043747378421330592395967189382277004747882496 aGc [xE 8 Ah]
def aGb:ax:=⟨[eP 0 0,eI 1,eA 2 h6],[ni,.row 5]⟩
def CI:FD:=bW 55 Tryz.f55 3 0 2 aGb Ah [.fn 147,.fc 147 [.kZ 2 (.slice 9)],.fn 139,.fn 150,.fn 154,.fn 155,.fn 157,.fn 159] (.pc arY<| .pc asr<| .pc ass<| .pc arE<| .pc arP<| .pc ar6<| .pc arQ<| .nil)
def aGa:ax:=⟨[(0,.one (.cell .str))],[ni,.gone]⟩
def asg:FD:=bW 56 Tryz.f56 1 1 2 aoh aGa [] .nil
def aF9:ax:=⟨[eP 4 0,eS 23 120,eI 24,eI 25],[ni,.row 5]⟩
def awp:Pc:=pL 0 122 1 288230376147517536 aF9 [xE 0 Gz]
def aE2:gp:=bV [.jh,.au 2,cS 120]
def aF8:ax:=⟨[eP 1 0,eP 4 1],[v12,aE2,.row 5]⟩
def anS:gp:=bV [.ptr 1 0 0,.au 2,cS 120]
def aod:ax:=⟨[],[v12,anS,.row 5]⟩
def aw4:Pc:=jO [cK 4 1 5] (pJ 0 30 2 288230376147517536 aF8 [xN aod])
def aF7:ax:=⟨[eP 4 0,eS 84 54,eI 85,eI 86],[ni,.row 5]⟩
def auC:Pc:=pL 0 259278 1 158378953776073338919906706432 aF7 [xE 4 Gz]
def aF6:ax:=⟨[eP 4 0,eS 65 67,eI 66,eI 67],[ni,.row 5]⟩
def awo:Pc:=pL 0 506 1 316912649909483397784499389824 aF6 [xE 2 Gz]
def aF5:ax:=⟨[eP 1 0,eP 4 1],[v12,anS,.row 5]⟩
def awB:Pc:=pJ 0 126 2 316912650038610606300466251136 aF5 [xN aod]
def aF4:ax:=⟨[eP 4 0,eS 118 134,eI 119,eI 120],[ni,.row 5]⟩
def atT:Pc:=pL 0 1042842 1 21776742254944276745783071068572885204992 aF4 [xE 8 Gz]
def aF3:ax:=⟨[eP 4 0,eS 99 57,eI 100,eI 101],[ni,.row 5]⟩
def avJ:Pc:=pL 0 1018 1 696898287451546671972534737217267890673664 aF3 [xE 6 Gz]
def CW:FD:=bW 17 Tryz.f17 1 2 0 OD aoj [.fn 9,.fn 140,.fn 147,.fc 147 [.kZ 2 (.slice 9)],.fn 137,.fn 139,.fn 148,.fn 150,.fn 154,.fn 160] (.pc avJ<| .pc atT<| .pc awB<| .pc awo<| .pc auC<| .pc aw4<| .pl awp<| .nil)
def aF2:ax:=⟨[eA 0 lv,eA 1 kp],[]⟩
def aF1:ax:=⟨[eI 0,eI 1,eB 2],[]⟩
def ayY:FD:=bW 18 Tryz.f18 2 3 0 aF2 aF1 [.fn 10,.fn 20] .nil
def aF0:ax:=⟨[(0,.one (.cl 89 [(0,0,0)]))],[v0]⟩
def ays:FD:=bW 36 Tryz.f36 1 1 0 s7 aF0 [] .nil
noncomputable def ay4:List Cl:=[.fn 163,.fn 164]
def BD:gp:=bV [.cl 35 [(0,0,0),(1,0,0)]]
def aFZ:ax:=⟨[(0,.one (.jz 3)),eS 12 110,eI 13,eI 14],[bV [.au 4],BD,.gone,.loop 0 [eP 2 1] none,.row 41]⟩
def T7:ax:=⟨[],[bV [.au 4],BD,.gone,.loop 0 [eP 2 1] none,.row 41]⟩
def asS:Pc:=pL 3 10 4 2147467280 aFZ [xE 0 T7]
noncomputable def auc:lT:= .pc asS lT.nil
def aoc:ax:=⟨[(0,.one (.jz 3)),eP 1 4],[bV [.au 5],BD,.gone,.loop 0 [eP 2 1] none,v0,.row 41]⟩
def aob:ax:=⟨[],[bV [.au 5],BD,.gone,.loop 0 [eP 2 1] none,v0,.row 41]⟩
def aty:Pc:=pJ 3 2 5 2147481616 aoc [xN aob]
noncomputable def aub:lT:= .pc aty auc
def aFY:ax:=⟨[(0,.one (.jz 3)),eS 32 41,eI 33,eI 34],[bV [.au 4],BD,.gone,.loop 0 [eP 2 1] none,.row 41]⟩
def asR:Pc:=pL 3 26 4 8778913153088 aFY [xE 2 T7]
noncomputable def aua:lT:= .pc asR aub
def atx:Pc:=pJ 3 6 5 8793945538624 aoc [xN aob]
noncomputable def at7:lT:= .pc atx aua
def aFX:ax:=⟨[(0,.one (.jz 3)),eS 44 112,eI 45,eI 46],[bV [.au 4],BD,.gone,.loop 0 [eP 2 1] none,.row 41]⟩
def asQ:Pc:=pL 3 58 4 71987225293750528 aFX [xE 4 T7]
noncomputable def at6:lT:= .pc asQ at7
def aFW:ax:=⟨[(0,.one (.jz 3)),eS 57 115,eI 58,eI 59],[bV [.au 4],BD,.gone,.loop 0 [eP 2 1] none,.row 41]⟩
def asP:Pc:=pL 3 62 4 75557287265162019996672 aFW [xE 6 T7]
noncomputable def at5:lT:= .pc asP at6
def aFV:ax:=⟨[eA 0 h6,eP 1 0,eP 2 1],[bV [.au 2],BD,.row 41]⟩
def aFU:ax:=⟨[],[bV [.au 3],BD,.gone,.row 41]⟩
def ay0:FD:=bW 35 Tryz.f35 3 0 3 aFV aFU ay4 (.rg 30 0 [2] 89 Tryz.f89 at5<| .nil)
def anR:gp:=bV [.cl 35 [(1,0,0),(0,0,0)]]
def aFT:ax:=⟨[eP 4 0,eS 12 57,eI 13,eI 14],[anR,bV [.au 2],.row 41]⟩
def aFS:ax:=⟨[],[anR,bV [.au 2],.row 41]⟩
def aw3:Pc:=jO [.AF (λenv M=>(((M.getD ((aj.look env 4).id) .dead).cells.getD 0 .top).gV.getD 0 .top).id) 0 41] (pL 0 506 2 8372288 aFT [xE 0 aFS])
def az0:FD:=uY [.mk 0 41] 10 Tryz.f10 1 1 0 OD s8 [.fn 9,.fn 163] (.pc aw3<| .nil)
noncomputable def ay3:List Cl:=[.fn 165,.fn 164]
def aFR:ax:=⟨[(0,.one (.jz 0)),eS 12 110,eI 13,eI 14],[.loop 1 [eP 3 1] none,bV [cI]]⟩
def T6:ax:=⟨[],[.loop 1 [eP 3 1] none,bV [cI]]⟩
def asO:Pc:=pL 0 10 2 2147467280 aFR [xE 0 T6]
noncomputable def at4:lT:= .pc asO lT.nil
def aoa:ax:=⟨[(0,.one (.jz 0)),eP 1 1],[.loop 1 [eP 3 2] none,v0,bV [cI]]⟩
def an9:ax:=⟨[],[.loop 1 [eP 3 2] none,v0,bV [cI]]⟩
def atw:Pc:=pJ 0 2 3 2147481616 aoa [xN an9]
noncomputable def at3:lT:= .pc atw at4
def aFQ:ax:=⟨[(0,.one (.jz 0)),eS 32 41,eI 33,eI 34],[.loop 1 [eP 3 1] none,bV [cI]]⟩
def asN:Pc:=pL 0 26 2 8778913153088 aFQ [xE 2 T6]
noncomputable def at2:lT:= .pc asN at3
def atv:Pc:=pJ 0 6 3 8793945538624 aoa [xN an9]
noncomputable def at1:lT:= .pc atv at2
def aFP:ax:=⟨[(0,.one (.jz 0)),eS 44 112,eI 45,eI 46],[.loop 1 [eP 3 1] none,bV [cI]]⟩
def asM:Pc:=pL 0 58 2 71987225293750528 aFP [xE 4 T6]
noncomputable def at0:lT:= .pc asM at1
def aFO:ax:=⟨[(0,.one (.jz 0)),eS 57 115,eI 58,eI 59],[.loop 1 [eP 3 1] none,bV [cI]]⟩
def asL:Pc:=pL 0 62 2 75557287265162019996672 aFO [xE 6 T6]
noncomputable def atZ:lT:= .pc asL at0
def ayZ:FD:=bW 34 Tryz.f34 1 1 0 s7 B0 ay3 (.rg 58 1 [3] 89 Tryz.f89 atZ<| .nil)
def azT:FD:=bW 9 Tryz.f9 0 1 0 ⟨[],[]⟩ iL [.fc 162 [.nZ 0 [.slice 120,.raw,.slice 57,.raw]],.fc 9 [.nZ 0 [.slice 120,.raw,.slice 57,.raw]],.fn 5,.fc 8 [.nZ 0 [.slice 120,.raw,.slice 57,.raw]],.fc 161 [.nZ 0 [.slice 120,.raw,.slice 57,.raw],.nZ 1 [.raw,.raw,.raw,.raw,.raw,.raw,.raw,.raw,.slice 54]],.fn 6,.fc 7 [.nZ 0 [.raw,.raw,.raw,.raw,.raw,.raw,.raw,.raw,.slice 54]],.fn 165] .nil
def aFN:ax:=⟨[eS 0 3,eS 1 3,eI 5],[]⟩
def axs:Pc:=pL 0 58 0 67106864 aFN [xR NT,xE 0 ⟨[],[]⟩]
def ahu:FD:=bW 48 Tryz.f48 2 1 0 acI iL [] (.pc axs<| .nil)
def axY:FD:=bW 24 Tryz.f24 2 1 0 s21 iL [.fn 169] .nil
def aFM:ax:=⟨[eS 0 54,eS 1 54,eI 5],[]⟩
def awZ:Pc:=pL 0 58 0 134215728 aFM [xR NT,xE 0 ⟨[],[]⟩]
def aFL:ax:=⟨[eS 0 54,eS 1 54],[]⟩
def ahb:FD:=bW 46 Tryz.f46 2 1 0 aFL iL [.fn 170] (.pc awZ<| .nil)
def aFK:ax:=⟨[eS 0 118,eS 1 118,eI 5],[]⟩
def awj:Pc:=pL 0 58 0 2417851639229258349410352 aFK [xR NT,xE 0 ⟨[],[]⟩]
def aFJ:ax:=⟨[eS 0 118,eS 1 118],[]⟩
def agN:FD:=bW 47 Tryz.f47 2 1 0 aFJ iL [.fn 169] (.pc awj<| .nil)
def aFI:ax:=⟨[eS 0 41,eS 1 41,eI 5],[]⟩
def awY:Pc:=pL 0 58 0 134215728 aFI [xR NT,xE 0 ⟨[],[]⟩]
def aFH:ax:=⟨[eS 0 41,eS 1 41],[]⟩
def aha:FD:=bW 49 Tryz.f49 2 1 0 aFH iL [.fn 168] (.pc awY<| .nil)
def avK:Pc:=pJ 0 6 2 4951760157141521099596495888 BI [xN xU,xR Ai]
def au3:Pc:=pJ 0 14 2 348449143727036034826338456489031052034064 BI [xN xU,xR Ai]
def au2:Pc:=pJ 0 30 2 11692012750198079618588492075234666147116811812880 BI [xN xU,xR Ai]
def aFG:ax:=⟨[eP 2 0,eP 3 1,eI 5],[v0,v0]⟩
def auv:Pc:=pL 0 250 2 1606938044247298262443314868995533123860472729625545374957616 aFG [xR Ai,xE 0 xU]
def au1:Pc:=pJ 0 62 2 1606938044247298262443314868995533123860472729625545374957616 BI [xN xU,xR Ai]
def aFF:ax:=⟨[eP 2 0,eP 3 1,eI 6],[v0,v0]⟩
def auu:Pc:=pL 0 506 2 220855883095691103153653197317322852386094324506930166771417982326276176 aFF [xR Ai,xE 2 xU]
def auD:Pc:=pJ 0 126 2 220855883095691103153653197317322852386094324506930166771417982326276176 BI [xN xU,xR Ai]
def aFE:ax:=⟨[eP 2 0,eP 3 1,eI 7],[v0,v0]⟩
def atS:Pc:=pL 0 1018 2 509258994083621521346255539005046499064954910823619248180599625229142955175633401384272784 aFE [xR Ai,xE 4 xU]
def AZ:FD:=bW 15 Tryz.f15 2 1 0 aoI iL [.fn 168,.fn 170,.fn 169,.fn 171,.fn 167,.fn 172] (.pc atS<| .pc auD<| .pc auu<| .pc au1<| .pc auv<| .pc au2<| .pc au3<| .pc avK<| .nil)
def NS:ax:=⟨[eP 2 0,eP 3 1],[v12,v12]⟩
def xT:ax:=⟨[],[v12,v12]⟩
def Ag:ax:=⟨[eB 4],[v12,v12]⟩
def ax9:Pc:=pJ 0 6 2 140737488322576 NS [xN xT,xR Ag]
def aFD:ax:=⟨[eP 2 0,eP 3 1,eI 5],[v12,v12]⟩
def axt:Pc:=pL 0 58 2 316912650057057209636687446256 aFD [xR Ag,xE 0 xT]
def axw:Pc:=pJ 0 14 2 316912650057057209636687446256 NS [xN xT,xR Ag]
def DM:gp:=bV [cI,cS 134,cU,cI,cI,cI,cI,cI,cB,cB,cB,cB,cB,cU,cS 54,cS 54,cS 118,cS 118,cS 3,cS 41,cS 110,cS 112,cS 115,cI]
def aFC:ax:=⟨[eP 9 0,eP 10 1],[DM,DM]⟩
def an8:ax:=⟨[],[DM,DM]⟩
def an7:ax:=⟨[eB 4],[DM,DM]⟩
def awt:Pc:=pJ 0 7826 2 22300745156992248273257097244404390872219664 aFC [xN an8,xR an7]
def aFB:ax:=⟨[eP 9 0,eP 10 1,eI 11],[DM,DM]⟩
def avB:Pc:=pL 0 31310 2 3064991081709476971518163431159082648964829882861226000 aFB [xR an7,xE 4 an8]
def aFA:ax:=⟨[eP 2 0,eP 3 1,eI 8],[v12,v12]⟩
def aw1:Pc:=pL 0 122 2 3064991081731777716716693737387968310180127870191406864 aFA [xR Ag,xE 2 xT]
def axv:Pc:=pJ 0 30 2 3064991081731777716716693737387968310180127870191406864 NS [xN xT,xR Ag]
def aFz:ax:=⟨[eP 2 0,eP 3 1,eI 12],[v12,v12]⟩
def aw0:Pc:=pL 0 250 2 842498333345392502501612443752646764496860144837155411790120644624 aFz [xR Ag,xE 6 xT]
def acC:ax:=⟨[eA 0 lv,eA 1 lv],[]⟩
def A5:FD:=bW 23 Tryz.f23 2 1 0 acC iL [.fn 168,.fn 169,.fn 167] (.pc aw0<| .pc axv<| .pc aw1<| .pc avB<| .pc awt<| .pc axw<| .pc axt<| .pc ax9<| .nil)
def ayw:FD:=bW 57 Tryz.f57 2 1 0 aot iL [.fn 77] .nil
def aFy:ax:=⟨[eS 1 120,(2,.one (.fn 57)),eS 15 120,eI 16,eI 17],[]⟩
def aqX:Pc:=pL 0 58 0 4294837184 aFy [xR Av,xE 0 ⟨[],[]⟩]
def aFx:ax:=⟨[eS 0 120,eS 1 120,(2,.one (.fn 57))],[]⟩
def aeh:FD:=bW 64 Tryz.f64 3 1 0 aFx iL [.fn 175] (.pc aqX<| .nil)
def apI:List eD:=[cS 3,cS 3]
def aFw:ax:=⟨[eA 0 apI,eA 1 apI],[]⟩
def ayv:FD:=bW 59 Tryz.f59 2 1 0 aFw iL [.fn 77] .nil
def aFv:ax:=⟨[eS 1 134,(2,.one (.fn 59)),eS 15 134,eI 16,eI 17],[]⟩
def aqQ:Pc:=pL 0 58 0 4294837184 aFv [xR Av,xE 0 ⟨[],[]⟩]
def aFu:ax:=⟨[eS 0 134,eS 1 134,(2,.one (.fn 59))],[]⟩
def aee:FD:=bW 61 Tryz.f61 3 1 0 aFu iL [.fn 179] (.pc aqQ<| .nil)
def apH:List eD:=[cI,cS 134,cU,cI,cI,cI,cI,cI,cB,cB,cB,cB,cB,cU,cS 54,cS 54,cS 118,cS 118,cS 3,cS 41,cS 110,cS 112,cS 115,cI]
def aFt:ax:=⟨[eA 0 apH,eA 1 apH,eP 2 0],[bV [.fn 59]]⟩
def an6:ax:=⟨[eB 0],[bV [.fn 59]]⟩
def ayu:FD:=bW 60 Tryz.f60 3 1 1 aFt an6 [.fn 74,.fn 178] .nil
def aFs:ax:=⟨[eS 1 57,(2,.one (.cl 60 [(0,0,0)])),eS 15 57,eI 16,eI 17],[bV [.fn 59]]⟩
def aFr:ax:=⟨[eB 6],[bV [.fn 59]]⟩
def aFq:ax:=⟨[],[bV [.fn 59]]⟩
def aqT:Pc:=pL 0 58 1 4294837184 aFs [xR aFr,xE 0 aFq]
def aFp:ax:=⟨[eS 0 57,eS 1 57,(2,.one (.cl 60 [(0,0,0)]))],[bV [.fn 59]]⟩
def aef:FD:=bW 65 Tryz.f65 3 1 1 aFp an6 [.fn 177] (.pc aqT<| .nil)
def apG:List eD:=[cI,cS 3,cS 54]
def aFo:ax:=⟨[eA 0 apG,eA 1 apG],[]⟩
def ayt:FD:=bW 62 Tryz.f62 2 1 0 aFo iL [.fn 77,.fn 75] .nil
def aFn:ax:=⟨[eS 1 67,(2,.one (.fn 62)),eS 15 67,eI 16,eI 17],[]⟩
def aqU:Pc:=pL 0 58 0 4294837184 aFn [xR Av,xE 0 ⟨[],[]⟩]
def aFm:ax:=⟨[eS 0 67,eS 1 67,(2,.one (.fn 62))],[]⟩
def aeg:FD:=bW 66 Tryz.f66 3 1 0 aFm iL [.fn 181] (.pc aqU<| .nil)
def azx:FD:=bW 19 Tryz.f19 2 1 0 acC iL [.fn 174,.fn 176,.fn 180] .nil
def avL:Pc:=pJ 0 6 2 2080784 NS [xN xT,xR Ag]
def aFl:ax:=⟨[eP 2 0,eP 3 1,eB 5],[v12,v12]⟩
def au5:Pc:=pJ 0 30 2 4398029733904 aFl [xN xT,xR Ag]
def an5:ax:=⟨[eP 2 0,eP 3 1,eI 6],[v12,v12]⟩
def atU:Pc:=pJ 0 1000 2 18010000462970880 an5 [xN xT,xE 0 xT]
def an4:ax:=⟨[eP 7 0,eP 8 1,eI 9],[v0,v0]⟩
def asU:Pc:=pJ 0 256312 2 154704725978809577200680960 an4 [xN xU,xE 2 xU]
def atj:Pc:=pL 0 64078 2 5192296858497048696667539167511056 an4 [xR Ai,xE 2 xU]
def auw:Pc:=pL 0 250 2 5192296858534827628526098282709968 an5 [xR Ag,xE 0 xT]
def au4:Pc:=pJ 0 62 2 5192296858534827628526098282709968 NS [xN xT,xR Ag]
def mV:FD:=bW 6 Tryz.f6 2 1 0 acC iL [.fn 1,.fn 4,.fn 168,.fn 8,.fn 173,.fn 76,.fn 74,.fn 166,.fn 170] (.pc au4<| .pc auw<| .pc atj<| .pc asU<| .pc atU<| .pc au5<| .pc avL<| .nil)
end
noncomputable section
def EE:List FD:=[mV,YJ,ahc,Iw,azT,ayq,ayX,aAX,CW,zC,LW,agp,aqR,aea,awU,wg,PY,axj,av8,ago,axm,agO,Ih,Ys,ax6,ax5,ax4,ax2,ax3,ax1,auQ,atg,atf,avy,awR,azY,awc,azw,QT,Yb,mV,axk,av9,mV,mV,mV,mV,PX,arj,aq6,mV,mV,mV,mV,mV,mV,mV,mV,mV,mV,mV,mV,mV,mV,Wh,WW,Yr,atM,aff,aqS,aeb,ax0,Xn,Md,LS,ad8,axn,afg,ad2,awS,ad7,adV,awf,adE,awe,ad3,awd,P4,agq,Qb,Ia,awa,afs,awO,aqu,adH,auR,aqy,adM,aup,awP,aqI,ad1,avw,awQ,ayr,aqV,aed,axl,ath,auT,auq,awb,avx,Xi,azu,Ig,aqE,adU,auU,azv,awN,afh,adN,aur,AX,avv,H7,ati,azs,avu,atO,atN,auV,aqt,adG,auS,azX,af8,ahd,afi,afG,arn,arB,are,ari,arD,aeN,azZ,ae7,W8,auW,Ya,af7,CI,P5,aus,azt,auX,avz,asg,ayY,az0,ay0,ays,ayZ,A5,ahu,AZ,ahb,axY,agN,aha,azx,aeh,ayw,aef,ayu,aee,ayv,aeg,ayt]
def Qy:=dB CX EE Iw 4
def XQ:=dw CX EE Iw 3
def Qs:=dB CX EE Iw 2
def QA:=dw CX EE Iw 1
def Fj:=dB CX EE Iw 0
def LU:=dB CX EE ahc 0
def QW:=dw CX EE YJ 1
def zy:=dB CX EE YJ 0
def LQ:=dB CX EE agp 0
def Li:=dB CX EE aea 0
def XE:=dw CX EE LW 3
def W1:=dw CX EE LW 2
def WO:=dw CX EE LW 1
def Fg:=dB CX EE LW 0
def Wp:=dw CX EE PY 2
def Wi:=dw CX EE PY 1
def Ln:=dB CX EE PY 0
def Fk:=dB CX EE ago 0
def Ic:=dB CX EE wg 11
def Ik:=dB CX EE wg 10
def QC:=dw CX EE wg 9
def Wm:=dw CX EE wg 8
def V9:=dw CX EE wg 7
def H0:=dB CX EE wg 6
def Fc:=dB CX EE wg 5
def Ib:=dB CX EE wg 4
def Ii:=dB CX EE wg 3
def QB:=dw CX EE wg 2
def LI:=dB CX EE wg 1
def LP:=dB CX EE wg 0
def LO:=dB CX EE agO 0
def Xt:=dw CX EE Ys 1
def W2:=dw CX EE Ys 0
def XT:=dw CX EE QT 2
def XH:=dw CX EE QT 1
def Xu:=dw CX EE QT 0
def HT:=dB CX EE Wh 1
def Lm:=dB CX EE Wh 0
def XS:=dw CX EE Yb 1
def yn:=dB CX EE Yb 0
def aeK:=dw CX EE WW 1
def HY:=dB CX EE WW 0
def W0:=dw CX EE Ih 4
def Wl:=dw CX EE Ih 3
def zv:=dB CX EE Ih 2
def P0:=dw CX EE Ih 1
def Wc:=dw CX EE Ih 0
def PT:=dB CX EE aff 0
def PA:=dB CX EE aeb 0
def XD:=dw CX EE Yr 1
def XR:=dw CX EE Yr 0
def Lh:=dB CX EE ad8 0
def Lu:=dB CX EE afg 0
def Le:=dB CX EE ad2 0
def Lg:=dB CX EE ad7 0
def Lc:=dB CX EE adV 0
def K9:=dB CX EE adE 0
def Lf:=dB CX EE ad3 0
def Qf:=dw CX EE LS 3
def P8:=dw CX EE LS 2
def P7:=dw CX EE LS 1
def Ql:=dw CX EE LS 0
def WN:=dw CX EE Md 3
def Wk:=dw CX EE Md 2
def XC:=dw CX EE Md 1
def XB:=dw CX EE Md 0
def XG:=dw CX EE agq 0
def WB:=dw CX EE P4 2
def Wj:=dw CX EE P4 1
def Ws:=dw CX EE P4 0
def HR:=dB CX EE adH 0
def Xa:=dw CX EE afs 0
def La:=dB CX EE adM 0
def WD:=dw CX EE Ia 4
def WC:=dw CX EE Ia 3
def CB:=dw CX EE Ia 2
def Wb:=dw CX EE Ia 1
def PN:=dw CX EE Ia 0
def PC:=dB CX EE aed 0
def Ld:=dB CX EE ad1 0
def Wr:=dw CX EE Xi 1
def WA:=dw CX EE Xi 0
def Lb:=dB CX EE adU 0
def Xb:=dw CX EE Ig 4
def PZ:=dw CX EE Ig 3
def PU:=dB CX EE Ig 2
def WY:=dw CX EE Ig 1
def H5:=dB CX EE Ig 0
def Pv:=dB CX EE adN 0
def WX:=dw CX EE afh 0
def Wd:=dw CX EE Qb 2
def Wa:=dw CX EE Qb 1
def V7:=dw CX EE Qb 0
def WZ:=dw CX EE AX 7
def H6:=dB CX EE AX 6
def WL:=dw CX EE AX 5
def Lt:=dB CX EE AX 4
def Wt:=dw CX EE AX 3
def V8:=dw CX EE AX 2
def HU:=dB CX EE AX 1
def HX:=dB CX EE AX 0
def WK:=dw CX EE H7 4
def V6:=dw CX EE H7 3
def HV:=dw CX EE H7 2
def AU:=dB CX EE H7 1
def PO:=dw CX EE H7 0
def Pt:=dB CX EE adG 0
def Ly:=dw CX EE Xn 1
def zw:=dw CX EE Xn 0
def Yu:=dw CX EE zC 8
def L4:=dB CX EE zC 7
def QX:=dw CX EE zC 6
def Xv:=dw CX EE zC 5
def Fh:=dB CX EE zC 4
def Ip:=dB CX EE zC 3
def QL:=dw CX EE zC 2
def Io:=dB CX EE zC 1
def Im:=dB CX EE zC 0
def QK:=dB CX EE ahd 0
def Lv:=dB CX EE afi 0
def Lp:=dB CX EE aeN 0
def H2:=dB CX EE W8 1
def Wu:=dw CX EE W8 0
def Lk:=dB CX EE P5 2
def aek:=dw CX EE P5 1
def Lj:=dB CX EE P5 0
def HZ:=dB CX EE CI 6
def aeD:=dw CX EE CI 5
def Cz:=dB CX EE CI 4
def HW:=dB CX EE CI 3
def aeL:=dw CX EE CI 2
def CF:=dw CX EE CI 1
def Lq:=dB CX EE CI 0
def Il:=dB CX EE CW 6
def X0:=dw CX EE CW 5
def Qe:=dB CX EE CW 4
def Qz:=dB CX EE CW 3
def afS:=dw CX EE CW 2
def P6:=dB CX EE CW 1
def Qt:=dB CX EE CW 0
def QU:=dB CX EE ahu 0
def QI:=dB CX EE ahb 0
def Qx:=dB CX EE agN 0
def QH:=dB CX EE aha 0
def XA:=dw CX EE AZ 7
def Xq:=dw CX EE AZ 6
def Xp:=dw CX EE AZ 5
def Qd:=dB CX EE AZ 4
def Xo:=dw CX EE AZ 3
def Qc:=dB CX EE AZ 2
def Xj:=dw CX EE AZ 1
def LC:=dB CX EE AZ 0
def Yt:=dw CX EE A5 7
def QV:=dB CX EE A5 6
def Yd:=dw CX EE A5 5
def XP:=dw CX EE A5 4
def LN:=dB CX EE A5 3
def QJ:=dB CX EE A5 2
def Yc:=dw CX EE A5 1
def LX:=dB CX EE A5 0
def PI:=dB CX EE aeh 0
def PD:=dB CX EE aee 0
def PF:=dB CX EE aef 0
def PH:=dB CX EE aeg 0
def Qu:=dw CX EE mV 6
def Xs:=dw CX EE mV 5
def W9:=dw CX EE mV 4
def Wz:=dw CX EE mV 3
def Lx:=dB CX EE mV 2
def LH:=dB CX EE mV 1
def Xr:=dw CX EE mV 0
abbrev aL:Type:=Option UO
inductive Qm
 |qP(l:ak)
 |XO(l:ak)
 |cp(l:ak)
 |AY(l:ak)
 |aE(l:ak)
 |qv(l:ak)
 |jq(l:ak)
 |bT(l:ak)
 |vd(l:ak)
 |oi(l:ak)
 |LM(l:ak)
 |fx(l:ak)
 |bu(l:ak)
 |lK(l:ak)
 |fa
 |gg
 |pT(n:Nat)
 |fb(i:Int)(l:aY)(k:Option UO)
 |cj(a b:Int)
 |da(a b:Int)
 |iv(a b:Nat)
 |uJ(a b:Nat)
 |l8Q(l:aY)
 |m8Q(l m:aY)
 |bG(l:aY)(i:Int)
 |cD(i:Int)
 |gX
abbrev am(x:Qm)(A:Type):=CoeDep Qm x A
instance (l:ak):am (.qP l) AV:=⟨.agg (bg CQ 0 l)⟩
instance (l:ak):am (.XO l) AV:=⟨.agg (bg aga 0 l)⟩
instance (l:ak):am (.cp l) AV:=⟨.agg (bg lU 0 l)⟩
instance (l:ak):am (.AY l) AV:=⟨.agg (bg Xw 0 l)⟩
instance (l:ak):am (.aE l) AV:=⟨.agg (bg fU 0 l)⟩
instance (l:ak):am (.qv l) AV:=⟨.agg (bg Q9 0 l)⟩
instance (l:ak):am (.jq l) AV:=⟨.agg (bg Ir 0 l)⟩
instance (l:ak):am (.bT l) AV:=⟨.agg (bg Yg 0 l)⟩
instance (l:ak):am (.vd l) AV:=⟨.agg (bg QZ 0 l)⟩
instance (l:ak):am (.oi l) AV:=⟨.agg (bg agt 0 l)⟩
instance (l:ak):am (.LM l) AV:=⟨.agg (bg afU 0 l)⟩
instance (l:ak):am (.fx l) AV:=⟨.agg (bg sx 0 l)⟩
instance (l:ak):am (.bu l) (Option UO):=⟨some (0,l)⟩
instance (l:ak):am (.lK l) (Option UO):=⟨some (1,l)⟩
instance:am (.fa ) (Option UO):=⟨some (0,[.bool true])⟩
instance:am (.gg ) (Option UO):=⟨some (0,[.bool false])⟩
instance (n:Nat):am (.pT n) Bool:=⟨Nat.beq n 0⟩
instance (i:Int)(l:aY)(k:Option UO):am (.fb i l k) (Option UO):=⟨bf (ib i l.length) k⟩
instance (a b:Int):am (.cj a b) Bool:=⟨decide (a<b)⟩
instance (a b:Int):am (.da a b) Bool:=⟨decide (a<=b)⟩
instance (a b:Nat):am (.iv a b) Bool:=⟨decide (a<b)⟩
instance (a b:Nat):am (.uJ a b) Bool:=⟨decide (a<=b)⟩
instance (l:aY):am (.l8Q l) Bool:=⟨decide ((0+l.length)*8<=140737488355328)⟩
instance (l m:aY):am (.m8Q l m) Bool:=⟨decide ((l.length+m.length)*8<=140737488355328)⟩
instance (l:aY)(i:Int):am (.bG l i) ak:=⟨gA l i.toNat⟩
instance (i:Int):am (.cD i) AV:=⟨iI (bH (i+1))⟩
instance:am (.gX ) aY:=⟨[]⟩
end
end Go.Proofs.B
namespace Go.aj
open Go
def ahj{zs:bQ}{i:Nat}{row:Row}(h:(qX zs)[i]?=some row):∃z,zs[i]?=some z/\row=[AV.int .i64 z]:=by
 unfold qX at h;rw [kG]at h;cases hz:zs[i]? with
 |none=>rw [hz]at h;cases h
 |some z=>rw [hz]at h;injection h with h;exact⟨z,rfl,h.symm⟩
def Rg(zs:bQ):(qX zs).length =zs.length:=by simp [qX]
def aBh{K:TypeId->er}{ρ:bJ}{F:bD}{w:World}{z:Int}{v:Value}(h:a8 K ρ F w (.int .i64 z) v):v= .int .i64 z:=by cases h;rfl
def ayb{off:Nat}{d:Array Int}{c:Array Value}{k:Nat}(hk:k<c.size):(Go.Sort.putCells (Value.int .i64) off d c)[k]?=some (if off<=k/\k<off+d.size then Value.int .i64 d[k- off]! else c[k]):=by
 unfold Go.Sort.putCells;rw [FC (M4),Array.getElem_mapIdx]
def aCn{X:Cx}{f:FuncId}{t:TypeId}(hK:X.K t=[.int .i64])
 (hC:∀(K4 off cap:Nat) (zs:bQ) (w:World),Go.Sort.Holds (Value.int .i64) w K4 off zs.toArray->K4<w.heap.size->zs.length<4611686018427387904->
   Calls X.P f #[.slice (some ⟨K4,off,none⟩) zs.length cap] w λe w'=>e= .returned (.tuple #[])/\∃n os,w'=Go.Sort.grow (Go.Sort.putRow (Value.int .i64) (Go.Sort.ahead w n) K4 off (zs.mergeSort λx y=>decide (x<=y)).toArray) os):acf X f t:=by
 intro zs eY aLS w0 S F ρ w vs hI hv;obtain⟨v,rfl,hr⟩:=hv.one;cases hr with
 |au _ hd hid=>
 have nm:=hI.rep 0 _ hd rfl hid;obtain⟨eX,oQ,hr⟩:=nm;rw [hK]at eX oQ;have rr:hd.sz=1:=eX;rcases hr with⟨_,hx⟩|⟨g,o,c,cur,mv,hh,h4,h5,h6,h7⟩
 ·exfalso;have:=Rg zs;rw [hx]at this;exact eY (aim.1 this.symm)
 ·rw [Rg]at mv h4;rw [rr]at h6 h7;have dQ:hd.fj=some g:=by simp [Hd.fj,Value.fj,mv]
  have N0:=hI.sep 0 _ hd g rfl rfl hid dQ;have sN:∀(i:Nat) z,zs[i]?=some z->cur[o+i]?=some (Value.int .i64 z):=λi z hz=>by
   have jx:(qX zs)[i]?=some [AV.int .i64 z]:=by unfold qX;rw [kG,hz];rfl
   obtain⟨v,mD,hrv⟩:=h7 i _ jx 0 (.int .i64 z) rfl;rw [aBh hrv]at mD;simpa using mD
  have hold:Go.Sort.Holds (Value.int .i64) w g o zs.toArray:=λj hj=>by
   have hj:j<zs.length:=by simpa using hj
   have hz:zs[j]?=some zs[j]:=dy hj;refine⟨?_,?_⟩
   ·rw [show zs.toArray[j]! =zs[j]by rw [R6 _ j (by simpa using hj)];simp];simp only [World.cell?,hh];exact sN j _ hz
   ·simp [World.frozen?,hh]
  have Hv:zs.length<4611686018427387904:=by omega
  have Bz:=hC g o c zs w hold N0.1 Hv;rw [show(#[hd.v]:Array Value)= #[.slice (some ⟨g,o,none⟩) zs.length c]by rw [mv]];refine Bz.mono ?_;rintro e w' ⟨rfl,n,os,rfl⟩;have hlen:(qa zs).length =zs.length:=by unfold qa;exact List.length_mergeSort zs
  have hgl:g<w.heap.size:=N0.1;have Gk:∀k,k<w.heap.size->k≠g->(Go.Sort.grow (Go.Sort.putRow (Value.int .i64) (Go.Sort.ahead w n) g o (qa zs).toArray) os).heap[k]?=w.heap[k]?:=λk hk Vi=>by
   simp only [Go.Sort.grow,Go.Sort.putRow,Go.Sort.mapBlock,Go.Sort.ahead];rw [IU (M4),R5,if_neg (λh=>Vi h.symm)]
  have lQ:(Go.Sort.grow (Go.Sort.putRow (Value.int .i64) (Go.Sort.ahead w n) g o (qa zs).toArray) os).heap[g]?=some (.cells (Go.Sort.putCells (Value.int .i64) o (qa zs).toArray cur) t (0,0)):=by
   simp only [Go.Sort.grow,Go.Sort.putRow,Go.Sort.mapBlock,Go.Sort.ahead];rw [IU (by simpa using hgl),R5,if_pos rfl,hh];rfl
  have nT:w.grownBy (Go.Sort.grow (Go.Sort.putRow (Value.int .i64) (Go.Sort.ahead w n) g o (qa zs).toArray) os) (some g):=
   ⟨rfl,rfl,rfl,by simp [Go.Sort.grow,Go.Sort.putRow,Go.Sort.mapBlock,Go.Sort.ahead],λk hk eY=>Gk k hk λh=>eY (by rw [h])⟩
  have kl:∀z∈qa zs,z∈zs:=λz hz=>by unfold qa at hz;exact List.mem_mergeSort.1 hz
  have BR:n6 X ρ F (Go.Sort.grow (Go.Sort.putRow (Value.int .i64) (Go.Sort.ahead w n) g o (qa zs).toArray) os) hd (.row t (qX (qa zs))):=by
   refine⟨by rw [hK];exact eX,λi row hi=> ?_,.inr ⟨g,o,c,_,by rw [Rg,hlen];exact mv,lQ,by rw [Rg,hlen];exact h4,h5,by rw [rr];simpa [Go.Sort.putCells]using h6,λi row hi j x hx=> ?_⟩⟩
   ·obtain⟨z,hz,rfl⟩:=ahj hi;obtain⟨i',ca⟩:=Be (kl z (rU hz));rw [hK];exact oQ i' _ (by unfold qX;rw [kG,ca];rfl)
   ·obtain⟨z,hz,rfl⟩:=ahj hi;have uS:i<(qa zs).length :=(fK.1 hz).1;cases j with
    |succ j=>exact Jc
    |zero=>
     simp at hx;subst hx;refine⟨.int .i64 z,?_,.int _ _⟩;rw [rr,Nat.mul_one,A9,ayb (by omega),if_pos (fB)];rw [show o+i- o=i by omega,R6 _ i (by simpa using uS)];have:=(fK.1 hz).2;simp [this]
  refine⟨.tuple #[],ρ,F,rfl,hI.write rfl rfl hid dQ nT BR,⟨λ_ h=>h,λ_ _ _ h=>h,λa ha=>Gk _ (hI.fz a ha) λh=>N0.2.2 a ha h⟩,?_⟩;exact .eV [] [] rfl (λj x v hx=>Jc)
end Go.aj
namespace Go.Proofs
open Go.Shelf
def Tryz.ayE:Go.Shelf.Ren:=⟨fun|189=>192|125=>213|257=>212|128=>231|129=>218|294=>222|295=>223|296=>224|297=>225|298=>226|299=>227|216=>228|300=>229|301=>230|328=>236|329=>237|330=>238|331=>239|332=>240|215=>241|343=>242|n=>n,fun|28=>36|3=>3|46=>203|0=>0|51=>233|53=>236|4=>4|183=>261|182=>260|131=>264|5=>5|9=>9|218=>267|222=>169|228=>274|229=>275|n=>n,fun|n=>n⟩
theorem Tryz.aBB:Go.Proofs.Lays.n189 Tryz.prog Tryz.ayE:={
 mixed:=by kernel_rfl
 f125:=Tryz.func213.trans (congrArg some (by kernel_rfl))
 f128:=Tryz.func231.trans (congrArg some (by kernel_rfl))
 f129:=Tryz.func218.trans (congrArg some (by kernel_rfl))
 f189:=Tryz.func192.trans (congrArg some (by kernel_rfl))
 f215:=Tryz.func241.trans (congrArg some (by kernel_rfl))
 f216:=Tryz.func228.trans (congrArg some (by kernel_rfl))
 f257:=Tryz.func212.trans (congrArg some (by kernel_rfl))
 f294:=Tryz.func222.trans (congrArg some (by kernel_rfl))
 f295:=Tryz.func223.trans (congrArg some (by kernel_rfl))
 f296:=Tryz.func224.trans (congrArg some (by kernel_rfl))
 f297:=Tryz.func225.trans (congrArg some (by kernel_rfl))
 f298:=Tryz.func226.trans (congrArg some (by kernel_rfl))
 f299:=Tryz.func227.trans (congrArg some (by kernel_rfl))
 f300:=Tryz.func229.trans (congrArg some (by kernel_rfl))
 f301:=Tryz.func230.trans (congrArg some (by kernel_rfl))
 f328:=Tryz.func236.trans (congrArg some (by kernel_rfl))
 f329:=Tryz.func237.trans (congrArg some (by kernel_rfl))
 f330:=Tryz.func238.trans (congrArg some (by kernel_rfl))
 f331:=Tryz.func239.trans (congrArg some (by kernel_rfl))
 f332:=Tryz.func240.trans (congrArg some (by kernel_rfl))
 f343:=Tryz.func242.trans (congrArg some (by kernel_rfl))
 t0:=Tryz.underlying0
 a0:=Tryz.isAgg0
 z0:=Tryz.sizeOf0
 v0:=Tryz.zeroValue0
 t3:=Tryz.underlying3
 a3:=Tryz.isAgg3
 z3:=Tryz.sizeOf3
 v3:=Tryz.zeroValue3
 t4:=Tryz.underlying4
 a4:=Tryz.isAgg4
 z4:=Tryz.sizeOf4
 v4:=Tryz.zeroValue4
 t5:=Tryz.underlying5
 a5:=Tryz.isAgg5
 z5:=Tryz.sizeOf5
 v5:=Tryz.zeroValue5
 t9:=Tryz.underlying9
 a9:=Tryz.isAgg9
 z9:=Tryz.sizeOf9
 v9:=Tryz.zeroValue9
 t28:=Tryz.underlying36
 a28:=Tryz.isAgg36
 z28:=Tryz.sizeOf36
 v28:=Tryz.zeroValue36
 t46:=Tryz.underlying203
 a46:=Tryz.isAgg203
 z46:=Tryz.sizeOf203
 v46:=Tryz.zeroValue203
 t51:=Tryz.underlying233
 a51:=Tryz.isAgg233
 z51:=Tryz.sizeOf233
 v51:=Tryz.zeroValue233
 t53:=Tryz.underlying236
 a53:=Tryz.isAgg236
 z53:=Tryz.sizeOf236
 v53:=Tryz.zeroValue236
 t131:=Tryz.underlying264
 a131:=Tryz.isAgg264
 z131:=Tryz.sizeOf264
 v131:=Tryz.zeroValue264
 t182:=Tryz.underlying260
 a182:=Tryz.isAgg260
 z182:=Tryz.sizeOf260
 v182:=Tryz.zeroValue260
 t183:=Tryz.underlying261
 a183:=Tryz.isAgg261
 z183:=Tryz.sizeOf261
 v183:=Tryz.zeroValue261
 t218:=Tryz.underlying267
 a218:=Tryz.isAgg267
 z218:=Tryz.sizeOf267
 v218:=Tryz.zeroValue267
 t222:=Tryz.underlying169
 a222:=Tryz.isAgg169
 z222:=Tryz.sizeOf169
 v222:=Tryz.zeroValue169
 t228:=Tryz.underlying274
 a228:=Tryz.isAgg274
 z228:=Tryz.sizeOf274
 v228:=Tryz.zeroValue274
 t229:=Tryz.underlying275
 a229:=Tryz.isAgg275
 z229:=Tryz.sizeOf275
 v229:=Tryz.zeroValue275}
def Tryz.Yk:Go.Shelf.Ren:=⟨fun|105=>111|212=>142|99=>172|165=>173|166=>110|170=>174|169=>56|263=>183|264=>184|206=>203|240=>171|241=>204|276=>202|277=>216|n=>n,fun|9=>9|3=>3|4=>4|20=>20|0=>0|46=>203|109=>204|5=>5|72=>125|76=>179|51=>233|146=>234|53=>236|148=>237|70=>122|37=>123|75=>178|127=>190|164=>244|80=>136|n=>n,fun|n=>n⟩
theorem Tryz.aBF:Go.Proofs.Lays.n105 Tryz.prog Tryz.Yk:={
 mixed:=by kernel_rfl
 f99:=Tryz.func172.trans (congrArg some (by kernel_rfl))
 f105:=Tryz.func111.trans (congrArg some (by kernel_rfl))
 f165:=Tryz.func173.trans (congrArg some (by kernel_rfl))
 f166:=Tryz.func110.trans (congrArg some (by kernel_rfl))
 f169:=Tryz.func56.trans (congrArg some (by kernel_rfl))
 f170:=Tryz.func174.trans (congrArg some (by kernel_rfl))
 f206:=Tryz.func203.trans (congrArg some (by kernel_rfl))
 f212:=Tryz.func142.trans (congrArg some (by kernel_rfl))
 f240:=Tryz.func171.trans (congrArg some (by kernel_rfl))
 f241:=Tryz.func204.trans (congrArg some (by kernel_rfl))
 f263:=Tryz.func183.trans (congrArg some (by kernel_rfl))
 f264:=Tryz.func184.trans (congrArg some (by kernel_rfl))
 f276:=Tryz.func202.trans (congrArg some (by kernel_rfl))
 f277:=Tryz.func216.trans (congrArg some (by kernel_rfl))
 t0:=Tryz.underlying0
 a0:=Tryz.isAgg0
 z0:=Tryz.sizeOf0
 v0:=Tryz.zeroValue0
 t3:=Tryz.underlying3
 a3:=Tryz.isAgg3
 z3:=Tryz.sizeOf3
 v3:=Tryz.zeroValue3
 t4:=Tryz.underlying4
 a4:=Tryz.isAgg4
 z4:=Tryz.sizeOf4
 v4:=Tryz.zeroValue4
 t5:=Tryz.underlying5
 a5:=Tryz.isAgg5
 z5:=Tryz.sizeOf5
 v5:=Tryz.zeroValue5
 t9:=Tryz.underlying9
 a9:=Tryz.isAgg9
 z9:=Tryz.sizeOf9
 v9:=Tryz.zeroValue9
 t20:=Tryz.underlying20
 a20:=Tryz.isAgg20
 z20:=Tryz.sizeOf20
 v20:=Tryz.zeroValue20
 t37:=Tryz.underlying123
 a37:=Tryz.isAgg123
 z37:=Tryz.sizeOf123
 v37:=Tryz.zeroValue123
 t46:=Tryz.underlying203
 a46:=Tryz.isAgg203
 z46:=Tryz.sizeOf203
 v46:=Tryz.zeroValue203
 t51:=Tryz.underlying233
 a51:=Tryz.isAgg233
 z51:=Tryz.sizeOf233
 v51:=Tryz.zeroValue233
 t53:=Tryz.underlying236
 a53:=Tryz.isAgg236
 z53:=Tryz.sizeOf236
 v53:=Tryz.zeroValue236
 t70:=Tryz.underlying122
 a70:=Tryz.isAgg122
 z70:=Tryz.sizeOf122
 v70:=Tryz.zeroValue122
 t72:=Tryz.underlying125
 a72:=Tryz.isAgg125
 z72:=Tryz.sizeOf125
 v72:=Tryz.zeroValue125
 t75:=Tryz.underlying178
 a75:=Tryz.isAgg178
 z75:=Tryz.sizeOf178
 v75:=Tryz.zeroValue178
 t76:=Tryz.underlying179
 a76:=Tryz.isAgg179
 z76:=Tryz.sizeOf179
 v76:=Tryz.zeroValue179
 t109:=Tryz.underlying204
 a109:=Tryz.isAgg204
 z109:=Tryz.sizeOf204
 v109:=Tryz.zeroValue204
 t127:=Tryz.underlying190
 a127:=Tryz.isAgg190
 z127:=Tryz.sizeOf190
 v127:=Tryz.zeroValue190
 t146:=Tryz.underlying234
 a146:=Tryz.isAgg234
 z146:=Tryz.sizeOf234
 v146:=Tryz.zeroValue234
 t148:=Tryz.underlying237
 a148:=Tryz.isAgg237
 z148:=Tryz.sizeOf237
 v148:=Tryz.zeroValue237
 t164:=Tryz.underlying244
 a164:=Tryz.isAgg244
 z164:=Tryz.sizeOf244
 v164:=Tryz.zeroValue244}
def Tryz.Yj:Go.Shelf.Ren:=⟨fun|156=>117|165=>173|166=>110|169=>56|240=>171|241=>204|276=>202|277=>216|n=>n,fun|31=>176|9=>9|3=>3|4=>4|0=>0|20=>20|72=>125|76=>179|70=>122|37=>123|75=>178|127=>190|164=>244|5=>5|80=>136|n=>n,fun|n=>n⟩
theorem Tryz.aBE:Go.Proofs.Lays.n156 Tryz.prog Tryz.Yj:={
 mixed:=by kernel_rfl
 f156:=Tryz.func117.trans (congrArg some (by kernel_rfl))
 f165:=Tryz.func173.trans (congrArg some (by kernel_rfl))
 f166:=Tryz.func110.trans (congrArg some (by kernel_rfl))
 f169:=Tryz.func56.trans (congrArg some (by kernel_rfl))
 f240:=Tryz.func171.trans (congrArg some (by kernel_rfl))
 f241:=Tryz.func204.trans (congrArg some (by kernel_rfl))
 f276:=Tryz.func202.trans (congrArg some (by kernel_rfl))
 f277:=Tryz.func216.trans (congrArg some (by kernel_rfl))
 t0:=Tryz.underlying0
 a0:=Tryz.isAgg0
 z0:=Tryz.sizeOf0
 v0:=Tryz.zeroValue0
 t3:=Tryz.underlying3
 a3:=Tryz.isAgg3
 z3:=Tryz.sizeOf3
 v3:=Tryz.zeroValue3
 t4:=Tryz.underlying4
 a4:=Tryz.isAgg4
 z4:=Tryz.sizeOf4
 v4:=Tryz.zeroValue4
 t9:=Tryz.underlying9
 a9:=Tryz.isAgg9
 z9:=Tryz.sizeOf9
 v9:=Tryz.zeroValue9
 t20:=Tryz.underlying20
 a20:=Tryz.isAgg20
 z20:=Tryz.sizeOf20
 v20:=Tryz.zeroValue20
 t31:=Tryz.underlying176
 a31:=Tryz.isAgg176
 z31:=Tryz.sizeOf176
 v31:=Tryz.zeroValue176
 t37:=Tryz.underlying123
 a37:=Tryz.isAgg123
 z37:=Tryz.sizeOf123
 v37:=Tryz.zeroValue123
 t70:=Tryz.underlying122
 a70:=Tryz.isAgg122
 z70:=Tryz.sizeOf122
 v70:=Tryz.zeroValue122
 t72:=Tryz.underlying125
 a72:=Tryz.isAgg125
 z72:=Tryz.sizeOf125
 v72:=Tryz.zeroValue125
 t75:=Tryz.underlying178
 a75:=Tryz.isAgg178
 z75:=Tryz.sizeOf178
 v75:=Tryz.zeroValue178
 t76:=Tryz.underlying179
 a76:=Tryz.isAgg179
 z76:=Tryz.sizeOf179
 v76:=Tryz.zeroValue179
 t127:=Tryz.underlying190
 a127:=Tryz.isAgg190
 z127:=Tryz.sizeOf190
 v127:=Tryz.zeroValue190
 t164:=Tryz.underlying244
 a164:=Tryz.isAgg244
 z164:=Tryz.sizeOf244
 v164:=Tryz.zeroValue244}
def Tryz.agE:Go.Shelf.Ren:=⟨fun|171=>113|243=>175|246=>176|283=>205|284=>206|285=>207|286=>208|129=>218|317=>217|318=>219|319=>220|320=>221|337=>234|338=>235|n=>n,fun|3=>3|9=>9|2=>2|4=>4|171=>246|0=>0|53=>236|37=>123|5=>5|173=>249|212=>257|51=>233|20=>20|213=>258|46=>203|232=>272|233=>273|n=>n,fun|17=>0|18=>2|19=>3|n=>n⟩
theorem Tryz.aBD:Go.Proofs.LaysM.n171 Tryz.prog Tryz.agE:={
 mixed:=by kernel_rfl
 f129:=Tryz.func218.trans (congrArg some (by kernel_rfl))
 f171:=Tryz.func113.trans (congrArg some (by kernel_rfl))
 f243:=Tryz.func175.trans (congrArg some (by kernel_rfl))
 f246:=Tryz.func176.trans (congrArg some (by kernel_rfl))
 f283:=Tryz.func205.trans (congrArg some (by kernel_rfl))
 f284:=Tryz.func206.trans (congrArg some (by kernel_rfl))
 f285:=Tryz.func207.trans (congrArg some (by kernel_rfl))
 f286:=Tryz.func208.trans (congrArg some (by kernel_rfl))
 f317:=Tryz.func217.trans (congrArg some (by kernel_rfl))
 f318:=Tryz.func219.trans (congrArg some (by kernel_rfl))
 f319:=Tryz.func220.trans (congrArg some (by kernel_rfl))
 f320:=Tryz.func221.trans (congrArg some (by kernel_rfl))
 f337:=Tryz.func234.trans (congrArg some (by kernel_rfl))
 f338:=Tryz.func235.trans (congrArg some (by kernel_rfl))
 t0:=Tryz.underlying0
 a0:=Tryz.isAgg0
 z0:=Tryz.sizeOf0
 v0:=Tryz.zeroValue0
 t2:=Tryz.underlying2
 a2:=Tryz.isAgg2
 z2:=Tryz.sizeOf2
 v2:=Tryz.zeroValue2
 t3:=Tryz.underlying3
 a3:=Tryz.isAgg3
 z3:=Tryz.sizeOf3
 v3:=Tryz.zeroValue3
 t4:=Tryz.underlying4
 a4:=Tryz.isAgg4
 z4:=Tryz.sizeOf4
 v4:=Tryz.zeroValue4
 t5:=Tryz.underlying5
 a5:=Tryz.isAgg5
 z5:=Tryz.sizeOf5
 v5:=Tryz.zeroValue5
 t9:=Tryz.underlying9
 a9:=Tryz.isAgg9
 z9:=Tryz.sizeOf9
 v9:=Tryz.zeroValue9
 t20:=Tryz.underlying20
 a20:=Tryz.isAgg20
 z20:=Tryz.sizeOf20
 v20:=Tryz.zeroValue20
 t37:=Tryz.underlying123
 a37:=Tryz.isAgg123
 z37:=Tryz.sizeOf123
 v37:=Tryz.zeroValue123
 t46:=Tryz.underlying203
 a46:=Tryz.isAgg203
 z46:=Tryz.sizeOf203
 v46:=Tryz.zeroValue203
 t51:=Tryz.underlying233
 a51:=Tryz.isAgg233
 z51:=Tryz.sizeOf233
 v51:=Tryz.zeroValue233
 t53:=Tryz.underlying236
 a53:=Tryz.isAgg236
 z53:=Tryz.sizeOf236
 v53:=Tryz.zeroValue236
 t171:=Tryz.underlying246
 a171:=Tryz.isAgg246
 z171:=Tryz.sizeOf246
 v171:=Tryz.zeroValue246
 t173:=Tryz.underlying249
 a173:=Tryz.isAgg249
 z173:=Tryz.sizeOf249
 v173:=Tryz.zeroValue249
 t212:=Tryz.underlying257
 a212:=Tryz.isAgg257
 z212:=Tryz.sizeOf257
 v212:=Tryz.zeroValue257
 t213:=Tryz.underlying258
 a213:=Tryz.isAgg258
 z213:=Tryz.sizeOf258
 t232:=Tryz.underlying272
 a232:=Tryz.isAgg272
 z232:=Tryz.sizeOf272
 v232:=Tryz.zeroValue272
 t233:=Tryz.underlying273
 a233:=Tryz.isAgg273
 z233:=Tryz.sizeOf273
 v233:=Tryz.zeroValue273
 g17:=ac
 g18:=ac
 g19:=ac
 i0:=ac
 i2:=ac
 i3:=ac
 i4:=ac
 i5:=ac
 i9:=ac
 i20:=ac
 i37:=ac
 i46:=ac
 i51:=ac
 i53:=ac
 i171:=ac
 i173:=ac
 i212:=ac
 i232:=ac
 i233:=ac
 m17:=ac
 m18:=ac
 m19:=by kernel_rfl}
def Tryz.agD:Go.Shelf.Ren:=⟨fun|173=>114|246=>176|283=>205|284=>206|285=>207|286=>208|129=>218|317=>217|318=>219|319=>220|320=>221|337=>234|338=>235|n=>n,fun|2=>2|3=>3|9=>9|4=>4|171=>246|0=>0|53=>236|37=>123|5=>5|173=>249|212=>257|51=>233|20=>20|213=>258|46=>203|232=>272|233=>273|n=>n,fun|17=>0|18=>2|19=>3|n=>n⟩
theorem Tryz.aBC:Go.Proofs.LaysM.n173 Tryz.prog Tryz.agD:={
 mixed:=by kernel_rfl
 f129:=Tryz.func218.trans (congrArg some (by kernel_rfl))
 f173:=Tryz.func114.trans (congrArg some (by kernel_rfl))
 f246:=Tryz.func176.trans (congrArg some (by kernel_rfl))
 f283:=Tryz.func205.trans (congrArg some (by kernel_rfl))
 f284:=Tryz.func206.trans (congrArg some (by kernel_rfl))
 f285:=Tryz.func207.trans (congrArg some (by kernel_rfl))
 f286:=Tryz.func208.trans (congrArg some (by kernel_rfl))
 f317:=Tryz.func217.trans (congrArg some (by kernel_rfl))
 f318:=Tryz.func219.trans (congrArg some (by kernel_rfl))
 f319:=Tryz.func220.trans (congrArg some (by kernel_rfl))
 f320:=Tryz.func221.trans (congrArg some (by kernel_rfl))
 f337:=Tryz.func234.trans (congrArg some (by kernel_rfl))
 f338:=Tryz.func235.trans (congrArg some (by kernel_rfl))
 t0:=Tryz.underlying0
 a0:=Tryz.isAgg0
 z0:=Tryz.sizeOf0
 v0:=Tryz.zeroValue0
 t2:=Tryz.underlying2
 a2:=Tryz.isAgg2
 z2:=Tryz.sizeOf2
 v2:=Tryz.zeroValue2
 t3:=Tryz.underlying3
 a3:=Tryz.isAgg3
 z3:=Tryz.sizeOf3
 v3:=Tryz.zeroValue3
 t4:=Tryz.underlying4
 a4:=Tryz.isAgg4
 z4:=Tryz.sizeOf4
 v4:=Tryz.zeroValue4
 t5:=Tryz.underlying5
 a5:=Tryz.isAgg5
 z5:=Tryz.sizeOf5
 v5:=Tryz.zeroValue5
 t9:=Tryz.underlying9
 a9:=Tryz.isAgg9
 z9:=Tryz.sizeOf9
 v9:=Tryz.zeroValue9
 t20:=Tryz.underlying20
 a20:=Tryz.isAgg20
 z20:=Tryz.sizeOf20
 v20:=Tryz.zeroValue20
 t37:=Tryz.underlying123
 a37:=Tryz.isAgg123
 z37:=Tryz.sizeOf123
 v37:=Tryz.zeroValue123
 t46:=Tryz.underlying203
 a46:=Tryz.isAgg203
 z46:=Tryz.sizeOf203
 v46:=Tryz.zeroValue203
 t51:=Tryz.underlying233
 a51:=Tryz.isAgg233
 z51:=Tryz.sizeOf233
 v51:=Tryz.zeroValue233
 t53:=Tryz.underlying236
 a53:=Tryz.isAgg236
 z53:=Tryz.sizeOf236
 v53:=Tryz.zeroValue236
 t171:=Tryz.underlying246
 a171:=Tryz.isAgg246
 z171:=Tryz.sizeOf246
 v171:=Tryz.zeroValue246
 t173:=Tryz.underlying249
 a173:=Tryz.isAgg249
 z173:=Tryz.sizeOf249
 v173:=Tryz.zeroValue249
 t212:=Tryz.underlying257
 a212:=Tryz.isAgg257
 z212:=Tryz.sizeOf257
 v212:=Tryz.zeroValue257
 t213:=Tryz.underlying258
 a213:=Tryz.isAgg258
 z213:=Tryz.sizeOf258
 t232:=Tryz.underlying272
 a232:=Tryz.isAgg272
 z232:=Tryz.sizeOf272
 v232:=Tryz.zeroValue272
 t233:=Tryz.underlying273
 a233:=Tryz.isAgg273
 z233:=Tryz.sizeOf273
 v233:=Tryz.zeroValue273
 g17:=ac
 g18:=ac
 g19:=ac
 i0:=ac
 i2:=ac
 i3:=ac
 i4:=ac
 i5:=ac
 i9:=ac
 i20:=ac
 i37:=ac
 i46:=ac
 i51:=ac
 i53:=ac
 i171:=ac
 i173:=ac
 i212:=ac
 i232:=ac
 i233:=ac
 m17:=ac
 m18:=ac
 m19:=by kernel_rfl}
end Go.Proofs
namespace Go.Proofs.B.Cl
open Go Go.Shelf
theorem aLH:Lays.n105 CX.P Tryz.Yk:=Tryz.aBF
theorem aLG:Lays.n156 CX.P Tryz.Yj:=Tryz.aBE
theorem aLF:LaysM.n171 CX.P Tryz.agE:=Tryz.aBD
theorem aLE:LaysM.n173 CX.P Tryz.agD:=Tryz.aBC
theorem aLK:Builder.Extra CX.P Tryz.Yk where
 sizeBuilder:=ac
 liesBuilder:=ac
 t5:=Tryz.underlying5
 a5:=Tryz.isAgg5
 z5:=Tryz.sizeOf5
 v5:=Tryz.zeroValue5
 infoByte:=ac
 cellsByte:=ac
 sizeByte:=ac
 neB5:=by decide
theorem aLJ:Builder.Extra CX.P Tryz.Yj where
 sizeBuilder:=ac
 liesBuilder:=ac
 t5:=Tryz.underlying5
 a5:=Tryz.isAgg5
 z5:=Tryz.sizeOf5
 v5:=Tryz.zeroValue5
 infoByte:=ac
 cellsByte:=ac
 sizeByte:=ac
 neB5:=by decide
end Go.Proofs.B.Cl
namespace Go.Proofs.B
open Go Go.aj
set_option maxRecDepth 100000
noncomputable section
def aDA:adu CX (.Eg 192 3):=aCn (by kernel_rfl) (λK4 off cap zs w U h2 h3=>Any.slices_Sort_int Tryz.aBB K4 off cap zs w U h2 h3)
def awW:Gp CX af8:=aEk Cl.aLF (g:=0) (by kernel_rfl) rfl rfl rfl rfl rfl rfl
def avA:Gp CX afG:=aDQ Cl.aLH Cl.aLK rfl rfl rfl rfl rfl
def atP:Gp CX ae7:=aEz Cl.aLE (g:=0) (by kernel_rfl) rfl rfl rfl rfl rfl rfl
def age:FD:={Ya with calls:=[]}
def axz:nB (UM CX) [age]:=by repeat' first|exact trivial|exact⟨by kernel_rfl,by kernel_rfl,by kernel_rfl⟩|refine⟨?_,?_⟩|kernel_rfl
def axp:Gp CX Ya:=aJ0 (ach hX axz 2 0 age rfl) rfl (by repeat' first|exact trivial|refine⟨?_,?_⟩|(show _=_;kernel_rfl))
def awV:Gp CX af7:=aEj Cl.aLG Cl.aLJ (by kernel_rfl) rfl rfl rfl rfl rfl
set_option maxRecDepth 1000000 in
def hE:nB (UM CX) EE:=by repeat' first|exact trivial|exact⟨by kernel_rfl,by kernel_rfl,by kernel_rfl⟩|refine⟨?_,?_⟩|kernel_rfl|exact aDA|exact awW|exact avA|exact atP|exact axp|exact awV
end
end Go.Proofs.B
namespace Go.aj
def Dz{p:Prop}(h:p:=by rw [pE (by omega) (by omega)];omega):p:=h
end Go.aj
namespace Go.Proofs.B
open Go Go.aj
section
variable{n:Int}{i:Nat}
def aA7(h0: -9223372036854775808<=n)(U:n<=9223372036854775807):IntKind.wrap .i64 n=n:=by
 simp [IntKind.wrap,IntKind.bits,IntKind.signed];split<;>omega
def pE(h0: -9223372036854775808<=n)(U:n<=9223372036854775807):bH n=n:=aA7 h0 U
def aLI(X:Cx)(E:List FD)(N v:Nat)(l:ak):FU X E (N+1) v l=bN X E (FU X E N) N v l:=rfl
def FX{n:Nat}(h:i<n):ib (i:Int) n=true:=by simp [ib,h]
def Zq(h:i<9223372036854775807):bH ((i:Int)+1)=((i+1:Nat):Int):=Dz
end
end Go.Proofs.B
namespace Go.aj
def M9{p:Prop}(h:p:=by rw [hp]at h;cases h):p:=h
def M7{p:Prop}(h:p:=by subst hc;exact h):p:=h
def ajY{p:Prop}(h:p:=by
 cases c
 ·exact h2 rfl
 ·exact U rfl):p:=h
end Go.aj
namespace Go.Proofs.B
open Go Go.aj
section
variable{c:Bool}{α:Type}{l:List α}{i m v:Nat}{LF:Nat->Nat->Nat->Option UO}{k:Nat->Nat->Nat->ak->Option UO}{f g:Nat->Nat->Option UO}{P:Nat->Prop}{done hit o r:UO}{p:α->Bool}
def E(f:Nat->Nat->Option UO)(o:UO):Prop:=∃B,∀N n,B<=N->B<=n->f N n=some o
abbrev Ev(v:Nat)(l:ak)(o:UO):Prop:=E (λN _=>FU CX EE N v l) o
def aq(h:o=r):E (λ_ _=>some o) r:=⟨0,λ_ _ _ _=>by rw [h]⟩
def ah(h:E f o)(hk:E (λN n=>k N n o.1 o.2) r):E (λN n=>bO (f N n) (k N n)) r:=by
 obtain⟨B,h⟩:=h;obtain⟨C,hk⟩:=hk;refine⟨B+C,λN n U h2=> ?_⟩;show bO (f N n) (k N n)=some r;rw [h N n (by omega) (by omega)];exact hk N n (by omega) (by omega)
def aA(hc:c=true)(h:E f r):E (λN n=>aj.bf c (f N n)) r:=M7
def aW(U:c=true->E f r)(h2:c=false->E g r):E (λN n=>bif c then f N n else g N n) r:=ajY
def bE(hc:c=true)(h:E f r):E (λN n=>bif c then f N n else g N n) r:=M7
def az(hc:c=false)(h:E g r):E (λN n=>bif c then f N n else g N n) r:=M7
def DL(he:∀N n,f N n=g N n)(h:E g r):E f r:=by
 obtain⟨B,h⟩:=h;exact⟨B,λN n U h2=>(he N n).trans (h N n U h2)⟩
def anw{l:ak}{g:Nat->Option UO}(he:∀N,bN CX EE (FU CX EE N) N v l=g N)(h:E (λN _=>g N) r):Ev v l r:=by
 obtain⟨B,h⟩:=h;refine⟨B+1,λN n U _=> ?_⟩;obtain⟨M,rfl⟩:∃M,N=M+1:=⟨N- 1,by omega⟩;show FU CX EE (M+1) v l=_;rw [aLI];exact(he M).trans <|h M M (by omega) (by omega)
def aCg(he:∀N n,f N (n+1)=g N n)(h:E g r):E f r:=by
 obtain⟨B,h⟩:=h;refine⟨B+1,λN n U h2=> ?_⟩;obtain⟨m,rfl⟩:∃m,n=m+1:=⟨n- 1,by omega⟩;exact(he N m).trans <|h N m (by omega) (by omega)
def cL(he:∀{N n},f N n=g N n)(h:E g r):E f r:=DL (λ_ _=>he) h
def bh{l:ak}{g:Nat->Option UO}(he:∀{N},bN CX EE (FU CX EE N) N v l=g N)(h:E (λN _=>g N) r):Ev v l r:=anw (λ_=>he) h
def bF(he:∀{N n},f N (n+1)=g N n)(h:E g r):E f r:=aCg (λ_ _=>he) h
def E.diag(h:E f r):E (λN _=>f N N) r:=by
 obtain⟨B,h⟩:=h;exact⟨B,λN n U h2=>h N N U U⟩
def aEZ(he:∀N n,f N n=g N n)(h:E (λN n=>bO (g N n) (k N n)) r):E (λN n=>bO (f N n) (k N n)) r:=
 DL (λN n=>by rw [he]) h
def aEY(he:∀{N n},f N n=g N n)(h:E (λN n=>bO (g N n) (k N n)) r):E (λN n=>bO (f N n) (k N n)) r:=aEZ (λ_ _=>he) h
def aiq(U:c=true->E (λN n=>bO (f N n) (k N n)) r)(h2:c=false->E (λN n=>bO (g N n) (k N n)) r):E (λN n=>bO (bif c then f N n else g N n) (k N n)) r:=ajY
def aaj{q:Nat}{l:ak}(h:E (λN n=>k N n q l) r):E (λN n=>bO (some (q,l)) (k N n)) r:=h
def E.to(h:E f o)(e:o=r):E f r:=e▸h
def E.uniq(h:E f o)(h':E f r):o=r:=by
 obtain⟨B,h⟩:=h;obtain⟨C,h'⟩:=h';have U:=h (B+C) (B+C) (by omega) (by omega);rw [h' (B+C) (B+C) (by omega) (by omega)]at U;exact(Option.some.inj U).symm
def down(h0:P m)(hs:∀i,i<m->P (i+1)->P i):∀i,i<=m->P i:=by
 intro i hi;obtain⟨k,rfl⟩:∃k,m=i+k:=⟨m- i,by omega⟩;clear hi
 induction k generalizing i with
 |zero=>exact h0
 |succ k ih=>
  refine hs i (by omega) (ih (i+1) ?_ ?_)
  ·rw [show i+1+k=i+(k+1)by omega];exact h0
  ·intro j hj;exact hs j (by omega)
def ku(h0:P m)(hs:∀i,i<m->P (i+1)->P i):P 0:=down h0 hs 0 (qy _)
abbrev mx:Nat:=1048576
abbrev ints(l:bQ):aY:=l.map λn=>[iI n]
def xL{f:α->Row}(h:i<l.length):gA (l.map f) i=f l[i]:=by simp [gA,List.getD,h]
def dk{f:α->Row}(h:i<l.length):gA (l.map f) ((i:Int).toNat)=f l[i]:=xL h
def lY(h:i<l.length):l.drop i=l[i]::l.drop (i+1):=ZF h
def ix{n:Nat}(h:i<n)(hn:n<=mx):bH ((i:Int)+1)=((i+1:Nat):Int):=Zq (by simp only [mx]at hn;omega)
def dz{f:α->Row}(h:i<l.length):decide ((i:Int)<ln (l.map f))=true:=by simpa [ln]using h
def eo{f:α->Row}:decide ((l.length:Int)<ln (l.map f))=false:=by simp [ln]
def cb{f:α->Row}(h:i<l.length):ib (i:Int) (l.map f).length =true:=by simpa using FX h
def scan{hit:Nat->UO}(hd:E (LF l.length) done)
 (hs:∀(i:Nat) (h:i<l.length) (r:UO),(p l[i]=true->hit i=r)->(p l[i]=false->E (LF (i+1)) r)->E (LF i) r):
 (l.any p=false/\E (LF 0) done)∨(l.any p=true/\∃i,i<l.length/\E (LF 0) (hit i)):=by
 have h:=ku (P:=λi=>((l.drop i).any p=false/\E (LF i) done)∨((l.drop i).any p=true/\∃j,j<l.length/\E (LF i) (hit j))) (m:=l.length) (.inl ⟨by simp,hd⟩) λi hi ih=>by
  rw [lY hi,RH];cases hp:p l[i]with
  |true=>exact .inr ⟨rfl,i,hi,hs i hi _ (λ_=>rfl) (λh=>M9)⟩
  |false=>
   rw [IJ];rcases ih with⟨U,h2⟩|⟨U,j,hj,h2⟩
   ·exact .inl ⟨U,hs i hi _ (λh=>M9) λ_=>h2⟩
   ·exact .inr ⟨U,j,hj,hs i hi _ (λh=>M9) λ_=>h2⟩
 simpa using h
def Tm(hd:E (LF l.length) done)
 (hs:∀(i:Nat) (h:i<l.length) (r:UO),(p l[i]=true->hit=r)->(p l[i]=false->E (LF (i+1)) r)->E (LF i) r):
 E (LF 0) (bif l.any p then hit else done):=by
 rcases scan (hit:=λ_=>hit) hd hs with⟨U,h2⟩|⟨U,i,_,h2⟩
 ·rw [U];exact h2
 ·rw [U];exact h2
def Jt{p:Nat->Bool}(hd:E (LF m) done)
 (hs:∀(i:Nat),i<m->∀(r:UO),(p i=true->hit=r)->(p i=false->E (LF (i+1)) r)->E (LF i) r):E (LF 0) (bif (List.range m).any p then hit else done):=by
 have:=Tm (l:=List.range m) (LF:=LF) (p:=p) (hit:=hit) (done:=done) (by simpa using hd) λi hi r U h2=>hs i (Jj) r (λh=>U (qc)) λh=>h2 (qc);exact this
def anl{l:bQ}(h:i<l.length):gI (gA (ints l) i) 0=l.getD i 0:=by rw [xL h];simp [gI,AV.toI,h]
def wF{l:bQ}(h:i<l.length):gI (gA (ints l) ((i:Int).toNat)) 0=l.getD i 0:=anl h
end
end Go.Proofs.B
namespace Go.Proofs.B
open Go Go.aj
abbrev J:=AV.agg
abbrev aJ:=AV.bool
abbrev bq:=AV.bool false
abbrev fF:=AV.bool true
abbrev cE:=AV.int .u8
abbrev eh:=AV.ae Me
abbrev gN:=AV.ae Fo
abbrev bR:=AV.ae Fm
abbrev gy:=AV.ae LR
abbrev cX:=AV.ae ud
abbrev oh:=AV.ae L6
abbrev bl:=AV.ae YM
abbrev dj:=AV.ae wc
abbrev kq:=AV.ae Fq
abbrev jr:=AV.ae Ix
abbrev aw:=AV.ae Yf
abbrev gr:=AV.ae CP
abbrev aM:=AV.ae wI
abbrev Fv:=AV.ae aCl
abbrev e7:=AV.ae RT
abbrev aX:=AV.ae sF
abbrev ap3:List (Nat×AV):=[(2,.au 4)]
abbrev yV:List (Nat×AV):=[(12,.au 3),(13,.au 4),(14,.au 5),(15,.au 6),(16,.au 7),(17,.au 8),(18,.au 9),(19,.au 10),(20,.au 11)]
abbrev aLv:List (Nat×AV):=[(12,.au 12),(13,.au 13),(14,.au 14),(15,.au 15),(16,.au 16),(17,.au 17),(18,.au 18),(19,.au 19),(20,.au 20)]
abbrev eH:List (Nat×AV):=[(6,.au 1),(8,.mp 2)]
abbrev oO:List (Nat×AV):=[(0,.ptr 0 0 0)]
abbrev Kh:List (Nat×AV):=[(6,.au 2),(8,.mp 1)]
abbrev UI:List (Nat×AV):=[(2,.au 3)]
abbrev UH:List (Nat×AV):=[(2,.au 0)]
abbrev aLu:List (Nat×AV):=[(0,.ptr 1 0 0)]
abbrev aLt:List (Nat×AV):=[(6,.au 2),(8,.mp 3)]
abbrev aEK:List (Nat×AV):=[(4,.au 3)]
abbrev aEJ:List (Nat×AV):=[(5,.au 3)]
abbrev cq(f:(Nat->List AV->Option UO)->Nat->Nat->List AV->Option UO)(l:List AV)(r:UO):=E (λN m=>f (FU CX EE N) N m l) r
abbrev cW(f:(Nat->List AV->Option UO)->Nat->List AV->Option UO)(l:List AV)(r:UO):=E (λN _=>f (FU CX EE N) N l) r
def aH{o:UO}:E (λ_ _=>some o) o:=aq rfl
def av{f g:Nat->Nat->Option UO}{r:UO}{c:Bool}(h:E g r)(hc:c=false:=by rfl):E (λN n=>bif c then f N n else g N n) r:=az hc h
def bp{f g:Nat->Nat->Option UO}{r:UO}{c:Bool}(h:E f r)(hc:c=true:=by rfl):E (λN n=>bif c then f N n else g N n) r:=bE hc h
end Go.Proofs.B
namespace Go.Proofs.B
open Go Go.aj
noncomputable def Hk (v:Nat) (l:ak):List (Nat×ak×UO)->Option UO
 | []=>none
 |e::t=>match Nat.beq v e.1&&xM Ju e.2.1 l with|true=>some e.2.2|false=>Hk v l t
noncomputable def FK (M:Nat) (t:List (Nat×ak×UO)):Nat->Nat->ak->Option UO
 |0=>FU CX EE M
 |n+1=>λv l=>match Hk v l t with|some r=>some r|none=>bN CX EE (FK M t n) (M+n) v l
def adv:List (Nat×ak×UO)->Prop
 | []=>True
 |e::t=>Ev e.1 e.2.1 e.2.2/\adv t
def alH:∀{t:List (Nat×ak×UO)},adv t->∃B,∀N,B<=N->∀v l r,Hk v l t=some r->FU CX EE N v l=some r
 | [],_=>⟨0,λ_ _ _ _ _ h=>aD⟩
 |e::t,h=>by
  obtain⟨B,hB⟩:=h.1;obtain⟨C,hC⟩:=alH h.2;refine⟨B+C,λN hN v l r hr=> ?_⟩;simp only [Hk]at hr;split at hr
  ·rename_i hb;rw [bw]at hb;injection hr with hr;rw [dX hb.1,<-Db Zt hb.2,<-hr];exact hB N N (by omega) (by omega)
  ·exact hC N (by omega) v l r hr
def anv{t:List (Nat×ak×UO)}{M:Nat}(h:∀N,M<=N->∀v l r,Hk v l t=some r->FU CX EE N v l=some r):∀n,FK M t n=FU CX EE (M+n)
 |0=>rfl
 |n+1=>by
  funext v l
  show(match Hk v l t with|some r=>some r|none=>bN CX EE (FK M t n) (M+n) v l)=_;rw [anv h n];cases hk:Hk v l t with
  |none=>rfl
  |some r=>exact(h (M+(n+1)) (by omega) v l r hk).symm
def kn(t:List (Nat×ak×UO))(n:Nat){v:Nat}{l:ak}{r:UO}(ht:adv t)(h:∀M,FK M t n v l=some r):Ev v l r:=by
 obtain⟨B,hB⟩:=alH ht;refine⟨B+n,λN _ U _=> ?_⟩;obtain⟨M,rfl⟩:∃M,N=M+n:=⟨N- n,by omega⟩;show FU CX EE (M+n) v l=some r;rw [<-anv (λN hN=>hB N (by omega)) n];exact h M
end Go.Proofs.B
namespace Go.aj
def Tt{p:Prop}(h:p:=by
 cases s with
 |mk k g n e b a=>cases g;cases b;cases a;rfl):p:=h
def aba{p:Prop}(h:p:=by
 cases s with
 |mk d u=>cases d;cases u;rfl):p:=h
def SI{p:Prop}(h:p:=by rw [zL];rfl):p:=h
def aj8{p:Prop}(h:p:=by
 cases s with
 |mk k g n e b a=>cases g;rfl):p:=h
def ajy{p:Prop}(h:p:=by
 cases s with
 |mk e b=>cases b;rfl):p:=h
end Go.aj
namespace Go.aj
def pY:=@List.not_mem_nil
def pX:=@or_false
def Mr:=@List.sizeOf_lt_of_mem
end Go.aj
namespace Go.Proofs.B
open Go Go.aj
inductive CE where
 |mk(kind op N O off len lo hi:Int)(L:List CE)
namespace CE
def kind:CE->Int|mk k _ _ _ _ _ _ _ _=>k
def op:CE->Int|mk _ p _ _ _ _ _ _ _=>p
def N:CE->Int|mk _ _ n _ _ _ _ _ _=>n
def O:CE->Int|mk _ _ _ o _ _ _ _ _=>o
def off:CE->Int|mk _ _ _ _ f _ _ _ _=>f
def len:CE->Int|mk _ _ _ _ _ l _ _ _=>l
def lo:CE->Int|mk _ _ _ _ _ _ a _ _=>a
def hi:CE->Int|mk _ _ _ _ _ _ _ b _=>b
def L:CE->List CE|mk _ _ _ _ _ _ _ _ l=>l
end CE
def CE.eta(e:CE):e= .mk e.kind e.op e.N e.O e.off e.len e.lo e.hi e.L:=by cases e;rfl
def CE.lt{e y:CE}(h:y∈e.L):SizeOf.sizeOf y<SizeOf.sizeOf e:=by
 cases e with
 |mk _ _ _ _ _ _ _ _ l=>
  have:=Mr h;simp only [CE.L]at this;simp only [CE.mk.sizeOf_spec];omega
def CE.ind{P:CE->Prop}(h:∀e:CE,(∀y∈e.L,P y)->P e):∀e,P e:=λe=>
 h e λy hy=>CE.ind h y
termination_by e=>SizeOf.sizeOf e
decreasing_by exact CE.lt hy
mutual
def aZ:CE->ak
 | .mk k p n o f l a b es=>[cE k,cE p,iI n,iI o,iI f,iI l,iI a,iI b,bR (TN es)]
def TN:List CE->aY
 | []=>[]
 |e::es=>aZ e::TN es
end
def Y5:∀es,TN es=es.map aZ
 | []=>rfl
 |e::es=>by simp only [TN,jG,Y5 es]
def zL(e:CE):aZ e=[cE e.kind,cE e.op,iI e.N,iI e.O,iI e.off,iI e.len,iI e.lo,iI e.hi,bR (e.L.map aZ)]:=by
 cases e;simp only [aZ,Y5];rfl
def iK(e:CE):bg lU 0 (aZ e)=aZ e:=by cases e;rfl
def N8(e:CE):gR (aZ e) 8=e.L.map aZ:=SI
structure PL where
 kind:Int
 O:Int
 off:Int
 len:Int
 E:List CE
def cN(p:PL):ak:=[cE p.kind,iI p.O,iI p.off,iI p.len,bR (p.E.map aZ)]
def anU(p:PL):bg Ir 0 (cN p)=cN p:=rfl
structure dU where
 kind:Int
 N:Int
 O:Int
 T:Int
 P:Int
 entry:Int
 In:Bool
 rev:Bool
 lu:Bool
 els:Bool
 jT:Bool
 mode:Int
 E:List CE
 Ins:List CE
 To:List PL
 fE:List PL
 Ts:bQ
mutual
inductive CS where
 |mk(f:dU)(L:List CS)(D:List CD)(H:List CH)(A:List CA)
inductive CD where
 |mk(d u:CS)
inductive CH where
 |mk(dP:bQ)(body:CS)
inductive CA where
 |mk(kind:Int)(guard:CE)(entry:Int)(E:List CE)(body after:CS)
end
variable{s y:CS}
namespace CS
def f:CS->dU|mk f _ _ _ _=>f
def L:CS->List CS|mk _ l _ _ _=>l
def D:CS->List CD|mk _ _ d _ _=>d
def H:CS->List CH|mk _ _ _ h _=>h
def A:CS->List CA|mk _ _ _ _ a=>a
end CS
def CD.d:CD->CS|mk d _=>d
def CD.u:CD->CS|mk _ u=>u
def CH.dP:CH->List Int|mk e _=>e
def CH.body:CH->CS|mk _ b=>b
def CA.kind:CA->Int|mk k _ _ _ _ _=>k
def CA.guard:CA->CE|mk _ g _ _ _ _=>g
def CA.entry:CA->Int|mk _ _ e _ _ _=>e
def CA.E:CA->List CE|mk _ _ _ e _ _=>e
def CA.body:CA->CS|mk _ _ _ _ b _=>b
def CA.after:CA->CS|mk _ _ _ _ _ a=>a
def CS.kids(s:CS):List CS:=s.D.flatMap (λd=>[d.d,d.u])++(s.L++(s.H.map CH.body++s.A.flatMap λa=>[a.body,a.after]))
def CS.lt(h:y∈s.kids):SizeOf.sizeOf y<SizeOf.sizeOf s:=by
 cases s with
 |mk f l d hh a=>
  simp only [CS.mk.sizeOf_spec];simp only [CS.kids,mE,zG,xA,CS.L,CS.D,CS.H,CS.A,fV,pY,pX]at h;rcases h with⟨x,hx,h⟩|h|⟨x,hx,rfl⟩|⟨x,hx,h⟩
  ·have:=Mr hx;cases x with
   |mk p q=>
    simp only [CD.mk.sizeOf_spec]at this;rcases h with rfl|rfl<;>(try simp only [CD.d,CD.u])<;>omega
  ·have:=Mr h;omega
  ·have:=Mr hx;cases x with
   |mk p q=>
    simp only [CH.mk.sizeOf_spec]at this;simp only [CH.body];omega
  ·have:=Mr hx;cases x with
   |mk _ _ _ _ p q=>
    simp only [CA.mk.sizeOf_spec]at this;rcases h with rfl|rfl<;>(try simp only [CA.body,CA.after])<;>omega
def CS.ind{P:CS->Prop}(h:∀s:CS,(∀y∈s.kids,P y)->P s):∀s,P s:=λs=>
 h s λy hy=>CS.ind h y
termination_by s=>SizeOf.sizeOf s
decreasing_by exact CS.lt hy
def wU{d:CD}(h:d∈s.D):d.d∈s.kids/\d.u∈s.kids:=by
 simp only [CS.kids,mE,zG];exact⟨.inl ⟨d,h,by simp⟩,.inl ⟨d,h,by simp⟩⟩
def yR(h:y∈s.L):y∈s.kids:=by
 simp only [CS.kids,mE];exact .inr (.inl h)
def GI{x:CH}(h:x∈s.H):x.body∈s.kids:=by
 simp only [CS.kids,mE,xA];exact .inr (.inr (.inl ⟨x,h,rfl⟩))
def wV{x:CA}(h:x∈s.A):x.body∈s.kids/\x.after∈s.kids:=by
 simp only [CS.kids,mE,zG];exact⟨.inr (.inr (.inr ⟨x,h,by simp⟩)),.inr (.inr (.inr ⟨x,h,by simp⟩))⟩
abbrev eQ(f:dU)(l d h a:aY):ak:=[cE f.kind,iI f.N,iI f.O,iI f.T,iI f.P,iI f.entry,aJ f.In,aJ f.rev,aJ f.lu,aJ f.els,aJ f.jT,cE f.mode,bR (f.E.map aZ),bR (f.Ins.map aZ),dj (f.To.map cN),dj (f.fE.map cN),aM (ints f.Ts),cX l,gN d,gy h,eh a]
mutual
def encS:CS->ak
 | .mk f l d h a=>eQ f (TL l) (TO d) (TM h) (TP a)
def TL:List CS->aY
 | []=>[]
 |s::ss=>encS s::TL ss
def fC:CD->ak
 | .mk d u=>encS d++encS u
def TO:List CD->aY
 | []=>[]
 |s::ss=>fC s::TO ss
def dH:CH->ak
 | .mk e b=> aM (ints e)::encS b
def TM:List CH->aY
 | []=>[]
 |s::ss=>dH s::TM ss
def dY:CA->ak
 | .mk k g n e b a=> cE k::(aZ g++(iI n:: bR (e.map aZ)::(encS b++encS a)))
def TP:List CA->aY
 | []=>[]
 |s::ss=>dY s::TP ss
end
def Rm:∀l,TL l=l.map encS
 | []=>rfl
 |e::es=>by simp only [TL,jG,Rm es]
def Y6:∀l,TO l=l.map fC
 | []=>rfl
 |e::es=>by simp only [TO,jG,Y6 es]
def Y4:∀l,TM l=l.map dH
 | []=>rfl
 |e::es=>by simp only [TM,jG,Y4 es]
def Y7:∀l,TP l=l.map dY
 | []=>rfl
 |e::es=>by simp only [TP,jG,Y7 es]
def xI(s:CS):encS s=eQ s.f (s.L.map encS) (s.D.map fC) (s.H.map dH) (s.A.map dY):=by
 cases s;simp only [encS,Rm,Y6,Y4,Y7];rfl
def gE(s:CS):bg fU 0 (encS s)=encS s:=by cases s;rfl
def anW(s:CD):bg aga 0 (fC s)=fC s:=aba
def T3(s:CH):bg Xw 0 (dH s)=dH s:=ajy
def NO(s:CA):bg CQ 0 (dY s)=dY s:=Tt
def Gx(s:CD):bg fU 0 (fC s)=encS s.d:=aba
def Gw(s:CD):bg fU 21 (fC s)=encS s.u:=aba
def Gv(s:CH):bg fU 1 (dH s)=encS s.body:=ajy
def JT(s:CA):bg lU 1 (dY s)=aZ s.guard:=Tt
def DN(s:CA):bg fU 12 (dY s)=encS s.body:=Tt
def DO(s:CA):bg fU 33 (dY s)=encS s.after:=Tt
def Oa(s:CA):gI (dY s) 0=s.kind:=by
 cases s with
 |mk k g n e b a=>rfl
def N9(s:CA):gI (dY s) 10=s.entry:=aj8
def Ob(s:CA):gR (dY s) 11=s.E.map aZ:=aj8
def Kc(s:CH):gR (dH s) 0=ints s.dP:=by cases s;rfl
structure OB where
 size:Int
 lo:Int
 hi:Int
 ptr:Bool
 set:bQ
def cg(o:OB):ak:=[iI o.size,iI o.lo,iI o.hi,aJ o.ptr,aM (ints o.set)]
structure EN where
 ins:bQ
 outs:bQ
def iH(e:EN):ak:=[aM (ints e.ins),aM (ints e.outs)]
structure TK where
 prio:Int
 aU:List EN
 body:CS
 dead:Int
def dv(t:TK):ak:=iI t.prio:: oh (t.aU.map iH)::(encS t.body++[iI t.dead])
structure PR where
 ceil:Int
 kV:bQ
 bars:List CE
def gk(q:PR):ak:=[iI q.ceil,aM (ints q.kV),bR (q.bars.map aZ)]
structure PG where
 aR:List OB
 dP:Int
 tasks:List TK
 c5:List PR
def km(p:PG):ak:=[bl (p.aR.map cg),iI p.dP,jr (p.tasks.map dv),kq (p.c5.map gk)]
structure SO where
 ptr:Bool
 null:Bool
 set:bQ
 lo:Int
 hi:Int
def cA(s:SO):ak:=[aJ s.ptr,aJ s.null,aM (ints s.set),iI s.lo,iI s.hi]
inductive CE.Ok:CE->Prop
 |mk(e:CE)(hl:e.L.length<=mx)(h:∀y∈e.L,CE.Ok y):CE.Ok e
def Ea(l:List CE):Prop:=l.length<=mx/\∀e∈l,e.Ok
def PL.Ok(p:PL):Prop:=Ea p.E
def On(l:List PL):Prop:=l.length<=mx/\∀e∈l,e.Ok
structure dU.Ok(f:dU):Prop where
 E:Ea f.E
 Ins:Ea f.Ins
 To:On f.To
 fE:On f.fE
 Ts:f.Ts.length<=mx
 mode:0<=f.mode
structure CH.og(x:CH):Prop where
 dP:x.dP.length<=mx
structure CA.og(x:CA):Prop where
 guard:x.guard.Ok
 E:Ea x.E
inductive CS.Ok:CS->Prop
 |mk(s:CS)(hf:s.f.Ok)(hL:s.L.length<=mx)(hD:s.D.length<=mx)(hH:s.H.length<=mx)(hA:s.A.length<=mx)(U:∀x∈s.H,x.og)(h2:∀x∈s.A,x.og)(hk:∀y∈s.kids,CS.Ok y):CS.Ok s
def OB.Ok(o:OB):Prop:=o.set.length<=mx
def EN.Ok(e:EN):Prop:=e.ins.length<=mx/\e.outs.length<=mx
structure TK.Ok(t:TK):Prop where
 len:t.aU.length<=mx
 aU:∀e∈t.aU,e.Ok
 body:t.body.Ok
structure PR.Ok(q:PR):Prop where
 kV:q.kV.length<=mx
 bars:Ea q.bars
structure PG.Ok(p:PG):Prop where
 aR:p.aR.length<=mx
 obj:∀o∈p.aR,o.Ok
 tasks:p.tasks.length<=mx
 task:∀t∈p.tasks,t.Ok
 c5:p.c5.length<=mx
 ov:∀q∈p.c5,q.Ok
end Go.Proofs.B
namespace Go.Proofs.B
open Go Go.aj Qm
set_option maxRecDepth 100000
noncomputable section
inductive Wq
 |wq0(p0:ak)(p1:bL)
 |UP(p0:List eD)(p1:Nat)(p2:ak)(p3:bL)
 |fu(p0:Nat)(p1:ak)(p2:Nat)
 |dr(p0:Bool)(p1:Option UO)(p2:Bool)(p3:Option UO)(p4:Option UO)
 |wq4(p0:Bool)(p1:Option UO)(p2:ak)
 |df(p0:Nat)(p1:Nat)
 |wq6(p0:aY)
 |wq7(p0:Nat)(p1:aY)
 |wq8(p0:Nat)(p1:ak)(p2:bL)
 |wq9(p0:Bool)(p1:ak)(p2:Option UO)
 |cx
 |anQ(p0:Nat)(p1:ak)(p2:Nat)
 |anP(p0:Nat)(p1:ak)(p2:bL)
 |anO(p0:Nat)(p1:ak)(p2:Nat)(p3:bL)
 |gL(p0:ak)(p1:Nat)
 |rk(p0:Int)(p1:Int)(p2:Option UO)(p3:Option UO)
 |bI(p0:aY)
 |TZ(p0:Nat)
 |dp(p0:ak)(p1:Nat)
 |JO(p0:ak)(p1:Nat)
 |acr
 |nV(p0:Bool)(p1:Option UO)
 |anN(p0:ak)(p1:bL)
 |c8(p0:aY)
 |anM(p0:ak)(p1:Nat×AV)(p2:bL)
 |anL(p0:ak)(p1:Nat)(p2:AV)(p3:bL)
 |eM(p0:ak)(p1:Nat)
 |vD(p0:ak)(p1:AV)(p2:bL)
 |cF(p0:ak)(p1:Nat)(p2:Int)
 |bx(p0:ak)(p1:AV)
 |JN(p0:AV)(p1:ak)
 |Ad(p0:ak)(p1:Nat)
 |qe(p0:ak)(p1:Nat)
 |NL
 |acq(p0:AV)(p1:ak)
 |lj(p0:Bool)(p1:ak)(p2:Option UO)
 |kK(p0:ak)(p1:Nat)
 |kW(p0:Bool)(p1:Option UO)
 |anK(p0:ak)(p1:Nat)(p2:bL)
 |acp(p0:ak)(p1:Nat)(p2:Nat×AV)(p3:bL)
 |anJ(p0:ak)(p1:Nat)(p2:bL)
 |dD(p0:AV)
 |sR(p0:ak)(p1:Nat)
 |bK(p0:aY)
 |wO(p0:Bool)(p1:Option UO)(p2:AV)(p3:ak)
 |anI(p0:ak)(p1:Nat)(p2:Nat×AV)(p3:bL)
 |anH(p0:ak)(p1:Nat)(p2:AV)(p3:bL)
 |jM(p0:ak)(p1:Nat)(p2:AV)
 |anG(p0:ak)(p1:bL)
 |TY(p0:AV)(p1:AV)(p2:ak)
 |xQ(p0:AV)(p1:ak)
 |anF(p0:ak)
 |aco(p0:ak)(p1:Nat×AV)(p2:bL)
 |anE(p0:ak)(p1:bL)
 |bZ(p0:ak)
 |anD(p0:ak)(p1:Nat)(p2:ak)
 |dR(p0:aY)
 |kv(p0:Nat)(p1:Option UO)(p2:AV)(p3:ak)
 |bS(p0:ak)
 |cP(p0:ak)
 |dJ(p0:ak)
 |fG(p0:Int)(p1:ak)(p2:Nat)(p3:Option UO)
 |oL(p0:ak)
 |bY(p0:ak)(p1:AV)
 |anC(p0:ak)(p1:Nat)(p2:ak)
 |acn(p0:ak)(p1:Nat×AV)(p2:bL)
 |anB(p0:ak)(p1:AV)(p2:bL)
 |cu(p0:ak)(p1:AV)
 |JM(p0:Bool)(p1:AV)(p2:ak)
 |mL(p0:Int)(p1:ak)(p2:Nat)
 |mK(p0:ak)
 |kJ(p0:ak)
 |dG(p0:ak)
 |mf(p0:Int)
 |tw(p0:AV)(p1:ak)
 |iC(p0:Int)(p1:Int)(p2:Int)(p3:aY)(p4:Option UO)(p5:Option UO)
 |eL(p0:Bool)(p1:Option UO)(p2:AV)(p3:AV)(p4:ak)
 |jL(p0:ak)(p1:Nat)(p2:Nat)(p3:bL)
 |iJ(p0:ak)(p1:Nat)
 |jK
 |jt(p0:aY)
 |JL(p0:List eD)(p1:Nat)(p2:ak)
 |mb(p0:Bool)(p1:AV)(p2:ak)(p3:Option UO)
 |jV(p0:aY)
 |jJ(p0:AV)(p1:AV)(p2:ak)
 |ki(p0:AV)(p1:AV)(p2:ak)
 |iB(p0:AV)(p1:Nat)(p2:ak)
 |sQ(p0:ak)
 |nh(p0:ak)
 |lh(p0:Nat)(p1:Option UO)(p2:ak)(p3:ak)
 |fm(p0:ak)
 |ma(p0:ak)(p1:Nat)(p2:AV)
 |lZ(p0:ak)(p1:Nat)(p2:bL)
 |rj(p0:ak)(p1:ak)
 |nU(p0:ak)
 |gw(p0:AV)(p1:AV)(p2:AV)(p3:ak)
 |vC(p0:Bool)(p1:ak)(p2:Option UO)
 |mJ
 |lg(p0:Nat)(p1:ak)
 |nx(p0:ak)(p1:Nat)
 |oo(p0:ak)
 |amf(p0:List eD)(p1:ak)(p2:bL)
 |kh(p0:Bool)(p1:Option UO)(p2:AV)(p3:ak)
 |oK(p0:aY)
 |mA(p0:aY)
 |Th(p0:Nat)(p1:AV)(p2:ak)(p3:Option UO)
 |fQ(p0:AV)(p1:ak)
 |oZ(p0:ak)
 |Nq(p0:AV)(p1:aY)(p2:ak)
 |p9(p0:List eD)(p1:ak)(p2:Nat×AV)(p3:bL)
 |oY(p0:List eD)(p1:ak)(p2:Nat)(p3:Nat)(p4:bL)
 |nS(p0:ak)(p1:Nat)(p2:Nat)
 |nR(p0:ak)(p1:Nat)(p2:Nat)
 |kI(p0:AV)
 |pH(p0:ak)
 |oJ(p0:ak)(p1:AV)
 |gf(p0:ak)(p1:ak)
 |oI(p0:aY)(p1:Int)
 |pG(p0:ak)
 |nc(p0:Nat)(p1:ak)(p2:ak)(p3:Option UO)
 |nv(p0:aY)
 |jH(p0:AV)(p1:AV)(p2:ak)
 |gK(p0:ak)
 |om(p0:ak)(p1:ak)(p2:Option UO)
 |iu(p0:ak)
 |iA(p0:ak)
 |vu(p0:Bool)(p1:Bool)(p2:Option UO)
 |oj(p0:Int)(p1:ak)(p2:Nat)(p3:Option UO)
 |qW(p0:ak)
 |jf(p0:ak)
 |jd(p0:ak)
 |oH(p0:ak)(p1:AV)(p2:AV)(p3:ak)
 |oG(p0:ak)(p1:AV)(p2:aY)(p3:ak)
 |mH(p0:ak)(p1:Nat)(p2:Nat)(p3:bL)
 |p8(p0:AV)(p1:ak)(p2:ak)
 |p7(p0:ak)(p1:AV)(p2:ak)
 |oE(p0:ak)
 |oD(p0:AV)
 |sM(p0:ak)
 |jU(p0:ak)
 |jb(p0:AV)(p1:AV)
 |tt(p0:Int)
 |qC(p0:aY)
 |qA(p0:aY)
 |gJ(p0:Bool)(p1:AV)(p2:AV)(p3:ak)
open Wq
abbrev be(x:Wq)(A:Type):=CoeDep Wq x A
instance (p0:ak)(p1:bL):be (.wq0 p0 p1) (AV):=⟨J (sT p0 p1)⟩
instance (p0:List eD)(p1:Nat)(p2:ak)(p3:bL):be (.UP p0 p1 p2 p3) (AV):=⟨wq0 (bg p0 p1 p2) p3⟩
instance (p0:Nat)(p1:ak)(p2:Nat):be (.fu p0 p1 p2) (AV):=⟨.ae p0 (gR p1 p2)⟩
instance (p0:Bool)(p1:Option UO)(p2:Bool)(p3:Option UO)(p4:Option UO):be (.dr p0 p1 p2 p3 p4) (Option UO):=⟨bif p0 then p1 else bif p2 then p3 else p4⟩
instance (p0:Bool)(p1:Option UO)(p2:ak):be (.wq4 p0 p1 p2) (Option UO):=⟨bif p0 then p1 else bu p2⟩
instance (p0:Nat)(p1:Nat):be (.df p0 p1) (Nat×AV):=⟨(p0,.au p1)⟩
instance (p0:aY):be (.wq6 p0) aY:=⟨bz (aU p0)⟩
instance (p0:Nat)(p1:aY):be (.wq7 p0 p1) (AV):=⟨.ae p0 (wq6 p1)⟩
instance (p0:Nat)(p1:ak)(p2:bL):be (.wq8 p0 p1 p2) (AV):=⟨UP dM p0 p1 p2⟩
instance (p0:Bool)(p1:ak)(p2:Option UO):be (.wq9 p0 p1 p2) (Option UO):=⟨bif p0 then bu p1 else p2⟩
instance:be (.cx) (AV):=⟨bq⟩
instance (p0:Nat)(p1:ak)(p2:Nat):be (.anQ p0 p1 p2) (AV):=⟨wq7 p0 (gR p1 p2)⟩
instance (p0:Nat)(p1:ak)(p2:bL):be (.anP p0 p1 p2) (AV):=⟨UP lE p0 p1 p2⟩
instance (p0:Nat)(p1:ak)(p2:Nat)(p3:bL):be (.anO p0 p1 p2 p3) (AV):=⟨wq8 p0 (gC p1 p2) p3⟩
instance (p0:ak)(p1:Nat):be (.gL p0 p1) (AV):=⟨fu Yf p0 p1⟩
instance (p0:Int)(p1:Int)(p2:Option UO)(p3:Option UO):be (.rk p0 p1 p2 p3) (Option UO):=⟨bif cj p0 p1 then p2 else p3⟩
instance (p0:aY):be (.bI p0) (AV):=⟨aw p0⟩
instance (p0:Nat):be (.TZ p0) (Nat×AV):=⟨df 6 p0⟩
instance (p0:ak)(p1:Nat):be (.dp p0 p1) (AV):=⟨fu wI p0 p1⟩
instance (p0:ak)(p1:Nat):be (.JO p0 p1) (AV):=⟨aJ (gB p0 p1)⟩
instance:be (.acr) (Nat×AV):=⟨TZ 1⟩
instance (p0:Bool)(p1:Option UO):be (.nV p0 p1) (Option UO):=⟨bif p0 then p1 else gg⟩
instance (p0:ak)(p1:bL):be (.anN p0 p1) (AV):=⟨anP 0 p0 p1⟩
instance (p0:aY):be (.c8 p0) (AV):=⟨aM p0⟩
instance (p0:ak)(p1:Nat×AV)(p2:bL):be (.anM p0 p1 p2) (AV):=⟨anN p0 (p1::p2)⟩
instance (p0:ak)(p1:Nat)(p2:AV)(p3:bL):be (.anL p0 p1 p2 p3) (AV):=⟨anM p0 (p1,p2) p3⟩
instance (p0:ak)(p1:Nat):be (.eM p0 p1) (AV):=⟨iI (gI p0 p1)⟩
instance (p0:ak)(p1:AV)(p2:bL):be (.vD p0 p1 p2) (AV):=⟨anL p0 0 p1 p2⟩
instance (p0:ak)(p1:Nat)(p2:Int):be (.cF p0 p1 p2) ak:=⟨bG (gR p0 p1) p2⟩
instance (p0:ak)(p1:AV):be (.bx p0 p1) (AV):=⟨vD p0 p1 []⟩
instance (p0:AV)(p1:ak):be (.JN p0 p1) (AV):=⟨J (p0::p1)⟩
instance (p0:ak)(p1:Nat):be (.Ad p0 p1) (AV):=⟨fu YM p0 p1⟩
instance (p0:ak)(p1:Nat):be (.qe p0 p1) (Int):=⟨ln (gR p0 p1)⟩
instance:be (.NL) (AV):=⟨iI 0⟩
instance (p0:AV)(p1:ak):be (.acq p0 p1) (Option UO):=⟨bu (p0::p1)⟩
instance (p0:Bool)(p1:ak)(p2:Option UO):be (.lj p0 p1 p2) (Option UO):=⟨bif p0 then lK p1 else p2⟩
instance (p0:ak)(p1:Nat):be (.kK p0 p1) (AV):=⟨anQ 0 p0 p1⟩
instance (p0:Bool)(p1:Option UO):be (.kW p0 p1) (Option UO):=⟨bif p0 then gg else p1⟩
instance (p0:ak)(p1:Nat)(p2:bL):be (.anK p0 p1 p2) (AV):=⟨anO 0 p0 p1 p2⟩
instance (p0:ak)(p1:Nat)(p2:Nat×AV)(p3:bL):be (.acp p0 p1 p2 p3) (AV):=⟨anK p0 p1 (p2::p3)⟩
instance (p0:ak)(p1:Nat)(p2:bL):be (.anJ p0 p1 p2) (AV):=⟨acp p0 p1 acr p2⟩
instance (p0:AV):be (.dD p0) (Nat×AV):=⟨(8,p0)⟩
instance (p0:ak)(p1:Nat):be (.sR p0 p1) (Bool):=⟨!(gB p0 p1)⟩
instance (p0:aY):be (.bK p0) (AV):=⟨wq7 0 p0⟩
instance (p0:Bool)(p1:Option UO)(p2:AV)(p3:ak):be (.wO p0 p1 p2 p3) (Option UO):=⟨wq4 p0 p1 (p2::p3)⟩
instance (p0:ak)(p1:Nat)(p2:Nat×AV)(p3:bL):be (.anI p0 p1 p2 p3) (AV):=⟨anJ p0 p1 (p2::p3)⟩
instance (p0:ak)(p1:Nat)(p2:AV)(p3:bL):be (.anH p0 p1 p2 p3) (AV):=⟨anI p0 p1 (dD p2) p3⟩
instance (p0:ak)(p1:Nat)(p2:AV):be (.jM p0 p1 p2) (AV):=⟨anH p0 p1 p2 []⟩
instance (p0:ak)(p1:bL):be (.anG p0 p1) (AV):=⟨wq8 0 p0 p1⟩
instance (p0:AV)(p1:AV)(p2:ak):be (.TY p0 p1 p2) (Option UO):=⟨acq p0 (p1::p2)⟩
instance (p0:AV)(p1:ak):be (.xQ p0 p1) (Option UO):=⟨lK (p0::p1)⟩
instance (p0:ak):be (.anF p0) (Option UO):=⟨xQ cx p0⟩
instance (p0:ak)(p1:Nat×AV)(p2:bL):be (.aco p0 p1 p2) (AV):=⟨anG p0 (p1::p2)⟩
instance (p0:ak)(p1:bL):be (.anE p0 p1) (AV):=⟨aco p0 acr p1⟩
instance (p0:ak):be (.bZ p0) (AV):=⟨gL p0 2⟩
instance (p0:ak)(p1:Nat)(p2:ak):be (.anD p0 p1 p2) (AV):=⟨JN (Ad p0 p1) p2⟩
instance (p0:aY):be (.dR p0) (AV):=⟨bR p0⟩
instance (p0:Nat)(p1:Option UO)(p2:AV)(p3:ak):be (.kv p0 p1 p2 p3) (Option UO):=⟨wO (pT p0) p1 p2 p3⟩
instance (p0:ak):be (.bS p0) (AV):=⟨kK p0 3⟩
instance (p0:ak):be (.cP p0) ak:=⟨gC p0 0⟩
instance (p0:ak):be (.dJ p0) ak:=⟨gC p0 1⟩
instance (p0:Int)(p1:ak)(p2:Nat)(p3:Option UO):be (.fG p0 p1 p2 p3) (Option UO):=⟨fb p0 (gR p1 p2)<|p3⟩
instance (p0:ak):be (.oL p0) (AV):=⟨JO p0 0⟩
instance (p0:ak)(p1:AV):be (.bY p0 p1) (AV):=⟨jM p0 1 p1⟩
instance (p0:ak)(p1:Nat)(p2:ak):be (.anC p0 p1 p2) (AV):=⟨JN (dp p0 p1) p2⟩
instance (p0:ak)(p1:Nat×AV)(p2:bL):be (.acn p0 p1 p2) (AV):=⟨anE p0 (p1::p2)⟩
instance (p0:ak)(p1:AV)(p2:bL):be (.anB p0 p1 p2) (AV):=⟨acn p0 (dD p1) p2⟩
instance (p0:ak)(p1:AV):be (.cu p0 p1) (AV):=⟨anB p0 p1 []⟩
instance (p0:Bool)(p1:AV)(p2:ak):be (.JM p0 p1 p2) (Option UO):=⟨TY (aJ p0) p1 p2⟩
instance (p0:Int)(p1:ak)(p2:Nat):be (.mL p0 p1 p2) (Bool):=⟨cj p0 (qe p1 p2)⟩
instance (p0:ak):be (.mK p0) ak:=⟨(NL::p0)⟩
instance (p0:ak):be (.kJ p0) ak:=⟨mK (mK p0)⟩
instance (p0:ak):be (.dG p0) (Bool):=⟨sR p0 0⟩
instance (p0:Int):be (.mf p0) (AV):=⟨cE p0⟩
instance (p0:AV)(p1:ak):be (.tw p0 p1) (Option UO):=⟨anF (p0::p1)⟩
instance (p0:Int)(p1:Int)(p2:Int)(p3:aY)(p4:Option UO)(p5:Option UO):be (.iC p0 p1 p2 p3 p4 p5) (Option UO):=⟨rk p0 p1 (fb p2 p3 p4) p5⟩
instance (p0:Bool)(p1:Option UO)(p2:AV)(p3:AV)(p4:ak):be (.eL p0 p1 p2 p3 p4) (Option UO):=⟨wO p0 p1 p2 (p3::p4)⟩
instance (p0:ak)(p1:Nat)(p2:Nat)(p3:bL):be (.jL p0 p1 p2 p3) (AV):=⟨acp p0 p1 (TZ p2) p3⟩
instance (p0:ak)(p1:Nat):be (.iJ p0 p1) (AV):=⟨fu Fm p0 p1⟩
instance:be (.jK) (AV):=⟨c8 gX⟩
instance (p0:aY):be (.jt p0) (AV):=⟨cX p0⟩
instance (p0:List eD)(p1:Nat)(p2:ak):be (.JL p0 p1 p2) (AV):=⟨J (bg p0 p1 p2)⟩
instance (p0:Bool)(p1:AV)(p2:ak)(p3:Option UO):be (.mb p0 p1 p2 p3) (Option UO):=⟨wq9 p0 (p1::p2) p3⟩
instance (p0:aY):be (.jV p0) (AV):=⟨dj p0⟩
instance (p0:AV)(p1:AV)(p2:ak):be (.jJ p0 p1 p2) (Option UO):=⟨tw p0 (p1::p2)⟩
instance (p0:AV)(p1:AV)(p2:ak):be (.ki p0 p1 p2) (AV):=⟨JN p0 (p1::p2)⟩
instance (p0:AV)(p1:Nat)(p2:ak):be (.iB p0 p1 p2) (AV):=⟨ki p0 (.au p1) p2⟩
instance (p0:ak):be (.sQ p0) ak:=⟨kJ (kJ p0)⟩
instance (p0:ak):be (.nh p0) (Int):=⟨gI p0 0⟩
instance (p0:Nat)(p1:Option UO)(p2:ak)(p3:ak):be (.lh p0 p1 p2 p3) (Option UO):=⟨kv p0 p1 (oL p2) p3⟩
instance (p0:ak):be (.fm p0) (Bool):=⟨gB p0 0⟩
instance (p0:ak)(p1:Nat)(p2:AV):be (.ma p0 p1 p2) (AV):=⟨bx (gC p0 p1) p2⟩
instance (p0:ak)(p1:Nat)(p2:bL):be (.lZ p0 p1 p2) (AV):=⟨aco p0 (TZ p1) p2⟩
instance (p0:ak)(p1:ak):be (.rj p0 p1) (AV):=⟨anD p0 0 p1⟩
instance (p0:ak):be (.nU p0) (AV):=⟨bT (dJ p0)⟩
instance (p0:AV)(p1:AV)(p2:AV)(p3:ak):be (.gw p0 p1 p2 p3) (Option UO):=⟨TY p0 p1 (p2::p3)⟩
instance (p0:Bool)(p1:ak)(p2:Option UO):be (.vC p0 p1 p2) (Option UO):=⟨mb p0 cx p1 p2⟩
instance:be (.mJ) (AV):=⟨fF⟩
instance (p0:Nat)(p1:ak):be (.lg p0 p1) (AV):=⟨JL fU p0 p1⟩
instance (p0:ak)(p1:Nat):be (.nx p0 p1) (AV):=⟨iI (qe p0 p1)⟩
instance (p0:ak):be (.oo p0) (AV):=⟨bT (cP p0)⟩
instance (p0:List eD)(p1:ak)(p2:bL):be (.amf p0 p1 p2) (AV):=⟨UP p0 0 p1 p2⟩
instance (p0:Bool)(p1:Option UO)(p2:AV)(p3:ak):be (.kh p0 p1 p2 p3) (Option UO):=⟨eL p0 p1 cx p2 p3⟩
instance (p0:aY):be (.oK p0) (AV):=⟨iI (ln p0)⟩
instance (p0:aY):be (.mA p0) (AV):=⟨aX p0⟩
instance (p0:Nat)(p1:AV)(p2:ak)(p3:Option UO):be (.Th p0 p1 p2 p3) (Option UO):=⟨mb (pT p0) p1 p2 p3⟩
instance (p0:AV)(p1:ak):be (.fQ p0 p1) ak:=⟨mK (p0::p1)⟩
instance (p0:ak):be (.oZ p0) (AV):=⟨aE (dJ p0)⟩
instance (p0:AV)(p1:aY)(p2:ak):be (.Nq p0 p1 p2) (Option UO):=⟨jJ p0 (bI p1) p2⟩
instance (p0:List eD)(p1:ak)(p2:Nat×AV)(p3:bL):be (.p9 p0 p1 p2 p3) (AV):=⟨amf p0 p1 (p2::p3)⟩
instance (p0:List eD)(p1:ak)(p2:Nat)(p3:Nat)(p4:bL):be (.oY p0 p1 p2 p3 p4) (AV):=⟨p9 p0 p1 (df p2 p3) p4⟩
instance (p0:ak)(p1:Nat)(p2:Nat):be (.nS p0 p1 p2) (Int):=⟨gI (gC p0 p1) p2⟩
instance (p0:ak)(p1:Nat)(p2:Nat):be (.nR p0 p1 p2) ak:=⟨gA (gR p0 p1) p2⟩
instance (p0:AV):be (.kI p0) (Option UO):=⟨acq p0 []⟩
instance (p0:ak):be (.pH p0) (AV):=⟨fx (cP p0)⟩
instance (p0:ak)(p1:AV):be (.oJ p0 p1) (AV):=⟨bx (dJ p0) p1⟩
instance (p0:ak)(p1:ak):be (.gf p0 p1) (AV):=⟨anC p0 0 p1⟩
instance (p0:aY)(p1:Int):be (.oI p0 p1) (Int):=⟨nh (bG p0 p1)⟩
instance (p0:ak):be (.pG p0) (AV):=⟨mf (nh p0)⟩
instance (p0:Nat)(p1:ak)(p2:ak)(p3:Option UO):be (.nc p0 p1 p2 p3) (Option UO):=⟨Th p0 (oL p1) p2 p3⟩
instance (p0:aY):be (.nv p0) (AV):=⟨gr p0⟩
instance (p0:AV)(p1:AV)(p2:ak):be (.jH p0 p1 p2) (Option UO):=⟨xQ p0 (p1::p2)⟩
instance (p0:ak):be (.gK p0) (AV):=⟨rj p0 []⟩
instance (p0:ak)(p1:ak)(p2:Option UO):be (.om p0 p1 p2) (Option UO):=⟨vC (dG p0) p1 p2⟩
instance (p0:ak):be (.iu p0) ak:=⟨gC p0 2⟩
instance (p0:ak):be (.iA p0) (AV):=⟨Ad p0 2⟩
instance (p0:Bool)(p1:Bool)(p2:Option UO):be (.vu p0 p1 p2) (Option UO):=⟨nV p0 (nV p1 p2)⟩
instance (p0:Int)(p1:ak)(p2:Nat)(p3:Option UO):be (.oj p0 p1 p2 p3) (Option UO):=⟨bf (mL p0 p1 p2)<|p3⟩
instance (p0:ak):be (.qW p0) (Option UO):=⟨kI (oL p0)⟩
instance (p0:ak):be (.jf p0) (AV):=⟨gL p0 3⟩
instance (p0:ak):be (.jd p0) (AV):=⟨dp p0 1⟩
instance (p0:ak)(p1:AV)(p2:AV)(p3:ak):be (.oH p0 p1 p2 p3) (Option UO):=⟨gw (oL p0) p1 p2 p3⟩
instance (p0:ak)(p1:AV)(p2:aY)(p3:ak):be (.oG p0 p1 p2 p3) (Option UO):=⟨Nq (cu p0 p1) p2 p3⟩
instance (p0:ak)(p1:Nat)(p2:Nat)(p3:bL):be (.mH p0 p1 p2 p3) (AV):=⟨oY Da p0 p1 p2 p3⟩
instance (p0:AV)(p1:ak)(p2:ak):be (.p8 p0 p1 p2) (Option UO):=⟨jJ p0 (bZ p1) p2⟩
instance (p0:ak)(p1:AV)(p2:ak):be (.p7 p0 p1 p2) (Option UO):=⟨jH (oL p0) p1 p2⟩
instance (p0:ak):be (.oE p0) (AV):=⟨eM p0 0⟩
instance (p0:AV):be (.oD p0) (AV):=⟨JN p0 []⟩
instance (p0:ak):be (.sM p0) (AV):=⟨oD (oE p0)⟩
instance (p0:ak):be (.jU p0) (AV):=⟨kK p0 4⟩
instance (p0:AV)(p1:AV):be (.jb p0 p1) (Option UO):=⟨TY p0 p1 []⟩
instance (p0:Int):be (.tt p0) (AV):=⟨iI (bH p0)⟩
instance (p0:aY):be (.qC p0) (AV):=⟨gN p0⟩
instance (p0:aY):be (.qA p0) (AV):=⟨gy p0⟩
instance (p0:Bool)(p1:AV)(p2:AV)(p3:ak):be (.gJ p0 p1 p2 p3) (Option UO):=⟨JM p0 p1 (p2::p3)⟩
variable {G:Nat->ak->Option UO} {N n:Nat} {b0:Bool} {i0 i1 i2 i3 i4 i5:Int} {l0 l1 l2 l3 l4 l5:ak} {r0 r1 r2 r3 r4 r5 r6:aY}
def afw:Qy G N (n+1) [iI i0,J l1,cX r2]=(eL (mL i0 l1 18) (fG i0 l1 18 (fG i0 l1 18 (bf (uJ ((r2.length+2)*272) 140737488355328) (Qy G N n [cD i0,aE l1,jt (r2++([bg fU 0 (cF l1 18 i0),bg fU 21 (cF l1 18 i0)]:aY))])))) (aE l1) (jt r2) []:aL):=ac
def awF:XQ G N [J l0,cX r1]=(bO (Qy G N N (fQ (aE l0) [jt r1])) λ_ o1=>jb (aE (cP o1)) (fu ud o1 1):aL):=ac
def afm:Qs G N (n+1) [iI i0,J l1,cX r2]=(eL (mL i0 l1 19) (fG i0 l1 19 (bf (uJ ((r2.length+1)*272) 140737488355328) (Qs G N n [cD i0,aE l1,jt (r2++([bg fU 1 (cF l1 19 i0)]:aY))]))) (aE l1) (jt r2) []:aL):=ac
def awE:QA G N [J l0,cX r1]=(bO (Qs G N N (fQ (aE l0) [jt r1])) λ_ o3=>jb (aE (cP o3)) (fu ud o3 1):aL):=ac
def afl:Fj G N (n+1) [iI i0,J l1,cX r2]=(eL (mL i0 l1 20) (fG i0 l1 20 (fG i0 l1 20 (bf (uJ ((r2.length+2)*272) 140737488355328) (Fj G N n [cD i0,aE l1,jt (r2++([bg fU 12 (cF l1 20 i0),bg fU 33 (cF l1 20 i0)]:aY))])))) (aE l1) (jt r2) []:aL):=ac
def ayl:bN CX EE G N Yn [J l0]=(bO (XQ G N [aE l0,jt gX]) λ_ o2=>bf (uJ (((gR o2 1).length +(gR (cP o2) 17).length)*272) 140737488355328)<|bO (QA G N [aE (cP o2),jt ((gR o2 1)++(gR (cP o2) 17))]) λ_ o4=>bO (Fj G N N (fQ (aE (cP o4)) [fu ud o4 1])) λ_ o5=>kI (fu ud o5 1):aL):=ac
def afv:LU G N (n+1) [iI i0,iI i1,cX r2]=(eL (cj i1 (ln r2)) (fb i1 r2 (bf (iv i1.toNat r2.length) (bO (G Mg [aE (bG r2 i1)]) λ_ o2=>LU G N n [tt (i0+(gI o2 0)),cD i1,jt r2]))) (iI i0) (jt r2) []:aL):=ac
def ayQ:bN CX EE G N Mg [J l0]=(bO (G Yn [aE l0]) λ_ o1=>bO (LU G N N (iI 1::fQ (fu ud o1 0) [])) λ_ o3=>kI (oE o3):aL):=ac
def QG:QW G N [J l0]=(dr (mL 200 l0 0) (jH mJ (bT l0) []) (mL 40 l0 2) (jH mJ (bT l0) []) (wO (mL 40 l0 3) (jH mJ (bT l0) []) (bT l0) []):aL):=ac
def Qr:zy G N (n+1) [iI i0,iI i1,J l2]=(rk i1 (qe l2 2) (fG i1 l2 2 (bO (G Mg [lg 2 (cF l2 2 i1)]) λ_ o2=>mb (cj 9000 (bH (i0+(gI o2 0)))) mJ [bT l2] (fG i1 l2 2 (mb (mL 20 (cF l2 2 i1) 1) mJ [bT l2] (zy G N n [tt (i0+(gI o2 0)),cD i1,bT l2]))))) (xQ (bT l2) []):aL):=ac
def Yq:bN CX EE G N Rb [J l0]=(bO (QW G N [bT l0]) λq1 o1=>lh q1 (bO (zy G N N (kJ [oo o1])) λq3 o3=>nc q3 o3 [] gg) o1 []:aL):=ac
def aym:bN CX EE G N Q2 [iI i0]=(kI (ki (mf 1) (mf 0) (iI i0::sQ (fQ (dR []) []))):aL):=ac
def azS:bN CX EE G N RX [J l0,J l1]=(jb (ki (mf 5) (mf 1) (sQ (kJ [.au 0]))) (dR ([bg lU 0 l0,bg lU 0 l1]:aY)):aL):=ac
def af5:bN CX EE G N LZ [aJ b0]=(bO (G Q2 [iI 1]) λ_ o1=>bO (G RX [J zz0,cp (cP o1)]) λ_ o2=>eL b0 (gw (ki (.au 0) (iI 4) [.au 1,kq []]) (bl ([zz2]:aY)) (jr ([(iI 1::(oh [])::mf 2::sQ (fQ cx (cx::cx::cx::cx::mf 0::(dR ([(mf 9::mf 0::sQ (fQ (iI 9) [dR ([sT (bg lU 0 (cP o2)) [dD (iJ o2 1)]]:aY)]))]:aY))::(dR [])::(jV ([zz1]:aY))::(jV [])::jK::(jt [])::(qC [])::(qA [])::(eh [])::mK [])))]:aY)) []) (ki (.au 0) (iI 4) [.au 1,kq []]) (bl ([zz2]:aY)) [jr ([(iI 1::(oh [])::mf 2::sQ (fQ cx (cx::cx::cx::cx::mf 0::(dR ([sT (bg lU 0 (cP o2)) [dD (iJ o2 1)]]:aY))::(dR [])::(jV ([zz1]:aY))::(jV [])::jK::(jt [])::(qC [])::(qA [])::(eh [])::mK [])))]:aY)]:aL):=ac
def afq:LQ G N (n+1) [aM r0,iI i1,iI i2,aM r3,iI i4,iI i5]=(iC i5 i4 i5 r3 (dr (cj (oI r3 i5) i1) gg (cj i2 (oI r3 i5)) gg (iC 0 i5 (bH (i5- 1)) r0 (kW (da (oI r3 i5) (oI r0 (bH (i5- 1)))) (LQ G N n [c8 r0,iI i1,iI i2,c8 r3,iI i4,cD i5])) (LQ G N n [c8 r0,iI i1,iI i2,c8 r3,iI i4,cD i5]))) (lK []):aL):=ac
def axP:bN CX EE G N Is [aM r0,iI i1,iI i2]=(bO (LQ G N N (c8 r0::iI i1::iI i2::c8 r0::oK r0::mK [])) λq1 o1=>nc q1 o1 [] fa:aL):=ac
def av7:bN CX EE G N Xy [iI i0,J l1]=(fG i0 l1 0 (mb (gB (cF l1 0 i0) 3) mJ [gK l1] (fG i0 l1 0 (JM ((gI (cF l1 0 i0) 0) != 1) (gK l1) []))):aL):=ac
def adI:Li G N (n+1) [aM r0,iI i1,iI i2,J l3]=(iC i2 i1 i2 r0 (bO (G Xy [oE (bG r0 i2),gK l3]) λ_ o1=>mb (fm o1) (iI i2) [gK (dJ o1)] (Li G N n [c8 r0,iI i1,cD i2,gK (dJ o1)])) (xQ (gK l3) []):aL):=ac
def ad5:bN CX EE G N VX [aM r0,J l1]=(bO (Li G N N (c8 r0::oK r0::fQ (gK l1) [])) λq2 o2=>kv q2 (jb (oE o2) (gK (dJ o2))) (iI (-1)) [gK (cP o2)]:aL):=ac
def aqM:bN CX EE G N VU [aM r0,J l1]=(bO (G VX [c8 r0,gK l1]) λ_ o1=>JM (da 0 (nh o1)) (gK (dJ o1)) []:aL):=ac
def avX:XE G N [J l0]=(dr (cj (qe l0 0) 1) (tw (gK l0) []) (mL 2048 l0 0) (tw (gK l0) []) (kI (gK l0)):aL):=ac
def atG:W1 G N [J l0]=(dr (cj (nh l0) 1) (tw (qv l0) []) (cj 16384 (nh l0)) (tw (qv l0) []) (kI (qv l0)):aL):=ac
def atb:WO G N [J l0,J l1]=(dr ((gI l1 0) != 1) (jJ (gK l0) (qv l1) []) ((gI l1 1) != 0) (jJ (gK l0) (qv l1) []) (lj ((gI l1 2) != 0) [cx,gK l0,qv l1] (bO (G Is (dp l1 4::fQ (tt ((ln (gR l0 0))- 1)) [])) λ_ o3=>eL (dG o3) (jJ (gK l0) (qv l1) []) (gK l0) (qv l1) [])):aL):=ac
def ae1:Fg G N (n+1) [iI i0,bl r1,iI i2,iI i3,J l4]=(iC i3 i2 i3 r1 (bO (W1 G N [qv (bG r1 i3)]) λq2 o2=>lh q2 (bif sR (cP o2) 3 then dr (mL 0 (cP o2) 4) (jb cx (gK l4)) (cj (gI (cP o2) 1) (-2147483648)) (jb cx (gK l4)) (dr (cj 2147483647 (gI (cP o2) 2)) (jb cx (gK l4)) (cj (gI (cP o2) 2) (gI (cP o2) 1)) (jb cx (gK l4)) (Fg G N n [tt (i0+(gI (cP o2) 0)),bl r1,iI i2,cD i3,gK l4]))else bO (WO G N [gK l4,qv (cP o2)]) λq4 o4=>lh q4 (bO (G VU [dp (dJ o4) 4,gK (cP o4)]) λ_ o5=>vC (fm o5) [gK (dJ o5)] (Fg G N n [tt (i0+(gI (cP o2) 0)),bl r1,iI i2,cD i3,gK (dJ o5)])) o4 [gK (dJ o4)]) o2 [gK l4]) (jH (iI i0) (gK l4) []):aL):=ac
def XM:bN CX EE G N XX [bl r0]=(bO (XE G N [oD (bl r0)]) λq1 o1=>lh q1 (bO (Fg G N N (fQ (Ad (cP o1) 0) ((nx (cP o1) 0)::fQ (gK (cP o1)) []))) λq6 o6=>kv q6 (qW o6) (aJ (da (nh o6) 16384)) []) o1 []:aL):=ac
def avn:bN CX EE G N Xk [.int .u64 i0,.int .u64 i1]=(bu [.int .u64 (IntKind.wrap .u64 ((IntKind.wrap .u64 ((IntKind.wrap .u64 (Int.fdiv i0 (2^32)*Int.fdiv i1 (2^32)))+(Int.fdiv (IntKind.wrap .u64 ((IntKind.wrap .u64 (Int.fdiv i0 (2^32)*(IntKind.wrap .u64 ((BitVec.ofInt 64 i1&&&BitVec.ofInt 64 4294967295).toNat :Int))))+(Int.fdiv (IntKind.wrap .u64 ((IntKind.wrap .u64 ((BitVec.ofInt 64 i0&&&BitVec.ofInt 64 4294967295).toNat :Int))*(IntKind.wrap .u64 ((BitVec.ofInt 64 i1&&&BitVec.ofInt 64 4294967295).toNat :Int)))) (2^32)))) (2^32))))+(Int.fdiv (IntKind.wrap .u64 ((IntKind.wrap .u64 ((BitVec.ofInt 64 ((IntKind.wrap .u64 ((IntKind.wrap .u64 (Int.fdiv i0 (2^32)*(IntKind.wrap .u64 ((BitVec.ofInt 64 i1&&&BitVec.ofInt 64 4294967295).toNat :Int))))+(Int.fdiv (IntKind.wrap .u64 ((IntKind.wrap .u64 ((BitVec.ofInt 64 i0&&&BitVec.ofInt 64 4294967295).toNat :Int))*(IntKind.wrap .u64 ((BitVec.ofInt 64 i1&&&BitVec.ofInt 64 4294967295).toNat :Int)))) (2^32)))))&&&BitVec.ofInt 64 4294967295).toNat :Int))+(IntKind.wrap .u64 ((IntKind.wrap .u64 ((BitVec.ofInt 64 i0&&&BitVec.ofInt 64 4294967295).toNat :Int))*Int.fdiv i1 (2^32))))) (2^32)))),.int .u64 (IntKind.wrap .u64 (i0*i1))]:aL):=ac
def awK:bN CX EE G N XJ [.int .u64 i0,.int .u64 i1]=(bO (G Xk [.int .u64 i0,.int .u64 i1]) λ_ o1=>jb (.int .u64 (nh o1)) (.int .u64 (gI o1 1)):aL):=ac
def asu:Wp G N [iI i0]=(wq4 (cj i0 0) none []:aL):=ac
def ar7:Wi G N [.int .u64 i0,.int .u64 i1]=(dr (cj 0 i0) none (cj 9223372036854775807 i1) none (bu []):aL):=ac
def arT:Ln G N (n+1) [iI i0,aw r1]=(bif cj i0 (ln r1)then bf (da 0 i0&&da i0 (ln r1)&&da (ln r1) (ln r1))<|bf (da 0 i0&&da i0 (ln r1))<|Ln G N n [iI (bH (i0+(((min ((r1.drop 0).take i0.toNat).length (r1.length- i0.toNat):Nat):Int)))),aw (xu r1 i0.toNat (r1.length- i0.toNat) ((r1.drop 0).take i0.toNat))]else bu [aw r1]:aL):=ac
def atI:bN CX EE G N WQ [aw r0,iI i1]=(bO (Wp G N [iI i1]) λ_ o1=>bO (G XJ [.int .u64 (IntKind.wrap .u64 (ln r0)),.int .u64 (IntKind.wrap .u64 i1)]) λ_ o2=>bO (Wi G N [.int .u64 (nh o2),.int .u64 (gI o2 1)]) λ_ o3=>bf (((da 0 (bH (gI o2 1)))&&(da (bH (gI o2 1)) (bH (gI o2 1))))&&(da ((bH (gI o2 1))*24) 140737488355328))<|bO (Ln G N N [iI ((min r0.length (List.replicate (bH (gI o2 1)).toNat (kJ (mK []):Row)).length :Nat):Int),bI (xu (List.replicate (bH (gI o2 1)).toNat (kJ (mK []):Row)) 0 (List.replicate (bH (gI o2 1)).toNat (kJ (mK []):Row)).length r0)]) λ_ o4=>kI (gL o4 0):aL):=ac
def afn:Fk G N (n+1) [iI i0,iI i1,aM r2,iI i3,iI i4,.ae 0 r5]=(bif cj i4 i3 then fb i4 r2<|bif cj (gI (bG r2 i4) 0) i0 then bu [bq,.ae 0 (bz (aU r5))]else bif cj i1 (gI (bG r2 i4) 0)then bu [bq,.ae 0 (bz (aU r5))]else match aj.dF (aU r5) (iI (gI (bG r2 i4) 0))with|some m1=>(bif m1.toB then bu [bq,.ae 0 (bz (aU r5))]else Fk G N n [iI i0,iI i1,aM r2,iI i3,cD i4,.ae 0 (bz (aj.kX (aU r5) (iI (gI (bG r2 i4) 0)) (fF)))])|none=>(Fk G N n [iI i0,iI i1,aM r2,iI i3,cD i4,.ae 0 (bz (aj.kX (aU r5) (iI (gI (bG r2 i4) 0)) (fF)))])else lK [.ae 0 (bz (aU r5))]:aL):=ac
def axO:bN CX EE G N L0 [aM r0,iI i1,iI i2]=(bO (Fk G N N [iI i1,iI i2,aM r0,iI (ln r0),iI 0,.ae 0 (bz (([]:List (AV×AV))))]) λq2 o2=>bif pT q2 then bu [aJ (gB o2 0)]else fa:aL):=ac
def ae0:Ic G N (n+1) [iI i0,aM r1,iI i2,iI i3,aw r4]=(iC i3 i2 i3 r1 (fb (oI r1 i3) r4 (bf (iv (gI (bG r1 i3) 0).toNat r4.length) (vC (da 0 (oI r4 (oI r1 i3))) [bI r4,bI gX] (fb (oI r1 i3) r4 (bf (iv (gI (bG r1 i3) 0).toNat r4.length) (Ic G N n [iI i0,c8 r1,iI i2,cD i3,bI (r4.set (gI (bG r1 i3) 0).toNat (setAt (bG r4 (oI r1 i3)) 0 [iI i0]))])))))) (xQ (bI r4) []):aL):=ac
def afx:Ik G N (n+1) [kq r0,iI i1,iI i2,J l3,aw r4]=(iC i2 i1 i2 r0 (bO (G Is ((jd (bG r0 i2))::fQ (tt ((ln (gR l3 0))- 1)) [])) λ_ o2=>om o2 [bT l3,bI r4,bI gX] (bO (Ic G N N (iI i2::(jd (bG r0 i2))::(nx (bG r0 i2) 1)::fQ (bI r4) [])) λq3 o3=>nc q3 o3 [bT l3,gL o3 1,bZ o3] (Ik G N n [kq r0,iI i1,cD i2,bT l3,gL o3 0]))) (jH (bT l3) (bI r4) []):aL):=ac
def afD:QC G N [J l0,aw r1]=(bO (Ik G N N (fu Fq l0 3::nx l0 3::fQ (bT l0) [bI r1])) λq4 o4=>kv q4 (p7 o4 (nU o4) [bZ o4,jf o4]) (oo o4) [gL o4 1]:aL):=ac
def ase:Wm G N [aM r0,J l1]=(rk 8 (ln r0) (Nq (bT l1) gX []) (bO (G L0 (c8 r0::fQ (tt ((ln (gR l1 0))- 1)) [])) λ_ o6=>wO (dG o6) (Nq (bT l1) gX []) (bT l1) []):aL):=ac
def arA:V9 G N [iI i0,J l1,aw r2,J l3]=(fG i0 l1 0 (lj ((gI (cF l1 0 i0) 0) != 1) [cx,bT l1,bI r2,LM l3,bI gX] (fb i0 r2 (bf (iv i0.toNat r2.length) (eL (!(((gI (bG r2 i0) 0)==(gI l3 0))&&(((gI (bG r2 i0) 1)==(gI l3 1))&&(((gI (bG r2 i0) 2)==(gI l3 2))&&true)))) (fb i0 r2 (bf (iv i0.toNat r2.length) (eL (!(((gI (bG r2 i0) 0)==(-1))&&(((gI (bG r2 i0) 1)==(-1))&&(((gI (bG r2 i0) 2)==(-1))&&true)))) (Nq (bT l1) r2 [LM l3,bI gX]) (bT l1) (bI r2) [LM l3]))) (bT l1) (bI r2) [LM l3])))):aL):=ac
def aex:H0 G N (n+1) [iI i0,iI i1,aM r2,iI i3,iI i4,J l5,aw r6]=(bif cj i4 i3 then fb i4 r2<|bO (V9 G N [iI (gI (bG r2 i4) 0),bT l5,aw r6,J [iI (-1),iI i0,iI i1]]) λq8 o8=>bif pT q8 then fb (gI (bG r2 i4) 0) (gR o8 1)<|bf (iv ((gI (bG r2 i4) 0).toNat) ((gR o8 1).length))<|H0 G N n [iI i0,iI i1,aM r2,iI i3,cD i4,bT (gC o8 0),aw ((gR o8 1).set ((gI (bG r2 i4) 0).toNat) (setAt (bG (gR o8 1) (gI (bG r2 i4) 0)) 0 (bg afU 0 (gC o8 2))))]else bu [aJ (gB o8 0),bT (gC o8 1),aw (gR o8 2),aw (gR o8 4)]else lK [bT l5,aw r6]:aL):=ac
def Wv:Fc G N (n+1) [iI i0,iI i1,iI i2,iI i3,J l4,aw r5,Fv r6]=(iC i3 i2 i3 r6 (bf (iv i3.toNat r6.length) (bO (Wm G N [dp (bG r6 i3) 0,bT l4]) λq7 o7=>lh q7 (bO (H0 G N N (iI i0::iI i1::(dp (bG r6 i3) 0)::(nx (bG r6 i3) 0)::fQ (oo o7) [bI r5])) λq9 o9=>nc q9 o9 [nU o9,bZ o9,Fv r6,jf o9] (Fc G N n [iI i0,iI i1,iI i2,cD i3,oo o9,gL o9 1,Fv r6])) o7 [nU o7,bI r5,Fv r6,bZ o7])) (jH (bT l4) (bI r5) [Fv r6]):aL):=ac
def aeZ:Ib G N (n+1) [iI i0,oh r1,iI i2,iI i3,J l4,aw r5]=(iC i3 i2 i3 r1 (bO (Fc G N N (iI i0::iI i3::iI 2::fQ (bT l4) [bI r5,Fv ([[dp (bG r1 i3) 0],[jd (bG r1 i3)]]:aY)])) λrD cV=>nc rD cV [nU cV,bZ cV,gL cV 4] (Ib G N n [iI i0,oh r1,iI i2,cD i3,oo cV,gL cV 1])) (jH (bT l4) (bI r5) []):aL):=ac
def afp:Ii G N (n+1) [jr r0,iI i1,iI i2,J l3,aw r4]=(iC i2 i1 i2 r0 (bO (Ib G N N (iI i2::(fu L6 (bG r0 i2) 1)::(nx (bG r0 i2) 1)::fQ (bT l3) [bI r4])) λxb dt=>nc xb dt [nU dt,bZ dt,jf dt] (Ii G N n [jr r0,iI i1,cD i2,oo dt,gL dt 1])) (jH (bT l3) (bI r4) []):aL):=ac
def afC:QB G N [J l0,aw r1]=(bO (Ii G N N (fu Ix l0 2::nx l0 2::fQ (bT l0) [bI r1])) λy4 dh=>kv y4 (p7 dh (nU dh) [bZ dh,jf dh]) (oo dh) [gL dh 1]:aL):=ac
def aeY:LI G N (n+1) [aM r0,iI i1,iI i2,aw r3]=(iC i2 i1 i2 r0 (fb (oI r0 i2) r3 (bf (iv (gI (bG r0 i2) 0).toNat r3.length) (vC (!(((gI (bG r3 (oI r0 i2)) 0)==(-1))&&(((gI (bG r3 (oI r0 i2)) 1)==(-1))&&(((gI (bG r3 (oI r0 i2)) 2)==(-1))&&true)))) [bI r3,bI gX] (LI G N n [c8 r0,iI i1,cD i2,bI r3])))) (xQ (bI r3) []):aL):=ac
def afo:LP G N (n+1) [bl r0,iI i1,iI i2,aw r3]=(iC i2 i1 i2 r0 (bO (LI G N N ((dp (bG r0 i2) 4)::(nx (bG r0 i2) 4)::fQ (bI r3) [])) λy0 cY=>nc y0 cY [gL cY 1,bZ cY] (LP G N n [bl r0,iI i1,cD i2,gL cY 0])) (xQ (bI r3) []):aL):=ac
def ayo:bN CX EE G N Q4 [J l0]=(bO (G WQ [bI ([[iI (-1),iI (-1),iI (-1)]]:aY),nx l0 0]) λ_ o1=>bO (QC G N [bT l0,gL o1 0]) λq5 o5=>lh q5 (bO (QB G N [oo o5,gL o5 1]) λG7 ju=>lh G7 (bO (LP G N N ((Ad (cP ju) 0)::(nx (cP ju) 0)::fQ (gL ju 1) [])) λG6 eW=>kv G6 (jb (oL eW) (bZ eW)) mJ [gL eW 0]) ju [jf ju]) o5 [jf o5]:aL):=ac
def Xl:LO G N (n+1) [iI i0,bR r1,iI i2,iI i3,J l4]=(iC i3 i2 i3 r1 (bO (G L9 [cp (bG r1 i3),cD i0,sM l4]) λ_ o1=>om o1 [sM (dJ o1)] (LO G N n [iI i0,dR r1,iI i2,cD i3,sM (dJ o1)])) (xQ (sM l4) []):aL):=ac
end
open Go Go.aj Qm Wq
noncomputable section
variable {G:Nat->ak->Option UO} {N n:Nat} {i0 i1 i2 i3:Int} {l0 l1 l2 l3 l4:ak} {r0 r1 r2 r3 r4 r5 r6:aY} {Cd Hf:Nat}
def X9:bN CX EE G N L9 [J l0,iI i1,J l2]=(dr (cj (bH ((gI l2 0)- 1)) 0) (jb cx (oD (tt ((gI l2 0)- 1)))) (da 64 i1) (jb cx (oD (tt ((gI l2 0)- 1)))) (bO (LO G N N (iI i1::iJ l0 8::nx l0 8::fQ (oD (tt ((gI l2 0)- 1))) [])) λq2 o2=>kv q2 (jb (oL o2) (sM (dJ o2))) mJ [sM (cP o2)]):aL):=ac
def axi:bN CX EE G N afY [J l0,J l1,bR r2]=(gw (cp l0) (p9 Ba l1 (2,eM l0 2) [df 8 2]) (dR r2) []:aL):=ac
def XN:bN CX EE G N QF [J l0,J l1,bR r2]=(gw (cp l0) (p9 Ba l1 (3,eM l0 3) [df 8 2]) (dR r2) []:aL):=ac
def afQ:bN CX EE G N XZ [J l0,J l1,bR r2]=(gw (cp l0) (p9 Ba l1 (4,eM l0 4) [df 8 2]) (dR r2) []:aL):=ac
def axh:bN CX EE G N afX [J l0,J l1,bR r2]=(gw (cp l0) (p9 Ba l1 (5,eM l0 5) [df 8 2]) (dR r2) []:aL):=ac
def afP:bN CX EE G N XY [J l0,J l1,bR r2]=(gw (cp l0) (p9 Ba l1 (1,mf (gI l0 1)) [df 8 2]) (dR r2) []:aL):=ac
def axg:bN CX EE G N afW [J l0,J l1,bR r2]=(gw (cp l0) (p9 Ba l1 (6,eM l0 6) [(7,eM l0 7),df 8 2]) (dR r2) []:aL):=ac
def avk:Xt G N [cE i0]=(dr (i0==1) fa (i0==11) fa (kI (aJ (i0==14))):aL):=ac
def atH:W2 G N [cE i0]=(dr (i0==6) fa (i0==7) fa (kI (aJ (i0==10))):aL):=ac
def ayp:bN CX EE G N Yo [J l0]=(bO (Xt G N [pG l0]) λ_ o1=>dr (fm o1) (bO (G afY [cp l0,ki (pG l0) (mf 0) (sQ (kJ [.au 2])),dR gX]) λ_ o2=>jb (p9 lU (dJ o2) (dD (iJ o2 2)) []) NL) ((gI l0 0)==2) (bO (G QF [cp l0,ki (pG l0) (mf 0) (sQ (kJ [.au 2])),dR gX]) λ_ o3=>bO (G XZ [cp (cP o3),oY Ba (dJ o3) 8 2 [],iJ o3 2]) λ_ o4=>jb (p9 lU (dJ o4) (dD (iJ o4 2)) []) NL) (bif (gI l0 0)==3 then bO (G QF [cp l0,ki (pG l0) (mf 0) (sQ (kJ [.au 2])),dR gX]) λ_ o5=>bO (G XZ [cp (cP o5),oY Ba (dJ o5) 8 2 [],iJ o5 2]) λ_ o6=>bO (G afX [cp (cP o6),oY Ba (dJ o6) 8 2 [],iJ o6 2]) λ_ o7=>jb (p9 lU (dJ o7) (dD (iJ o7 2)) []) (iI 1)else dr ((gI l0 0)==4) (bO (G XY [cp l0,ki (pG l0) (mf 0) (sQ (kJ [.au 2])),dR gX]) λ_ o8=>jb (p9 lU (dJ o8) (dD (iJ o8 2)) []) (iI 1)) ((gI l0 0)==5) (bO (G XY [cp l0,ki (pG l0) (mf 0) (sQ (kJ [.au 2])),dR gX]) λ_ o9=>jb (p9 lU (dJ o9) (dD (iJ o9 2)) []) (iI 2)) (bO (W2 G N [pG l0]) λ_ cV=>dr (fm cV) (jb (ki (pG l0) (mf 0) (kJ (sQ [dR []]))) (iI 2)) ((gI l0 0)==8) (jb (ki (pG l0) (mf 0) (sQ (kJ [dR []]))) (iI 3)) (bif (gI l0 0)==9 then bO (G afW [cp l0,ki (pG l0) (mf 0) (sQ (kJ [.au 2])),dR gX]) λ_ dt=>jb (p9 lU (dJ dt) (dD (iJ dt 2)) []) (iI 1)else dr ((gI l0 0)==12) (bO (G QF [cp l0,ki (pG l0) (mf 0) (sQ (kJ [.au 2])),dR gX]) λ_ dh=>jb (p9 lU (dJ dh) (dD (iJ dh 2)) []) NL) ((gI l0 0)==13) (jb (ki (pG l0) (mf 0) (sQ (kJ [dR []]))) (iI 1)) (jb (ki (pG l0) (mf 0) (kJ (sQ [dR []]))) (iI (-1)))))):aL):=ac
def auh:bN CX EE G N Lz [gr r0]=(bif r0.isEmpty then none else bf (uJ ((0+r0.length)*48) 140737488355328)<|kI (nv (([]:aY)++r0)):aL):=ac
def asB:bN CX EE G N Fb []=(kI (nv gX):aL):=ac
def asA:bN CX EE G N Fa []=(kI (nv gX):aL):=ac
def auO:bN CX EE G N Ff [J l0,iI i1,iI i2]=(nV (da 0 i1) (rk i1 (qe l0 0) (nV (da 0 i2) (fG i1 l0 0 (kI (aJ (cj i2 (nh (cF l0 0 i1))))))) gg):aL):=ac
def av5:bN CX EE G N Qp [J l0,iI i1,iI i2,iI i3]=(nV (da 0 i1) (rk i1 (qe l0 0) (fG i1 l0 0 (vu (sR (cF l0 0 i1) 3) (da 0 i2) (nV (da 1 i3) (fG i1 l0 0 (nV (da i2 (nh (cF l0 0 i1))) (fG i1 l0 0 (kI (aJ (da i3 (bH ((gI (cF l0 0 i1) 0)- i2))))))))))) gg):aL):=ac
def azq:bN CX EE G N A4 []=(kI (J zz4):aL):=ac
def avq:bN CX EE G N u6 [J l0]=(nV (dG l0) (mb (da 0 (gI l0 3)) (aJ (da (gI l0 4) 1)) [] gg):aL):=ac
def ayV:bN CX EE G N Rc []=(kI (J zz5):aL):=ac
def awI:XT G N [J l0,J l1]=(kh (dG l0) (gJ (dG l1) (fx l0) (fx l1) []) (fx l0) [fx l1]:aL):=ac
def avZ:XH G N [cE i0]=(mb (da 1 i0) (aJ (da i0 6)) [] gg:aL):=ac
def avl:Xu G N [cE i0]=(wO (i0==7) fa (aJ (i0==8)) []:aL):=ac
def axT:bN CX EE G N X7 [cE i0,J l1,J l2]=(bO (XT G N [fx l1,fx l2]) λ_ o1=>bO (XH G N [mf i0]) λ_ o2=>bif fm o2 then bO (G Rc []) λ_ o3=>jb (pH o3) (oL o1)else bO (Xu G N [mf i0]) λ_ o4=>bif fm o4 then bO (G A4 []) λ_ o5=>dr (fm o1) (jb (pH o5) mJ) (fm (dJ o1)) (eL (fm (iu o1)) (jb (pH o5) mJ) (pH o5) (JO (iu o1) 1) []) (eL (gB (dJ o1) 1) (eL (fm (iu o1)) (jb (pH o5) mJ) (pH o5) (JO (iu o1) 1) []) (pH o5) cx [])else dr (da 9 i0) (dr (da i0 12) (bO (G A4 []) λ_ o6=>jb (pH o6) (oL o1)) (da 13 i0) (eL (da i0 15) (bO (G A4 []) λ_ o7=>bO (G u6 [fx (dJ o1)]) λ_ o8=>eL (fm o8) (bO (G u6 [fx (iu o1)]) λ_ o9=>jb (pH o7) (oL o9)) (pH o7) cx []) (J Au) cx []) (jb (J Au) cx)) (da 13 i0) (eL (da i0 15) (bO (G A4 []) λ_ cV=>bO (G u6 [fx (dJ o1)]) λ_ dt=>eL (fm dt) (bO (G u6 [fx (iu o1)]) λ_ dh=>jb (pH cV) (oL dh)) (pH cV) cx []) (J Au) cx []) (jb (J Au) cx):aL):=ac
def aem:HT G N (n+1) [iI i0,.vw 0 Cd Hf,iI i2,aM r3]=(eL (cj i2 (Hf:Int)) (bf ((da 0 i2)&&(cj i2 (Hf:Int))) (bf (iv (Cd+i2.toNat) r3.length) (bf ((da 0 (bH (i2- 1)))&&(cj (bH (i2- 1)) (Hf:Int))) (bf (iv (Cd+(bH (i2- 1)).toNat) r3.length) (bif (gI (gA r3 (Cd+i2.toNat)) 0) != (gI (gA r3 (Cd+(bH (i2- 1)).toNat)) 0)then bf ((da 0 i2)&&(cj i2 (Hf:Int)))<|bf (iv (Cd+i2.toNat) r3.length)<|fb i0 r3<|bf (iv i0.toNat r3.length)<|HT G N n [cD i0,.vw 0 Cd Hf,cD i2,c8 (r3.set i0.toNat (setAt (bG r3 i0) 0 [oE (gA r3 (Cd+i2.toNat))]))]else HT G N n [iI i0,.vw 0 Cd Hf,cD i2,c8 r3]))))) (iI i0) (c8 r3) []:aL):=ac
def aeo:Lm G N (n+1) [iI i0,aM r1]=(bif cj i0 (ln r1)then fb i0 r1<|bf (iv (i0.toNat) (r1.length))<|fb (bH (i0- 1)) r1<|bf (iv ((bH (i0- 1)).toNat) (r1.length))<|bif gI (bG r1 i0) 0==gI (bG r1 (bH (i0- 1))) 0 then bf (da 0 i0&&da i0 (ln r1)&&da (ln r1) (ln r1))<|bO (HT G N N [iI i0,.vw 0 i0.toNat (r1.length- i0.toNat),iI 1,aM r1]) λ_ o1=>bf (da 0 (gI o1 0)&&da (gI o1 0) (ln (gR o1 1))&&da (ln (gR o1 1)) (ln (gR o1 1)))<|bf (da 0 (gI o1 0)&&da (gI o1 0) (ln (te ([iI 0]) (gR o1 1) ((gI o1 0).toNat) (((gR o1 1).length)-((gI o1 0).toNat))))&&da (ln (te ([iI 0]) (gR o1 1) ((gI o1 0).toNat) (((gR o1 1).length)-((gI o1 0).toNat)))) (ln (te ([iI 0]) (gR o1 1) ((gI o1 0).toNat) (((gR o1 1).length)-((gI o1 0).toNat)))))<|bu [aM ((te ([iI 0]) (gR o1 1) ((gI o1 0).toNat) (((gR o1 1).length)-((gI o1 0).toNat))).take ((gI o1 0).toNat))]else Lm G N n [cD i0,aM r1]else lK [aM r1]:aL):=ac
def aez:bN CX EE G N We [aM r0]=(mb (cj (ln r0) 2) (c8 r0) [] (bO (Lm G N N [iI 1,c8 r0]) λq2 o2=>kv q2 (kI (dp o2 0)) (dp o2 0) []):aL):=ac
def awH:XS G N [J l0,J l1,J l2,aM r3]=(eL (dG l0) (eL (dG l1) (jH mJ (fx l0) [fx l1,ki cx cx [.au 3,iI (yS (gI l0 3) (gI l1 3)),iI (imax (gI l0 4) (gI l1 4))],jK]) (fx l0) (fx l1) [mH l2 2 3 [],c8 r3]) (fx l0) (fx l1) [mH l2 2 3 [],c8 r3]:aL):=ac
def Xg:yn G N (n+1) [iI i0,iI i1,J l2,J l3,gr r4,aM r5,aM r6]=(iC i1 i0 i1 r4 (bf (iv i1.toNat r4.length) (dr (dG (bG r4 i1)) (dr (sR (bG r4 i1) 1) (gw cx (ki cx cx (.au 3::kJ [])) (mH l3 2 4 []) [nv r4,jK,c8 r6]) (fm (bG r4 i1)) (bf (m8Q r6 (gR (bG r4 i1) 2)) (yn G N n [iI i0,cD i1,mH l2 2 3 [],mH l3 2 4 [],nv r4,c8 r5,c8 (r6++(gR (bG r4 i1) 2))])) (yn G N n [iI i0,cD i1,mH l2 2 3 [],mH l3 2 4 [],nv r4,c8 r5,c8 r6])) (fm (bG r4 i1)) (bf (m8Q r6 (gR (bG r4 i1) 2)) (yn G N n [iI i0,cD i1,mH l2 2 3 [],mH l3 2 4 [],nv r4,c8 r5,c8 (r6++(gR (bG r4 i1) 2))])) (yn G N n [iI i0,cD i1,mH l2 2 3 [],mH l3 2 4 [],nv r4,c8 r5,c8 r6]))) (jH (mH l2 2 3 []) (mH l3 2 4 []) [nv r4,c8 r5,c8 r6]):aL):=ac
def axR:bN CX EE G N L2 [J l0,J l1]=(bO (XS G N [fx l0,fx l1,ki cx cx (.au 3::kJ []),jK]) λq1 o1=>kv q1 (bO (yn G N N (iI 2::fQ (mH (iu o1) 2 3 []) [ki mJ cx (.au 4::kJ []),nv ([bg sx 0 (cP o1),bg sx 0 (dJ o1)]:aY),dp o1 3,jK])) λq2 o2=>Th q2 (mH (dJ o2) 2 0 []) [oL o2,dp o2 4] (bO (G PV [dp o2 4]) λ_ o3=>bO (G We [dp o3 0]) λ_ o4=>gw (mH (dJ o2) 2 0 []) mJ (dp o4 0) [])) (mH (gC o1 3) 2 0 []) [oL o1,dp o1 4]:aL):=ac
def asy:aeK G N [J l0,J l1,aM r2]=(eL (dG l0) (eL (sR l0 1) (jJ (fx l0) (ki cx cx (.au 2::kJ [])) [jK]) (fx l0) (mH l1 2 2 []) [c8 r2]) (fx l0) (mH l1 2 2 []) [c8 r2]:aL):=ac
def aer:HY G N (n+1) [aM r0,iI i1,iI i2,J l3,J l4,aM r5]=(eL (cj i2 i1) (fb i2 r0 (fG (oI r0 i2) l3 0 (bif i2==0 then HY G N n [c8 r0,iI i1,cD i2,rj l3 [eM l3 1],ki cx cx [.au 2,iI (yS (gI (cF l3 0 (oI r0 i2)) 1) (gI (cF l3 0 (oI r0 i2)) 1)),iI (imax (gI (cF l3 0 (oI r0 i2)) 2) (gI (cF l3 0 (oI r0 i2)) 2))],jK]else HY G N n [c8 r0,iI i1,cD i2,rj l3 [eM l3 1],ki (oL l4) (JO l4 1) [.au 2,iI (yS (gI l4 3) (gI (cF l3 0 (oI r0 i2)) 1)),iI (imax (gI l4 4) (gI (cF l3 0 (oI r0 i2)) 2))],c8 r5]))) (rj l3 [eM l3 1]) (mH l4 2 2 []) [c8 r5]:aL):=ac
def atL:bN CX EE G N WU [J l0,J l1]=(bO (aeK G N [fx l1,ki cx cx (.au 2::kJ []),jK]) λq1 o1=>kv q1 (bO (HY G N N ((dp (cP o1) 2)::(nx (cP o1) 2)::fQ (rj l0 [eM l0 1]) [ki cx cx (.au 2::kJ []),jK])) λ_ o2=>gw (mH (dJ o2) 2 0 []) mJ (dp o2 2) []) (mH (iu o1) 2 0 []) [oL o1,dp o1 3]:aL):=ac
end
noncomputable section
variable {G:Nat->ak->Option UO} {N n:Nat} {b0:Bool} {i0 i1 i2 i3:Int} {l0 l1 l2 l3 l4 l5 l6:ak} {r0 r1 r2 r4 r5 r7 r8:aY}
def atF:W0 G N [iI i0,J l1,J l2,J l3,aM r4]=(lj (i0 != (ln (gR l1 8))) [cx,cp l1,ki cx cx (.au 3::kJ []),cp l3,jK] (dr ((gI l3 2) != (gI l1 2)) (jJ (cp l1) (ki cx cx (.au 3::kJ [])) [cp l3,jK]) ((gI l3 1) != (gI l1 1)) (jJ (cp l1) (ki cx cx (.au 3::kJ [])) [cp l3,jK]) (dr ((gI l3 3) != (gI l1 3)) (jJ (cp l1) (ki cx cx (.au 3::kJ [])) [cp l3,jK]) ((gI l3 4) != (gI l1 4)) (jJ (cp l1) (ki cx cx (.au 3::kJ [])) [cp l3,jK]) (dr ((gI l3 5) != (gI l1 5)) (jJ (cp l1) (ki cx cx (.au 3::kJ [])) [cp l3,jK]) ((gI l3 6) != (gI l1 6)) (jJ (cp l1) (ki cx cx (.au 3::kJ [])) [cp l3,jK]) (eL ((gI l3 7) != (gI l1 7)) (jJ (cp l1) (ki cx cx (.au 3::kJ [])) [cp l3,jK]) (cp l1) (mH l2 2 3 []) [cp l3,c8 r4])))):aL):=ac
def asc:Wl G N [gr r0,iI i1,gr r2,J l3,gr r4]=(eL ((gI l3 0)==10) (eL (i1==1) (bO (DZ CP (G Fb) (G Fa) (G Lz) [nv r0]) λ_ o3=>bf (cj 0 (ln r4))<|bf (iv 0 r4.length)<|bf (uJ (((gR o3 0).length +([bg sx 0 (gA r4 0)]:aY).length)*48) 140737488355328)<|gw (nv ((gR o3 0)++([bg sx 0 (gA r4 0)]:aY))) (cp l3) (nv r4) []) (nv r2) (cp l3) [nv r4]) (nv r2) (cp l3) [nv r4]:aL):=ac
def aeH:zv G N (n+1) [gr r0,bR r1,iI i2,iI i3,J l4,J l5,J l6,gr r7,aM r8]=(iC i3 i2 i3 r1 (bO (Wl G N [nv r0,iI i3,nv r0,cp l5,nv r7]) λ_ o4=>bO (G LJ [rj l4 [eM l4 1],cp (bG r1 i3),fu CP o4 0]) λ_ o5=>vC (sR o5 1) [rj l4 [eM l4 1],cp (dJ o4),ki cx cx (.au 3::kJ []),jK] (bf (uJ (((gR o4 2).length +1)*48) 140737488355328) (zv G N n [nv r0,dR r1,iI i2,cD i3,rj l4 [eM l4 1],cp (dJ o4),mH l6 2 4 [],nv ((gR o4 2)++([bg sx 0 (cP o5)]:aY)),c8 r8]))) (jH (rj l4 [eM l4 1]) (cp l5) [mH l6 2 4 [],nv r7,c8 r8]):aL):=ac
def atE:P0 G N [gr r0,J l1,J l2,J l3,gr r4,aM r5]=(bO (zv G N N (nv r0::iJ l2 8::nx l2 8::fQ (rj l1 [eM l1 1]) [cp l2,mH l3 2 4 [],nv r4,c8 r5])) λq6 o6=>kv q6 (p7 o6 (rj (dJ o6) [eM (dJ o6) 1]) [cp (iu o6),mH (gC o6 3) 2 3 [],dp o6 4]) (rj (cP o6) [eM (cP o6) 1]) [cp (dJ o6),mH (iu o6) 2 4 [],fu CP o6 3,dp o6 4]:aL):=ac
def arK:Wc G N [cE i0]=(wO (i0==6) fa (aJ (i0==7)) []:aL):=ac
def Xh:bN CX EE G N LJ [J l0,J l1,gr r2]=(bO (G Yo [cp l1]) λ_ o1=>bO (W0 G N [iI (gI o1 1),cp l1,J [bq,bq,.au 3,iI 0,iI 0],cp (gC o1 0),aM gX]) λq2 o2=>bif pT q2 then bO (P0 G N [gr r2,J [bl (gR l0 0),iI (gI l0 1)],cp (gC o2 0),J (sT (bg Da 0 (gC o2 1)) ap3),gr gX,aM (gR o2 3)]) λq7 o7=>bif pT q7 then bif gI (gC o7 1) 0==1 then bif da (-2147483648) (gI (gC o7 1) 2)then bu [J [bq,aJ (gI (gC o7 1) 2==0),aM gX,iI (gI (gC o7 1) 2),iI (gI (gC o7 1) 2)],aJ (da (gI (gC o7 1) 2) 2147483647)]else bu [J [bq,aJ (gI (gC o7 1) 2==0),aM gX,iI (gI (gC o7 1) 2),iI (gI (gC o7 1) 2)],bq]else bif gI (gC o7 1) 0==2 then bO (G Ff [J [bl (gR (gC o7 0) 0),iI (gI (gC o7 0) 1)],iI (gI (gC o7 1) 3),iI (gI (gC o7 1) 4)]) λ_ o8=>bif !(gB o8 0)then bu [J Au,bq]else fb (gI (gC o7 1) 3) (gR (gC o7 0) 0)<|bu [J [aJ (gB (bG (gR (gC o7 0) 0) (gI (gC o7 1) 3)) 3),bq,aM (gR (bG (gR (gC o7 0) 0) (gI (gC o7 1) 3)) 4),iI (gI (bG (gR (gC o7 0) 0) (gI (gC o7 1) 3)) 1),iI (gI (bG (gR (gC o7 0) 0) (gI (gC o7 1) 3)) 2)],fF]else bif gI (gC o7 1) 0==3 then bO (G Qp [J [bl (gR (gC o7 0) 0),iI (gI (gC o7 0) 1)],iI (gI (gC o7 1) 3),iI (gI (gC o7 1) 4),iI (gI (gC o7 1) 5)]) λ_ o9=>bif !(gB o9 0)then bu [J Au,bq]else bf (cj 0 (ln (gR o7 3)))<|bf (iv 0 ((gR o7 3).length))<|bif gB (gA (gR o7 3) 0) 0 then bu [J Au,bq]else fb (gI (gC o7 1) 3) (gR (gC o7 0) 0)<|fb (gI (gC o7 1) 3) (gR (gC o7 0) 0)<|bu [J [bq,bq,aM gX,iI (gI (bG (gR (gC o7 0) 0) (gI (gC o7 1) 3)) 1),iI (gI (bG (gR (gC o7 0) 0) (gI (gC o7 1) 3)) 2)],fF]else bif gI (gC o7 1) 0==4 then bif gI (gC o7 1) 1==18 then bO (G A4 []) λ_ cV=>bf (cj 0 (ln (gR o7 3)))<|bf (iv 0 ((gR o7 3).length))<|bO (G u6 [fx (gA (gR o7 3) 0)]) λ_ dt=>bu [fx (gC cV 0),aJ (gB dt 0)]else bO (G Rc []) λ_ dh=>bif gI (gC o7 1) 1==16 then bf (cj 0 (ln (gR o7 3)))<|bf (iv 0 ((gR o7 3).length))<|bu [fx (gC dh 0),aJ (!(gB (gA (gR o7 3) 0) 0))]else bif gI (gC o7 1) 1==17 then bf (cj 0 (ln (gR o7 3)))<|bf (iv 0 ((gR o7 3).length))<|bu [fx (gC dh 0),aJ (!(gB (gA (gR o7 3) 0) 0))]else bu [fx (gC dh 0),bq]else bif gI (gC o7 1) 0==5 then bf (cj 0 (ln (gR o7 3)))<|bf (iv 0 ((gR o7 3).length))<|bf (cj 1 (ln (gR o7 3)))<|bf (iv 1 ((gR o7 3).length))<|bO (G X7 [cE (gI (gC o7 1) 1),fx (gA (gR o7 3) 0),fx (gA (gR o7 3) 1)]) λ_ ju=>bu [fx (gC ju 0),aJ (gB ju 1)]else bO (Wc G N [cE (gI (gC o7 1) 0)]) λ_ cY=>bif gB cY 0 then bO (G A4 []) λ_ eW=>bf (cj 0 (ln (gR o7 3)))<|bf (iv 0 ((gR o7 3).length))<|bO (G u6 [fx (gA (gR o7 3) 0)]) λ_ lM=>bif gB lM 0 then bf (cj 1 (ln (gR o7 3)))<|bf (iv 1 ((gR o7 3).length))<|bO (G u6 [fx (gA (gR o7 3) 1)]) λ_ c9=>bu [fx (gC eW 0),aJ (gB c9 0)]else bu [fx (gC eW 0),bq]else bif gI (gC o7 1) 0==8 then bf (cj 1 (ln (gR o7 3)))<|bf (iv 1 ((gR o7 3).length))<|bf (cj 2 (ln (gR o7 3)))<|bf (iv 2 ((gR o7 3).length))<|bO (G L2 [fx (gA (gR o7 3) 1),fx (gA (gR o7 3) 2)]) λ_ gM=>bif gB gM 1 then bf (cj 0 (ln (gR o7 3)))<|bf (iv 0 ((gR o7 3).length))<|bO (G u6 [fx (gA (gR o7 3) 0)]) λ_ iX=>bu [J (sT (bg sx 0 (gC gM 0)) [(2,aM (gR gM 2))]),aJ (gB iX 0)]else bu [J (sT (bg sx 0 (gC gM 0)) [(2,aM (gR gM 2))]),bq]else bif gI (gC o7 1) 0==9 then bif da (-2147483648) (gI (gC o7 1) 6)then bif da (gI (gC o7 1) 7) 2147483647 then bif da (gI (gC o7 1) 6) (gI (gC o7 1) 7)then bf (cj 0 (ln (gR o7 3)))<|bf (iv 0 ((gR o7 3).length))<|bu [J [bq,bq,aM gX,iI (gI (gC o7 1) 6),iI (gI (gC o7 1) 7)],aJ (!(gB (gA (gR o7 3) 0) 0))]else bu [J [bq,bq,aM gX,iI (gI (gC o7 1) 6),iI (gI (gC o7 1) 7)],bq]else bu [J [bq,bq,aM gX,iI (gI (gC o7 1) 6),iI (gI (gC o7 1) 7)],bq]else bu [J [bq,bq,aM gX,iI (gI (gC o7 1) 6),iI (gI (gC o7 1) 7)],bq]else bif gI (gC o7 1) 0==10 then bf (cj 1 (ln (gR o7 3)))<|bf (iv 1 ((gR o7 3).length))<|bf (cj 1 (ln ((gR o7 3).set 1 (setAt (gA (gR o7 3) 1) 1 [bq]))))<|bf (iv 1 (((gR o7 3).set 1 (setAt (gA (gR o7 3) 1) 1 [bq])).length))<|bu [fx (gA ((gR o7 3).set 1 (setAt (gA (gR o7 3) 1) 1 [bq])) 1),fF]else bif gI (gC o7 1) 0==11 then bif cj (gI (gC o7 1) 2) 0 then bu [J Au,bq]else bif da (ln r2) (gI (gC o7 1) 2)then bu [J Au,bq]else fb (bH (bH (ln r2- 1)- gI (gC o7 1) 2)) r2<|bu [J (sT (bg sx 0 (bG r2 (bH (bH (ln r2- 1)- gI (gC o7 1) 2)))) [(1,bq)]),fF]else bif gI (gC o7 1) 0==12 then bO (G Ff [J [bl (gR (gC o7 0) 0),iI (gI (gC o7 0) 1)],iI (gI (gC o7 1) 3),iI 0]) λ_ qj=>bif gB qj 0 then fb (gI (gC o7 1) 3) (gR (gC o7 0) 0)<|bif !(gB (bG (gR (gC o7 0) 0) (gI (gC o7 1) 3)) 3)then fb (gI (gC o7 1) 3) (gR (gC o7 0) 0)<|bu [J [fF,bq,aM (([[iI (gI (gC o7 1) 3)]]:aY)),iI 0,iI 0],aJ (gI (bG (gR (gC o7 0) 0) (gI (gC o7 1) 3)) 0==1)]else bu [J [fF,bq,aM (([[iI (gI (gC o7 1) 3)]]:aY)),iI 0,iI 0],bq]else bu [J [fF,bq,aM (([[iI (gI (gC o7 1) 3)]]:aY)),iI 0,iI 0],bq]else bif gI (gC o7 1) 0==13 then bf (cj 0 (ln (gR o7 3)))<|bf (iv 0 ((gR o7 3).length))<|bO (G WU [J [bl (gR (gC o7 0) 0),iI (gI (gC o7 0) 1)],fx (gA (gR o7 3) 0)]) λ_ jo=>bu [J (sT (bg sx 0 (gC jo 0)) [(2,aM (gR jo 2))]),aJ (gB jo 1)]else bif da 0 (gI (gC o7 1) 2)then bu [J zz6,aJ (cj (gI (gC o7 1) 2) (gI (gC o7 0) 1))]else bu [J zz6,bq]else bu [J (sT (bg sx 0 (gC o7 3)) [(2,aM (gR o7 4))]),aJ (gB o7 0)]else bu [J (sT (bg sx 0 (gC o2 2)) [(2,aM (gR o2 4))]),aJ (gB o2 0)]:aL):=ac
def afE:bN CX EE G N Qv [J l0,J l1]=(bO (G L9 (cp l1::fQ (oD (iI 256)) [])) λ_ o1=>mb (dG o1) (J Au) [cx] (bO (G LJ [rj l0 [eM l0 1],cp l1,nv []]) λ_ o2=>jb (pH o2) (JO o2 1)):aL):=ac
def aeE:PT G N (n+1) [aM r0,iI i1,iI i2,iI i3]=(iC i3 i2 i3 r0 (mb (i1==(gI (bG r0 i3) 0)) (iI i3) [] (PT G N n [c8 r0,iI i1,iI i2,cD i3])) (lK []):aL):=ac
def ae4:bN CX EE G N ae8 [aM r0,iI i1]=(bO (PT G N N (c8 r0::iI i1::oK r0::mK [])) λq1 o1=>kv q1 (kI (oE o1)) (iI (-1)) []:aL):=ac
def aeJ:bN CX EE G N wa [aM r0,iI i1]=(bO (G ae8 [c8 r0,iI i1]) λ_ o1=>kI (aJ (da 0 (nh o1))):aL):=ac
def axf:bN CX EE G N XW [J l0,J l1,J l2]=(bO (G Ma [Ad l1 0,dp l2 0,cp l0]) λ_ o1=>gJ (dG o1) (gK l1) (gf l2 []) []:aL):=ac
def adJ:PA G N (n+1) [bR r0,iI i1,iI i2,J l3,J l4]=(iC i2 i1 i2 r0 (bO (G XW [cp (bG r0 i2),gK l3,gf l4 []]) λ_ o1=>mb (fm o1) (iI i2) [gK (dJ o1),gf (iu o1) []] (PA G N n [dR r0,iI i1,cD i2,gK (dJ o1),gf (iu o1) []])) (jH (gK l3) (gf l4 []) []):aL):=ac
def ad6:bN CX EE G N VY [bR r0,J l1,J l2]=(bO (PA G N N (dR r0::oK r0::fQ (gK l1) [gf l2 []])) λq2 o2=>kv q2 (gw (oE o2) (gK (dJ o2)) (gf (iu o2) []) []) (iI (-1)) [gK (cP o2),gf (dJ o2) []]:aL):=ac
def aqN:bN CX EE G N VV [bR r0,J l1,J l2]=(bO (G VY [dR r0,gK l1,gf l2 []]) λ_ o1=>gJ (da 0 (nh o1)) (gK (dJ o1)) (gf (iu o1) []) []:aL):=ac
def avW:XD G N [cE i0]=(dr (i0==1) fa (i0==14) fa (wO (i0==6) fa (aJ (i0==7)) []):aL):=ac
def awG:XR G N [aJ b0,J l1,J l2,J l3]=(bO (XD G N [pG l3]) λ_ o1=>dr (fm o1) (gJ true (gK l1) (gf l2 []) [cp l3]) ((gI l3 0)==2) (bO (G wa [dp l2 0,eM l3 3]) λ_ o2=>kh (fm o2) (fG (gI l3 3) l1 0 (gJ (sR (cF l1 0 (gI l3 3)) 3) (gK l1) (gf l2 []) [cp l3])) (gK l1) [gf l2 [],cp l3]) (dr ((gI l3 0)==4) (gJ ((gI l3 1)==18) (gK l1) (gf l2 []) [cp l3]) ((gI l3 0)==5) (kh (da 7 (gI l3 1)) (gJ (da (gI l3 1) 15) (gK l1) (gf l2 []) [cp l3]) (gK l1) [gf l2 [],cp l3]) (gJ b0 (gK l1) (gf l2 []) [cp l3])):aL):=ac
def agn:bN CX EE G N Ma [bl r0,aM r1,J l2]=(bO (XR G N [cx,oD (bl r0),oD (c8 r1),cp l2]) λ_ o3=>nV (fm o3) (bO (G VV [iJ (gC o3 3) 8,gK (dJ o3),gf (iu o3) []]) λ_ o4=>kI (aJ (dG o4))):aL):=ac
def awM:bN CX EE G N Ij [J l0,J l1]=(bO (G zu [iJ l0 8,iJ l1 8]) λ_ o1=>dr (dG o1) gg ((gI l0 0)==(gI l1 0)) (vu ((gI l0 1)==(gI l1 1)) ((gI l0 2)==(gI l1 2)) (vu ((gI l0 3)==(gI l1 3)) ((gI l0 4)==(gI l1 4)) (nV ((gI l0 5)==(gI l1 5)) (mb ((gI l0 6)==(gI l1 6)) (aJ ((gI l0 7)==(gI l1 7))) [] gg)))) gg:aL):=ac
def VR:Lh G N (n+1) [bR r0,bR r1,iI i2,iI i3]=(iC i3 i2 i3 r1 (fb i3 r0 (bO (G Ij [cp (bG r1 i3),cp (bG r0 i3)]) λ_ o1=>kW (dG o1) (Lh G N n [dR r0,dR r1,iI i2,cD i3]))) (lK []):aL):=ac
def ad0:bN CX EE G N zu [bR r0,bR r1]=(kW ((ln r0) != (ln r1)) (bO (Lh G N N (dR r1::dR r0::oK r0::mK [])) λq2 o2=>nc q2 o2 [] fa):aL):=ac
def Wn:Lu G N (n+1) [aM r0,aM r1,iI i2,iI i3]=(iC i3 i2 i3 r0 (fb i3 r1 (kW ((gI (bG r0 i3) 0) != (gI (bG r1 i3) 0)) (Lu G N n [c8 r0,c8 r1,iI i2,cD i3]))) (lK []):aL):=ac
def ae5:bN CX EE G N AW [aM r0,aM r1]=(kW ((ln r0) != (ln r1)) (bO (Lu G N N (c8 r0::c8 r1::oK r0::mK [])) λq1 o1=>nc q1 o1 [] fa):aL):=ac
def av6:bN CX EE G N Qq [J l0,J l1]=(vu ((gI l0 0)==(gI l1 0)) ((gI l0 1)==(gI l1 1)) (vu ((gI l0 2)==(gI l1 2)) ((gI l0 3)==(gI l1 3)) (bO (G zu [iJ l0 4,iJ l1 4]) λ_ o1=>qW o1)):aL):=ac
def VM:Le G N (n+1) [dj r0,dj r1,iI i2,iI i3]=(iC i3 i2 i3 r1 (fb i3 r0 (bO (G Qq [jq (bG r1 i3),jq (bG r0 i3)]) λ_ o1=>kW (dG o1) (Le G N n [jV r0,jV r1,iI i2,cD i3]))) (lK []):aL):=ac
def adR:bN CX EE G N HS [dj r0,dj r1]=(kW ((ln r0) != (ln r1)) (bO (Le G N N (jV r1::jV r0::oK r0::mK [])) λq2 o2=>nc q2 o2 [] fa):aL):=ac
def VQ:Lg G N (n+1) [cX r0,cX r1,iI i2,iI i3]=(iC i3 i2 i3 r1 (fb i3 r0 (bO (G u9 [aE (bG r1 i3),aE (bG r0 i3)]) λ_ o1=>kW (dG o1) (Lg G N n [jt r0,jt r1,iI i2,cD i3]))) (lK []):aL):=ac
def adZ:bN CX EE G N PE [cX r0,cX r1]=(kW ((ln r0) != (ln r1)) (bO (Lg G N N (jt r1::jt r0::oK r0::mK [])) λq2 o2=>nc q2 o2 [] fa):aL):=ac
def avt:bN CX EE G N Qk [J l0,J l1]=(bO (G u9 [aE l0,aE l1]) λ_ o1=>nV (fm o1) (bO (G u9 [lg 21 l0,lg 21 l1]) λ_ o2=>qW o2):aL):=ac
def VK:Lc G N (n+1) [gN r0,gN r1,iI i2,iI i3]=(iC i3 i2 i3 r1 (fb i3 r0 (bO (G Qk [XO (bG r1 i3),XO (bG r0 i3)]) λ_ o1=>kW (dG o1) (Lc G N n [qC r0,qC r1,iI i2,cD i3]))) (lK []):aL):=ac
def adL:bN CX EE G N Pz [gN r0,gN r1]=(kW ((ln r0) != (ln r1)) (bO (Lc G N N (qC r1::qC r0::oK r0::mK [])) λq2 o2=>nc q2 o2 [] fa):aL):=ac
def avs:bN CX EE G N Qj [J l0,J l1]=(bO (G AW [dp l0 0,dp l1 0]) λ_ o1=>nV (fm o1) (bO (G u9 [lg 1 l0,lg 1 l1]) λ_ o2=>qW o2):aL):=ac
def VG:K9 G N (n+1) [gy r0,gy r1,iI i2,iI i3]=(iC i3 i2 i3 r1 (fb i3 r0 (bO (G Qj [AY (bG r1 i3),AY (bG r0 i3)]) λ_ o1=>kW (dG o1) (K9 G N n [qA r0,qA r1,iI i2,cD i3]))) (lK []):aL):=ac
def adB:bN CX EE G N Pw [gy r0,gy r1]=(kW ((ln r0) != (ln r1)) (bO (K9 G N N (qA r1::qA r0::oK r0::mK [])) λq2 o2=>nc q2 o2 [] fa):aL):=ac
def avr:bN CX EE G N Qi [J l0,J l1]=(vu ((gI l0 0)==(gI l1 0)) ((gI l0 10)==(gI l1 10)) (bO (G Ij [JL lU 1 l0,JL lU 1 l1]) λ_ o1=>nV (fm o1) (bO (G zu [iJ l0 11,iJ l1 11]) λ_ o2=>nV (fm o2) (bO (G u9 [lg 12 l0,lg 12 l1]) λ_ o3=>nV (fm o3) (bO (G u9 [lg 33 l0,lg 33 l1]) λ_ o4=>qW o4)))):aL):=ac
def VN:Lf G N (n+1) [eh r0,eh r1,iI i2,iI i3]=(iC i3 i2 i3 r1 (fb i3 r0 (bO (G Qi [qP (bG r1 i3),qP (bG r0 i3)]) λ_ o1=>kW (dG o1) (Lf G N n [eh r0,eh r1,iI i2,cD i3]))) (lK []):aL):=ac
def adS:bN CX EE G N PB [eh r0,eh r1]=(kW ((ln r0) != (ln r1)) (bO (Lf G N N (eh r1:: eh r0::oK r0::mK [])) λq2 o2=>nc q2 o2 [] fa):aL):=ac
end
noncomputable section
variable {G:Nat->ak->Option UO} {N n:Nat} {i0 i1 i2:Int} {l0 l1 l3 l4 l5:ak} {r5 r6 r7 r8 r9 mq mo ml mj ly Ep Eo En Em El Ek G3 G2 G1:aY}
def ae3:Qf G N [J l0,J l1]=(mb ((gI l0 0) != (gI l1 0)) mJ [aE l0,aE l1] (dr ((gI l0 1) != (gI l1 1)) (gJ true (aE l0) (aE l1) []) ((gI l0 2) != (gI l1 2)) (gJ true (aE l0) (aE l1) []) (dr ((gI l0 3) != (gI l1 3)) (gJ true (aE l0) (aE l1) []) ((gI l0 4) != (gI l1 4)) (gJ true (aE l0) (aE l1) []) (eL ((gI l0 5) != (gI l1 5)) (gJ true (aE l0) (aE l1) []) (aJ ((gI l0 11) != (gI l1 11))) (aE l0) [aE l1]))):aL):=ac
def aeR:P8 G N [J l0,J l1]=(dr (!((gB l0 6)==(gB l1 6))) (gJ true (aE l0) (aE l1) []) (!((gB l0 7)==(gB l1 7))) (gJ true (aE l0) (aE l1) []) (dr (!((gB l0 8)==(gB l1 8))) (gJ true (aE l0) (aE l1) []) (!((gB l0 9)==(gB l1 9))) (gJ true (aE l0) (aE l1) []) (gJ (!((gB l0 10)==(gB l1 10))) (aE l0) (aE l1) [])):aL):=ac
def aeQ:P7 G N [J l0,J l1]=(bO (G zu [iJ l0 12,iJ l1 12]) λ_ o3=>mb (dG o3) mJ [aE l0,aE l1] (bO (G zu [iJ l0 13,iJ l1 13]) λ_ o4=>mb (dG o4) mJ [aE l0,aE l1] (bO (G AW [dp l0 16,dp l1 16]) λ_ o5=>gJ (dG o5) (aE l0) (aE l1) [])):aL):=ac
def afb:Ql G N [J l0,J l1]=(bO (Qf G N [aE l0,aE l1]) λ_ o1=>lj (fm o1) [cx,oZ o1,aE (iu o1)] (bO (P8 G N [oZ o1,aE (iu o1)]) λ_ o2=>lj (fm o2) [cx,oZ o2,aE (iu o2)] (bO (P7 G N [oZ o2,aE (iu o2)]) λ_ o6=>lj (fm o6) [cx,oZ o6,aE (iu o6)] (bO (G HS [fu wc (dJ o6) 14,fu wc (iu o6) 14]) λ_ o7=>lj (dG o7) [cx,oZ o6,aE (iu o6)] (bO (G HS [fu wc (dJ o6) 15,fu wc (iu o6) 15]) λ_ o8=>lj (dG o8) [cx,oZ o6,aE (iu o6)] (bO (G PE [fu ud (dJ o6) 17,fu ud (iu o6) 17]) λ_ o9=>eL (dG o9) (jJ (oZ o6) (aE (iu o6)) []) (oZ o6) (aE (iu o6)) []))))):aL):=ac
def afF:bN CX EE G N u9 [J l0,J l1]=(bO (Ql G N [aE l0,aE l1]) λrD cV=>lh rD (bO (G Pz [fu Fo (cP cV) 18,fu Fo (dJ cV) 18]) λ_ dt=>nV (fm dt) (bO (G Pw [fu LR (cP cV) 19,fu LR (dJ cV) 19]) λ_ dh=>nV (fm dh) (bO (G PB [fu Me (cP cV) 20,fu Me (dJ cV) 20]) λ_ ju=>qW ju))) cV []:aL):=ac
def ata:WN G N [cE i0]=(wO (i0==8) fa (aJ (i0==10)) []:aL):=ac
def asb:Wk G N [cE i0]=(wO (i0==12) fa (aJ (i0==13)) []:aL):=ac
def avV:XC G N [iI i0,iI i1,iI i2,J l3,J l4,.ae 0 r5,bR r6,bR r7,dj r8,dj r9,aM mq,cX mo,gN ml,gy mj,eh ly]=(bif gI l3 0==1 then bu [iI i0,iI i1,iI i2,aE l3,J (sT (bg mX 0 l4) yV),.ae 0 (bz (aU r5)),bR r6,bR r7,dj r8,dj r9,aM mq,cX mo,gN ml,gy mj,eh ly]else bif gI l3 0==2 then bu [iI 1,iI 1,iI i2,aE l3,J (sT (bg mX 0 l4) yV),.ae 0 (bz (aU r5)),bR r6,bR r7,dj r8,dj r9,aM mq,cX mo,gN ml,gy mj,eh ly]else bif gI l3 0==3 then bu [iI i0,iI i1,iI (ln (gR l3 17)),aE l3,J (sT (bg mX 0 l4) yV),.ae 0 (bz (aU r5)),bR r6,bR r7,dj r8,dj r9,aM mq,cX mo,gN ml,gy mj,eh ly]else bif gI l3 0==4 then bu [iI 1,iI i1,iI 2,aE l3,J (sT (bg mX 0 l4) yV),.ae 0 (bz (aU r5)),bR r6,bR r7,dj r8,dj r9,aM mq,cX mo,gN ml,gy mj,eh ly]else bif gI l3 0==5 then bu [iI 1,iI i1,iI 1,aE l3,J (sT (bg mX 0 l4) yV),.ae 0 (bz (aU r5)),bR r6,bR r7,dj r8,dj r9,aM mq,cX mo,gN ml,gy mj,eh ly]else bif gI l3 0==6 then bu [iI 2,iI i1,iI 1,aE l3,J [cE (gI l4 0),iI (gI l4 1),iI (gI l3 2),iI (gI l4 3),iI (gI l4 4),iI (gI l4 5),aJ (gB l4 6),aJ (gB l3 7),aJ (gB l4 8),aJ (gB l4 9),aJ (gB l4 10),cE (gI l4 11),.au 3,.au 4,.au 5,.au 6,.au 7,.au 8,.au 9,.au 10,.au 11],.ae 0 (bz (aU r5)),bR r6,bR r7,dj r8,dj r9,aM mq,cX mo,gN ml,gy mj,eh ly]else bif gI l3 0==7 then bu [iI i0,iI i1,iI 1,aE l3,J (sT (bg mX 0 l4) [(1,iI (gI l3 1)),(12,.au 3),(13,.au 4),(14,.au 5),(15,.au 6),(16,.au 7),(17,.au 8),(18,.au 9),(19,.au 10),(20,.au 11)]),.ae 0 (bz (aU r5)),bR r6,bR r7,dj r8,dj r9,aM mq,cX mo,gN ml,gy mj,eh ly]else bO (WN G N [cE (gI l3 0)]) λ_ o1=>bif gB o1 0 then bu [iI i0,iI i1,iI i2,aE l3,J (sT (bg mX 0 l4) [(1,iI (gI l3 1)),(12,.au 3),(13,.au 4),(14,.au 5),(15,.au 6),(16,.au 7),(17,.au 8),(18,.au 9),(19,.au 10),(20,.au 11)]),.ae 0 (bz (aU r5)),bR r6,bR r7,dj r8,dj r9,aM mq,cX mo,gN ml,gy mj,eh ly]else bif gI l3 0==9 then bu [iI i0,iI i1,iI 1,aE l3,J (sT (bg mX 0 l4) yV),.ae 0 (bz (aj.kX (aj.kX (aU r5) (.str ((⟨#[116,115]⟩:ByteArray))) (fF)) (.str ((⟨#[100,101,99,108,115]⟩:ByteArray))) (fF))),bR r6,bR r7,dj r8,dj r9,aM mq,cX mo,gN ml,gy mj,eh ly]else bif gI l3 0==11 then bu [iI 1,iI i1,iI i2,aE l3,J (sT (bg mX 0 l4) yV),.ae 0 (bz (aU r5)),bR r6,bR r7,dj r8,dj r9,aM mq,cX mo,gN ml,gy mj,eh ly]else bO (Wk G N [cE (gI l3 0)]) λ_ o2=>bif gB o2 0 then bu [iI i0,iI 1,iI i2,aE l3,J (sT (bg mX 0 l4) yV),.ae 0 (bz (aU r5)),bR r6,bR r7,dj r8,dj r9,aM mq,cX mo,gN ml,gy mj,eh ly]else bif gI l3 0==14 then bif gB l3 6 then bu [iI i0,iI 1,iI i2,aE l3,J [cE (gI l4 0),iI (gI l4 1),iI (gI l4 2),iI (gI l4 3),iI (gI l3 4),iI (gI l3 5),aJ (gB l3 6),aJ (gB l4 7),aJ (gB l4 8),aJ (gB l4 9),aJ (gB l4 10),cE (gI l4 11),.au 3,.au 4,.au 5,.au 6,.au 7,.au 8,.au 9,.au 10,.au 11],.ae 0 (bz (aU r5)),bR r6,bR r7,dj r8,dj r9,aM mq,cX mo,gN ml,gy mj,eh ly]else bu [iI i0,iI 1,iI i2,aE l3,J [cE (gI l4 0),iI (gI l4 1),iI (gI l4 2),iI (gI l4 3),iI (gI l4 4),iI (gI l3 5),aJ (gB l3 6),aJ (gB l4 7),aJ (gB l4 8),aJ (gB l4 9),aJ (gB l4 10),cE (gI l4 11),.au 3,.au 4,.au 5,.au 6,.au 7,.au 8,.au 9,.au 10,.au 11],.ae 0 (bz (aU r5)),bR r6,bR r7,dj r8,dj r9,aM mq,cX mo,gN ml,gy mj,eh ly]else bif gI l3 0==15 then bu [iI 1,iI i1,iI i2,aE l3,J (sT (bg mX 0 l4) [(8,aJ (gB l3 8)),(12,.au 3),(13,.au 4),(14,.au 5),(15,.au 6),(16,.au 7),(17,.au 8),(18,.au 9),(19,.au 10),(20,.au 11)]),.ae 0 (bz (aU r5)),bR r6,bR r7,dj r8,dj r9,aM mq,cX mo,gN ml,gy mj,eh ly]else bif gI l3 0==16 then bu [iI (ln (gR l3 12)),iI i1,iI 2,aE l3,J [cE (gI l4 0),iI (gI l4 1),iI (gI l4 2),iI (gI l3 3),iI (gI l4 4),iI (gI l3 5),aJ (gB l4 6),aJ (gB l4 7),aJ (gB l4 8),aJ (gB l4 9),aJ (gB l4 10),cE (gI l3 11),.au 3,.au 4,.au 5,.au 6,.au 7,.au 8,.au 9,.au 10,.au 11],.ae 0 (bz (aj.kX (aU r5) (.str ((⟨#[99,97,108,108]⟩:ByteArray))) (fF))),bR r6,bR r7,dj r8,dj r9,aM mq,cX mo,gN ml,gy mj,eh ly]else bif gI l3 0==17 then bu [iI (ln (gR l3 12)),iI i1,iI 3,aE l3,J [cE (gI l4 0),iI (gI l4 1),iI (gI l4 2),iI (gI l4 3),iI (gI l3 4),iI (gI l3 5),aJ (gB l4 6),aJ (gB l4 7),aJ (gB l4 8),aJ (gB l4 9),aJ (gB l4 10),cE (gI l3 11),.au 3,.au 4,.au 5,.au 6,.au 7,.au 8,.au 9,.au 10,.au 11],.ae 0 (bz (aU r5)),bR r6,bR r7,dj r8,dj r9,aM mq,cX mo,gN ml,gy mj,eh ly]else bif gI l3 0==18 then bu [iI i0,iI i1,iI 2,aE l3,J (sT (bg mX 0 l4) [(5,iI (gI l3 5)),(12,.au 3),(13,.au 4),(14,.au 5),(15,.au 6),(16,.au 7),(17,.au 8),(18,.au 9),(19,.au 10),(20,.au 11)]),.ae 0 (bz (aU r5)),bR r6,bR r7,dj r8,dj r9,aM mq,cX mo,gN ml,gy mj,eh ly]else bif gI l3 0==19 then bu [iI i0,iI i1,iI 1,aE l3,J (sT (bg mX 0 l4) [(9,aJ (gB l3 9)),(12,.au 3),(13,.au 4),(14,.au 5),(15,.au 6),(16,.au 7),(17,.au 8),(18,.au 9),(19,.au 10),(20,.au 11)]),.ae 0 (bz (aj.kX (aU r5) (.str ((⟨#[97,108,116,115]⟩:ByteArray))) (fF))),bR r6,bR r7,dj r8,dj r9,aM mq,cX mo,gN ml,gy mj,eh ly]else bif gI l3 0==20 then bu [iI i0,iI i1,iI 1,aE l3,J (sT (bg mX 0 l4) [(4,iI (gI l3 4)),(12,.au 3),(13,.au 4),(14,.au 5),(15,.au 6),(16,.au 7),(17,.au 8),(18,.au 9),(19,.au 10),(20,.au 11)]),.ae 0 (bz (aU r5)),bR r6,bR r7,dj r8,dj r9,aM mq,cX mo,gN ml,gy mj,eh ly]else bif gI l3 0==21 then bu [iI i0,iI i1,iI i2,aE l3,J [cE (gI l4 0),iI (gI l4 1),iI (gI l4 2),iI (gI l3 3),iI (gI l4 4),iI (gI l3 5),aJ (gB l4 6),aJ (gB l4 7),aJ (gB l4 8),aJ (gB l4 9),aJ (gB l3 10),cE (gI l4 11),.au 3,.au 4,.au 5,.au 6,.au 7,.au 8,.au 9,.au 10,.au 11],.ae 0 (bz (aU r5)),bR r6,bR r7,dj r8,dj r9,aM mq,cX mo,gN ml,gy mj,eh ly]else bif gI l3 0==22 then bu [iI i0,iI i1,iI i2,aE l3,J (sT (bg mX 0 l4) yV),.ae 0 (bz (aj.kX (aU r5) (.str ((⟨#[116,115]⟩:ByteArray))) (fF))),bR r6,bR r7,dj r8,dj r9,aM mq,cX mo,gN ml,gy mj,eh ly]else lK [bq,aE l3,J (sT (bg mX 0 l4) yV),.ae 0 (bz (aU r5)),bR r6,bR r7,dj r8,dj r9,aM mq,cX mo,gN ml,gy mj,eh ly]:aL):=ac
def avU:XB G N [iI i0,iI i1,iI i2,J l3,J l4,J l5,bR r6,bR r7,dj r8,dj r9,aM mq,cX mo,gN ml,gy mj,eh ly,bR Ep,bR Eo,dj En,dj Em,aM El,cX Ek,gN G3,gy G2,eh G1]=(bO (G u9 [p9 fU l4 (12,dR r6) [(13,dR r7),(14,jV r8),(15,jV r9),(16,c8 mq),(17,jt mo),(18,qC ml),(19,qA mj),(20,eh ly)],p9 fU l5 (12,dR Ep) [(13,dR Eo),(14,jV En),(15,jV Em),(16,c8 El),(17,jt Ek),(18,qC G3),(19,qA G2),(20,eh G1)]]) λ_ o4=>dr (dG o4) (jJ (aE l3) (oY mX l4 12 3 [df 13 4,df 14 5,df 15 6,df 16 7,df 17 8,df 18 9,df 19 10,df 20 11]) [oY mX l5 12 12 [df 13 13,df 14 14,df 15 15,df 16 16,df 17 17,df 18 18,df 19 19,df 20 20],dR r6,dR r7,jV r8,jV r9,c8 mq,jt mo,qC ml,qA mj,eh ly,dR Ep,dR Eo,jV En,jV Em,c8 El,jt Ek,qC G3,qA G2,eh G1]) ((ln (gR l3 12)) != i0) (jJ (aE l3) (oY mX l4 12 3 [df 13 4,df 14 5,df 15 6,df 16 7,df 17 8,df 18 9,df 19 10,df 20 11]) [oY mX l5 12 12 [df 13 13,df 14 14,df 15 15,df 16 16,df 17 17,df 18 18,df 19 19,df 20 20],dR r6,dR r7,jV r8,jV r9,c8 mq,jt mo,qC ml,qA mj,eh ly,dR Ep,dR Eo,jV En,jV Em,c8 El,jt Ek,qC G3,qA G2,eh G1]) (dr ((ln (gR l3 14)) != i1) (jJ (aE l3) (oY mX l4 12 3 [df 13 4,df 14 5,df 15 6,df 16 7,df 17 8,df 18 9,df 19 10,df 20 11]) [oY mX l5 12 12 [df 13 13,df 14 14,df 15 15,df 16 16,df 17 17,df 18 18,df 19 19,df 20 20],dR r6,dR r7,jV r8,jV r9,c8 mq,jt mo,qC ml,qA mj,eh ly,dR Ep,dR Eo,jV En,jV Em,c8 El,jt Ek,qC G3,qA G2,eh G1]) ((ln (gR l3 17)) != i2) (jJ (aE l3) (oY mX l4 12 3 [df 13 4,df 14 5,df 15 6,df 16 7,df 17 8,df 18 9,df 19 10,df 20 11]) [oY mX l5 12 12 [df 13 13,df 14 14,df 15 15,df 16 16,df 17 17,df 18 18,df 19 19,df 20 20],dR r6,dR r7,jV r8,jV r9,c8 mq,jt mo,qC ml,qA mj,eh ly,dR Ep,dR Eo,jV En,jV Em,c8 El,jt Ek,qC G3,qA G2,eh G1]) (gw (aE l3) (oY mX l4 12 3 [df 13 4,df 14 5,df 15 6,df 16 7,df 17 8,df 18 9,df 19 10,df 20 11]) (oY mX l5 12 12 [df 13 13,df 14 14,df 15 15,df 16 16,df 17 17,df 18 18,df 19 19,df 20 20]) [dR r6,dR r7,jV r8,jV r9,c8 mq,jt mo,qC ml,qA mj,eh ly,dR Ep,dR Eo,jV En,jV Em,c8 El,jt Ek,qC G3,qA G2,eh G1])):aL):=ac
end
noncomputable section
variable {G:Nat->ak->Option UO} {N n:Nat} {i0 i1 i2:Int} {l0 l1 l2 l3 l4:ak} {r0 r1 r2 r3 r4 r5 r6:aY}
def ayn:bN CX EE G N Q3 [J l0]=(bO (XC G N [iI 0,iI 0,iI 0,aE l0,J [cE (gI l0 0),iI 0,iI 0,iI 0,iI 0,iI 0,bq,bq,bq,bq,bq,cE 0,.au 3,.au 4,.au 5,.au 6,.au 7,.au 8,.au 9,.au 10,.au 11],.ae 0 (bz (([]:List (AV×AV)))),bR gX,bR gX,dj gX,dj gX,aM gX,cX gX,gN gX,gy gX,eh gX]) λq3 o3=>bif pT q3 then bO (XB G N [iI (gI o3 0),iI (gI o3 1),iI (gI o3 2),aE (gC o3 3),J (sT (bg mX 0 l0) yV),J (sT (bg mX 0 (gC o3 4)) aLv),bR gX,bR gX,dj gX,dj gX,aM gX,cX gX,gN gX,gy gX,eh gX,bR (gR o3 6),bR (gR o3 7),dj (gR o3 8),dj (gR o3 9),aM (gR o3 10),cX (gR o3 11),gN (gR o3 12),gy (gR o3 13),eh (gR o3 14)]) λq5 o5=>bif pT q5 then match aj.dF (aU (gR o3 5)) (.str ((⟨#[99,97,108,108]⟩:ByteArray)))with|some m6=>(bif m6.toB then match aj.dF (aU (gR o3 5)) (.str ((⟨#[116,115]⟩:ByteArray)))with|some m7=>(bif m7.toB then match aj.dF (aU (gR o3 5)) (.str ((⟨#[100,101,99,108,115]⟩:ByteArray)))with|some m8=>(bif m8.toB then match aj.dF (aU (gR o3 5)) (.str ((⟨#[97,108,116,115]⟩:ByteArray)))with|some m9=>(bif m9.toB then fa else bu [aJ (ln (gR (gC o5 0) 20)==0)])|none=>(bu [aJ (ln (gR (gC o5 0) 20)==0)])else bif bH ((ln (gR (gC o5 0) 18))+(ln (gR (gC o5 0) 19)))==0 then match aj.dF (aU (gR o3 5)) (.str ((⟨#[97,108,116,115]⟩:ByteArray)))with|some m10=>(bif m10.toB then fa else bu [aJ (ln (gR (gC o5 0) 20)==0)])|none=>(bu [aJ (ln (gR (gC o5 0) 20)==0)])else gg)|none=>(bif bH ((ln (gR (gC o5 0) 18))+(ln (gR (gC o5 0) 19)))==0 then match aj.dF (aU (gR o3 5)) (.str ((⟨#[97,108,116,115]⟩:ByteArray)))with|some m11=>(bif m11.toB then fa else bu [aJ (ln (gR (gC o5 0) 20)==0)])|none=>(bu [aJ (ln (gR (gC o5 0) 20)==0)])else gg)else bif ln (gR (gC o5 0) 16)==0 then match aj.dF (aU (gR o3 5)) (.str ((⟨#[100,101,99,108,115]⟩:ByteArray)))with|some m12=>(bif m12.toB then match aj.dF (aU (gR o3 5)) (.str ((⟨#[97,108,116,115]⟩:ByteArray)))with|some m13=>(bif m13.toB then fa else bu [aJ (ln (gR (gC o5 0) 20)==0)])|none=>(bu [aJ (ln (gR (gC o5 0) 20)==0)])else bif bH ((ln (gR (gC o5 0) 18))+(ln (gR (gC o5 0) 19)))==0 then match aj.dF (aU (gR o3 5)) (.str ((⟨#[97,108,116,115]⟩:ByteArray)))with|some m14=>(bif m14.toB then fa else bu [aJ (ln (gR (gC o5 0) 20)==0)])|none=>(bu [aJ (ln (gR (gC o5 0) 20)==0)])else gg)|none=>(bif bH ((ln (gR (gC o5 0) 18))+(ln (gR (gC o5 0) 19)))==0 then match aj.dF (aU (gR o3 5)) (.str ((⟨#[97,108,116,115]⟩:ByteArray)))with|some m15=>(bif m15.toB then fa else bu [aJ (ln (gR (gC o5 0) 20)==0)])|none=>(bu [aJ (ln (gR (gC o5 0) 20)==0)])else gg)else gg)|none=>(bif ln (gR (gC o5 0) 16)==0 then match aj.dF (aU (gR o3 5)) (.str ((⟨#[100,101,99,108,115]⟩:ByteArray)))with|some m16=>(bif m16.toB then match aj.dF (aU (gR o3 5)) (.str ((⟨#[97,108,116,115]⟩:ByteArray)))with|some m17=>(bif m17.toB then fa else bu [aJ (ln (gR (gC o5 0) 20)==0)])|none=>(bu [aJ (ln (gR (gC o5 0) 20)==0)])else bif bH ((ln (gR (gC o5 0) 18))+(ln (gR (gC o5 0) 19)))==0 then match aj.dF (aU (gR o3 5)) (.str ((⟨#[97,108,116,115]⟩:ByteArray)))with|some m18=>(bif m18.toB then fa else bu [aJ (ln (gR (gC o5 0) 20)==0)])|none=>(bu [aJ (ln (gR (gC o5 0) 20)==0)])else gg)|none=>(bif bH ((ln (gR (gC o5 0) 18))+(ln (gR (gC o5 0) 19)))==0 then match aj.dF (aU (gR o3 5)) (.str ((⟨#[97,108,116,115]⟩:ByteArray)))with|some m19=>(bif m19.toB then fa else bu [aJ (ln (gR (gC o5 0) 20)==0)])|none=>(bu [aJ (ln (gR (gC o5 0) 20)==0)])else gg)else gg)else bif bH ((ln (gR (gC o5 0) 13))+(ln (gR (gC o5 0) 15)))==0 then match aj.dF (aU (gR o3 5)) (.str ((⟨#[116,115]⟩:ByteArray)))with|some m20=>(bif m20.toB then match aj.dF (aU (gR o3 5)) (.str ((⟨#[100,101,99,108,115]⟩:ByteArray)))with|some m21=>(bif m21.toB then match aj.dF (aU (gR o3 5)) (.str ((⟨#[97,108,116,115]⟩:ByteArray)))with|some m22=>(bif m22.toB then fa else bu [aJ (ln (gR (gC o5 0) 20)==0)])|none=>(bu [aJ (ln (gR (gC o5 0) 20)==0)])else bif bH ((ln (gR (gC o5 0) 18))+(ln (gR (gC o5 0) 19)))==0 then match aj.dF (aU (gR o3 5)) (.str ((⟨#[97,108,116,115]⟩:ByteArray)))with|some m23=>(bif m23.toB then fa else bu [aJ (ln (gR (gC o5 0) 20)==0)])|none=>(bu [aJ (ln (gR (gC o5 0) 20)==0)])else gg)|none=>(bif bH ((ln (gR (gC o5 0) 18))+(ln (gR (gC o5 0) 19)))==0 then match aj.dF (aU (gR o3 5)) (.str ((⟨#[97,108,116,115]⟩:ByteArray)))with|some m24=>(bif m24.toB then fa else bu [aJ (ln (gR (gC o5 0) 20)==0)])|none=>(bu [aJ (ln (gR (gC o5 0) 20)==0)])else gg)else bif ln (gR (gC o5 0) 16)==0 then match aj.dF (aU (gR o3 5)) (.str ((⟨#[100,101,99,108,115]⟩:ByteArray)))with|some m25=>(bif m25.toB then match aj.dF (aU (gR o3 5)) (.str ((⟨#[97,108,116,115]⟩:ByteArray)))with|some m26=>(bif m26.toB then fa else bu [aJ (ln (gR (gC o5 0) 20)==0)])|none=>(bu [aJ (ln (gR (gC o5 0) 20)==0)])else bif bH ((ln (gR (gC o5 0) 18))+(ln (gR (gC o5 0) 19)))==0 then match aj.dF (aU (gR o3 5)) (.str ((⟨#[97,108,116,115]⟩:ByteArray)))with|some m27=>(bif m27.toB then fa else bu [aJ (ln (gR (gC o5 0) 20)==0)])|none=>(bu [aJ (ln (gR (gC o5 0) 20)==0)])else gg)|none=>(bif bH ((ln (gR (gC o5 0) 18))+(ln (gR (gC o5 0) 19)))==0 then match aj.dF (aU (gR o3 5)) (.str ((⟨#[97,108,116,115]⟩:ByteArray)))with|some m28=>(bif m28.toB then fa else bu [aJ (ln (gR (gC o5 0) 20)==0)])|none=>(bu [aJ (ln (gR (gC o5 0) 20)==0)])else gg)else gg)|none=>(bif ln (gR (gC o5 0) 16)==0 then match aj.dF (aU (gR o3 5)) (.str ((⟨#[100,101,99,108,115]⟩:ByteArray)))with|some m29=>(bif m29.toB then match aj.dF (aU (gR o3 5)) (.str ((⟨#[97,108,116,115]⟩:ByteArray)))with|some m30=>(bif m30.toB then fa else bu [aJ (ln (gR (gC o5 0) 20)==0)])|none=>(bu [aJ (ln (gR (gC o5 0) 20)==0)])else bif bH ((ln (gR (gC o5 0) 18))+(ln (gR (gC o5 0) 19)))==0 then match aj.dF (aU (gR o3 5)) (.str ((⟨#[97,108,116,115]⟩:ByteArray)))with|some m31=>(bif m31.toB then fa else bu [aJ (ln (gR (gC o5 0) 20)==0)])|none=>(bu [aJ (ln (gR (gC o5 0) 20)==0)])else gg)|none=>(bif bH ((ln (gR (gC o5 0) 18))+(ln (gR (gC o5 0) 19)))==0 then match aj.dF (aU (gR o3 5)) (.str ((⟨#[97,108,116,115]⟩:ByteArray)))with|some m32=>(bif m32.toB then fa else bu [aJ (ln (gR (gC o5 0) 20)==0)])|none=>(bu [aJ (ln (gR (gC o5 0) 20)==0)])else gg)else gg)else gg)|none=>(bif bH ((ln (gR (gC o5 0) 13))+(ln (gR (gC o5 0) 15)))==0 then match aj.dF (aU (gR o3 5)) (.str ((⟨#[116,115]⟩:ByteArray)))with|some m33=>(bif m33.toB then match aj.dF (aU (gR o3 5)) (.str ((⟨#[100,101,99,108,115]⟩:ByteArray)))with|some m34=>(bif m34.toB then match aj.dF (aU (gR o3 5)) (.str ((⟨#[97,108,116,115]⟩:ByteArray)))with|some m35=>(bif m35.toB then fa else bu [aJ (ln (gR (gC o5 0) 20)==0)])|none=>(bu [aJ (ln (gR (gC o5 0) 20)==0)])else bif bH ((ln (gR (gC o5 0) 18))+(ln (gR (gC o5 0) 19)))==0 then match aj.dF (aU (gR o3 5)) (.str ((⟨#[97,108,116,115]⟩:ByteArray)))with|some m36=>(bif m36.toB then fa else bu [aJ (ln (gR (gC o5 0) 20)==0)])|none=>(bu [aJ (ln (gR (gC o5 0) 20)==0)])else gg)|none=>(bif bH ((ln (gR (gC o5 0) 18))+(ln (gR (gC o5 0) 19)))==0 then match aj.dF (aU (gR o3 5)) (.str ((⟨#[97,108,116,115]⟩:ByteArray)))with|some m37=>(bif m37.toB then fa else bu [aJ (ln (gR (gC o5 0) 20)==0)])|none=>(bu [aJ (ln (gR (gC o5 0) 20)==0)])else gg)else bif ln (gR (gC o5 0) 16)==0 then match aj.dF (aU (gR o3 5)) (.str ((⟨#[100,101,99,108,115]⟩:ByteArray)))with|some m38=>(bif m38.toB then match aj.dF (aU (gR o3 5)) (.str ((⟨#[97,108,116,115]⟩:ByteArray)))with|some m39=>(bif m39.toB then fa else bu [aJ (ln (gR (gC o5 0) 20)==0)])|none=>(bu [aJ (ln (gR (gC o5 0) 20)==0)])else bif bH ((ln (gR (gC o5 0) 18))+(ln (gR (gC o5 0) 19)))==0 then match aj.dF (aU (gR o3 5)) (.str ((⟨#[97,108,116,115]⟩:ByteArray)))with|some m40=>(bif m40.toB then fa else bu [aJ (ln (gR (gC o5 0) 20)==0)])|none=>(bu [aJ (ln (gR (gC o5 0) 20)==0)])else gg)|none=>(bif bH ((ln (gR (gC o5 0) 18))+(ln (gR (gC o5 0) 19)))==0 then match aj.dF (aU (gR o3 5)) (.str ((⟨#[97,108,116,115]⟩:ByteArray)))with|some m41=>(bif m41.toB then fa else bu [aJ (ln (gR (gC o5 0) 20)==0)])|none=>(bu [aJ (ln (gR (gC o5 0) 20)==0)])else gg)else gg)|none=>(bif ln (gR (gC o5 0) 16)==0 then match aj.dF (aU (gR o3 5)) (.str ((⟨#[100,101,99,108,115]⟩:ByteArray)))with|some m42=>(bif m42.toB then match aj.dF (aU (gR o3 5)) (.str ((⟨#[97,108,116,115]⟩:ByteArray)))with|some m43=>(bif m43.toB then fa else bu [aJ (ln (gR (gC o5 0) 20)==0)])|none=>(bu [aJ (ln (gR (gC o5 0) 20)==0)])else bif bH ((ln (gR (gC o5 0) 18))+(ln (gR (gC o5 0) 19)))==0 then match aj.dF (aU (gR o3 5)) (.str ((⟨#[97,108,116,115]⟩:ByteArray)))with|some m44=>(bif m44.toB then fa else bu [aJ (ln (gR (gC o5 0) 20)==0)])|none=>(bu [aJ (ln (gR (gC o5 0) 20)==0)])else gg)|none=>(bif bH ((ln (gR (gC o5 0) 18))+(ln (gR (gC o5 0) 19)))==0 then match aj.dF (aU (gR o3 5)) (.str ((⟨#[97,108,116,115]⟩:ByteArray)))with|some m45=>(bif m45.toB then fa else bu [aJ (ln (gR (gC o5 0) 20)==0)])|none=>(bu [aJ (ln (gR (gC o5 0) 20)==0)])else gg)else gg)else gg)else bu [aJ (gB o5 0)]else bu [aJ (gB o3 0)]:aL):=ac
def avY:XG G N [cE i0]=(dr (i0==16) fa (i0==17) fa (dr (i0==18) fa (i0==19) fa (dr (i0==15) fa (i0==11) fa (dr (i0==12) fa (i0==22) fa (kI (aJ (i0==21)))))):aL):=ac
def axS:bN CX EE G N QP [J l0]=(bO (XG G N [pG l0]) λ_ o1=>dr (fm o1) fa ((gI l0 0)==9) (kI (aJ (mL 0 l0 16))) gg:aL):=ac
def as5:WB G N [J l0,aw r1,.ae 0 r2,J l3,J l4]=(eL (mL 0 l3 5) (bO (G QP [aE l4]) λ_ o1=>eL (fm o1) (oG l0 (.mp 2) r1 [bK r2,bx l3 (.ptr 0 0 0),aE l4]) (cu l0 (.mp 2)) (bI r1) [bK r2,bx l3 (.ptr 0 0 0),aE l4]) (cu l0 (.mp 2)) (bI r1) [bK r2,bx l3 (.ptr 0 0 0),aE l4]:aL):=ac
def ar8:Wj G N [cE i0,J l1,aw r2,.ae 0 r3]=(dr (i0==18) (gJ true (cu l1 (.mp 2)) (bI r2) [bK r3]) (i0==19) (gJ true (cu l1 (.mp 2)) (bI r2) [bK r3]) (gJ (i0==21) (cu l1 (.mp 2)) (bI r2) [bK r3]):aL):=ac
def asw:Ws G N [J l0,aw r1,.ae 0 r2,J l3,J l4]=(bO (Wj G N [pG l4,cu l0 (.mp 2),bI r1,bK r2]) λ_ o3=>dr (fm o3) (lj (sR l3 7) [aJ (sR l3 8),bY o3 (.mp 2),bZ o3,bS o3,bx l3 (.ptr 0 0 0),aE l4] (p8 (bY o3 (.mp 2)) o3 [bS o3,bx l3 (.ptr 0 0 0),aE l4])) ((gI l4 0)==11) (jH mJ (bY o3 (.mp 2)) [bZ o3,bS o3,bx l3 (.ptr 0 0 0),aE l4]) (eL ((gI l4 0)==12) (jH mJ (bY o3 (.mp 2)) [bZ o3,bS o3,bx l3 (.ptr 0 0 0),aE l4]) (bY o3 (.mp 2)) (bZ o3) [bS o3,bx l3 (.ptr 0 0 0),aE l4]):aL):=ac
def auk:bN CX EE G N W6 [J l0,J l1,J l2,aw r3,.ae 0 r4]=(bO (WB G N [cu l2 (.mp 2),bI r3,bK r4,bx l0 (.ptr 0 0 0),aE l1]) λq2 o2=>lh q2 (bO (Ws G N [jM o2 0 (.mp 2),gL o2 1,kK o2 2,ma o2 3 (.ptr 0 0 0),aE (gC o2 4)]) λq4 o4=>lh q4 (mb (sR (gC o4 3) 8) mJ [jM o4 0 (.mp 2),gL o4 1,kK o4 2] (bO (G QP [aE (gC o4 4)]) λ_ o5=>gJ (dG o5) (jM o4 0 (.mp 2)) (gL o4 1) [kK o4 2])) o4 [bY o4 (.mp 2),bZ o4,bS o4]) o2 [bY o2 (.mp 2),bZ o2,bS o2]:aL):=ac
def av2:bN CX EE G N Fi [J l0,iI i1,J l2,aw r3,.ae 0 r4]=(fb i1 r3<|bf (iv i1.toNat r3.length)<|bif da 0 (oI r3 i1)then bO (G wa [dp l0 5,oE (bG r3 i1)]) λ_ o1=>oH o1 (cu l2 (.mp 2)) (bI r3) [bK r4]else dr (cj (gI (bG r3 i1) 1) 0) (gJ true (cu l2 (.mp 2)) (bI r3) [bK r4]) ((gI (bG r3 i1) 1)==(gI l0 1)) (bO (G wa [dp l0 4,eM (bG r3 i1) 2]) λ_ o2=>oH o2 (cu l2 (.mp 2)) (bI r3) [bK r4]) (gw cx (cu l2 (.mp 2)) (bI r3) [bK r4]):aL):=ac
def aui:bN CX EE G N W4 [J l0,J l1,J l2,aw r3,.ae 0 r4]=(bO (G Ie [bx l1 (.ptr 0 0 0),cp l0,cu l2 (.mp 2),bI r3,bK r4]) λ_ o1=>gJ (dG o1) (bx l1 (.ptr 1 0 0)) (jL o1 1 2 [dD (.mp 3)]) [bZ o1,bS o1]:aL):=ac
def adw:HR G N (n+1) [bR r0,iI i1,iI i2,J l3,J l4,aw r5,.ae 0 r6]=(iC i2 i1 i2 r0 (bO (G W4 [cp (bG r0 i2),bx l3 (.ptr 1 0 0),lZ l4 2 [dD (.mp 3)],bI r5,bK r6]) λ_ o1=>mb (fm o1) (iI i2) [oJ o1 (.ptr 1 0 0),jL o1 2 2 [dD (.mp 3)],jf o1,jU o1] (HR G N n [dR r0,iI i1,cD i2,oJ o1 (.ptr 1 0 0),jL o1 2 2 [dD (.mp 3)],jf o1,jU o1])) (jH (bx l3 (.ptr 1 0 0)) (lZ l4 2 [dD (.mp 3)]) [bI r5,bK r6]):aL):=ac
def aqC:bN CX EE G N VO [bR r0,J l1,J l2,aw r3,.ae 0 r4]=(bO (HR G N N (dR r0::oK r0::fQ (bx l1 (.ptr 1 0 0)) [lZ l2 2 [dD (.mp 3)],bI r3,bK r4])) λq2 o2=>kv q2 (gw (oE o2) (oJ o2 (.ptr 1 0 0)) (jL o2 2 2 [dD (.mp 3)]) [jf o2,jU o2]) (iI (-1)) [bx (cP o2) (.ptr 1 0 0),jL o2 1 2 [dD (.mp 3)],bZ o2,bS o2]:aL):=ac
def aqp:bN CX EE G N VJ [bR r0,J l1,J l2,aw r3,.ae 0 r4]=(bO (G VO [dR r0,bx l1 (.ptr 1 0 0),lZ l2 2 [dD (.mp 3)],bI r3,bK r4]) λ_ o1=>gJ (da 0 (nh o1)) (oJ o1 (.ptr 1 0 0)) (jL o1 2 2 [dD (.mp 3)]) [jf o1,jU o1]:aL):=ac
def aue:Xa G N [J l0,aw r1,.ae 0 r2,J l3,J l4]=(dr ((gI l4 0)==2) (bO (G Fi [bx l3 (.ptr 0 0 0),eM l4 3,cu l0 (.mp 2),bI r1,bK r2]) λ_ o1=>eL (dG o1) (p8 (bY o1 (.mp 2)) o1 [bS o1,bx l3 (.ptr 0 0 0),cp l4]) (bY o1 (.mp 2)) (bZ o1) [bS o1,bx l3 (.ptr 0 0 0),cp l4]) ((gI l4 0)==3) (bO (G Fi [bx l3 (.ptr 0 0 0),eM l4 3,cu l0 (.mp 2),bI r1,bK r2]) λ_ o2=>eL (dG o2) (p8 (bY o2 (.mp 2)) o2 [bS o2,bx l3 (.ptr 0 0 0),cp l4]) (bY o2 (.mp 2)) (bZ o2) [bS o2,bx l3 (.ptr 0 0 0),cp l4]) (eL ((gI l4 0)==12) (fb (gI l4 3) r1 (bf (iv (gI l4 3).toNat r1.length) (eL (!(((gI (bG r1 (gI l4 3)) 0)==(-1))&&(((gI (bG r1 (gI l4 3)) 1)==(-1))&&(((gI (bG r1 (gI l4 3)) 2)==(-1))&&true)))) (oG l0 (.mp 2) r1 [bK r2,bx l3 (.ptr 0 0 0),cp l4]) (cu l0 (.mp 2)) (bI r1) [bK r2,bx l3 (.ptr 0 0 0),cp l4]))) (cu l0 (.mp 2)) (bI r1) [bK r2,bx l3 (.ptr 0 0 0),cp l4]):aL):=ac
def afc:bN CX EE G N Ie [J l0,J l1,J l2,aw r3,.ae 0 r4]=(bO (Xa G N [cu l2 (.mp 2),bI r3,bK r4,bx l0 (.ptr 0 0 0),cp l1]) λq3 o3=>lh q3 (bO (G VJ [iJ (gC o3 4) 8,ma o3 3 (.ptr 1 0 0),jL o3 0 2 [dD (.mp 3)],gL o3 1,kK o3 2]) λ_ o4=>gJ (dG o4) (jM o4 2 (.mp 2)) (jf o4) [jU o4]) o3 [bY o3 (.mp 2),bZ o3,bS o3]:aL):=ac
def afd:bN CX EE G N CK [J l0,J l1,J l2,aw r3,.ae 0 r4]=(bO (G Qv [rj l2 [eM l2 1],cp l1]) λ_ o1=>eL (gB o1 1) (bO (G Ie [bx l0 (.ptr 0 0 0),cp l1,cu l2 (.mp 2),bI r3,bK r4]) λ_ o2=>gw (pH o1) (oL o2) (bY o2 (.mp 2)) [bZ o2,bS o2]) (pH o1) cx [cu l2 (.mp 2),bI r3,bK r4]:aL):=ac
def atJ:bN CX EE G N WR [iI i0,J l1,J l2,aw r3,.ae 0 r4]=(bO (G wa [dp l1 6,iI i0]) λ_ o1=>oH o1 (bx l1 (.ptr 1 0 0)) (lZ l2 2 [dD (.mp 3)]) [bI r3,bK r4]:aL):=ac
def ady:La G N (n+1) [aM r0,iI i1,iI i2,J l3,J l4,aw r5,.ae 0 r6]=(iC i2 i1 i2 r0 (bO (G WR [oE (bG r0 i2),bx l3 (.ptr 1 0 0),lZ l4 2 [dD (.mp 3)],bI r5,bK r6]) λ_ o1=>mb (fm o1) (iI i2) [oJ o1 (.ptr 1 0 0),jL o1 2 2 [dD (.mp 3)],jf o1,jU o1] (La G N n [c8 r0,iI i1,cD i2,oJ o1 (.ptr 1 0 0),jL o1 2 2 [dD (.mp 3)],jf o1,jU o1])) (jH (bx l3 (.ptr 1 0 0)) (lZ l4 2 [dD (.mp 3)]) [bI r5,bK r6]):aL):=ac
def adF:bN CX EE G N VS [aM r0,J l1,J l2,aw r3,.ae 0 r4]=(bO (La G N N (c8 r0::oK r0::fQ (bx l1 (.ptr 1 0 0)) [lZ l2 2 [dD (.mp 3)],bI r3,bK r4])) λq2 o2=>kv q2 (gw (oE o2) (oJ o2 (.ptr 1 0 0)) (jL o2 2 2 [dD (.mp 3)]) [jf o2,jU o2]) (iI (-1)) [bx (cP o2) (.ptr 1 0 0),jL o2 1 2 [dD (.mp 3)],bZ o2,bS o2]:aL):=ac
end
noncomputable section
variable {G:Nat->ak->Option UO} {N n:Nat} {i0 i1 i2:Int} {l0 l1 l2 l3 l4 l5 l6:ak} {r0 r1 r2 r3 r4 r5 r6 r7:aY}
def aqs:bN CX EE G N Pu [aM r0,J l1,J l2,aw r3,.ae 0 r4]=(bO (G VS [c8 r0,bx l1 (.ptr 1 0 0),lZ l2 2 [dD (.mp 3)],bI r3,bK r4]) λ_ o1=>gJ (da 0 (nh o1)) (oJ o1 (.ptr 1 0 0)) (jL o1 2 2 [dD (.mp 3)]) [jf o1,jU o1]:aL):=ac
def as7:WD G N [iI i0,J l1,aw r2,.ae 0 r3,J l4,J l5,bR r6]=(wq9 ((gI l4 0)==1) (fQ (cu l1 (.mp 2)) [bI r2,bK r3,jq l4,ki (pG l5) (eM l4 1) [eM l4 2,eM l5 3,.au 5],dR r6]) (dr ((gI l4 0)==2) (gw (iI i0) (cu l1 (.mp 2)) (bI r2) [bK r3,jq l4,p9 Bb l4 (0,pG l5) [df 4 5],dR r6]) ((gI l4 0)==3) (gw (iI i0) (cu l1 (.mp 2)) (bI r2) [bK r3,jq l4,oY Bb l5 4 5 [],dR r6]) (oG l1 (.mp 2) r2 [bK r3,jq l4,oY Bb l5 4 6 [],jK,dR r6])):aL):=ac
def as6:WC G N [iI i0,J l1,aw r2,.ae 0 r3,J l4,J l5,bR r6]=(dr ((gI l5 1) != (gI l4 1)) (oG l1 (.mp 2) r2 [bK r3,jq l4,oY Bb l5 4 6 [],jK,dR r6]) ((gI l5 2) != (gI l4 2)) (oG l1 (.mp 2) r2 [bK r3,jq l4,oY Bb l5 4 6 [],jK,dR r6]) (dr ((gI l5 3) != (gI l4 3)) (oG l1 (.mp 2) r2 [bK r3,jq l4,oY Bb l5 4 6 [],jK,dR r6]) ((ln (gR l4 4)) != i0) (oG l1 (.mp 2) r2 [bK r3,jq l4,oY Bb l5 4 6 [],jK,dR r6]) (gw (cu l1 (.mp 2)) (bI r2) (bK r3) [jq l4,oY Bb l5 4 5 [],dR r6])):aL):=ac
def aeB:CB G N [iI i0,J l1,aw r2,.ae 0 r3,J l4,J l5,J l6,aM r7]=(eL (i0==1) (oj 0 l5 4 (bO (G CK [bx l4 (.ptr 0 0 0),cp (nR l5 4 0),cu l1 (.mp 2),bI r2,bK r3]) λ_ o3=>eL (sR o3 1) (jJ (jM o3 2 (.mp 2)) (jf o3) [jU o3,bx l4 (.ptr 0 0 0),jq l5,pH o3,jK]) (jM o3 2 (.mp 2)) (jf o3) [jU o3,bx l4 (.ptr 0 0 0),jq l5,pH o3])) (cu l1 (.mp 2)) (bI r2) [bK r3,bx l4 (.ptr 0 0 0),jq l5,p9 sx l6 (2,c8 r7) []]:aL):=ac
def arJ:Wb G N [J l0,aw r1,.ae 0 r2,J l3,J l4,J l5]=(lj (fm l5) [cx,cu l0 (.mp 2),bI r1,bK r2,bx l3 (.ptr 0 0 0),jq l4,fx l5,jK] (bO (G Qp [rj l0 [eM l0 1],eM l4 1,eM l4 2,eM l4 3]) λ_ o7=>lj (dG o7) [cx,cu l0 (.mp 2),bI r1,bK r2,bx l3 (.ptr 0 0 0),jq l4,fx l5,jK] (bO (G Fi [bx l3 (.ptr 0 0 0),eM l4 1,cu l0 (.mp 2),bI r1,bK r2]) λ_ o8=>eL (dG o8) (p8 (bY o8 (.mp 2)) o8 [bS o8,bx l3 (.ptr 0 0 0),jq l4,fx l5,jK]) (bY o8 (.mp 2)) (bZ o8) [bS o8,bx l3 (.ptr 0 0 0),jq l4,fx l5])):aL):=ac
def ar9:PN G N [J l0,aw r1,.ae 0 r2,J l3,J l4,J l5]=(dr ((gI l4 0)==1) (bO (G Ff [rj l0 [eM l0 1],eM l4 1,eM l4 2]) λ_ o5=>lj (dG o5) [cx,cu l0 (.mp 2),bI r1,bK r2,bx l3 (.ptr 0 0 0),jq l4,fx l5,jK] (bO (G Fi [bx l3 (.ptr 0 0 0),eM l4 1,cu l0 (.mp 2),bI r1,bK r2]) λ_ o6=>eL (dG o6) (p8 (bY o6 (.mp 2)) o6 [bS o6,bx l3 (.ptr 0 0 0),jq l4,fx l5,jK]) (c8 ([[eM l4 1]]:aY)) (bY o6 (.mp 2)) [bZ o6,bS o6,bx l3 (.ptr 0 0 0),jq l4,fx l5])) ((gI l4 0)==2) (bO (Wb G N [cu l0 (.mp 2),bI r1,bK r2,bx l3 (.ptr 0 0 0),jq l4,fx l5]) λq9 o9=>Th q9 (c8 ([[eM (gC o9 4) 1]]:aY)) [jM o9 0 (.mp 2),gL o9 1,kK o9 2,ma o9 3 (.ptr 0 0 0),jq (gC o9 4),fx (gC o9 5)] (p7 o9 (bY o9 (.mp 2)) [bZ o9,bS o9,ma o9 4 (.ptr 0 0 0),jq (gC o9 5),fx (gC o9 6),dp o9 7])) (eL (dG l5) (eL (sR l5 1) (oG l0 (.mp 2) r1 [bK r2,bx l3 (.ptr 0 0 0),jq l4,fx l5,jK]) (dp l5 2) (cu l0 (.mp 2)) [bI r1,bK r2,bx l3 (.ptr 0 0 0),jq l4,fx l5]) (dp l5 2) (cu l0 (.mp 2)) [bI r1,bK r2,bx l3 (.ptr 0 0 0),jq l4,fx l5]):aL):=ac
def auJ:bN CX EE G N CJ [J l0,J l1,J l2,aw r3,.ae 0 r4]=(bO (WD G N [iI 1,cu l2 (.mp 2),bI r3,bK r4,jq l1,JN (pG l1) (kJ (fQ (.au 5) [])),dR gX]) λq1 o1=>kv q1 (bO (WC G N [oE o1,bY o1 (.mp 2),bZ o1,bS o1,jq (gC o1 4),oY Bb (gC o1 5) 4 5 [],iJ o1 6]) λq2 o2=>kv q2 (bO (CB G N [oE o1,jM o2 0 (.mp 2),gL o2 1,kK o2 2,bx l0 (.ptr 0 0 0),jq (gC o2 3),ki cx cx (.au 6::kJ []),jK]) λq4 o4=>kv q4 (bO (PN G N [jM o4 0 (.mp 2),gL o4 1,kK o4 2,ma o4 3 (.ptr 0 0 0),jq (gC o4 4),fx (gC o4 5)]) λrD cV=>kv rD (bO (G Pu [dp cV 0,ma cV 4 (.ptr 1 0 0),jL cV 1 2 [dD (.mp 3)],bZ cV,bS cV]) λ_ dt=>gw (dp cV 0) (aJ (dG dt)) (jM dt 2 (.mp 2)) [jf dt,jU dt]) (dp cV 7) [oL cV,bY cV (.mp 2),bZ cV,bS cV]) (dp o4 7) [oL o4,bY o4 (.mp 2),bZ o4,bS o4]) (dp o2 6) [oL o2,bY o2 (.mp 2),bZ o2,bS o2]) (dp o1 6) [oL o1,bY o1 (.mp 2),bZ o1,bS o1]:aL):=ac
def awL:bN CX EE G N XK [iI i0,J l1]=(bO (G wa [dp l1 0,iI i0]) λ_ o1=>JM (dG o1) (gf l1 []) []:aL):=ac
def adO:PC G N (n+1) [aM r0,iI i1,iI i2,J l3]=(iC i2 i1 i2 r0 (bO (G XK [oE (bG r0 i2),gf l3 []]) λ_ o1=>mb (fm o1) (iI i2) [gf (dJ o1) []] (PC G N n [c8 r0,iI i1,cD i2,gf (dJ o1) []])) (xQ (gf l3 []) []):aL):=ac
def ad9:bN CX EE G N aec [aM r0,J l1]=(bO (PC G N N (c8 r0::oK r0::fQ (gf l1 []) [])) λq2 o2=>kv q2 (jb (oE o2) (gf (dJ o2) [])) (iI (-1)) [gf (cP o2) []]:aL):=ac
def adT:bN CX EE G N adW [aM r0,J l1]=(bO (G aec [c8 r0,gf l1 []]) λ_ o1=>JM (da 0 (nh o1)) (gf (dJ o1) []) []:aL):=ac
def af6:bN CX EE G N L1 [aM r0,aM r1]=(bO (G adW [c8 r0,oD (c8 r1)]) λ_ o1=>kI (aJ (dG o1)):aL):=ac
def av4:bN CX EE G N Xx [J l0,J l1]=(dr (gB l1 3) (dr (gB l0 1) fa (fm l0) (bO (G L1 [dp l0 2,dp l1 4]) λ_ o1=>qW o1) gg) (dG l0) (mb (da (gI l1 1) (gI l0 3)) (aJ (da (gI l0 4) (gI l1 2))) [] gg) gg:aL):=ac
def auL:bN CX EE G N Xe [iI i0,J l1,J l2,J l3,aw r4,.ae 0 r5]=(fG i0 l3 0 (bO (G Xx [fx l1,qv (cF l3 0 i0)]) λ_ o1=>gJ (dG o1) (fx l1) (bx l2 (.ptr 2 0 0)) [lZ l3 3 [dD (.mp 4)],bI r4,bK r5]):aL):=ac
def adC:Ld G N (n+1) [aM r0,iI i1,iI i2,J l3,J l4,J l5,aw r6,.ae 0 r7]=(iC i2 i1 i2 r0 (bO (G Xe [oE (bG r0 i2),fx l3,bx l4 (.ptr 2 0 0),lZ l5 3 [dD (.mp 4)],bI r6,bK r7]) λ_ o1=>mb (fm o1) (iI i2) [fx (dJ o1),ma o1 2 (.ptr 2 0 0),jL o1 3 3 [dD (.mp 4)],gL o1 4,kK o1 5] (Ld G N n [c8 r0,iI i1,cD i2,fx (dJ o1),ma o1 2 (.ptr 2 0 0),jL o1 3 3 [dD (.mp 4)],gL o1 4,kK o1 5])) (jH (fx l3) (bx l4 (.ptr 2 0 0)) [lZ l5 3 [dD (.mp 4)],bI r6,bK r7]):aL):=ac
def adQ:bN CX EE G N VW [aM r0,J l1,J l2,J l3,aw r4,.ae 0 r5]=(bO (Ld G N N (c8 r0::oK r0::fQ (fx l1) [bx l2 (.ptr 2 0 0),lZ l3 3 [dD (.mp 4)],bI r4,bK r5])) λq2 o2=>kv q2 (gw (oE o2) (fx (dJ o2)) (ma o2 2 (.ptr 2 0 0)) [jL o2 3 3 [dD (.mp 4)],gL o2 4,kK o2 5]) (iI (-1)) [pH o2,oJ o2 (.ptr 2 0 0),jL o2 2 3 [dD (.mp 4)],jf o2,jU o2]:aL):=ac
def aqD:bN CX EE G N VP [aM r0,J l1,J l2,J l3,aw r4,.ae 0 r5]=(bO (G VW [c8 r0,fx l1,bx l2 (.ptr 2 0 0),lZ l3 3 [dD (.mp 4)],bI r4,bK r5]) λ_ o1=>gJ (da 0 (nh o1)) (fx (dJ o1)) (ma o1 2 (.ptr 2 0 0)) [jL o1 3 3 [dD (.mp 4)],gL o1 4,kK o1 5]:aL):=ac
def av3:bN CX EE G N CL [J l0,J l1,aM r2,J l3,aw r4,.ae 0 r5]=(bO (G CK [bx l0 (.ptr 0 0 0),cp l1,cu l3 (.mp 2),bI r4,bK r5]) λ_ o1=>kh (gB o1 1) (bO (G VP [c8 r2,pH o1,bx l0 (.ptr 2 0 0),jL o1 2 3 [dD (.mp 4)],jf o1,jU o1]) λ_ o2=>gJ (dG o2) (jM o2 3 (.mp 2)) (gL o2 4) [kK o2 5]) (jM o1 2 (.mp 2)) [jf o1,jU o1]:aL):=ac
def aeC:bN CX EE G N Lr [J l0,J l1,J l2,aw r3,.ae 0 r4]=(bO (G CK [bx l0 (.ptr 0 0 0),cp l1,cu l2 (.mp 2),bI r3,bK r4]) λ_ o1=>kh (gB o1 1) (bO (G u6 [pH o1]) λ_ o2=>oH o2 (jM o1 2 (.mp 2)) (jf o1) [jU o1]) (jM o1 2 (.mp 2)) [jf o1,jU o1]:aL):=ac
def aeS:bN CX EE G N zx [J l0,J l1,J l2,aw r3,.ae 0 r4]=(bO (G CK [bx l0 (.ptr 0 0 0),cp l1,cu l2 (.mp 2),bI r3,bK r4]) λ_ o1=>kh (gB o1 1) (gJ (dG (cP o1)) (jM o1 2 (.mp 2)) (jf o1) [jU o1]) (jM o1 2 (.mp 2)) [jf o1,jU o1]:aL):=ac
def Ww:bN CX EE G N Lw [J l0,J l1,J l2,aw r3,.ae 0 r4]=(bO (G CJ [bx l0 (.ptr 0 0 0),jq l1,cu l2 (.mp 2),bI r3,bK r4]) λ_ o1=>kh (gB o1 1) (kh ((gI l1 0) != 3) (oj 0 o1 0 (fG (nh (nR o1 0 0)) (iu o1) 0 (gJ (sR (cF (iu o1) 0 (nh (nR o1 0 0))) 3) (jM o1 2 (.mp 2)) (jf o1) [jU o1]))) (jM o1 2 (.mp 2)) [jf o1,jU o1]) (jM o1 2 (.mp 2)) [jf o1,jU o1]:aL):=ac
def avp:bN CX EE G N Qg [J l0,iI i1,iI i2,J l3,aw r4,.ae 0 r5]=(kh (da 0 i1) (kh (mL i1 l3 5) (kh (da 0 i2) (fG i1 l3 5 (gJ (mL i2 (cF l3 5 i1) 2) (cu l3 (.mp 2)) (bI r4) [bK r5])) (cu l3 (.mp 2)) [bI r4,bK r5]) (cu l3 (.mp 2)) [bI r4,bK r5]) (cu l3 (.mp 2)) [bI r4,bK r5]:aL):=ac
def auM:bN CX EE G N H9 [J l0,iI i1,iI i2,J l3,aw r4,.ae 0 r5]=(kh (da 0 i1) (kh (mL i1 l3 4) (kh (da 0 i2) (fG i1 l3 4 (gJ (mL i2 (cF l3 4 i1) 1) (cu l3 (.mp 2)) (bI r4) [bK r5])) (cu l3 (.mp 2)) [bI r4,bK r5]) (cu l3 (.mp 2)) [bI r4,bK r5]) (cu l3 (.mp 2)) [bI r4,bK r5]:aL):=ac
def ayS:bN CX EE G N yp [J l0]=(bO (G u9 [aE l0,J zz7]) λ_ o1=>qW o1:aL):=ac
def asv:Wr G N [cE i0,J l1,aw r2,.ae 0 r3]=(eL (i0==2) (gJ true (cu l1 (.mp 2)) (bI r2) [bK r3]) (aJ (i0==3)) (cu l1 (.mp 2)) [bI r2,bK r3]:aL):=ac
def as4:WA G N [iI i0,J l1,aw r2,.ae 0 r3,J l4]=(bO (Wr G N [cE (gI l4 11),J (sT (bg dM 0 l1) eH),aw r2,.ae 0 (bz (aU r3))]) λ_ o1=>bif gB o1 0 then bu [iI 1,J (sT (bg dM 0 (gC o1 1)) eH),aw (gR o1 2),.ae 0 (bz (aU (gR o1 3))),aE l4]else bif gI l4 11==0 then bf (da 0 (bH (ln (gR l4 17)- 2))&&da (bH (ln (gR l4 17)- 2)) (ln (gR l4 17))&&da (ln (gR l4 17)) (ln (gR l4 17))&&da (ln (gR l4 17)) (ln (gR l4 17)))<|bf (cj 0 (ln ((gR l4 17).drop ((bH (ln (gR l4 17)- 2)).toNat))))<|bO (G yp [aE (gA ((gR l4 17).drop ((bH (ln (gR l4 17)- 2)).toNat)) 0)]) λ_ o2=>bif !(gB o2 0)then lK [bq,J (sT (bg dM 0 (gC o1 1)) eH),aw (gR o1 2),.ae 0 (bz (aU (gR o1 3))),aE l4]else bf (cj 1 (ln ((gR l4 17).drop ((bH (ln (gR l4 17)- 2)).toNat))))<|bO (G yp [aE (gA ((gR l4 17).drop ((bH (ln (gR l4 17)- 2)).toNat)) 1)]) λ_ o3=>bif !(gB o3 0)then lK [bq,J (sT (bg dM 0 (gC o1 1)) eH),aw (gR o1 2),.ae 0 (bz (aU (gR o1 3))),aE l4]else bu [iI i0,J (sT (bg dM 0 (gC o1 1)) eH),aw (gR o1 2),.ae 0 (bz (aU (gR o1 3))),aE l4]else bif gI l4 11==1 then bu [iI i0,J (sT (bg dM 0 (gC o1 1)) eH),aw (gR o1 2),.ae 0 (bz (aU (gR o1 3))),aE l4]else lK [bq,J (sT (bg dM 0 (gC o1 1)) eH),aw (gR o1 2),.ae 0 (bz (aU (gR o1 3))),aE l4]:aL):=ac
def auH:bN CX EE G N Fe [J l0,J l1,J l2,aw r3,.ae 0 r4]=(bO (WA G N (fQ (cu l2 (.mp 2)) [bI r3,bK r4,aE l1])) λq4 o4=>lh q4 (kh ((ln (gR (gC o4 4) 12))==(gI o4 0)) (mb ((gI o4 0)==0) mJ [bY o4 (.mp 2),bZ o4,bS o4] (oj 0 (gC o4 4) 12 (bO (G zx [bx l0 (.ptr 0 0 0),cp (nR (gC o4 4) 12 0),bY o4 (.mp 2),bZ o4,bS o4]) λ_ o5=>oH o5 (bY o5 (.mp 2)) (bZ o5) [bS o5]))) (bY o4 (.mp 2)) [bZ o4,bS o4]) o4 [bY o4 (.mp 2),bZ o4,bS o4]:aL):=ac
def ayU:bN CX EE G N Mh [J l0,J l1]=(dr (gB l0 3) (vu (gB l0 3) (gB l1 3) (bO (G L1 [dp l0 4,dp l1 4]) λ_ o1=>qW o1)) (gB l1 3) (vu (gB l0 3) (gB l1 3) (bO (G L1 [dp l0 4,dp l1 4]) λ_ o2=>qW o2)) (mb (da (gI l1 1) (gI l0 1)) (aJ (da (gI l0 2) (gI l1 2))) [] gg):aL):=ac
end
noncomputable section
variable {G:Nat->ak->Option UO} {N n:Nat} {i0 i1 i2 i3:Int} {l0 l1 l2 l3 l4 l5 l6 l7:ak} {r0 r1 r2 r3 r4 r5 r6 r7 r8:aY}
def aum:bN CX EE G N W7 [iI i0,J l1,J l2,J l3,J l4,aw r5,.ae 0 r6]=(fG (nh l3) l2 1 (fG (nh (cF l2 1 (nh l3))) l4 0 (fG i0 l4 0 (bO (G Mh [qv (cF l4 0 (nh (cF l2 1 (nh l3)))),qv (cF l4 0 i0)]) λ_ o1=>gJ (dG o1) (bx l1 (.ptr 3 0 0)) (gf l2 [jd l2]) [sM l3,lZ l4 4 [dD (.mp 5)],bI r5,bK r6]))):aL):=ac
def adA:Lb G N (n+1) [aM r0,iI i1,iI i2,J l3,J l4,J l5,J l6,aw r7,.ae 0 r8]=(iC i2 i1 i2 r0 (bO (G W7 [oE (bG r0 i2),bx l3 (.ptr 3 0 0),gf l4 [jd l4],sM l5,lZ l6 4 [dD (.mp 5)],bI r7,bK r8]) λ_ o1=>mb (fm o1) (iI i2) [oJ o1 (.ptr 3 0 0),gf (iu o1) [jd (iu o1)],sM (gC o1 3),jL o1 4 4 [dD (.mp 5)],gL o1 5,kK o1 6] (Lb G N n [c8 r0,iI i1,cD i2,oJ o1 (.ptr 3 0 0),gf (iu o1) [jd (iu o1)],sM (gC o1 3),jL o1 4 4 [dD (.mp 5)],gL o1 5,kK o1 6])) (jH (bx l3 (.ptr 3 0 0)) (gf l4 [jd l4]) [sM l5,lZ l6 4 [dD (.mp 5)],bI r7,bK r8]):aL):=ac
def adK:bN CX EE G N VT [aM r0,J l1,J l2,J l3,J l4,aw r5,.ae 0 r6]=(bO (Lb G N N (c8 r0::oK r0::fQ (bx l1 (.ptr 3 0 0)) [gf l2 [jd l2],sM l3,lZ l4 4 [dD (.mp 5)],bI r5,bK r6])) λq2 o2=>kv q2 (gw (oE o2) (oJ o2 (.ptr 3 0 0)) (gf (iu o2) [jd (iu o2)]) [sM (gC o2 3),jL o2 4 4 [dD (.mp 5)],gL o2 5,kK o2 6]) (iI (-1)) [bx (cP o2) (.ptr 3 0 0),gf (dJ o2) [jd (dJ o2)],sM (iu o2),jL o2 3 4 [dD (.mp 5)],gL o2 4,kK o2 5]:aL):=ac
def aqx:bN CX EE G N VL [aM r0,J l1,J l2,J l3,J l4,aw r5,.ae 0 r6]=(bO (G VT [c8 r0,bx l1 (.ptr 3 0 0),gf l2 [jd l2],sM l3,lZ l4 4 [dD (.mp 5)],bI r5,bK r6]) λ_ o1=>gJ (da 0 (nh o1)) (oJ o1 (.ptr 3 0 0)) (gf (iu o1) [jd (iu o1)]) [sM (gC o1 3),jL o1 4 4 [dD (.mp 5)],gL o1 5,kK o1 6]:aL):=ac
def auf:Xb G N [J l0,aw r1,.ae 0 r2,J l3,J l4]=(lj ((gI l4 3)==(gI l3 1)) [cx,cu l0 (.mp 2),bI r1,bK r2,bx l3 (.ptr 0 0 0),aE l4] (bO (G H9 [bx l3 (.ptr 0 0 0),eM l4 3,eM l4 5,cu l0 (.mp 2),bI r1,bK r2]) λ_ o1=>eL (dG o1) (p8 (bY o1 (.mp 2)) o1 [bS o1,bx l3 (.ptr 0 0 0),aE l4]) (bY o1 (.mp 2)) (bZ o1) [bS o1,bx l3 (.ptr 0 0 0),aE l4]):aL):=ac
def atC:PZ G N [J l0,aw r1,.ae 0 r2,J l3,J l4]=(dr ((ln (gR l3 13)) != (ln (gR l4 0))) (oG l0 (.mp 2) r1 [bK r2,aE l3,gf l4 [jd l4]]) ((ln (gR l3 15)) != (ln (gR l4 1))) (oG l0 (.mp 2) r1 [bK r2,aE l3,gf l4 [jd l4]]) (gw (cu l0 (.mp 2)) (bI r1) (bK r2) [aE l3,gf l4 [jd l4]]):aL):=ac
def aeF:PU G N (n+1) [bR r0,iI i1,iI i2,J l3,aw r4,.ae 0 r5,J l6,J l7]=(iC i2 i1 i2 r0 (fG i2 l7 0 (bO (G CL [bx l6 (.ptr 0 0 0),cp (bG r0 i2),c8 ([[oE (cF l7 0 i2)]]:aY),cu l3 (.mp 2),bI r4,bK r5]) λ_ o4=>om o4 [bY o4 (.mp 2),bZ o4,bS o4,bx l6 (.ptr 0 0 0),gf l7 [jd l7]] (PU G N n [dR r0,iI i1,cD i2,bY o4 (.mp 2),bZ o4,bS o4,bx l6 (.ptr 0 0 0),gf l7 [jd l7]]))) (jH (cu l3 (.mp 2)) (bI r4) [bK r5,bx l6 (.ptr 0 0 0),gf l7 [jd l7]]):aL):=ac
def atB:WY G N [J l0,aw r1,.ae 0 r2,J l3,J l4,J l5]=(bO (PU G N N (iJ l4 13::nx l4 13::fQ (cu l0 (.mp 2)) [bI r1,bK r2,bx l3 (.ptr 0 0 0),gf l5 [jd l5]])) λq5 o5=>kv q5 (p7 o5 (bY o5 (.mp 2)) [bZ o5,bS o5,ma o5 4 (.ptr 0 0 0),aE l4,gf (gC o5 5) [jd (gC o5 5)]]) (jM o5 0 (.mp 2)) [gL o5 1,kK o5 2,ma o5 3 (.ptr 0 0 0),aE l4,gf (gC o5 4) [jd (gC o5 4)]]:aL):=ac
def Wo:H5 G N (n+1) [dj r0,iI i1,iI i2,J l3,aw r4,.ae 0 r5,J l6,J l7]=(iC i2 i1 i2 r0 (bO (G CJ [bx l6 (.ptr 0 0 0),jq (bG r0 i2),cu l3 (.mp 2),bI r4,bK r5]) λ_ o7=>vC (sR o7 1) [jM o7 2 (.mp 2),jf o7,jU o7,bx l6 (.ptr 0 0 0),gf l7 [jd l7]] (bO (G VL [dp o7 0,bx l6 (.ptr 3 0 0),gf l7 [jd l7],oD (iI i2),jL o7 2 4 [dD (.mp 5)],jf o7,jU o7]) λ_ o8=>vC (fm o8) [jM o8 4 (.mp 2),gL o8 5,kK o8 6,oJ o8 (.ptr 0 0 0),gf (iu o8) [jd (iu o8)]] (H5 G N n [jV r0,iI i1,cD i2,jM o8 4 (.mp 2),gL o8 5,kK o8 6,oJ o8 (.ptr 0 0 0),gf (iu o8) [jd (iu o8)]]))) (jH (cu l3 (.mp 2)) (bI r4) [bK r5,bx l6 (.ptr 0 0 0),gf l7 [jd l7]]):aL):=ac
def afe:bN CX EE G N Qh [J l0,J l1,J l2,aw r3,.ae 0 r4]=(bO (Xb G N [cu l2 (.mp 2),bI r3,bK r4,bx l0 (.ptr 0 0 0),aE l1]) λq2 o2=>lh q2 (fG (nS o2 4 3) (cP o2) 4 (fG (nS o2 4 5) (cF (cP o2) 4 (nS o2 4 3)) 1 (bO (PZ G N [jM o2 0 (.mp 2),gL o2 1,kK o2 2,aE (gC o2 4),gf (cF (cF (cP o2) 4 (nS o2 4 3)) 1 (nS o2 4 5)) [jd (cF (cF (cP o2) 4 (nS o2 4 3)) 1 (nS o2 4 5))]]) λq3 o3=>lh q3 (bO (WY G N [jM o3 0 (.mp 2),gL o3 1,kK o3 2,ma o2 3 (.ptr 0 0 0),aE (gC o3 3),gf (gC o3 4) [jd (gC o3 4)]]) λq6 o6=>lh q6 (bO (H5 G N N ((fu wc (gC o6 4) 15)::(nx (gC o6 4) 15)::fQ (jM o6 0 (.mp 2)) [gL o6 1,kK o6 2,ma o6 3 (.ptr 0 0 0),gf (gC o6 5) [jd (gC o6 5)]])) λq9 o9=>kv q9 (oH o9 (bY o9 (.mp 2)) (bZ o9) [bS o9]) mJ [jM o9 0 (.mp 2),gL o9 1,kK o9 2]) o6 [bY o6 (.mp 2),bZ o6,bS o6]) o3 [bY o3 (.mp 2),bZ o3,bS o3]))) o2 [bY o2 (.mp 2),bZ o2,bS o2]:aL):=ac
def av1:bN CX EE G N Qo [J l0,iI i1,J l2,aw r3,.ae 0 r4]=(bO (G H9 [bx l0 (.ptr 0 0 0),eM l0 1,iI i1,cu l2 (.mp 2),bI r3,bK r4]) λ_ o1=>kh (fm o1) (bO (G wa [dp l0 4,iI i1]) λ_ o2=>gJ (dG o2) (bY o1 (.mp 2)) (bZ o1) [bS o1]) (bY o1 (.mp 2)) [bZ o1,bS o1]:aL):=ac
def atK:bN CX EE G N WT [iI i0,iI i1,J l2,J l3,aw r4,.ae 0 r5]=(fG i0 l3 0 (fG i1 l3 0 (bO (G Mh [qv (cF l3 0 i0),qv (cF l3 0 i1)]) λ_ o1=>kh (fm o1) (fG i1 l3 0 (fG i0 l3 0 (bO (G Mh [qv (cF l3 0 i1),qv (cF l3 0 i0)]) λ_ o2=>oH o2 (bx l2 (.ptr 1 0 0)) (lZ l3 2 [dD (.mp 3)]) [bI r4,bK r5]))) (bx l2 (.ptr 1 0 0)) [lZ l3 2 [dD (.mp 3)],bI r4,bK r5])):aL):=ac
def adz:Pv G N (n+1) [aM r0,aM r1,iI i2,iI i3,J l4,J l5,aw r6,.ae 0 r7]=(iC i3 i2 i3 r1 (fb i3 r0 (bO (G WT [oE (bG r1 i3),oE (bG r0 i3),bx l4 (.ptr 1 0 0),lZ l5 2 [dD (.mp 3)],bI r6,bK r7]) λ_ o1=>om o1 [oJ o1 (.ptr 1 0 0),jL o1 2 2 [dD (.mp 3)],jf o1,jU o1] (Pv G N n [c8 r0,c8 r1,iI i2,cD i3,oJ o1 (.ptr 1 0 0),jL o1 2 2 [dD (.mp 3)],jf o1,jU o1]))) (jH (bx l4 (.ptr 1 0 0)) (lZ l5 2 [dD (.mp 3)]) [bI r6,bK r7]):aL):=ac
def aqH:bN CX EE G N Py [aM r0,aM r1,J l2,J l3,aw r4,.ae 0 r5]=(vC ((ln r0) != (ln r1)) [bx l2 (.ptr 1 0 0),lZ l3 2 [dD (.mp 3)],bI r4,bK r5] (bO (Pv G N N (c8 r1::c8 r0::oK r0::fQ (bx l2 (.ptr 1 0 0)) [lZ l3 2 [dD (.mp 3)],bI r4,bK r5])) λq2 o2=>kv q2 (oH o2 (oJ o2 (.ptr 1 0 0)) (jL o2 2 2 [dD (.mp 3)]) [jf o2,jU o2]) mJ [bx (cP o2) (.ptr 1 0 0),jL o2 1 2 [dD (.mp 3)],bZ o2,bS o2]):aL):=ac
def atA:WX G N [J l0,aw r1,.ae 0 r2,J l3,J l4]=(rk (gI l3 10) 0 (oG l0 (.mp 2) r1 [bK r2,bx l3 (.ptr 0 0 0),aE l4]) (bO (G H9 [bx l3 (.ptr 0 0 0),eM l4 3,eM l4 5,cu l0 (.mp 2),bI r1,bK r2]) λ_ o1=>dr (dG o1) (p8 (bY o1 (.mp 2)) o1 [bS o1,bx l3 (.ptr 0 0 0),aE l4]) ((gI l4 3)==(gI l3 1)) (eL ((gI l4 5)==(gI l3 10)) (p8 (bY o1 (.mp 2)) o1 [bS o1,bx l3 (.ptr 0 0 0),aE l4]) (bY o1 (.mp 2)) (bZ o1) [bS o1,bx l3 (.ptr 0 0 0),aE l4]) (gw (bY o1 (.mp 2)) (bZ o1) (bS o1) [bx l3 (.ptr 0 0 0),aE l4])):aL):=ac
def ae6:bN CX EE G N Xd [J l0,J l1,J l2,aw r3,.ae 0 r4]=(bO (WX G N [cu l2 (.mp 2),bI r3,bK r4,bx l0 (.ptr 0 0 0),aE l1]) λq2 o2=>lh q2 (fG (nS o2 3 1) (cP o2) 4 (fG (nS o2 3 10) (cF (cP o2) 4 (nS o2 3 1)) 1 (fG (nS o2 4 3) (cP o2) 4 (fG (nS o2 4 5) (cF (cP o2) 4 (nS o2 4 3)) 1 (mb ((bH ((ln (gR (cF (cF (cP o2) 4 (nS o2 4 3)) 1 (nS o2 4 5)) 0))+(ln (gR (cF (cF (cP o2) 4 (nS o2 4 3)) 1 (nS o2 4 5)) 1))))==0) mJ [jM o2 0 (.mp 2),gL o2 1,kK o2 2] (bO (G Py [dp (cF (cF (cP o2) 4 (nS o2 3 1)) 1 (nS o2 3 10)) 0,dp (cF (cF (cP o2) 4 (nS o2 4 3)) 1 (nS o2 4 5)) 0,ma o2 3 (.ptr 1 0 0),jL o2 0 2 [dD (.mp 3)],gL o2 1,kK o2 2]) λ_ o3=>kh (fm o3) (bO (G Py [jd (cF (cF (cP o2) 4 (nS o2 3 1)) 1 (nS o2 3 10)),jd (cF (cF (cP o2) 4 (nS o2 4 3)) 1 (nS o2 4 5)),oJ o3 (.ptr 1 0 0),jL o3 2 2 [dD (.mp 3)],jf o3,jU o3]) λ_ o4=>oH o4 (jM o4 2 (.mp 2)) (jf o4) [jU o4]) (jM o3 2 (.mp 2)) [jf o3,jU o3])))))) o2 [bY o2 (.mp 2),bZ o2,bS o2]:aL):=ac
def arU:Wd G N [J l0,aw r1,.ae 0 r2,J l3,J l4]=(bO (G Ff ((rj l0 [eM l0 1])::eM l4 2::mK [])) λ_ o5=>lj (dG o5) [cx,cu l0 (.mp 2),bI r1,bK r2,bx l3 (.ptr 0 0 0),aE l4] (fG (gI l4 2) l0 0 (lj (gB (cF l0 0 (gI l4 2)) 3) [cx,cu l0 (.mp 2),bI r1,bK r2,bx l3 (.ptr 0 0 0),aE l4] (fG (gI l4 2) l0 0 (lj ((gI (cF l0 0 (gI l4 2)) 0) != 1) [cx,cu l0 (.mp 2),bI r1,bK r2,bx l3 (.ptr 0 0 0),aE l4] (bO (G Fi [bx l3 (.ptr 0 0 0),eM l4 2,cu l0 (.mp 2),bI r1,bK r2]) λ_ o6=>lj (dG o6) [cx,bY o6 (.mp 2),bZ o6,bS o6,bx l3 (.ptr 0 0 0),aE l4] (bO (G wa [dp l3 6,eM l4 2]) λ_ o7=>eL (fm o7) (p8 (bY o6 (.mp 2)) o6 [bS o6,bx l3 (.ptr 0 0 0),aE l4]) (bY o6 (.mp 2)) (bZ o6) [bS o6,bx l3 (.ptr 0 0 0),aE l4])))))):aL):=ac
def arI:Wa G N [cE i0,J l1,aw r2,.ae 0 r3]=(eL (i0==11) (gJ true (cu l1 (.mp 2)) (bI r2) [bK r3]) (aJ (i0==15)) (cu l1 (.mp 2)) [bI r2,bK r3]:aL):=ac
def arx:V7 G N [cE i0,J l1,aw r2,.ae 0 r3]=(eL (i0==12) (gJ true (cu l1 (.mp 2)) (bI r2) [bK r3]) (aJ (i0==13)) (cu l1 (.mp 2)) [bI r2,bK r3]:aL):=ac
end
end Go.Proofs.B

/-
  Equations. Printed by a program.
-/
import Derived.Test.YtomkobcipaligaaGreatDoorW2
import Derived.Test.YtomkobcipaligaaGreatDoorChecked
import Derived.KernelRfl
import Derived.Sort.Grow
import Derived.Shelf.Sort.Plain
set_option linter.all false
set_option linter.deprecated false
set_option maxHeartbeats 4000000
namespace Go.aA
def akF{p:Prop}(h:p:=by
 cases hq:Nat.beq o.1 i with
 |false=>rfl
 |true=>have:=dU hq;omega):p:=h
def ake{p:Prop}(h:p:=by
 intro l o ho;unfold KS at ho;rw [hlp,hc]at ho;exact hp l o ho):p:=h
def ajR{p:Prop}(h:p:=by
 obtain⟨h1,h2⟩:=ah8 hX h;exact⟨0,x,rfl,aD5 he,h1,h2⟩):p:=h
def ajP{p:Prop}(h:p:=by
 obtain⟨h1,h2⟩:=ah8 hX h;exact⟨0,x,rfl,h1,h2⟩):p:=h
def ajO{p:Prop}(h:p:=by
 rw [hb]at hr;have:=dU hb;subst this;exact he eV hr):p:=h
end Go.aA
namespace Go.aA
def cf:=@cond_true
def nq:=@Bool.false_and
end Go.aA
namespace Go.aA
open Go
noncomputable section
variable {X:Cx} {R:Type}
variable{x:AV}{c root:Code}{fn:Func}{f:FuncId}{σ:ay}{m p:Nat}{r:R}{s:Sh}{st:St}{t:TypeId}{args:bl}{M:aV}
def eK.sA:eK->Bool| .cell _| .vw _| .any =>false|_=>true
def Sh.sA:Sh->Bool| .one s=>s.sA|_=>false
def fB.sA:fB->Bool| .gone =>true|_=>false
def cP:List eK->Nat->bl->bl
 | [],_,_=>[]
 |s::ss,i,xs=>y8 s (xs.getD i .top)::cP ss (i+1) xs
def A3:Sh->AV->AV
 | .one s,x=>y8 s x
 | .agg ss,x=> .agg (cP ss 0 x.cells)
 | .dC f ss,x=> .dC f [] (cP ss 0 x.fL)
def Lt:List (Nat×Sh)->Nat->bl->cY
 | [],_,_=>[]
 |e::es,i,l=>match e.2.sA with|true=>(e.1,A3 e.2 .top)::Lt es i l|false=>(e.1,A3 e.2 (l.getD i .top))::Lt es (i+1) l
def KN:List (Nat×Sh)->Nat->bl->cY
 | [],_,_=>[]
 |e::es,i,l=>(e.1,A3 e.2 (l.getD i .top))::KN es (i+1) l
def au(rows:aW):List (AV×AV):=rows.map λr=>(r.getD 0 .top,r.getD 1 .top)
def az(es:List (AV×AV)):aW:=es.map λe=>[e.1,e.2]
def uE:ep->AV
 | .row t xs=> .ab t xs
 | .eW t xs=> .ab t xs
 | .var _ cs=> .agg cs
 | .map _ _ _ es=> .ab 0 (az es)
 | .loop _ env _ _=> .agg (env.map (·.2))
 |_=> .top
def jO:fB->AV->ep
 | .row t,x=> .row t x.rows
 | .eW t,x=> .eW t x.rows
 | .var ks ss,x=> .var ks (cP ss 0 x.cells)
 | .arr ks,x=> .var ks x.cells
 | .mp k ag ks,x=> .map k ag ks (au x.rows)
 | .loop s es p,x=> .loop s (KN es 0 x.cells) false p
 | .gone,_=> .dead
def Lr:List fB->Nat->bl->aV
 | [],_,_=>[]
 |s::ss,i,l=>match s.sA with|true=>jO s .top ::Lr ss i l|false=>jO s (l.getD i .top)::Lr ss (i+1) l
def nE:List (Nat×Sh)->Nat
 | []=>0
 |e::es=>match e.2.sA with|true=>nE es|false=>nE es+1
def unpack(σ:ay)(l:bl):St:=⟨Lt σ.env 0 l,Lr σ.mem (nE σ.env) l,[],.tA⟩
def yy(lk:Nat->AV):List (Nat×Sh)->bl
 | []=>[]
 |e::es=>match e.2.sA with|true=>yy lk es|false=>lk e.1::yy lk es
def C6:List fB->aV->bl
 |s::ss,b::M=>match s.sA with|true=>C6 ss M|false=>uE b::C6 ss M
 |_,_=>[]
def pack(σ:ay)(lk:Nat->AV)(M:aV):bl:=yy lk σ.env++C6 σ.mem M
def ain:∀{ss:List eK} {ys pre:bl},xm ss ys=true->cP ss pre.length (pre++ys)=ys
 | [],[],pre,_=>rfl
 |s::ss,y::ys,pre,h=>by
  simp only [xm,bM]at h;have ih:=ain (pre:=pre++[y]) h.2;rw [iU,e7]at ih;simp only [cP];rw [show(pre++y::ys).getD pre.length .top =y by simp [List.getD]];rw [P3 h.1];exact rM (y:: ·) ih
 | [],_::_,_,h=>Qq
 |_::_,[],_,h=>Qq
def YD{ss:List eK}{ys:bl}(h:xm ss ys=true):cP ss 0 ys=ys:=ain (pre:=[]) h
def YZ(h:Hk s x=true):A3 s x=x:=by
 unfold Hk at h;split at h
 ·exact P3 h
 ·simp only [A3,AV.cells];rw [YD h]
 ·rw [bM]at h;simp only [A3,AV.fL];rw [YD h.2,dU h.1]
 ·exact aX
def aDh{s:eK}(h:s.sA=true)(x y:AV):y8 s x=y8 s y:=by cases s<;>first|rfl|cases h
def aDp(h:s.sA=true)(x y:AV):A3 s x=A3 s y:=by
 cases s with
 |one s=>exact aDh h x y
 |agg _=>exact aX
 |dC _ _=>exact aX
def Y1{lk:Nat->AV}:∀{es:List (Nat×Sh)} {pre post:bl},Hm lk es=true->Lt es pre.length (pre++(yy lk es++post))=DD lk es
 | [],_,_,_=>rfl
 |e::es,pre,post,h=>by
  simp only [Hm,bM]at h;simp only [Lt,yy,DD];rw [YV h.1];cases hc:e.2.sA with
  |true=>
   simp only;rw [aDp hc .top (lk e.1),YZ h.1,Y1 h.2]
  |false=>
   simp only;have ih:=Y1 (pre:=pre++[lk e.1]) (post:=post) h.2;rw [iU,e7]at ih;rw [show(pre++(lk e.1::yy lk es++post)).getD pre.length .top =lk e.1 by simp [List.getD],YZ h.1];exact rM ((e.1,lk e.1):: ·) ih
def ahK:∀{es:List (Nat×Sh)} {env:cY} {pre:bl},AL es env=true->KN es pre.length (pre++env.map (·.2))=env
 | [],[],_,_=>rfl
 |e::es,x::env,pre,h=>by
  simp only [AL,bM]at h;have ih:=ahK (pre:=pre++[x.2]) h.2;rw [iU,e7]at ih;simp only [KN,nu];rw [show(pre++x.2::env.map (·.2)).getD pre.length .top =x.2 by simp [List.getD],YZ h.1.2,<-dU h.1.1];exact rM (x:: ·) ih
 | [],_::_,_,h=>Qp
 |_::_,[],_,h=>Qp
def aCe{es:List (Nat×Sh)}{env:cY}(h:AL es env=true):KN es 0 (env.map (·.2))=env:=ahK (pre:=[]) h
def sJ(es:List (AV×AV)):au (az es)=es:=by
 unfold au az;rw [Pn]
 induction es with
 |nil=>rfl
 |cons e es ih=>simp only [nu,ih];rfl
def aio{s:fB}{b:ep}(h:okB s b=true):jO s (uE b)=b:=by
 unfold okB at h;split at h
 ·simp only [jO,uE,AV.rows];rw [eq_of_beq h]
 ·simp only [jO,uE,AV.rows];rw [eq_of_beq h]
 ·rw [bM]at h;simp only [jO,uE,AV.cells];rw [YD h.2,eq_of_beq h.1]
 ·simp only [jO,uE,AV.cells];rw [eq_of_beq h]
 ·rw [bM,bM]at h;simp only [jO,uE,AV.rows];rw [sJ,eq_of_beq h.1.1,eq_of_beq h.1.2,eq_of_beq h.2]
 ·rw [bM,bM]at h;simp only [jO,uE,AV.cells];rw [aCe h.1.2,dU h.1.1,aiz h.2]
 ·rfl
 ·exact aX
def aDq{s:fB}(h:s.sA=true)(x y:AV):jO s x=jO s y:=by cases s<;>first|rfl|cases h
def Y0:∀{ss:List fB} {M:aV} {pre:bl},DS ss M=true->Lr ss pre.length (pre++C6 ss M)=M
 | [],[],_,_=>rfl
 |s::ss,b::M,pre,h=>by
  simp only [DS,bM]at h;simp only [Lr,C6];cases hc:s.sA with
  |true=>
   simp only;rw [aDq hc .top (uE b),aio h.1,Y0 h.2]
  |false=>
   simp only;have ih:=Y0 (pre:=pre++[uE b]) h.2;rw [iU,e7]at ih;rw [show(pre++uE b::C6 ss M).getD pre.length .top =uE b by simp [List.getD],aio h.1];exact rM (b:: ·) ih
 | [],_::_,_,h=>Qk
 |_::_,[],_,h=>Qk
def aag{lk:Nat->AV}:∀(es:List (Nat×Sh)),nE es=(yy lk es).length
 | []=>rfl
 |e::es=>by
  simp only [nE,yy];cases e.2.sA with
  |true=>exact aag es
  |false=>simp only [mf,aag (lk:=lk) es]
def Gs(σ:ay)(bR:dP)(st:St):bl:=pack σ (λt=>gN (idx bR) 4 (look st.env t)) (qf st.mem bR)
def N8{bR:dP}(h:wP σ bR st=true):unpack σ (Gs σ bR st)=Gk σ bR st:=by
 unfold wP at h;rw [bM,bM]at h;unfold unpack Gs pack Gk aps;have h1:=Y1 (pre:=[]) (post:=C6 σ.mem (qf st.mem bR)) h.1.2;have h2:=Y0 (pre:=yy (λt=>gN (idx bR) 4 (look st.env t)) σ.env) h.2;rw [<-aag]at h2;rw [h2,YW h.2];exact rM (λe=>(⟨e,_,[],.tA⟩:St)) h1
structure Wy where
 cv:List Cv
 bR:St->dP
variable{w:Wy}
abbrev UO:=Nat×bl
variable{L:kz UO}{o:UO}{g:bl->Option UO}
section
variable {O:Type}
def Ef(X:Cx)(m:Nat)(w:Wy)(σ:ay)(st:St)(f:bl->Option O):Option O:=
 kj X w.cv st λc7=>aR (wP σ (w.bR c7) c7&&pre m (w.bR c7)&&c7.iR.isEmpty) (f (Gs σ (w.bR c7) c7))
def agD(hX:X.Ok){f:bl->Option O}{o:O}(h:Ef X m w σ st f=some o):
 ∃l,f l=some o∧∀{nt:Nt} {rdc:Cy} {w0:World} {S:Sc} {F:bT} {ρ:bX} {a:Act} {w:World},Inv X w0 S F ρ st.mem w->gD X nt st rdc F ρ a w->
  ∃F' ρ',Inv X w0 S F' ρ' (unpack σ l).mem w∧gD X nt (unpack σ l) rdc F' ρ' a w∧qT m F F' ρ ρ' w w:=by
 obtain⟨c7,h,e1,e2,hr⟩:=tW hX w.cv h;replace h:=dq h;obtain⟨h1,h⟩:=h;rw [bM,bM]at h1;obtain⟨⟨h1,h2⟩,h3⟩:=h1;refine⟨_,h,λ{nt rdc w0 S F ρ a w'} hI hs=> ?_⟩;obtain⟨F1,ρ1,i1,s1,g1⟩:=hr (nt:=nt) (rdc:=rdc) (a:=a) hI hs;obtain⟨bz,hZ,_⟩:=OC h1;rw [N8 h1];refine⟨F1,sub oY ρ1 (w.bR c7),?_,⟨XX hX h1 i1 s1.env,s1.size,?_,s1.rd,s1.kept⟩,?_⟩
 ·have:=(i1.amS hX bz oY).1;rw [<-hZ]at this;exact this
 ·have:=s1.defs;have hd:c7.iR=[]:=by simpa using h3
  rw [hd]at this;exact this
 ·refine(g1.toF m).trans ⟨λ_ h=>h,λid hd hm hh=> ?_,λ_ _=>rfl⟩;have:=aDx h2 hm;rw [PT this (eZ.1 hh).1];exact hh
end
structure Ow where
 e:Ex
 w:Wy
 σ:ay
variable{xs:List Ow}
def SC:Ex->Ex->Bool
 | .normal,.normal =>true
 | .ret,.ret =>true
 | .exit i,.exit j=>Nat.beq i j
 |_,_=>false
def aD5{a b:Ex}(h:SC a b=true):a=b:=by
 cases a<;>cases b<;>simp only [SC,lO]at h
 ·rfl
 ·exact F9
 ·rfl
def fits(X:Cx)(w:Wy)(σ:ay)(st:St):Bool:=match kj X w.cv st (λc7=>some (wP σ (w.bR c7) c7))with|some b=>b|none=>false
def apt(e:Ex):List Ow->Bool
 | []=>false
 |x::xs=>match SC x.e e with|true=>true|false=>apt e xs
def zH(X:Cx)(m:Nat):List Ow->Nat->Ex->St->Option UO
 | [],_,_,_=>none
 |x::xs,i,e,st=>
  match SC x.e e with
  |false=>zH X m xs (i+1) e st
  |true=>
   match apt e xs with
   |false=>Ef X m x.w x.σ st λl=>some (i,l)
   |true=>match fits X x.w x.σ st with|true=>Ef X m x.w x.σ st λl=>some (i,l)|false=>zH X m xs (i+1) e st
def RC(X:Cx)(m:Nat)(st:St)(σ:ay)(o:UO):Prop:=
 ∀{nt:Nt} {rdc:Cy} {w0:World} {S:Sc} {F:bT} {ρ:bX} {a:Act} {w:World},Inv X w0 S F ρ st.mem w->gD X nt st rdc F ρ a w->
  ∃F' ρ',Inv X w0 S F' ρ' (unpack σ o.2).mem w∧gD X nt (unpack σ o.2) rdc F' ρ' a w∧qT m F F' ρ ρ' w w
def ah8(hX:X.Ok){i:Nat}(h:Ef X m w σ st (λl=>some (i,l))=some o):o.1=i∧RC X m st σ o:=by
 obtain⟨l,h,hr⟩:=agD hX h;injection h with h;subst h;exact⟨rfl,hr⟩
def XS(hX:X.Ok){m:Nat}{e:Ex}{st:St}{o:UO}:∀{xs:List Ow} {i:Nat},zH X m xs i e st=some o->∃j x,xs[j]?=some x∧x.e=e∧o.1=i+j∧RC X m st x.σ o
 | [],i,h=>aX
 |x::xs,i,h=>by
  have next:zH X m xs (i+1) e st=some o->∃j y,(x::xs)[j]?=some y∧y.e=e∧o.1=i+j∧RC X m st y.σ o:=by
   intro h;obtain⟨j,y,h1,h2,h3,h4⟩:=XS hX h;exact⟨j+1,y,h1,h2,by omega,h4⟩
  simp only [zH]at h;split at h
  ·exact next h
  ·rename_i he;split at h
   ·exact ajR
   ·split at h
    ·exact ajR
    ·exact next h
def Mk:List Ow->Nat->UO->(Ex->St->Option R)->Option R
 | [],_,_,_=>none
 |x::xs,i,o,k=>
  match xs with
  | []=>k x.e (unpack x.σ o.2)
  |_::_=>match Nat.beq o.1 i with|true=>k x.e (unpack x.σ o.2)|false=>Mk xs (i+1) o k
def ald{o:UO}{k:Ex->St->Option R}:∀{xs:List Ow} {i j:Nat} {x:Ow},xs[j]?=some x->o.1=i+j->Mk xs i o k=k x.e (unpack x.σ o.2)
 | [],i,j,x,h,_=>hU
 |y::ys,i,0,x,h,ho=>by
  simp at h;subst h;cases ys with
  |nil=>rfl
  |cons z zs=>simp only [Mk];rw [ho];simp
 |y::ys,i,j+1,x,h,ho=>by
  cases ys with
  |nil=>exact hU
  |cons z zs=>
   have hb:Nat.beq o.1 i=false:=akF;rw [Mk];simp only [hb];exact ald (jU) (by omega)
def aF7(X:Cx)(m:Nat)(bk:Wy)(σ:ay)(xs:List Ow)(LF:bl->Option UO)(e:Ex)(st:St):Option UO:=
 match e with
 | .normal =>Ef X m bk σ st LF
 | .exit i=>zH X m xs 0 (.exit i) st
 | .ret =>zH X m xs 0 .ret st
def Gx(X:Cx)(L:kz UO)(c:Code)(p m:Nat)(bk:Wy)(σ:ay)(xs:List Ow):Nat->bl->Option UO
 |0,_=>none
 |n+1,l=>n8 X L c (2*p) (unpack σ l) (aF7 X m bk σ xs (Gx X L c p m bk σ xs n))
def abZ(X:Cx)(L:kz UO)(c:Code)(p m:Nat)(σ:ay)(xs:List Ow)(l:bl):Option UO:=n8 X L c p (unpack σ l) (zH X m xs 0)
def ab5(X:Cx)(nt:Nt)(c:Code)(m:Nat)(σ:ay)(xs:List Ow)(f:bl->Option UO):Prop:=
 ∀l o,f l=some o->∃j x,xs[j]?=some x∧o.1=j∧aGM X nt c m (unpack σ l) (Ex.nO x.e) (unpack x.σ o.2)
def aEa(hX:X.Ok)(hL:L.Ok X root)(eV:At root p c):ab5 X L.iq.nt c m σ xs (abZ X L c p m σ xs):=by
 intro l o h;obtain⟨e,kE,dE,hk⟩:=tX hX hL c eV h;obtain⟨j,x,h1,h2,h3,h4⟩:=XS hX hk;refine⟨j,x,h1,by omega,λ{rdc n w0 S F ρ a w Q} hI hs hq=> ?_⟩;refine dE hI hs λa' w' F' ρ' dO dv hg=> ?_;obtain⟨F2,ρ2,i2,s2,g2⟩:=h4 dO dv;rw [<-h2];exact hq a' w' F2 ρ2 i2 s2 ((hg.toF m).trans g2)
def afm(hX:X.Ok){root c:Code}{p m:Nat}{L:kz UO}(hL:L.Ok X root)(eV:At root p (.loop c)){bk:Wy}{σ:ay}{xs:List Ow}:
 ∀(fuel:Nat) {l:bl} {o:UO},Gx X L c p m bk σ xs fuel l=some o->∃j x,xs[j]?=some x∧o.1=j∧∀{rdc:Cy} {n:Nat} {w0:World} {S:Sc} {F:bT} {ρ:bX} {a:Act} {w:World} {Q:Exit->Act->World->Prop},
  Inv X w0 S F ρ (unpack σ l).mem w->gD X L.iq.nt (unpack σ l) rdc F ρ a w->
  (∀a' w' F' ρ',Inv X w0 S F' ρ' (unpack x.σ o.2).mem w'->gD X L.iq.nt (unpack x.σ o.2) rdc F' ρ' a' w'->qT m F F' ρ ρ' w w'->Q (Ex.nO x.e) a' w')->Code.roundsIn (lI rdc.r) n X.P c Q fuel a w
 |0,l,o,h=>aX
 |fuel+1,l,o,h=>by
  simp only [Gx]at h;obtain⟨e,bh,dE,h⟩:=tX hX hL c (eV.down false λl hl=>wX) h;have out:e≠ .normal ->zH X m xs 0 e bh=some o->∃j x,xs[j]?=some x∧o.1=j∧∀{rdc:Cy} {n:Nat} {w0:World} {S:Sc} {F:bT} {ρ:bX} {a:Act} {w:World} {Q:Exit->Act->World->Prop},
   Inv X w0 S F ρ (unpack σ l).mem w->gD X L.iq.nt (unpack σ l) rdc F ρ a w->
   (∀a' w' F' ρ',Inv X w0 S F' ρ' (unpack x.σ o.2).mem w'->gD X L.iq.nt (unpack x.σ o.2) rdc F' ρ' a' w'->qT m F F' ρ ρ' w w'->Q (Ex.nO x.e) a' w')->Code.roundsIn (lI rdc.r) n X.P c Q (fuel+1) a w:=by
   intro eN hg;obtain⟨j,x,h1,h2,h3,h4⟩:=XS hX hg;refine⟨j,x,h1,by omega,λ{rdc n w0 S F ρ a w Q} hI hs hq=> ?_⟩;rw [Pm];refine dE hI hs λa' w' F' ρ' dO dv hg=> ?_;obtain⟨F2,ρ2,i2,s2,g2⟩:=h4 dO dv;have:=hq a' w' F2 ρ2 i2 s2 ((hg.toF m).trans g2);rw [h2]at this;cases e with
   |normal=>exact absurd rfl eN
   |exit i=>exact this
   |ret=>exact this
  cases e with
  |normal=>
   obtain⟨l',h,hr⟩:=agD hX h;obtain⟨j,x,h1,h2,h3⟩:=afm hX hL eV fuel h;refine⟨j,x,h1,h2,λ{rdc n w0 S F ρ a w Q} hI hs hq=> ?_⟩;rw [Pm];refine dE hI hs λa' w' F' ρ' dO dv hg=> ?_;obtain⟨F2,ρ2,i2,s2,g2⟩:=hr dO dv;exact h3 i2 s2 λEl qo tT sY Dy Dv K4=>hq El qo tT sY Dy Dv ((hg.toF m).trans (g2.trans K4))
  |exit i=>exact out (by simp) h
  |ret=>exact out (by simp) h
def aCK(hX:X.Ok)(hL:L.Ok X root)(eV:At root p (.loop c)){bk:Wy}{fuel:Nat}:ab5 X L.iq.nt (.loop c) m σ xs (Gx X L c p m bk σ xs fuel):=by
 intro l o h;obtain⟨j,x,h1,h2,h3⟩:=afm hX hL eV fuel h;exact⟨j,x,h1,h2,λ{rdc n w0 S F ρ a w Q} hI hs hq=>Yj fuel (h3 hI hs hq)⟩
def RA(X:Cx)(m mask:Nat)(w:Wy)(σ:ay)(xs:List Ow)(nt:Nt)(f:bl->Option UO)(st:St)(k:Ex->St->Option R):Option R:=
 kj X w.cv st λc7=>
  aR (wP σ (w.bR c7) c7&&Nat.beq (nt.mask&&&mask) mask&&c7.iR.isEmpty)
   (match f (Gs σ (w.bR c7) c7)with
    |none=>none
    |some o=>Mk xs 0 o λe so=>aR (FT m c7.mem (w.bR c7) so.mem) (k e (QV m mask (w.bR c7) c7 so)))
def afZ(hX:X.Ok){mask:Nat}{nt:Nt}{f:bl->Option UO}(hf:ab5 X ⟨nt.n,mask⟩ c m σ xs f){k:Ex->St->Option R}
 (h:RA X m mask w σ xs nt f st k=some r):∃e bh,qa X nt c st (Ex.nO e) bh∧k e bh=some r:=by
 unfold RA at h;obtain⟨c7,h,e1,e2,kX⟩:=tW hX w.cv h;replace h:=dq h;obtain⟨h1,h⟩:=h;rw [bM,bM]at h1;obtain⟨⟨h1,aax⟩,AR⟩:=h1;have AR:c7.iR=[]:=by simpa using AR
 have aax:nt.mask&&&mask=mask:=dU aax;split at h
 ·cases h
 ·rename_i o ho;obtain⟨j,x,hx,hj,dE⟩:=hf _ _ ho;rw [ald hx (by omega)]at h;replace h:=dq h;obtain⟨hm,h⟩:=h;refine⟨_,_,λ{rdc n w0 S F ρ a w' Q} hI hs hq=> ?_,h⟩;obtain⟨F1,ρ1,i1,s1,g1⟩:=kX (nt:=nt) (rdc:=rdc) (a:=a) hI hs;obtain⟨bz,hZ,_⟩:=OC h1;have AP:=i1.sub hX bz oY;refine dE (rdc:=⟨rdc.r,rdc.db,λt=>a.tmps.getD t undef⟩) (n:=n) (w0:=w') (S:=hand ρ1 c7.mem (w.bR c7) F1) (F:=F1) (ρ:=sub oY ρ1 (w.bR c7)) (a:=a) (w:=w')
   (by rw [N8 h1,hZ];exact AP)
   ⟨by rw [N8 h1];exact XX hX h1 i1 s1.env,s1.size,by have:=s1.defs;rw [AR]at this;exact this,s1.rd,λ_ _=>rfl⟩ ?_
  intro a' qo F' ρ' dO dv jC;obtain⟨i3,g3,r3⟩:=i1.merge hX bz oY dO jC hm;refine hq a' qo F' _ i3 ⟨λt=> ?_,dv.size,?_,dv.rd,λt ht=> ?_⟩ (g1.trans g3)
  ·rcases afI (Dn (nT m (w.bR c7) c7.mem.length) 4 (unpack x.σ o.2).env) (c7.env.filter (λp=> !mask.testBit p.1)) t with e|e
   ·simp only [QV];rw [e];exact(dv.env.gN hX r3 4) t
   ·simp only [QV];rw [e];rcases agA mask c7.env t with e'|⟨hb,e'⟩
    ·rw [e'];exact .top _
    ·rw [e'];have hk:=dv.kept t hb;rw [hk];exact(s1.env t).grow g3
  ·have hd:=dv.defs;simp only [QV];rw [AR];exact hd
  ·have hb:mask.testBit t=false:=by
    rw [<-aax,Nat.testBit_and,ht,nq]
   have hk:=dv.kept t hb;rw [hk];exact s1.kept t ht
def dec:Nat->Nat->List Bool
 |0,_=>[]
 |n+1,p=>match Nat.ble p 1 with|true=>[]|false=>Nat.beq (p %2) 1::dec n (p/2)
def aic:∀l:List Bool,l.length<enc l
 | []=>by simp [enc]
 |b::l=>by have:=aic l;simp only [enc,mf];cases b<;>simp<;>omega
def aii:∀(l:List Bool) (n:Nat),l.length<=n->dec n (enc l)=l
 | [],0,_=>rfl
 | [],n+1,_=>rfl
 |b::l,0,h=>hU
 |b::l,n+1,h=>by
  have h1:=P1 l;have h2:Nat.ble (enc (b::l)) 1=false:=by
   cases hq:Nat.ble (enc (b::l)) 1 with
   |false=>rfl
   |true=>have:=uf hq;simp only [enc]at this;omega
  simp only [dec,h2];have ih:=aii l n (jU);have e1:enc (b::l)/2=enc l:=by simp only [enc];cases b<;>simp<;>omega
  have e2:Nat.beq (enc (b::l) %2) 1=b:=by
   cases b
   ·have:enc (false::l) %2=0:=by simp only [enc];simp
    exact fa
   ·have:enc (true::l) %2=1:=by simp only [enc,cf];omega
    exact fa
  rw [e1,e2,ih]
def xL(root:Code)(p:Nat):Option Code:=w4 root (dec p p)
def Z5(h:At root p c):xL root p=some c:=by
 obtain⟨l,h1,h2⟩:=h;subst h1;unfold xL;rw [aii l _ (Nat.le_of_lt (aic l)),h2]
def TD(root:Code)(p:Nat):Code:=match xL root p with|some c=>c|none=> .skip
def Ek(root:Code)(p:Nat):Code:=match xL root p with|some (.loop c)=>c|_=> .skip
def gOf(root:Code)(p:Nat):Operand:=match xL root p with|some (.rangeFunc g _ _ _)=>g|_=> .func 0
def R5(root:Code)(p:Nat):Bool:=match xL root p with|some (.rangeFunc _ _ _ _)=>Nat.beq (enc (dec p p)) p|_=>false
def aab(nt:Nat)(root:Code)(p:Nat):Site:=match xL root p with|some (.rangeFunc _ ps a b)=>⟨nt,ps,a,b⟩|_=>⟨0,#[],.skip,.skip⟩
structure Pc where
 p:Nat
 lp:Bool
 m:Nat
 mask:Nat
 σ:ay
 en:Wy
 bk:Wy
 xs:List Ow
inductive lM where
 |nil
 |pc(q:Pc)(eX:lM)
 |rg(p s:Nat)(th:dP)(f:FuncId)(fn:Func)(uH eX:lM)
 |ur(p n:Nat)(eX:lM)
abbrev YT(R:Type):=Nat->bl->aV->(AV->aV->Option R)->Option R
def full(n:Nat):Nat:=2^n- 1
def nC(fn:Func):Code:=fn.body.getD .skip
def SQ(p:Nat)(e:oT R)(L:kz R):kz R:={L with loop:=λq=>match Nat.beq q p with|true=>e|false=>L.loop q}
def Lj(p:Nat)(e:oT R)(L:kz R):kz R:={L with range:=λq=>match Nat.beq q p with|true=>e|false=>L.range q}
def Lk(p:Nat)(e:oT R)(L:kz R):kz R:={L with cut:=λq=>match Nat.beq q p with|true=>some e|false=>L.cut q}
def KD(s:Nat)(e y:YT R):YT R:=λid args M k=>
 match gm M id with
 |some (.loop s' _ _ _)=>(match Nat.beq s' s with|true=>e id args M k|false=>y id args M k)
 |_=>none
def aij{root:Code}{p:Nat}{e:oT R}{L:kz R}(h:L.Ok X root)(he:alj X root L.iq.nt (p,e)):(SQ p e L).Ok X root where
 iq:=h.iq
 range:=h.range
 cut:=h.cut
 loop:=λ{q c st k r} eV hr=>by
  simp only [SQ]at hr;cases hb:Nat.beq q p with
  |true=>
   exact ajO
  |false=>rw [hb]at hr;exact h.loop eV hr
def aEf{root:Code}{p:Nat}{e:oT R}{L:kz R}(h:L.Ok X root)(he:aik X root L.iq.nt (p,e)):(Lj p e L).Ok X root where
 iq:=h.iq
 loop:=h.loop
 cut:=h.cut
 range:=λ{q g ps a b st k r} eV hr=>by
  simp only [Lj]at hr;cases hb:Nat.beq q p with
  |true=>
   exact ajO
  |false=>rw [hb]at hr;exact h.range eV hr
def aEg{root:Code}{p:Nat}{e:oT R}{L:kz R}(h:L.Ok X root)(he:amE X root L.iq.nt (p,e)):(Lk p e L).Ok X root where
 iq:=h.iq
 loop:=h.loop
 range:=h.range
 cut:=λ{q c f st k r} eV hf hr=>by
  simp only [Lk]at hf;split at hf
  ·rename_i hb;have:=dU hb;subst this;injection hf with hf;subst hf;exact he eV hr
  ·exact h.cut eV hf hr
def aDf{s:Nat}{e y:YT R}(he:Em X e)(hy:Em X y):Em X (KD s e y):=by
 intro id args M k r h;unfold KD at h;rw [fb]at h;split at h
 ·split at h
  ·exact he h
  ·exact hy h
 ·exact aX
def KS(X:Cx)(root:Code)(q:Pc)(L:kz UO)(N:Nat)(l:bl):Option UO:=
 match q.lp with
 |true=>Gx X L (Ek root q.p) q.p q.m q.bk q.σ q.xs N l
 |false=>abZ X L (TD root q.p) q.p q.m q.σ q.xs l
def ny(X:Cx)(N:Nat)(cs:(R:Type)->List (CE R)):Func->((R:Type)->YT R)->lM->Nat->(R:Type)->kz R
 |fn,y,.nil,mask,R=>alC ⟨fn.ntmps,mask⟩ (cs R) (y R) [] [] []
 |fn,y,.pc q eX,mask,R=>
  match q.lp with
  |true=>SQ q.p (RA X q.m q.mask q.en q.σ q.xs ⟨fn.ntmps,mask⟩ (KS X (nC fn) q (ny X N cs fn y eX q.mask UO) N)) (ny X N cs fn y eX mask R)
  |false=>Lk q.p (RA X q.m q.mask q.en q.σ q.xs ⟨fn.ntmps,mask⟩ (KS X (nC fn) q (ny X N cs fn y eX q.mask UO) N)) (ny X N cs fn y eX mask R)
 |fn,y,.ur p n eX,mask,R=>SQ p (JO X (ny X N cs fn y eX mask R) (Ek (nC fn) p) (2*p) n) (ny X N cs fn y eX mask R)
 |fn,y,.rg p s th f gn uH eX,mask,R=>
  Lj p (P0 X (Y8 ⟨fn.ntmps,mask⟩ (inl f (y6 X (ny X N cs gn (λR=>KD s (FW X (ny X N cs fn y eX (full fn.ntmps) R) s p) (y R)) uH (full gn.ntmps) R) (nC gn) gn.results.toList))) s th (gOf (nC fn) p)) (ny X N cs fn y eX mask R)
structure Enters(X:Cx)(f:FuncId)(fn:Func):Prop where
 at_:X.P.funcs[f]?=some fn
 body:fn.body.isSome=true
 name:(fn.name== "runtime.NumGoroutine")=false
def Enters.cd(h:Enters X f fn):fn.body=some (nC fn):=by
 have:=h.body;unfold nC;cases hb:fn.body with
 |none=>rw [hb]at this;cases this
 |some c=>rfl
def Enters.call(h:Enters X f fn)(vs:Array Value)(w:World):(callFunc f vs).run X.P w= .ok (.enter f vs) w:=enters h.at_ h.cd h.name vs w
def Df(X:Cx):Func->lM->Prop
 |_,.nil =>True
 |fn,.pc _ eX=>Df X fn eX
 |fn,.ur _ _ eX=>Df X fn eX
 |fn,.rg p s _ f gn uH eX=>(X.site s=aab fn.ntmps (nC fn) p∧R5 (nC fn) p=true∧Enters X f gn∧Df X gn uH)∧Df X fn eX
def ug{N:Nat}{cs:(R:Type)->List (CE R)}:∀(eX:lM) (fn:Func) (y:(R:Type)->YT R) (mask:Nat) (R:Type),(ny X N cs fn y eX mask R).iq.nt =⟨fn.ntmps,mask⟩
 | .nil,_,_,_,_=>rfl
 | .pc q eX,fn,y,mask,R=>by
   simp only [ny];split
   ·exact ug eX fn y mask R
   ·exact ug eX fn y mask R
 | .ur _ _ eX,fn,y,mask,R=>ug eX fn y mask R
 | .rg _ _ _ _ _ _ eX,fn,y,mask,R=>ug eX fn y mask R
def aDu(h:R5 root p=true):∃g ps a b,xL root p=some (.rangeFunc g ps a b)∧At root p (.rangeFunc g ps a b):=by
 unfold R5 at h;split at h
 ·rename_i g ps a b hc;exact⟨g,ps,a,b,hc,dec p p,dU h,hc⟩
 ·exact aX
def Cs(hX:X.Ok){N:Nat}{cs:(R:Type)->List (CE R)}(oD:∀R,iQ (tp X) (cs R)):
 ∀(eX:lM) {fn:Func} {y:(R:Type)->YT R} (_:∀R,Em X (y R)) (_:Df X fn eX) (mask:Nat) (R:Type),(ny X N cs fn y eX mask R).Ok X (nC fn)
 | .nil,fn,y,hy,_,mask,R=>aCH (oD R) (hy R) trivial trivial trivial
 | .ur p n eX,fn,y,hy,h,mask,R=>by
   have hi:=Cs (N:=N) hX oD eX hy h mask R;refine aij hi ?_;intro c st k r eV hr;have hc:Ek (nC fn) p=c:=by unfold Ek;rw [Z5 eV]
   simp only at hr;rw [hc]at hr;obtain⟨e,bh,hk,hr⟩:=WV hX hi eV n hr;exact⟨e,bh,λ{rdc n w0 S F ρ a w Q} hI hs hq=>Yj _ (hr hI hs hq),hk⟩
 | .pc q eX,fn,y,hy,h,mask,R=>by
   have hi:=Cs (N:=N) hX oD eX hy h mask R;have hq:=Cs (N:=N) hX oD eX hy h q.mask UO;simp only [ny];split
   ·rename_i hlp;refine aij hi ?_;intro c st k r eV hr;have hc:Ek (nC fn) q.p=c:=by unfold Ek;rw [Z5 eV]
    have hp:=aCK (m:=q.m) (bk:=q.bk) (σ:=q.σ) (xs:=q.xs) (fuel:=N) hX hq eV;rw [ug]at hp;rw [ug];refine afZ hX (f:=KS X (nC fn) q (ny X N cs fn y eX q.mask UO) N) (c:= .loop c) ?_ hr;exact ake
   ·rename_i hlp;refine aEg hi ?_;intro c st k r eV hr;have hc:TD (nC fn) q.p=c:=by unfold TD;rw [Z5 eV]
    have hp:=aEa (m:=q.m) (σ:=q.σ) (xs:=q.xs) hX hq eV;rw [ug]at hp;rw [ug];refine afZ hX (f:=KS X (nC fn) q (ny X N cs fn y eX q.mask UO) N) (c:=c) ?_ hr;exact ake
 | .rg p s th f gn uH eX,fn,y,hy,h,mask,R=>by
   have hi:=λmask R=>Cs (N:=N) hX oD eX hy h.2 mask R;obtain⟨⟨hs,lG,wx,kv⟩,_⟩:=h;obtain⟨g,ps,a,b,hc,eV⟩:=aDu lG;have yB:X.site s=⟨fn.ntmps,ps,a,b⟩:=by rw [hs];unfold aab;rw [hc]
   have hyk:∀R,Em X (KD s (FW X (ny X N cs fn y eX (full fn.ntmps) R) s p) (y R)):=by
    intro R;refine aDf ?_ (hy R);intro id args M k r hr;refine ae3 hX (hi (full fn.ntmps) R) (g:=g) (ps:=ps) ?_ hr;rw [yB];exact eV
   have hk:=Cs (N:=N) hX oD uH hyk kv (full gn.ntmps) R;refine aEf (hi mask R) ?_;intro g' ni a' b' st k r aOr hr;have:=aOr.det (dec p p) (dU (by unfold R5 at lG;rw [hc]at lG;exact lG));unfold xL at hc;rw [hc]at this;injection this with this;injection this with e1 e2 e3 e4;subst e1;subst e2;subst e3;subst e4;have hg:gOf (nC fn) p=g:=by unfold gOf xL;rw [hc]
   rw [ug];simp only [hg]at hr;refine ae4 hX (T:=Y8 ⟨fn.ntmps,mask⟩ _) (aBS (aER (g:=f) λ{args M k r} h=> ?_)) yB hr;exact OS hX hk wx.at_ wx.cd (by rw [ug]) wx.call rfl h
structure Rw where
 w:Wy
 σ:ay
def aok(j:Nat):List (Nat×Nat×Nat)->Nat->bl->Option Nat
 | [],_,_=>none
 |p::ps,k,xs=>match Nat.beq p.1 j with|true=>some (xs.getD k .top).id |false=>aok j ps (k+1) xs
def aon(j:Nat)(s:eK)(x:AV):Option Nat:=
 match s with
 | .aC i| .ptr i _ _| .iB i| .mpr i| .vw i=>match Nat.beq i j with|true=>some x.id|false=>none
 | .cl _ ps=>aok j ps 0 x.fL
 |_=>none
def R6(j:Nat):List eK->Nat->bl->Option Nat
 | [],_,_=>none
 |s::ss,k,xs=>match aon j s (xs.getD k .top)with|some i=>some i|none=>R6 j ss (k+1) xs
def aoj(j:Nat)(s:Sh)(x:AV):Option Nat:=
 match s with
 | .one s=>aon j s x
 | .agg ss=>R6 j ss 0 x.cells
 | .dC _ ss=>R6 j ss 0 x.fL
def qg(j:Nat)(st:St):List (Nat×Sh)->Option Nat
 | []=>none
 |e::es=>match aoj j e.2 (look st.env e.1)with|some i=>some i|none=>qg j st es
def aol(j:Nat):List (Nat×Sh)->Nat->cY->Option Nat
 | [],_,_=>none
 |e::es,k,l=>match aoj j e.2 (l.getD k (0,.top)).2 with|some i=>some i|none=>aol j es (k+1) l
def aom(j:Nat)(st:St):List fB->dP->Option Nat
 |b::bs,i::is=>
  match(match b with| .var _ ss=>R6 j ss 0 (st.mem.getD i .dead).cells | .loop _ es _=>aol j es 0 (st.mem.getD i .dead).abr |_=>none)with
  |some n=>some n
  |none=>aom j st bs is
 |_,_=>none
def amU(m:Nat)(σ:ay)(st:St):Nat->dP->dP
 |0,acc=>acc
 |n+1,acc=>amU m σ st n (acc++[match Nat.blt acc.length m with|true=>acc.length|false=>match qg acc.length st σ.env with|some i=>i|none=>(aom acc.length st σ.mem acc).getD 0])
def Ao(m:Nat)(σ:ay)(st:St):dP:=amU m σ st σ.mem.length []
inductive Cl where
 |fn(v:Nat)
 |fc(v:Nat)(c:List Cv)
 |abo(v:Nat)(ps:List (Nat×TypeId))
 |inl(f:FuncId)(fn:Func)(eX:lM)
 |known(f:FuncId)
 |Sf(t:TypeId)(v vn ve:Nat)
 |A5(f:FuncId)(t:TypeId)
structure FD where
 f:FuncId
 fn:Func
 na:Nat
 nr:Nat
 m:Nat
 σ:ay
 outs:List Rw
 calls:List Cl
 eX:lM
variable{d:FD}
def AH(nr:Nat)(env:cY):AV:=match nr with|1=>look env 0|n=> .ew (Az n env)
def Mi(X:Cx)(m:Nat):List Rw->Nat->St->Option UO
 | [],_,_=>none
 |x::xs,i,st=>
  match xs with
  | []=>Ef X m x.w x.σ st λl=>some (i,l)
  |_::_=>match fits X x.w x.σ st with|true=>Ef X m x.w x.σ st λl=>some (i,l)|false=>Mi X m xs (i+1) st
def abe(X:Cx)(m nr:Nat)(outs:List Rw)(x:AV)(M:aV):Option UO:=
 match nr with
 |1=>Mi X m outs 0 ⟨[(0,x)],M,[],.tA⟩
 |n=>match x with| .ew xs=>aR (Nat.beq xs.length n) (Mi X m outs 0 ⟨rV 0 xs,M,[],.tA⟩)|_=>none
def XT(hX:X.Ok){m:Nat}{st:St}{o:UO}:∀{xs:List Rw} {i:Nat},Mi X m xs i st=some o->∃j x,xs[j]?=some x∧o.1=i+j∧RC X m st x.σ o
 | [],i,h=>aX
 | [x],i,h=>ajP
 |x::y::xs,i,h=>by
  rw [Mi]at h;split at h
  ·exact ajP
  ·obtain⟨j,z,h1,h2,h3⟩:=XT hX h;exact⟨j+1,z,h1,by omega,h3⟩
def AX(X:Cx)(d:FD)(g:bl->Option UO):Prop:=
 ∀l o,g l=some o->∃j x,d.outs[j]?=some x∧o.1=j∧Gm X d.f d.m (Az d.na (unpack d.σ l).env) (unpack d.σ l).mem (AH d.nr (unpack x.σ o.2).env) (unpack x.σ o.2).mem
def aBe(hX:X.Ok){nr:Nat}{outs:List Rw}{M1:aV}(hc:lP X f args M x M1)(h:abe X m nr outs x M1=some o):
 ∃j y,outs[j]?=some y∧o.1=j∧Gm X f m args M (AH nr (unpack y.σ o.2).env) (unpack y.σ o.2).mem :=by
 unfold abe at h;split at h
 ·obtain⟨j,y,h1,h2,hr⟩:=XT hX h;refine⟨j,y,h1,by omega,λ{w0 S F ρ w vs} hI xb=> ?_⟩;refine(hc.2 hI xb).mono ?_;rintro e w' ⟨v,ρ',F',rfl,dO,hg,hx⟩;obtain⟨F2,ρ2,i2,s2,g2⟩:=hr (nt:=⟨1,0⟩) (rdc:=⟨none,λ_=>False,λt=>(#[v]:Array Value).getD t undef⟩) (a:={tmps:= #[v],defers:=[]}) dO ⟨λt=>by
   simp only [p0,look_nil]
   by_cases ht:t=0
   ·subst ht;simpa using hx
   ·have:(t==0)=false:=by simpa using ht
    simp only [this,lO,nv];exact .top _,rfl,Marks.nil _ _ (λ_ h=>h.elim),.inl rfl,λ_ _=>rfl⟩
  exact⟨v,ρ2,F2,rfl,i2,(hg.toF m).trans g2,s2.env 0⟩
 ·rename_i Tj;split at h
  ·rename_i xs;replace h:=dq h;obtain⟨hn,h⟩:=h;have hn:xs.length=nr:=dU hn;obtain⟨j,y,h1,h2,hr⟩:=XT hX h;refine⟨j,y,h1,by omega,λ{w0 S F ρ w vs} hI xb=> ?_⟩;refine(hc.2 hI xb).mono ?_;rintro e w' ⟨v,ρ',F',rfl,dO,hg,hx⟩;cases hx with
   |ew cs us hl LU=>
    obtain⟨F2,ρ2,i2,s2,g2⟩:=hr (nt:=⟨us.length,0⟩) (rdc:=⟨none,λ_=>False,λt=>us.toArray.getD t undef⟩) (a:={tmps:=us.toArray,defers:=[]}) dO ⟨agw ⟨hl,LU⟩,by simp,Marks.nil _ _ (λ_ h=>h.elim),.inl rfl,λ_ _=>rfl⟩;refine⟨.tuple us.toArray,ρ2,F2,rfl,i2,(hg.toF m).trans g2,?_⟩;have hr3:=ahj s2.env;rw [hl,hn]at hr3;have e:AH nr (unpack y.σ o.2).env = .ew (Az nr (unpack y.σ o.2).env):=by
     unfold AH;split
     ·exact absurd rfl Tj
     ·rfl
    rw [e];exact .ew _ us hr3.1 hr3.2
  ·exact aX
def HV(nr:Nat):List Rw->Nat->UO->(AV->aV->Option R)->Option R
 | [],_,_,_=>none
 |x::xs,i,o,k=>
  match xs with
  | []=>k (AH nr (unpack x.σ o.2).env) (unpack x.σ o.2).mem
  |_::_=>match Nat.beq o.1 i with|true=>k (AH nr (unpack x.σ o.2).env) (unpack x.σ o.2).mem |false=>HV nr xs (i+1) o k
def ale{nr:Nat}{o:UO}{k:AV->aV->Option R}:∀{xs:List Rw} {i j:Nat} {x:Rw},xs[j]?=some x->o.1=i+j->HV nr xs i o k=k (AH nr (unpack x.σ o.2).env) (unpack x.σ o.2).mem
 | [],i,j,x,h,_=>hU
 |y::ys,i,0,x,h,ho=>by
  simp at h;subst h;cases ys with
  |nil=>rfl
  |cons z zs=>simp only [HV];rw [ho];simp
 |y::ys,i,j+1,x,h,ho=>by
  cases ys with
  |nil=>exact hU
  |cons z zs=>
   have hb:Nat.beq o.1 i=false:=akF;rw [HV];simp only [hb];exact ale (jU) (by omega)
def Ry(X:Cx)(d:FD)(w:Wy)(g:bl->Option UO)(args:bl)(M:aV)(k:AV->aV->Option R):Option R:=
 aR (Nat.beq args.length d.na) (kj X w.cv ⟨rV 0 args,M,[],.tA⟩ λc7=>
  aR (wP d.σ (w.bR c7) c7)
   (match g (Gs d.σ (w.bR c7) c7)with
    |none=>none
    |some o=>HV d.nr d.outs 0 o λx Mc=>aR (FT d.m c7.mem (w.bR c7) Mc) (k (gN (nT d.m (w.bR c7) c7.mem.length) 4 x) (merge d.m c7.mem (w.bR c7) Mc))))
def aA7(hX:X.Ok)(hg:AX X d g)(hc:∀(vs:Array Value) (w:World),(callFunc d.f vs).run X.P w= .ok (.enter d.f vs) w)
   {k:AV->aV->Option R}  (h:Ry X d w g args M k=some r):∃x M',lP X d.f args M x M'∧k x M'=some r∧(w.cv=[]->dV (w.bR ⟨rV 0 args,M,[],.tA⟩) M M'):=by
 unfold Ry at h;replace h:=dq h;obtain⟨hna,h⟩:=h;have hna:args.length=d.na:=dU hna;have aN3:∃c7,(aR (wP d.σ (w.bR c7) c7) (match g (Gs d.σ (w.bR c7) c7)with|none=>none|some o=>HV d.nr d.outs 0 o λx Mc=>aR (FT d.m c7.mem (w.bR c7) Mc) (k (gN (nT d.m (w.bR c7) c7.mem.length) 4 x) (merge d.m c7.mem (w.bR c7) Mc))))=some r∧(w.cv=[]->c7=⟨rV 0 args,M,[],.tA⟩)∧
  ∀{nt:Nt} {rdc:Cy} {w0:World} {S:Sc} {F:bT} {ρ:bX} {a:Act} {w:World},Inv X w0 S F ρ M w->gD X nt ⟨rV 0 args,M,[],.tA⟩ rdc F ρ a w->∃F' ρ',Inv X w0 S F' ρ' c7.mem w∧gD X nt c7 rdc F' ρ' a w∧Grow F F' ρ ρ' w w:=by
  cases kX:w.cv with
  |nil=>rw [kX]at h;exact⟨_,h,λ_=>rfl,λ{nt rdc w0 S F ρ a w} hI hs=>⟨F,ρ,hI,hs,Grow.refl _ _ _⟩⟩
  |cons c cs=>
   rw [kX]at h;obtain⟨c7,h,_,_,kX⟩:=tW hX (c::cs) h;exact⟨c7,h,(λe=>by cases e),kX⟩
 clear h;obtain⟨c7,h,abD,kX⟩:=aN3;replace h:=dq h;obtain⟨h1,h⟩:=h;split at h
 ·cases h
 ·rename_i o ho;obtain⟨j,y,hy,hj,hf⟩:=hg _ _ ho;rw [ale hy (by omega)]at h;replace h:=dq h;obtain⟨hm,h⟩:=h;refine⟨_,_,⟨hc,λ{w0 S F ρ w' vs} hI hr=> ?_⟩,h,λe=>by rw [abD e];exact aAE⟩;obtain⟨F1,ρ1,i1,s1,g1⟩:=kX (nt:=⟨vs.length,0⟩) (rdc:=⟨none,λ_=>False,λt=>vs.toArray.getD t undef⟩) (a:={tmps:=vs.toArray,defers:=[]}) hI ⟨agw hr,by simp,Marks.nil _ _ (λ_ h=>h.elim),.inl rfl,λ_ _=>rfl⟩;obtain⟨bz,hZ,_⟩:=OC h1;have AP:=i1.sub hX bz oY;have K5:=XX hX h1 i1 s1.env;have xb:=ahj K5;have hl:vs.length=d.na:=by rw [hr.1];exact hna
  rw [hl]at xb;rw [N8 h1]at hf;have yC:=hf (w0:=w') (S:=hand ρ1 c7.mem (w.bR c7) F1) (F:=F1) (ρ:=sub oY ρ1 (w.bR c7)) (w:=w') (vs:=vs) (by rw [hZ];exact AP) xb;refine yC.mono ?_;rintro e qo ⟨v,ρ',F',rfl,dO,jC,hx⟩;obtain⟨i3,g3,r3⟩:=i1.merge hX bz oY dO jC hm;exact⟨v,_,F',rfl,i3,g1.trans g3,hx.gN hX.kinds r3 4⟩
def kC(cv:List Cv)(M:aV)(k:AV->aV->Option R)(x:AV)(M':aV):Option R:=match cv with| []=>k x M'|_::_=>aR (Nat.ble M.length M'.length) (k x M')
def wC(w:Wy)(args:bl)(M:aV):Option dP:=match w.cv with| []=>some (w.bR ⟨rV 0 args,M,[],.tA⟩)|_::_=>some (List.range M.length)
def Lg(X:Cx)(d:FD)(w:Wy)(g:bl->Option UO)(R:Type):CE R:=
 ⟨d.f,λargs M=>fits X w d.σ ⟨rV 0 args,M,[],.tA⟩,wC w,λargs M k=>Ry X d w g args M (kC w.cv M k)⟩
def P2(hX:X.Ok)(hg:AX X d g)(hc:∀(vs:Array Value) (w:World),(callFunc d.f vs).run X.P w= .ok (.enter d.f vs) w):tp X (Lg X d w g R):=by
 intro args M k r h;have h':Ry X d w g args M (kC w.cv M k)=some r:=h;obtain⟨x,M',h1,h2,h3⟩:=aA7 hX hg hc h';cases kX:w.cv with
 |nil=>
  rw [kX]at h2;refine⟨x,M',h1,h2,λids hi=> ?_⟩;have hi:wC w args M=some ids:=hi;unfold wC at hi;rw [kX]at hi;injection hi with hi;subst hi;exact h3 kX
 |cons c cs=>
  rw [kX]at h2;obtain⟨hle,h2⟩:=dq (show aR _ _=some r from h2);refine⟨x,M',h1,h2,λids hi=> ?_⟩;have hi:wC w args M=some ids:=hi;unfold wC at hi;rw [kX]at hi;exact akw
def uw(t:TypeId):Option UO->Bool
 |some (0,[.ab t' []])=>Nat.beq t' t
 |_=>false
def ah6{o:Option UO}(h:uw t o=true):o=some (0,[.ab t []]):=by
 unfold uw at h;split at h
 ·exact F9
 ·exact aX
def AM(t:TypeId)(gn ge g:bl->Option UO)(l:bl):Option UO:=
 match(l.getD 0 .top).rows with
 | []=>bif uw t (gn [])&&uw t (ge [])then some (0,[.ab t []])else none
 |_::_=>g l
def JQ(t:TypeId):List Rw->Bool
 | [⟨_,⟨[(0,.one (.aC 0))],[.row t']⟩⟩]=>Nat.beq t' t
 |_=>false
def yn(t:TypeId)(b:Nat):ay->Bool
 |⟨[(0,.one (.cell (.slice t')))],[]⟩=>Nat.beq b 0&&Nat.beq t' t
 |⟨[(0,.one .gQ)],[]⟩=>Nat.beq b 1
 |⟨[(0,.one .jR)],[]⟩=>Nat.beq b 2
 |_=>false
def Za(t:TypeId)(d dn de:FD):Bool:=
 Nat.beq dn.f d.f&&Nat.beq de.f d.f&&Nat.beq d.na 1&&Nat.beq dn.na 1&&Nat.beq de.na 1&&Nat.beq d.nr 1&&Nat.beq dn.nr 1&&Nat.beq de.nr 1&&Nat.beq d.m 0&&Nat.beq dn.m 0&&Nat.beq de.m 0&&
  yn t 0 d.σ&&yn t 1 dn.σ&&yn t 2 de.σ&&JQ t d.outs&&JQ t dn.outs&&JQ t de.outs
def XN{xs:List Rw}(h:JQ t xs=true):∃w,xs=[⟨w,⟨[(0,.one (.aC 0))],[.row t]⟩⟩]:=by
 unfold JQ at h;split at h
 ·rename_i w t';exact⟨w,F9⟩
 ·exact aX
def aDD(h:yn t 0 σ=true):σ=⟨[(0,.one (.cell (.slice t)))],[]⟩:=by
 unfold yn at h;split at h
 ·rw [bM]at h;rw [dU h.2]
 ·exact aX
 ·exact aX
 ·exact aX
def aDC(h:yn t 1 σ=true):σ=⟨[(0,.one .gQ)],[]⟩:=by
 unfold yn at h;split at h
 ·exact aX
 ·rfl
 ·exact aX
 ·exact aX
def aDB(h:yn t 2 σ=true):σ=⟨[(0,.one .jR)],[]⟩:=by
 unfold yn at h;split at h
 ·exact aX
 ·exact aX
 ·rfl
 ·exact aX
def aDG{dn de:FD}{gn ge:bl->Option UO}(hq:Za t d dn de=true)(h:AX X d g)(hn:AX X dn gn)(he:AX X de ge):AX X d (AM t gn ge g):=by
 simp only [Za,bM]at hq;obtain⟨⟨⟨⟨⟨⟨⟨⟨⟨⟨⟨⟨⟨⟨⟨⟨q1,q2⟩,q3⟩,q4⟩,q5⟩,q6⟩,q7⟩,q8⟩,q9⟩,mO⟩,re⟩,pN⟩,zf⟩,vU⟩,vT⟩,ze⟩,vS⟩:=hq;intro l o ho;unfold AM at ho;split at ho
 ·rename_i hl;have ht:(uw t (gn [])&&uw t (ge []))=true∧o=(0,[.ab t []]):=by
   cases hc:(uw t (gn [])&&uw t (ge []))with
   |false=>rw [hc]at ho;cases ho
   |true=>rw [hc]at ho;exact⟨rfl,by injection ho with ho;exact ho.symm⟩
  obtain⟨ht,rfl⟩:=ht;rw [bM]at ht;have h1:=hn _ _ (ah6 ht.1);have h2:=he _ _ (ah6 ht.2);obtain⟨w,e⟩:=XN vT;obtain⟨wn,en⟩:=XN ze;obtain⟨we,ee⟩:=XN vS;refine⟨0,_,by rw [e];rfl,rfl,?_⟩;rw [aDD pN,dU q3,dU q6,dU q9];obtain⟨jn,xn,Te,D6,HO⟩:=h1;obtain⟨je,xe,zr,hje,hce⟩:=h2;subst D6;subst hje;rw [en]at Te;rw [ee]at zr;injection Te with Te;injection zr with zr;subst Te;subst zr;rw [aDC zf,dU q4,dU q7,dU mO,dU q1]at HO;rw [aDB vU,dU q5,dU q8,dU re,dU q2]at hce;intro w0 S F ρ w vs hI hv;have fT:dz X.K ρ F w [.ab t (l.getD 0 .top).rows] vs:=hv;rw [hl]at fT;obtain⟨hlen,jX⟩:=fT
  match vs,hlen with
  | [v],_=>
    have hr:=jX 0 _ v rfl rfl;have one:∀{x:AV},aZ X.K ρ F w x v->dz X.K ρ F w [x] [v]:=λhx=>⟨rfl,λj y u hy hu=>by
     cases j with
     |zero=>simp at hy hu;subst hy;subst hu;exact hx
     |succ j=>simp at hy⟩
    cases hr with
    |kM=>exact HO hI (one .gQ)
    |ab _ _ a cap vss fY=>exact hce hI (one (.jR a cap))
 ·exact h l o ho
def CU:aW->Option cW
 | []=>some []
 |r::rs=>match r with
  | [.int .i64 n]=>(match CU rs with|some l=>some (n::l)|none=>none)
  |_=>none
def om(l:cW):aW:=l.map λn=>[AV.int .i64 n]
def nw(l:cW):cW:=l.mergeSort λx y=>decide (x<=y)
def agC:∀{rs:aW} {l:cW},CU rs=some l->rs=om l
 | [],l,h=>by injection h with h;subst h;rfl
 |r::rs,l,h=>by
  unfold CU at h;split at h
  ·rename_i n;split at h
   ·rename_i l' hl;injection h with h;subst h;rw [agC hl];rfl
   ·exact aX
  ·exact aX
def amT(t:TypeId):bl->Option UO
 | [.ab _ (x::xs)]=>match CU (x::xs)with|some zs=>aR (Nat.ble zs.length 4611686018427387903) (some (0,[.ab t (om (nw zs))]))|none=>none
 |_=>none
def aaa(t:TypeId):ay->Bool
 |⟨[(0,.one (.aC 0))],[.row t']⟩=>Nat.beq t' t
 |_=>false
def Y3(t:TypeId):List Rw->Bool
 | [⟨_,⟨[],[.row t']⟩⟩]=>Nat.beq t' t
 |_=>false
def Dk(d:FD)(l:bl):Option UO:=
 match d.calls with
 | .A5 f t::_=>(match Nat.beq d.f f&&Nat.beq d.na 1&&Nat.beq d.nr 0&&Nat.beq d.m 1&&aaa t d.σ&&Y3 t d.outs with|true=>amT t l|false=>none)
 |_=>none
def aaJ(X:Cx)(f:FuncId)(t:TypeId):Prop:=∀zs:cW,zs≠ []->zs.length<=4611686018427387903->Gm X f 1 [.aC 0] [.row t (om zs)] (.ew []) [.row t (om (nw zs))]
def aCu(h:aaa t σ=true):σ=⟨[(0,.one (.aC 0))],[.row t]⟩:=by
 unfold aaa at h;split at h
 ·exact F9
 ·exact aX
def aBL{xs:List Rw}(h:Y3 t xs=true):∃w,xs=[⟨w,⟨[],[.row t]⟩⟩]:=by
 unfold Y3 at h;split at h
 ·rename_i w t';exact⟨w,F9⟩
 ·exact aX
def aDs{cl:List Cl}(hc:d.calls= .A5 f t::cl)(hs:aaJ X f t){l:bl}(h:Dk d l=some o):
 ∃j x,d.outs[j]?=some x∧o.1=j∧Gm X d.f d.m (Az d.na (unpack d.σ l).env) (unpack d.σ l).mem (AH d.nr (unpack x.σ o.2).env) (unpack x.σ o.2).mem :=by
 unfold Dk at h;rw [hc]at h;simp only at h;split at h
 ·rename_i hq;simp only [bM]at hq;obtain⟨⟨⟨⟨⟨q1,q2⟩,q3⟩,q4⟩,q5⟩,q6⟩:=hq;unfold amT at h;split at h
  ·rename_i u x xs;split at h
   ·rename_i zs hz;replace h:=dq h;obtain⟨hlen,h⟩:=h;injection h with h;subst h;have hx:=agC hz;obtain⟨w,e⟩:=aBL q6;refine⟨0,_,by rw [e];rfl,rfl,?_⟩;rw [aCu q5,dU q1,dU q2,dU q3,dU q4];have eN:zs≠ []:=by intro e0;rw [e0]at hx;cases hx
    have key:= @hs zs eN (uf hlen);rw [<-hx]at key;exact @key
   ·exact aX
  ·exact aX
 ·cases h
def Dt(R:Type):CE R:=⟨0,λ_ _=>false,λ_ _=>none,λ_ _ _=>none⟩
def FR:tp X (Dt R):=by intro args M k r h;cases h
def aGD(e:CE R)(ps:List (Nat×TypeId)):CE R:=⟨e.f,λargs M=>e.test (CF ps args) M,λargs M=>e.wr (CF ps args) M,λargs M k=>e.run (CF ps args) M k⟩
def aGE(X:Cx)(L:kz R)(f:FuncId)(fn:Func):CE R:=
 ⟨f,λ_ _=>true,λ_ M=>some (List.range M.length),λargs M k=>y6 X L (nC fn) fn.results.toList args M λx M'=>aR (Nat.ble M.length M'.length) (k x M')⟩
def sB(X:Cx)(N:Nat)(E:List FD)(G:Nat->bl->Option UO):List Cl->(R:Type)->List (CE R)
 | [],_=>[]
 | .fn v::cl,R=>(match E[v]? with|none=>Dt R|some d=>Lg X d ⟨[],Ao 0 d.σ⟩ (G v) R)::sB X N E G cl R
 | .fc v c::cl,R=>(match E[v]? with|none=>Dt R|some d=>Lg X d ⟨c,Ao 0 d.σ⟩ (G v) R)::sB X N E G cl R
 | .abo v ps::cl,R=>(match E[v]? with|none=>Dt R|some d=>aGD (Lg X d ⟨[],Ao 0 d.σ⟩ (G v) R) ps)::sB X N E G cl R
 | .inl f fn eX::cl,R=>aGE X (ny X N (sB X N E G cl) fn (λ_=>Hr) eX (full fn.ntmps) R) f fn::sB X N E G cl R
 | .known f::cl,R=>kce f::sB X N E G cl R
 | .A5 _ _::cl,R=>Dt R::sB X N E G cl R
 | .Sf t v vn ve::cl,R=>(match E[v]?,E[vn]?,E[ve]? with|some d,some dn,some de=>(match Za t d dn de with|true=>Lg X d ⟨[],Ao 0 d.σ⟩ (AM t (G vn) (G ve) (G v)) R|false=>Dt R)|_,_,_=>Dt R)::sB X N E G cl R
def bZ(X:Cx)(E:List FD)(G:Nat->bl->Option UO)(N v:Nat)(l:bl):Option UO:=
 match E[v]? with
 |none=>none
 |some d=>match Dk d l with
  |some o=>some o
  |none=>y6 X (ny X N (sB X N E G d.calls) d.fn (λ_=>Hr) d.eX (full d.fn.ntmps) UO) (nC d.fn) d.fn.results.toList (Az d.na (unpack d.σ l).env) (unpack d.σ l).mem (abe X d.m d.nr d.outs)
def FU(X:Cx)(E:List FD):Nat->Nat->bl->Option UO
 |0,_,_=>none
 |N+1,v,l=>bZ X E (FU X E N) N v l
def SS(X:Cx):Cl->Prop
 | .inl f fn eX=>Enters X f fn∧Df X fn eX
 | .known f=>∀R,tp X (kce (R:=R) f)
 | .A5 f t=>aaJ X f t
 |_=>True
def ab6(X:Cx)(d:FD):Prop:=Enters X d.f d.fn∧Df X d.fn d.eX∧iQ (SS X) d.calls
def iQ.at{α:Type}{P:α->Prop}:∀{l:List α} {i:Nat} {a:α},iQ P l->l[i]?=some a->P a
 | [],i,a,_,h=>hU
 |b::l,0,a,h,hi=>by simp at hi;subst hi;exact h.1
 |b::l,i+1,a,h,hi=>iQ.at h.2 (CL)
def yv(hX:X.Ok){N:Nat}{E:List FD}(hE:iQ (ab6 X) E){G:Nat->bl->Option UO}(hG:∀v d,E[v]?=some d->AX X d (G v)):∀{cl:List Cl},iQ (SS X) cl->∀R,iQ (tp X) (sB X N E G cl R)
 | [],_,R=>trivial
 | .fn v::cl,h,R=>⟨by
    split
    ·exact FR
    ·rename_i d hd;exact P2 hX (hG v d hd) (hE.at hd).1.call,yv hX hE hG h.2 R⟩
 | .fc v c::cl,h,R=>⟨by
    split
    ·exact FR
    ·rename_i d hd;exact P2 hX (hG v d hd) (hE.at hd).1.call,yv hX hE hG h.2 R⟩
 | .abo v ps::cl,h,R=>⟨by
    split
    ·exact FR
    ·rename_i d hd;exact aEJ (P2 hX (hG v d hd) (hE.at hd).1.call) ps _,yv hX hE hG h.2 R⟩
 | .inl f fn eX::cl,h,R=>by
   obtain⟨⟨wx,uy⟩,eJ⟩:=h;refine⟨aDO λ{args M k r} hr=> ?_,yv hX hE hG eJ R⟩;exact OS hX (Cs hX (yv hX hE hG eJ) eX (λ_=>aiC) uy (full fn.ntmps) R) wx.at_ wx.cd (by rw [ug]) wx.call rfl hr
 | .known f::cl,h,R=>⟨h.1 R,yv hX hE hG h.2 R⟩
 | .A5 _ _::cl,h,R=>⟨FR,yv hX hE hG h.2 R⟩
 | .Sf t v vn ve::cl,h,R=>⟨by
    split
    ·rename_i d dn de hd hdn hde;split
     ·rename_i hq;exact P2 hX (aDG hq (hG v d hd) (hG vn dn hdn) (hG ve de hde)) (hE.at hd).1.call
     ·exact FR
    ·exact FR,yv hX hE hG h.2 R⟩
def amB(hX:X.Ok){E:List FD}(hE:iQ (ab6 X) E):∀N v d,E[v]?=some d->AX X d (FU X E N v)
 |0,v,d,hd=>by intro l o h;cases h
 |N+1,v,d,hd=>by
  intro l o h;simp only [FU,bZ,hd]at h;obtain⟨wx,uy,eJ⟩:=hE.at hd;split at h
  ·rename_i o' ho;injection h with h;subst h;cases hc:d.calls with
   |nil=>unfold Dk at ho;rw [hc]at ho;cases ho
   |cons c cl=>
    cases c with
    |A5 f t=>
     rw [hc]at eJ;exact aDs hc eJ.1 ho
    |_=>unfold Dk at ho;rw [hc]at ho;cases ho
  obtain⟨x,M',h1,h2⟩:=OS hX (Cs hX (yv hX hE (amB hX hE N) eJ) d.eX (λ_=>aiC) uy (full d.fn.ntmps) UO) wx.at_ wx.cd (by rw [ug]) wx.call rfl h;exact aBe hX h1 h2
abbrev gI(l:bl)(j:Nat):Int:=(l.getD j .top).toI
abbrev gB(l:bl)(j:Nat):Bool:=(l.getD j .top).toB
abbrev gS(l:bl)(j:Nat):ByteArray:=(l.getD j .top).toS
abbrev gR(l:bl)(j:Nat):aW:=(l.getD j .top).rows
abbrev gC(l:bl)(j:Nat):bl:=(l.getD j .top).cells
abbrev iI(n:Int):AV:= .int .i64 n
abbrev bw(n:Int):Int:=IntKind.wrap .i64 n
abbrev ln(xs:aW):Int:=(xs.length:Int)
def ib(i:Int)(n:Nat):Bool:=decide (0<=i)&&decide (i<n)
abbrev gA(xs:aW)(j:Nat):Row:=xs.getD j []
def sT(l:bl):cY->bl
 | []=>l
 |e::es=>sT (l.set e.1 e.2) es
def bO(t:Option UO)(f:Nat->bl->Option R):Option R:=match t with|none=>none|some o=>f o.1 o.2
abbrev YF:=Nat->((R:Type)->List (CE R))->(R:Type)->YT R
def yNo:YF:=λ_ _ _=>Hr
def yU(X:Cx)(fn:Func)(y:YF)(eX:lM)(s p:Nat):YF:=λN cs R=>KD s (FW X (ny X N cs fn (y N cs) eX (full fn.ntmps) R) s p) (y N cs R)
def LD(X:Cx)(E:List FD)(cl:List Cl)(fn:Func)(y:YF)(q:Pc)(eX:lM)(G:Nat->bl->Option UO)(N n:Nat)(l:bl):Option UO:=
 Gx X (ny X N (sB X N E G cl) fn (y N (sB X N E G cl)) eX q.mask UO) (Ek (nC fn) q.p) q.p q.m q.bk q.σ q.xs n l
def ctU(X:Cx)(E:List FD)(cl:List Cl)(fn:Func)(y:YF)(q:Pc)(eX:lM)(G:Nat->bl->Option UO)(N:Nat)(l:bl):Option UO:=
 abZ X (ny X N (sB X N E G cl) fn (y N (sB X N E G cl)) eX q.mask UO) (TD (nC fn) q.p) q.p q.m q.σ q.xs l
def cI:eK:= .cell (.int .i64)
def cU:eK:= .cell (.int .u8)
def cB:eK:= .cell .bool
def cS(t:TypeId):eK:= .cell (.slice t)
def eI(t:Nat):Nat×Sh:=(t,.one cI)
def eB(t:Nat):Nat×Sh:=(t,.one cB)
def eS(t e:Nat):Nat×Sh:=(t,.one (cS e))
def eO(t j:Nat):Nat×Sh:=(t,.one (.aC j))
def eP(t j:Nat):Nat×Sh:=(t,.one (.ptr j 0 0))
def eA(t:Nat)(h:List eK):Nat×Sh:=(t,.agg h)
def LH:eK->Kind
 | .cell (.slice _)=> .any
 | .cell k=>k
 |_=> .any
def bV(h:List eK):fB:= .var (h.map LH) h
def cK(t c:Nat)(ty:TypeId):Cv:= .tF (λenv _=>(look env t).id) c ty
def xN(σ:ay):Ex×List Cv×ay:=(.normal,[],σ)
def xR(σ:ay):Ex×List Cv×ay:=(.ret,[],σ)
def xE(k:Nat)(σ:ay):Ex×List Cv×ay:=(.exit k,[],σ)
def pP(lp:Bool)(q p m mask:Nat)(σ:ay)(xs:List (Ex×List Cv×ay)):Pc:=⟨p,lp,m,mask,σ,⟨[],Ao q σ⟩,⟨[],match lp with|true=>Ao m σ|false=>λ_=>[]⟩,xs.map λx=>⟨x.1,⟨x.2.1,Ao m x.2.2⟩,x.2.2⟩⟩
def pJ:=pP false
def pL:=pP true
def eh(c:List Cv)(q:Pc):Pc:={q with en:=⟨c,q.en.bR⟩}
def Mo(c:List Cv)(q:Pc):Pc:={q with bk:=⟨c,q.bk.bR⟩}
def nI(c:List Cv)(f:FuncId)(fn:Func)(na nr m:Nat)(σ o:ay)(cl:List Cl)(eX:lM):FD:=⟨f,fn,na,nr,m,σ,[⟨⟨c,Ao m o⟩,o⟩],cl,eX⟩
def cp:=nI []
def DH:Nat->lM->lM
 |0,i=>i
 |k+1,.pc _ i=>DH k i
 |k+1,.rg _ _ _ _ _ _ i=>DH k i
 |k+1,.ur _ _ i=>DH k i
 |_,.nil => .nil
def hdI:lM->Pc
 | .pc q _=>q
 |_=>⟨0,false,0,0,⟨[],[]⟩,⟨[],λ_=>[]⟩,⟨[],λ_=>[]⟩,[]⟩
def da(X:Cx)(E:List FD)(d:FD)(k:Nat):=LD X E d.calls d.fn yNo (hdI (DH k d.eX)) (DH (k+1) d.eX)
def ck(X:Cx)(E:List FD)(d:FD)(k:Nat):=ctU X E d.calls d.fn yNo (hdI (DH k d.eX)) (DH (k+1) d.eX)
def z0:Kind->AV
 | .int k=> .int k 0
 | .bool => .bool false
 | .slice t=> .ab t []
 |_=> .top
end
end Go.aA
namespace Go.Proofs.YtomkobcipaligaaGreatDoor.Cl
open Go Go.aA
set_option maxRecDepth 100000
noncomputable def S7:Operand×Array Tmp×Code×Code:=match w4 (ca Tryz.f35).c [false,true,true,true]with|some (.rangeFunc g ps a b)=>(g,ps,a,b)|_=>(.func 0,#[],.skip,.skip)
noncomputable def zj:Operand×Array Tmp×Code×Code:=match w4 (ca Tryz.f34).c [false,true,false,true,true]with|some (.rangeFunc g ps a b)=>(g,ps,a,b)|_=>(.func 0,#[],.skip,.skip)
noncomputable def aac:List (Nat×Site):=[(0,⟨17,S7.2.1,S7.2.2.1,S7.2.2.2⟩),(1,⟨13,zj.2.1,zj.2.2.1,zj.2.2.2⟩)]
noncomputable def SW:List (Nat×TI):=[0,1,2,3,4,5,9,20,22,23,24,26,29,31,32,33,34,35,36,37,38,39,41,44,46,47,49,51,52,54,55,57,59,67,82,83,84,88,89,91,93,94,96,98,99,102,110,112,113,115,116,118,120,121,122,123,125,127,134,147,149,150,151,163,166,167,169,172,176,178,179,190,198,203,204,206,207,208,218,219,223,229,233,234,236,237,239,240,244,246,249,257,258,260,261,264,267,272,273,274,275].map λt=>(t,xj Tryz.prog t)
noncomputable def X:Cx:=⟨Tryz.prog,λt=>A2 (oN SW t),aam aac,λ_=> .top,um [166],false,λd t=>ZS [(28,36),(41,88),(44,88),(56,36)] d t,some ⟨[.any,.any,.any],127,125,122,244,202⟩⟩
def hX:X.Okb:=aE5 (l:=SW) (el:=[166]) (λu h=>by injection h with h;subst h;exact⟨by kernel_rfl,by kernel_rfl,aFk (by kernel_rfl),by kernel_rfl,by decide,⟨_,Tryz.func202,by kernel_rfl,by kernel_rfl,by kernel_rfl,by kernel_rfl⟩⟩) (λ_=> .inl rfl) (by kernel_rfl) (by repeat' first|exact trivial|refine⟨?_,?_⟩|rfl|kernel_rfl) ⟨(by show AT Tryz.prog _=true;kernel_rfl),trivial⟩
def hG:FO X:=λg {ρ ρ' F w v} _=> .top v
noncomputable def I:List (Nat×FI):=[(9,ca Tryz.f9),(16,ca Tryz.f16),(21,ca Tryz.f21),(33,ca Tryz.f33),(17,ca Tryz.f17),(13,ca Tryz.f13),(39,ca Tryz.f39),(90,ca Tryz.f90),(92,ca Tryz.f92),(91,ca Tryz.f91),(141,ca Tryz.f141),(40,ca Tryz.f40),(93,ca Tryz.f93),(142,ca Tryz.f142),(183,ca Tryz.f183),(184,ca Tryz.f184),(94,ca Tryz.f94),(41,ca Tryz.f41),(95,ca Tryz.f95),(96,ca Tryz.f96),(143,ca Tryz.f143),(185,ca Tryz.f185),(186,ca Tryz.f186),(187,ca Tryz.f187),(188,ca Tryz.f188),(189,ca Tryz.f189),(190,ca Tryz.f190),(191,ca Tryz.f191),(144,ca Tryz.f144),(145,ca Tryz.f145),(146,ca Tryz.f146),(147,ca Tryz.f147),(42,ca Tryz.f42),(148,ca Tryz.f148),(149,ca Tryz.f149),(150,ca Tryz.f150),(192,ca Tryz.f192),(213,ca Tryz.f213),(231,ca Tryz.f231),(218,ca Tryz.f218),(212,ca Tryz.f212),(222,ca Tryz.f222),(228,ca Tryz.f228),(241,ca Tryz.f241),(223,ca Tryz.f223),(236,ca Tryz.f236),(224,ca Tryz.f224),(237,ca Tryz.f237),(238,ca Tryz.f238),(225,ca Tryz.f225),(239,ca Tryz.f239),(240,ca Tryz.f240),(242,ca Tryz.f242),(226,ca Tryz.f226),(227,ca Tryz.f227),(229,ca Tryz.f229),(230,ca Tryz.f230),(193,ca Tryz.f193),(151,ca Tryz.f151),(43,ca Tryz.f43),(97,ca Tryz.f97),(152,ca Tryz.f152),(99,ca Tryz.f99),(98,ca Tryz.f98),(153,ca Tryz.f153),(44,ca Tryz.f44),(100,ca Tryz.f100),(22,ca Tryz.f22),(20,ca Tryz.f20),(63,ca Tryz.f63),(58,ca Tryz.f58),(68,ca Tryz.f68),(67,ca Tryz.f67),(69,ca Tryz.f69),(70,ca Tryz.f70),(71,ca Tryz.f71),(72,ca Tryz.f72),(73,ca Tryz.f73),(74,ca Tryz.f74),(75,ca Tryz.f75),(101,ca Tryz.f101),(154,ca Tryz.f154),(102,ca Tryz.f102),(155,ca Tryz.f155),(194,ca Tryz.f194),(214,ca Tryz.f214),(158,ca Tryz.f158),(232,ca Tryz.f232),(195,ca Tryz.f195),(156,ca Tryz.f156),(196,ca Tryz.f196),(197,ca Tryz.f197),(215,ca Tryz.f215),(233,ca Tryz.f233),(157,ca Tryz.f157),(159,ca Tryz.f159),(160,ca Tryz.f160),(161,ca Tryz.f161),(162,ca Tryz.f162),(163,ca Tryz.f163),(168,ca Tryz.f168),(164,ca Tryz.f164),(198,ca Tryz.f198),(199,ca Tryz.f199),(165,ca Tryz.f165),(166,ca Tryz.f166),(200,ca Tryz.f200),(201,ca Tryz.f201),(103,ca Tryz.f103),(167,ca Tryz.f167),(104,ca Tryz.f104),(105,ca Tryz.f105),(107,ca Tryz.f107),(169,ca Tryz.f169),(106,ca Tryz.f106),(109,ca Tryz.f109),(108,ca Tryz.f108),(170,ca Tryz.f170),(51,ca Tryz.f51),(113,ca Tryz.f113),(175,ca Tryz.f175),(176,ca Tryz.f176),(205,ca Tryz.f205),(206,ca Tryz.f206),(217,ca Tryz.f217),(219,ca Tryz.f219),(207,ca Tryz.f207),(208,ca Tryz.f208),(220,ca Tryz.f220),(221,ca Tryz.f221),(234,ca Tryz.f234),(235,ca Tryz.f235),(52,ca Tryz.f52),(50,ca Tryz.f50),(111,ca Tryz.f111),(172,ca Tryz.f172),(203,ca Tryz.f203),(173,ca Tryz.f173),(171,ca Tryz.f171),(204,ca Tryz.f204),(110,ca Tryz.f110),(174,ca Tryz.f174),(56,ca Tryz.f56),(112,ca Tryz.f112),(53,ca Tryz.f53),(114,ca Tryz.f114),(54,ca Tryz.f54),(115,ca Tryz.f115),(116,ca Tryz.f116),(117,ca Tryz.f117),(55,ca Tryz.f55),(118,ca Tryz.f118),(177,ca Tryz.f177),(119,ca Tryz.f119),(178,ca Tryz.f178),(120,ca Tryz.f120),(18,ca Tryz.f18),(10,ca Tryz.f10),(35,ca Tryz.f35),(36,ca Tryz.f36),(89,ca Tryz.f89),(34,ca Tryz.f34)]
set_option maxRecDepth 1000000 in
def hI:iQ (λe=>DF X e.1 e.2) I:=by repeat' first|exact trivial|exact aE2 (by kernel_rfl) (by kernel_rfl) (by kernel_rfl)|refine⟨?_,?_⟩
def Ss:List SI:=[⟨0,35,30⟩,⟨1,34,58⟩]
def hS:iQ (DE X I) Ss:=⟨⟨S7.1,⟨[false,true,true,true],by kernel_rfl,by kernel_rfl⟩,by kernel_rfl⟩,⟨zj.1,⟨[false,true,false,true,true],by kernel_rfl,by kernel_rfl⟩,by kernel_rfl⟩,trivial⟩
noncomputable def fi9:FI:=ca Tryz.f9
def aMN:asB (y6 X (LA X I Ss 64 64 9) fi9.c fi9.rs [] [] kB)=true:=by kernel_rfl
def aNO:lP X 9 [] [] (.bool true) []:=aBD hX hG hI hS (fi:=fi9) (by kernel_rfl) aMN
end Go.Proofs.YtomkobcipaligaaGreatDoor.Cl
namespace Go.Proofs.YtomkobcipaligaaGreatDoor
open Go Go.aA
set_option maxRecDepth 100000
noncomputable section
noncomputable def aac:List (Nat×Site):=[(0,aab 17 (nC Tryz.f35) 30)]
noncomputable def SW:List (Nat×TI):=[0,1,2,3,4,5,9,22,23,24,26,29,32,33,34,35,36,37,38,39,41,51,52,54,55,57,63,64,67,69,70,72,74,79,82,84,88,89,91,93,94,96,98,99,102,103,110,112,113,115,116,118,120,134,157,166,167,203,204,206,207,208,218,219,223,236,237,239,261,264,267,275].map λt=>(t,xj Tryz.prog t)
def rdL:qb:=[2,3,4,22,23,24,26,29,32,33,34,35,36,37,38,39,41,51,52,54,55,57,67,110,112,113,115,116,118,120,134]
def TB:Nat->AV:=λg=>match g with|_=> .top
def aEX:∀g,TB g= .top ∨(TB g).pure =true:=λg=>by unfold TB;split<;>first|exact .inl rfl|exact .inr rfl
def vwL:List (Nat×Nat):=[(28,36),(41,88),(44,88),(56,36)]
noncomputable def CX:Cx:=⟨Tryz.prog,oN SW,aam aac,TB,um [166],true,λd t=>ZS vwL d t,none⟩
def hX:CX.Ok:=aGy aEX (el:=[166]) (by kernel_rfl) (by repeat' first|exact trivial|refine⟨?_,?_⟩|rfl|kernel_rfl) ⟨(by show AT Tryz.prog _=true;kernel_rfl),trivial⟩
abbrev uj:Nat:=3
abbrev aEk:Nat:=36
abbrev Ol:Nat:=41
abbrev Fe:Nat:=54
abbrev af3:Nat:=57
abbrev af4:Nat:=67
abbrev asX:Nat:=69
abbrev Fb:Nat:=98
abbrev Om:Nat:=110
abbrev Nx:Nat:=112
abbrev OJ:Nat:=115
abbrev Fc:Nat:=118
abbrev ags:Nat:=120
abbrev afC:Nat:=134
abbrev ada:Nat:=157
abbrev afB:Nat:=166
abbrev pG:bl:=[.bool false,.bool false,.ab uj ([]),iI 0,iI 0]
abbrev tq:bl:=[.bool false,.bool false,.ab uj ([]),iI 0,iI 1]
abbrev Ln:bl:=[.bool false,.bool false,.ab uj ([]),iI ((-2147483648)),iI 2147483647]
abbrev SU:bl:=[.bool false,.bool false,.ab uj ([]),iI 0,iI 32]
abbrev se:bl:=[.int .u8 1,iI 0,iI 0,iI 0,iI 0,iI 0,.bool false,.bool false,.bool false,.bool false,.bool false,.int .u8 0,.ab Fe ([]),.ab Fe ([]),.ab Fc ([]),.ab Fc ([]),.ab uj ([]),.ab Ol ([]),.ab Om ([]),.ab Nx ([]),.ab OJ ([])]
abbrev Lm:bl:=[.int .u8 0,iI 0,iI 0,iI 0,iI 0,iI 0,.bool false,.bool false,.bool false,.bool false,.bool false,.int .u8 0,.ab Fe ([]),.ab Fe ([]),.ab Fc ([]),.ab Fc ([]),.ab uj ([]),.ab Ol ([]),.ab Om ([]),.ab Nx ([]),.ab OJ ([])]
def Xw:Nat:=1
def OP:Nat:=2
def zT:Nat:=3
def yi:Nat:=4
def WW:Nat:=5
def Xd:Nat:=6
def Fg:Nat:=7
def OM:Nat:=8
def B3:Nat:=9
def rQ:Nat:=10
def Cw:Nat:=11
def O3:Nat:=12
def Jo:Nat:=13
def Xe:Nat:=14
def O2:Nat:=15
def O5:Nat:=16
def wH:Nat:=17
def Xf:Nat:=18
def Ot:Nat:=19
def OO:Nat:=20
def Xc:Nat:=21
def IQ:Nat:=22
def p7:Nat:=23
def ON:Nat:=24
def VN:Nat:=25
def Ou:Nat:=26
def uY:Nat:=27
def WX:Nat:=28
def BV:Nat:=29
def zU:Nat:=30
def uZ:Nat:=31
def E6:Nat:=32
def BW:Nat:=33
def BK:Nat:=34
def XQ:Nat:=35
def I5:Nat:=36
def zL:Nat:=37
def sF:Nat:=38
def Ir:Nat:=39
def EX:Nat:=40
def EV:Nat:=41
def nM:Nat:=42
def Fq:Nat:=43
def aeX:Nat:=44
def Oq:Nat:=45
def O4:Nat:=46
def Xv:Nat:=47
def NS:Nat:=48
def I7:Nat:=49
def E5:Nat:=50
def Vr:Nat:=51
def Jf:Nat:=52
def EW:Nat:=53
def Fh:Nat:=54
def M4:Nat:=55
def VO:Nat:=56
def ML:Nat:=57
def Ny:Nat:=59
def Yq:Nat:=62
def Ov:Nat:=64
def Ww:Nat:=69
def yj:Nat:=70
def zW:Nat:=71
def Wz:Nat:=72
def E7:Nat:=73
def TR:Nat:=74
def TW:Nat:=75
def VQ:Nat:=76
def Oy:Nat:=77
def UB:Nat:=78
def V9:Nat:=79
def Vs:Nat:=80
def IS:Nat:=81
def Nz:Nat:=82
def I9:Nat:=83
def Is:Nat:=84
def Xg:Nat:=85
def ae0:Nat:=86
def NT:Nat:=87
def WB:Nat:=88
def aeZ:Nat:=89
def WA:Nat:=90
def aeY:Nat:=91
def Ig:Nat:=92
def BD:Nat:=93
def BC:Nat:=94
def BI:Nat:=95
def Nq:Nat:=96
def yd:Nat:=97
def rJ:Nat:=98
def OQ:Nat:=99
def WZ:Nat:=100
def IU:Nat:=101
def MU:Nat:=109
def T8:Nat:=126
def UE:Nat:=127
def Ja:Nat:=128
def sD:Nat:=129
def adC:Nat:=130
def TS:Nat:=131
def TX:Nat:=132
def Wx:Nat:=133
def kq:Nat:=134
def Ox:Nat:=135
def IG:Nat:=136
def MG:Nat:=137
def ayk:Nat:=138
def U9:Nat:=139
def MD:Nat:=140
def axg:Nat:=141
def TV:Nat:=142
def TQ:Nat:=143
def av3:Nat:=144
def TJ:Nat:=145
def av2:Nat:=146
def TU:Nat:=147
def av1:Nat:=148
def UT:Nat:=149
def Oa:Nat:=150
def Im:Nat:=151
def BH:Nat:=152
def xV:Nat:=153
def EM:Nat:=154
def BO:Nat:=155
def TH:Nat:=156
def TM:Nat:=157
def UR:Nat:=158
def Ms:Nat:=159
def TO:Nat:=160
def UC:Nat:=161
def zN:Nat:=162
def TN:Nat:=163
def TT:Nat:=164
def Vb:Nat:=165
def VP:Nat:=166
def IT:Nat:=167
def acv:Nat:=168
def acG:Nat:=169
def Wa:Nat:=170
def H8:Nat:=171
def wF:Nat:=172
def Ic:Nat:=173
def Ni:Nat:=174
def EH:Nat:=175
def Il:Nat:=176
def u6:Nat:=177
def Nj:Nat:=178
def TL:Nat:=179
def TP:Nat:=180
def UU:Nat:=181
def Jg:Nat:=182
def Np:Nat:=183
def Va:Nat:=184
def Mz:Nat:=185
def UD:Nat:=186
def Io:Nat:=187
def EG:Nat:=188
def Ih:Nat:=189
def MK:Nat:=190
def B8:Nat:=191
def M9:Nat:=192
def Ez:Nat:=193
def Ey:Nat:=194
def M5:Nat:=195
def TG:Nat:=196
def Mv:Nat:=197
def US:Nat:=198
def XR:Nat:=199
def ya:Nat:=200
def WY:Nat:=201
def EY:Nat:=202
def I8:Nat:=203
def aAw:List eK:=[.cell (.slice 120),.cell (.int .i64),.cell (.slice 57),.cell (.slice 67)]
def dG:List eK:=[.cell (.int .u8),.cell (.int .i64),.cell (.int .i64),.cell (.int .i64),.cell (.int .i64),.cell (.int .i64),.cell .bool,.cell .bool,.cell .bool,.cell .bool,.cell .bool,.cell (.int .u8),.cell (.slice 54),.cell (.slice 54),.cell (.slice 118),.cell (.slice 118),.cell (.slice 3),.cell (.slice 41),.cell (.slice 110),.cell (.slice 112),.cell (.slice 115)]
def aBa:List eK:=[.cell (.int .i64),.cell (.int .i64),.cell (.int .i64),.cell .bool,.cell (.slice 3)]
def aAv:List eK:=[.cell (.int .i64),.cell (.slice 3),.cell (.slice 54)]
def B0:List eK:=[.cell (.int .u8),.cell (.int .u8),.cell (.int .i64),.cell (.int .i64),.cell (.int .i64),.cell (.int .i64),.cell (.int .i64),.cell (.int .i64),.cell (.slice 54)]
def aCk:List eK:=[.cell (.int .u8),.cell (.int .u8),.cell (.int .i64),.cell (.int .i64),.cell (.int .i64),.cell (.int .i64),.cell (.int .i64),.cell (.int .i64),.cell .any]
def ayR:List eK:=[.cell .bool,.cell .bool,.cell (.slice 3),.cell (.int .i64),.cell (.int .i64)]
def azH:List eK:=[.cell (.slice 120),.cell (.slice 69),.cell (.int .i64)]
def aCl:List eK:=[.cell .bool,.cell .bool,.cell .any,.cell (.int .i64),.cell (.int .i64)]
def azI:List eK:=[.cell (.slice 120),.cell (.int .i64),.cell (.slice 57),.cell (.slice 67),.cell (.slice 157),.cell (.int .i64),.cell (.slice 3),.cell (.slice 3),.cell (.slice 3),.cell (.slice 3),.cell (.slice 3),.cell .bool,.cell .bool,.cell .bool,.cell (.int .i64),.cell (.int .i64)]
def aCq:List eK:=[.cell (.int .u8),.cell (.int .i64),.cell (.int .i64),.cell (.int .i64),.cell (.int .i64),.cell (.int .i64),.cell .bool,.cell .bool,.cell .bool,.cell .bool,.cell .bool,.cell (.int .u8),.cell .any,.cell .any,.cell .any,.cell .any,.cell .any,.cell .any,.cell .any,.cell .any,.cell .any]
def azJ:List eK:=[.cell (.int .u8),.cell (.int .i64),.cell (.int .i64),.cell (.int .i64),.cell (.slice 54)]
def aCm:List eK:=[.cell (.int .u8),.cell (.int .i64),.cell (.int .i64),.cell (.int .i64),.cell .any]
def awE:List eK:=[.cell (.slice 3),.cell (.int .u8),.cell (.int .i64),.cell (.int .i64),.cell (.int .i64),.cell (.int .i64),.cell (.int .i64),.cell .bool,.cell .bool,.cell .bool,.cell .bool,.cell .bool,.cell (.int .u8),.cell (.slice 54),.cell (.slice 54),.cell (.slice 118),.cell (.slice 118),.cell (.slice 3),.cell (.slice 41),.cell (.slice 110),.cell (.slice 112),.cell (.slice 115)]
def aCr:List eK:=[.cell (.slice 120),.cell (.int .i64),.cell (.slice 57),.cell (.slice 67),.cell (.slice 157),.cell (.int .i64),.cell (.slice 3),.cell (.slice 3),.cell .any,.cell (.slice 3),.cell (.slice 3),.cell .bool,.cell .bool,.cell .bool,.cell (.int .i64),.cell (.int .i64)]
def aCs:List eK:=[.cell (.slice 120),.cell (.int .i64),.cell (.slice 57),.cell (.slice 67),.cell (.slice 157),.cell (.int .i64),.cell (.slice 3),.cell (.slice 3),.cell (.slice 3),.cell .any,.cell (.slice 3),.cell .bool,.cell .bool,.cell .bool,.cell (.int .i64),.cell (.int .i64)]
def aAx:List eK:=[.cell (.int .u8),.cell (.int .u8),.cell (.int .u8),.cell (.int .i64),.cell (.int .i64),.cell (.int .i64),.cell (.int .i64),.cell (.int .i64),.cell (.int .i64),.cell (.slice 54),.cell (.int .i64),.cell (.slice 54),.cell (.int .u8),.cell (.int .i64),.cell (.int .i64),.cell (.int .i64),.cell (.int .i64),.cell (.int .i64),.cell .bool,.cell .bool,.cell .bool,.cell .bool,.cell .bool,.cell (.int .u8),.cell (.slice 54),.cell (.slice 54),.cell (.slice 118),.cell (.slice 118),.cell (.slice 3),.cell (.slice 41),.cell (.slice 110),.cell (.slice 112),.cell (.slice 115),.cell (.int .u8),.cell (.int .i64),.cell (.int .i64),.cell (.int .i64),.cell (.int .i64),.cell (.int .i64),.cell .bool,.cell .bool,.cell .bool,.cell .bool,.cell .bool,.cell (.int .u8),.cell (.slice 54),.cell (.slice 54),.cell (.slice 118),.cell (.slice 118),.cell (.slice 3),.cell (.slice 41),.cell (.slice 110),.cell (.slice 112),.cell (.slice 115)]
def aCi:List eK:=[.cell (.slice 120),.cell (.int .i64),.cell .any,.cell (.slice 67)]
def azK:List eK:=[.cell (.int .u8),.cell (.int .i64),.cell (.int .i64),.cell (.int .i64),.cell (.int .i64),.cell (.int .i64),.cell .bool,.cell .bool,.cell .bool,.cell .bool,.cell .bool,.cell (.int .u8),.cell (.slice 54),.cell (.slice 54),.cell (.slice 118),.cell (.slice 118),.cell (.slice 3),.cell (.slice 41),.cell (.slice 110),.cell (.slice 112),.cell (.slice 115),.cell (.int .u8),.cell (.int .i64),.cell (.int .i64),.cell (.int .i64),.cell (.int .i64),.cell (.int .i64),.cell .bool,.cell .bool,.cell .bool,.cell .bool,.cell .bool,.cell (.int .u8),.cell (.slice 54),.cell (.slice 54),.cell (.slice 118),.cell (.slice 118),.cell (.slice 3),.cell (.slice 41),.cell (.slice 110),.cell (.slice 112),.cell (.slice 115)]
def ayS:List eK:=[.cell (.int .i64),.cell (.int .i64),.cell (.int .i64)]
def aCn:List eK:=[.cell (.slice 120),.cell (.int .i64),.cell (.slice 120),.cell (.int .i64),.cell (.slice 57),.cell (.slice 67),.cell .any,.cell (.int .i64),.cell .any]
def aCp:List eK:=[.cell .any,.cell (.int .i64),.cell (.slice 3),.cell (.slice 3),.cell (.slice 3),.cell (.slice 3),.cell (.slice 3),.cell .bool,.cell .bool,.cell .bool,.cell (.int .i64),.cell (.int .i64)]
def aCj:List eK:=[.cell .any,.cell (.int .i64),.cell (.slice 3),.cell (.slice 3),.cell .any,.cell (.slice 3),.cell (.slice 3),.cell .bool,.cell .bool,.cell .bool,.cell (.int .i64),.cell (.int .i64)]
def aCo:List eK:=[.cell .any,.cell (.int .i64),.cell (.slice 3),.cell (.slice 3),.cell (.slice 3),.cell .any,.cell (.slice 3),.cell .bool,.cell .bool,.cell .bool,.cell (.int .i64),.cell (.int .i64)]
end
noncomputable section
def v0:fB:=bV [cU,cI,cI,cI,cI,cI,cB,cB,cB,cB,cB,cU,cS 54,cS 54,cS 118,cS 118,cS 3,cS 41,cS 110,cS 112,cS 115]
def s1:ay:=⟨[eP 1 0,eO 3 1,eI 4],[v0,.row 41]⟩
def s2:ay:=⟨[eO 3 1],[v0,.row 41]⟩
def awR:Pc:=pL 0 58 1 536870808 s1 [xE 0 s2]
def s3:ay:=⟨[eP 1 0,eO 3 1],[v0,.row 41]⟩
def axa:Pc:=eh [.mk 3 41] (pJ 0 14 1 536870808 s3 [xN s2])
def s4:ay:=⟨[eP 1 0,eO 3 1,eI 5],[v0,.row 41]⟩
def avC:Pc:=pL 0 250 1 562941363486760 s4 [xE 2 s2]
def aw9:Pc:=pJ 0 62 1 562941363486760 s3 [xN s2]
def s5:ay:=⟨[eP 1 0,eO 3 1,eI 6],[v0,.row 41]⟩
def avB:Pc:=pL 0 506 1 2361182678484869185608 s5 [xE 4 s2]
def h6:List eK:=[cU,cI,cI,cI,cI,cI,cB,cB,cB,cB,cB,cU,cS 54,cS 54,cS 118,cS 118,cS 3,cS 41,cS 110,cS 112,cS 115]
def s7:ay:=⟨[eA 0 h6],[]⟩
def s8:ay:=⟨[eO 0 0],[.row 41]⟩
noncomputable def Fm:FD:=cp 38 Tryz.f38 1 1 0 s7 s8 [] (.pc avB<| .pc aw9<| .pc avC<| .pc axa<| .pc awR<| .nil)
def s9:ay:=⟨[eI 3,eO 4 0,eI 5],[.row 41]⟩
def s10:ay:=⟨[eI 3],[.row 41]⟩
def awO:Pc:=pL 0 122 1 2096936 s9 [xE 0 s10]
def A7:ay:=⟨[eI 0],[]⟩
noncomputable def agq:FD:=cp 25 Tryz.f25 1 1 0 s7 A7 [.fn 2,.fn 3] (.pc awO<| .nil)
def v12:fB:=bV [cS 120,cI,cS 57,cS 67]
def DK:ay:=⟨[eP 1 0],[v12]⟩
def vR:ay:=⟨[eB 2],[v12]⟩
def ay7:Pc:=pJ 0 6 1 2097124 DK [xN ⟨[],[v12]⟩,xR vR]
def s15:ay:=⟨[eP 1 0,eI 3,eI 4],[v12]⟩
def awS:Pc:=pL 0 122 1 562949951324188 s15 [xR vR,xE 0 ⟨[],[v12]⟩]
def iL:List eK:=[cS 120,cI,cS 57,cS 67]
def DJ:ay:=⟨[eA 0 iL],[]⟩
def eG:ay:=⟨[eB 0],[]⟩
noncomputable def XG:FD:=cp 7 Tryz.f7 1 1 0 DJ eG [.fn 2] (.pc awS<| .pc ay7<| .nil)
def s19:ay:=⟨[eS 0 3,eI 1,eI 2,eI 7],[]⟩
def zd:ay:=⟨[eB 6],[]⟩
def awM:Pc:=pL 0 26 0 17592186044352 s19 [xR zd,xE 0 ⟨[],[]⟩]
def S1:ay:=⟨[eS 0 3,eI 1,eI 2],[]⟩
noncomputable def afS:FD:=cp 77 Tryz.f77 3 1 0 S1 eG [] (.pc awM<| .nil)
def tx:fB:=bV [cI,cI,cI,cB,cS 3]
def s23:ay:=⟨[eP 3 0],[tx]⟩
def s24:ay:=⟨[eB 4],[tx]⟩
def ax8:Pc:=pJ 0 6 1 16336 s23 [xN ⟨[],[tx]⟩,xR s24]
def s25:ay:=⟨[eS 0 120,eP 3 0],[tx]⟩
def awZ:Pc:=pJ 0 30 1 1152921229728940048 s25 [xN ⟨[],[tx]⟩,xR s24]
def s26:ay:=⟨[eS 0 120,eP 3 0,eI 5],[tx]⟩
def avv:Pc:=pL 0 250 1 309485008668423564117934128 s26 [xR s24,xE 0 ⟨[],[tx]⟩]
def Mg:List eK:=[cI,cI,cI,cB,cS 3]
def s28:ay:=⟨[eS 0 120,eA 1 Mg],[]⟩
noncomputable def OD:FD:=cp 76 Tryz.f76 2 1 0 s28 eG [.fn 7] (.pc avv<| .pc awZ<| .pc ax8<| .nil)
def s29:ay:=⟨[eS 0 120],[]⟩
def s30:ay:=⟨[eB 2],[]⟩
def aw7:Pc:=pJ 0 6 0 8164 s29 [xN ⟨[],[]⟩,xR s30]
def s31:ay:=⟨[eS 0 120,eI 3,eI 4],[]⟩
def s32:ay:=⟨[eI 3],[]⟩
def auC:Pc:=pL 0 122 0 8589926428 s31 [xR s30,xE 0 s32]
noncomputable def W3:FD:=cp 26 Tryz.f26 1 1 0 s29 eG [.fn 6] (.pc auC<| .pc aw7<| .nil)
def s33:ay:=⟨[eS 0 3,eI 1,eI 5],[]⟩
def DI:ay:=⟨[eB 4],[]⟩
def aAB:Pc:=pL 0 26 0 262128 s33 [xR DI,xE 0 ⟨[],[]⟩]
def S0:ay:=⟨[eS 0 3,eI 1],[]⟩
noncomputable def aih:FD:=cp 81 Tryz.f81 2 1 0 S0 eG [] (.pc aAB<| .nil)
def awH:Pc:=pL 0 26 0 274877906880 s19 [xR zd,xE 0 ⟨[],[]⟩]
noncomputable def afQ:FD:=cp 78 Tryz.f78 3 1 0 S1 eG [.fn 10] (.pc awH<| .nil)
def s36:ay:=⟨[eP 1 0,eO 4 1,eI 5],[v12,.row 157]⟩
def s37:ay:=⟨[eO 4 1],[v12,.row 157]⟩
def axU:Pc:=pL 0 58 1 1073217584 s36 [xE 0 s37]
def s38:ay:=⟨[eP 1 0,eO 4 1],[v12,.row 157]⟩
def ax7:Pc:=eh [.mk 4 157] (pJ 0 14 1 1073217584 s38 [xN s37])
def s39:ay:=⟨[eP 1 0,eO 4 1,eI 6,eI 7],[v12,.row 157]⟩
def zb:ay:=⟨[eO 2 2,eB 3],[v12,.row 157,.row 157]⟩
def za:ay:=⟨[],[v12,.row 157]⟩
def auB:Pc:=pL 0 15654 2 1208925819051679221285260 s39 [(.ret,[.mk 2 157],zb),xE 4 za]
def s42:ay:=⟨[eP 1 0,eO 4 1,eI 6],[v12,.row 157]⟩
def awL:Pc:=pL 0 122 2 1208925819614628100964812 s42 [(.ret,[.mk 2 157],zb),xE 2 za]
def ax6:Pc:=pJ 0 30 2 1208925819614628100964812 s38 [xN za,xR zb]
def ic:fB:=bV [cS 3,cS 3]
def s44:ay:=⟨[eP 1 0,eP 11 1],[v12,ic]⟩
def s45:ay:=⟨[],[v12,ic]⟩
def s46:ay:=⟨[eO 2 2,eB 3],[v12,ic,.row 157]⟩
def as7:Pc:=pJ 0 1025170 2 174224571701261216464034435613487313977356 s44 [xN s45,(.ret,[.mk 2 157],s46)]
def s47:ay:=⟨[eO 4 0,eI 9,eI 10,eI 14],[.row 157]⟩
def s48:ay:=⟨[eB 15],[.row 157]⟩
def arT:Pc:=pJ 0 524887954 1 1496554840663761292882476336125962620205492800094208 s47 [xN s48]
def s49:ay:=⟨[eP 1 0,eO 4 1,eI 14,eB 15],[v12,.row 157]⟩
def arq:Pc:=pJ 0 1049775910 2 200867254035796107815900673302072056613801562095174180405260 s49 [xN za,(.ret,[.mk 2 157],zb)]
def s50:ay:=⟨[eP 1 0,eO 4 1,eI 9,eI 10,eO 12 2,eI 13],[v12,.row 157,.row 3]⟩
def s51:ay:=⟨[eO 2 3,eB 3],[v12,.row 157,.row 3,.row 157]⟩
def s52:ay:=⟨[],[v12,.row 157,.row 3]⟩
def as1:Pc:=pL 0 8201374 3 205688069665150755247070402621138189981306264931549121412653068 s50 [xR s51,xE 10 s52]
def s53:ay:=⟨[eP 1 0,eO 4 1,eI 9,eI 10],[v12,.row 157]⟩
def auA:Pc:=pL 0 16018 2 205688069665150755269371147819668812968099478293524948556250124 s53 [xR zb,xE 8 za]
def s54:ay:=⟨[eP 1 0,eO 4 1,eI 9],[v12,.row 157]⟩
def awK:Pc:=pL 0 250 2 205688069665150755269371147819668813121633057384582853743934988 s54 [xR zb,xE 6 za]
def ax5:Pc:=pJ 0 62 2 205688069665150755269371147819668813121633057384582853743934988 s38 [xN za,xR zb]
def s55:ay:=⟨[eP 1 0,eO 4 1,eI 16,eI 17],[v12,.row 157]⟩
def auz:Pc:=pL 0 32402 2 452312848556938315456184863515707633130918269520434679428993909717333311500 s55 [(.ret,[.mk 2 157],zb),xE 14 za]
def s56:ay:=⟨[eP 1 0,eO 4 1,eI 16],[v12,.row 157]⟩
def awJ:Pc:=pL 0 506 2 452312848583060700303659009434917768904016208787035611295926990047992545292 s56 [xR zb,xE 12 za]
def s57:ay:=⟨[eO 0 0,eB 1],[.row 157]⟩
noncomputable def qG:FD:=cp 27 Tryz.f27 1 2 0 DJ s57 [.fn 7,.fn 9] (.pc awJ<| .pc auz<| .pc ax5<| .pc awK<| .pc auA<| .pc as1<| .pc arq<| .pc arT<| .pc as7<| .pc ax6<| .pc awL<| .pc auB<| .pc ax7<| .pc axU<| .nil)
def s58:ay:=⟨[eI 1,eI 2],[]⟩
def s59:ay:=⟨[eI 6],[]⟩
def azM:Pc:=pJ 0 6 0 64576 s58 [xN ⟨[],[]⟩,xR s59]
def gV:fB:=bV [cU,cU,cI,cI,cI,cI,cI,cI,cS 54]
def s61:ay:=⟨[eI 1,eI 2,eP 3 0,eI 7,eI 8],[gV]⟩
def s62:ay:=⟨[eI 6],[gV]⟩
def s63:ay:=⟨[eI 7],[gV]⟩
def axS:Pc:=pL 0 122 1 549755749312 s61 [xR s62,xE 0 s63]
def qC:List eK:=[cU,cU,cI,cI,cI,cI,cI,cI,cS 54]
def s65:ay:=⟨[eA 0 qC,eI 1,eI 2],[]⟩
noncomputable def XY:FD:=cp 79 Tryz.f79 3 1 0 s65 A7 [.fn 12] (.pc axS<| .pc azM<| .nil)
def SZ:ay:=⟨[(9,.one (cU))],[]⟩
def s67:ay:=⟨[eB 10],[]⟩
def avN:Pc:=pJ 0 244 0 15360 SZ [xN s67]
def s68:ay:=⟨[eB 46],[]⟩
def ata:Pc:=pJ 0 251902 0 1055531162664960 SZ [xN s68]
def Lq:fB:=bV [cU,cU,cI,cI,cI,cI,cI,cI,.aC 2]
def s70:ay:=⟨[eP 1 0,eP 3 1,eI 4],[gV,Lq,.row 54]⟩
def s71:ay:=⟨[eI 4],[gV,Lq,.row 54]⟩
def s72:ay:=⟨[eB 2],[gV,Lq,.row 54]⟩
def aw5:Pc:=eh [cK 3 8 54] (pJ 0 30 2 147573952589676412692 s70 [xN s71,xR s72])
def s73:ay:=⟨[eA 0 qC],[]⟩
noncomputable def OE:FD:=cp 121 Tryz.f121 1 1 0 s73 eG [] (.pc aw5<| .pc ata<| .pc avN<| .nil)
def s74:ay:=⟨[eS 0 120,eI 1,eI 2],[]⟩
noncomputable def aB1:FD:=cp 122 Tryz.f122 3 1 0 s74 eG [] .nil
def s75:ay:=⟨[eS 0 120,eI 1,eI 2,eI 3],[]⟩
noncomputable def aB3:FD:=cp 123 Tryz.f123 4 1 0 s75 eG [] .nil
def wz:List eK:=[cB,cB,cS 3,cI,cI]
def SY:ay:=⟨[eA 0 wz],[]⟩
noncomputable def aBy:FD:=cp 29 Tryz.f29 1 1 0 SY eG [] .nil
def kn:fB:=bV [cB,cB,cS 3,cI,cI]
def s79:ay:=⟨[eP 4 0,eP 5 1],[kn,kn]⟩
def s80:ay:=⟨[eB 8],[kn,kn]⟩
def ayc:Pc:=pJ 0 6 2 130816 s79 [xN s80]
def SX:ay:=⟨[(17,.one (cU))],[]⟩
def s82:ay:=⟨[eB 18],[]⟩
def avQ:Pc:=pJ 0 116 0 33292288 SX [xN s82]
def s83:ay:=⟨[eB 27],[]⟩
def avP:Pc:=pJ 0 470 0 939524096 SX [xN s83]
def s84:ay:=⟨[eB 48],[]⟩
def auM:Pc:=pJ 0 1886 0 8725724278030336 SX [xN s84]
def s85:ay:=⟨[eB 55],[]⟩
def auL:Pc:=pJ 0 7550 0 540431955284459520 SX [xN s85]
def s86:ay:=⟨[(0,.one (cU)),eA 1 wz,eA 2 wz],[]⟩
def A6:ay:=⟨[eA 0 wz,eB 1],[]⟩
noncomputable def Fl:FD:=nI [.jj 0 [.raw,.raw,.slice 3,.raw,.raw]] 124 Tryz.f124 3 2 0 s86 A6 [.fn 17] (.pc auL<| .pc auM<| .pc avP<| .pc avQ<| .pc ayc<| .nil)
def s88:ay:=⟨[eO 0 0,eI 1,eI 5],[.row 3]⟩
def s89:ay:=⟨[eB 4],[.row 3]⟩
def vQ:ay:=⟨[],[.row 3]⟩
def axW:Pc:=pL 1 26 1 262128 s88 [xR s89,xE 0 vQ]
def s91:ay:=⟨[eO 0 0,eI 1],[.row 3]⟩
def s92:ay:=⟨[eB 0],[.row 3]⟩
noncomputable def ago:FD:=cp 81 Tryz.f81 2 1 1 s91 s92 [] (.pc axW<| .nil)
def s93:ay:=⟨[eP 2 0,eP 3 1],[kn,kn]⟩
def s94:ay:=⟨[eB 15],[kn,kn]⟩
def aw4:Pc:=pJ 0 12 2 64512 s93 [xN s94]
def xu:fB:=bV [cB,cB,.aC 2,cI,cI]
def s96:ay:=⟨[eP 4 0,eO 7 1,eI 8],[xu,.row 69,.row 3]⟩
def s97:ay:=⟨[],[xu,.row 69,.row 3]⟩
def s98:ay:=⟨[eB 5],[xu,.row 69,.row 3]⟩
def atV:Pc:=pJ 0 27464 2 549739036704 s96 [xN s97,(.ret,[.tF (λenv M=>0) 2 3],s98)]
def s99:ay:=⟨[eO 7 0,eI 8,eI 9],[.row 69]⟩
def aoe:ay:=⟨[],[.row 69]⟩
def as9:Pc:=pJ 0 439448 1 18013848753668096 s99 [xN aoe,xE 2 aoe]
def aML:ay:=⟨[eP 6 0,eO 7 1,eI 8,eI 9],[xu,.row 69,.row 3]⟩
def as2:Pc:=pL 0 109862 2 2417851639228708593598976 aML [xE 2 s97]
def rY:fB:=bV [cB,cB,.aC 3,cI,cI]
def uq:fB:=bV [cB,cB,.aC 4,cI,cI]
def aMK:ay:=⟨[eP 4 0,eP 6 1,eO 7 2,eI 8],[rY,uq,.row 69,.row 3,.row 3]⟩
def aMJ:ay:=⟨[eB 5],[rY,uq,.row 69,.row 3,.row 3]⟩
def aMI:ay:=⟨[],[rY,uq,.row 69,.row 3,.row 3]⟩
def avw:Pc:=eh [cK 4 2 3,cK 6 2 3] (pL 0 858 3 2417851639229258348364576 aMK [xR aMJ,xE 0 aMI])
def aod:ay:=⟨[eA 0 wz,eA 1 wz],[]⟩
noncomputable def Fj:FD:=nI [.jj 0 [.raw,.raw,.slice 3,.raw,.raw]] 125 Tryz.f125 2 2 0 aod A6 [.fn 20] (.pc avw<| .pc as2<| .pc as9<| .pc atV<| .pc aw4<| .nil)
def aoc:ay:=⟨[eP 3 0,eP 4 1],[kn,xu,.row 3]⟩
def abd:ay:=⟨[],[kn,xu,.row 3]⟩
def aob:ay:=⟨[eB 5],[kn,xu,.row 3]⟩
def ax2:Pc:=eh [cK 4 2 3] (pJ 0 6 2 261664 aoc [xN abd,(.ret,[.tF (λenv M=>1) 2 3],aob)])
def aMH:ay:=⟨[eS 0 120,eP 3 0,eP 6 1,eI 7],[kn,xu,.row 3]⟩
def avt:Pc:=eh [cK 6 2 3] (pL 0 122 2 18014398508958080 aMH [xE 0 abd])
def aMG:ay:=⟨[eS 0 120,eA 1 wz],[]⟩
def aOz:List eK:=[cB,cB,.aC 0,cI,cI]
def abc:ay:=⟨[eA 0 aOz,eB 1],[.row 3]⟩
noncomputable def Xj:FD:=cp 126 Tryz.f126 2 2 0 aMG abc [] (.pc avt<| .pc ax2<| .nil)
def xi:fB:=bV [cS 120,cS 69,cI]
def aMF:ay:=⟨[eP 2 0,eP 3 1,eO 6 2,eI 7,eP 8 3],[xi,gV,.row 69,xi]⟩
def aME:ay:=⟨[],[xi,gV,.row 69,xi]⟩
def awX:Pc:=pJ 0 7826 4 70368207306752 aMF [(.normal,[.nP (λenv M=>3) 1 69],aME)]
def aMD:ay:=⟨[eP 2 0,eP 3 1,eP 4 2,eO 6 3,eI 7],[xi,gV,uq,.row 69,.row 3]⟩
def aoa:ay:=⟨[eB 5],[xi,gV,rY,.row 3]⟩
def an9:ay:=⟨[eO 6 3],[xi,gV,uq,.row 69,.row 3]⟩
def axR:Pc:=pL 0 122 3 9223372036852680672 aMD [(.ret,[.tF (λenv M=>2) 2 3],aoa),xE 0 an9]
def aMC:ay:=⟨[eP 2 0,eP 3 1,eP 4 2,eO 6 3],[xi,gV,uq,.row 69,.row 3]⟩
def ay1:Pc:=eh [.mk 6 69,cK 4 2 3] (pJ 0 30 3 9223372036852680672 aMC [xN an9,xR aoa])
def aMB:ay:=⟨[(64,.one (cU))],[]⟩
def aMA:ay:=⟨[eB 181],[]⟩
def auH:Pc:=pJ 0 514046 0 21454937572122444017016858380104328570662347710570430464 aMB [xN aMA]
def aMz:ay:=⟨[eP 2 0,eP 3 1],[xi,gV]⟩
def aMy:ay:=⟨[eB 16],[xi,gV]⟩
def arS:Pc:=pJ 0 2105540604 2 4171849677590358612452047698942944567009888363585430602250676119025960492176409289058389393408 aMz [xN aMy]
def aOy:List eK:=[cS 120,cS 69,cI]
def an8:ay:=⟨[eA 0 aOy,eA 1 qC],[]⟩
noncomputable def Fz:FD:=nI [.jj 0 [.raw,.raw,.slice 3,.raw,.raw]] 80 Tryz.f80 2 2 0 an8 A6 [.fn 17,.fn 13,.fn 14,.fn 15,.fn 16,.fn 18,.fn 19,.fn 21] (.pc arS<| .pc auH<| .pc ay1<| .pc axR<| .pc awX<| .nil)
noncomputable def aD6:FD:=nI [.jj 0 [.raw,.raw,.slice 3,.raw,.raw]] 28 Tryz.f28 2 2 0 an8 A6 [.fn 12,.fn 13] .nil
def avR:Pc:=pJ 0 52 0 31744 SZ [xN s67]
def aMx:ay:=⟨[eS 0 120,eS 1 3,eP 5 0],[gV]⟩
def an7:ay:=⟨[eB 6],[gV]⟩
def aw6:Pc:=pJ 0 6 1 35184372088640 aMx [xN ⟨[],[gV]⟩,xR an7]
def aMw:ay:=⟨[eS 0 120,eS 1 3,eP 5 0,eI 7],[gV]⟩
def avy:Pc:=pL 0 58 1 2305807824841605312 aMw [xR an7,xE 1 ⟨[],[gV]⟩]
def an6:ay:=⟨[eS 0 120,eS 1 3,eA 2 qC],[]⟩
noncomputable def Ob:FD:=cp 30 Tryz.f30 3 1 0 an6 eG [.fn 22,.fn 10] (.pc avy<| .pc aw6<| .pc avR<| .nil)
def an5:ay:=⟨[(12,.one (cU))],[]⟩
def aMv:ay:=⟨[eB 36],[]⟩
def as8:Pc:=pJ 0 8224766 0 481036337152 an5 [xN aMv]
def arU:Pc:=pJ 0 526385150 0 492581209243648 an5 [xN s68]
def KL:fB:=bV [cU,cI,cI,cI,cI,cI,cB,cB,cB,cB,cB,cU,.aC 2,.aC 3,.aC 4,.aC 5,.aC 6,.aC 7,.aC 8,.aC 9,.aC 10]
def aMu:ay:=⟨[eP 1 0,eP 3 1,eI 4,eI 5,eI 6,eB 7],[v0,KL,.row 54,.row 54,.row 118,.row 118,.row 3,.row 41,.row 110,.row 112,.row 115]⟩
def aMt:ay:=⟨[eI 4,eI 5,eI 6,eB 7],[v0,KL,.row 54,.row 54,.row 118,.row 118,.row 3,.row 41,.row 110,.row 112,.row 115]⟩
def an4:ay:=⟨[eB 2],[v0,KL,.row 54,.row 54,.row 118,.row 118,.row 3,.row 41,.row 110,.row 112,.row 115]⟩
def ax9:Pc:=eh [cK 3 12 54,cK 3 13 54,cK 3 14 118,cK 3 15 118,cK 3 16 3,cK 3 17 41,cK 3 18 110,cK 3 19 112,cK 3 20 115] (pJ 0 62 2 166153499473114484112975882535041268 aMu [xN aMt,xR an4])
def aMs:ay:=⟨[eP 1 0,eP 3 1],[v0,KL,.row 54,.row 54,.row 118,.row 118,.row 3,.row 41,.row 110,.row 112,.row 115]⟩
def aMr:ay:=⟨[],[v0,KL,.row 54,.row 54,.row 118,.row 118,.row 3,.row 41,.row 110,.row 112,.row 115]⟩
def aw2:Pc:=pJ 0 126 2 6277101735386680763835623269708193301618242468581499469828 aMs [xN aMr,xR an4]
def aMq:ay:=⟨[eP 1 0,eI 4,eI 5,eI 6],[v0]⟩
def RX:ay:=⟨[eB 2],[v0]⟩
def aw1:Pc:=pJ 0 254 1 842498327071355758196663457633574035343494347102037445570453307396 aMq [xN ⟨[],[v0]⟩,xR RX]
def abb:ay:=⟨[eP 1 0],[v0]⟩
def aw0:Pc:=pJ 0 510 1 27606142888828906692245440104886632446345884727918341827760062407376900 abb [xN ⟨[],[v0]⟩,xR RX]
def avK:Pc:=pJ 0 1022 1 1852673400190073739614880610399983076544217944845813135949775123476513179041796 abb [xN ⟨[],[v0]⟩,xR RX]
noncomputable def zV:FD:=cp 82 Tryz.f82 1 1 0 s7 eG [] (.pc avK<| .pc aw0<| .pc aw1<| .pc aw2<| .pc ax9<| .pc arU<| .pc as8<| .nil)
def ayb:Pc:=pJ 0 6 1 32764 abb [xN ⟨[],[v0]⟩,xR RX]
noncomputable def afU:FD:=cp 127 Tryz.f127 1 1 0 s7 eG [] (.pc ayb<| .nil)
def v143:fB:=bV [cS 120,cI,cS 57,cS 67,cS 157,cI,cS 3,cS 3,cS 3,cS 3,cS 3,cB,cB,cB,cI,cI]
def KR:ay:=⟨[eP 2 0,eP 3 1],[v143,v0]⟩
def yO:ay:=⟨[],[v143,v0]⟩
def GX:ay:=⟨[eB 4],[v143,v0]⟩
def atZ:Pc:=pJ 0 6 2 8176 KR [xN yO,xR GX]
def atc:Pc:=pJ 0 14 2 17179861008 KR [xN yO,xR GX]
def y4:List eK:=[cS 120,cI,cS 57,cS 67,cS 157,cI,cS 3,cS 3,cS 3,cS 3,cS 3,cB,cB,cB,cI,cI]
def KQ:ay:=⟨[eA 0 y4,eA 1 h6],[]⟩
noncomputable def VS:FD:=cp 83 Tryz.f83 2 1 0 KQ eG [.fn 26] (.pc atc<| .pc atZ<| .nil)
def oQ:fB:=bV [cU,cI,cI,cI,cS 54]
def aaR:fB:=bV [cU,cI,cI,cI,.aC 2]
def an3:ay:=⟨[eP 3 0,eP 6 1,eI 7],[oQ,aaR,.row 54]⟩
def aMp:ay:=⟨[eI 7],[oQ,aaR,.row 54]⟩
def aGQ:fB:=bV [cU,cI,cI,cI,.aC 3]
def an2:ay:=⟨[eO 4 2,eB 5],[oQ,aGQ,.row 3,.row 54]⟩
def aye:Pc:=eh [cK 6 4 54] (pJ 0 30 2 137438937264 an3 [xN aMp,(.ret,[.mk 4 3],an2)])
def aMo:ay:=⟨[],[oQ,aaR,.row 54]⟩
def ayd:Pc:=pJ 0 62 2 9223371899415822384 an3 [xN aMo,(.ret,[.mk 4 3],an2)]
def K9:List eK:=[cU,cI,cI,cI,cS 54]
def aMn:ay:=⟨[eS 0 120,eA 1 K9],[]⟩
def an1:ay:=⟨[eS 0 3,eB 1],[]⟩
noncomputable def XE:FD:=nI [.ma 0 (.slice 3)] 209 Tryz.f209 2 2 0 aMn an1 [.fc 11 [.jj 0 [.raw,.slice 69,.raw]],.fn 15,.fn 16] (.pc ayd<| .pc aye<| .nil)
def RW:ay:=⟨[eA 0 y4,eI 1],[]⟩
noncomputable def aAl:FD:=cp 130 Tryz.f130 2 1 0 RW eG [.fn 10] .nil
def an0:ay:=⟨[eP 2 0,eP 3 1],[v143,gV]⟩
def aba:ay:=⟨[],[v143,gV]⟩
def aa9:ay:=⟨[eB 4],[v143,gV]⟩
def avT:Pc:=pJ 0 6 2 2097104 an0 [xN aba,xR aa9]
def auQ:Pc:=pJ 0 14 2 17592183947280 an0 [xN aba,xR aa9]
def aMm:ay:=⟨[eP 2 0,eP 3 1,eI 5],[v143,gV]⟩
def atL:Pc:=pL 0 122 2 576443160117379120 aMm [xR aa9,xE 0 aba]
def RV:ay:=⟨[eA 0 y4,eA 1 qC],[]⟩
noncomputable def NU:FD:=cp 210 Tryz.f210 2 1 0 RV eG [.fn 32,.fn 31] (.pc atL<| .pc auQ<| .pc avT<| .nil)
def aMl:ay:=⟨[eP 2 0,eP 3 1,eI 8],[v143,oQ]⟩
def aa8:ay:=⟨[eO 4 2,eB 5],[v143,oQ,.row 3]⟩
def aa7:ay:=⟨[],[v143,oQ]⟩
def as6:Pc:=pL 0 122 2 34358690096 aMl [(.ret,[.mk 4 3],aa8),xE 0 aa7]
def aMk:ay:=⟨[eP 2 0,eP 3 1],[v143,oQ]⟩
def at0:Pc:=pJ 0 30 2 34358690096 aMk [xN aa7,xR aa8]
def aMj:ay:=⟨[eP 2 0,eP 3 1,eS 6 3,eI 9],[v143,oQ]⟩
def as5:Pc:=pL 0 250 2 4611685984067650096 aMj [(.ret,[.mk 4 3],aa8),xE 2 aa7]
def anZ:ay:=⟨[eA 0 y4,eA 1 K9],[]⟩
noncomputable def ND:FD:=nI [.ma 0 (.slice 3),.ma 0 (.slice 3)] 179 Tryz.f179 2 2 0 anZ an1 [.fn 10,.fn 32,.fn 30,.fn 31] (.pc as5<| .pc at0<| .pc as6<| .nil)
noncomputable def azx:FD:=cp 180 Tryz.f180 2 2 0 RV A6 [.fc 11 [.jj 0 [.raw,.slice 69,.raw]],.fn 31] .nil
def anY:ay:=⟨[eS 0 3,eS 1 3,eI 5],[]⟩
def awI:Pc:=pL 0 26 0 524272 anY [xR DI,xE 0 ⟨[],[]⟩]
def RU:ay:=⟨[eS 0 3,eS 1 3],[]⟩
noncomputable def afR:FD:=cp 211 Tryz.f211 2 1 0 RU eG [.fn 10] (.pc awI<| .nil)
def aMi:ay:=⟨[eA 0 Mg,eA 1 wz],[]⟩
noncomputable def aB2:FD:=cp 181 Tryz.f181 2 1 0 aMi eG [.fn 36] .nil
def aMh:ay:=⟨[eA 0 y4,eA 1 qC,eI 2],[]⟩
noncomputable def awu:FD:=cp 132 Tryz.f132 3 1 0 aMh eG [.fn 33,.fn 35] .nil
def aMg:ay:=⟨[eP 2 0,eP 3 1,eS 5 3,eI 9],[v143,v0]⟩
def auD:Pc:=pL 0 250 2 140736414614032 aMg [xR GX,xE 0 yO]
noncomputable def afw:FD:=cp 128 Tryz.f128 2 1 0 KQ eG [.fn 34,.fn 29,.fn 33] (.pc auD<| .nil)
noncomputable def aur:FD:=cp 129 Tryz.f129 2 1 0 RV eG [.fn 17,.fn 33] .nil
noncomputable def axG:FD:=cp 131 Tryz.f131 2 1 0 RV eG [.fn 33] .nil
noncomputable def awt:FD:=cp 133 Tryz.f133 2 1 0 anZ eG [.fn 29] .nil
def aMf:ay:=⟨[eA 0 y4,eI 1,eI 2],[]⟩
noncomputable def ayJ:FD:=cp 134 Tryz.f134 3 1 0 aMf eG [] .nil
def anX:ay:=⟨[eA 0 qC,eA 1 qC],[]⟩
noncomputable def azw:FD:=cp 24 Tryz.f24 2 1 0 anX eG [.fn 43] .nil
def aMe:ay:=⟨[eS 0 54,eS 1 54,eI 5],[]⟩
def axX:Pc:=pL 0 58 0 134215728 aMe [xR DI,xE 0 ⟨[],[]⟩]
def aMd:ay:=⟨[eS 0 54,eS 1 54],[]⟩
noncomputable def agp:FD:=cp 46 Tryz.f46 2 1 0 aMd eG [.fn 44] (.pc axX<| .nil)
def aMc:ay:=⟨[eS 0 118,eS 1 118,eI 5],[]⟩
def awN:Pc:=pL 0 58 0 2417851639229258349410352 aMc [xR DI,xE 0 ⟨[],[]⟩]
def aMb:ay:=⟨[eS 0 118,eS 1 118],[]⟩
noncomputable def afT:FD:=cp 47 Tryz.f47 2 1 0 aMb eG [.fn 43] (.pc awN<| .nil)
def ayU:Pc:=pL 0 58 0 67106864 anY [xR DI,xE 0 ⟨[],[]⟩]
noncomputable def agN:FD:=cp 48 Tryz.f48 2 1 0 RU eG [] (.pc ayU<| .nil)
def aMa:ay:=⟨[eS 0 41,eS 1 41,eI 5],[]⟩
def axQ:Pc:=pL 0 58 0 134215728 aMa [xR DI,xE 0 ⟨[],[]⟩]
def aL9:ay:=⟨[eS 0 41,eS 1 41],[]⟩
noncomputable def agn:FD:=cp 49 Tryz.f49 2 1 0 aL9 eG [.fn 42] (.pc axQ<| .nil)
def yN:ay:=⟨[eP 2 0,eP 3 1],[v0,v0]⟩
def yM:ay:=⟨[],[v0,v0]⟩
def yL:ay:=⟨[eB 4],[v0,v0]⟩
def avS:Pc:=pJ 0 6 2 4951760157141521099596495888 yN [xN yM,xR yL]
def auP:Pc:=pJ 0 14 2 348449143727036034826338456489031052034064 yN [xN yM,xR yL]
def auO:Pc:=pJ 0 30 2 11692012750198079618588492075234666147116811812880 yN [xN yM,xR yL]
def aL8:ay:=⟨[eP 2 0,eP 3 1,eI 5],[v0,v0]⟩
def atK:Pc:=pL 0 250 2 1606938044247298262443314868995533123860472729625545374957616 aL8 [xR yL,xE 0 yM]
def auN:Pc:=pJ 0 62 2 1606938044247298262443314868995533123860472729625545374957616 yN [xN yM,xR yL]
def aL7:ay:=⟨[eP 2 0,eP 3 1,eI 6],[v0,v0]⟩
def atJ:Pc:=pL 0 506 2 220855883095691103153653197317322852386094324506930166771417982326276176 aL7 [xR yL,xE 2 yM]
def atW:Pc:=pJ 0 126 2 220855883095691103153653197317322852386094324506930166771417982326276176 yN [xN yM,xR yL]
def aL6:ay:=⟨[eP 2 0,eP 3 1,eI 7],[v0,v0]⟩
def as3:Pc:=pL 0 1018 2 509258994083621521346255539005046499064954910823619248180599625229142955175633401384272784 aL6 [xR yL,xE 4 yM]
def anW:ay:=⟨[eA 0 h6,eA 1 h6],[]⟩
noncomputable def xX:FD:=cp 15 Tryz.f15 2 1 0 anW eG [.fn 42,.fn 44,.fn 43,.fn 45,.fn 46,.fn 47] (.pc as3<| .pc atW<| .pc atJ<| .pc auN<| .pc atK<| .pc auO<| .pc auP<| .pc avS<| .nil)
def anV:ay:=⟨[eP 4 0,eI 7],[v0]⟩
def aL5:ay:=⟨[eI 7],[v0]⟩
def atY:Pc:=pJ 0 14 1 130688 anV [xN aL5]
def aa6:ay:=⟨[eI 2,eP 4 0,eI 7],[v0]⟩
def anU:ay:=⟨[eB 6],[v0]⟩
def atX:Pc:=pJ 0 30 1 17179738176 aa6 [xN ⟨[],[v0]⟩,xR anU]
def aL4:ay:=⟨[eI 2,eP 4 0,eI 8],[v0]⟩
def as4:Pc:=pL 0 506 1 36893347409930748224 aL4 [xR anU,xE 0 ⟨[],[v0]⟩]
def RT:ay:=⟨[eA 0 y4,eA 1 h6,eI 2],[]⟩
noncomputable def NC:FD:=cp 135 Tryz.f135 3 1 0 RT eG [.fc 42 [.jj 1 [.raw,.raw,.raw,.raw,.raw,.raw,.raw,.raw,.raw,.raw,.raw,.raw,.slice 54,.slice 54,.slice 118,.slice 118,.slice 3,.slice 41,.slice 110,.slice 112,.slice 115]],.fn 38] (.pc as4<| .pc atX<| .pc atY<| .nil)
def anT:ay:=⟨[eA 0 Mg,eA 1 Mg],[]⟩
noncomputable def aA3:FD:=cp 182 Tryz.f182 2 1 0 anT eG [.fn 36] .nil
def avU:Pc:=pJ 0 6 2 33552400 KR [xN yO,xR GX]
def aL3:ay:=⟨[eP 3 0,eP 5 1],[v0,ic]⟩
def aL2:ay:=⟨[],[v0,ic]⟩
def aL1:ay:=⟨[eB 4],[v0,ic]⟩
def auS:Pc:=pJ 0 30 2 9007061815787536 aL3 [xN aL2,xR aL1]
def aL0:ay:=⟨[eP 2 0,eP 3 1,eP 5 2,eI 6],[v143,v0,ic]⟩
def aa5:ay:=⟨[eB 4],[v143,v0,ic]⟩
def aa4:ay:=⟨[],[v143,v0,ic]⟩
def atN:Pc:=pL 0 250 3 9444723958540035686480 aL0 [xR aa5,xE 0 aa4]
def aLZ:ay:=⟨[eP 2 0,eP 3 1,eP 5 2],[v143,v0,ic]⟩
def auR:Pc:=pJ 0 62 3 9444723958540035686480 aLZ [xN aa4,xR aa5]
def aLY:ay:=⟨[eP 2 0,eP 5 1,eI 7,eS 8 3,eI 10],[v143,ic]⟩
def aLX:ay:=⟨[eB 4],[v143,ic]⟩
def aLW:ay:=⟨[],[v143,ic]⟩
def arL:Pc:=pL 0 129614 2 664613992940697779310382430543676432 aLY [xR aLX,xE 4 aLW]
def aLV:ay:=⟨[eP 2 0,eP 3 1,eP 5 2,eI 7],[v143,v0,ic]⟩
def atM:Pc:=pL 0 506 3 664613997892448491718937790849746832 aLV [xR aa5,xE 2 aa4]
noncomputable def BX:FD:=cp 136 Tryz.f136 2 1 0 KQ eG [.fn 34,.fn 40,.fn 29,.fn 49] (.pc atM<| .pc arL<| .pc auR<| .pc atN<| .pc auS<| .pc avU<| .nil)
noncomputable def aAk:FD:=cp 137 Tryz.f137 2 1 0 RW eG [.fn 10,.fn 40] .nil
def atd:Pc:=pJ 0 6 2 68719475728 KR [xN yO,xR GX]
def aLU:ay:=⟨[eP 6 0],[ic]⟩
def aLT:ay:=⟨[eB 4],[ic]⟩
def asq:Pc:=pJ 0 30 1 1179438699212804456464 aLU [xN ⟨[],[ic]⟩,xR aLT]
def aLS:ay:=⟨[eP 5 0,eP 6 1],[ic,ic]⟩
def aLR:ay:=⟨[],[ic,ic]⟩
def aLQ:ay:=⟨[eB 4],[ic,ic]⟩
def asp:Pc:=pJ 0 62 2 77370071863715549769891856 aLS [xN aLR,xR aLQ]
def aLP:ay:=⟨[eP 2 0,eO 7 1,eO 8 2,eI 9],[v143,.row 3,.row 3]⟩
def aLO:ay:=⟨[eB 4],[v143,.row 3,.row 3]⟩
def aLN:ay:=⟨[],[v143,.row 3,.row 3]⟩
def arn:Pc:=pL 0 1018 3 356811923176488702613971264132972287392481808 aLP [xR aLO,xE 0 aLN]
noncomputable def It:FD:=cp 138 Tryz.f138 2 1 0 KQ eG [.fn 40,.fn 49] (.pc arn<| .pc asp<| .pc asq<| .pc atd<| .nil)
def ars:Pc:=pJ 0 13820 2 151115727451827573096464 KR [xN yO,xR GX]
def anS:ay:=⟨[(6,.one (cU))],[]⟩
def aLM:ay:=⟨[eB 158],[]⟩
def aq5:Pc:=pJ 0 884734 0 2557627865329080106856448457253495284397881950208 anS [xN aLM]
def aLL:ay:=⟨[eB 167],[]⟩
def aqX:Pc:=pJ 0 3538942 0 1309505467048489014710501610113789585611715558506496 anS [xN aLL]
noncomputable def Nr:FD:=cp 84 Tryz.f84 2 1 0 KQ eG [.fn 9,.fn 10,.fn 28,.fn 37,.fn 32,.fn 38,.fn 34,.fn 39,.fn 40,.fn 41,.fn 48,.fn 50,.fn 51] (.pc aqX<| .pc aq5<| .pc ars<| .nil)
def anR:ay:=⟨[eA 0 y4],[]⟩
noncomputable def ayI:FD:=nI [.jj 0 [.raw,.raw,.raw,.raw,.raw,.raw,.slice 3,.raw,.raw,.raw,.raw,.raw,.raw,.raw,.raw,.raw]] 139 Tryz.f139 1 1 0 anR anR [] .nil
def aLK:ay:=⟨[eP 3 0,eP 4 1],[v143,v0]⟩
def GW:ay:=⟨[eI 6],[v143,v0]⟩
def ay2:Pc:=pJ 0 6 2 274877890624 aLK [xN yO,xR GW]
def awY:Pc:=pJ 0 232 1 140462610448384 aa6 [xN ⟨[],[v0]⟩,xE 0 ⟨[],[v0]⟩]
def anQ:ay:=⟨[eI 2,eP 3 0,eP 4 1,eI 7],[v143,v0]⟩
def KP:ay:=⟨[eI 2],[v143,v0]⟩
def axT:Pc:=pL 0 58 2 37778931862682283803524 anQ [xE 0 KP]
def RS:ay:=⟨[eI 2,eP 3 0,eP 4 1],[v143,v0]⟩
def ax4:Pc:=pJ 0 14 2 37778931862682283803524 RS [xN KP]
def ax3:Pc:=pJ 0 62 2 38610068363942219267178500 RS [xN KP]
def aLJ:ay:=⟨[eI 2,eP 4 0,eI 11],[v0]⟩
def avJ:Pc:=pJ 0 8168 1 39536710004676832529590779904 aLJ [xN ⟨[],[v0]⟩,xE 2 ⟨[],[v0]⟩]
def v227:fB:=bV [cS 3,cU,cI,cI,cI,cI,cI,cB,cB,cB,cB,cB,cU,cS 54,cS 54,cS 118,cS 118,cS 3,cS 41,cS 110,cS 112,cS 115]
def aLI:ay:=⟨[eP 3 0,eP 4 1,eI 11,eP 12 2],[v143,v0,v227]⟩
def aLH:ay:=⟨[],[v143,v0,v227]⟩
def aLG:ay:=⟨[eI 6],[v143,v0,v227]⟩
def atU:Pc:=pJ 0 130706 3 10633818895676926070312850495429935168 aLI [xN aLH,xR aLG]
def aLF:ay:=⟨[eO 10 1,eP 12 0,eI 13],[v227,.row 3]⟩
def aLE:ay:=⟨[eI 6],[v227]⟩
def aLD:ay:=⟨[eO 10 1],[v227,.row 3]⟩
def as0:Pc:=pL 0 1045658 1 44601479763237280003744453314840240769213504 aLF [xR aLE,xE 4 aLD]
def aLC:ay:=⟨[eI 2,eP 3 0,eP 4 1,eO 10 2,eI 11],[v143,v0,.row 3]⟩
def avu:Pc:=eh [.mk 10 3] (pL 0 2042 2 1427247692705959880980914716994158869201566788 aLC [xR GW,xE 2 KP])
noncomputable def wI:FD:=cp 85 Tryz.f85 3 1 0 RT A7 [.fn 23,.fn 7,.fn 9,.fn 20,.fn 53] (.pc avu<| .pc as0<| .pc atU<| .pc avJ<| .pc ax3<| .pc ax4<| .pc axT<| .pc awY<| .pc ay2<| .nil)
def aLB:ay:=⟨[eP 4 0],[v0]⟩
def aLA:ay:=⟨[eI 6],[v0]⟩
def aya:Pc:=pJ 0 6 1 274877890624 aLB [xN ⟨[],[v0]⟩,xR aLA]
def aLz:ay:=⟨[eI 2,eP 4 0,eI 10],[v0]⟩
def auK:Pc:=pJ 0 2024 1 35958428274786304 aLz [xN ⟨[],[v0]⟩,xE 0 ⟨[],[v0]⟩]
def KK:fB:=bV [cU,cU,cU,cI,cI,cI,cI,cI,cI,cS 54,cI,cS 54,cU,cI,cI,cI,cI,cI,cB,cB,cB,cB,cB,cU,cS 54,cS 54,cS 118,cS 118,cS 3,cS 41,cS 110,cS 112,cS 115,cU,cI,cI,cI,cI,cI,cB,cB,cB,cB,cB,cU,cS 54,cS 54,cS 118,cS 118,cS 3,cS 41,cS 110,cS 112,cS 115]
def aLy:ay:=⟨[eP 3 0,eI 7,eI 8,eI 9,eP 11 1,eP 12 2],[v143,KK,v143]⟩
def aLx:ay:=⟨[eI 7,eI 8,eI 9],[v143,KK,v143]⟩
def atb:Pc:=pJ 0 129614 3 9671258982964443721237376 aLy [(.normal,[.nP (λenv M=>2) 8 3],aLx)]
def aLw:ay:=⟨[eI 2,eP 3 0,eP 4 1,eI 7,eI 8,eI 9,eI 10],[v143,v0]⟩
def anP:ay:=⟨[eI 2,eI 7,eI 8,eI 9],[v143,v0]⟩
def avx:Pc:=pL 0 506 2 39614081257132098428027805636 aLw [xR GW,xE 0 anP]
def aLv:ay:=⟨[eI 2,eP 3 0,eP 4 1,eI 7,eI 8,eI 9],[v143,v0]⟩
def avO:Pc:=pJ 0 126 2 39614081257132098428027805636 aLv [xN anP,xR GW]
noncomputable def Fk:FD:=cp 86 Tryz.f86 3 1 0 RT A7 [.fc 42 [.jj 1 [.raw,.raw,.raw,.raw,.raw,.raw,.raw,.raw,.raw,.raw,.raw,.raw,.slice 54,.slice 54,.slice 118,.slice 118,.slice 3,.slice 41,.slice 110,.slice 112,.slice 115]],.fn 23,.fn 55,.fn 57] (.pc avO<| .pc avx<| .pc atb<| .pc auK<| .pc aya<| .nil)
def aOx:List eK:=[cS 120,cI,cS 57,cS 67,cS 157,cI,cS 3,cS 3,.aC 0,cS 3,cS 3,cB,cB,cB,cI,cI]
def aLu:ay:=⟨[eA 0 aOx],[.row 3]⟩
noncomputable def aus:FD:=cp 87 Tryz.f87 2 1 0 RW aLu [.fn 53] .nil
def aOw:List eK:=[cS 120,cI,cS 57,cS 67,cS 157,cI,cS 3,cS 3,cS 3,.aC 0,cS 3,cB,cB,cB,cI,cI]
def aLt:ay:=⟨[eA 0 aOw],[.row 3]⟩
noncomputable def axH:FD:=cp 88 Tryz.f88 2 1 0 RW aLt [.fn 53] .nil
def aLs:ay:=⟨[(13,.one (cU))],[]⟩
def anO:ay:=⟨[eB 26],[]⟩
def aqM:Pc:=pJ 0 982 0 469762048 aLs [xN anO]
def abO:List eK:=[cU,cU,cU,cI,cI,cI,cI,cI,cI,cS 54,cI,cS 54,cU,cI,cI,cI,cI,cI,cB,cB,cB,cB,cB,cU,cS 54,cS 54,cS 118,cS 118,cS 3,cS 41,cS 110,cS 112,cS 115,cU,cI,cI,cI,cI,cI,cB,cB,cB,cB,cB,cU,cS 54,cS 54,cS 118,cS 118,cS 3,cS 41,cS 110,cS 112,cS 115]
def aLr:ay:=⟨[eA 0 y4,eA 1 abO],[]⟩
noncomputable def ac9:FD:=cp 140 Tryz.f140 2 1 0 aLr eG [.fc 42 [.jj 1 [.raw,.raw,.raw,.raw,.raw,.raw,.raw,.raw,.raw,.raw,.raw,.raw,.slice 54,.slice 54,.slice 118,.slice 118,.slice 3,.slice 41,.slice 110,.slice 112,.slice 115]],.fn 37,.fn 38,.fn 50] (.pc aqM<| .nil)
def azN:Pc:=pJ 0 6 2 8589934144 RS [xN yO,xR GW]
def ay3:Pc:=pJ 0 62 2 19342813113833517039484992 RS [(.normal,[.nP (λenv M=>0) 6 3,.nP (λenv M=>0) 7 3,.nP (λenv M=>0) 10 3],yO),xR GW]
def aw3:Pc:=pJ 0 2024 1 9884177501169208132397694976 aa6 [xN ⟨[],[v0]⟩,xE 1 ⟨[],[v0]⟩]
def anN:ay:=⟨[eP 3 0,eP 4 1,eI 7,eP 8 2],[v143,v0,v143]⟩
def anM:ay:=⟨[],[v143,v0,v143]⟩
def avM:Pc:=pJ 0 32402 3 162180048666699099053984466337792 anN [(.normal,[.nP (λenv M=>2) 8 3],anM)]
def aLq:ay:=⟨[eB 118],[v0]⟩
def auJ:Pc:=pJ 0 129612 1 664451738615628723088511952129884160 anV [xN aLq]
def avL:Pc:=pJ 0 64806 3 10633661707002497769867064904232468480 anN [(.normal,[.nP (λenv M=>2) 9 3],anM)]
def aLp:ay:=⟨[eP 4 0,eI 7,eP 8 1],[v0,v143]⟩
def aLo:ay:=⟨[],[v0,v143]⟩
def auI:Pc:=pJ 0 129614 2 44601479763237280003744453314840240769204224 aLp [xN aLo]
def axV:Pc:=pL 0 506 2 11417981541647679048446944942482127024266674564 anQ [xE 1 KP]
noncomputable def ye:FD:=cp 31 Tryz.f31 3 1 0 RT A7 [.fn 23,.fn 24,.fn 25,.fn 27,.fn 52,.fn 54,.fn 55,.fn 56] (.pc axV<| .pc auI<| .pc avL<| .pc auJ<| .pc avM<| .pc aw3<| .pc ay3<| .pc azN<| .nil)
def aLn:ay:=⟨[eO 1 0,eP 2 1,eI 5],[.row 3,v0]⟩
def anL:ay:=⟨[],[.row 3,v0]⟩
def asZ:Pc:=pL 0 234 2 536866848 aLn [xE 0 anL]
def aLm:ay:=⟨[eO 1 0,eP 2 1],[.row 3,v0]⟩
def atT:Pc:=pJ 0 14 2 536870432 aLm [xN anL]
def aLl:ay:=⟨[eO 1 0,eO 4 1,eI 6],[.row 3,.row 41]⟩
def aLk:ay:=⟨[],[.row 3,.row 41]⟩
def atI:Pc:=pL 0 62 2 2198486384704 aLl [xE 2 aLk]
def aLj:ay:=⟨[eA 0 h6,eO 1 0],[.row 3]⟩
noncomputable def NB:FD:=cp 32 Tryz.f32 2 0 1 aLj vQ [.fn 59,.fn 3] (.pc atI<| .pc atT<| .pc asZ<| .nil)
def aAC:Pc:=pJ 0 6 1 562949953290244 DK [xN ⟨[],[v12]⟩,xR vR]
def aLi:ay:=⟨[eP 1 0,eI 3],[v12]⟩
def ayV:Pc:=pL 0 122 1 4951760157069463505558568988 aLi [xR vR,xE 0 ⟨[],[v12]⟩]
def azO:Pc:=pJ 0 30 1 4951760157069463505558568988 DK [xN ⟨[],[v12]⟩,xR vR]
def AA:fB:=bV [cI,cS 3,cS 54]
def aLh:ay:=⟨[eP 8 0],[AA]⟩
def anK:ay:=⟨[],[AA]⟩
def anJ:ay:=⟨[eB 2],[AA]⟩
def aw8:Pc:=pJ 0 65170 1 42532699716688040519107560680806416388 aLh [xN anK,xR anJ]
def aLg:ay:=⟨[eP 1 0,eP 8 1,eI 9],[v12,AA]⟩
def anI:ay:=⟨[eB 2],[v12,AA]⟩
def anH:ay:=⟨[],[v12,AA]⟩
def avA:Pc:=pL 0 260686 2 187072209578313038234206541279751304690030394478084 aLg [xR anI,xE 4 anH]
def aLf:ay:=⟨[eP 1 0,eI 7],[v12]⟩
def axZ:Pc:=pL 0 1018 1 187072209578355573529437833287570111815211013902212 aLf [xR vR,xE 2 ⟨[],[v12]⟩]
def ay4:Pc:=pJ 0 254 1 187072209578355573529437833287570111815211013902212 DK [xN ⟨[],[v12]⟩,xR vR]
def aLe:ay:=⟨[eP 1 0,eS 5 157,eI 12,eI 13],[v12]⟩
def aLd:ay:=⟨[eI 12],[v12]⟩
def axY:Pc:=eh [.ma 5 (.slice 157)] (pL 0 4090 1 1569275246774460612603373825730258016341362345156643139584 aLe [xE 6 aLd])
def aLc:ay:=⟨[eP 1 0,eO 5 1,eI 12],[v12,.row 157]⟩
def aLb:ay:=⟨[eI 12],[v12,.eW 157]⟩
def ayf:Pc:=pJ 0 1022 2 1569275246774460612603373825730258016341362345156643139584 aLc [xN aLb]
def aLa:ay:=⟨[eP 1 0,eO 14 1,eI 15],[v12,.row 3]⟩
def anG:ay:=⟨[],[v12,.row 3]⟩
def awQ:Pc:=pL 0 32762 2 3290908681014645897417716992483929687302814093580048302145044480 aLa [xE 8 anG]
def aK9:ay:=⟨[eP 1 0,eO 14 1,eI 16],[v12,.row 3]⟩
def aK8:ay:=⟨[eB 2],[v12,.row 3]⟩
def awP:Pc:=pL 0 65530 2 13476682324460677485249197605144700635808606739539019080825107972100 aK9 [xR aK8,xE 10 anG]
noncomputable def tZ:FD:=cp 8 Tryz.f8 1 1 0 DJ eG [.fn 5,.fn 8,.fc 11 [.jj 0 [.raw,.slice 69,.raw]],.fn 17,.fn 22,.fc 23 [.jj 0 [.raw,.raw,.raw,.raw,.raw,.raw,.slice 3,.slice 3,.slice 3,.slice 3,.slice 3,.raw,.raw,.raw,.raw,.raw]],.fn 59] (.pc awP<| .pc awQ<| .pc ayf<| .pc axY<| .pc ay4<| .pc axZ<| .pc avA<| .pc aw8<| .pc azO<| .pc ayV<| .pc aAC<| .nil)
def aK7:ay:=⟨[eO 0 2,eO 5 1,eI 6],[.gone,.row 41,.row 41]⟩
def aK6:ay:=⟨[eO 0 2],[.gone,.row 41,.row 41]⟩
def avz:Pc:=pL 1 122 2 33546305 aK7 [xE 0 aK6]
def aK5:ay:=⟨[eO 0 0,eA 1 h6],[.row 41]⟩
def aK4:ay:=⟨[eO 0 1],[.gone,.row 41]⟩
noncomputable def afV:FD:=cp 37 Tryz.f37 2 1 1 aK5 aK4 [.fn 64,.fn 3] (.pc avz<| .nil)
def aK3:ay:=⟨[eP 1 0,eO 3 1,eI 4],[v12,.row 41]⟩
def aK2:ay:=⟨[eO 3 1],[v12,.row 41]⟩
def ayW:Pc:=eh [.mk 3 41] (pL 0 122 1 8388376 aK3 [xE 0 aK2])
noncomputable def ahD:FD:=nI [.mk 0 41] 11 Tryz.f11 1 1 0 DJ s8 [.fn 4,.fn 64] (.pc ayW<| .nil)
def aK1:ay:=⟨[eI 1,eP 3 0,eI 8],[v0]⟩
def ay5:Pc:=pJ 0 488 1 4286578688 aK1 [xN ⟨[],[v0]⟩,xE 0 ⟨[],[v0]⟩]
def aK0:ay:=⟨[eI 1,eP 3 0,eP 5 1,eI 8],[v0,v0]⟩
def Dl:ay:=⟨[eI 1],[v0,v0]⟩
def ayZ:Pc:=Mo [.nP (λenv M=>0) 18 110] (pL 0 122 2 9444732965739282042626 aK0 [xE 0 Dl])
def aa3:ay:=⟨[eI 1,eP 3 0,eP 5 1],[v0,v0]⟩
def azQ:Pc:=pJ 0 30 2 9444732965739282042626 aa3 [xN Dl]
def aKZ:ay:=⟨[eI 1,eP 3 0,eI 12],[v0]⟩
def ayi:Pc:=pJ 0 1000 1 4826258545492777408397312 aKZ [xN ⟨[],[v0]⟩,xE 2 ⟨[],[v0]⟩]
def aKY:ay:=⟨[eI 1,eP 3 0,eP 5 1,eI 12],[v0,v0]⟩
def ayY:Pc:=Mo [.nP (λenv M=>0) 17 41] (pL 0 250 2 20282409594206937458207960870914 aKY [xE 2 Dl])
def azP:Pc:=pJ 0 62 2 20282409594206937458207960870914 aa3 [xN Dl]
def aKX:ay:=⟨[eI 1,eP 3 0,eI 14],[v0]⟩
def ayh:Pc:=pJ 0 2024 1 10364311307466003586637045407154176 aKX [xN ⟨[],[v0]⟩,xE 4 ⟨[],[v0]⟩]
def aKW:ay:=⟨[eI 1,eP 3 0,eP 5 1,eI 14],[v0,v0]⟩
def ayX:Pc:=Mo [.nP (λenv M=>0) 19 112] (pL 0 506 2 174224571843238083689596128581118073028610 aKW [xE 4 Dl])
def ay6:Pc:=pJ 0 126 2 174224571843238083689596128581118073028610 aa3 [xN Dl]
def aKV:ay:=⟨[eI 1,eP 3 0,eI 16],[v0]⟩
def ayg:Pc:=pJ 0 4072 1 89028756222258972072849625291588380699656192 aKV [xN ⟨[],[v0]⟩,xE 6 ⟨[],[v0]⟩]
def aKU:ay:=⟨[eI 1,eP 3 0,eP 5 1,eI 16],[v0,v0]⟩
def ax0:Pc:=Mo [.nP (λenv M=>0) 20 115] (pL 0 1018 2 392318858461667373515164975429985857758598210213678088194 aKU [xE 6 Dl])
def aKT:ay:=⟨[eA 0 h6,eI 1,eA 2 h6],[]⟩
def aKS:ay:=⟨[eA 0 h6,eI 1],[]⟩
noncomputable def uc:FD:=cp 45 Tryz.f45 3 2 0 aKT aKS [.fn 70] (.pc ax0<| .pc ayg<| .pc ay6<| .pc ayX<| .pc ayh<| .pc azP<| .pc ayY<| .pc ayi<| .pc azQ<| .pc ayZ<| .pc ay5<| .nil)
def amJ:fB:=bV [cS 120,cI,.aC 1,cS 67]
def aKR:ay:=⟨[eI 1,eP 3 0,eI 7],[amJ,.row 57]⟩
def anF:ay:=⟨[],[amJ,.row 57]⟩
def at1:Pc:=pJ 0 232 1 16744448 aKR [xN anF,xE 0 anF]
def amI:fB:=bV [cS 120,cI,.aC 2,cS 67]
def aKQ:ay:=⟨[eI 1,eP 3 0,eP 5 1,eI 7],[amI,v0,.row 57]⟩
def aKP:ay:=⟨[],[amI,v0,.row 57]⟩
def auE:Pc:=pL 0 58 2 35184372056962 aKQ [xE 0 aKP]
def aKO:ay:=⟨[eA 0 iL,eI 1,eA 2 h6],[]⟩
def aOv:List eK:=[cS 120,cI,.aC 0,cS 67]
def aKN:ay:=⟨[eA 0 aOv],[.row 57]⟩
noncomputable def WE:FD:=cp 14 Tryz.f14 3 1 0 aKO aKN [.fn 70] (.pc auE<| .pc at1<| .nil)
def aKM:ay:=⟨[eS 0 3,eI 1,eI 2,eS 9 3,eI 10,eI 11],[]⟩
def avI:Pc:=pL 0 26 0 274877905344 aKM [xR zd,xE 0 ⟨[],[]⟩]
noncomputable def afy:FD:=cp 90 Tryz.f90 3 1 0 S1 eG [] (.pc avI<| .nil)
def aKL:ay:=⟨[eI 0,eP 1 0],[bV [cS 120]]⟩
def anE:ay:=⟨[eB 0],[bV [cS 120]]⟩
noncomputable def axO:FD:=cp 92 Tryz.f92 2 1 1 aKL anE [] .nil
def aKK:ay:=⟨[eS 0 3,(1,.one (.cl 92 [(0,0,0)])),eI 7,eI 8],[bV [cS 120]]⟩
def aKJ:ay:=⟨[eI 4],[bV [cS 120]]⟩
def anD:ay:=⟨[],[bV [cS 120]]⟩
def aqb:Pc:=pL 0 26 1 524080 aKK [xR aKJ,xE 0 anD]
def anC:ay:=⟨[eS 0 3,(1,.one (.cl 92 [(0,0,0)]))],[bV [cS 120]]⟩
def aKI:ay:=⟨[eI 0],[bV [cS 120]]⟩
noncomputable def acE:FD:=cp 141 Tryz.f141 2 1 1 anC aKI [.fn 76] (.pc aqb<| .nil)
noncomputable def aqk:FD:=cp 91 Tryz.f91 2 1 1 anC anE [.fn 75] .nil
def aKH:ay:=⟨[eP 1 0],[bV [cS 120]]⟩
def anB:ay:=⟨[eB 2],[bV [cS 120]]⟩
def avY:Pc:=pJ 0 6 1 16324 aKH [xN anD,xR anB]
def aKG:ay:=⟨[eP 5 0],[tx]⟩
def aKF:ay:=⟨[eB 2],[tx]⟩
def asA:Pc:=pJ 0 15666 1 267386884 aKG [xN ⟨[],[tx]⟩,xR aKF]
def aKE:ay:=⟨[eP 1 0,eP 5 1],[bV [cS 120],tx]⟩
def aKD:ay:=⟨[],[bV [cS 120],tx]⟩
def aKC:ay:=⟨[eB 2],[bV [cS 120],tx]⟩
def ar2:Pc:=pJ 0 125342 2 302231382846063255748612 aKE [xN aKD,xR aKC]
def aKB:ay:=⟨[eP 1 0,eI 3,eS 14 120,eI 15,eI 16],[bV [cS 120]]⟩
def aKA:ay:=⟨[eI 3],[bV [cS 120]]⟩
def atS:Pc:=pL 0 122 1 9671406556917033397583916 aKB [xR anB,xE 0 aKA]
noncomputable def IN:FD:=cp 39 Tryz.f39 1 1 0 s29 eG [.fn 73,.fn 74] (.pc atS<| .pc ar2<| .pc asA<| .pc avY<| .nil)
def RQ:ay:=⟨[(0,.one (.cell (.int .u64))),(1,.one (.cell (.int .u64)))],[]⟩
noncomputable def awv:FD:=cp 184 Tryz.f184 2 2 0 RQ RQ [] .nil
noncomputable def ayK:FD:=cp 142 Tryz.f142 2 2 0 RQ RQ [.fn 80] .nil
def aKz:ay:=⟨[eI 1],[]⟩
def arp:Pc:=pJ 0 6 0 3584 aKz [xN ⟨[],[]⟩]
def aKy:ay:=⟨[(5,.one (.cell (.int .u64))),(6,.one (.cell (.int .u64)))],[]⟩
def aq4:Pc:=pJ 0 30 0 266338304 aKy [xN ⟨[],[]⟩]
def aKx:ay:=⟨[eO 7 0,eI 8],[.row 166]⟩
def RP:ay:=⟨[],[.row 166]⟩
def aqU:Pc:=pL 0 508 1 140720308486400 aKx [xE 0 RP]
def aKw:ay:=⟨[eS 0 166,eI 1],[]⟩
def aKv:ay:=⟨[eO 0 0],[.row 166]⟩
noncomputable def MW:FD:=cp 93 Tryz.f93 2 1 0 aKw aKv [.fn 79] (.pc aqU<| .pc aq4<| .pc arp<| .nil)
def aKu:ay:=⟨[eI 1,eI 2,(7,.one (.mpr 0)),eS 11 3,eI 12,eI 13],[.mp (.int .i64) false [.bool]]⟩
def aKt:ay:=⟨[eB 6],[.mp (.int .i64) false [.bool]]⟩
def aKs:ay:=⟨[],[.mp (.int .i64) false [.bool]]⟩
def avF:Pc:=pL 0 58 1 8589926976 aKu [xR aKt,xE 0 aKs]
noncomputable def afx:FD:=cp 94 Tryz.f94 3 1 0 S1 eG [] (.pc avF<| .nil)
def aKr:ay:=⟨[eO 4 0,eI 5,eS 45 3,eI 46,eI 47],[.row 166]⟩
def aa2:ay:=⟨[eO 2 1,eB 3],[.row 166,.row 166]⟩
def atQ:Pc:=pL 0 29902 1 9223231299366420748 aKr [(.ret,[.mk 2 166],aa2),xE 2 RP]
def aKq:ay:=⟨[eP 1 0,eO 4 1,eS 29 67,eI 30,eI 31],[v12,.row 166]⟩
def GV:ay:=⟨[eO 2 2,eB 3],[v12,.row 166,.row 166]⟩
def GU:ay:=⟨[],[v12,.row 166]⟩
def awT:Pc:=pL 0 58 2 18446744071562068332 aKq [(.ret,[.mk 2 166],GV),xE 0 GU]
def anA:ay:=⟨[eP 1 0,eO 4 1],[v12,.row 166]⟩
def axc:Pc:=pJ 0 14 2 18446744073441116524 anA [xN GU,xR GV]
def aKp:ay:=⟨[eP 1 0,eS 14 3],[v12]⟩
def aKo:ay:=⟨[eO 2 1,eB 3],[v12,.row 166]⟩
def arb:Pc:=pJ 0 1026765618 1 5069364460873632225711913697292 aKp [xN ⟨[],[v12]⟩,(.ret,[.mk 2 166],aKo)]
def aaQ:fB:=bV [cI,cI,cI]
def aKn:ay:=⟨[eP 1 0,eO 4 1,eI 16,eP 17 2],[v12,.row 166,aaQ]⟩
def aKm:ay:=⟨[],[v12,.row 166,aaQ]⟩
def aKl:ay:=⟨[eO 2 3,eB 3],[v12,.row 166,aaQ,.row 166]⟩
def aqG:Pc:=pJ 0 1051407994470 3 21778068886791632394242160610385000923148 aKn [xN aKm,(.ret,[.mk 2 166],aKl)]
def aKk:ay:=⟨[eP 1 0,eO 4 1,eI 9,eI 11,eS 102 3,eI 103,eI 104],[v12,.row 166]⟩
def aq3:Pc:=pL 0 4107062478 2 696898287433799563569339525596314045972492 aKk [xR GV,xE 10 GU]
def aKj:ay:=⟨[eP 1 0,eO 4 1,eI 9,eI 11,eO 84 2,eI 85,eI 86],[v12,.row 166,.row 36]⟩
def aKi:ay:=⟨[eO 2 3,eB 3],[v12,.row 166,.row 36,.row 166]⟩
def aKh:ay:=⟨[],[v12,.row 166,.row 36]⟩
def aso:Pc:=pL 0 8021606 3 1393796574908163868974729936704255413141516 aKj [xR aKi,xE 8 aKh]
def aKg:ay:=⟨[eP 1 0,eO 4 1,eI 9,eS 73 134,eI 74,eI 75],[v12,.row 166]⟩
def atP:Pc:=pL 0 31334 2 2787593149816327892654185852218088026757132 aKg [xR GV,xE 6 GU]
def aKf:ay:=⟨[eP 1 0,eO 4 1,eS 65 57,eI 66,eI 67],[v12,.row 166]⟩
def avH:Pc:=pL 0 122 2 5575186299632655785383781994209500700302860 aKf [xR GV,xE 4 GU]
def axb:Pc:=pJ 0 30 2 5575186299632655785383911121418016667164172 anA [xN GU,xR GV]
def aKe:ay:=⟨[eO 4 0,eS 150 3,eI 151,eI 152],[.row 166]⟩
def atO:Pc:=pL 0 64102 1 11686304107876399506105245517852466176701931454476 aKe [(.ret,[.mk 2 166],aa2),xE 14 RP]
def aKd:ay:=⟨[eO 4 0,eS 143 120,eI 144,eI 145],[.row 166]⟩
def avG:Pc:=pL 0 250 1 23383981595804049630012674252023983017771911348236 aKd [xR aa2,xE 12 RP]
def aKc:ay:=⟨[eO 0 0,eB 1],[.row 166]⟩
noncomputable def sG:FD:=cp 40 Tryz.f40 1 2 0 DJ aKc [.fn 73,.fc 78 [.ma 0 (.slice 166)],.fn 81] (.pc avG<| .pc atO<| .pc axb<| .pc avH<| .pc atP<| .pc aso<| .pc aq3<| .pc aqG<| .pc arb<| .pc axc<| .pc awT<| .pc atQ<| .nil)
def aKb:ay:=⟨[eI 1,eP 2 0,eS 23 54,eI 24,eI 25],[bV [cI]]⟩
def aKa:ay:=⟨[eB 6],[bV [cI]]⟩
def aJ9:ay:=⟨[],[bV [cI]]⟩
def avE:Pc:=pL 0 122 1 68685922624 aKb [xR aKa,xE 0 aJ9]
def aJ8:ay:=⟨[eA 0 qC,eI 1,eP 2 0],[bV [cI]]⟩
def aJ7:ay:=⟨[eB 0],[bV [cI]]⟩
noncomputable def afX:FD:=cp 95 Tryz.f95 3 1 1 aJ8 aJ7 [.fn 83] (.pc avE<| .nil)
def GS:ay:=⟨[eP 0 0,eP 1 1],[gV,Lq,.row 54]⟩
def GR:ay:=⟨[],[gV,Lq,.row 54]⟩
noncomputable def azF:FD:=cp 186 Tryz.f186 2 0 3 GS GR [] .nil
noncomputable def azE:FD:=cp 187 Tryz.f187 2 0 3 GS GR [] .nil
noncomputable def azD:FD:=cp 188 Tryz.f188 2 0 3 GS GR [] .nil
noncomputable def azB:FD:=cp 190 Tryz.f190 2 0 3 GS GR [] .nil
noncomputable def azC:FD:=cp 189 Tryz.f189 2 0 3 GS GR [] .nil
noncomputable def azA:FD:=cp 191 Tryz.f191 2 0 3 GS GR [] .nil
noncomputable def aA6:List Cl:=[.fc 86 [cK 1 8 54],.fc 87 [cK 1 8 54],.fn 88,.fc 90 [cK 1 8 54],.fn 89,.fc 91 [cK 1 8 54]]
noncomputable def auZ:lM:= .ur 26 4 lM.nil
noncomputable def aAo:List Cl:= .inl 185 Tryz.f185 auZ::aA6
def anz:ay:=⟨[(19,.one (cU))],[]⟩
def aJ6:ay:=⟨[eB 20],[]⟩
def auV:Pc:=pJ 0 4084 0 15728640 anz [xN aJ6]
def aJ5:ay:=⟨[eB 65],[]⟩
def asC:Pc:=pJ 0 4184062 0 553402322211286548480 anz [xN aJ5]
def aJ4:ay:=⟨[eA 0 qC,eI 1],[]⟩
noncomputable def Xl:FD:=nI [.jj 0 [.raw,.raw,.raw,.raw,.raw,.raw,.raw,.raw,.slice 54]] 143 Tryz.f143 1 2 0 s73 aJ4 aAo (.pc asC<| .pc auV<| .nil)
def aJ3:ay:=⟨[eS 0 98],[]⟩
def aa1:ay:=⟨[eO 0 0],[.row 98]⟩
noncomputable def auq:FD:=cp 144 Tryz.f144 1 1 0 aJ3 aa1 [] .nil
def anx:ay:=⟨[(0,.one (.gQ))],[]⟩
noncomputable def asl:FD:=nI [.mk 0 98] 144 Tryz.f144 1 1 0 anx aa1 [] .nil
def anw:ay:=⟨[(0,.one (.jR))],[]⟩
noncomputable def asj:FD:=cp 144 Tryz.f144 1 1 0 anw aa1 [] .nil
def K8:List eK:=[cS 120,cI]
def aJ2:ay:=⟨[eA 0 K8,eI 1,eI 2],[]⟩
noncomputable def avs:FD:=cp 145 Tryz.f145 3 1 0 aJ2 eG [] .nil
def aJ1:ay:=⟨[eA 0 K8,eI 1,eI 2,eI 3],[]⟩
noncomputable def axM:FD:=cp 146 Tryz.f146 4 1 0 aJ1 eG [] .nil
noncomputable def aB7:FD:=nI [.jj 0 [.raw,.raw,.slice 3,.raw,.raw]] 147 Tryz.f147 0 1 0 ⟨[],[]⟩ SY [] .nil
noncomputable def awz:FD:=cp 42 Tryz.f42 1 1 0 SY eG [] .nil
noncomputable def aBC:FD:=nI [.jj 0 [.raw,.raw,.slice 3,.raw,.raw]] 148 Tryz.f148 0 1 0 ⟨[],[]⟩ SY [] .nil
def axf:Pc:=pJ 0 6 2 130816 s79 [xN s80]
def anv:ay:=⟨[(0,.one (cU))],[]⟩
def aJ0:ay:=⟨[eB 17],[]⟩
def av0:Pc:=pJ 0 56 0 16646144 anv [xN aJ0]
def auW:Pc:=pJ 0 230 0 8522825728 anv [xN anO]
noncomputable def Oc:FD:=nI [.jj 0 [.raw,.raw,.slice 3,.raw,.raw]] 149 Tryz.f149 3 2 0 s86 A6 [.fn 98,.fn 97,.fn 99] (.pc auW<| .pc av0<| .pc axf<| .nil)
def anu:ay:=⟨[(0,.one (.cell (.int .u64)))],[]⟩
noncomputable def aww:FD:=cp 218 Tryz.f218 1 1 0 anu A7 [] .nil
noncomputable def ayL:FD:=cp 213 Tryz.f213 1 1 0 anu A7 [.fn 104] .nil
def aJZ:ay:=⟨[eO 0 0,eI 1,eI 7],[.row 3]⟩
def aqg:Pc:=pL 1 402 1 562949953355904 aJZ [xE 2 vQ]
def aJY:ay:=⟨[eO 0 0,eI 1,eI 2,eI 6],[.row 3]⟩
def aqp:Pc:=pL 1 6 1 562949953420480 aJY [xE 0 vQ]
def aJX:ay:=⟨[eO 0 0,eI 1,eI 2],[.row 3]⟩
noncomputable def aqu:FD:=cp 222 Tryz.f222 3 0 1 aJX vQ [.fn 107] (.pc aqp<| .pc aqg<| .nil)
def aJW:ay:=⟨[eO 0 0,eI 1,eI 2,eI 3,eB 8],[.row 3]⟩
def ant:ay:=⟨[eI 3],[.row 3]⟩
def aqv:Pc:=pJ 1 910 1 4380866641928 aJW [xN ant]
def aJV:ay:=⟨[eO 0 0,eI 1,eI 2,eI 11,eI 12],[.row 3]⟩
def aJU:ay:=⟨[eI 11,eI 12],[.row 3]⟩
def aqt:Pc:=pJ 1 3646 1 2305280059260278784 aJV [xN aJU]
def aJT:ay:=⟨[eB 8,eB 9,eI 12],[.row 3]⟩
def aJS:ay:=⟨[eB 68],[.row 3]⟩
def aqr:Pc:=pJ 1 14588 1 587989967349491957760 aJT [xN aJS]
def aJR:ay:=⟨[eO 0 0,eI 1,eI 2,eB 8,eB 9,eI 12],[.row 3]⟩
def aqs:Pc:=pJ 1 7294 1 9442427122730076733440 aJR [xN vQ,xR vQ]
def aJQ:ay:=⟨[eO 0 0,eI 1,eI 2,eI 11],[.row 3]⟩
def ans:ay:=⟨[eI 1],[.row 3]⟩
def aqq:Pc:=pJ 1 14590 1 19807031183833118659095568386 aJQ [xN ans,xE 1 ans]
def aJP:ay:=⟨[eO 0 0,eI 1,eI 2,eI 3,eB 8,eB 9],[.row 3]⟩
def aqw:Pc:=pL 1 14 1 21778071482940061661655974875633165532942 aJP [xR vQ]
def aJO:ay:=⟨[eO 0 0,eI 1,eI 2,eI 3],[.row 3]⟩
noncomputable def aqy:FD:=cp 212 Tryz.f212 4 0 1 aJO vQ [.fn 110,.fn 111,.fn 112,.fn 114,.fn 117,.fn 121,.fn 122,.fn 107,.fn 123,.fn 124] (.pc aqw<| .pc aqq<| .pc aqs<| .pc aqr<| .pc aqt<| .pc aqv<| .nil)
def GQ:ay:=⟨[eO 0 0],[.row 3]⟩
noncomputable def MV:FD:=cp 192 Tryz.f192 1 0 1 GQ vQ [.A5 192 3,.fn 110,.fn 103] .nil
def aJN:ay:=⟨[eO 0 0,eI 3,(4,.one (.vw 0)),eI 5],[.row 3]⟩
def aqx:Pc:=pL 1 59690 1 18014397972611112 aJN [xE 2 ant]
def aJM:ay:=⟨[eO 0 0,eI 3],[.row 3]⟩
def aJL:ay:=⟨[eO 2 1],[.gone,.row 3]⟩
def aqC:Pc:=pL 1 58 1 1152921504606846012 aJM [xR aJL,xE 0 vQ]
def aJK:ay:=⟨[eO 0 1],[.gone,.row 3]⟩
noncomputable def T9:FD:=nI [.mov 0] 193 Tryz.f193 1 1 1 GQ aJK [] (.pc aqC<| .pc aqx<| .nil)
def aJJ:ay:=⟨[eP 2 0,eP 3 1,eP 4 2],[kn,kn,rY,.row 3]⟩
def aJI:ay:=⟨[],[kn,kn,rY,.row 3]⟩
def aJH:ay:=⟨[eB 5],[kn,kn,rY,.row 3]⟩
def axe:Pc:=eh [cK 4 2 3] (pJ 0 6 3 268434976 aJJ [xN aJI,(.ret,[.tF (λenv M=>2) 2 3],aJH)])
def aJG:ay:=⟨[eP 4 0,eP 6 1,eO 31 2,eI 32,eI 33],[rY,uq,.row 98,.row 3,.row 3]⟩
def aJF:ay:=⟨[eB 5],[rY,uq,.row 98,.row 3,.row 3]⟩
def aJE:ay:=⟨[],[rY,uq,.row 98,.row 3,.row 3]⟩
def auF:Pc:=eh [cK 6 2 3] (pL 0 122 3 36028788429029664 aJG [(.ret,[.tF (λenv M=>0) 2 3],aJF),xE 0 aJE])
noncomputable def W4:FD:=cp 150 Tryz.f150 2 2 0 aod abc [.fn 109,.fn 126] (.pc auF<| .pc axe<| .nil)
def arx:Pc:=eh [cK 4 2 3] (pJ 0 6 2 523296 aoc [xN abd,(.ret,[.tF (λenv M=>1) 2 3],aob)])
def GL:fB:=bV [cS 120,cI]
def aJD:ay:=⟨[eP 2 0,eP 6 1,eS 20 3,eI 21,eI 22],[GL,xu,.row 3]⟩
def aJC:ay:=⟨[],[GL,xu,.row 3]⟩
def aqW:Pc:=Mo [.tF (λenv M=>1) 2 3] (eh [cK 6 2 3] (pL 0 122 2 4503599623177088 aJD [xE 0 aJC]))
def aJB:ay:=⟨[eA 0 K8,eA 1 wz],[]⟩
noncomputable def UG:FD:=cp 151 Tryz.f151 2 2 0 aJB abc [] (.pc aqW<| .pc arx<| .nil)
def aJA:ay:=⟨[eP 4 0,eP 6 1,eP 8 2,eI 9],[gV,rY,gV,.row 3]⟩
def aJz:ay:=⟨[],[gV,rY,gV,.row 3]⟩
def aJy:ay:=⟨[eB 7],[gV,rY,gV,.row 3]⟩
def asz:Pc:=eh [cK 6 2 3] (pJ 0 14 3 1208925819614629141151872 aJA [xN aJz,(.ret,[.tF (λenv M=>1) 2 3],aJy)])
def aJx:ay:=⟨[eS 2 98,eP 4 0,eO 10 1,eI 11,eS 13 98],[gV,.row 98]⟩
def aJw:ay:=⟨[eS 13 98],[gV,.row 98]⟩
def ara:Pc:=pJ 0 64102 2 10140585831806192521836176089088 aJx [(.normal,[.ma 13 (.slice 98)],aJw)]
def aJv:ay:=⟨[eS 2 98,eP 3 0,eP 4 1,eP 6 2,eO 10 3,eS 81 54,eI 82,eI 83],[GL,gV,uq,.row 98,.row 3]⟩
def anr:ay:=⟨[eB 7],[GL,gV,rY,.row 3]⟩
def anq:ay:=⟨[eO 10 3],[GL,gV,uq,.row 98,.row 3]⟩
def arQ:Pc:=pL 0 250 3 332306998936557561669034731672501376 aJv [(.ret,[.tF (λenv M=>2) 2 3],anr),xE 0 anq]
def aJu:ay:=⟨[eS 2 98,eP 3 0,eP 4 1,eP 6 2,eO 10 3],[GL,gV,uq,.row 98,.row 3]⟩
def asy:Pc:=eh [.mk 10 98] (pJ 0 62 3 332306998945020042406337135895444608 aJu [xN anq,xR anr])
def aJt:ay:=⟨[(119,.one (cU))],[]⟩
def aJs:ay:=⟨[eB 235],[]⟩
def aqP:Pc:=pJ 0 1038334 0 386497795420271572096346328287513425337262102441541647089101356532760576 aJt [xN aJs]
def aJr:ay:=⟨[eA 0 K8,eA 1 qC,eS 2 98],[]⟩
noncomputable def EP:FD:=nI [.jj 0 [.raw,.raw,.slice 3,.raw,.raw]] 96 Tryz.f96 3 2 0 aJr A6 [.fn 98,.fn 84,.fn 85,.Sf 98 92 93 94,.fn 95,.fn 96,.fn 97,.fn 99,.fn 100,.fn 101,.fn 127] (.pc aqP<| .pc asy<| .pc arQ<| .pc ara<| .pc asz<| .nil)
def aJq:ay:=⟨[eA 0 K8,eA 1 qC],[]⟩
noncomputable def ayN:FD:=nI [.jj 0 [.raw,.raw,.slice 3,.raw,.raw]] 41 Tryz.f41 2 2 0 aJq A6 [.fn 83,.abo 84 [(2,98)]] .nil
def aJp:ay:=⟨[eS 0 3,eI 1,eI 7,eI 8],[]⟩
def aJo:ay:=⟨[eI 4],[]⟩
def arJ:Pc:=pL 0 26 0 524080 aJp [xR aJo,xE 0 ⟨[],[]⟩]
noncomputable def adO:FD:=cp 152 Tryz.f152 2 1 0 S0 A7 [] (.pc arJ<| .nil)
noncomputable def asU:FD:=cp 97 Tryz.f97 2 1 0 S0 eG [.fn 130] .nil
def aJn:ay:=⟨[eA 0 qC,eP 1 0,eP 2 1],[bV [cS 120],bV [cS 3]]⟩
def anp:ay:=⟨[eB 0],[bV [cS 120],bV [cS 3]]⟩
noncomputable def azz:FD:=cp 99 Tryz.f99 3 1 2 aJn anp [.fn 128] .nil
def aJm:ay:=⟨[eS 0 54,(1,.one (.cl 99 [(0,0,0),(1,0,0)])),eI 7,eI 8],[bV [cS 120],bV [cS 3]]⟩
def aJl:ay:=⟨[eI 4],[bV [cS 120],bV [cS 3]]⟩
def aJk:ay:=⟨[],[bV [cS 120],bV [cS 3]]⟩
def aqc:Pc:=pL 0 26 2 524080 aJm [xR aJl,xE 0 aJk]
def ano:ay:=⟨[eS 0 54,(1,.one (.cl 99 [(0,0,0),(1,0,0)]))],[bV [cS 120],bV [cS 3]]⟩
def aJj:ay:=⟨[eI 0],[bV [cS 120],bV [cS 3]]⟩
noncomputable def acF:FD:=cp 153 Tryz.f153 2 1 2 ano aJj [.fn 133] (.pc aqc<| .nil)
noncomputable def aql:FD:=cp 98 Tryz.f98 2 1 2 ano anp [.fn 132] .nil
def avX:Pc:=pJ 0 116 0 31744 SZ [xN s67]
def aJi:ay:=⟨[eP 3 0,eP 4 1,eP 5 2,eB 7],[bV [cS 120],bV [cS 3],gV]⟩
def aJh:ay:=⟨[eB 7],[bV [cS 120],bV [cS 3],gV]⟩
def axd:Pc:=pJ 0 14 3 35184372088704 aJi [xN aJh]
noncomputable def Xk:FD:=cp 43 Tryz.f43 3 1 0 an6 eG [.fn 129,.fn 131] (.pc axd<| .pc avX<| .nil)
noncomputable def ayO:FD:=cp 20 Tryz.f20 2 1 0 anX eG [.fn 137] .nil
def aJg:ay:=⟨[eS 1 54,(2,.one (.fn 20)),eS 15 54,eI 16,eI 17],[]⟩
def ap6:Pc:=pL 0 58 0 4294837184 aJg [xR zd,xE 0 ⟨[],[]⟩]
def aJf:ay:=⟨[eS 0 54,eS 1 54,(2,.one (.fn 20))],[]⟩
noncomputable def acC:FD:=cp 63 Tryz.f63 3 1 0 aJf eG [.fn 138] (.pc ap6<| .nil)
def aJe:ay:=⟨[eS 0 3,eS 1 3,eI 12,eI 13],[]⟩
def arK:Pc:=pL 0 58 0 67100720 aJe [xR DI,xE 0 ⟨[],[]⟩]
noncomputable def adP:FD:=cp 58 Tryz.f58 2 1 0 RU eG [] (.pc arK<| .nil)
def aJd:ay:=⟨[eA 0 K9,eA 1 K9],[]⟩
noncomputable def axN:FD:=cp 68 Tryz.f68 2 1 0 aJd eG [.fn 137] .nil
def aJc:ay:=⟨[eS 1 118,(2,.one (.fn 68)),eS 15 118,eI 16,eI 17],[]⟩
def apY:Pc:=pL 0 58 0 4294837184 aJc [xR zd,xE 0 ⟨[],[]⟩]
def aJb:ay:=⟨[eS 0 118,eS 1 118,(2,.one (.fn 68))],[]⟩
noncomputable def acx:FD:=cp 67 Tryz.f67 3 1 0 aJb eG [.fn 141] (.pc apY<| .nil)
def aJa:ay:=⟨[eS 1 41,(2,.one (.fn 22)),eS 15 41,eI 16,eI 17],[]⟩
def ap5:Pc:=pL 0 58 0 4294837184 aJa [xR zd,xE 0 ⟨[],[]⟩]
def aI9:ay:=⟨[eS 0 41,eS 1 41,(2,.one (.fn 22))],[]⟩
noncomputable def acB:FD:=cp 69 Tryz.f69 3 1 0 aI9 eG [.fn 136] (.pc ap5<| .nil)
def apd:List eK:=[cU,cI,cI,cI,cI,cI,cB,cB,cB,cB,cB,cU,cS 54,cS 54,cS 118,cS 118,cS 3,cS 41,cS 110,cS 112,cS 115,cU,cI,cI,cI,cI,cI,cB,cB,cB,cB,cB,cU,cS 54,cS 54,cS 118,cS 118,cS 3,cS 41,cS 110,cS 112,cS 115]
def aI8:ay:=⟨[eA 0 apd,eA 1 apd],[]⟩
noncomputable def awC:FD:=cp 70 Tryz.f70 2 1 0 aI8 eG [.fn 136] .nil
def aI7:ay:=⟨[eS 1 110,(2,.one (.fn 70)),eS 15 110,eI 16,eI 17],[]⟩
def apS:Pc:=pL 0 58 0 4294837184 aI7 [xR zd,xE 0 ⟨[],[]⟩]
def aI6:ay:=⟨[eS 0 110,eS 1 110,(2,.one (.fn 70))],[]⟩
noncomputable def acu:FD:=cp 73 Tryz.f73 3 1 0 aI6 eG [.fn 144] (.pc apS<| .nil)
def apc:List eK:=[cS 3,cU,cI,cI,cI,cI,cI,cB,cB,cB,cB,cB,cU,cS 54,cS 54,cS 118,cS 118,cS 3,cS 41,cS 110,cS 112,cS 115]
def aI5:ay:=⟨[eA 0 apc,eA 1 apc],[]⟩
noncomputable def awB:FD:=cp 71 Tryz.f71 2 1 0 aI5 eG [.fn 136,.fn 139] .nil
def aI4:ay:=⟨[eS 1 112,(2,.one (.fn 71)),eS 15 112,eI 16,eI 17],[]⟩
def apH:Pc:=pL 0 58 0 4294837184 aI4 [xR zd,xE 0 ⟨[],[]⟩]
def aI3:ay:=⟨[eS 0 112,eS 1 112,(2,.one (.fn 71))],[]⟩
noncomputable def acf:FD:=cp 74 Tryz.f74 3 1 0 aI3 eG [.fn 146] (.pc apH<| .nil)
def aI2:ay:=⟨[eA 0 abO,eA 1 abO],[]⟩
noncomputable def awA:FD:=cp 72 Tryz.f72 2 1 0 aI2 eG [.fn 138,.fn 136,.fn 137] .nil
def aI1:ay:=⟨[eS 1 115,(2,.one (.fn 72)),eS 15 115,eI 16,eI 17],[]⟩
def apZ:Pc:=pL 0 58 0 4294837184 aI1 [xR zd,xE 0 ⟨[],[]⟩]
def aI0:ay:=⟨[eS 0 115,eS 1 115,(2,.one (.fn 72))],[]⟩
noncomputable def acy:FD:=cp 75 Tryz.f75 3 1 0 aI0 eG [.fn 148] (.pc apZ<| .nil)
def aIZ:ay:=⟨[eB 8],[v0,v0]⟩
def at3:Pc:=pJ 0 24 2 72057594037927680 yN [xN aIZ]
def aIY:ay:=⟨[eB 56],[v0,v0]⟩
def ath:Pc:=pJ 0 102 2 1237940039213322680861196288 yN [xN aIY]
def aIX:ay:=⟨[eB 90],[v0,v0]⟩
def atg:Pc:=pJ 0 414 2 10384592479129615971680717759315968 yN [xN aIX]
def auX:Pc:=pJ 0 6 2 87112285931760246646623899502532662132496 yN [xN yM,xR yL]
noncomputable def IH:FD:=cp 22 Tryz.f22 2 1 0 anW eG [.fn 139,.fn 137,.fn 140,.fn 142,.fn 143,.fn 145,.fn 147] (.pc auX<| .pc atg<| .pc ath<| .pc at3<| .nil)
def ann:ay:=⟨[(24,.one (cU))],[]⟩
def aIW:ay:=⟨[eB 51],[]⟩
def ar1:Pc:=pJ 0 33390590 0 15762598695796736 ann [xN aIW]
def aIV:ay:=⟨[eB 63],[]⟩
def aq9:Pc:=pJ 0 2136997886 0 64563604257983430656 ann [xN aIV]
def GK:fB:=bV [cU,cI,cI,cI,cI,cI,cB,cB,cB,cB,cB,cU,.aC 3,.aC 4,.aC 5,.aC 6,.aC 7,.aC 8,.aC 9,.aC 10,.aC 11]
def aIU:ay:=⟨[eP 1 0,eP 4 1,eI 5,eI 6,eI 7,(8,.one (.mpr 2))],[v0,GK,.mp (.str) false [.bool],.row 54,.row 54,.row 118,.row 118,.row 3,.row 41,.row 110,.row 112,.row 115]⟩
def aIT:ay:=⟨[eI 5,eI 6,eI 7],[v0,GK,.mp (.str) false [.bool],.row 54,.row 54,.row 118,.row 118,.row 3,.row 41,.row 110,.row 112,.row 115]⟩
def aIS:ay:=⟨[eB 2],[v0,GK,.mp (.str) false [.bool],.row 54,.row 54,.row 118,.row 118,.row 3,.row 41,.row 110,.row 112,.row 115]⟩
def avW:Pc:=eh [cK 4 12 54,cK 4 13 54,cK 4 14 118,cK 4 15 118,cK 4 16 3,cK 4 17 41,cK 4 18 110,cK 4 19 112,cK 4 20 115] (pJ 0 254 3 11150372599265311570767859136324180744601828 aIU [xN aIT,xR aIS])
def aaP:fB:=bV [cU,cI,cI,cI,cI,cI,cB,cB,cB,cB,cB,cU,.aC 12,.aC 13,.aC 14,.aC 15,.aC 16,.aC 17,.aC 18,.aC 19,.aC 20]
def aIR:ay:=⟨[eP 1 0,eP 3 1,eP 4 2,eI 5,eI 6,eI 7],[v0,GK,aaP,.row 54,.row 54,.row 118,.row 118,.row 3,.row 41,.row 110,.row 112,.row 115,.row 54,.row 54,.row 118,.row 118,.row 3,.row 41,.row 110,.row 112,.row 115]⟩
def aIQ:ay:=⟨[],[v0,GK,aaP,.eW 54,.eW 54,.eW 118,.eW 118,.eW 3,.eW 41,.eW 110,.eW 112,.eW 115,.eW 54,.eW 54,.eW 118,.eW 118,.eW 3,.eW 41,.eW 110,.eW 112,.eW 115]⟩
def aIP:ay:=⟨[eB 2],[v0,GK,aaP,.eW 54,.eW 54,.eW 118,.eW 118,.eW 3,.eW 41,.eW 110,.eW 112,.eW 115,.eW 54,.eW 54,.eW 118,.eW 118,.eW 3,.eW 41,.eW 110,.eW 112,.eW 115]⟩
def avV:Pc:=eh [cK 3 12 54,cK 3 13 54,cK 3 14 118,cK 3 15 118,cK 3 16 3,cK 3 17 41,cK 3 18 110,cK 3 19 112,cK 3 20 115] (pJ 0 510 3 374144408006338547794831746407509316707737978011652 aIR [xN aIQ,xR aIP])
noncomputable def Jc:FD:=cp 100 Tryz.f100 1 1 0 s7 eG [.fc 136 [.jj 0 [.raw,.raw,.raw,.raw,.raw,.raw,.raw,.raw,.raw,.raw,.raw,.raw,.slice 54,.slice 54,.slice 118,.slice 118,.slice 3,.slice 41,.slice 110,.slice 112,.slice 115],.jj 1 [.raw,.raw,.raw,.raw,.raw,.raw,.raw,.raw,.raw,.raw,.raw,.raw,.slice 54,.slice 54,.slice 118,.slice 118,.slice 3,.slice 41,.slice 110,.slice 112,.slice 115]]] (.pc avV<| .pc avW<| .pc aq9<| .pc ar1<| .nil)
def aIO:ay:=⟨[(4,.one (cU))],[]⟩
def aIN:ay:=⟨[eB 5],[]⟩
def avZ:Pc:=pJ 0 52 0 32736 aIO [xN aIN]
noncomputable def afz:FD:=cp 154 Tryz.f154 1 1 0 s7 eG [] (.pc avZ<| .nil)
def er:fB:=bV [cS 120,cI,cS 120,cI,cS 57,cS 67,.aC 1,cI,.mpr 2]
def gf:fB:=bV [.ptr 0 0 0,cI,cS 3,cS 3,cS 3,cS 3,cS 3,cB,cB,cB,cI,cI]
def yK:ay:=⟨[eP 2 3,eP 3 4],[er,.row 166,.mp (.int .i64) false [.int .i64],gf,v0]⟩
def yJ:ay:=⟨[],[er,.row 166,.mp (.int .i64) false [.int .i64],gf,v0]⟩
def AG:ay:=⟨[eB 4],[er,.row 166,.mp (.int .i64) false [.int .i64],gf,v0]⟩
def arW:Pc:=pJ 3 6 5 8176 yK [xN yJ,xR AG]
def aIM:ay:=⟨[(14,.one (cU))],[er,.row 166,.mp (.int .i64) false [.int .i64]]⟩
def aIL:ay:=⟨[eB 15],[er,.row 166,.mp (.int .i64) false [.int .i64]]⟩
def aq6:Pc:=pJ 3 116 3 491520 aIM [xN aIL]
def aru:Pc:=pJ 3 14 5 1073733648 yK [xN yJ,xR AG]
def Dz:List eK:=[.ptr 0 0 0,cI,cS 3,cS 3,cS 3,cS 3,cS 3,cB,cB,cB,cI,cI]
def AF:ay:=⟨[eA 0 Dz,eA 1 h6],[er,.row 166,.mp (.int .i64) false [.int .i64]]⟩
def pD:ay:=⟨[eB 0],[er,.row 166,.mp (.int .i64) false [.int .i64]]⟩
noncomputable def M6:FD:=cp 101 Tryz.f101 2 1 3 AF pD [.fn 150] (.pc aru<| .pc aq6<| .pc arW<| .nil)
def RN:ay:=⟨[eA 0 Dz,eI 1],[er,.row 166,.mp (.int .i64) false [.int .i64]]⟩
noncomputable def axJ:FD:=cp 158 Tryz.f158 2 1 3 RN pD [.fn 129] .nil
def pC:fB:=bV [.ptr 1 0 0,cI,cS 3,cS 3,cS 3,cS 3,cS 3,cB,cB,cB,cI,cI]
def pB:fB:=bV [cS 120,cI,cS 120,cI,cS 57,cS 67,.aC 2,cI,.mpr 3]
def aIK:ay:=⟨[eA 0 qC,eP 1 0],[pC,pB,.row 166,.mp (.int .i64) false [.int .i64]]⟩
def AE:ay:=⟨[eB 0],[pC,pB,.row 166,.mp (.int .i64) false [.int .i64]]⟩
noncomputable def aut:FD:=cp 232 Tryz.f232 2 1 4 aIK AE [.fn 154] .nil
def aIJ:ay:=⟨[eS 0 54,(1,.one (.cl 232 [(0,0,0)])),eI 7,eI 8],[pC,pB,.row 166,.mp (.int .i64) false [.int .i64]]⟩
def aa0:ay:=⟨[eI 4],[pC,pB,.row 166,.mp (.int .i64) false [.int .i64]]⟩
def RM:ay:=⟨[],[pC,pB,.row 166,.mp (.int .i64) false [.int .i64]]⟩
def apK:Pc:=pL 4 26 4 524080 aIJ [xR aa0,xE 0 RM]
def anm:ay:=⟨[eS 0 54,(1,.one (.cl 232 [(0,0,0)]))],[pC,pB,.row 166,.mp (.int .i64) false [.int .i64]]⟩
def aaZ:ay:=⟨[eI 0],[pC,pB,.row 166,.mp (.int .i64) false [.int .i64]]⟩
noncomputable def aci:FD:=cp 153 Tryz.f153 2 1 4 anm aaZ [.fn 158] (.pc apK<| .nil)
noncomputable def apQ:FD:=cp 98 Tryz.f98 2 1 4 anm AE [.fn 157] .nil
def aII:ay:=⟨[eP 2 3,eP 3 4],[er,.row 166,.mp (.int .i64) false [.int .i64],gf,gV]⟩
def aIH:ay:=⟨[],[er,.row 166,.mp (.int .i64) false [.int .i64],gf,gV]⟩
def aIG:ay:=⟨[eB 4],[er,.row 166,.mp (.int .i64) false [.int .i64],gf,gV]⟩
def ate:Pc:=pJ 3 6 5 268435440 aII [xN aIH,xR aIG]
def RK:ay:=⟨[eA 0 Dz,eA 1 qC],[er,.row 166,.mp (.int .i64) false [.int .i64]]⟩
noncomputable def ad8:FD:=cp 214 Tryz.f214 2 1 3 RK pD [.fn 156,.fn 155] (.pc ate<| .nil)
def aIF:ay:=⟨[eA 0 wz,eB 1],[er,.row 166,.mp (.int .i64) false [.int .i64]]⟩
noncomputable def awx:FD:=cp 194 Tryz.f194 2 2 3 RK aIF [.fn 82,.fn 154] .nil
def aIE:ay:=⟨[eI 0,eP 1 0],[pC,pB,.row 166,.mp (.int .i64) false [.int .i64]]⟩
noncomputable def atD:FD:=cp 195 Tryz.f195 2 1 4 aIE AE [.fn 129] .nil
def aID:ay:=⟨[eS 0 3,(1,.one (.cl 195 [(0,0,0)])),eI 7,eI 8],[pC,pB,.row 166,.mp (.int .i64) false [.int .i64]]⟩
def apM:Pc:=pL 4 26 4 524080 aID [xR aa0,xE 0 RM]
def anl:ay:=⟨[eS 0 3,(1,.one (.cl 195 [(0,0,0)]))],[pC,pB,.row 166,.mp (.int .i64) false [.int .i64]]⟩
noncomputable def acn:FD:=cp 141 Tryz.f141 2 1 4 anl aaZ [.fn 161] (.pc apM<| .nil)
noncomputable def apW:FD:=cp 91 Tryz.f91 2 1 4 anl AE [.fn 160] .nil
def aaO:fB:=bV [cU,cI,cI,cI,.aC 5]
def ank:ay:=⟨[eP 3 3,eP 6 4,eI 7],[er,.row 166,.mp (.int .i64) false [.int .i64],oQ,aaO,.row 54]⟩
def aIC:ay:=⟨[eI 7],[er,.row 166,.mp (.int .i64) false [.int .i64],oQ,aaO,.row 54]⟩
def aGP:fB:=bV [cU,cI,cI,cI,.aC 6]
def anj:ay:=⟨[eO 4 5,eB 5],[er,.row 166,.mp (.int .i64) false [.int .i64],oQ,aGP,.row 3,.row 54]⟩
def arY:Pc:=eh [cK 6 4 54] (pJ 3 30 5 137438937264 ank [xN aIC,(.ret,[.mk 4 3],anj)])
def aIB:ay:=⟨[],[er,.row 166,.mp (.int .i64) false [.int .i64],oQ,aaO,.row 54]⟩
def arX:Pc:=pJ 3 62 5 9223371899415822384 ank [xN aIB,(.ret,[.mk 4 3],anj)]
def aGO:fB:=bV [cB,cB,.aC 6,cI,cI]
def aIA:ay:=⟨[eP 2 3,eP 3 4,eI 7,eP 8 5],[er,.row 166,.mp (.int .i64) false [.int .i64],gf,oQ,aGO,.row 3]⟩
def ani:ay:=⟨[],[er,.row 166,.mp (.int .i64) false [.int .i64],gf,oQ,kn]⟩
def aaY:ay:=⟨[eO 4 6,eB 5],[er,.row 166,.mp (.int .i64) false [.int .i64],gf,oQ,kn,.row 3]⟩
def arv:Pc:=eh [cK 8 2 3] (pJ 3 254 6 75548640353877468643888 aIA [(.normal,[.nP (λenv M=>5) 2 3],ani),(.ret,[.mk 4 3],aaY)])
def anh:ay:=⟨[eP 2 3,eP 3 4,eP 8 5],[er,.row 166,.mp (.int .i64) false [.int .i64],gf,oQ,kn]⟩
def aqO:Pc:=pJ 3 130908 6 174224561478926776223592541944072665825328 anh [xN ani,(.ret,[.mk 4 3],aaY)]
def aIz:ay:=⟨[eS 10 3],[er,.row 166,.mp (.int .i64) false [.int .i64],gf,oQ,kn]⟩
def aq7:Pc:=pJ 3 1022 6 1393796574908163946270424528314608270705712 anh [(.normal,[.ma 10 (.slice 3)],aIz),(.ret,[.mk 4 3],aaY)]
def ang:ay:=⟨[eA 0 Dz,eA 1 K9],[er,.row 166,.mp (.int .i64) false [.int .i64]]⟩
def aIy:ay:=⟨[eS 0 3,eB 1],[er,.row 166,.mp (.int .i64) false [.int .i64]]⟩
noncomputable def EI:FD:=nI [.ma 0 (.slice 3)] 155 Tryz.f155 2 2 3 ang aIy [.fn 159,.fn 95,.fn 96,.fn 155,.fn 153] (.pc aq7<| .pc aqO<| .pc arv<| .pc arX<| .pc arY<| .nil)
def aIx:ay:=⟨[eI 0,eP 1 0],[bV [cS 3]]⟩
def anf:ay:=⟨[eB 0],[bV [cS 3]]⟩
noncomputable def ayM:FD:=cp 233 Tryz.f233 2 1 1 aIx anf [.fn 129] .nil
def aIw:ay:=⟨[eS 0 3,(1,.one (.cl 233 [(0,0,0)])),eI 7,eI 8],[bV [cS 3]]⟩
def aIv:ay:=⟨[eI 4],[bV [cS 3]]⟩
def aIu:ay:=⟨[],[bV [cS 3]]⟩
def aqh:Pc:=pL 0 26 1 524080 aIw [xR aIv,xE 0 aIu]
def ane:ay:=⟨[eS 0 3,(1,.one (.cl 233 [(0,0,0)]))],[bV [cS 3]]⟩
def aIt:ay:=⟨[eI 0],[bV [cS 3]]⟩
noncomputable def acH:FD:=cp 141 Tryz.f141 2 1 1 ane aIt [.fn 170] (.pc aqh<| .nil)
noncomputable def aqo:FD:=cp 91 Tryz.f91 2 1 1 ane anf [.fn 169] .nil
noncomputable def aAm:FD:=cp 215 Tryz.f215 2 1 0 RU eG [.fn 168] .nil
def aIs:ay:=⟨[eA 0 wz,eA 1 Mg],[]⟩
noncomputable def axL:FD:=cp 197 Tryz.f197 2 1 0 aIs eG [.fn 167] .nil
def Dj:fB:=bV [.ptr 2 0 0,cI,cS 3,cS 3,cS 3,cS 3,cS 3,cB,cB,cB,cI,cI]
def Di:fB:=bV [cS 120,cI,cS 120,cI,cS 57,cS 67,.aC 3,cI,.mpr 4]
def aIr:ay:=⟨[eI 0,eP 1 0,eP 2 1],[kn,Dj,Di,.row 166,.mp (.int .i64) false [.int .i64]]⟩
def anc:ay:=⟨[eB 0],[kn,Dj,Di,.row 166,.mp (.int .i64) false [.int .i64]]⟩
noncomputable def avq:FD:=cp 196 Tryz.f196 3 1 5 aIr anc [.fn 166] .nil
def aIq:ay:=⟨[eS 0 3,(1,.one (.cl 196 [(0,0,0),(1,0,0)])),eI 7,eI 8],[kn,Dj,Di,.row 166,.mp (.int .i64) false [.int .i64]]⟩
def aIp:ay:=⟨[eI 4],[kn,Dj,Di,.row 166,.mp (.int .i64) false [.int .i64]]⟩
def aIo:ay:=⟨[],[kn,Dj,Di,.row 166,.mp (.int .i64) false [.int .i64]]⟩
def apX:Pc:=pL 5 26 5 524080 aIq [xR aIp,xE 0 aIo]
def anb:ay:=⟨[eS 0 3,(1,.one (.cl 196 [(0,0,0),(1,0,0)]))],[kn,Dj,Di,.row 166,.mp (.int .i64) false [.int .i64]]⟩
def aIn:ay:=⟨[eI 0],[kn,Dj,Di,.row 166,.mp (.int .i64) false [.int .i64]]⟩
noncomputable def acw:FD:=cp 141 Tryz.f141 2 1 5 anb aIn [.fn 165] (.pc apX<| .nil)
noncomputable def aqa:FD:=cp 91 Tryz.f91 2 1 5 anb anc [.fn 164] .nil
def aIm:ay:=⟨[eA 0 Dz,eA 1 qC,eS 2 3],[er,.row 166,.mp (.int .i64) false [.int .i64]]⟩
noncomputable def axK:FD:=cp 156 Tryz.f156 3 1 3 aIm pD [.fn 163,.fn 153] .nil
noncomputable def asm:FD:=cp 157 Tryz.f157 2 1 3 RK pD [.fn 98,.fn 153] .nil
noncomputable def auv:FD:=cp 159 Tryz.f159 2 1 3 RK pD [.fn 153] .nil
noncomputable def atE:FD:=cp 160 Tryz.f160 2 1 3 ang pD [.fn 152] .nil
def ana:ay:=⟨[eA 0 Dz,eI 1,eI 2],[er,.row 166,.mp (.int .i64) false [.int .i64]]⟩
noncomputable def awy:FD:=cp 161 Tryz.f161 3 1 3 ana pD [] .nil
noncomputable def avr:FD:=cp 162 Tryz.f162 3 1 3 ana pD [] .nil
noncomputable def aBA:FD:=cp 168 Tryz.f168 1 1 0 s7 eG [.fc 136 [.jj 1 [.raw,.raw,.raw,.raw,.raw,.raw,.raw,.raw,.raw,.raw,.raw,.raw,.slice 54,.slice 54,.slice 118,.slice 118,.slice 3,.slice 41,.slice 110,.slice 112,.slice 115]]] .nil
def aaX:ay:=⟨[(8,.one (cU))],[er,.row 166,.mp (.int .i64) false [.int .i64]]⟩
def aIl:ay:=⟨[eB 9],[er,.row 166,.mp (.int .i64) false [.int .i64]]⟩
def art:Pc:=pJ 3 116 3 3584 aaX [xN aIl]
def aIk:ay:=⟨[eP 3 3,eI 5],[er,.row 166,.mp (.int .i64) false [.int .i64],v0]⟩
def aIj:ay:=⟨[eI 5],[er,.row 166,.mp (.int .i64) false [.int .i64],v0]⟩
def am9:ay:=⟨[eB 4],[er,.row 166,.mp (.int .i64) false [.int .i64],v0]⟩
def arV:Pc:=pJ 3 14 4 34359738352 aIk [xN aIj,xR am9]
noncomputable def Vh:FD:=cp 163 Tryz.f163 2 1 3 AF pD [.fn 172,.fn 177] (.pc arV<| .pc art<| .nil)
noncomputable def aBB:FD:=cp 199 Tryz.f199 2 1 0 anT eG [.fn 167] .nil
def Dh:fB:=bV [.ptr 3 0 0,cI,cS 3,cS 3,cS 3,cS 3,cS 3,cB,cB,cB,cI,cI]
def Dg:fB:=bV [cS 120,cI,cS 120,cI,cS 57,cS 67,.aC 4,cI,.mpr 5]
def aIi:ay:=⟨[eI 0,eP 1 0,eP 2 1,eP 3 2],[Dh,ic,bV [cI],Dg,.row 166,.mp (.int .i64) false [.int .i64]]⟩
def am8:ay:=⟨[eB 0],[Dh,ic,bV [cI],Dg,.row 166,.mp (.int .i64) false [.int .i64]]⟩
noncomputable def auw:FD:=cp 198 Tryz.f198 4 1 6 aIi am8 [.fn 182] .nil
def aIh:ay:=⟨[eS 0 3,(1,.one (.cl 198 [(0,0,0),(1,0,0),(2,0,0)])),eI 7,eI 8],[Dh,ic,bV [cI],Dg,.row 166,.mp (.int .i64) false [.int .i64]]⟩
def aIg:ay:=⟨[eI 4],[Dh,ic,bV [cI],Dg,.row 166,.mp (.int .i64) false [.int .i64]]⟩
def aIf:ay:=⟨[],[Dh,ic,bV [cI],Dg,.row 166,.mp (.int .i64) false [.int .i64]]⟩
def apR:Pc:=pL 6 26 6 524080 aIh [xR aIg,xE 0 aIf]
def am7:ay:=⟨[eS 0 3,(1,.one (.cl 198 [(0,0,0),(1,0,0),(2,0,0)]))],[Dh,ic,bV [cI],Dg,.row 166,.mp (.int .i64) false [.int .i64]]⟩
def aIe:ay:=⟨[eI 0],[Dh,ic,bV [cI],Dg,.row 166,.mp (.int .i64) false [.int .i64]]⟩
noncomputable def acs:FD:=cp 141 Tryz.f141 2 1 6 am7 aIe [.fn 181] (.pc apR<| .nil)
noncomputable def ap4:FD:=cp 91 Tryz.f91 2 1 6 am7 am8 [.fn 180] .nil
def atf:Pc:=pJ 3 6 5 67104784 yK [xN yJ,xR AG]
def aId:ay:=⟨[eP 3 3,eP 5 4],[er,.row 166,.mp (.int .i64) false [.int .i64],v0,ic]⟩
def aIc:ay:=⟨[],[er,.row 166,.mp (.int .i64) false [.int .i64],v0,ic]⟩
def aIb:ay:=⟨[eB 4],[er,.row 166,.mp (.int .i64) false [.int .i64],v0,ic]⟩
def asw:Pc:=pJ 3 30 5 144112989052600336 aId [xN aIc,xR aIb]
def aIa:ay:=⟨[eP 2 3,eP 5 4,eS 58 54,eI 59,eI 60],[er,.row 166,.mp (.int .i64) false [.int .i64],gf,ic]⟩
def am6:ay:=⟨[eB 4],[er,.row 166,.mp (.int .i64) false [.int .i64],gf,ic]⟩
def am5:ay:=⟨[],[er,.row 166,.mp (.int .i64) false [.int .i64],gf,ic]⟩
def arN:Pc:=pL 3 250 5 75556710804409716572368 aIa [xR am6,xE 0 am5]
def aH9:ay:=⟨[eP 2 3,eP 3 4,eP 5 5],[er,.row 166,.mp (.int .i64) false [.int .i64],gf,v0,ic]⟩
def aH8:ay:=⟨[],[er,.row 166,.mp (.int .i64) false [.int .i64],gf,v0,ic]⟩
def aH7:ay:=⟨[eB 4],[er,.row 166,.mp (.int .i64) false [.int .i64],gf,v0,ic]⟩
def asv:Pc:=pJ 3 62 6 75557719610726247563472 aH9 [xN aH8,xR aH7]
def aH6:ay:=⟨[eP 2 3,eP 5 4,eS 77 118,eI 78,eI 79],[er,.row 166,.mp (.int .i64) false [.int .i64],gf,ic]⟩
def arM:Pc:=pL 3 506 5 316912045594147543059588452112 aH6 [xR am6,xE 2 am5]
noncomputable def EO:FD:=cp 164 Tryz.f164 2 1 3 AF pD [.fn 179,.fn 152,.fn 162,.fn 175] (.pc arM<| .pc asv<| .pc arN<| .pc asw<| .pc atf<| .nil)
noncomputable def axI:FD:=cp 165 Tryz.f165 2 1 3 RN pD [.fn 129,.fn 175] .nil
def aH5:ay:=⟨[eI 0,eI 1,eP 2 0],[pC,pB,.row 166,.mp (.int .i64) false [.int .i64]]⟩
noncomputable def atF:FD:=cp 200 Tryz.f200 3 1 4 aH5 AE [.fn 182] .nil
def aH4:ay:=⟨[eS 1 3,(2,.one (.cl 200 [(0,0,0)])),eS 15 3,eI 16,eI 17],[pC,pB,.row 166,.mp (.int .i64) false [.int .i64]]⟩
def aH3:ay:=⟨[eB 6],[pC,pB,.row 166,.mp (.int .i64) false [.int .i64]]⟩
def apN:Pc:=pL 4 58 4 4294837184 aH4 [xR aH3,xE 0 RM]
def aH2:ay:=⟨[eS 0 3,eS 1 3,(2,.one (.cl 200 [(0,0,0)]))],[pC,pB,.row 166,.mp (.int .i64) false [.int .i64]]⟩
noncomputable def aco:FD:=cp 201 Tryz.f201 3 1 4 aH2 AE [.fn 186] (.pc apN<| .nil)
def asu:Pc:=pJ 3 6 5 17179868944 yK [xN yJ,xR AG]
noncomputable def adQ:FD:=cp 166 Tryz.f166 2 1 3 AF pD [.fn 175,.fn 185] (.pc asu<| .nil)
def aqY:Pc:=pJ 3 13820 5 316912650057057068899199090704 yK [xN yJ,xR AG]
def aH1:ay:=⟨[eB 184],[er,.row 166,.mp (.int .i64) false [.int .i64]]⟩
def aqN:Pc:=pJ 3 884734 3 171639500576979552136134867040834628565298781684563443712 aaX [xN aH1]
def aH0:ay:=⟨[eB 193],[er,.row 166,.mp (.int .i64) false [.int .i64]]⟩
def aqD:Pc:=pJ 3 3538942 3 87879424295413530693701051924907329825432976222496483180544 aaX [xN aH0]
noncomputable def Nb:FD:=cp 102 Tryz.f102 2 1 3 AF pD [.fn 81,.fn 129,.fn 95,.fn 152,.fn 162,.fn 171,.fn 155,.fn 172,.fn 173,.fn 174,.fn 175,.fn 176,.fn 178,.fn 183,.fn 184] (.pc aqD<| .pc aqN<| .pc aqY<| .nil)
def am4:ay:=⟨[eA 0 Dz],[er,.row 166,.mp (.int .i64) false [.int .i64]]⟩
noncomputable def avp:FD:=nI [.jj 0 [.raw,.raw,.slice 3,.raw,.raw,.raw,.raw,.raw,.raw,.raw,.raw,.raw]] 167 Tryz.f167 1 1 3 am4 am4 [] .nil
def asx:Pc:=pJ 3 6 5 8796092956688 yK [xN yJ,xR AG]
def aHZ:ay:=⟨[eP 2 3,eS 44 3,eI 45,eI 46],[er,.row 166,.mp (.int .i64) false [.int .i64],gf]⟩
def aHY:ay:=⟨[],[er,.row 166,.mp (.int .i64) false [.int .i64],gf]⟩
def arP:Pc:=pL 3 58 4 576390383559245888 aHZ [xE 0 aHY]
def ar0:Pc:=pJ 3 14 5 576451956210401344 yK [xN yJ]
def aHX:ay:=⟨[eP 7 3,eP 8 4,eS 66 110,eI 67,eI 68],[er,.row 166,.mp (.int .i64) false [.int .i64],gf,gf]⟩
def aHW:ay:=⟨[eB 4],[er,.row 166,.mp (.int .i64) false [.int .i64],gf,gf]⟩
def aHV:ay:=⟨[],[er,.row 166,.mp (.int .i64) false [.int .i64],gf,gf]⟩
def aro:Pc:=pL 3 506 5 38685331079762954237772816 aHX [xR aHW,xE 2 aHV]
def aHU:ay:=⟨[eP 3 3,eP 7 4,eP 8 5],[er,.row 166,.mp (.int .i64) false [.int .i64],v0,gf,gf]⟩
def aHT:ay:=⟨[],[er,.row 166,.mp (.int .i64) false [.int .i64],v0,gf,gf]⟩
def aHS:ay:=⟨[eB 4],[er,.row 166,.mp (.int .i64) false [.int .i64],v0,gf,gf]⟩
def arw:Pc:=pJ 3 126 6 38685589334179986171495440 aHU [xN aHT,xR aHS]
def aHR:ay:=⟨[eP 2 3,eP 3 4,eI 12,eP 13 5],[er,.row 166,.mp (.int .i64) false [.int .i64],gf,v0,v227]⟩
def aHQ:ay:=⟨[],[er,.row 166,.mp (.int .i64) false [.int .i64],gf,v0,v227]⟩
def aHP:ay:=⟨[eB 4],[er,.row 166,.mp (.int .i64) false [.int .i64],gf,v0,v227]⟩
def aqF:Pc:=pJ 3 2096434 6 170141173319264429905852091742258462736 aHR [xN aHQ,xR aHP]
def aHO:ay:=⟨[(11,.one (.mpr 3)),eS 128 3,eI 129,eI 130],[er,.row 166,.mp (.int .i64) false [.int .i64],.mp (.int .i64) false [.bool]]⟩
def aHN:ay:=⟨[eB 4],[er,.row 166,.mp (.int .i64) false [.int .i64],.mp (.int .i64) false [.bool]]⟩
def aHM:ay:=⟨[],[er,.row 166,.mp (.int .i64) false [.int .i64],.mp (.int .i64) false [.bool]]⟩
def aqB:Pc:=pL 3 16771482 4 1392435445440480192492128893610795521310736 aHO [xR aHN,xE 6 aHM]
def aHL:ay:=⟨[eP 2 3,eP 3 4,(11,.one (.mpr 5)),eS 96 112,eI 97,eI 98],[er,.row 166,.mp (.int .i64) false [.int .i64],gf,v0,.mp (.int .i64) false [.bool]]⟩
def aHK:ay:=⟨[eB 4],[er,.row 166,.mp (.int .i64) false [.int .i64],gf,v0,.mp (.int .i64) false [.bool]]⟩
def aHJ:ay:=⟨[],[er,.row 166,.mp (.int .i64) false [.int .i64],gf,v0,.mp (.int .i64) false [.bool]]⟩
def aqV:Pc:=pL 3 16378 6 89202980794122175653492816033243071848165392 aHL [xR aHK,xE 4 aHJ]
noncomputable def xU:FD:=cp 103 Tryz.f103 2 1 3 AF pD [.fn 134,.fn 73,.fn 81,.fn 188] (.pc aqV<| .pc aqB<| .pc aqF<| .pc arw<| .pc aro<| .pc ar0<| .pc arP<| .pc asx<| .nil)
def aHI:ay:=⟨[eP 3 3],[er,.row 166,.mp (.int .i64) false [.int .i64],v0]⟩
def aHH:ay:=⟨[],[er,.row 166,.mp (.int .i64) false [.int .i64],v0]⟩
def arZ:Pc:=pJ 3 6 4 17179867152 aHI [xN aHH,xR am9]
def aHG:ay:=⟨[(58,.one (cU))],[er,.row 166,.mp (.int .i64) false [.int .i64]]⟩
def aHF:ay:=⟨[eB 76],[er,.row 166,.mp (.int .i64) false [.int .i64]]⟩
def aqz:Pc:=pJ 3 16593878 3 528905046081400263933952 aHG [xN aHF]
def aHE:ay:=⟨[eP 2 3,eP 7 4,eP 8 5,(9,.one (cU))],[er,.row 166,.mp (.int .i64) false [.int .i64],gf,KK,gf]⟩
def aHD:ay:=⟨[(9,.one (cU))],[er,.row 166,.mp (.int .i64) false [.int .i64],gf,KK,gf]⟩
def aHC:ay:=⟨[eB 4],[er,.row 166,.mp (.int .i64) false [.int .i64],gf,KK,gf]⟩
def aqE:Pc:=pJ 3 518558 6 85070591730234615865555421481790341648 aHE [(.normal,[.nP (λenv M=>5) 4 3],aHD),xR aHC]
def aHB:ay:=⟨[eP 2 3,(5,.one (.mpr 4)),eS 44 115,eI 45,eI 46],[er,.row 166,.mp (.int .i64) false [.int .i64],gf,.mp (.int .u8) false [.int .i64]]⟩
def aHA:ay:=⟨[eB 4],[er,.row 166,.mp (.int .i64) false [.int .i64],gf,.mp (.int .u8) false [.int .i64]]⟩
def aHz:ay:=⟨[],[er,.row 166,.mp (.int .i64) false [.int .i64],gf,.mp (.int .u8) false [.int .i64]]⟩
def aq2:Pc:=pL 3 506 5 11150372599265311570767859136253812008813456 aHB [xR aHA,xE 0 aHz]
def aHy:ay:=⟨[(5,.one (.mpr 3)),eI 10],[er,.row 166,.mp (.int .i64) false [.int .i64],.mp (.int .u8) false [.int .i64]]⟩
def aHx:ay:=⟨[eI 10],[er,.row 166,.mp (.int .i64) false [.int .i64],.mp (.int .u8) false [.int .i64]]⟩
def aq8:Pc:=pJ 3 510 4 1382646202308898634775214532904198413370786816 aHy [xN aHx]
noncomputable def EC:FD:=cp 104 Tryz.f104 2 1 3 AF pD [.fn 134,.fn 190,.fn 171,.fn 172,.fn 183,.fn 177] (.pc aq8<| .pc aq2<| .pc aqE<| .pc aqz<| .pc arZ<| .nil)
def aHw:ay:=⟨[eS 0 3],[]⟩
noncomputable def avo:FD:=cp 169 Tryz.f169 1 1 0 aHw GQ [] .nil
noncomputable def asW:FD:=nI [.mk 0 3] 169 Tryz.f169 1 1 0 anx GQ [] .nil
noncomputable def asV:FD:=cp 169 Tryz.f169 1 1 0 anw GQ [] .nil
noncomputable def aBz:FD:=cp 107 Tryz.f107 2 1 0 S0 GQ [.Sf 3 192 193 194] .nil
def aOt:List eK:=[.ptr 0 0 0,cI,cS 3,cS 3,.aC 3,cS 3,cS 3,cB,cB,cB,cI,cI]
def aHv:ay:=⟨[eA 0 aOt],[er,.row 166,.mp (.int .i64) false [.int .i64],.row 3]⟩
noncomputable def asn:FD:=cp 105 Tryz.f105 2 1 3 RN aHv [.fn 191,.fn 188] .nil
def aOs:List eK:=[.ptr 0 0 0,cI,cS 3,cS 3,cS 3,.aC 3,cS 3,cB,cB,cB,cI,cI]
def aHu:ay:=⟨[eA 0 aOs],[er,.row 166,.mp (.int .i64) false [.int .i64],.row 3]⟩
noncomputable def auy:FD:=cp 106 Tryz.f106 2 1 3 RN aHu [.fn 191,.fn 188] .nil
def aHt:ay:=⟨[eA 0 h6,eP 1 0],[pC,pB,.row 166,.mp (.int .i64) false [.int .i64]]⟩
noncomputable def auu:FD:=cp 109 Tryz.f109 2 1 4 aHt AE [.fn 134] .nil
def aHs:ay:=⟨[eS 0 41,(1,.one (.cl 109 [(0,0,0)])),eI 7,eI 8],[pC,pB,.row 166,.mp (.int .i64) false [.int .i64]]⟩
def apJ:Pc:=pL 4 26 4 524080 aHs [xR aa0,xE 0 RM]
def am3:ay:=⟨[eS 0 41,(1,.one (.cl 109 [(0,0,0)]))],[pC,pB,.row 166,.mp (.int .i64) false [.int .i64]]⟩
noncomputable def ach:FD:=cp 170 Tryz.f170 2 1 4 am3 aaZ [.fn 198] (.pc apJ<| .nil)
noncomputable def apP:FD:=cp 108 Tryz.f108 2 1 4 am3 AE [.fn 197] .nil
def ast:Pc:=pJ 3 14 5 8796092989456 yK [xN yJ,xR AG]
def ass:Pc:=pJ 3 62 5 44601490397061246283071436545155985523605616 yK [(.normal,[.nP (λenv M=>3) 2 3,.nP (λenv M=>3) 3 3,.nP (λenv M=>3) 6 3],yJ),xR AG]
noncomputable def Vx:FD:=cp 44 Tryz.f44 2 1 3 AF pD [.fn 134,.fc 134 [.jj 0 [.raw,.raw,.raw,.raw,.slice 3,.raw,.raw,.raw,.raw,.raw,.raw,.raw]],.fc 134 [.jj 0 [.raw,.raw,.raw,.raw,.raw,.slice 3,.raw,.raw,.raw,.raw,.raw,.raw]],.fn 135,.fn 149,.fn 151,.fn 187,.fn 189,.fn 190,.fn 195,.fn 191,.fn 196] (.pc ass<| .pc ast<| .nil)
def azR:Pc:=pJ 0 6 1 288230376151580676 DK [xN ⟨[],[v12]⟩,xR vR]
def aHr:ay:=⟨[eS 59 57,eI 60,eI 61],[]⟩
def ay0:Pc:=pL 0 58 0 1237940036979537265685430292 aHr [xR s30,xE 0 ⟨[],[]⟩]
def ay8:Pc:=pJ 0 14 1 1237940038997149898747412500 DK [xN ⟨[],[v12]⟩,xR vR]
def aHq:ay:=⟨[eP 9 0],[AA]⟩
def auY:Pc:=pJ 0 130354 1 85065399433376081038215121361612832772 aHq [xN anK,xR anJ]
def aHp:ay:=⟨[eP 1 0,eP 9 1,eS 127 54,eI 128,eI 129],[v12,AA]⟩
def auG:Pc:=pL 0 521422 2 2923003273981241102565492738505816824448328677380 aHp [xR anI,xE 4 anH]
def aHo:ay:=⟨[eP 1 0,eS 106 67,eI 107,eI 108],[v12]⟩
def awW:Pc:=pL 0 1018 1 5846006549323611348296185672438405295467709610500 aHo [xR vR,xE 2 ⟨[],[v12]⟩]
def ayj:Pc:=pJ 0 254 1 5846006549323611632249920123561791230729227614724 DK [xN ⟨[],[v12]⟩,xR vR]
def RE:fB:=bV [cS 120,cI,cS 120,cI,cS 57,cS 67,.aC 2,cI,.mpr 1]
def aHn:ay:=⟨[eP 7 0,eS 163 57,eI 164,eI 165],[RE,.mp (.int .i64) false [.int .i64],.row 166]⟩
def am2:ay:=⟨[eB 2],[RE,.mp (.int .i64) false [.int .i64],.row 166]⟩
def am1:ay:=⟨[],[RE,.mp (.int .i64) false [.int .i64],.row 166]⟩
def awV:Pc:=pL 0 2042 2 383077117164077625696204238872930374848055790704574468 aHn [xR am2,xE 6 am1]
def aHm:ay:=⟨[eP 7 0,eI 180,eI 181],[RE,.mp (.int .i64) false [.int .i64],.row 166]⟩
def awU:Pc:=pL 0 4090 2 100430562775105160443655914077268362039270449633180185067524 aHm [xR am2,xE 8 am1]
noncomputable def wJ:FD:=cp 13 Tryz.f13 1 1 0 DJ eG [.fn 72,.fn 77,.fn 82,.fn 98,.fn 128,.fc 134 [.jj 0 [.raw,.raw,.slice 3,.slice 3,.slice 3,.slice 3,.slice 3,.raw,.raw,.raw,.raw,.raw]]] (.pc awU<| .pc awV<| .pc ayj<| .pc awW<| .pc auG<| .pc auY<| .pc ay8<| .pc ay0<| .pc azR<| .nil)
def aHl:ay:=⟨[(0,.one (.cl 89 [(0,0,0)]))],[v0]⟩
noncomputable def aAn:FD:=cp 36 Tryz.f36 1 1 0 s7 aHl [] .nil
noncomputable def B5:List Cl:=[.fn 200,.fn 201]
noncomputable def EF:YF:=yU CX Tryz.f35 yNo .nil 0 30
def yG:fB:=bV [.cl 35 [(0,0,0),(1,0,0)]]
def aHk:ay:=⟨[(0,.one (.iB 3)),eS 12 110,eI 13,eI 14],[bV [.aC 4],yG,.gone,.loop 0 [eP 2 1] none,.row 41]⟩
def RJ:ay:=⟨[],[bV [.aC 4],yG,.gone,.loop 0 [eP 2 1] none,.row 41]⟩
def acV:Pc:=pL 3 10 4 2147467280 aHk [xE 0 RJ]
noncomputable def adh:lM:= .pc acV lM.nil
def am0:ay:=⟨[(0,.one (.iB 3)),eP 1 4],[bV [.aC 5],yG,.gone,.loop 0 [eP 2 1] none,v0,.row 41]⟩
def amZ:ay:=⟨[],[bV [.aC 5],yG,.gone,.loop 0 [eP 2 1] none,v0,.row 41]⟩
def ac8:Pc:=pJ 3 2 5 2147481616 am0 [xN amZ]
noncomputable def adg:lM:= .pc ac8 adh
def aHj:ay:=⟨[(0,.one (.iB 3)),eS 32 41,eI 33,eI 34],[bV [.aC 4],yG,.gone,.loop 0 [eP 2 1] none,.row 41]⟩
def acU:Pc:=pL 3 26 4 8778913153088 aHj [xE 2 RJ]
noncomputable def adf:lM:= .pc acU adg
def ac7:Pc:=pJ 3 6 5 8793945538624 am0 [xN amZ]
noncomputable def ade:lM:= .pc ac7 adf
def aHi:ay:=⟨[(0,.one (.iB 3)),eS 44 112,eI 45,eI 46],[bV [.aC 4],yG,.gone,.loop 0 [eP 2 1] none,.row 41]⟩
def acT:Pc:=pL 3 58 4 71987225293750528 aHi [xE 4 RJ]
noncomputable def adb:lM:= .pc acT ade
def aHh:ay:=⟨[(0,.one (.iB 3)),eS 57 115,eI 58,eI 59],[bV [.aC 4],yG,.gone,.loop 0 [eP 2 1] none,.row 41]⟩
def acS:Pc:=pL 3 62 4 75557287265162019996672 aHh [xE 6 RJ]
noncomputable def ati:lM:= .pc acS adb
def aHg:ay:=⟨[eA 0 h6,eP 1 0,eP 2 1],[bV [.aC 2],yG,.row 41]⟩
def aHf:ay:=⟨[],[bV [.aC 3],yG,.gone,.row 41]⟩
noncomputable def aA4:FD:=cp 35 Tryz.f35 3 0 3 aHg aHf B5 (.rg 30 0 [2] 89 Tryz.f89 ati<| .nil)
def amH:fB:=bV [.cl 35 [(1,0,0),(0,0,0)]]
def aHe:ay:=⟨[eP 4 0,eS 12 57,eI 13,eI 14],[amH,bV [.aC 2],.row 41]⟩
def aHd:ay:=⟨[],[amH,bV [.aC 2],.row 41]⟩
def ax1:Pc:=eh [.tF (λenv M=>(((M.getD ((aA.look env 4).id) .dead).cells.getD 0 .top).fL.getD 0 .top).id) 0 41] (pL 0 506 2 8372288 aHe [xE 0 aHd])
noncomputable def agO:FD:=nI [.mk 0 41] 10 Tryz.f10 1 1 0 DJ s8 [.fn 71,.fn 200] (.pc ax1<| .nil)
def amY:ay:=⟨[eI 1,eP 2 0],[v12]⟩
def amX:ay:=⟨[eB 4],[v12]⟩
def auU:Pc:=pJ 0 6 1 2096656 amY [xN ⟨[],[v12]⟩,xR amX]
def aHc:ay:=⟨[eI 1,eO 5 0],[.row 41]⟩
def amW:ay:=⟨[],[.row 41]⟩
def aHb:ay:=⟨[eB 4],[.row 41]⟩
def at2:Pc:=pJ 0 30 1 8581546000 aHc [xN amW,xR aHb]
def aHa:ay:=⟨[eP 7 0,eP 8 1],[v12,v12]⟩
def aG9:ay:=⟨[eB 4],[v12,v12]⟩
def asr:Pc:=eh [.nP (λenv M=>(aA.look env 7).id) 2 57,.nP (λenv M=>(aA.look env 8).id) 2 57] (pJ 0 4094 2 2475275615660953235210895376 aHa [xN aG9])
def amV:ay:=⟨[eA 0 iL,eI 1],[]⟩
noncomputable def kr:FD:=cp 4 Tryz.f4 2 1 0 amV eG [.fn 1,.fn 4,.fc 4 [.jj 0 [.raw,.raw,.slice 57,.raw]],.fc 199 [.jj 0 [.raw,.raw,.slice 57,.raw]],.fn 62,.fn 71,.fc 71 [.jj 0 [.raw,.raw,.slice 57,.raw]],.fc 69 [.jj 2 [.raw,.raw,.raw,.raw,.raw,.raw,.raw,.raw,.raw,.raw,.raw,.raw,.slice 54,.slice 54,.slice 118,.slice 118,.slice 3,.raw,.slice 110,.slice 112,.slice 115]],.fc 42 [.jj 1 [.raw,.raw,.raw,.raw,.raw,.raw,.raw,.raw,.raw,.raw,.raw,.raw,.slice 54,.slice 54,.slice 118,.slice 118,.slice 3,.slice 41,.slice 110,.slice 112,.slice 115]],.known 9] (.pc asr<| .pc at2<| .pc auU<| .nil)
def aG8:ay:=⟨[eO 3 0,eI 4],[.row 41]⟩
def aG7:ay:=⟨[eB 2],[.row 41]⟩
def avD:Pc:=pL 0 122 1 134152212 aG8 [xR aG7,xE 0 amW]
noncomputable def afW:FD:=cp 12 Tryz.f12 1 1 0 s7 eG [.fn 203,.fn 3] (.pc avD<| .nil)
def auT:Pc:=pJ 0 6 1 262096 amY [xN ⟨[],[v12]⟩,xR amX]
noncomputable def We:FD:=cp 3 Tryz.f3 2 1 0 amV eG [.fn 1,.fn 4,.fn 199,.fn 62,.fn 203,.fc 71 [.jj 0 [.raw,.raw,.slice 57,.raw]],.fc 69 [.jj 2 [.raw,.raw,.raw,.raw,.raw,.raw,.raw,.raw,.raw,.raw,.raw,.raw,.slice 54,.slice 54,.slice 118,.slice 118,.slice 3,.slice 41,.slice 110,.slice 112,.slice 115]],.known 9] (.pc auT<| .nil)
end
end Go.Proofs.YtomkobcipaligaaGreatDoor
namespace Go.Proofs.YtomkobcipaligaaGreatDoor
open Go Go.aA
abbrev xW:=cP aAx 0
abbrev BN:=cP azK 0
abbrev nL:=cP B0 0
abbrev UQ:=cP awE 0
abbrev dJ:=cP dG 0
abbrev NP:=cP aBa 0
abbrev No:=cP azJ 0
abbrev aew:=cP aAw 0
abbrev Nw:=cP aAv 0
abbrev oH:=cP azI 0
abbrev VM:=cP azH 0
abbrev adS:=cP ayS 0
abbrev jF:=cP ayR 0
abbrev aAu:=cP aCs 0
abbrev aAt:=cP aCr 0
abbrev fw:=cP aCq 0
abbrev ba:=cP aCp 0
abbrev aAs:=cP aCo 0
abbrev aF:=cP aCn 0
abbrev oI:=cP aCm 0
abbrev eY:=cP aCl 0
abbrev nN:=cP aCk 0
abbrev aAr:=cP aCj 0
abbrev zR:=cP aCi 0
end Go.Proofs.YtomkobcipaligaaGreatDoor
namespace Go.Proofs.YtomkobcipaligaaGreatDoor
open Go Go.aA
set_option maxRecDepth 100000
noncomputable section
def EE:List FD:=[kr,XG,agq,Fm,tZ,W3,OD,afS,qG,afQ,aih,aD6,XY,Fz,OE,aB1,aB3,aBy,Fl,Fj,ago,Xj,Ob,ye,zV,VS,afU,Nr,afw,ND,XE,NU,aAl,azx,awu,aB2,afR,aur,axG,awt,ayJ,NC,xX,agp,azw,afT,agN,agn,BX,aA3,aAk,It,wI,ayI,Fk,aus,axH,ac9,kr,NB,kr,kr,ahD,kr,afV,kr,kr,kr,kr,WE,uc,wJ,IN,afy,aqk,acE,axO,sG,MW,ayK,awv,afx,ayN,afX,EP,Xl,azF,azE,azD,azB,azC,azA,auq,asl,asj,avs,axM,aB7,awz,aBC,Oc,W4,kr,ayL,aww,kr,kr,kr,kr,MV,aqy,aqu,kr,kr,kr,kr,kr,kr,kr,kr,kr,kr,kr,kr,kr,kr,T9,UG,Xk,asU,adO,aql,acF,azz,Vx,Jc,IH,acC,ayO,adP,acx,axN,acB,acu,awC,acf,awB,acy,awA,M6,afz,Nb,EI,awx,ad8,axJ,apQ,aci,aut,apW,acn,atD,axK,aqa,acw,avq,axL,aAm,aqo,acH,ayM,asm,auv,atE,awy,avr,Vh,aBA,EO,ap4,acs,auw,aBB,axI,adQ,aco,atF,xU,avp,EC,asn,aBz,avo,asW,asV,auy,apP,ach,auu,agO,aA4,aAn,We,afW]
def NJ:=da CX EE Fm 4
def Wr:=ck CX EE Fm 3
def Nv:=da CX EE Fm 2
def NM:=ck CX EE Fm 1
def BR:=da CX EE Fm 0
def NI:=da CX EE agq 0
def W6:=ck CX EE XG 1
def IM:=da CX EE XG 0
def IJ:=da CX EE afS 0
def WL:=ck CX EE OD 2
def Wi:=ck CX EE OD 1
def IB:=da CX EE OD 0
def Wp:=ck CX EE W3 1
def Iv:=da CX EE W3 0
def OU:=da CX EE aih 0
def NF:=da CX EE afQ 0
def NX:=da CX EE qG 13
def WK:=ck CX EE qG 12
def ER:=da CX EE qG 11
def E0:=da CX EE qG 10
def N3:=ck CX EE qG 9
def UX:=ck CX EE qG 8
def Ur:=ck CX EE qG 7
def Uj:=ck CX EE qG 6
def ED:=da CX EE qG 5
def BL:=da CX EE qG 4
def EZ:=da CX EE qG 3
def N2:=ck CX EE qG 2
def Iu:=da CX EE qG 1
def II:=da CX EE qG 0
def af1:=ck CX EE XY 1
def NW:=da CX EE XY 0
def VW:=ck CX EE OE 2
def U0:=ck CX EE OE 1
def Wn:=ck CX EE OE 0
def WQ:=ck CX EE Fl 4
def VY:=ck CX EE Fl 3
def VX:=ck CX EE Fl 2
def VC:=ck CX EE Fl 1
def VB:=ck CX EE Fl 0
def NY:=da CX EE ago 0
def Wm:=ck CX EE Fj 4
def adR:=ck CX EE Fj 3
def UZ:=ck CX EE Fj 2
def BG:=da CX EE Fj 1
def BP:=da CX EE Fj 0
def afh:=ck CX EE Xj 1
def ES:=da CX EE Xj 0
def Wh:=ck CX EE Fz 4
def wG:=da CX EE Fz 3
def Of:=ck CX EE Fz 2
def Vy:=ck CX EE Fz 1
def Uq:=ck CX EE Fz 0
def VZ:=ck CX EE Ob 2
def Wo:=ck CX EE Ob 1
def Ns:=da CX EE Ob 0
def UY:=ck CX EE zV 6
def Us:=ck CX EE zV 5
def WM:=ck CX EE zV 4
def Wl:=ck CX EE zV 3
def Wk:=ck CX EE zV 2
def Wj:=ck CX EE zV 1
def VT:=ck CX EE zV 0
def WO:=ck CX EE afU 0
def Vo:=ck CX EE VS 1
def U2:=ck CX EE VS 0
def WS:=ck CX EE XE 1
def WR:=ck CX EE XE 0
def aev:=ck CX EE NU 2
def ad9:=ck CX EE NU 1
def Ip:=da CX EE NU 0
def M8:=da CX EE ND 2
def Vp:=ck CX EE ND 1
def Ik:=da CX EE ND 0
def NG:=da CX EE afR 0
def Nl:=da CX EE afw 0
def NZ:=da CX EE agp 0
def NH:=da CX EE afT 0
def Od:=da CX EE agN 0
def NV:=da CX EE agn 0
def V0:=ck CX EE xX 7
def VF:=ck CX EE xX 6
def VE:=ck CX EE xX 5
def Nf:=da CX EE xX 4
def VD:=ck CX EE xX 3
def Nd:=da CX EE xX 2
def Vk:=ck CX EE xX 1
def M7:=da CX EE xX 0
def Vn:=ck CX EE NC 2
def Vm:=ck CX EE NC 1
def zM:=da CX EE NC 0
def V1:=ck CX EE BX 5
def Nn:=ck CX EE BX 4
def Ng:=da CX EE BX 3
def VG:=ck CX EE BX 2
def MQ:=da CX EE BX 1
def EJ:=da CX EE BX 0
def U3:=ck CX EE It 3
def UI:=ck CX EE It 2
def UH:=ck CX EE It 1
def Ew:=da CX EE It 0
def Uk:=ck CX EE Nr 2
def Uc:=ck CX EE Nr 1
def T6:=ck CX EE Nr 0
def W5:=ck CX EE wI 8
def NK:=ck CX EE wI 7
def xY:=da CX EE wI 6
def WG:=ck CX EE wI 5
def N1:=ck CX EE wI 4
def IF:=ck CX EE wI 3
def Vj:=ck CX EE wI 2
def Ij:=da CX EE wI 1
def zO:=da CX EE wI 0
def WN:=ck CX EE Fk 4
def Ix:=ck CX EE Fk 3
def U1:=ck CX EE Fk 2
def tU:=da CX EE Fk 1
def BT:=ck CX EE Fk 0
def H6:=ck CX EE ac9 0
def OF:=ck CX EE ye 7
def IZ:=ck CX EE ye 6
def NL:=ck CX EE ye 5
def VV:=ck CX EE ye 4
def VA:=ck CX EE ye 3
def VU:=ck CX EE ye 2
def Vz:=ck CX EE ye 1
def zQ:=da CX EE ye 0
def Ii:=da CX EE NB 2
def Vi:=ck CX EE NB 1
def Nc:=da CX EE NB 0
def XI:=ck CX EE tZ 10
def IW:=da CX EE tZ 9
def OG:=ck CX EE tZ 8
def Wq:=ck CX EE tZ 7
def BQ:=da CX EE tZ 6
def BZ:=da CX EE tZ 5
def Og:=ck CX EE tZ 4
def BY:=da CX EE tZ 3
def WT:=ck CX EE tZ 2
def IL:=da CX EE tZ 1
def IK:=da CX EE tZ 0
def Nu:=da CX EE afV 0
def Oe:=da CX EE ahD 0
def Oh:=ck CX EE uc 10
def B2:=da CX EE uc 9
def Xm:=ck CX EE uc 8
def N6:=ck CX EE uc 7
def Fa:=da CX EE uc 6
def OH:=ck CX EE uc 5
def N5:=ck CX EE uc 4
def E9:=da CX EE uc 3
def Oi:=ck CX EE uc 2
def N4:=ck CX EE uc 1
def xZ:=da CX EE uc 0
def Nh:=ck CX EE WE 1
def Iw:=da CX EE WE 0
def IE:=da CX EE afy 0
def H4:=da CX EE acE 0
def V5:=ck CX EE IN 3
def UN:=ck CX EE IN 2
def UA:=ck CX EE IN 1
def BJ:=da CX EE IN 0
def Ui:=ck CX EE MW 2
def Ua:=ck CX EE MW 1
def H7:=da CX EE MW 0
def BS:=da CX EE afx 0
def EL:=da CX EE sG 11
def E1:=da CX EE sG 10
def NO:=ck CX EE sG 9
def Ug:=ck CX EE sG 8
def T2:=ck CX EE sG 7
def Eu:=da CX EE sG 6
def BF:=da CX EE sG 5
def EK:=da CX EE sG 4
def EU:=da CX EE sG 3
def NN:=ck CX EE sG 2
def Iq:=da CX EE sG 1
def ID:=da CX EE sG 0
def IC:=da CX EE afX 0
def VI:=ck CX EE Xl 1
def UP:=ck CX EE Xl 0
def Wv:=ck CX EE Oc 2
def V7:=ck CX EE Oc 1
def VJ:=ck CX EE Oc 0
def Ep:=da CX EE T9 1
def H5:=da CX EE T9 0
def Wu:=ck CX EE W4 1
def uX:=da CX EE W4 0
def ac6:=ck CX EE UG 1
def Et:=da CX EE UG 0
def UM:=ck CX EE EP 4
def Uf:=ck CX EE EP 3
def wD:=da CX EE EP 2
def MY:=ck CX EE EP 1
def T5:=ck CX EE EP 0
def MN:=da CX EE adO 0
def MC:=da CX EE acF 0
def V4:=ck CX EE Xk 1
def Ws:=ck CX EE Xk 0
def MB:=da CX EE acC 0
def MO:=da CX EE adP 0
def Mw:=da CX EE acx 0
def MA:=da CX EE acB 0
def Mu:=da CX EE acu 0
def Mq:=da CX EE acf 0
def My:=da CX EE acy 0
def Vq:=ck CX EE IH 3
def U7:=ck CX EE IH 2
def U6:=ck CX EE IH 1
def VK:=ck CX EE IH 0
def Uz:=ck CX EE Jc 3
def Ue:=ck CX EE Jc 2
def V3:=ck CX EE Jc 1
def V2:=ck CX EE Jc 0
def V6:=ck CX EE afz 0
def Uu:=ck CX EE M6 2
def Ud:=ck CX EE M6 1
def Um:=ck CX EE M6 0
def Eo:=da CX EE aci 0
def U4:=ck CX EE ad8 0
def HZ:=da CX EE acn 0
def Uw:=ck CX EE EI 4
def Uv:=ck CX EE EI 3
def BE:=ck CX EE EI 2
def T4:=ck CX EE EI 1
def MI:=ck CX EE EI 0
def MF:=da CX EE acH 0
def H3:=da CX EE acw 0
def Ul:=ck CX EE Vh 1
def Ut:=ck CX EE Vh 0
def H2:=da CX EE acs 0
def U5:=ck CX EE EO 4
def MX:=ck CX EE EO 3
def MR:=da CX EE EO 2
def UK:=ck CX EE EO 1
def EA:=da CX EE EO 0
def Mt:=da CX EE aco 0
def UJ:=ck CX EE adQ 0
def T7:=ck CX EE Nb 2
def T3:=ck CX EE Nb 1
def T0:=ck CX EE Nb 0
def UL:=ck CX EE xU 7
def EB:=da CX EE xU 6
def Uy:=ck CX EE xU 5
def H9:=da CX EE xU 4
def Un:=ck CX EE xU 3
def T1:=ck CX EE xU 2
def Er:=da CX EE xU 1
def Es:=da CX EE xU 0
def Ux:=ck CX EE EC 4
def TZ:=ck CX EE EC 3
def BB:=ck CX EE EC 2
def xT:=da CX EE EC 1
def MJ:=ck CX EE EC 0
def Mr:=da CX EE ach 0
def Ie:=ck CX EE Vx 1
def wE:=ck CX EE Vx 0
def Xn:=ck CX EE wJ 8
def IY:=da CX EE wJ 7
def Oj:=ck CX EE wJ 6
def VL:=ck CX EE wJ 5
def BM:=da CX EE wJ 4
def E4:=da CX EE wJ 3
def N7:=ck CX EE wJ 2
def E3:=da CX EE wJ 1
def E2:=da CX EE wJ 0
def MT:=LD CX EE B5 Tryz.f89 EF acV lM.nil
def M3:=ctU CX EE B5 Tryz.f89 EF ac8 adh
def MS:=LD CX EE B5 Tryz.f89 EF acU adg
def MZ:=ctU CX EE B5 Tryz.f89 EF ac7 adf
def Ib:=LD CX EE B5 Tryz.f89 EF acT ade
def Ia:=LD CX EE B5 Tryz.f89 EF acS adb
def N0:=da CX EE agO 0
def ET:=da CX EE afW 0
def VH:=ck CX EE We 0
abbrev aJ:Type:=Option UO
inductive Qm
 |mD(l:bl)
 |Wg(l:bl)
 |bS(l:bl)
 |oc(l:bl)
 |av(l:bl)
 |gW(l:bl)
 |eE(l:bl)
 |bL(l:bl)
 |mC(l:bl)
 |bG(l:bl)
 |mS(l:bl)
 |IA(l:bl)
 |cO(l:bl)
 |ae(l:bl)
 |aN(l:bl)
 |c9
 |bY
 |abi
 |bQ(n:Nat)
 |bp(i:Int)(l:aW)(k:Option UO)
 |aU(a b:Int)
 |cg(a b:Int)
 |dH(a b:Nat)
 |lV(a b:Nat)
 |xy(l:aW)
 |zl(l m:aW)
 |aD(l:aW)(i:Int)
 |cC(i:Int)
 |cy
instance (l:bl):CoeDep Qm (.mD l) AV:=⟨.agg (xW l)⟩
instance (l:bl):CoeDep Qm (.Wg l) AV:=⟨.agg (BN l)⟩
instance (l:bl):CoeDep Qm (.bS l) AV:=⟨.agg (nL l)⟩
instance (l:bl):CoeDep Qm (.oc l) AV:=⟨.agg (UQ l)⟩
instance (l:bl):CoeDep Qm (.av l) AV:=⟨.agg (dJ l)⟩
instance (l:bl):CoeDep Qm (.gW l) AV:=⟨.agg (NP l)⟩
instance (l:bl):CoeDep Qm (.eE l) AV:=⟨.agg (No l)⟩
instance (l:bl):CoeDep Qm (.bL l) AV:=⟨.agg (aew l)⟩
instance (l:bl):CoeDep Qm (.mC l) AV:=⟨.agg (Nw l)⟩
instance (l:bl):CoeDep Qm (.bG l) AV:=⟨.agg (oH l)⟩
instance (l:bl):CoeDep Qm (.mS l) AV:=⟨.agg (VM l)⟩
instance (l:bl):CoeDep Qm (.IA l) AV:=⟨.agg (adS l)⟩
instance (l:bl):CoeDep Qm (.cO l) AV:=⟨.agg (jF l)⟩
instance (l:bl):CoeDep Qm (.ae l) (Option UO):=⟨some (0,l)⟩
instance (l:bl):CoeDep Qm (.aN l) (Option UO):=⟨some (1,l)⟩
instance:CoeDep Qm (.c9 ) (Option UO):=⟨some (0,[.bool true])⟩
instance:CoeDep Qm (.bY ) (Option UO):=⟨some (0,[.bool false])⟩
instance:CoeDep Qm (.abi ) (Option UO):=⟨some (1,[.bool false])⟩
instance (n:Nat):CoeDep Qm (.bQ n) Bool:=⟨Nat.beq n 0⟩
instance (i:Int)(l:aW)(k:Option UO):CoeDep Qm (.bp i l k) (Option UO):=⟨aR (ib i l.length) k⟩
instance (a b:Int):CoeDep Qm (.aU a b) Bool:=⟨decide (a<b)⟩
instance (a b:Int):CoeDep Qm (.cg a b) Bool:=⟨decide (a<=b)⟩
instance (a b:Nat):CoeDep Qm (.dH a b) Bool:=⟨decide (a<b)⟩
instance (a b:Nat):CoeDep Qm (.lV a b) Bool:=⟨decide (a<=b)⟩
instance (l:aW):CoeDep Qm (.xy l) Bool:=⟨decide ((0+l.length)*8<=140737488355328)⟩
instance (l m:aW):CoeDep Qm (.zl l m) Bool:=⟨decide ((l.length+m.length)*8<=140737488355328)⟩
instance (l:aW)(i:Int):CoeDep Qm (.aD l i) bl:=⟨gA l i.toNat⟩
instance (i:Int):CoeDep Qm (.cC i) AV:=⟨iI (bw (i+1))⟩
instance:CoeDep Qm (.cy ) aW:=⟨[]⟩
end
end Go.Proofs.YtomkobcipaligaaGreatDoor
namespace Go.aA
open Go
def agv{zs:cW}{i:Nat}{row:Row}(h:(om zs)[i]?=some row):∃z,zs[i]?=some z∧row=[AV.int .i64 z]:=by
 unfold om at h;rw [iT]at h;cases hz:zs[i]? with
 |none=>rw [hz]at h;cases h
 |some z=>rw [hz]at h;injection h with h;exact⟨z,rfl,h.symm⟩
def OW(zs:cW):(om zs).length =zs.length:=by simp [om]
def aDw{K:TypeId->ei}{ρ:bX}{F:bT}{w:World}{z:Int}{v:Value}(h:aZ K ρ F w (.int .i64 z) v):v= .int .i64 z:=by cases h;rfl
def azS{off:Nat}{d:Array Int}{c:Array Value}{k:Nat}(hk:k<c.size):(Go.Sort.putCells (Value.int .i64) off d c)[k]?=some (if off<=k∧k<off+d.size then Value.int .i64 d[k- off]! else c[k]):=by
 unfold Go.Sort.putCells;rw [Ci (JZ),Array.getElem_mapIdx]
def aEl{X:Cx}{f:FuncId}{t:TypeId}(hK:X.K t=[.int .i64])
 (hC:∀(HX off cap:Nat) (zs:cW) (w:World),Go.Sort.Holds (Value.int .i64) w HX off zs.toArray->HX<w.heap.size->zs.length<4611686018427387904->
   Calls X.P f #[.slice (some ⟨HX,off,none⟩) zs.length cap] w λe w'=>e= .returned (.tuple #[])∧∃n os,w'=Go.Sort.grow (Go.Sort.putRow (Value.int .i64) (Go.Sort.ahead w n) HX off (zs.mergeSort λx y=>decide (x<=y)).toArray) os):aaJ X f t:=by
 intro zs eN aO8 w0 S F ρ w vs hI hv;obtain⟨v,rfl,hr⟩:=hv.one;cases hr with
 |aC _ hd bA=>
 have jX:=hI.rep 0 _ hd rfl bA;obtain⟨ev,my,hr⟩:=jX;rw [hK]at ev my;have ou:hd.sz=1:=ev;rcases hr with⟨_,hx⟩|⟨g,o,c,cur,jQ,hh,h4,h5,h6,h7⟩
 ·exfalso;have:=OW zs;rw [hx]at this;exact eN (ag7.1 this.symm)
 ·rw [OW]at jQ h4;rw [ou]at h6 h7;have dT:hd.eM=some g:=by simp [Hd.eM,Value.eM,jQ]
  have KZ:=hI.sep 0 _ hd g rfl rfl bA dT;have rW:∀(i:Nat) z,zs[i]?=some z->cur[o+i]?=some (Value.int .i64 z):=λi z hz=>by
   have ik:(om zs)[i]?=some [AV.int .i64 z]:=by unfold om;rw [iT,hz];rfl
   obtain⟨v,kX,hrv⟩:=h7 i _ ik 0 (.int .i64 z) rfl;rw [aDw hrv]at kX;simpa using kX
  have hold:Go.Sort.Holds (Value.int .i64) w g o zs.toArray:=λj hj=>by
   have hj:j<zs.length:=by simpa using hj
   have hz:zs[j]?=some zs[j]:=dD hj;refine⟨?_,?_⟩
   ·rw [show zs.toArray[j]! =zs[j]by rw [Ps _ j (by simpa using hj)];simp];simp only [World.cell?,hh];exact rW j _ hz
   ·simp [World.frozen?,hh]
  have D4:zs.length<4611686018427387904:=by omega
  have yC:=hC g o c zs w hold KZ.1 D4;rw [show(#[hd.v]:Array Value)= #[.slice (some ⟨g,o,none⟩) zs.length c]by rw [jQ]];refine yC.mono ?_;rintro e w' ⟨rfl,n,os,rfl⟩;have hlen:(nw zs).length =zs.length:=by unfold nw;exact List.length_mergeSort zs
  have L7:g<w.heap.size:=KZ.1;have Dd:∀k,k<w.heap.size->k≠g->(Go.Sort.grow (Go.Sort.putRow (Value.int .i64) (Go.Sort.ahead w n) g o (nw zs).toArray) os).heap[k]?=w.heap[k]?:=λk hk hkg=>by
   simp only [Go.Sort.grow,Go.Sort.putRow,Go.Sort.mapBlock,Go.Sort.ahead];rw [JD (JZ),Pr,if_neg (λh=>hkg h.symm)]
  have jC:(Go.Sort.grow (Go.Sort.putRow (Value.int .i64) (Go.Sort.ahead w n) g o (nw zs).toArray) os).heap[g]?=some (.cells (Go.Sort.putCells (Value.int .i64) o (nw zs).toArray cur) t (0,0)):=by
   simp only [Go.Sort.grow,Go.Sort.putRow,Go.Sort.mapBlock,Go.Sort.ahead];rw [JD (by simpa using L7),Pr,if_pos rfl,hh];rfl
  have lq:w.grownBy (Go.Sort.grow (Go.Sort.putRow (Value.int .i64) (Go.Sort.ahead w n) g o (nw zs).toArray) os) (some g):=
   ⟨rfl,rfl,rfl,by simp [Go.Sort.grow,Go.Sort.putRow,Go.Sort.mapBlock,Go.Sort.ahead],λk hk eN=>Dd k hk λh=>eN (by rw [h])⟩
  have hZ:∀z∈nw zs,z∈zs:=λz hz=>by unfold nw at hz;exact List.mem_mergeSort.1 hz
  have yX:km X ρ F (Go.Sort.grow (Go.Sort.putRow (Value.int .i64) (Go.Sort.ahead w n) g o (nw zs).toArray) os) hd (.row t (om (nw zs))):=by
   refine⟨by rw [hK];exact ev,λi row hi=> ?_,.inr ⟨g,o,c,_,by rw [OW,hlen];exact jQ,jC,by rw [OW,hlen];exact h4,h5,by rw [ou];simpa [Go.Sort.putCells]using h6,λi row hi j x hx=> ?_⟩⟩
   ·obtain⟨z,hz,rfl⟩:=agv hi;obtain⟨i',dZ⟩:=z7 (hZ z (mT hz));rw [hK];exact my i' _ (by unfold om;rw [iT,dZ];rfl)
   ·obtain⟨z,hz,rfl⟩:=agv hi;have rB:i<(nw zs).length :=(eZ.1 hz).1;cases j with
    |succ j=>exact wT
    |zero=>
     simp at hx;subst hx;refine⟨.int .i64 z,?_,.int _ _⟩;rw [ou,Nat.mul_one,yg,azS (by omega),if_pos (eu)];rw [show o+i- o=i by omega,Ps _ i (by simpa using rB)];have:=(eZ.1 hz).2;simp [this]
  refine⟨.tuple #[],ρ,F,rfl,hI.write rfl rfl bA dT lq yX,⟨λ_ h=>h,λ_ _ _ h=>h,λa ha=>Dd _ (hI.fz a ha) λh=>KZ.2.2 a ha h⟩,?_⟩;exact .ew [] [] rfl (λj x v hx=>wT)
end Go.aA
namespace Go.Proofs
open Go.Shelf
def Tryz.aAG:Go.Shelf.Ren:=⟨fun|189=>192|125=>213|257=>212|128=>231|129=>218|294=>222|295=>223|296=>224|297=>225|298=>226|299=>227|216=>228|300=>229|301=>230|328=>236|329=>237|330=>238|331=>239|332=>240|215=>241|343=>242|n=>n,fun|28=>36|3=>3|46=>203|0=>0|51=>233|53=>236|4=>4|183=>261|182=>260|131=>264|5=>5|9=>9|218=>267|222=>169|228=>274|229=>275|n=>n,fun|n=>n⟩
theorem Tryz.aDL:Go.Proofs.Lays.n189 Tryz.prog Tryz.aAG:={
 mixed:=by kernel_rfl
 f125:=Tryz.func213.trans (congrArg some (by kernel_rfl))
 f128:=Tryz.func231.trans (congrArg some (by kernel_rfl))
 f129:=Tryz.func218.trans (congrArg some (by kernel_rfl))
 f189:=Tryz.func192.trans (congrArg some (by kernel_rfl))
 f215:=Tryz.func241.trans (congrArg some (by kernel_rfl))
 f216:=Tryz.func228.trans (congrArg some (by kernel_rfl))
 f257:=Tryz.func212.trans (congrArg some (by kernel_rfl))
 f294:=Tryz.func222.trans (congrArg some (by kernel_rfl))
 f295:=Tryz.func223.trans (congrArg some (by kernel_rfl))
 f296:=Tryz.func224.trans (congrArg some (by kernel_rfl))
 f297:=Tryz.func225.trans (congrArg some (by kernel_rfl))
 f298:=Tryz.func226.trans (congrArg some (by kernel_rfl))
 f299:=Tryz.func227.trans (congrArg some (by kernel_rfl))
 f300:=Tryz.func229.trans (congrArg some (by kernel_rfl))
 f301:=Tryz.func230.trans (congrArg some (by kernel_rfl))
 f328:=Tryz.func236.trans (congrArg some (by kernel_rfl))
 f329:=Tryz.func237.trans (congrArg some (by kernel_rfl))
 f330:=Tryz.func238.trans (congrArg some (by kernel_rfl))
 f331:=Tryz.func239.trans (congrArg some (by kernel_rfl))
 f332:=Tryz.func240.trans (congrArg some (by kernel_rfl))
 f343:=Tryz.func242.trans (congrArg some (by kernel_rfl))
 t0:=Tryz.underlying0
 a0:=Tryz.isAgg0
 z0:=Tryz.sizeOf0
 v0:=Tryz.zeroValue0
 t3:=Tryz.underlying3
 a3:=Tryz.isAgg3
 z3:=Tryz.sizeOf3
 v3:=Tryz.zeroValue3
 t4:=Tryz.underlying4
 a4:=Tryz.isAgg4
 z4:=Tryz.sizeOf4
 v4:=Tryz.zeroValue4
 t5:=Tryz.underlying5
 a5:=Tryz.isAgg5
 z5:=Tryz.sizeOf5
 v5:=Tryz.zeroValue5
 t9:=Tryz.underlying9
 a9:=Tryz.isAgg9
 z9:=Tryz.sizeOf9
 v9:=Tryz.zeroValue9
 t28:=Tryz.underlying36
 a28:=Tryz.isAgg36
 z28:=Tryz.sizeOf36
 v28:=Tryz.zeroValue36
 t46:=Tryz.underlying203
 a46:=Tryz.isAgg203
 z46:=Tryz.sizeOf203
 v46:=Tryz.zeroValue203
 t51:=Tryz.underlying233
 a51:=Tryz.isAgg233
 z51:=Tryz.sizeOf233
 v51:=Tryz.zeroValue233
 t53:=Tryz.underlying236
 a53:=Tryz.isAgg236
 z53:=Tryz.sizeOf236
 v53:=Tryz.zeroValue236
 t131:=Tryz.underlying264
 a131:=Tryz.isAgg264
 z131:=Tryz.sizeOf264
 v131:=Tryz.zeroValue264
 t182:=Tryz.underlying260
 a182:=Tryz.isAgg260
 z182:=Tryz.sizeOf260
 v182:=Tryz.zeroValue260
 t183:=Tryz.underlying261
 a183:=Tryz.isAgg261
 z183:=Tryz.sizeOf261
 v183:=Tryz.zeroValue261
 t218:=Tryz.underlying267
 a218:=Tryz.isAgg267
 z218:=Tryz.sizeOf267
 v218:=Tryz.zeroValue267
 t222:=Tryz.underlying169
 a222:=Tryz.isAgg169
 z222:=Tryz.sizeOf169
 v222:=Tryz.zeroValue169
 t228:=Tryz.underlying274
 a228:=Tryz.isAgg274
 z228:=Tryz.sizeOf274
 v228:=Tryz.zeroValue274
 t229:=Tryz.underlying275
 a229:=Tryz.isAgg275
 z229:=Tryz.sizeOf275
 v229:=Tryz.zeroValue275}
end Go.Proofs
namespace Go.Proofs.YtomkobcipaligaaGreatDoor
open Go Go.aA
set_option maxRecDepth 100000
noncomputable section
def kn9:SS CX (.known 9):=λ_=>aEM (X:=CX) (Y:=Cl.X) rfl (λ_=>rfl) Cl.aNO
def aFq:SS CX (.A5 192 3):=aEl (by kernel_rfl) (λHX off cap zs w h1 h2 h3=>Any.slices_Sort_int Tryz.aDL HX off cap zs w h1 h2 h3)
set_option maxRecDepth 1000000 in
def hE:iQ (ab6 CX) EE:=by repeat' first|exact trivial|exact kn9|exact⟨by kernel_rfl,by kernel_rfl,by kernel_rfl⟩|refine⟨?_,?_⟩|kernel_rfl|exact aFq
end
end Go.Proofs.YtomkobcipaligaaGreatDoor
namespace Go.aA
def vF{p:Prop}(h:p:=by rw [jI (by omega) (by omega)];omega):p:=h
end Go.aA
namespace Go.Proofs.YtomkobcipaligaaGreatDoor
open Go Go.aA
section
variable{n:Int}{i:Nat}
def aDo(h0: -9223372036854775808<=n)(h1:n<=9223372036854775807):IntKind.wrap .i64 n=n:=by
 simp [IntKind.wrap,IntKind.bits,IntKind.signed];split<;>omega
def jI(h0: -9223372036854775808<=n)(h1:n<=9223372036854775807):bw n=n:=aDo h0 h1
def aO2(X:Cx)(E:List FD)(N v:Nat)(l:bl):FU X E (N+1) v l=bZ X E (FU X E N) N v l:=rfl
def qM{n:Nat}(h:i<n):ib (i:Int) n=true:=by simp [ib,h]
def FG(h:i<9223372036854775807):bw ((i:Int)+1)=((i+1:Nat):Int):=vF
end
end Go.Proofs.YtomkobcipaligaaGreatDoor
namespace Go.aA
def Gf{p:Prop}(h:p:=by subst hc;exact h):p:=h
def J7{p:Prop}(h:p:=by rw [hp]at h;cases h):p:=h
def ajy{p:Prop}(h:p:=by
 rw [h N n (by omega) (by omega)];exact hk N n (by omega) (by omega)):p:=h
def ai3{p:Prop}(h:p:=by
 cases c
 ·exact h2 rfl
 ·exact h1 rfl):p:=h
end Go.aA
namespace Go.aA
def Cf:=@List.any_cons
end Go.aA
namespace Go.Proofs.YtomkobcipaligaaGreatDoor
open Go Go.aA
section
variable{c:Bool}{α:Type}{l:List α}{i m v:Nat}{LF:Nat->Nat->Nat->Option UO}{k:Nat->Nat->Nat->bl->Option UO}{f g:Nat->Nat->Option UO}{P:Nat->Prop}{done hit o r:UO}{p:α->Bool}
def E(f:Nat->Nat->Option UO)(o:UO):Prop:=∃B,∀N n,B<=N->B<=n->f N n=some o
abbrev Ev(v:Nat)(l:bl)(o:UO):Prop:=E (λN _=>FU CX EE N v l) o
def af(h:o=r):E (λ_ _=>some o) r:=⟨0,λ_ _ _ _=>by rw [h]⟩
def aj(h:E f o)(hk:E (λN n=>k N n o.1 o.2) r):E (λN n=>bO (f N n) (k N n)) r:=by
 obtain⟨B,h⟩:=h;obtain⟨C,hk⟩:=hk;refine⟨B+C,λN n h1 h2=> ?_⟩;show bO (f N n) (k N n)=some r;exact ajy
def aH(hc:c=true)(h:E f r):E (λN n=>aA.aR c (f N n)) r:=Gf
def aw(h1:c=true->E f r)(h2:c=false->E g r):E (λN n=>bif c then f N n else g N n) r:=ai3
def br(hc:c=true)(h:E f r):E (λN n=>bif c then f N n else g N n) r:=Gf
def ax(hc:c=false)(h:E g r):E (λN n=>bif c then f N n else g N n) r:=Gf
def amD(he:∀N n,f N n=g N n)(h:E g r):E f r:=by
 obtain⟨B,h⟩:=h;exact⟨B,λN n h1 h2=>(he N n).trans (h N n h1 h2)⟩
def amC{l:bl}{g:Nat->Option UO}(he:∀N,bZ CX EE (FU CX EE N) N v l=g N)(h:E (λN _=>g N) r):Ev v l r:=by
 obtain⟨B,h⟩:=h;refine⟨B+1,λN n h1 _=> ?_⟩;obtain⟨M,rfl⟩:∃M,N=M+1:=⟨N- 1,by omega⟩;show FU CX EE (M+1) v l=_;rw [aO2];exact(he M).trans <|h M M (by omega) (by omega)
def aEh(he:∀N n,f N (n+1)=g N n)(h:E g r):E f r:=by
 obtain⟨B,h⟩:=h;refine⟨B+1,λN n h1 h2=> ?_⟩;obtain⟨m,rfl⟩:∃m,n=m+1:=⟨n- 1,by omega⟩;exact(he N m).trans <|h N m (by omega) (by omega)
def bW(he:∀{N n},f N n=g N n)(h:E g r):E f r:=amD (λ_ _=>he) h
def bx{l:bl}{g:Nat->Option UO}(he:∀{N},bZ CX EE (FU CX EE N) N v l=g N)(h:E (λN _=>g N) r):Ev v l r:=amC (λ_=>he) h
def bD(he:∀{N n},f N (n+1)=g N n)(h:E g r):E f r:=aEh (λ_ _=>he) h
def E.diag(h:E f r):E (λN _=>f N N) r:=by
 obtain⟨B,h⟩:=h;exact⟨B,λN n h1 h2=>h N N h1 h1⟩
def aGN(he:∀N n,f N n=g N n)(h:E (λN n=>bO (g N n) (k N n)) r):E (λN n=>bO (f N n) (k N n)) r:=
 amD (λN n=>by rw [he]) h
def xh(he:∀{N n},f N n=g N n)(h:E (λN n=>bO (g N n) (k N n)) r):E (λN n=>bO (f N n) (k N n)) r:=aGN (λ_ _=>he) h
def sM(h1:c=true->E (λN n=>bO (f N n) (k N n)) r)(h2:c=false->E (λN n=>bO (g N n) (k N n)) r):E (λN n=>bO (bif c then f N n else g N n) (k N n)) r:=ai3
def ail(hc:c=true)(h:E (λN n=>bO (f N n) (k N n)) r):E (λN n=>bO (bif c then f N n else g N n) (k N n)) r:=Gf
def Kl(hc:c=false)(h:E (λN n=>bO (g N n) (k N n)) r):E (λN n=>bO (bif c then f N n else g N n) (k N n)) r:=Gf
def mF{q:Nat}{l:bl}(h:E (λN n=>k N n q l) r):E (λN n=>bO (some (q,l)) (k N n)) r:=h
def F4(hc:c=true)(h:E (λN n=>bO (f N n) (k N n)) r):E (λN n=>bO (aA.aR c (f N n)) (k N n)) r:=Gf
def ahJ{k1:Nat->Nat->Nat->bl->Option UO}(h:E f o)(hk:E (λN n=>bO (k1 N n o.1 o.2) (k N n)) r):E (λN n=>bO (bO (f N n) (k1 N n)) (k N n)) r:=by
 obtain⟨B,h⟩:=h;obtain⟨C,hk⟩:=hk;refine⟨B+C,λN n h1 h2=> ?_⟩;show bO (bO (f N n) (k1 N n)) (k N n)=some r;exact ajy
def E.to(h:E f o)(e:o=r):E f r:=e▸h
def E.uniq(h:E f o)(h':E f r):o=r:=by
 obtain⟨B,h⟩:=h;obtain⟨C,h'⟩:=h';have h1:=h (B+C) (B+C) (by omega) (by omega);rw [h' (B+C) (B+C) (by omega) (by omega)]at h1;exact(Option.some.inj h1).symm
def down(h0:P m)(hs:∀i,i<m->P (i+1)->P i):∀i,i<=m->P i:=by
 intro i hi;obtain⟨k,rfl⟩:∃k,m=i+k:=⟨m- i,by omega⟩;clear hi
 induction k generalizing i with
 |zero=>exact h0
 |succ k ih=>
  refine hs i (by omega) (ih (i+1) ?_ ?_)
  ·rw [show i+1+k=i+(k+1)by omega];exact h0
  ·intro j hj;exact hs j (by omega)
def fH(h0:P m)(hs:∀i,i<m->P (i+1)->P i):P 0:=down h0 hs 0 (ym _)
abbrev mx:Nat:=1048576
abbrev ints(l:cW):aW:=l.map λn=>[iI n]
def sQ{f:α->Row}(h:i<l.length):gA (l.map f) i=f l[i]:=by simp [gA,List.getD,h]
def fK{f:α->Row}(h:i<l.length):gA (l.map f) ((i:Int).toNat)=f l[i]:=sQ h
def fW(h:i<l.length):l.drop i=l[i]::l.drop (i+1):=PH h
def ix{n:Nat}(h:i<n)(hn:n<=mx):bw ((i:Int)+1)=((i+1:Nat):Int):=FG (by simp only [mx]at hn;omega)
def dx{f:α->Row}(h:i<l.length):decide ((i:Int)<ln (l.map f))=true:=by simpa [ln]using h
def dY{f:α->Row}:decide ((l.length:Int)<ln (l.map f))=false:=by simp [ln]
def cN{f:α->Row}(h:i<l.length):ib (i:Int) (l.map f).length =true:=by simpa using qM h
def scan{hit:Nat->UO}(hd:E (LF l.length) done)
 (hs:∀(i:Nat) (h:i<l.length) (r:UO),(p l[i]=true->hit i=r)->(p l[i]=false->E (LF (i+1)) r)->E (LF i) r):
 (l.any p=false∧E (LF 0) done)∨(l.any p=true∧∃i,i<l.length∧E (LF 0) (hit i)):=by
 have h:=fH (P:=λi=>((l.drop i).any p=false∧E (LF i) done)∨((l.drop i).any p=true∧∃j,j<l.length∧E (LF i) (hit j))) (m:=l.length) (.inl ⟨by simp,hd⟩) λi hi ih=>by
  rw [fW hi,Cf];cases hp:p l[i]with
  |true=>exact .inr ⟨rfl,i,hi,hs i hi _ (λ_=>rfl) (λh=>J7)⟩
  |false=>
   rw [Pk];rcases ih with⟨h1,h2⟩|⟨h1,j,hj,h2⟩
   ·exact .inl ⟨h1,hs i hi _ (λh=>J7) λ_=>h2⟩
   ·exact .inr ⟨h1,j,hj,hs i hi _ (λh=>J7) λ_=>h2⟩
 simpa using h
def pq(hd:E (LF l.length) done)
 (hs:∀(i:Nat) (h:i<l.length) (r:UO),(p l[i]=true->hit=r)->(p l[i]=false->E (LF (i+1)) r)->E (LF i) r):
 E (LF 0) (bif l.any p then hit else done):=by
 rcases scan (hit:=λ_=>hit) hd hs with⟨h1,h2⟩|⟨h1,i,_,h2⟩
 ·rw [h1];exact h2
 ·rw [h1];exact h2
def vv{p:Nat->Bool}(hd:E (LF m) done)
 (hs:∀(i:Nat),i<m->∀(r:UO),(p i=true->hit=r)->(p i=false->E (LF (i+1)) r)->E (LF i) r):E (LF 0) (bif (List.range m).any p then hit else done):=by
 have:=pq (l:=List.range m) (LF:=LF) (p:=p) (hit:=hit) (done:=done) (by simpa using hd) λi hi r h1 h2=>hs i (CL) r (λh=>h1 (jU)) λh=>h2 (jU);exact this
def Rp{l:cW}(h:i<l.length):gI (gA (ints l) i) 0=l.getD i 0:=by rw [sQ h];simp [gI,AV.toI,h]
def mH{l:cW}(h:i<l.length):gI (gA (ints l) ((i:Int).toNat)) 0=l.getD i 0:=Rp h
end
end Go.Proofs.YtomkobcipaligaaGreatDoor
namespace Go.aA
def Rc{p:Prop}(h:p:=by
 cases s with
 |mk k g n e b a=>cases g;cases b;cases a;rfl):p:=h
def ui{p:Prop}(h:p:=by cases s;rfl):p:=h
def Qt{p:Prop}(h:p:=by rw [FZ];rfl):p:=h
def ajl{p:Prop}(h:p:=by
 cases s with
 |mk d u=>cases d;cases u;rfl):p:=h
def ajk{p:Prop}(h:p:=by
 cases s with
 |mk k g n e b a=>cases g;rfl):p:=h
def aiH{p:Prop}(h:p:=by
 cases s with
 |mk e b=>cases b;rfl):p:=h
end Go.aA
namespace Go.Proofs.YtomkobcipaligaaGreatDoor
open Go Go.aA
abbrev J:=AV.agg
abbrev ak:=AV.bool
abbrev aq:=AV.bool false
abbrev cw:=AV.bool true
abbrev bE:=AV.int .u8
abbrev c8:=AV.ab OJ
abbrev dh:=AV.ab Om
abbrev aT:=AV.ab Fe
abbrev dg:=AV.ab Nx
abbrev bC:=AV.ab Ol
abbrev BU:=AV.ab afC
abbrev bJ:=AV.ab ags
abbrev bH:=AV.ab Fc
abbrev od:=AV.ab af4
abbrev fZ:=AV.ab af3
abbrev cG:=AV.ab ada
abbrev eC:=AV.ab asX
abbrev ah:=AV.ab afB
abbrev dQ:=AV.ab Fb
abbrev aa:=AV.ab uj
abbrev B9:=AV.ab aEk
abbrev oy:List (Nat×AV):=[(8,.aC 2)]
abbrev pF:List (Nat×AV):=[(2,.aC 2)]
abbrev ox:List (Nat×AV):=[(2,.aC 3)]
abbrev nA:List (Nat×AV):=[(2,.aC 4)]
abbrev qW:List (Nat×AV):=[(2,.aC 0)]
abbrev mN:List (Nat×AV):=[(12,.aC 2),(13,.aC 3),(14,.aC 4),(15,.aC 5),(16,.aC 6),(17,.aC 7),(18,.aC 8),(19,.aC 9),(20,.aC 10)]
abbrev ab1:List (Nat×AV):=[(4,.aC 2)]
abbrev G7:List (Nat×AV):=[(4,.aC 3)]
abbrev apq:List (Nat×AV):=[(9,.aC 0)]
abbrev SL:List (Nat×AV):=[(2,.aC 1)]
abbrev qe:List (Nat×AV):=[(12,.aC 3),(13,.aC 4),(14,.aC 5),(15,.aC 6),(16,.aC 7),(17,.aC 8),(18,.aC 9),(19,.aC 10),(20,.aC 11)]
abbrev GG:List (Nat×AV):=[(12,.aC 12),(13,.aC 13),(14,.aC 14),(15,.aC 15),(16,.aC 16),(17,.aC 17),(18,.aC 18),(19,.aC 19),(20,.aC 20)]
abbrev aM:List (Nat×AV):=[(6,.aC 1),(8,.mp 2)]
abbrev bF:List (Nat×AV):=[(0,.ptr 0 0 0)]
abbrev gz:List (Nat×AV):=[(0,.ptr 1 0 0)]
abbrev gw:List (Nat×AV):=[(6,.aC 2),(8,.mp 3)]
abbrev aaF:List (Nat×AV):=[(4,.aC 5)]
abbrev KE:List (Nat×AV):=[(4,.aC 6)]
abbrev vJ:List (Nat×AV):=[(0,.ptr 2 0 0)]
abbrev vI:List (Nat×AV):=[(6,.aC 3),(8,.mp 4)]
abbrev vH:List (Nat×AV):=[(0,.ptr 3 0 0)]
abbrev vG:List (Nat×AV):=[(6,.aC 4),(8,.mp 5)]
abbrev aGC:List (Nat×AV):=[(0,.ptr 0 0 0),(5,.aC 3)]
abbrev yF:List (Nat×AV):=[(6,.aC 2),(8,.mp 1)]
abbrev aGB:List (Nat×AV):=[(5,.aC 3)]
abbrev aGA:List (Nat×AV):=[(8,.aC 0)]
abbrev bP(f:(Nat->List AV->Option UO)->Nat->Nat->List AV->Option UO)(l:List AV)(r:UO):=E (λN m=>f (FU CX EE N) N m l) r
abbrev bK(f:(Nat->List AV->Option UO)->Nat->List AV->Option UO)(l:List AV)(r:UO):=E (λN _=>f (FU CX EE N) N l) r
def aL{o:UO}:E (λ_ _=>some o) o:=af rfl
def bj{f g:Nat->Nat->Option UO}{r:UO}{c:Bool}(h:E g r)(hc:c=false:=by rfl):E (λN n=>bif c then f N n else g N n) r:=ax hc h
def aY{f g:Nat->Nat->Option UO}{r:UO}{c:Bool}(h:E f r)(hc:c=true:=by rfl):E (λN n=>bif c then f N n else g N n) r:=br hc h
end Go.Proofs.YtomkobcipaligaaGreatDoor
namespace Go.aA
def PK:=@List.not_mem_nil
def Jp:=@List.sizeOf_lt_of_mem
end Go.aA
namespace Go.Proofs.YtomkobcipaligaaGreatDoor
open Go Go.aA
inductive CE where
 |mk(kind op N O off len lo hi:Int)(L:List CE)
namespace CE
def kind:CE->Int|mk k _ _ _ _ _ _ _ _=>k
def op:CE->Int|mk _ p _ _ _ _ _ _ _=>p
def N:CE->Int|mk _ _ n _ _ _ _ _ _=>n
def O:CE->Int|mk _ _ _ o _ _ _ _ _=>o
def off:CE->Int|mk _ _ _ _ f _ _ _ _=>f
def len:CE->Int|mk _ _ _ _ _ l _ _ _=>l
def lo:CE->Int|mk _ _ _ _ _ _ a _ _=>a
def hi:CE->Int|mk _ _ _ _ _ _ _ b _=>b
def L:CE->List CE|mk _ _ _ _ _ _ _ _ l=>l
end CE
def CE.eta(e:CE):e= .mk e.kind e.op e.N e.O e.off e.len e.lo e.hi e.L:=by cases e;rfl
def CE.lt{e y:CE}(h:y∈e.L):SizeOf.sizeOf y<SizeOf.sizeOf e:=by
 cases e with
 |mk _ _ _ _ _ _ _ _ l=>
  have:=Jp h;simp only [CE.L]at this;simp only [CE.mk.sizeOf_spec];omega
def CE.ind{P:CE->Prop}(h:∀e:CE,(∀y∈e.L,P y)->P e):∀e,P e:=λe=>
 h e λy hy=>CE.ind h y
termination_by e=>SizeOf.sizeOf e
decreasing_by exact CE.lt hy
mutual
def aP:CE->bl
 | .mk k p n o f l a b es=>[bE k,bE p,iI n,iI o,iI f,iI l,iI a,iI b,aT (Rs es)]
def Rs:List CE->aW
 | []=>[]
 |e::es=>aP e::Rs es
end
def agI:∀es,Rs es=es.map aP
 | []=>rfl
 |e::es=>by simp only [Rs,nu,agI es]
def FZ(e:CE):aP e=[bE e.kind,bE e.op,iI e.N,iI e.O,iI e.off,iI e.len,iI e.lo,iI e.hi,aT (e.L.map aP)]:=by
 cases e;simp only [aP,agI];rfl
def eQ(e:CE):nL (aP e)=aP e:=by cases e;rfl
def uz(e:CE):gR (aP e) 8=e.L.map aP:=Qt
structure PL where
 kind:Int
 O:Int
 off:Int
 len:Int
 E:List CE
def c5(p:PL):bl:=[bE p.kind,iI p.O,iI p.off,iI p.len,aT (p.E.map aP)]
structure dk where
 kind:Int
 N:Int
 O:Int
 T:Int
 P:Int
 entry:Int
 In:Bool
 rev:Bool
 pI:Bool
 els:Bool
 pZ:Bool
 mode:Int
 E:List CE
 Ins:List CE
 To:List PL
 fM:List PL
 Ts:cW
mutual
inductive CS where
 |mk(f:dk)(L:List CS)(D:List CD)(H:List CH)(A:List CA)
inductive CD where
 |mk(d u:CS)
inductive CH where
 |mk(eL:cW)(body:CS)
inductive CA where
 |mk(kind:Int)(guard:CE)(entry:Int)(E:List CE)(body after:CS)
end
variable{s y:CS}
namespace CS
def f:CS->dk|mk f _ _ _ _=>f
def L:CS->List CS|mk _ l _ _ _=>l
def D:CS->List CD|mk _ _ d _ _=>d
def H:CS->List CH|mk _ _ _ h _=>h
def A:CS->List CA|mk _ _ _ _ a=>a
end CS
def CD.d:CD->CS|mk d _=>d
def CD.u:CD->CS|mk _ u=>u
def CH.eL:CH->List Int|mk e _=>e
def CH.body:CH->CS|mk _ b=>b
def CA.kind:CA->Int|mk k _ _ _ _ _=>k
def CA.guard:CA->CE|mk _ g _ _ _ _=>g
def CA.entry:CA->Int|mk _ _ e _ _ _=>e
def CA.E:CA->List CE|mk _ _ _ e _ _=>e
def CA.body:CA->CS|mk _ _ _ _ b _=>b
def CA.after:CA->CS|mk _ _ _ _ _ a=>a
def CS.kids(s:CS):List CS:=s.D.flatMap (λd=>[d.d,d.u])++(s.L++(s.H.map CH.body++s.A.flatMap λa=>[a.body,a.after]))
def CS.lt(h:y∈s.kids):SizeOf.sizeOf y<SizeOf.sizeOf s:=by
 cases s with
 |mk f l d hh a=>
  simp only [CS.mk.sizeOf_spec];simp only [CS.kids,j7,FK,Ab,CS.L,CS.D,CS.H,CS.A,gX,PK,or_false]at h;rcases h with⟨x,hx,h⟩|h|⟨x,hx,rfl⟩|⟨x,hx,h⟩
  ·have:=Jp hx;cases x with
   |mk p q=>
    simp only [CD.mk.sizeOf_spec]at this;rcases h with rfl|rfl<;>(try simp only [CD.d,CD.u])<;>omega
  ·have:=Jp h;omega
  ·have:=Jp hx;cases x with
   |mk p q=>
    simp only [CH.mk.sizeOf_spec]at this;simp only [CH.body];omega
  ·have:=Jp hx;cases x with
   |mk _ _ _ _ p q=>
    simp only [CA.mk.sizeOf_spec]at this;rcases h with rfl|rfl<;>(try simp only [CA.body,CA.after])<;>omega
def CS.ind{P:CS->Prop}(h:∀s:CS,(∀y∈s.kids,P y)->P s):∀s,P s:=λs=>
 h s λy hy=>CS.ind h y
termination_by s=>SizeOf.sizeOf s
decreasing_by exact CS.lt hy
def qh{d:CD}(h:d∈s.D):d.d∈s.kids∧d.u∈s.kids:=by
 simp only [CS.kids,j7,FK];exact⟨.inl ⟨d,h,by simp⟩,.inl ⟨d,h,by simp⟩⟩
def xo(h:y∈s.L):y∈s.kids:=by
 simp only [CS.kids,j7];exact .inr (.inl h)
def AN{x:CH}(h:x∈s.H):x.body∈s.kids:=by
 simp only [CS.kids,j7,Ab];exact .inr (.inr (.inl ⟨x,h,rfl⟩))
def qi{x:CA}(h:x∈s.A):x.body∈s.kids∧x.after∈s.kids:=by
 simp only [CS.kids,j7,FK];exact⟨.inr (.inr (.inr ⟨x,h,by simp⟩)),.inr (.inr (.inr ⟨x,h,by simp⟩))⟩
abbrev cZ(f:dk)(l d h a:aW):bl:=[bE f.kind,iI f.N,iI f.O,iI f.T,iI f.P,iI f.entry,ak f.In,ak f.rev,ak f.pI,ak f.els,ak f.pZ,bE f.mode,aT (f.E.map aP),aT (f.Ins.map aP),bH (f.To.map c5),bH (f.fM.map c5),aa (ints f.Ts),bC l,dh d,dg h,c8 a]
mutual
def encS:CS->bl
 | .mk f l d h a=>cZ f (GB l) (GD d) (GC h) (GF a)
def GB:List CS->aW
 | []=>[]
 |s::ss=>encS s::GB ss
def cj:CD->bl
 | .mk d u=>encS d++encS u
def GD:List CD->aW
 | []=>[]
 |s::ss=>cj s::GD ss
def cz:CH->bl
 | .mk e b=> aa (ints e)::encS b
def GC:List CH->aW
 | []=>[]
 |s::ss=>cz s::GC ss
def cu:CA->bl
 | .mk k g n e b a=> bE k::(aP g++(iI n:: aT (e.map aP)::(encS b++encS a)))
def GF:List CA->aW
 | []=>[]
 |s::ss=>cu s::GF ss
end
def agG:∀l,GB l=l.map encS
 | []=>rfl
 |e::es=>by simp only [GB,nu,agG es]
def agJ:∀l,GD l=l.map cj
 | []=>rfl
 |e::es=>by simp only [GD,nu,agJ es]
def agH:∀l,GC l=l.map cz
 | []=>rfl
 |e::es=>by simp only [GC,nu,agH es]
def agK:∀l,GF l=l.map cu
 | []=>rfl
 |e::es=>by simp only [GF,nu,agK es]
def FY(s:CS):encS s=cZ s.f (s.L.map encS) (s.D.map cj) (s.H.map cz) (s.A.map cu):=by
 cases s;simp only [encS,agG,agJ,agH,agK];rfl
def fF(s:CS):dJ (encS s)=encS s:=ui
def KM(s:CH):UQ (cz s)=cz s:=aiH
def aaU(s:CA):xW (cu s)=cu s:=Rc
def amN(s:CD):dJ (cj s)=encS s.d:=ajl
def amM(s:CD):cP dG 21 (cj s)=encS s.u:=ajl
def RG(s:CH):cP dG 1 (cz s)=encS s.body:=aiH
def amO(s:CA):cP B0 1 (cu s)=aP s.guard:=Rc
def GM(s:CA):cP dG 12 (cu s)=encS s.body:=Rc
def GN(s:CA):cP dG 33 (cu s)=encS s.after:=Rc
def abV(s:CA):gI (cu s) 0=s.kind:=by
 cases s with
 |mk k g n e b a=>rfl
def abU(s:CA):gI (cu s) 10=s.entry:=ajk
def apj(s:CA):gR (cu s) 11=s.E.map aP:=ajk
def La(s:CH):gR (cz s) 0=ints s.eL:=ui
structure OB where
 size:Int
 lo:Int
 hi:Int
 ptr:Bool
 set:cW
def gj(o:OB):bl:=[iI o.size,iI o.lo,iI o.hi,ak o.ptr,aa (ints o.set)]
structure EN where
 ins:cW
 outs:cW
def iP(e:EN):bl:=[aa (ints e.ins),aa (ints e.outs)]
structure TK where
 prio:Int
 au:List EN
 body:CS
 dead:Int
def cF(t:TK):bl:=iI t.prio:: BU (t.au.map iP)::(encS t.body++[iI t.dead])
structure PR where
 ceil:Int
 kg:cW
 bars:List CE
def fA(q:PR):bl:=[iI q.ceil,aa (ints q.kg),aT (q.bars.map aP)]
structure PG where
 bu:List OB
 eL:Int
 tasks:List TK
 dw:List PR
def nf(p:PG):bl:=[bJ (p.bu.map gj),iI p.eL,fZ (p.tasks.map cF),od (p.dw.map fA)]
structure SO where
 ptr:Bool
 null:Bool
 set:cW
 lo:Int
 hi:Int
def bU(s:SO):bl:=[ak s.ptr,ak s.null,aa (ints s.set),iI s.lo,iI s.hi]
inductive CE.Ok:CE->Prop
 |mk(e:CE)(hl:e.L.length<=mx)(h:∀y∈e.L,CE.Ok y):CE.Ok e
def G8(l:List CE):Prop:=l.length<=mx∧∀e∈l,e.Ok
def PL.Ok(p:PL):Prop:=G8 p.E
def ab4(l:List PL):Prop:=l.length<=mx∧∀e∈l,e.Ok
structure dk.Ok(f:dk):Prop where
 E:G8 f.E
 Ins:G8 f.Ins
 To:ab4 f.To
 fM:ab4 f.fM
 Ts:f.Ts.length<=mx
 mode:0<=f.mode
structure CH.qE(x:CH):Prop where
 eL:x.eL.length<=mx
structure CA.qE(x:CA):Prop where
 guard:x.guard.Ok
 E:G8 x.E
inductive CS.Ok:CS->Prop
 |mk(s:CS)(hf:s.f.Ok)(hL:s.L.length<=mx)(hD:s.D.length<=mx)(hH:s.H.length<=mx)(hA:s.A.length<=mx)(h1:∀x∈s.H,x.qE)(h2:∀x∈s.A,x.qE)(hk:∀y∈s.kids,CS.Ok y):CS.Ok s
def OB.Ok(o:OB):Prop:=o.set.length<=mx
def EN.Ok(e:EN):Prop:=e.ins.length<=mx∧e.outs.length<=mx
structure TK.Ok(t:TK):Prop where
 len:t.au.length<=mx
 au:∀e∈t.au,e.Ok
 body:t.body.Ok
structure PR.Ok(q:PR):Prop where
 kg:q.kg.length<=mx
 bars:G8 q.bars
structure PG.Ok(p:PG):Prop where
 bu:p.bu.length<=mx
 obj:∀o∈p.bu,o.Ok
 tasks:p.tasks.length<=mx
 task:∀t∈p.tasks,t.Ok
 dw:p.dw.length<=mx
 gL:∀q∈p.dw,q.Ok
end Go.Proofs.YtomkobcipaligaaGreatDoor
namespace Go.Proofs.YtomkobcipaligaaGreatDoor
open Go Go.aA Qm
set_option maxRecDepth 100000
noncomputable section
variable {G:Nat->bl->Option UO} {N n:Nat} {b1:Bool} {i0 i1 i2 i3:Int} {l0 l1 l2 l3 l4:bl} {r0 r1 r2 r3 r4 r5:aW}
def aek:NJ G N (n+1) [iI i0,J l1,bC r2]=(bif aU i0 (ln (gR l1 18))then bp i0 (gR l1 18)<|bp i0 (gR l1 18)<|aR (lV ((r2.length+2)*272) 140737488355328)<|NJ G N n [cC i0,av l1,bC (r2++(([dJ (aD (gR l1 18) i0),cP dG 21 (aD (gR l1 18) i0)]:aW)))]else ae [av l1,bC r2]:aJ):=by kernel_rfl
def axu:Wr G N [J l0,bC r1]=(bO (NJ G N N [iI 0,av l0,bC r1]) λ_ o1=>ae [av (gC o1 0),bC (gR o1 1)]:aJ):=by kernel_rfl
def ad1:Nv G N (n+1) [iI i0,J l1,bC r2]=(bif aU i0 (ln (gR l1 19))then bp i0 (gR l1 19)<|aR (lV ((r2.length+1)*272) 140737488355328)<|Nv G N n [cC i0,av l1,bC (r2++(([cP dG 1 (aD (gR l1 19) i0)]:aW)))]else ae [av l1,bC r2]:aJ):=by kernel_rfl
def axt:NM G N [J l0,bC r1]=(bO (Nv G N N [iI 0,av l0,bC r1]) λ_ o3=>ae [av (gC o3 0),bC (gR o3 1)]:aJ):=by kernel_rfl
def ad0:BR G N (n+1) [iI i0,J l1,bC r2]=(bif aU i0 (ln (gR l1 20))then bp i0 (gR l1 20)<|bp i0 (gR l1 20)<|aR (lV ((r2.length+2)*272) 140737488355328)<|BR G N n [cC i0,av l1,bC (r2++(([cP dG 12 (aD (gR l1 20) i0),cP dG 33 (aD (gR l1 20) i0)]:aW)))]else ae [av l1,bC r2]:aJ):=by kernel_rfl
def aAf:bZ CX EE G N zT [J l0]=(bO (Wr G N [av l0,bC cy]) λ_ o2=>aR (lV (((gR o2 1).length +(gR (gC o2 0) 17).length)*272) 140737488355328)<|bO (NM G N [av (gC o2 0),bC ((gR o2 1)++(gR (gC o2 0) 17))]) λ_ o4=>bO (BR G N N [iI 0,av (gC o4 0),bC (gR o4 1)]) λ_ o5=>ae [bC (gR o5 1)]:aJ):=by kernel_rfl
def aeh:NI G N (n+1) [iI i0,iI i1,bC r2]=(bif aU i1 (ln r2)then bp i1 r2<|aR (dH (i1.toNat) (r2.length))<|bO (G OP [av (aD r2 i1)]) λ_ o2=>NI G N n [iI (bw (i0+gI o2 0)),cC i1,bC r2]else ae [iI i0,bC r2]:aJ):=by kernel_rfl
def aAY:bZ CX EE G N OP [J l0]=(bO (G zT [av l0]) λ_ o1=>bO (NI G N N [iI 1,iI 0,bC (gR o1 0)]) λ_ o3=>ae [iI (gI o3 0)]:aJ):=by kernel_rfl
def azn:W6 G N [J l0]=(bif aU 200 (ln (gR l0 0))then aN [cw,bL l0]else bif aU 40 (ln (gR l0 2))then aN [cw,bL l0]else bif aU 40 (ln (gR l0 3))then aN [cw,bL l0]else ae [bL l0]:aJ):=by kernel_rfl
def ael:IM G N (n+1) [iI i0,iI i1,J l2]=(bif aU i1 (ln (gR l2 2))then bp i1 (gR l2 2)<|bO (G OP [J (cP dG 2 (aD (gR l2 2) i1))]) λ_ o2=>bif aU 9000 (bw (i0+gI o2 0))then ae [cw,bL l2]else bp i1 (gR l2 2)<|bif aU 20 (ln (gR (aD (gR l2 2) i1) 1))then ae [cw,bL l2]else IM G N n [iI (bw (i0+gI o2 0)),cC i1,bL l2]else aN [bL l2]:aJ):=by kernel_rfl
def Xi:bZ CX EE G N Xw [J l0]=(bO (W6 G N [bL l0]) λq1 o1=>bif bQ q1 then bO (IM G N N [iI 0,iI 0,bL (gC o1 0)]) λq3 o3=>bif bQ q3 then ae [ak (gB o3 0)]else bY else ae [ak (gB o1 0)]:aJ):=by kernel_rfl
def aeg:IJ G N (n+1) [aa r0,iI i1,iI i2,iI i3]=(bif aU i3 (ln r0)then bp i3 r0<|bif aU (gI (aD r0 i3) 0) i1 then bY else bp i3 r0<|bif aU i2 (gI (aD r0 i3) 0)then bY else bif aU 0 i3 then bp i3 r0<|bp (bw (i3- 1)) r0<|bif cg (gI (aD r0 i3) 0) (gI (aD r0 (bw (i3- 1))) 0)then bY else IJ G N n [aa r0,iI i1,iI i2,cC i3]else IJ G N n [aa r0,iI i1,iI i2,cC i3]else aN []:aJ):=by kernel_rfl
def az6:bZ CX EE G N Fg [aa r0,iI i1,iI i2]=(bO (IJ G N N [aa r0,iI i1,iI i2,iI 0]) λq1 o1=>bif bQ q1 then ae [ak (gB o1 0)]else c9:aJ):=by kernel_rfl
def ayt:WL G N [J l0]=(bif aU (gI l0 0) 1 then aN [aq,gW l0]else bif aU 16384 (gI l0 0)then aN [aq,gW l0]else ae [gW l0]:aJ):=by kernel_rfl
def axk:Wi G N [bJ r0,J l1]=(bif gI l1 0 != 1 then aN [aq,gW l1]else bif gI l1 1 != 0 then aN [aq,gW l1]else bif gI l1 2 != 0 then aN [aq,gW l1]else bO (G Fg [aa (gR l1 4),iI 0,iI (bw (ln r0- 1))]) λ_ o2=>bif !(gB o2 0)then aN [aq,gW l1]else ae [gW l1]:aJ):=by kernel_rfl
def adV:IB G N (n+1) [bJ r0,iI i1,J l2]=(bif aU i1 (ln (gR l2 4))then bp i1 (gR l2 4)<|bp (gI (aD (gR l2 4) i1) 0) r0<|bif gB (aD r0 (gI (aD (gR l2 4) i1) 0)) 3 then ae [aq,gW l2]else bp i1 (gR l2 4)<|bp (gI (aD (gR l2 4) i1) 0) r0<|bif gI (aD r0 (gI (aD (gR l2 4) i1) 0)) 0 != 1 then ae [aq,gW l2]else IB G N n [bJ r0,cC i1,gW l2]else aN [gW l2]:aJ):=by kernel_rfl
def az8:bZ CX EE G N Xd [bJ r0,J l1]=(bO (WL G N [gW l1]) λq1 o1=>bif bQ q1 then bif !(gB (gC o1 0) 3)then bif ln (gR (gC o1 0) 4)==0 then bif cg (-2147483648) (gI (gC o1 0) 1)then bif cg (gI (gC o1 0) 2) 2147483647 then ae [ak (cg (gI (gC o1 0) 1) (gI (gC o1 0) 2))]else bY else bY else bY else bO (Wi G N [bJ r0,gW (gC o1 0)]) λq3 o3=>bif bQ q3 then bO (IB G N N [bJ r0,iI 0,gW (gC o3 0)]) λq4 o4=>bif bQ q4 then ae [ak (gB o4 0)]else c9 else ae [ak (gB o3 0)]else ae [ak (gB o1 0)]:aJ):=by kernel_rfl
def axr:Wp G N [bJ r0]=(bif aU (ln r0) 1 then abi else bif aU 2048 (ln r0)then abi else ae []:aJ):=by kernel_rfl
def adH:Iv G N (n+1) [bJ r0,iI i1,iI i2]=(bif aU i2 (ln r0)then bp i2 r0<|bO (G Xd [bJ r0,gW (aD r0 i2)]) λ_ o2=>bif !(gB o2 0)then bY else bp i2 r0<|Iv G N n [bJ r0,iI (bw (i1+gI (aD r0 i2) 0)),cC i2]else aN [iI i1]:aJ):=by kernel_rfl
def WD:bZ CX EE G N WW [bJ r0]=(bO (Wp G N [bJ r0]) λq1 o1=>bif bQ q1 then bO (Iv G N N [bJ r0,iI 0,iI 0]) λq3 o3=>bif bQ q3 then ae [ak (gB o3 0)]else ae [ak (cg (gI o3 0) 16384)]else ae [ak (gB o1 0)]:aJ):=by kernel_rfl
def afP:OU G N (n+1) [aa r0,iI i1,iI i2]=(bif aU i2 (ln r0)then bp i2 r0<|bif gI (aD r0 i2) 0==i1 then c9 else OU G N n [aa r0,iI i1,cC i2]else aN []:aJ):=by kernel_rfl
def aDa:bZ CX EE G N rQ [aa r0,iI i1]=(bO (OU G N N [aa r0,iI i1,iI 0]) λq1 o1=>bif bQ q1 then ae [ak (gB o1 0)]else bY:aJ):=by kernel_rfl
def aeb:NF G N (n+1) [aa r0,iI i1,iI i2,iI i3]=(bif aU i3 (ln r0)then bp i3 r0<|bif aU (gI (aD r0 i3) 0) i1 then bY else bp i3 r0<|bif aU i2 (gI (aD r0 i3) 0)then bY else aR (cg 0 i3&&cg i3 (ln r0)&&cg (ln r0) (ln r0))<|bp i3 r0<|bO (G rQ [aa (r0.take i3.toNat),iI (gI (aD r0 i3) 0)]) λ_ o1=>bif gB o1 0 then bY else NF G N n [aa r0,iI i1,iI i2,cC i3]else aN []:aJ):=by kernel_rfl
def az3:bZ CX EE G N B3 [aa r0,iI i1,iI i2]=(bO (NF G N N [aa r0,iI i1,iI i2,iI 0]) λq2 o2=>bif bQ q2 then ae [ak (gB o2 0)]else c9:aJ):=by kernel_rfl
def aeC:NX G N (n+1) [iI i0,J l1,cG r2]=(bif aU i0 (ln (gR l1 0))then aR (lV ((r2.length+1)*24) 140737488355328)<|NX G N n [cC i0,bL l1,cG (r2++(([[iI (-1),iI (-1),iI (-1)]]:aW)))]else ae [bL l1,cG r2]:aJ):=by kernel_rfl
def ays:WK G N [J l0,cG r1]=(bO (NX G N N [iI 0,bL l0,cG r1]) λ_ o1=>ae [bL (gC o1 0),cG (gR o1 1)]:aJ):=by kernel_rfl
def adG:ER G N (n+1) [iI i0,iI i1,J l2,cG r3]=(bp i0 (gR l2 3)<|bif aU i1 (ln (gR (aD (gR l2 3) i0) 1))then bp i0 (gR l2 3)<|bp i1 (gR (aD (gR l2 3) i0) 1)<|bp (gI (aD (gR (aD (gR l2 3) i0) 1) i1) 0) r3<|aR (dH ((gI (aD (gR (aD (gR l2 3) i0) 1) i1) 0).toNat) (r3.length))<|bif cg 0 (gI (aD r3 (gI (aD (gR (aD (gR l2 3) i0) 1) i1) 0)) 0)then ae [aq,bL l2,cG r3,cG cy]else bp (gI (aD (gR (aD (gR l2 3) i0) 1) i1) 0) r3<|aR (dH ((gI (aD (gR (aD (gR l2 3) i0) 1) i1) 0).toNat) (r3.length))<|ER G N n [iI i0,cC i1,bL l2,cG (r3.set ((gI (aD (gR (aD (gR l2 3) i0) 1) i1) 0).toNat) (setAt (aD r3 (gI (aD (gR (aD (gR l2 3) i0) 1) i1) 0)) 0 [iI i0]))]else aN [bL l2,cG r3]:aJ):=by kernel_rfl
def aef:E0 G N (n+1) [iI i0,J l1,cG r2]=(bif aU i0 (ln (gR l1 3))then bp i0 (gR l1 3)<|bO (G Fg [aa (gR (aD (gR l1 3) i0) 1),iI 0,iI (bw (ln (gR l1 0)- 1))]) λ_ o3=>bif !(gB o3 0)then ae [aq,bL l1,cG r2,cG cy]else bO (ER G N N [iI i0,iI 0,bL l1,cG r2]) λq4 o4=>bif bQ q4 then ae [ak (gB o4 0),bL (gC o4 1),cG (gR o4 2),cG (gR o4 3)]else E0 G N n [cC i0,bL (gC o4 0),cG (gR o4 1)]else aN [bL l1,cG r2]:aJ):=by kernel_rfl
def aeL:N3 G N [J l0,cG r1]=(bO (E0 G N N [iI 0,bL l0,cG r1]) λq5 o5=>bif bQ q5 then aN [ak (gB o5 0),bL (gC o5 1),cG (gR o5 2),cG (gR o5 3)]else ae [bL (gC o5 0),cG (gR o5 1)]:aJ):=by kernel_rfl
def atk:UX G N [J l0,J l1]=(bif aU 8 (ln (gR l1 0))then aN [aq,bL l0,J [aa (gR l1 0),aa (gR l1 1)],cG cy]else bif aU 8 (ln (gR l1 1))then aN [aq,bL l0,J [aa (gR l1 0),aa (gR l1 1)],cG cy]else bO (G B3 [aa (gR l1 0),iI 0,iI (bw (ln (gR l0 0)- 1))]) λ_ o7=>bif !(gB o7 0)then aN [aq,bL l0,J [aa (gR l1 0),aa (gR l1 1)],cG cy]else bO (G B3 [aa (gR l1 1),iI 0,iI (bw (ln (gR l0 0)- 1))]) λ_ o8=>bif !(gB o8 0)then aN [aq,bL l0,J [aa (gR l1 0),aa (gR l1 1)],cG cy]else ae [bL l0,J [aa (gR l1 0),aa (gR l1 1)]]:aJ):=by kernel_rfl
def ar5:Ur G N [iI i0,iI i1,iI i2,cG r3]=(bp i2 r3<|aR (dH (i2.toNat) (r3.length))<|bif gI (aD r3 i2) 1==i0 then bp i2 r3<|aR (dH (i2.toNat) (r3.length))<|ae [ak (gI (aD r3 i2) 2==i1),cG r3]else ae [aq,cG r3]:aJ):=by kernel_rfl
def arz:Uj G N [iI i0,ak b1,J l2,cG r3]=(bp i0 (gR l2 0)<|bif gI (aD (gR l2 0) i0) 0 != 1 then aN [aq,bL l2,cG r3,cG cy]else bp i0 r3<|aR (dH (i0.toNat) (r3.length))<|bif cg 0 (gI (aD r3 i0) 0)then aN [aq,bL l2,cG r3,cG cy]else bp i0 r3<|aR (dH (i0.toNat) (r3.length))<|bif cg 0 (gI (aD r3 i0) 1)then bif !b1 then aN [aq,bL l2,cG r3,cG cy]else ae [bL l2,cG r3]else ae [bL l2,cG r3]:aJ):=by kernel_rfl
def adk:ED G N (n+1) [iI i0,iI i1,iI i2,J l3,cG r4,aa r5]=(bif aU i2 (ln r5)then bp i2 r5<|aR (dH (i2.toNat) (r5.length))<|bO (Ur G N [iI i0,iI i1,iI (gI (aD r5 i2) 0),cG r4]) λ_ cV=>bO (Uj G N [iI (gI (aD r5 i2) 0),ak (gB cV 0),bL l3,cG (gR cV 1)]) λre cX=>bif bQ re then bp (gI (aD r5 i2) 0) (gR cX 1)<|aR (dH ((gI (aD r5 i2) 0).toNat) ((gR cX 1).length))<|bp (gI (aD r5 i2) 0) ((gR cX 1).set ((gI (aD r5 i2) 0).toNat) (setAt (aD (gR cX 1) (gI (aD r5 i2) 0)) 1 [iI i0]))<|aR (dH ((gI (aD r5 i2) 0).toNat) (((gR cX 1).set ((gI (aD r5 i2) 0).toNat) (setAt (aD (gR cX 1) (gI (aD r5 i2) 0)) 1 [iI i0])).length))<|ED G N n [iI i0,iI i1,cC i2,bL (gC cX 0),cG (((gR cX 1).set ((gI (aD r5 i2) 0).toNat) (setAt (aD (gR cX 1) (gI (aD r5 i2) 0)) 1 [iI i0])).set ((gI (aD r5 i2) 0).toNat) (setAt (aD ((gR cX 1).set ((gI (aD r5 i2) 0).toNat) (setAt (aD (gR cX 1) (gI (aD r5 i2) 0)) 1 [iI i0])) (gI (aD r5 i2) 0)) 2 [iI i1])),aa r5]else ae [ak (gB cX 0),bL (gC cX 1),cG (gR cX 2),aa r5,cG (gR cX 3)]else aN [bL l3,cG r4,aa r5]:aJ):=by kernel_rfl
def adF:BL G N (n+1) [iI i0,iI i1,J l2,cG r3]=(bp i0 (gR l2 2)<|bif aU i1 (ln (gR (aD (gR l2 2) i0) 1))then bp i0 (gR l2 2)<|bp i1 (gR (aD (gR l2 2) i0) 1)<|bO (UX G N [bL l2,J [aa (gR (aD (gR (aD (gR l2 2) i0) 1) i1) 0),aa (gR (aD (gR (aD (gR l2 2) i0) 1) i1) 1)]]) λq9 o9=>bif bQ q9 then aR (xy (gR (gC o9 1) 0))<|aR (zl ((([]:aW))++(gR (gC o9 1) 0)) (gR (gC o9 1) 1))<|bO (ED G N N [iI i0,iI i1,iI 0,bL (gC o9 0),cG r3,aa (((([]:aW))++(gR (gC o9 1) 0))++(gR (gC o9 1) 1))]) λpN dj=>bif bQ pN then ae [ak (gB dj 0),bL (gC dj 1),cG (gR dj 2),cG (gR dj 4)]else BL G N n [iI i0,cC i1,bL (gC dj 0),cG (gR dj 1)]else ae [ak (gB o9 0),bL (gC o9 1),cG r3,cG (gR o9 3)]else aN [bL l2,cG r3]:aJ):=by kernel_rfl
def aee:EZ G N (n+1) [iI i0,J l1,cG r2]=(bif aU i0 (ln (gR l1 2))then bO (BL G N N [iI i0,iI 0,bL l1,cG r2]) λzf fe=>bif bQ zf then ae [ak (gB fe 0),bL (gC fe 1),cG (gR fe 2),cG (gR fe 3)]else EZ G N n [cC i0,bL (gC fe 0),cG (gR fe 1)]else aN [bL l1,cG r2]:aJ):=by kernel_rfl
def aeK:N2 G N [J l0,cG r1]=(bO (EZ G N N [iI 0,bL l0,cG r1]) λvU dc=>bif bQ vU then aN [ak (gB dc 0),bL (gC dc 1),cG (gR dc 2),cG (gR dc 3)]else ae [bL (gC dc 0),cG (gR dc 1)]:aJ):=by kernel_rfl
def adE:Iu G N (n+1) [iI i0,iI i1,J l2,cG r3]=(bp i0 (gR l2 0)<|bif aU i1 (ln (gR (aD (gR l2 0) i0) 4))then bp i0 (gR l2 0)<|bp i1 (gR (aD (gR l2 0) i0) 4)<|bp (gI (aD (gR (aD (gR l2 0) i0) 4) i1) 0) r3<|aR (dH ((gI (aD (gR (aD (gR l2 0) i0) 4) i1) 0).toNat) (r3.length))<|bif cg 0 (gI (aD r3 (gI (aD (gR (aD (gR l2 0) i0) 4) i1) 0)) 0)then ae [aq,bL l2,cG r3,cG cy]else bp (gI (aD (gR (aD (gR l2 0) i0) 4) i1) 0) r3<|aR (dH ((gI (aD (gR (aD (gR l2 0) i0) 4) i1) 0).toNat) (r3.length))<|bif cg 0 (gI (aD r3 (gI (aD (gR (aD (gR l2 0) i0) 4) i1) 0)) 1)then ae [aq,bL l2,cG r3,cG cy]else Iu G N n [iI i0,cC i1,bL l2,cG r3]else aN [bL l2,cG r3]:aJ):=by kernel_rfl
def aed:II G N (n+1) [iI i0,J l1,cG r2]=(bif aU i0 (ln (gR l1 0))then bO (Iu G N N [iI i0,iI 0,bL l1,cG r2]) λze fX=>bif bQ ze then ae [ak (gB fX 0),bL (gC fX 1),cG (gR fX 2),cG (gR fX 3)]else II G N n [cC i0,bL (gC fX 0),cG (gR fX 1)]else aN [bL l1,cG r2]:aJ):=by kernel_rfl
def aAT:bZ CX EE G N OM [J l0]=(bO (WK G N [bL l0,cG cy]) λ_ o2=>bO (N3 G N [bL (gC o2 0),cG (gR o2 1)]) λq6 o6=>bif bQ q6 then bO (N2 G N [bL (gC o6 0),cG (gR o6 1)]) λvT dr=>bif bQ vT then bO (II G N N [iI 0,bL (gC dr 0),cG (gR dr 1)]) λvS du=>bif bQ vS then ae [ak (gB du 0),cG (gR du 3)]else ae [cw,cG (gR du 1)]else ae [ak (gB dr 0),cG (gR dr 3)]else ae [ak (gB o6 0),cG (gR o6 3)]:aJ):=by kernel_rfl
def W0:af1 G N [iI i0,iI i1]=(bif aU i0 1 then aN [iI (-1)]else bif aU i1 1 then aN [iI (-1)]else ae []:aJ):=by kernel_rfl
def aeA:NW G N (n+1) [iI i0,iI i1,iI i2,iI i3,J l4]=(bif aU i3 (ln (gR l4 8))then bp i3 (gR l4 8)<|bO (G O3 [bS (aD (gR l4 8) i3),iI (bw (i0- i2)),iI (bw (i1- 1))]) λ_ o2=>bif aU (gI o2 0) 0 then ae [iI (-1),bS l4]else NW G N n [iI i0,iI i1,iI (bw (i2+gI o2 0)),cC i3,bS l4]else aN [iI i2,bS l4]:aJ):=by kernel_rfl
def XD:bZ CX EE G N O3 [J l0,iI i1,iI i2]=(bO (af1 G N [iI i1,iI i2]) λq1 o1=>bif bQ q1 then bO (NW G N N [iI i1,iI i2,iI 1,iI 0,bS l0]) λq3 o3=>bif bQ q3 then ae [iI (gI o3 0)]else ae [iI (gI o3 0)]else ae [iI (gI o1 0)]:aJ):=by kernel_rfl
def av8:VW G N [bE i0]=(bif i0==1 then c9 else bif i0==11 then c9 else ae [ak (i0==14)]:aJ):=by kernel_rfl
def atn:U0 G N [bE i0]=(bif i0==6 then c9 else bif i0==7 then c9 else ae [ak (i0==10)]:aJ):=by kernel_rfl
def axp:Wn G N [iI i0,J l1,J l2,aT r3]=(bO (VW G N [bE (gI l1 0)]) λ_ o1=>bif gB o1 0 then ae [iI i0,bS l1,J (sT (nN l2) [(2,iI (gI l1 2)),(8,.aC 2)]),aT r3]else bif gI l1 0==2 then ae [iI i0,bS l1,J (sT (nN l2) [(3,iI (gI l1 3)),(4,iI (gI l1 4)),(8,.aC 2)]),aT r3]else bif gI l1 0==3 then ae [iI 1,bS l1,J (sT (nN l2) [(3,iI (gI l1 3)),(4,iI (gI l1 4)),(5,iI (gI l1 5)),(8,.aC 2)]),aT r3]else bif gI l1 0==4 then ae [iI 1,bS l1,J (sT (nN l2) [(1,bE (gI l1 1)),(8,.aC 2)]),aT r3]else bif gI l1 0==5 then ae [iI 2,bS l1,J (sT (nN l2) [(1,bE (gI l1 1)),(8,.aC 2)]),aT r3]else bO (U0 G N [bE (gI l1 0)]) λ_ o2=>bif gB o2 0 then ae [iI 2,bS l1,J (sT (nN l2) oy),aT r3]else bif gI l1 0==8 then ae [iI 3,bS l1,J (sT (nN l2) oy),aT r3]else bif gI l1 0==9 then ae [iI 1,bS l1,J (sT (nN l2) [(6,iI (gI l1 6)),(7,iI (gI l1 7)),(8,.aC 2)]),aT r3]else bif gI l1 0==12 then ae [iI i0,bS l1,J (sT (nN l2) [(3,iI (gI l1 3)),(8,.aC 2)]),aT r3]else bif gI l1 0==13 then ae [iI 1,bS l1,J (sT (nN l2) oy),aT r3]else aN [aq,bS l1,J (sT (nN l2) oy),aT r3]:aJ):=by kernel_rfl
def aAa:bZ CX EE G N Xe [J l0]=(bO (Wn G N [iI 0,bS l0,J [bE (gI l0 0),bE 0,iI 0,iI 0,iI 0,iI 0,iI 0,iI 0,.aC 2],aT cy]) λq3 o3=>bif bQ q3 then bif ln (gR (gC o3 1) 8)==gI o3 0 then bif gI (gC o3 1) 1==gI (gC o3 2) 1 then bif gI (gC o3 1) 2==gI (gC o3 2) 2 then bif gI (gC o3 1) 3==gI (gC o3 2) 3 then bif gI (gC o3 1) 4==gI (gC o3 2) 4 then bif gI (gC o3 1) 5==gI (gC o3 2) 5 then bif gI (gC o3 1) 6==gI (gC o3 2) 6 then ae [ak (gI (gC o3 1) 7==gI (gC o3 2) 7)]else bY else bY else bY else bY else bY else bY else bY else ae [ak (gB o3 0)]:aJ):=by kernel_rfl
def aBr:bZ CX EE G N O2 [bJ r0,iI i1,iI i2]=(bif cg 0 i1 then bif aU i1 (ln r0)then bif cg 0 i2 then bp i1 r0<|ae [ak (aU i2 (gI (aD r0 i1) 0))]else bY else bY else bY:aJ):=by kernel_rfl
end
noncomputable section
variable {G:Nat->bl->Option UO} {N n:Nat} {i0 i1 i2 i3:Int} {l0 l1 l2 l3 l4:bl} {r0 r1 r2 r3 r4 r5:aW}
def aBv:bZ CX EE G N O5 [bJ r0,iI i1,iI i2,iI i3]=(bif cg 0 i1 then bif aU i1 (ln r0)then bp i1 r0<|bif !(gB (aD r0 i1) 3)then bif cg 0 i2 then bif cg 1 i3 then bp i1 r0<|bif cg i2 (gI (aD r0 i1) 0)then bp i1 r0<|ae [ak (cg i3 (bw (gI (aD r0 i1) 0- i2)))]else bY else bY else bY else bY else bY else bY:aJ):=by kernel_rfl
def aAQ:bZ CX EE G N wH [J l0]=(bif !(gB l0 0)then bif cg 0 (gI l0 3)then ae [ak (cg (gI l0 4) 1)]else bY else bY:aJ):=by kernel_rfl
def ayx:WQ G N [J l0,J l1]=(bif !(gB l0 0)then ae [ak (!(gB l1 0)),cO l0,cO l1]else ae [aq,cO l0,cO l1]:aJ):=by kernel_rfl
def awa:VY G N [bE i0]=(bif i0==1 then c9 else bif i0==2 then c9 else bif i0==3 then c9 else bif i0==4 then c9 else bif i0==5 then c9 else ae [ak (i0==6)]:aJ):=by kernel_rfl
def av9:VX G N [bE i0]=(bif i0==7 then c9 else ae [ak (i0==8)]:aJ):=by kernel_rfl
def au8:VC G N [bE i0]=(bif i0==9 then c9 else bif i0==10 then c9 else bif i0==11 then c9 else ae [ak (i0==12)]:aJ):=by kernel_rfl
def au7:VB G N [bE i0]=(bif i0==13 then c9 else bif i0==14 then c9 else ae [ak (i0==15)]:aJ):=by kernel_rfl
def aAd:bZ CX EE G N Xf [bE i0,J l1,J l2]=(bO (WQ G N [cO l1,cO l2]) λ_ o1=>bO (VY G N [bE i0]) λ_ o2=>bif gB o2 0 then ae [J Ln,ak (gB o1 0)]else bO (VX G N [bE i0]) λ_ o3=>bif gB o3 0 then bif gB o1 0 then ae [J tq,cw]else bif gB (gC o1 1) 0 then bif gB (gC o1 2) 0 then ae [J tq,cw]else ae [J tq,ak (gB (gC o1 2) 1)]else bif gB (gC o1 1) 1 then bif gB (gC o1 2) 0 then ae [J tq,cw]else ae [J tq,ak (gB (gC o1 2) 1)]else ae [J tq,aq]else bO (VC G N [bE i0]) λ_ o4=>bif gB o4 0 then ae [J tq,ak (gB o1 0)]else bO (VB G N [bE i0]) λ_ o5=>bif gB o5 0 then bO (G wH [cO (gC o1 1)]) λ_ o6=>bif gB o6 0 then bO (G wH [cO (gC o1 2)]) λ_ o7=>ae [J tq,ak (gB o7 0)]else ae [J tq,aq]else ae [J pG,aq]:aJ):=by kernel_rfl
def aeE:NY G N (n+1) [iI i0,iI i1,aa r2]=(bif aU i1 (ln r2)then bp i1 r2<|aR (dH (i1.toNat) (r2.length))<|bif gI (aD r2 i1) 0==i0 then ae [cw,aa r2]else NY G N n [iI i0,cC i1,aa r2]else aN [aa r2]:aJ):=by kernel_rfl
def aAV:bZ CX EE G N OO [iI i0,aa r1]=(bO (NY G N N [iI i0,iI 0,aa r1]) λq1 o1=>bif bQ q1 then ae [ak (gB o1 0),aa (gR o1 1)]else ae [aq,aa (gR o1 0)]:aJ):=by kernel_rfl
def axo:Wm G N [J l0,J l1]=(bif gB l0 0 then ae [cw,cO l0,cO l1]else ae [ak (gB l1 0),cO l0,cO l1]:aJ):=by kernel_rfl
def aua:adR G N [iI i0,J l1,eC r2,aa r3]=(bp i0 r2<|aR (dH (i0.toNat) (r2.length))<|bif !(gB (aD r2 i0) 0)then bp i0 r2<|aR (dH (i0.toNat) (r2.length))<|bif !(gB (aD r2 i0) 1)then aN [aq,J [aq,aq,.aC 2,iI 0,iI 0],eC r2,aa cy]else ae [J (sT (eY l1) pF),eC r2,aa r3]else ae [J (sT (eY l1) pF),eC r2,aa r3]:aJ):=by kernel_rfl
def atm:UZ G N [iI i0,iI i1,eC r2]=(bp i0 r2<|aR (dH (i0.toNat) (r2.length))<|bif gB (aD r2 i0) 0 then bp i0 r2<|aR (dH (i0.toNat) (r2.length))<|bif aU i1 (ln (gR (aD r2 i0) 2))then ae [eC r2]else aN [eC r2]else aN [eC r2]:aJ):=by kernel_rfl
def UF:BG G N (n+1) [iI i0,iI i1,J l2,eC r3,aa r4]=(bO (UZ G N [iI i0,iI i1,eC r3]) λq3 o3=>bif bQ q3 then bp i0 (gR o3 0)<|aR (dH (i0.toNat) ((gR o3 0).length))<|bp i1 (gR (aD (gR o3 0) i0) 2)<|bO (G OO [iI (gI (aD (gR (aD (gR o3 0) i0) 2) i1) 0),aa r4]) λ_ o4=>bif !(gB o4 0)then bp i0 (gR o3 0)<|aR (dH (i0.toNat) ((gR o3 0).length))<|bp i1 (gR (aD (gR o3 0) i0) 2)<|aR (lV (((gR o4 1).length +1)*8) 140737488355328)<|BG G N n [iI i0,cC i1,J (sT (eY l2) pF),eC (gR o3 0),aa ((gR o4 1)++(([[iI (gI (aD (gR (aD (gR o3 0) i0) 2) i1) 0)]]:aW)))]else BG G N n [iI i0,cC i1,J (sT (eY l2) pF),eC (gR o3 0),aa (gR o4 1)]else ae [J (sT (eY l2) pF),eC (gR o3 0),aa r4]:aJ):=by kernel_rfl
def adW:BP G N (n+1) [iI i0,J l1,J l2,eC r3,aa r4,aa r5]=(bif aU i0 2 then bO (adR G N [iI i0,J (sT (eY l1) pF),eC r3,aa r4]) λq2 o2=>bif bQ q2 then bO (BG G N N [iI i0,iI 0,J (sT (eY l2) pF),eC (gR o2 1),aa r5]) λ_ o5=>BP G N n [cC i0,J (sT (eY (gC o2 0)) ox),J (sT (eY (gC o5 0)) nA),eC (gR o5 1),aa (gR o2 2),aa (gR o5 2)]else ae [ak (gB o2 0),J (sT (eY (gC o2 1)) ox),J (sT (eY l2) nA),eC (gR o2 2),aa (gR o2 3),aa r5]else aN [J (sT (eY l1) ox),J (sT (eY l2) nA),eC r3,aa r4,aa r5]:aJ):=by kernel_rfl
def afu:bZ CX EE G N Ot [J l0,J l1]=(bO (Wm G N [cO l0,cO l1]) λ_ o1=>bif gB o1 0 then bO (BP G N N [iI 0,J [aq,aq,.aC 3,iI 0,iI 0],J [cw,aq,.aC 4,iI 0,iI 0],eC (([jF (gC o1 1),jF (gC o1 2)]:aW)),aa cy,aa cy]) λq6 o6=>bif bQ q6 then ae [J (sT (jF (gC o6 1)) [(2,aa (gR o6 4))]),ak (gB o6 0)]else ae [J (sT (jF (gC o6 1)) [(2,aa (gR o6 4))]),cw]else ae [J [aq,aq,aa cy,iI (nz (gI (gC o1 1) 3) (gI (gC o1 2) 3)),iI (imax (gI (gC o1 1) 4) (gI (gC o1 2) 4))],cw]:aJ):=by kernel_rfl
def ayq:afh G N [J l0,J l1,aa r2]=(bif !(gB l0 0)then bif !(gB l0 1)then aN [aq,cO l0,J [aq,aq,.aC 2,iI 0,iI 0],aa cy]else ae [cO l0,J (sT (eY l1) pF),aa r2]else ae [cO l0,J (sT (eY l1) pF),aa r2]:aJ):=by kernel_rfl
def adU:ES G N (n+1) [bJ r0,iI i1,J l2,J l3,aa r4]=(bif aU i1 (ln (gR l2 2))then bp i1 (gR l2 2)<|bp (gI (aD (gR l2 2) i1) 0) r0<|bif i1==0 then ES G N n [bJ r0,cC i1,cO l2,J [ak (gB l3 0),ak (gB l3 1),.aC 2,iI (nz (gI (aD r0 (gI (aD (gR l2 2) i1) 0)) 1) (gI (aD r0 (gI (aD (gR l2 2) i1) 0)) 1)),iI (imax (gI (aD r0 (gI (aD (gR l2 2) i1) 0)) 2) (gI (aD r0 (gI (aD (gR l2 2) i1) 0)) 2))],aa r4]else ES G N n [bJ r0,cC i1,cO l2,J [ak (gB l3 0),ak (gB l3 1),.aC 2,iI (nz (gI l3 3) (gI (aD r0 (gI (aD (gR l2 2) i1) 0)) 1)),iI (imax (gI l3 4) (gI (aD r0 (gI (aD (gR l2 2) i1) 0)) 2))],aa r4]else ae [cO l2,J (sT (eY l3) pF),aa r4]:aJ):=by kernel_rfl
def az4:bZ CX EE G N Xc [bJ r0,J l1]=(bO (afh G N [cO l1,J [aq,aq,.aC 2,iI 0,iI 0],aa cy]) λq1 o1=>bif bQ q1 then bO (ES G N N [bJ r0,iI 0,cO (gC o1 0),J [aq,aq,.aC 2,iI 0,iI 0],aa cy]) λ_ o2=>ae [J (sT (eY (gC o2 1)) qW),cw,aa (gR o2 2)]else ae [J (sT (eY (gC o1 2)) qW),ak (gB o1 0),aa (gR o1 3)]:aJ):=by kernel_rfl
def axj:Wh G N [iI i0,J l1,J l2,eC r3,J l4]=(bif gI l2 0==10 then bif i0==1 then aR (lV ((0+(gR l1 1).length)*48) 140737488355328)<|aR (aU 0 (ln r3))<|aR (dH 0 (r3.length))<|aR (lV ((((([]:aW))++(gR l1 1)).length +(([jF (gA r3 0)]:aW)).length)*48) 140737488355328)<|ae [mS l1,bS l2,eC r3,J [bJ (gR l4 0),eC (((([]:aW))++(gR l1 1))++(([jF (gA r3 0)]:aW))),iI (gI l4 2)]]else ae [mS l1,bS l2,eC r3,mS l4]else ae [mS l1,bS l2,eC r3,mS l4]:aJ):=by kernel_rfl
def aez:wG G N (n+1) [iI i0,J l1,J l2,J l3,eC r4,aa r5]=(bif aU i0 (ln (gR l2 8))then bO (Wh G N [iI i0,mS l1,bS l2,eC r4,mS l1]) λ_ o2=>bp i0 (gR (gC o2 1) 8)<|bO (G Jo [mS (gC o2 3),bS (aD (gR (gC o2 1) 8) i0)]) λ_ o3=>bif !(gB o3 1)then ae [aq,mS (gC o2 0),bS (gC o2 1),J [aq,aq,.aC 3,iI 0,iI 0],aa cy]else aR (lV (((gR o2 2).length +1)*48) 140737488355328)<|wG G N n [cC i0,mS (gC o2 0),bS (gC o2 1),J (sT (eY l3) nA),eC ((gR o2 2)++(([jF (gC o3 0)]:aW))),aa r5]else aN [mS l1,bS l2,J (sT (eY l3) nA),eC r4,aa r5]:aJ):=by kernel_rfl
def azk:Of G N [J l0,J l1,J l2,eC r3,aa r4]=(bO (wG G N N [iI 0,mS l0,bS l1,J (sT (eY l2) nA),eC r3,aa r4]) λq4 o4=>bif bQ q4 then aN [ak (gB o4 0),mS (gC o4 1),bS (gC o4 2),J (sT (eY (gC o4 3)) ox),aa (gR o4 4)]else ae [mS (gC o4 0),bS (gC o4 1),J (sT (eY (gC o4 2)) nA),eC (gR o4 3),aa (gR o4 4)]:aJ):=by kernel_rfl
def au4:Vy G N [bE i0]=(bif i0==6 then c9 else ae [ak (i0==7)]:aJ):=by kernel_rfl
def ar4:Uq G N [J l0,J l1]=(bif cg 0 (gI l1 3)then bif aU (gI l1 3) (ln (gR l0 0))then bp (gI l1 3) (gR l0 0)<|bif !(gB (aD (gR l0 0) (gI l1 3)) 3)then bp (gI l1 3) (gR l0 0)<|ae [ak (gI (aD (gR l0 0) (gI l1 3)) 0==1),mS l0,bS l1]else ae [aq,mS l0,bS l1]else ae [aq,mS l0,bS l1]else ae [aq,mS l0,bS l1]:aJ):=by kernel_rfl
def XC:bZ CX EE G N Jo [J l0,J l1]=(bO (G Xe [bS l1]) λ_ o1=>bif !(gB o1 0)then ae [J pG,aq]else bO (Of G N [mS l0,bS l1,J [aq,aq,.aC 4,iI 0,iI 0],eC cy,aa cy]) λq5 o5=>bif bQ q5 then bif gI (gC o5 1) 0==1 then bif cg (-2147483648) (gI (gC o5 1) 2)then ae [J [aq,ak (gI (gC o5 1) 2==0),aa cy,iI (gI (gC o5 1) 2),iI (gI (gC o5 1) 2)],ak (cg (gI (gC o5 1) 2) 2147483647)]else ae [J [aq,ak (gI (gC o5 1) 2==0),aa cy,iI (gI (gC o5 1) 2),iI (gI (gC o5 1) 2)],aq]else bif gI (gC o5 1) 0==2 then bO (G O2 [bJ (gR (gC o5 0) 0),iI (gI (gC o5 1) 3),iI (gI (gC o5 1) 4)]) λ_ o6=>bif !(gB o6 0)then ae [J pG,aq]else bp (gI (gC o5 1) 3) (gR (gC o5 0) 0)<|ae [J [ak (gB (aD (gR (gC o5 0) 0) (gI (gC o5 1) 3)) 3),aq,aa (gR (aD (gR (gC o5 0) 0) (gI (gC o5 1) 3)) 4),iI (gI (aD (gR (gC o5 0) 0) (gI (gC o5 1) 3)) 1),iI (gI (aD (gR (gC o5 0) 0) (gI (gC o5 1) 3)) 2)],cw]else bif gI (gC o5 1) 0==3 then bO (G O5 [bJ (gR (gC o5 0) 0),iI (gI (gC o5 1) 3),iI (gI (gC o5 1) 4),iI (gI (gC o5 1) 5)]) λ_ o7=>bif !(gB o7 0)then ae [J pG,aq]else bp (gI (gC o5 1) 3) (gR (gC o5 0) 0)<|bp (gI (gC o5 1) 3) (gR (gC o5 0) 0)<|aR (aU 0 (ln (gR o5 3)))<|aR (dH 0 ((gR o5 3).length))<|ae [J [aq,aq,aa cy,iI (gI (aD (gR (gC o5 0) 0) (gI (gC o5 1) 3)) 1),iI (gI (aD (gR (gC o5 0) 0) (gI (gC o5 1) 3)) 2)],ak (!(gB (gA (gR o5 3) 0) 0))]else bif gI (gC o5 1) 0==4 then bif gI (gC o5 1) 1==18 then aR (aU 0 (ln (gR o5 3)))<|aR (dH 0 ((gR o5 3).length))<|bO (G wH [cO (gA (gR o5 3) 0)]) λ_ o8=>ae [J tq,ak (gB o8 0)]else bif gI (gC o5 1) 1==16 then aR (aU 0 (ln (gR o5 3)))<|aR (dH 0 ((gR o5 3).length))<|ae [J Ln,ak (!(gB (gA (gR o5 3) 0) 0))]else bif gI (gC o5 1) 1==17 then aR (aU 0 (ln (gR o5 3)))<|aR (dH 0 ((gR o5 3).length))<|ae [J Ln,ak (!(gB (gA (gR o5 3) 0) 0))]else ae [J Ln,aq]else bif gI (gC o5 1) 0==5 then aR (aU 0 (ln (gR o5 3)))<|aR (dH 0 ((gR o5 3).length))<|aR (aU 1 (ln (gR o5 3)))<|aR (dH 1 ((gR o5 3).length))<|bO (G Xf [bE (gI (gC o5 1) 1),cO (gA (gR o5 3) 0),cO (gA (gR o5 3) 1)]) λ_ o9=>ae [cO (gC o9 0),ak (gB o9 1)]else bO (Vy G N [bE (gI (gC o5 1) 0)]) λ_ cV=>bif gB cV 0 then aR (aU 0 (ln (gR o5 3)))<|aR (dH 0 ((gR o5 3).length))<|bO (G wH [cO (gA (gR o5 3) 0)]) λ_ cX=>bif gB cX 0 then aR (aU 1 (ln (gR o5 3)))<|aR (dH 1 ((gR o5 3).length))<|bO (G wH [cO (gA (gR o5 3) 1)]) λ_ dj=>ae [J tq,ak (gB dj 0)]else ae [J tq,aq]else bif gI (gC o5 1) 0==8 then aR (aU 1 (ln (gR o5 3)))<|aR (dH 1 ((gR o5 3).length))<|aR (aU 2 (ln (gR o5 3)))<|aR (dH 2 ((gR o5 3).length))<|bO (G Ot [cO (gA (gR o5 3) 1),cO (gA (gR o5 3) 2)]) λ_ fe=>bif gB fe 1 then aR (aU 0 (ln (gR o5 3)))<|aR (dH 0 ((gR o5 3).length))<|bO (G wH [cO (gA (gR o5 3) 0)]) λ_ dc=>ae [cO (gC fe 0),ak (gB dc 0)]else ae [cO (gC fe 0),aq]else bif gI (gC o5 1) 0==9 then bif cg (-2147483648) (gI (gC o5 1) 6)then bif cg (gI (gC o5 1) 7) 2147483647 then bif cg (gI (gC o5 1) 6) (gI (gC o5 1) 7)then aR (aU 0 (ln (gR o5 3)))<|aR (dH 0 ((gR o5 3).length))<|ae [J [aq,aq,aa cy,iI (gI (gC o5 1) 6),iI (gI (gC o5 1) 7)],ak (!(gB (gA (gR o5 3) 0) 0))]else ae [J [aq,aq,aa cy,iI (gI (gC o5 1) 6),iI (gI (gC o5 1) 7)],aq]else ae [J [aq,aq,aa cy,iI (gI (gC o5 1) 6),iI (gI (gC o5 1) 7)],aq]else ae [J [aq,aq,aa cy,iI (gI (gC o5 1) 6),iI (gI (gC o5 1) 7)],aq]else bif gI (gC o5 1) 0==10 then aR (aU 1 (ln (gR o5 3)))<|aR (dH 1 ((gR o5 3).length))<|ae [J (sT (jF (gA (gR o5 3) 1)) [(1,aq)]),cw]else bif gI (gC o5 1) 0==11 then bif aU (gI (gC o5 1) 2) 0 then ae [J pG,aq]else bif cg (ln (gR (gC o5 0) 1)) (gI (gC o5 1) 2)then ae [J pG,aq]else bp (bw ((bw ((ln (gR (gC o5 0) 1))- 1))- gI (gC o5 1) 2)) (gR (gC o5 0) 1)<|ae [J (sT (jF (aD (gR (gC o5 0) 1) (bw ((bw ((ln (gR (gC o5 0) 1))- 1))- gI (gC o5 1) 2)))) [(1,aq)]),cw]else bif gI (gC o5 1) 0==12 then bO (Uq G N [mS (gC o5 0),bS (gC o5 1)]) λ_ dr=>ae [J [cw,aq,aa (([[iI (gI (gC dr 2) 3)]]:aW)),iI 0,iI 0],ak (gB dr 0)]else bif gI (gC o5 1) 0==13 then aR (aU 0 (ln (gR o5 3)))<|aR (dH 0 ((gR o5 3).length))<|bO (G Xc [bJ (gR (gC o5 0) 0),cO (gA (gR o5 3) 0)]) λ_ fX=>ae [J (sT (jF (gC fX 0)) [(2,aa (gR fX 2))]),ak (gB fX 1)]else bif cg 0 (gI (gC o5 1) 2)then ae [J SU,ak (aU (gI (gC o5 1) 2) (gI (gC o5 0) 2))]else ae [J SU,aq]else ae [J (sT (jF (gC o5 3)) [(2,aa (gR o5 4))]),ak (gB o5 0)]:aJ):=by kernel_rfl
def ahC:bZ CX EE G N Cw [J l0,J l1]=(bO (G O3 [bS l1,iI 256,iI 64]) λ_ o1=>bif aU (gI o1 0) 0 then ae [J pG,aq]else bO (G Jo [mS l0,bS l1]) λ_ o2=>ae [cO (gC o2 0),ak (gB o2 1)]:aJ):=by kernel_rfl
def awb:VZ G N [bE i0]=(bif i0==1 then c9 else bif i0==14 then c9 else bif i0==6 then c9 else ae [ak (i0==7)]:aJ):=by kernel_rfl
def axq:Wo G N [bJ r0,aa r1,J l2]=(bO (VZ G N [bE (gI l2 0)]) λ_ o1=>bif gB o1 0 then ae [bS l2]else bif gI l2 0==2 then bO (G rQ [aa r1,iI (gI l2 3)]) λ_ o2=>bif !(gB o2 0)then aN [aq,bS l2]else bp (gI l2 3) r0<|bif gB (aD r0 (gI l2 3)) 3 then aN [aq,bS l2]else ae [bS l2]else bif gI l2 0==4 then bif gI l2 1 != 18 then aN [aq,bS l2]else ae [bS l2]else bif gI l2 0==5 then bif aU (gI l2 1) 7 then aN [aq,bS l2]else bif aU 15 (gI l2 1)then aN [aq,bS l2]else ae [bS l2]else aN [aq,bS l2]:aJ):=by kernel_rfl
def adX:Ns G N (n+1) [bJ r0,aa r1,iI i2,J l3]=(bif aU i2 (ln (gR l3 8))then bp i2 (gR l3 8)<|bO (G IQ [bJ r0,aa r1,bS (aD (gR l3 8) i2)]) λ_ o4=>bif !(gB o4 0)then ae [aq,bS l3]else Ns G N n [bJ r0,aa r1,cC i2,bS l3]else aN [bS l3]:aJ):=by kernel_rfl
def afe:bZ CX EE G N IQ [bJ r0,aa r1,J l2]=(bO (Wo G N [bJ r0,aa r1,bS l2]) λq3 o3=>bif bQ q3 then bO (Ns G N N [bJ r0,aa r1,iI 0,bS (gC o3 0)]) λq5 o5=>bif bQ q5 then ae [ak (gB o5 0)]else c9 else ae [ak (gB o3 0)]:aJ):=by kernel_rfl
def atl:UY G N [bE i0]=(bif i0==8 then c9 else ae [ak (i0==10)]:aJ):=by kernel_rfl
def ar6:Us G N [bE i0]=(bif i0==12 then c9 else ae [ak (i0==13)]:aJ):=by kernel_rfl
end
noncomputable section
variable {G:Nat->bl->Option UO} {N n:Nat} {b3:Bool} {i0 i1 i2:Int} {l0 l1 l2 l3 l4 l5:bl} {r0 r2 r3 r4 r5 r6 r7 r8 r9 eH fE fD fC fq:aW}
def ayu:WM G N [iI i0,iI i1,iI i2,ak b3,J l4,J l5,aT r6,aT r7,bH r8,bH r9,aa eH,bC fE,dh fD,dg fC,c8 fq]=(bif gI l4 0==1 then ae [iI i0,iI i1,iI i2,ak b3,av l4,J (sT (fw l5) mN),aT r6,aT r7,bH r8,bH r9,aa eH,bC fE,dh fD,dg fC,c8 fq]else bif gI l4 0==2 then ae [iI 1,iI 1,iI i2,ak b3,av l4,J (sT (fw l5) mN),aT r6,aT r7,bH r8,bH r9,aa eH,bC fE,dh fD,dg fC,c8 fq]else bif gI l4 0==3 then ae [iI i0,iI i1,iI (-1),ak b3,av l4,J (sT (fw l5) mN),aT r6,aT r7,bH r8,bH r9,aa eH,bC fE,dh fD,dg fC,c8 fq]else bif gI l4 0==4 then ae [iI 1,iI i1,iI 2,ak b3,av l4,J (sT (fw l5) mN),aT r6,aT r7,bH r8,bH r9,aa eH,bC fE,dh fD,dg fC,c8 fq]else bif gI l4 0==5 then ae [iI 1,iI i1,iI 1,ak b3,av l4,J (sT (fw l5) mN),aT r6,aT r7,bH r8,bH r9,aa eH,bC fE,dh fD,dg fC,c8 fq]else bif gI l4 0==6 then ae [iI 2,iI i1,iI 1,ak b3,av l4,J [bE (gI l5 0),iI (gI l5 1),iI (gI l4 2),iI (gI l5 3),iI (gI l5 4),iI (gI l5 5),ak (gB l5 6),ak (gB l4 7),ak (gB l5 8),ak (gB l5 9),ak (gB l5 10),bE (gI l5 11),.aC 2,.aC 3,.aC 4,.aC 5,.aC 6,.aC 7,.aC 8,.aC 9,.aC 10],aT r6,aT r7,bH r8,bH r9,aa eH,bC fE,dh fD,dg fC,c8 fq]else bif gI l4 0==7 then ae [iI i0,iI i1,iI 1,ak b3,av l4,J (sT (fw l5) [(1,iI (gI l4 1)),(12,.aC 2),(13,.aC 3),(14,.aC 4),(15,.aC 5),(16,.aC 6),(17,.aC 7),(18,.aC 8),(19,.aC 9),(20,.aC 10)]),aT r6,aT r7,bH r8,bH r9,aa eH,bC fE,dh fD,dg fC,c8 fq]else bO (UY G N [bE (gI l4 0)]) λ_ o1=>bif gB o1 0 then ae [iI i0,iI i1,iI i2,ak b3,av l4,J (sT (fw l5) [(1,iI (gI l4 1)),(12,.aC 2),(13,.aC 3),(14,.aC 4),(15,.aC 5),(16,.aC 6),(17,.aC 7),(18,.aC 8),(19,.aC 9),(20,.aC 10)]),aT r6,aT r7,bH r8,bH r9,aa eH,bC fE,dh fD,dg fC,c8 fq]else bif gI l4 0==9 then ae [iI i0,iI i1,iI 1,cw,av l4,J (sT (fw l5) mN),aT r6,aT r7,bH r8,bH r9,aa eH,bC fE,dh fD,dg fC,c8 fq]else bif gI l4 0==11 then ae [iI 1,iI i1,iI i2,ak b3,av l4,J (sT (fw l5) mN),aT r6,aT r7,bH r8,bH r9,aa eH,bC fE,dh fD,dg fC,c8 fq]else bO (Us G N [bE (gI l4 0)]) λ_ o2=>bif gB o2 0 then ae [iI i0,iI 1,iI i2,ak b3,av l4,J (sT (fw l5) mN),aT r6,aT r7,bH r8,bH r9,aa eH,bC fE,dh fD,dg fC,c8 fq]else bif gI l4 0==14 then bif gB l4 6 then ae [iI i0,iI 1,iI i2,ak b3,av l4,J [bE (gI l5 0),iI (gI l5 1),iI (gI l5 2),iI (gI l5 3),iI (gI l4 4),iI (gI l4 5),ak (gB l4 6),ak (gB l5 7),ak (gB l5 8),ak (gB l5 9),ak (gB l5 10),bE (gI l5 11),.aC 2,.aC 3,.aC 4,.aC 5,.aC 6,.aC 7,.aC 8,.aC 9,.aC 10],aT r6,aT r7,bH r8,bH r9,aa eH,bC fE,dh fD,dg fC,c8 fq]else ae [iI i0,iI 1,iI i2,ak b3,av l4,J [bE (gI l5 0),iI (gI l5 1),iI (gI l5 2),iI (gI l5 3),iI (gI l5 4),iI (gI l4 5),ak (gB l4 6),ak (gB l5 7),ak (gB l5 8),ak (gB l5 9),ak (gB l5 10),bE (gI l5 11),.aC 2,.aC 3,.aC 4,.aC 5,.aC 6,.aC 7,.aC 8,.aC 9,.aC 10],aT r6,aT r7,bH r8,bH r9,aa eH,bC fE,dh fD,dg fC,c8 fq]else bif gI l4 0==15 then ae [iI 1,iI i1,iI i2,ak b3,av l4,J (sT (fw l5) [(8,ak (gB l4 8)),(12,.aC 2),(13,.aC 3),(14,.aC 4),(15,.aC 5),(16,.aC 6),(17,.aC 7),(18,.aC 8),(19,.aC 9),(20,.aC 10)]),aT r6,aT r7,bH r8,bH r9,aa eH,bC fE,dh fD,dg fC,c8 fq]else bif gI l4 0==16 then ae [iI (-1),iI i1,iI 2,ak b3,av l4,J [bE (gI l5 0),iI (gI l5 1),iI (gI l5 2),iI (gI l4 3),iI (gI l5 4),iI (gI l4 5),ak (gB l5 6),ak (gB l5 7),ak (gB l5 8),ak (gB l5 9),ak (gB l5 10),bE (gI l4 11),.aC 2,.aC 3,.aC 4,.aC 5,.aC 6,.aC 7,.aC 8,.aC 9,.aC 10],aT r6,aT r7,bH r8,bH r9,aa eH,bC fE,dh fD,dg fC,c8 fq]else bif gI l4 0==17 then ae [iI (-1),iI i1,iI 3,ak b3,av l4,J [bE (gI l5 0),iI (gI l5 1),iI (gI l5 2),iI (gI l5 3),iI (gI l4 4),iI (gI l4 5),ak (gB l5 6),ak (gB l5 7),ak (gB l5 8),ak (gB l5 9),ak (gB l5 10),bE (gI l4 11),.aC 2,.aC 3,.aC 4,.aC 5,.aC 6,.aC 7,.aC 8,.aC 9,.aC 10],aT r6,aT r7,bH r8,bH r9,aa eH,bC fE,dh fD,dg fC,c8 fq]else bif gI l4 0==18 then ae [iI i0,iI i1,iI 2,ak b3,av l4,J (sT (fw l5) [(5,iI (gI l4 5)),(12,.aC 2),(13,.aC 3),(14,.aC 4),(15,.aC 5),(16,.aC 6),(17,.aC 7),(18,.aC 8),(19,.aC 9),(20,.aC 10)]),aT r6,aT r7,bH r8,bH r9,aa eH,bC fE,dh fD,dg fC,c8 fq]else bif gI l4 0==19 then ae [iI i0,iI i1,iI 1,cw,av l4,J (sT (fw l5) [(9,ak (gB l4 9)),(12,.aC 2),(13,.aC 3),(14,.aC 4),(15,.aC 5),(16,.aC 6),(17,.aC 7),(18,.aC 8),(19,.aC 9),(20,.aC 10)]),aT r6,aT r7,bH r8,bH r9,aa eH,bC fE,dh fD,dg fC,c8 fq]else bif gI l4 0==20 then ae [iI i0,iI i1,iI 1,ak b3,av l4,J (sT (fw l5) [(4,iI (gI l4 4)),(12,.aC 2),(13,.aC 3),(14,.aC 4),(15,.aC 5),(16,.aC 6),(17,.aC 7),(18,.aC 8),(19,.aC 9),(20,.aC 10)]),aT r6,aT r7,bH r8,bH r9,aa eH,bC fE,dh fD,dg fC,c8 fq]else bif gI l4 0==21 then ae [iI i0,iI i1,iI i2,ak b3,av l4,J [bE (gI l5 0),iI (gI l5 1),iI (gI l5 2),iI (gI l4 3),iI (gI l5 4),iI (gI l4 5),ak (gB l5 6),ak (gB l5 7),ak (gB l5 8),ak (gB l5 9),ak (gB l4 10),bE (gI l5 11),.aC 2,.aC 3,.aC 4,.aC 5,.aC 6,.aC 7,.aC 8,.aC 9,.aC 10],aT r6,aT r7,bH r8,bH r9,aa eH,bC fE,dh fD,dg fC,c8 fq]else bif gI l4 0==22 then ae [iI i0,iI i1,iI i2,cw,av l4,J (sT (fw l5) mN),aT r6,aT r7,bH r8,bH r9,aa eH,bC fE,dh fD,dg fC,c8 fq]else aN [aq,av l4,J (sT (fw l5) mN),aT r6,aT r7,bH r8,bH r9,aa eH,bC fE,dh fD,dg fC,c8 fq]:aJ):=by kernel_rfl
def axn:Wl G N [J l0,J l1,aT r2,aT r3,bH r4,bH r5,aa r6,bC r7,dh r8,dg r9,c8 eH]=(bif gI l0 1 != gI l1 1 then aN [aq,av l0,J (sT (fw l1) mN),aT r2,aT r3,bH r4,bH r5,aa r6,bC r7,dh r8,dg r9,c8 eH]else bif gI l0 2 != gI l1 2 then aN [aq,av l0,J (sT (fw l1) mN),aT r2,aT r3,bH r4,bH r5,aa r6,bC r7,dh r8,dg r9,c8 eH]else bif gI l0 3 != gI l1 3 then aN [aq,av l0,J (sT (fw l1) mN),aT r2,aT r3,bH r4,bH r5,aa r6,bC r7,dh r8,dg r9,c8 eH]else bif gI l0 4 != gI l1 4 then aN [aq,av l0,J (sT (fw l1) mN),aT r2,aT r3,bH r4,bH r5,aa r6,bC r7,dh r8,dg r9,c8 eH]else bif gI l0 5 != gI l1 5 then aN [aq,av l0,J (sT (fw l1) mN),aT r2,aT r3,bH r4,bH r5,aa r6,bC r7,dh r8,dg r9,c8 eH]else bif !((gB l0 6)==(gB l1 6))then aN [aq,av l0,J (sT (fw l1) mN),aT r2,aT r3,bH r4,bH r5,aa r6,bC r7,dh r8,dg r9,c8 eH]else bif !((gB l0 7)==(gB l1 7))then aN [aq,av l0,J (sT (fw l1) mN),aT r2,aT r3,bH r4,bH r5,aa r6,bC r7,dh r8,dg r9,c8 eH]else bif !((gB l0 8)==(gB l1 8))then aN [aq,av l0,J (sT (fw l1) mN),aT r2,aT r3,bH r4,bH r5,aa r6,bC r7,dh r8,dg r9,c8 eH]else bif !((gB l0 9)==(gB l1 9))then aN [aq,av l0,J (sT (fw l1) mN),aT r2,aT r3,bH r4,bH r5,aa r6,bC r7,dh r8,dg r9,c8 eH]else bif !((gB l0 10)==(gB l1 10))then aN [aq,av l0,J (sT (fw l1) mN),aT r2,aT r3,bH r4,bH r5,aa r6,bC r7,dh r8,dg r9,c8 eH]else bif gI l0 11 != gI l1 11 then aN [aq,av l0,J (sT (fw l1) mN),aT r2,aT r3,bH r4,bH r5,aa r6,bC r7,dh r8,dg r9,c8 eH]else ae [av l0,J (sT (fw l1) mN),aT r2,aT r3,bH r4,bH r5,aa r6,bC r7,dh r8,dg r9,c8 eH]:aJ):=by kernel_rfl
def axm:Wk G N [iI i0,iI i1,iI i2,J l3]=(bif cg 0 i0 then bif ln (gR l3 12) != i0 then aN [aq,av l3]else bif ln (gR l3 14) != i1 then aN [aq,av l3]else bif cg 0 i2 then bif ln (gR l3 17) != i2 then aN [aq,av l3]else ae [av l3]else ae [av l3]else bif ln (gR l3 14) != i1 then aN [aq,av l3]else bif cg 0 i2 then bif ln (gR l3 17) != i2 then aN [aq,av l3]else ae [av l3]else ae [av l3]:aJ):=by kernel_rfl
def axl:Wj G N [J l0]=(bif gI l0 0 != 16 then bif aU 0 (ln (gR l0 13))then aN [aq,av l0]else bif aU 0 (ln (gR l0 15))then aN [aq,av l0]else ae [av l0]else ae [av l0]:aJ):=by kernel_rfl
def av5:VT G N [J l0]=(bif gI l0 0 != 9 then bif aU 0 (ln (gR l0 18))then aN [aq,av l0]else bif aU 0 (ln (gR l0 19))then aN [aq,av l0]else bif gI l0 0 != 19 then bif aU 0 (ln (gR l0 20))then aN [aq,av l0]else ae [av l0]else ae [av l0]else bif gI l0 0 != 19 then bif aU 0 (ln (gR l0 20))then aN [aq,av l0]else ae [av l0]else ae [av l0]:aJ):=by kernel_rfl
def aAU:bZ CX EE G N ON [J l0]=(bO (WM G N [iI 0,iI 0,iI 0,aq,av l0,J [bE (gI l0 0),iI 0,iI 0,iI 0,iI 0,iI 0,aq,aq,aq,aq,aq,bE 0,.aC 2,.aC 3,.aC 4,.aC 5,.aC 6,.aC 7,.aC 8,.aC 9,.aC 10],aT cy,aT cy,bH cy,bH cy,aa cy,bC cy,dh cy,dg cy,c8 cy]) λq3 o3=>bif bQ q3 then bO (Wl G N [av (gC o3 4),J (sT (fw (gC o3 5)) mN),aT (gR o3 6),aT (gR o3 7),bH (gR o3 8),bH (gR o3 9),aa (gR o3 10),bC (gR o3 11),dh (gR o3 12),dg (gR o3 13),c8 (gR o3 14)]) λq4 o4=>bif bQ q4 then bO (Wk G N [iI (gI o3 0),iI (gI o3 1),iI (gI o3 2),av (gC o4 0)]) λq5 o5=>bif bQ q5 then bO (Wj G N [av (gC o5 0)]) λq6 o6=>bif bQ q6 then bO (VT G N [av (gC o6 0)]) λq7 o7=>bif bQ q7 then bif gB o3 3 then bif gI (gC o7 0) 0 != 19 then c9 else ae [ak (ln (gR (gC o7 0) 16)==0)]else ae [ak (ln (gR (gC o7 0) 16)==0)]else ae [ak (gB o7 0)]else ae [ak (gB o6 0)]else ae [ak (gB o5 0)]else ae [ak (gB o4 0)]else ae [ak (gB o3 0)]:aJ):=by kernel_rfl
def ayw:WO G N [J l0]=(bif gI l0 0==16 then aN [cw,av l0]else bif gI l0 0==17 then aN [cw,av l0]else bif gI l0 0==18 then aN [cw,av l0]else bif gI l0 0==19 then aN [cw,av l0]else bif gI l0 0==15 then aN [cw,av l0]else bif gI l0 0==11 then aN [cw,av l0]else bif gI l0 0==12 then aN [cw,av l0]else bif gI l0 0==22 then aN [cw,av l0]else bif gI l0 0==21 then aN [cw,av l0]else ae [av l0]:aJ):=by kernel_rfl
def aAc:bZ CX EE G N Ou [J l0]=(bO (WO G N [av l0]) λq1 o1=>bif bQ q1 then bif gI (gC o1 0) 0==9 then ae [ak (aU 0 (ln (gR (gC o1 0) 16)))]else bY else ae [ak (gB o1 0)]:aJ):=by kernel_rfl
def aue:Vo G N [J l0,J l1]=(bif aU 0 (ln (gR l0 9))then bO (G Ou [av l1]) λ_ o1=>bif gB o1 0 then aN [aq,bG l0,av l1]else ae [bG l0,av l1]else ae [bG l0,av l1]:aJ):=by kernel_rfl
def atp:U2 G N [J l0,J l1]=(bif gB l0 11 then bif gI l1 0==18 then aN [aq,bG l0,av l1]else bif gI l1 0==19 then aN [aq,bG l0,av l1]else bif gI l1 0==21 then aN [aq,bG l0,av l1]else ae [bG l0,av l1]else bif gB l0 12 then bif gI l1 0==18 then aN [aq,bG l0,av l1]else bif gI l1 0==19 then aN [aq,bG l0,av l1]else bif gI l1 0==21 then aN [aq,bG l0,av l1]else ae [bG l0,av l1]else ae [bG l0,av l1]:aJ):=by kernel_rfl
def awl:bZ CX EE G N VN [J l0,J l1]=(bO (Vo G N [bG l0,av l1]) λq2 o2=>bif bQ q2 then bO (U2 G N [bG (gC o2 0),av (gC o2 1)]) λq3 o3=>bif bQ q3 then bif !(gB (gC o3 0) 12)then c9 else bO (G Ou [av (gC o3 1)]) λ_ o4=>bif !(gB o4 0)then c9 else bif gI (gC o3 1) 0==11 then c9 else ae [ak (gI (gC o3 1) 0==12)]else ae [ak (gB o3 0)]else ae [ak (gB o2 0)]:aJ):=by kernel_rfl
def ayz:WS G N [iI i0,J l1,J l2,aT r3]=(bif gI l1 0==1 then ae [iI i0,eE l1,J [bE (gI l2 0),iI (gI l1 1),iI (gI l1 2),iI (gI l2 3),.aC 2],aT r3]else bif gI l1 0==2 then ae [iI 1,eE l1,J (sT (oI l1) [(0,bE (gI l2 0)),(4,.aC 2)]),aT r3]else bif gI l1 0==3 then ae [iI 1,eE l1,J (sT (oI l2) ab1),aT r3]else aN [aq,eE l1,J (sT (oI l2) G7),aa cy,aT r3]:aJ):=by kernel_rfl
def ayy:WR G N [iI i0,J l1,J l2,aT r3]=(bif ln (gR l1 4) != i0 then aN [aq,eE l1,J (sT (oI l2) G7),aa cy,aT r3]else bif gI l1 1 != gI l2 1 then aN [aq,eE l1,J (sT (oI l2) G7),aa cy,aT r3]else bif gI l1 2 != gI l2 2 then aN [aq,eE l1,J (sT (oI l2) G7),aa cy,aT r3]else bif gI l1 3 != gI l2 3 then aN [aq,eE l1,J (sT (oI l2) G7),aa cy,aT r3]else ae [eE l1,J (sT (oI l2) ab1),aT r3]:aJ):=by kernel_rfl
def aAX:bZ CX EE G N zU [bJ r0,J l1]=(bO (WS G N [iI 0,eE l1,J [bE (gI l1 0),iI 0,iI 0,iI 0,.aC 2],aT cy]) λq1 o1=>bif bQ q1 then bO (WR G N [iI (gI o1 0),eE (gC o1 1),J (sT (oI (gC o1 2)) ab1),aT (gR o1 3)]) λq2 o2=>bif bQ q2 then bif gI (gC o2 0) 0==1 then bO (G O2 [bJ r0,iI (gI (gC o2 0) 1),iI (gI (gC o2 0) 2)]) λ_ o3=>ae [aa (([[iI (gI (gC o2 0) 1)]]:aW)),ak (gB o3 0)]else aR (aU 0 (ln (gR (gC o2 0) 4)))<|bO (G Cw [J [bJ r0,eC ([]),iI (-1)],bS (gA (gR (gC o2 0) 4) 0)]) λ_ o4=>bif gI (gC o2 0) 0==2 then bif gB o4 1 then bif !(gB (gC o4 0) 0)then bO (G O5 [bJ r0,iI (gI (gC o2 0) 1),iI (gI (gC o2 0) 2),iI (gI (gC o2 0) 3)]) λ_ o5=>ae [aa (([[iI (gI (gC o2 0) 1)]]:aW)),ak (gB o5 0)]else ae [aa (([[iI (gI (gC o2 0) 1)]]:aW)),aq]else ae [aa (([[iI (gI (gC o2 0) 1)]]:aW)),aq]else bif gB o4 1 then bif gB (gC o4 0) 0 then ae [aa (gR (gC o4 0) 2),cw]else ae [aa (gR (gC o4 0) 2),ak (gB (gC o4 0) 1)]else ae [aa (gR (gC o4 0) 2),aq]else ae [aa (gR o2 3),ak (gB o2 0)]else ae [aa (gR o1 3),ak (gB o1 0)]:aJ):=by kernel_rfl
def azp:bZ CX EE G N E6 [J l0,iI i1]=(bp i1 (gR l0 4)<|bif cg 0 (gI (aD (gR l0 4) i1) 0)then bO (G rQ [aa (gR l0 9),iI (gI (aD (gR l0 4) i1) 0)]) λ_ o1=>ae [ak (gB o1 0)]else bif aU (gI (aD (gR l0 4) i1) 1) 0 then c9 else bif gI (aD (gR l0 4) i1) 1==gI l0 5 then bO (G rQ [aa (gR l0 8),iI (gI (aD (gR l0 4) i1) 2)]) λ_ o2=>ae [ak (gB o2 0)]else bY:aJ):=by kernel_rfl
def awd:aev G N [J l0,J l1]=(bif gI l1 0==2 then bO (G E6 [bG l0,iI (gI l1 3)]) λ_ o1=>bif !(gB o1 0)then aN [aq,bG l0,bS l1]else ae [bG l0,bS l1]else bif gI l1 0==3 then bO (G E6 [bG l0,iI (gI l1 3)]) λ_ o2=>bif !(gB o2 0)then aN [aq,bG l0,bS l1]else ae [bG l0,bS l1]else ae [bG l0,bS l1]:aJ):=by kernel_rfl
def Ve:ad9 G N [J l0,J l1]=(bif gI l1 0==12 then bp (gI l1 3) (gR l0 4)<|bif cg 0 (gI (aD (gR l0 4) (gI l1 3)) 0)then aN [aq,bG l0,bS l1]else bp (gI l1 3) (gR l0 4)<|bif cg 0 (gI (aD (gR l0 4) (gI l1 3)) 1)then aN [aq,bG l0,bS l1]else ae [bG l0,bS l1]else ae [bG l0,bS l1]:aJ):=by kernel_rfl
end
noncomputable section
variable {G:Nat->bl->Option UO} {N n:Nat} {i0 i1 i2:Int} {l0 l1 l2 l3 l4:bl} {r0 r1:aW}
def adt:Ip G N (n+1) [iI i0,J l1,J l2]=(bif aU i0 (ln (gR l2 8))then bp i0 (gR l2 8)<|bO (G uZ [bG l1,bS (aD (gR l2 8) i0)]) λ_ o5=>bif !(gB o5 0)then ae [aq,bG l1,bS l2]else Ip G N n [cC i0,bG l1,bS l2]else aN [bG l1,bS l2]:aJ):=by kernel_rfl
def ayC:bZ CX EE G N uZ [J l0,J l1]=(bO (aev G N [bG l0,bS l1]) λq3 o3=>bif bQ q3 then bO (ad9 G N [bG (gC o3 0),bS (gC o3 1)]) λq4 o4=>bif bQ q4 then bO (Ip G N N [iI 0,bG (gC o4 0),bS (gC o4 1)]) λq6 o6=>bif bQ q6 then ae [ak (gB o6 0)]else c9 else ae [ak (gB o4 0)]else ae [ak (gB o3 0)]:aJ):=by kernel_rfl
def adn:M8 G N (n+1) [iI i0,J l1,J l2]=(bif aU i0 (ln (gR l2 4))then bp i0 (gR l2 4)<|bO (G uZ [bG l1,bS (aD (gR l2 4) i0)]) λ_ o2=>bif !(gB o2 0)then ae [aq,bG l1,eE l2,aa cy]else M8 G N n [cC i0,bG l1,eE l2]else aN [bG l1,eE l2]:aJ):=by kernel_rfl
def auf:Vp G N [J l0,J l1]=(bO (M8 G N N [iI 0,bG l0,eE l1]) λq3 o3=>bif bQ q3 then aN [ak (gB o3 0),bG (gC o3 1),eE (gC o3 2),aa (gR o3 3)]else ae [bG (gC o3 0),eE (gC o3 1)]:aJ):=by kernel_rfl
def adm:Ik G N (n+1) [aa r0,iI i1,J l2,J l3]=(bif aU i1 (ln r0)then bp i1 r0<|bO (G rQ [aa (gR l2 10),iI (gI (aD r0 i1) 0)]) λ_ o5=>bif gB o5 0 then ae [aq,bG l2,eE l3,aa cy]else bif gI l3 0 != 3 then bp i1 r0<|bO (G E6 [bG l2,iI (gI (aD r0 i1) 0)]) λ_ o6=>bif !(gB o6 0)then ae [aq,bG l2,eE l3,aa cy]else Ik G N n [aa r0,cC i1,bG l2,eE l3]else Ik G N n [aa r0,cC i1,bG l2,eE l3]else aN [bG l2,eE l3]:aJ):=by kernel_rfl
def aet:bZ CX EE G N BV [J l0,J l1]=(bO (G zU [bJ (gR l0 0),eE l1]) λ_ o1=>bif !(gB o1 1)then ae [aa cy,aq]else bO (Vp G N [bG l0,eE l1]) λq4 o4=>bif bQ q4 then bO (Ik G N N [aa (gR o1 0),iI 0,bG (gC o4 0),eE (gC o4 1)]) λq7 o7=>bif bQ q7 then ae [aa (gR o7 3),ak (gB o7 0)]else ae [aa (gR o1 0),cw]else ae [aa (gR o4 3),ak (gB o4 0)]:aJ):=by kernel_rfl
def aeQ:bZ CX EE G N BW [J l0,J l1]=(bO (G Cw [J [bJ (gR l0 0),eC ([]),iI (-1)],bS l1]) λ_ o1=>bif gB o1 1 then bO (G uZ [bG l0,bS l1]) λ_ o2=>ae [cO (gC o1 0),ak (gB o2 0)]else ae [cO (gC o1 0),aq]:aJ):=by kernel_rfl
def aec:NG G N (n+1) [aa r0,aa r1,iI i2]=(bif aU i2 (ln r0)then bp i2 r0<|bO (G rQ [aa r1,iI (gI (aD r0 i2) 0)]) λ_ o1=>bif !(gB o1 0)then bY else NG G N n [aa r0,aa r1,cC i2]else aN []:aJ):=by kernel_rfl
def az5:bZ CX EE G N I5 [aa r0,aa r1]=(bO (NG G N N [aa r0,aa r1,iI 0]) λq2 o2=>bif bQ q2 then ae [ak (gB o2 0)]else c9:aJ):=by kernel_rfl
def aBu:bZ CX EE G N XQ [J l0,J l1]=(bif gB l0 3 then bif gB l1 1 then c9 else bif gB l1 0 then bO (G I5 [aa (gR l1 2),aa (gR l0 4)]) λ_ o1=>ae [ak (gB o1 0)]else bY else bif !(gB l1 0)then bif cg (gI l0 1) (gI l1 3)then ae [ak (cg (gI l1 4) (gI l0 2))]else bY else bY:aJ):=by kernel_rfl
def avj:bZ CX EE G N BK [J l0,J l1,iI i2]=(bO (G BW [bG l0,bS l1]) λ_ o1=>bif gB o1 1 then bp i2 (gR l0 0)<|bO (G XQ [gW (aD (gR l0 0) i2),cO (gC o1 0)]) λ_ o2=>ae [ak (gB o2 0)]else bY:aJ):=by kernel_rfl
def adI:Nl G N (n+1) [aa r0,iI i1,J l2,J l3]=(bif aU i1 (ln r0)then aR (aU 0 (ln (gR l3 12)))<|bp i1 r0<|bO (G BK [bG l2,bS (gA (gR l3 12) 0),iI (gI (aD r0 i1) 0)]) λ_ o3=>bif !(gB o3 0)then ae [aq,bG l2,av l3]else Nl G N n [aa r0,cC i1,bG l2,av l3]else aN [bG l2,av l3]:aJ):=by kernel_rfl
def aff:bZ CX EE G N WX [J l0,J l1]=(aR (aU 0 (ln (gR l1 14)))<|bO (G BV [bG l0,eE (gA (gR l1 14) 0)]) λ_ o1=>bif !(gB o1 1)then bY else aR (aU 0 (ln (gR l1 12)))<|bO (G BW [bG l0,bS (gA (gR l1 12) 0)]) λ_ o2=>bO (Nl G N N [aa (gR o1 0),iI 0,bG l0,av l1]) λq4 o4=>bif bQ q4 then ae [ak (gB o4 0)]else ae [ak (gB o2 1)]:aJ):=by kernel_rfl
def ado:bZ CX EE G N zL [J l0,J l1]=(bO (G BW [bG l0,bS l1]) λ_ o1=>bif gB o1 1 then bO (G wH [cO (gC o1 0)]) λ_ o2=>ae [ak (gB o2 0)]else bY:aJ):=by kernel_rfl
def ad7:bZ CX EE G N sF [J l0,J l1]=(bO (G BW [bG l0,bS l1]) λ_ o1=>bif gB o1 1 then ae [ak (!(gB (gC o1 0) 0))]else bY:aJ):=by kernel_rfl
def Vf:bZ CX EE G N Ir [J l0,J l1]=(bO (G BV [bG l0,eE l1]) λ_ o1=>bif gB o1 1 then bif gI l1 0 != 3 then aR (aU 0 (ln (gR o1 0)))<|bp (gI (gA (gR o1 0) 0) 0) (gR l0 0)<|ae [ak (!(gB (aD (gR l0 0) (gI (gA (gR o1 0) 0) 0)) 3))]else bY else bY:aJ):=by kernel_rfl
def axB:bZ CX EE G N EX [J l0,iI i1,iI i2]=(bif cg 0 i1 then bif aU i1 (ln (gR l0 2))then bif cg 0 i2 then bp i1 (gR l0 2)<|ae [ak (aU i2 (ln (gR (aD (gR l0 2) i1) 1)))]else bY else bY else bY:aJ):=by kernel_rfl
def ayp:NZ G N (n+1) [aT r0,aT r1,iI i2]=(bif aU i2 (ln r0)then bp i2 r0<|bp i2 r1<|bO (G aeX [bS (aD r0 i2),bS (aD r1 i2)]) λ_ o1=>bif !(gB o1 0)then bY else NZ G N n [aT r0,aT r1,cC i2]else aN []:aJ):=by kernel_rfl
def aAW:bZ CX EE G N Fq [aT r0,aT r1]=(bif ln r0 != ln r1 then bY else bO (NZ G N N [aT r0,aT r1,iI 0]) λq2 o2=>bif bQ q2 then ae [ak (gB o2 0)]else c9:aJ):=by kernel_rfl
def axi:NH G N (n+1) [bH r0,bH r1,iI i2]=(bif aU i2 (ln r0)then bp i2 r0<|bp i2 r1<|bif gI (aD r0 i2) 0 != gI (aD r1 i2) 0 then bY else bp i2 r0<|bp i2 r1<|bif gI (aD r0 i2) 1 != gI (aD r1 i2) 1 then bY else bp i2 r0<|bp i2 r1<|bif gI (aD r0 i2) 2 != gI (aD r1 i2) 2 then bY else bp i2 r0<|bp i2 r1<|bif gI (aD r0 i2) 3 != gI (aD r1 i2) 3 then bY else bp i2 r0<|bp i2 r1<|bO (G Fq [aT (gR (aD r0 i2) 4),aT (gR (aD r1 i2) 4)]) λ_ o1=>bif !(gB o1 0)then bY else NH G N n [bH r0,bH r1,cC i2]else aN []:aJ):=by kernel_rfl
def az7:bZ CX EE G N Oq [bH r0,bH r1]=(bif ln r0 != ln r1 then bY else bO (NH G N N [bH r0,bH r1,iI 0]) λq2 o2=>bif bQ q2 then ae [ak (gB o2 0)]else c9:aJ):=by kernel_rfl
def azj:Od G N (n+1) [aa r0,aa r1,iI i2]=(bif aU i2 (ln r0)then bp i2 r0<|bp i2 r1<|bif gI (aD r0 i2) 0 != gI (aD r1 i2) 0 then bY else Od G N n [aa r0,aa r1,cC i2]else aN []:aJ):=by kernel_rfl
def aBt:bZ CX EE G N O4 [aa r0,aa r1]=(bif ln r0 != ln r1 then bY else bO (Od G N N [aa r0,aa r1,iI 0]) λq1 o1=>bif bQ q1 then ae [ak (gB o1 0)]else c9:aJ):=by kernel_rfl
def ayo:NV G N (n+1) [bC r0,bC r1,iI i2]=(bif aU i2 (ln r0)then bp i2 r0<|bp i2 r1<|bO (G nM [av (aD r0 i2),av (aD r1 i2)]) λ_ o1=>bif !(gB o1 0)then bY else NV G N n [bC r0,bC r1,cC i2]else aN []:aJ):=by kernel_rfl
def aAR:bZ CX EE G N Xv [bC r0,bC r1]=(bif ln r0 != ln r1 then bY else bO (NV G N N [bC r0,bC r1,iI 0]) λq2 o2=>bif bQ q2 then ae [ak (gB o2 0)]else c9:aJ):=by kernel_rfl
def awc:V0 G N [J l0,J l1]=(bif gI l0 0 != gI l1 0 then aN [aq,av l0,av l1]else bif gI l0 1 != gI l1 1 then aN [aq,av l0,av l1]else bif gI l0 2 != gI l1 2 then aN [aq,av l0,av l1]else bif gI l0 3 != gI l1 3 then aN [aq,av l0,av l1]else bif gI l0 4 != gI l1 4 then aN [aq,av l0,av l1]else bif gI l0 5 != gI l1 5 then aN [aq,av l0,av l1]else bif !((gB l0 6)==(gB l1 6))then aN [aq,av l0,av l1]else bif !((gB l0 7)==(gB l1 7))then aN [aq,av l0,av l1]else bif !((gB l0 8)==(gB l1 8))then aN [aq,av l0,av l1]else bif !((gB l0 9)==(gB l1 9))then aN [aq,av l0,av l1]else bif !((gB l0 10)==(gB l1 10))then aN [aq,av l0,av l1]else bif gI l0 11 != gI l1 11 then aN [aq,av l0,av l1]else ae [av l0,av l1]:aJ):=by kernel_rfl
def avb:VF G N [J l0,J l1]=(bO (G Fq [aT (gR l0 12),aT (gR l1 12)]) λ_ o2=>bif !(gB o2 0)then aN [aq,av l0,av l1]else bO (G Fq [aT (gR l0 13),aT (gR l1 13)]) λ_ o3=>bif !(gB o3 0)then aN [aq,av l0,av l1]else bO (G Oq [bH (gR l0 14),bH (gR l1 14)]) λ_ o4=>bif !(gB o4 0)then aN [aq,av l0,av l1]else bO (G Oq [bH (gR l0 15),bH (gR l1 15)]) λ_ o5=>bif !(gB o5 0)then aN [aq,av l0,av l1]else bO (G O4 [aa (gR l0 16),aa (gR l1 16)]) λ_ o6=>bif !(gB o6 0)then aN [aq,av l0,av l1]else bO (G Xv [bC (gR l0 17),bC (gR l1 17)]) λ_ o7=>bif !(gB o7 0)then aN [aq,av l0,av l1]else ae [av l0,av l1]:aJ):=by kernel_rfl
def ava:VE G N [J l0,J l1]=(bif ln (gR l0 18) != ln (gR l1 18)then aN [aq,av l0,av l1]else bif ln (gR l0 19) != ln (gR l1 19)then aN [aq,av l0,av l1]else bif ln (gR l0 20) != ln (gR l1 20)then aN [aq,av l0,av l1]else ae [av l0,av l1]:aJ):=by kernel_rfl
def at5:Nf G N (n+1) [iI i0,J l1,J l2]=(bif aU i0 (ln (gR l1 18))then bp i0 (gR l1 18)<|bp i0 (gR l2 18)<|bO (G nM [av (aD (gR l1 18) i0),av (aD (gR l2 18) i0)]) λ_ cV=>bif !(gB cV 0)then ae [aq,av l1,av l2]else bp i0 (gR l1 18)<|bp i0 (gR l2 18)<|bO (G nM [J (cP dG 21 (aD (gR l1 18) i0)),J (cP dG 21 (aD (gR l2 18) i0))]) λ_ cX=>bif !(gB cX 0)then ae [aq,av l1,av l2]else Nf G N n [cC i0,av l1,av l2]else aN [av l1,av l2]:aJ):=by kernel_rfl
def au9:VD G N [J l0,J l1]=(bO (Nf G N N [iI 0,av l0,av l1]) λpN dj=>bif bQ pN then aN [ak (gB dj 0),av (gC dj 1),av (gC dj 2)]else ae [av (gC dj 0),av (gC dj 1)]:aJ):=by kernel_rfl
def at4:Nd G N (n+1) [iI i0,J l1,J l2]=(bif aU i0 (ln (gR l1 19))then bp i0 (gR l1 19)<|bp i0 (gR l2 19)<|bO (G O4 [aa (gR (aD (gR l1 19) i0) 0),aa (gR (aD (gR l2 19) i0) 0)]) λ_ dc=>bif !(gB dc 0)then ae [aq,av l1,av l2]else bp i0 (gR l1 19)<|bp i0 (gR l2 19)<|bO (G nM [J (cP dG 1 (aD (gR l1 19) i0)),J (cP dG 1 (aD (gR l2 19) i0))]) λ_ dr=>bif !(gB dr 0)then ae [aq,av l1,av l2]else Nd G N n [cC i0,av l1,av l2]else aN [av l1,av l2]:aJ):=by kernel_rfl
def aub:Vk G N [J l0,J l1]=(bO (Nd G N N [iI 0,av l0,av l1]) λze fX=>bif bQ ze then aN [ak (gB fX 0),av (gC fX 1),av (gC fX 2)]else ae [av (gC fX 0),av (gC fX 1)]:aJ):=by kernel_rfl
def atj:M7 G N (n+1) [iI i0,J l1,J l2]=(bif aU i0 (ln (gR l1 20))then bp i0 (gR l1 20)<|bp i0 (gR l2 20)<|bif gI (aD (gR l1 20) i0) 0 != gI (aD (gR l2 20) i0) 0 then ae [aq,av l1,av l2]else bif gI (aD (gR l1 20) i0) 10 != gI (aD (gR l2 20) i0) 10 then ae [aq,av l1,av l2]else bO (G aeX [J (cP B0 1 (aD (gR l1 20) i0)),J (cP B0 1 (aD (gR l2 20) i0))]) λ_ gG=>bif !(gB gG 0)then ae [aq,av l1,av l2]else bO (G Fq [aT (gR (aD (gR l1 20) i0) 11),aT (gR (aD (gR l2 20) i0) 11)]) λ_ iH=>bif !(gB iH 0)then ae [aq,av l1,av l2]else bO (G nM [J (cP dG 12 (aD (gR l1 20) i0)),J (cP dG 12 (aD (gR l2 20) i0))]) λ_ sj=>bif !(gB sj 0)then ae [aq,av l1,av l2]else bO (G nM [J (cP dG 33 (aD (gR l1 20) i0)),J (cP dG 33 (aD (gR l2 20) i0))]) λ_ iZ=>bif !(gB iZ 0)then ae [aq,av l1,av l2]else M7 G N n [cC i0,av l1,av l2]else aN [av l1,av l2]:aJ):=by kernel_rfl
def ayB:bZ CX EE G N nM [J l0,J l1]=(bO (V0 G N [av l0,av l1]) λq1 o1=>bif bQ q1 then bO (VF G N [av (gC o1 0),av (gC o1 1)]) λq8 o8=>bif bQ q8 then bO (VE G N [av (gC o8 0),av (gC o8 1)]) λq9 o9=>bif bQ q9 then bO (VD G N [av (gC o9 0),av (gC o9 1)]) λzf fe=>bif bQ zf then bO (Vk G N [av (gC fe 0),av (gC fe 1)]) λvS du=>bif bQ vS then bO (M7 G N N [iI 0,av (gC du 0),av (gC du 1)]) λq22 vZ=>bif bQ q22 then ae [ak (gB vZ 0)]else c9 else ae [ak (gB du 0)]else ae [ak (gB fe 0)]else ae [ak (gB o9 0)]else ae [ak (gB o8 0)]else ae [ak (gB o1 0)]:aJ):=by kernel_rfl
def aud:Vn G N [iI i0,J l1]=(bif gI l1 11==2 then ae [iI 1,av l1]else bif gI l1 11==3 then ae [iI 1,av l1]else ae [iI i0,av l1]:aJ):=by kernel_rfl
def auc:Vm G N [iI i0,iI i1,J l2]=(bif aU 3 (gI l2 11)then aN [aq,av l2]else bif ln (gR l2 12) != i1 then aN [aq,av l2]else bif ln (gR l2 17) != i0 then aN [aq,av l2]else ae [av l2]:aJ):=by kernel_rfl
def adl:zM G N (n+1) [iI i0,iI i1,J l2]=(bif aU i1 i0 then bif gI l2 11==0 then bp i1 (gR l2 17)<|bO (G nM [av (aD (gR l2 17) i1),J se]) λ_ o4=>bif !(gB o4 0)then ae [aq,av l2]else zM G N n [iI i0,cC i1,av l2]else zM G N n [iI i0,cC i1,av l2]else aN [av l2]:aJ):=by kernel_rfl
def axz:bZ CX EE G N EV [J l0,J l1,iI i2]=(bO (Vn G N [iI 0,av l1]) λ_ o1=>bO (Vm G N [iI i2,iI (gI o1 0),av (gC o1 1)]) λq2 o2=>bif bQ q2 then bif gI o1 0==1 then aR (aU 0 (ln (gR (gC o2 0) 12)))<|bO (G sF [bG l0,bS (gA (gR (gC o2 0) 12) 0)]) λ_ o3=>bif !(gB o3 0)then bY else bO (zM G N N [iI i2,iI (bw (i2- 2)),av (gC o2 0)]) λq5 o5=>bif bQ q5 then ae [ak (gB o5 0)]else c9 else bO (zM G N N [iI i2,iI (bw (i2- 2)),av (gC o2 0)]) λq6 o6=>bif bQ q6 then ae [ak (gB o6 0)]else c9 else ae [ak (gB o2 0)]:aJ):=by kernel_rfl
def az9:bZ CX EE G N I7 [J l0,J l1]=(bif gB l0 3 then bif gB l0 3 then bif gB l1 3 then bO (G I5 [aa (gR l0 4),aa (gR l1 4)]) λ_ o1=>ae [ak (gB o1 0)]else bY else bY else bif gB l1 3 then bif gB l0 3 then bif gB l1 3 then bO (G I5 [aa (gR l0 4),aa (gR l1 4)]) λ_ o2=>ae [ak (gB o2 0)]else bY else bY else bif cg (gI l1 1) (gI l0 1)then ae [ak (cg (gI l0 2) (gI l1 2))]else bY:aJ):=by kernel_rfl
def awe:V1 G N [J l0,J l1]=(bif gI l1 3==gI l0 5 then aN [aq,bG l0,av l1]else bO (G EX [bG l0,iI (gI l1 3),iI (gI l1 5)]) λ_ o1=>bif !(gB o1 0)then aN [aq,bG l0,av l1]else ae [bG l0,av l1]:aJ):=by kernel_rfl
def avd:Nn G N [J l0,J l1]=(bif ln (gR l0 13) != ln (gR l1 0)then aN [aq,av l0,J [aa (gR l1 0),aa (gR l1 1)]]else bif ln (gR l0 15) != ln (gR l1 1)then aN [aq,av l0,J [aa (gR l1 0),aa (gR l1 1)]]else ae [av l0,J [aa (gR l1 0),aa (gR l1 1)]]:aJ):=by kernel_rfl
def adu:Ng G N (n+1) [iI i0,J l1,J l2,J l3]=(bif aU i0 (ln (gR l2 13))then bp i0 (gR l2 13)<|bp i0 (gR l3 0)<|bO (G BK [bG l1,bS (aD (gR l2 13) i0),iI (gI (aD (gR l3 0) i0) 0)]) λ_ o4=>bif !(gB o4 0)then ae [aq,bG l1,av l2,J [aa (gR l3 0),aa (gR l3 1)]]else Ng G N n [cC i0,bG l1,av l2,J [aa (gR l3 0),aa (gR l3 1)]]else aN [bG l1,av l2,J [aa (gR l3 0),aa (gR l3 1)]]:aJ):=by kernel_rfl
def avc:VG G N [J l0,J l1,J l2]=(bO (Ng G N N [iI 0,bG l0,av l1,J [aa (gR l2 0),aa (gR l2 1)]]) λq5 o5=>bif bQ q5 then aN [ak (gB o5 0),bG (gC o5 1),av (gC o5 2),J [aa (gR (gC o5 3) 0),aa (gR (gC o5 3) 1)]]else ae [bG (gC o5 0),av (gC o5 1),J [aa (gR (gC o5 2) 0),aa (gR (gC o5 2) 1)]]:aJ):=by kernel_rfl
def acX:MQ G N (n+1) [iI i0,aa r1,iI i2,J l3,J l4]=(bif aU i2 (ln r1)then bp i0 (gR l4 1)<|bp (gI (aD (gR l4 1) i0) 0) (gR l3 0)<|bp i2 r1<|bp (gI (aD r1 i2) 0) (gR l3 0)<|bO (G I7 [gW (aD (gR l3 0) (gI (aD (gR l4 1) i0) 0)),gW (aD (gR l3 0) (gI (aD r1 i2) 0))]) λ_ o8=>bif !(gB o8 0)then ae [aq,bG l3,J [aa (gR l4 0),aa (gR l4 1)]]else MQ G N n [iI i0,aa r1,cC i2,bG l3,J [aa (gR l4 0),aa (gR l4 1)]]else aN [bG l3,J [aa (gR l4 0),aa (gR l4 1)]]:aJ):=by kernel_rfl
end
noncomputable section
variable {G:Nat->bl->Option UO} {N n:Nat} {i0 i1 i2 i3 i4:Int} {l0 l1 l2 l3 l4 l5 l6:bl} {r2 r3 r4:aW}
def UW:EJ G N (n+1) [iI i0,J l1,J l2,J l3]=(bif aU i0 (ln (gR l2 15))then bp i0 (gR l2 15)<|bO (G BV [bG l1,eE (aD (gR l2 15) i0)]) λ_ o7=>bif !(gB o7 1)then ae [aq,bG l1,av l2,J [aa (gR l3 0),aa (gR l3 1)]]else bO (MQ G N N [iI i0,aa (gR o7 0),iI 0,bG l1,J [aa (gR l3 0),aa (gR l3 1)]]) λq9 o9=>bif bQ q9 then ae [ak (gB o9 0),bG (gC o9 1),av l2,J [aa (gR (gC o9 2) 0),aa (gR (gC o9 2) 1)]]else EJ G N n [cC i0,bG (gC o9 0),av l2,J [aa (gR (gC o9 1) 0),aa (gR (gC o9 1) 1)]]else aN [bG l1,av l2,J [aa (gR l3 0),aa (gR l3 1)]]:aJ):=by kernel_rfl
def aeR:bZ CX EE G N NS [J l0,J l1]=(bO (V1 G N [bG l0,av l1]) λq2 o2=>bif bQ q2 then bp (gI (gC o2 1) 3) (gR (gC o2 0) 2)<|bp (gI (gC o2 1) 5) (gR (aD (gR (gC o2 0) 2) (gI (gC o2 1) 3)) 1)<|bO (Nn G N [av (gC o2 1),J [aa (gR (aD (gR (aD (gR (gC o2 0) 2) (gI (gC o2 1) 3)) 1) (gI (gC o2 1) 5)) 0),aa (gR (aD (gR (aD (gR (gC o2 0) 2) (gI (gC o2 1) 3)) 1) (gI (gC o2 1) 5)) 1)]]) λq3 o3=>bif bQ q3 then bO (VG G N [bG (gC o2 0),av (gC o3 0),J [aa (gR (gC o3 1) 0),aa (gR (gC o3 1) 1)]]) λq6 o6=>bif bQ q6 then bO (EJ G N N [iI 0,bG (gC o6 0),av (gC o6 1),J [aa (gR (gC o6 2) 0),aa (gR (gC o6 2) 1)]]) λmO cV=>bif bQ mO then ae [ak (gB cV 0)]else c9 else ae [ak (gB o6 0)]else ae [ak (gB o3 0)]else ae [ak (gB o2 0)]:aJ):=by kernel_rfl
def azo:bZ CX EE G N E5 [J l0,iI i1]=(bO (G EX [bG l0,iI (gI l0 5),iI i1]) λ_ o1=>bif gB o1 0 then bO (G rQ [aa (gR l0 8),iI i1]) λ_ o2=>ae [ak (!(gB o2 0))]else bY:aJ):=by kernel_rfl
def atq:U3 G N [J l0,J l1]=(bif aU (gI l0 14) 0 then aN [aq,bG l0,av l1]else bO (G EX [bG l0,iI (gI l1 3),iI (gI l1 5)]) λ_ o1=>bif !(gB o1 0)then aN [aq,bG l0,av l1]else bif gI l1 3==gI l0 5 then bif gI l1 5==gI l0 14 then aN [aq,bG l0,av l1]else ae [bG l0,av l1]else ae [bG l0,av l1]:aJ):=by kernel_rfl
def asE:UI G N [J l0]=(bif ln (gR l0 0)==0 then bif ln (gR l0 1)==0 then aN [cw,J [aa (gR l0 0),aa (gR l0 1)]]else ae [J [aa (gR l0 0),aa (gR l0 1)]]else ae [J [aa (gR l0 0),aa (gR l0 1)]]:aJ):=by kernel_rfl
def asD:UH G N [J l0,J l1]=(bif ln (gR l0 0) != ln (gR l1 0)then aN [aq,J [aa (gR l0 0),aa (gR l0 1)],J [aa (gR l1 0),aa (gR l1 1)]]else bif ln (gR l0 1) != ln (gR l1 1)then aN [aq,J [aa (gR l0 0),aa (gR l0 1)],J [aa (gR l1 0),aa (gR l1 1)]]else ae [J [aa (gR l0 0),aa (gR l0 1)],J [aa (gR l1 0),aa (gR l1 1)]]:aJ):=by kernel_rfl
def acP:Ew G N (n+1) [iI i0,J l1,aa r2,aa r3]=(bif aU i0 (ln r2)then bp i0 r2<|aR (dH (i0.toNat) (r2.length))<|bp (gI (aD r2 i0) 0) (gR l1 0)<|bp i0 r3<|aR (dH (i0.toNat) (r3.length))<|bp (gI (aD r3 i0) 0) (gR l1 0)<|bO (G I7 [gW (aD (gR l1 0) (gI (aD r2 i0) 0)),gW (aD (gR l1 0) (gI (aD r3 i0) 0))]) λ_ o5=>bif !(gB o5 0)then ae [aq,bG l1,aa r2,aa r3]else bp i0 r3<|aR (dH (i0.toNat) (r3.length))<|bp (gI (aD r3 i0) 0) (gR l1 0)<|bp i0 r2<|aR (dH (i0.toNat) (r2.length))<|bp (gI (aD r2 i0) 0) (gR l1 0)<|bO (G I7 [gW (aD (gR l1 0) (gI (aD r3 i0) 0)),gW (aD (gR l1 0) (gI (aD r2 i0) 0))]) λ_ o6=>bif !(gB o6 0)then ae [aq,bG l1,aa r2,aa r3]else Ew G N n [cC i0,bG l1,aa r2,aa r3]else aN [bG l1,aa r2,aa r3]:aJ):=by kernel_rfl
def adL:bZ CX EE G N Vr [J l0,J l1]=(bO (U3 G N [bG l0,av l1]) λq2 o2=>bif bQ q2 then bp (gI (gC o2 0) 5) (gR (gC o2 0) 2)<|bp (gI (gC o2 0) 14) (gR (aD (gR (gC o2 0) 2) (gI (gC o2 0) 5)) 1)<|bp (gI (gC o2 1) 3) (gR (gC o2 0) 2)<|bp (gI (gC o2 1) 5) (gR (aD (gR (gC o2 0) 2) (gI (gC o2 1) 3)) 1)<|bO (UI G N [J [aa (gR (aD (gR (aD (gR (gC o2 0) 2) (gI (gC o2 1) 3)) 1) (gI (gC o2 1) 5)) 0),aa (gR (aD (gR (aD (gR (gC o2 0) 2) (gI (gC o2 1) 3)) 1) (gI (gC o2 1) 5)) 1)]]) λq3 o3=>bif bQ q3 then bO (UH G N [J [aa (gR (aD (gR (aD (gR (gC o2 0) 2) (gI (gC o2 0) 5)) 1) (gI (gC o2 0) 14)) 0),aa (gR (aD (gR (aD (gR (gC o2 0) 2) (gI (gC o2 0) 5)) 1) (gI (gC o2 0) 14)) 1)],J [aa (gR (gC o3 0) 0),aa (gR (gC o3 0) 1)]]) λq4 o4=>bif bQ q4 then aR (xy (gR (gC o4 0) 0))<|aR (zl ((([]:aW))++(gR (gC o4 0) 0)) (gR (gC o4 0) 1))<|aR (xy (gR (gC o4 1) 0))<|aR (zl ((([]:aW))++(gR (gC o4 1) 0)) (gR (gC o4 1) 1))<|bO (Ew G N N [iI 0,bG (gC o2 0),aa (((([]:aW))++(gR (gC o4 0) 0))++(gR (gC o4 0) 1)),aa (((([]:aW))++(gR (gC o4 1) 0))++(gR (gC o4 1) 1))]) λq7 o7=>bif bQ q7 then ae [ak (gB o7 0)]else c9 else ae [ak (gB o4 0)]else ae [ak (gB o3 0)]else ae [ak (gB o2 0)]:aJ):=by kernel_rfl
def arA:Uk G N [J l0,J l1]=(bif aU (gI l1 2) 0 then aN [aq,bG l0,av l1]else bif cg (ln (gR l0 0)) (gI l1 2)then aN [aq,bG l0,av l1]else bp (gI l1 2) (gR l0 0)<|bif gB (aD (gR l0 0) (gI l1 2)) 3 then aN [aq,bG l0,av l1]else bp (gI l1 2) (gR l0 0)<|bif gI (aD (gR l0 0) (gI l1 2)) 0 != 1 then aN [aq,bG l0,av l1]else bO (G E6 [bG l0,iI (gI l1 2)]) λ_ o4=>bif !(gB o4 0)then aN [aq,bG l0,av l1]else bO (G rQ [aa (gR l0 10),iI (gI l1 2)]) λ_ o5=>bif gB o5 0 then aN [aq,bG l0,av l1]else ae [bG l0,av l1]:aJ):=by kernel_rfl
def ard:Uc G N [bE i0]=(bif i0==11 then c9 else ae [ak (i0==15)]:aJ):=by kernel_rfl
def aq0:T6 G N [bE i0]=(bif i0==12 then c9 else ae [ak (i0==13)]:aJ):=by kernel_rfl
def sE:bZ CX EE G N uY [J l0,J l1]=(bif gI l1 0==2 then bO (G WX [bG l0,av l1]) λ_ o1=>ae [ak (gB o1 0)]else bif gI l1 0==4 then aR (aU 0 (ln (gR l1 12)))<|bO (G zL [bG l0,bS (gA (gR l1 12) 0)]) λ_ o2=>ae [ak (gB o2 0)]else bif gI l1 0==5 then aR (aU 0 (ln (gR l1 12)))<|bO (G zL [bG l0,bS (gA (gR l1 12) 0)]) λ_ o3=>ae [ak (gB o3 0)]else bif gI l1 0==6 then bO (Uk G N [bG l0,av l1]) λq6 o6=>bif bQ q6 then aR (aU 0 (ln (gR (gC o6 1) 12)))<|bO (G sF [bG (gC o6 0),bS (gA (gR (gC o6 1) 12) 0)]) λ_ o7=>bif gB o7 0 then aR (aU 1 (ln (gR (gC o6 1) 12)))<|bO (G sF [bG (gC o6 0),bS (gA (gR (gC o6 1) 12) 1)]) λ_ o8=>bif gB o8 0 then aR (aU 0 (ln (gR (gC o6 1) 12)))<|bO (G BK [bG (gC o6 0),bS (gA (gR (gC o6 1) 12) 0),iI (gI (gC o6 1) 2)]) λ_ o9=>bif gB o9 0 then aR (aU 1 (ln (gR (gC o6 1) 12)))<|bO (G BK [bG (gC o6 0),bS (gA (gR (gC o6 1) 12) 1),iI (gI (gC o6 1) 2)]) λ_ cV=>ae [ak (gB cV 0)]else bY else bY else bY else ae [ak (gB o6 0)]else bif gI l1 0==7 then bif cg 1 (gI l1 1)then bif cg (gI l1 1) 8192 then bO (G rQ [aa (gR l0 7),iI (gI l1 1)]) λ_ cX=>ae [ak (!(gB cX 0))]else bY else bY else bif gI l1 0==8 then bO (G rQ [aa (gR l0 6),iI (gI l1 1)]) λ_ dj=>ae [ak (gB dj 0)]else bif gI l1 0==10 then bif cg 1 (gI l1 1)then bif cg (gI l1 1) (gI l0 1)then c9 else bif gI l1 1==0 then ae [ak (gB l0 13)]else bY else bif gI l1 1==0 then ae [ak (gB l0 13)]else bY else bO (Uc G N [bE (gI l1 0)]) λ_ fe=>bif gB fe 0 then aR (aU 0 (ln (gR l1 12)))<|bO (G sF [bG l0,bS (gA (gR l1 12) 0)]) λ_ dc=>ae [ak (gB dc 0)]else bO (T6 G N [bE (gI l1 0)]) λ_ dr=>bif gB dr 0 then aR (aU 0 (ln (gR l1 14)))<|bO (G Ir [bG l0,eE (gA (gR l1 14) 0)]) λ_ fX=>ae [ak (gB fX 0)]else bif gI l1 0==14 then bif gB l1 6 then aR (aU 0 (ln (gR l1 14)))<|bO (G Ir [bG l0,eE (gA (gR l1 14) 0)]) λ_ du=>bif gB du 0 then bO (G rQ [aa (gR l0 9),iI (gI l1 4)]) λ_ gG=>bif gB gG 0 then bif cg 0 (gI l1 5)then bp (gI l1 4) (gR l0 3)<|ae [ak (aU (gI l1 5) (ln (gR (aD (gR l0 3) (gI l1 4)) 2)))]else bY else bY else bY else aR (aU 0 (ln (gR l1 14)))<|bO (G Ir [bG l0,eE (gA (gR l1 14) 0)]) λ_ iH=>bif gB iH 0 then bO (G EX [bG l0,iI (gI l0 5),iI (gI l1 5)]) λ_ sj=>ae [ak (gB sj 0)]else bY else bif gI l1 0==16 then bO (G EV [bG l0,av l1,iI 2]) λ_ iZ=>bif gB iZ 0 then bO (G NS [bG l0,av l1]) λ_ vZ=>ae [ak (gB vZ 0)]else bY else bif gI l1 0==17 then bO (G EV [bG l0,av l1,iI 3]) λ_ Hp=>bif gB Hp 0 then bif cg 0 (gI l1 4)then bif aU (gI l1 4) (ln (gR l0 3))then bif cg 0 (gI l1 5)then bp (gI l1 4) (gR l0 3)<|ae [ak (aU (gI l1 5) (ln (gR (aD (gR l0 3) (gI l1 4)) 2)))]else bY else bY else bY else bY else bif gI l1 0==18 then bO (G E5 [bG l0,iI (gI l1 5)]) λ_ jA=>ae [ak (gB jA 0)]else bif gI l1 0==20 then bif cg 0 (gI l1 4)then bif aU (gI l1 4) (ln (gR l0 3))then bO (G rQ [aa (gR l0 9),iI (gI l1 4)]) λ_ Ho=>bif !(gB Ho 0)then bif ln (gR l0 9)==0 then c9 else bp (gI l1 4) (gR l0 3)<|ae [ak (ln (gR (aD (gR l0 3) (gI l1 4)) 2)==0)]else bY else bY else bY else bif gI l1 0==21 then bO (G Vr [bG l0,av l1]) λ_ zh=>ae [ak (gB zh 0)]else bif gI l1 0==22 then bif cg 1 (ln (gR l1 16))then bif cg (ln (gR l1 16)) 32 then bO (G B3 [aa (gR l1 16),iI 1,iI (bw (ln (gR l0 2)- 1))]) λ_ Hn=>ae [ak (gB Hn 0)]else bY else bY else c9:aJ):=by kernel_rfl
def axA:bZ CX EE G N EW [J l0]=(ae [J (sT (oH l0) [(6,aa cy),(13,aq),(14,iI (-1))])]:aJ):=by kernel_rfl
def azl:W5 G N [J l0,J l1]=(bif aU 256 (ln (gR l1 18))then aN [iI (-1),bG l0,av l1]else bif aU 16 (ln (gR l1 19))then aN [iI (-1),bG l0,av l1]else bO (G B3 [aa (gR l1 16),iI (bw (gI l0 5+1)),iI (bw (ln (gR l0 2)- 1))]) λ_ o1=>bif !(gB o1 0)then aN [iI (-1),bG l0,av l1]else ae [bG l0,av l1]:aJ):=by kernel_rfl
def aep:NK G N [iI i0,iI i1,J l2]=(bif aU i1 (ln (gR l2 18))then bif cg 0 i0 then ae [av l2]else aN [av l2]else aN [av l2]:aJ):=by kernel_rfl
def aeB:xY G N (n+1) [iI i0,iI i1,J l2,J l3]=(bO (NK G N [iI i0,iI i1,av l3]) λq3 o3=>bif bQ q3 then bO (G EW [bG l2]) λ_ o4=>bO (G EW [bG l2]) λ_ o5=>bp i1 (gR (gC o3 0) 18)<|bO (G p7 [J (sT (oH (gC o4 0)) [(11,cw)]),av (aD (gR (gC o3 0) 18) i1),iI i0]) λ_ o6=>bif cg 0 (gI o6 0)then bp i1 (gR (gC o3 0) 18)<|bO (G p7 [J (sT (oH (gC o5 0)) [(12,cw)]),J (cP dG 21 (aD (gR (gC o3 0) 18) i1)),iI (gI o6 0)]) λ_ o7=>xY G N n [iI (gI o7 0),cC i1,bG l2,av (gC o3 0)]else xY G N n [iI (gI o6 0),cC i1,bG l2,av (gC o3 0)]else ae [iI i0,bG l2,av (gC o3 0)]:aJ):=by kernel_rfl
def ayr:WG G N [iI i0,J l1,J l2]=(bO (xY G N N [iI i0,iI 0,bG l1,av l2]) λ_ o8=>ae [iI (gI o8 0),bG (gC o8 1),av (gC o8 2)]:aJ):=by kernel_rfl
def aeJ:N1 G N [iI i0,J l1,J l2]=(bif cg 0 i0 then aR (aU 0 (ln (gR l2 17)))<|bO (G p7 [bG l1,av (gA (gR l2 17) 0),iI i0]) λ_ cV=>ae [iI (gI cV 0),bG l1,av l2]else ae [iI i0,bG l1,av l2]:aJ):=by kernel_rfl
def Vw:IF G N [iI i0,iI i1,J l2]=(bif aU i1 (ln (gR l2 19))then bif cg 0 i0 then ae [av l2]else aN [av l2]else aN [av l2]:aJ):=by kernel_rfl
def at7:Vj G N [iI i0,J l1,J l2,J l3]=(bif ln (gR l3 0)==0 then bif i0 != bw (ln (gR l2 19)- 1)then aN [iI (-1),bG l1,av l2,oc l3]else bO (G Fg [aa (gR l3 0),iI 1,iI (gI l1 1)]) λ_ fe=>bif !(gB fe 0)then aN [iI (-1),bG l1,av l2,oc l3]else ae [bG l1,av l2,oc l3]else bO (G Fg [aa (gR l3 0),iI 1,iI (gI l1 1)]) λ_ dc=>bif !(gB dc 0)then aN [iI (-1),bG l1,av l2,oc l3]else ae [bG l1,av l2,oc l3]:aJ):=by kernel_rfl
def adj:Ij G N (n+1) [iI i0,J l1,aa r2]=(bif aU i0 (ln (gR l1 0))then bp i0 (gR l1 0)<|bO (G OO [iI (gI (aD (gR l1 0) i0) 0),aa r2]) λ_ fX=>bif gB fX 0 then ae [iI (-1),oc l1]else bp i0 (gR l1 0)<|aR (lV (((gR fX 1).length +1)*8) 140737488355328)<|Ij G N n [cC i0,oc l1,aa ((gR fX 1)++(([[iI (gI (aD (gR l1 0) i0) 0)]]:aW)))]else aN [oc l1,aa r2]:aJ):=by kernel_rfl
def Vt:zO G N (n+1) [iI i0,iI i1,J l2,J l3,aa r4]=(bO (IF G N [iI i0,iI i1,av l3]) λpN dj=>bif bQ pN then bp i1 (gR (gC dj 0) 19)<|bO (Vj G N [iI i1,bG l2,av (gC dj 0),oc (aD (gR (gC dj 0) 19) i1)]) λvT dr=>bif bQ vT then bO (Ij G N N [iI 0,oc (gC dr 2),aa r4]) λvS du=>bif bQ vS then ae [iI (gI du 0),bG (gC dr 0),av (gC dr 1)]else bO (G p7 [bG (gC dr 0),J (cP dG 1 (gC du 0)),iI i0]) λ_ gG=>zO G N n [iI (gI gG 0),cC i1,bG (gC dr 0),av (gC dr 1),aa (gR du 1)]else ae [iI (gI dr 0),bG (gC dr 1),av (gC dr 2)]else aN [iI i0,bG l2,av (gC dj 0)]:aJ):=by kernel_rfl
def aAS:bZ CX EE G N Jf [J l0,J l1,iI i2]=(bO (W5 G N [bG l0,av l1]) λq2 o2=>bif bQ q2 then bO (WG G N [iI i2,bG (gC o2 0),av (gC o2 1)]) λ_ o9=>bO (N1 G N [iI (gI o9 0),J (sT (oH (gC o9 1)) [(14,iI (-1))]),av (gC o9 2)]) λ_ cX=>bO (zO G N N [iI (gI cX 0),iI 0,J (sT (oH (gC cX 1)) [(13,cw)]),av (gC cX 2),aa cy]) λDP iH=>bif bQ DP then ae [iI (gI iH 0)]else ae [iI (gI iH 0)]else ae [iI (gI o2 0)]:aJ):=by kernel_rfl
def ayv:WN G N [J l0]=(bif aU (ln (gR l0 20)) 1 then aN [iI (-1),av l0]else bif aU 16 (ln (gR l0 20))then aN [iI (-1),av l0]else bif !(gB l0 9)then aR (aU 0 (ln (gR l0 17)))<|bO (G nM [av (gA (gR l0 17) 0),J se]) λ_ o1=>bif !(gB o1 0)then aN [iI (-1),av l0]else ae [av l0]else ae [av l0]:aJ):=by kernel_rfl
def Vd:Ix G N [iI i0,iI i1,J l2]=(bif aU i1 (ln (gR l2 20))then bif cg 0 i0 then ae [av l2]else aN [av l2]else aN [av l2]:aJ):=by kernel_rfl
def ato:U1 G N [iI i0,iI i1,iI i2,J l3,J l4,J l5]=(bif gI l4 0==1 then bO (G M4 [bG l3,iI (gI l4 10)]) λ_ o6=>ae [cC i0,iI i1,iI i2,bG l3,mD l4,J (sT (oH (gC o6 0)) [(8,aa (gR o6 1))])]else bif gI l4 0==4 then ae [iI i0,iI i1,cC i2,bG l3,mD l4,bG l5]else ae [iI i0,cC i1,iI i2,bG l3,mD l4,bG l5]:aJ):=by kernel_rfl
def Vu:tU G N (n+1) [iI i0,iI i1,iI i2,iI i3,iI i4,J l5,J l6]=(bO (Ix G N [iI i0,iI i4,av l6]) λq4 o4=>bif bQ q4 then bp i4 (gR (gC o4 0) 20)<|bO (G ML [bG l5,mD (aD (gR (gC o4 0) 20) i4)]) λ_ o5=>bif !(gB o5 0)then ae [iI (-1),bG l5,av (gC o4 0)]else bO (U1 G N [iI i1,iI i2,iI i3,bG l5,mD (aD (gR (gC o4 0) 20) i4),bG l5]) λ_ o7=>bO (G p7 [bG (gC o7 5),J (cP dG 12 (gC o7 4)),iI i0]) λ_ o8=>bif cg 0 (gI o8 0)then bO (G p7 [bG (gC o7 3),J (cP dG 33 (gC o7 4)),iI (gI o8 0)]) λ_ o9=>tU G N n [iI (gI o9 0),iI (gI o7 0),iI (gI o7 1),iI (gI o7 2),cC i4,bG (gC o7 3),av (gC o4 0)]else tU G N n [iI (gI o8 0),iI (gI o7 0),iI (gI o7 1),iI (gI o7 2),cC i4,bG (gC o7 3),av (gC o4 0)]else aN [iI i0,iI i1,iI i2,iI i3,bG l5,av (gC o4 0)]:aJ):=by kernel_rfl
def Nk:BT G N [iI i0,iI i1,iI i2,iI i3,J l4,J l5]=(bO (tU G N N [iI i0,iI i1,iI i2,iI i3,iI 0,bG l4,av l5]) λmO cV=>bif bQ mO then aN [iI (gI cV 0),bG (gC cV 1),av (gC cV 2)]else ae [iI (gI cV 0),iI (gI cV 1),iI (gI cV 2),iI (gI cV 3),bG (gC cV 4),av (gC cV 5)]:aJ):=by kernel_rfl
def aAb:bZ CX EE G N Fh [J l0,J l1,iI i2]=(bO (WN G N [av l1]) λq2 o2=>bif bQ q2 then aR (aU 0 (ln (gR (gC o2 0) 17)))<|bO (G p7 [J (sT (oH l0) [(14,iI (-1))]),av (gA (gR (gC o2 0) 17) 0),iI i2]) λ_ o3=>bO (BT G N [iI (gI o3 0),iI 0,iI 0,iI 0,J (sT (oH l0) [(14,iI (-1))]),av (gC o2 0)]) λre cX=>bif bQ re then bif aU 0 (gI cX 2)then bif gB (gC cX 5) 9 then bif gI cX 1==0 then ae [iI (-1)]else bif aU 1 (gI cX 3)then ae [iI (-1)]else bif aU 1 (bw (2+gI cX 3))then ae [iI (-1)]else ae [iI (gI cX 0)]else bif gI cX 1==0 then ae [iI (-1)]else bif aU 1 (gI cX 3)then ae [iI (-1)]else bif aU 1 (bw (1+gI cX 3))then ae [iI (-1)]else ae [iI (gI cX 0)]else bif gB (gC cX 5) 9 then bif gI cX 1==0 then ae [iI (-1)]else bif aU 1 (gI cX 3)then ae [iI (-1)]else bif aU 1 (bw (1+gI cX 3))then ae [iI (-1)]else ae [iI (gI cX 0)]else bif gI cX 1==0 then ae [iI (-1)]else bif aU 1 (gI cX 3)then ae [iI (-1)]else bif aU 1 (bw (0+gI cX 3))then ae [iI (-1)]else ae [iI (gI cX 0)]else ae [iI (gI cX 0)]else ae [iI (gI o2 0)]:aJ):=by kernel_rfl
def atw:bZ CX EE G N M4 [J l0,iI i1]=(bO (G EW [bG l0]) λ_ o1=>aR (xy (gR l0 8))<|aR (lV ((((([]:aW))++(gR l0 8)).length +1)*8) 140737488355328)<|ae [J (sT (aAt (gC o1 0)) [(8,.aC 0),(14,iI i1)]),aa (((([]:aW))++(gR l0 8))++(([[iI i1]]:aW)))]:aJ):=by kernel_rfl
def awm:bZ CX EE G N VO [J l0,iI i1]=(bO (G EW [bG l0]) λ_ o1=>aR (xy (gR l0 9))<|aR (lV ((((([]:aW))++(gR l0 9)).length +1)*8) 140737488355328)<|ae [J (sT (aAu (gC o1 0)) apq),aa (((([]:aW))++(gR l0 9))++(([[iI i1]]:aW)))]:aJ):=by kernel_rfl
def aqQ:H6 G N [bE i0]=(bif i0==2 then c9 else ae [ak (i0==3)]:aJ):=by kernel_rfl
def asi:bZ CX EE G N ML [J l0,J l1]=(bO (G zL [bG l0,J (cP B0 1 l1)]) λ_ o1=>bif !(gB o1 0)then bY else bif gI l1 0==1 then bif ln (gR l1 11)==0 then bO (G E5 [bG l0,iI (gI l1 10)]) λ_ o2=>ae [ak (gB o2 0)]else bY else bO (H6 G N [bE (gI l1 0)]) λ_ o3=>bif gB o3 0 then bif gI l1 10==0 then bif ln (gR l1 11)==1 then aR (aU 0 (ln (gR l1 11)))<|bO (G sF [bG l0,bS (gA (gR l1 11) 0)]) λ_ o4=>bif gB o4 0 then bO (G nM [J (cP dG 12 l1),J se]) λ_ o5=>ae [ak (gB o5 0)]else bY else bY else bY else bif gI l1 0==4 then bif gI l1 10==0 then bif ln (gR l1 11)==0 then bO (G nM [J (cP dG 12 l1),J se]) λ_ o6=>bif gB o6 0 then bO (G nM [J (cP dG 33 l1),J se]) λ_ o7=>ae [ak (gB o7 0)]else bY else bY else bY else bY:aJ):=by kernel_rfl
end
noncomputable section
variable {G:Nat->bl->Option UO} {N n:Nat} {i0 i1 i2:Int} {l0 l1 l2 l3:bl} {r0 r1 r2:aW}
def azZ:OF G N [iI i0,J l1,J l2]=(bif aU i0 1 then aN [iI (-1),bG l1,av l2]else bif cg 64 (gI l1 15)then aN [iI (-1),bG l1,av l2]else bO (G ON [av l2]) λ_ o1=>bif !(gB o1 0)then aN [iI (-1),bG l1,av l2]else bO (G VN [bG l1,av l2]) λ_ o2=>bif !(gB o2 0)then aN [iI (-1),bG l1,av l2]else bO (G uY [bG l1,av l2]) λ_ o3=>bif !(gB o3 0)then aN [iI (-1),bG l1,av l2]else ae [bG l1,av l2]:aJ):=by kernel_rfl
def WC:IZ G N [iI i0,J l1,J l2]=(bif gI l2 0==9 then bO (G Jf [bG l1,av l2,iI i0]) λ_ o5=>aN [iI (gI o5 0),bG l1,av l2]else bif gI l2 0==19 then bO (G Fh [bG l1,av l2,iI i0]) λ_ o6=>aN [iI (gI o6 0),bG l1,av l2]else bif gI l2 0==7 then aR (xy (gR l1 6))<|aR (zl ((([]:aW))++(gR l1 6)) (([[iI (gI l2 1)]]:aW)))<|aR (xy (gR l1 7))<|aR (zl ((([]:aW))++(gR l1 7)) (([[iI (gI l2 1)]]:aW)))<|ae [J (sT (oH l1) [(6,aa (((([]:aW))++(gR l1 6))++(([[iI (gI l2 1)]]:aW)))),(7,aa (((([]:aW))++(gR l1 7))++(([[iI (gI l2 1)]]:aW))))]),av l2]else bif gI l2 0==6 then aR (xy (gR l1 10))<|aR (zl ((([]:aW))++(gR l1 10)) (([[iI (gI l2 2)]]:aW)))<|ae [J (sT (oH l1) [(10,aa (((([]:aW))++(gR l1 10))++(([[iI (gI l2 2)]]:aW))))]),av l2]else ae [bG l1,av l2]:aJ):=by kernel_rfl
def aeq:NL G N [iI i0,iI i1,J l2]=(bif aU i1 (ln (gR l2 17))then bif cg 0 i0 then ae [av l2]else aN [av l2]else aN [av l2]:aJ):=by kernel_rfl
def av7:VV G N [iI i0,J l1,J l2,J l3]=(bif i0==0 then bif gI l2 0==18 then bO (G M4 [bG l1,iI (gI l2 5)]) λ_ o9=>ae [bG l1,av l2,J (sT (oH (gC o9 0)) [(8,aa (gR o9 1))])]else ae [bG l1,av l2,bG l3]else ae [bG l1,av l2,bG l3]:aJ):=by kernel_rfl
def au6:VA G N [iI i0,J l1]=(bif i0==0 then bif gI l1 0==20 then ae [cw,av l1]else ae [ak (gI l1 0==17),av l1]else ae [aq,av l1]:aJ):=by kernel_rfl
def av6:VU G N [iI i0,J l1,J l2,J l3]=(bO (VA G N [iI i0,av l2]) λ_ cX=>bif gB cX 0 then bO (G VO [bG l1,iI (gI (gC cX 1) 4)]) λ_ dj=>ae [bG l1,av (gC cX 1),J (sT (oH (gC dj 0)) [(9,aa (gR dj 1))])]else ae [bG l1,av (gC cX 1),bG l3]:aJ):=by kernel_rfl
def au5:Vz G N [iI i0,J l1,J l2]=(bif gI l1 0==16 then ae [av l1,J (sT (oH l2) [(14,iI (-1))])]else bif gI l1 0==17 then bif aU 0 i0 then ae [av l1,J (sT (oH l2) [(14,iI (-1))])]else bif gI l1 0==18 then bif aU 0 i0 then ae [av l1,J (sT (oH l2) [(14,iI (-1))])]else ae [av l1,bG l2]else ae [av l1,bG l2]else bif gI l1 0==18 then bif aU 0 i0 then ae [av l1,J (sT (oH l2) [(14,iI (-1))])]else ae [av l1,bG l2]else ae [av l1,bG l2]:aJ):=by kernel_rfl
def aeD:zQ G N (n+1) [iI i0,iI i1,J l2,J l3]=(bO (NL G N [iI i0,iI i1,av l3]) λq8 o8=>bif bQ q8 then bO (VV G N [iI i1,bG l2,av (gC o8 0),bG l2]) λ_ cV=>bO (VU G N [iI i1,bG (gC cV 0),av (gC cV 1),bG (gC cV 2)]) λ_ fe=>bO (Vz G N [iI i1,av (gC fe 1),bG (gC fe 2)]) λ_ dc=>bp i1 (gR (gC dc 0) 17)<|bO (G p7 [bG (gC dc 1),av (aD (gR (gC dc 0) 17) i1),iI i0]) λ_ dr=>zQ G N n [iI (gI dr 0),cC i1,bG (gC fe 0),av (gC dc 0)]else ae [iI i0,bG l2,av (gC o8 0)]:aJ):=by kernel_rfl
def aBs:bZ CX EE G N p7 [J l0,J l1,iI i2]=(bO (OF G N [iI i2,bG l0,av l1]) λq4 o4=>bif bQ q4 then bO (IZ G N [iI (bw (i2- 1)),J (sT (oH (gC o4 0)) [(15,iI (bw (gI (gC o4 0) 15+1)))]),av (gC o4 1)]) λq7 o7=>bif bQ q7 then bO (zQ G N N [iI (bw (i2- 1)),iI 0,bG (gC o7 0),av (gC o7 1)]) λ_ fX=>ae [iI (gI fX 0)]else ae [iI (gI o7 0)]else ae [iI (gI o4 0)]:aJ):=by kernel_rfl
def adi:Ii G N (n+1) [iI i0,aa r1,J l2]=(bif aU i0 (ln (gR l2 16))then bp i0 (gR l2 16)<|bp (gI (aD (gR l2 16) i0) 0) r1<|aR (dH ((gI (aD (gR l2 16) i0) 0).toNat) (r1.length))<|bp (gI (aD (gR l2 16) i0) 0) r1<|aR (dH ((gI (aD (gR l2 16) i0) 0).toNat) (r1.length))<|Ii G N n [cC i0,aa (r1.set ((gI (aD (gR l2 16) i0) 0).toNat) (setAt (aD r1 (gI (aD (gR l2 16) i0) 0)) 0 [iI (bw ((gI (aD r1 (gI (aD (gR l2 16) i0) 0)) 0)+1))])),av l2]else ae [aa r1,av l2]:aJ):=by kernel_rfl
def at6:Vi G N [aa r0,J l1]=(bif gI l1 0==9 then bO (Ii G N N [iI 0,aa r0,av l1]) λ_ o2=>ae [aa (gR o2 0),av (gC o2 1)]else ae [aa r0,av l1]:aJ):=by kernel_rfl
def ads:Nc G N (n+1) [iI i0,aa r1,bC r2]=(bif aU i0 (ln r2)then bp i0 r2<|aR (dH (i0.toNat) (r2.length))<|bO (G Ny [av (aD r2 i0),aa r1]) λ_ o4=>Nc G N n [cC i0,aa (gR o4 0),bC r2]else ae [aa r1,bC r2]:aJ):=by kernel_rfl
def axy:bZ CX EE G N Ny [J l0,aa r1]=(bO (G zT [av l0]) λ_ o1=>bO (Vi G N [aa r1,av l0]) λ_ o3=>bO (Nc G N N [iI 0,aa (gR o3 0),bC (gR o1 0)]) λ_ o5=>ae [aa (gR o5 0)]:aJ):=by kernel_rfl
def aAP:XI G N [J l0]=(bO (G WW [bJ (gR l0 0)]) λ_ o1=>bif !(gB o1 0)then aN [aq,bL l0]else bif aU (gI l0 1) 4 then aN [aq,bL l0]else bif aU 64 (gI l0 1)then aN [aq,bL l0]else bif aU (ln (gR l0 2)) 1 then aN [aq,bL l0]else bif aU 32 (ln (gR l0 2))then aN [aq,bL l0]else bif aU 32 (ln (gR l0 3))then aN [aq,bL l0]else ae [bL l0]:aJ):=by kernel_rfl
def ae5:IW G N (n+1) [iI i0,J l1]=(bif aU i0 (ln (gR l1 2))then bp i0 (gR l1 2)<|bif aU (gI (aD (gR l1 2) i0) 0) 0 then ae [aq,bL l1]else bif aU 31 (gI (aD (gR l1 2) i0) 0)then ae [aq,bL l1]else bif aU 8 (ln (gR (aD (gR l1 2) i0) 1))then ae [aq,bL l1]else bif aU (gI (aD (gR l1 2) i0) 23) 0 then ae [aq,bL l1]else bif aU 2147483647 (gI (aD (gR l1 2) i0) 23)then ae [aq,bL l1]else IW G N n [cC i0,bL l1]else aN [bL l1]:aJ):=by kernel_rfl
def aft:OG G N [J l0]=(bO (IW G N N [iI 0,bL l0]) λq3 o3=>bif bQ q3 then aN [ak (gB o3 0),bL (gC o3 1)]else ae [bL (gC o3 0)]:aJ):=by kernel_rfl
def axs:Wq G N [J l0]=(bif aU (gI l0 0) 0 then aN [aq,mC l0]else bif aU 31 (gI l0 0)then aN [aq,mC l0]else bif aU 8 (ln (gR l0 2))then aN [aq,mC l0]else ae [mC l0]:aJ):=by kernel_rfl
def adZ:BQ G N (n+1) [iI i0,J l1,J l2]=(bif aU i0 (ln (gR l2 2))then bp i0 (gR l2 2)<|bO (G Cw [J [bJ (gR l1 0),eC ([]),iI (ln (gR l2 2))],bS (aD (gR l2 2) i0)]) λ_ o7=>bif !(gB o7 1)then ae [aq,bL l1,mC l2]else bO (G wH [cO (gC o7 0)]) λ_ o8=>bif !(gB o8 0)then ae [aq,bL l1,mC l2]else bp i0 (gR l2 2)<|bO (G IQ [bJ (gR l1 0),aa (gR l2 1),bS (aD (gR l2 2) i0)]) λ_ o9=>bif !(gB o9 0)then ae [aq,bL l1,mC l2]else BQ G N n [cC i0,bL l1,mC l2]else aN [bL l1,mC l2]:aJ):=by kernel_rfl
def aeG:BZ G N (n+1) [iI i0,J l1]=(bif aU i0 (ln (gR l1 3))then bp i0 (gR l1 3)<|bO (Wq G N [mC (aD (gR l1 3) i0)]) λq6 o6=>bif bQ q6 then bO (BQ G N N [iI 0,bL l1,mC (gC o6 0)]) λmO cV=>bif bQ mO then ae [ak (gB cV 0),bL (gC cV 1)]else BZ G N n [cC i0,bL (gC cV 0)]else ae [ak (gB o6 0),bL l1]else aN [bL l1]:aJ):=by kernel_rfl
def afb:Og G N [J l0]=(bO (BZ G N N [iI 0,bL l0]) λre cX=>bif bQ re then aN [ak (gB cX 0),bL (gC cX 1)]else ae [bL (gC cX 0)]:aJ):=by kernel_rfl
def aeF:BY G N (n+1) [cG r0,iI i1,iI i2,J l3]=(bif aU i2 (ln (gR l3 2))then bif cg 0 i1 then bp i2 (gR l3 2)<|bO (G p7 [J [bJ (gR l3 0),iI (gI l3 1),fZ (gR l3 2),od (gR l3 3),cG r0,iI i2,aa cy,aa cy,aa cy,aa cy,aa cy,aq,aq,aq,iI (-1),iI 0],J (cP dG 2 (aD (gR l3 2) i2)),iI i1]) λ_ fe=>BY G N n [cG r0,iI (gI fe 0),cC i2,bL l3]else ae [iI i1,bL l3]else ae [iI i1,bL l3]:aJ):=by kernel_rfl
def ayA:WT G N [iI i0,J l1,cG r2]=(bO (BY G N N [cG r2,iI i0,iI 0,bL l1]) λ_ dc=>ae [iI (gI dc 0),bL (gC dc 1),cG r2]:aJ):=by kernel_rfl
def aej:IL G N (n+1) [iI i0,J l1,aa r2]=(bif aU i0 (ln (gR l1 2))then bp i0 (gR l1 2)<|bO (G Ny [J (cP dG 2 (aD (gR l1 2) i0)),aa r2]) λ_ fX=>IL G N n [cC i0,bL l1,aa (gR fX 0)]else ae [bL l1,aa r2]:aJ):=by kernel_rfl
def aei:IK G N (n+1) [iI i0,J l1,aa r2]=(bif aU i0 (ln (gR l1 2))then bp i0 r2<|aR (dH (i0.toNat) (r2.length))<|bif gI (aD r2 i0) 0 != 1 then ae [aq,bL l1,aa r2]else IK G N n [cC i0,bL l1,aa r2]else aN [bL l1,aa r2]:aJ):=by kernel_rfl
def agL:bZ CX EE G N yi [J l0]=(bO (XI G N [bL l0]) λq2 o2=>bif bQ q2 then aR (aU 0 (ln (gR (gC o2 0) 2)))<|bif aU 0 (ln (gR (gA (gR (gC o2 0) 2) 0) 1))then bY else bO (OG G N [bL (gC o2 0)]) λq4 o4=>bif bQ q4 then bO (G OM [bL (gC o4 0)]) λ_ o5=>bif !(gB o5 0)then bY else bO (Og G N [bL (gC o4 0)]) λpN dj=>bif bQ pN then bO (WT G N [iI 8192,bL (gC dj 0),cG (gR o5 1)]) λ_ dr=>bif aU (gI dr 0) 0 then bY else aR (cg 0 (ln (gR (gC dr 1) 2))&&cg (ln (gR (gC dr 1) 2)) (ln (gR (gC dr 1) 2))&&cg ((ln (gR (gC dr 1) 2))*8) 140737488355328)<|bO (IL G N N [iI 0,bL (gC dr 1),aa (List.replicate ((ln (gR (gC dr 1) 2)).toNat) ([iI 0]:Row))]) λ_ du=>bO (IK G N N [iI 1,bL (gC du 0),aa (gR du 1)]) λLx gG=>bif bQ Lx then ae [ak (gB gG 0)]else aR (aU 0 (ln (gR gG 1)))<|aR (dH 0 ((gR gG 1).length))<|ae [ak (gI (gA (gR gG 1) 0) 0==0)]else ae [ak (gB dj 0)]else ae [ak (gB o4 0)]else ae [ak (gB o2 0)]:aJ):=by kernel_rfl
def adY:Nu G N (n+1) [iI i0,bC r1,bC r2]=(bif aU i0 (ln r1)then bp i0 r1<|aR (dH (i0.toNat) (r1.length))<|bO (G Ov [av (aD r1 i0),bC r2]) λ_ o2=>Nu G N n [cC i0,bC r1,bC (gR o2 0)]else ae [bC r1,bC r2]:aJ):=by kernel_rfl
def aAe:bZ CX EE G N Ov [J l0,bC r1]=(aR (lV ((r1.length+1)*272) 140737488355328)<|bO (G zT [av l0]) λ_ o1=>bO (Nu G N N [iI 0,bC (gR o1 0),bC (r1++(([dJ l0]:aW)))]) λ_ o3=>ae [bC (gR o3 1)]:aJ):=by kernel_rfl
def ae6:Oe G N (n+1) [iI i0,J l1,bC r2]=(bif aU i0 (ln (gR l1 2))then bp i0 (gR l1 2)<|bO (G Ov [J (cP dG 2 (aD (gR l1 2) i0)),bC r2]) λ_ o2=>Oe G N n [cC i0,bL l1,bC (gR o2 0)]else ae [bL l1,bC r2]:aJ):=by kernel_rfl
def aB0:bZ CX EE G N Yq [J l0]=(bO (G yi [bL l0]) λ_ o1=>bif !(gB o1 0)then ae [bC cy]else bO (Oe G N N [iI 0,bL l0,bC cy]) λ_ o3=>ae [bC (gR o3 1)]:aJ):=by kernel_rfl
def afc:Oh G N [iI i0,iI i1,J l2]=(bif aU i1 (ln (gR l2 18))then bif cg 0 i0 then ae [av l2]else aN [av l2]else aN [av l2]:aJ):=by kernel_rfl
def ae9:B2 G N (n+1) [iI i0,iI i1,J l2,J l3]=(bO (Oh G N [iI i0,iI i1,av l2]) λq1 o1=>bif bQ q1 then bp i1 (gR (gC o1 0) 18)<|bO (G yj [av (aD (gR (gC o1 0) 18) i1),iI i0,av l3]) λ_ o2=>bp i1 (gR (gC o1 0) 18)<|bif cg 0 (gI o2 1)then bO (G yj [J (cP dG 21 (aD (gR (gC o1 0) 18) i1)),iI (gI o2 1),av l3]) λ_ o3=>aR (lV ((0+(gR (gC o1 0) 18).length)*544) 140737488355328)<|bp i1 ((([]:aW))++(gR (gC o1 0) 18))<|aR (dH (i1.toNat) (((([]:aW))++(gR (gC o1 0) 18)).length))<|B2 G N n [iI (gI o3 1),cC i1,J (sT (dJ (gC o1 0)) [(18,dh (((([]:aW))++(gR (gC o1 0) 18)).set i1.toNat (setAt (aD ((([]:aW))++(gR (gC o1 0) 18)) i1) 0 (sT (BN (gC o2 0)) [(21,bE (gI (gC o3 0) 0)),(22,iI (gI (gC o3 0) 1)),(23,iI (gI (gC o3 0) 2)),(24,iI (gI (gC o3 0) 3)),(25,iI (gI (gC o3 0) 4)),(26,iI (gI (gC o3 0) 5)),(27,ak (gB (gC o3 0) 6)),(28,ak (gB (gC o3 0) 7)),(29,ak (gB (gC o3 0) 8)),(30,ak (gB (gC o3 0) 9)),(31,ak (gB (gC o3 0) 10)),(32,bE (gI (gC o3 0) 11)),(33,aT (gR (gC o3 0) 12)),(34,aT (gR (gC o3 0) 13)),(35,bH (gR (gC o3 0) 14)),(36,bH (gR (gC o3 0) 15)),(37,aa (gR (gC o3 0) 16)),(38,bC (gR (gC o3 0) 17)),(39,dh (gR (gC o3 0) 18)),(40,dg (gR (gC o3 0) 19)),(41,c8 (gR (gC o3 0) 20))]))))]),av l3]else aR (lV ((0+(gR (gC o1 0) 18).length)*544) 140737488355328)<|bp i1 ((([]:aW))++(gR (gC o1 0) 18))<|aR (dH (i1.toNat) (((([]:aW))++(gR (gC o1 0) 18)).length))<|B2 G N n [iI (gI o2 1),cC i1,J (sT (dJ (gC o1 0)) [(18,dh (((([]:aW))++(gR (gC o1 0) 18)).set i1.toNat (setAt (aD ((([]:aW))++(gR (gC o1 0) 18)) i1) 0 (sT (BN (gC o2 0)) [(21,bE (gI (aD (gR (gC o1 0) 18) i1) 21)),(22,iI (gI (aD (gR (gC o1 0) 18) i1) 22)),(23,iI (gI (aD (gR (gC o1 0) 18) i1) 23)),(24,iI (gI (aD (gR (gC o1 0) 18) i1) 24)),(25,iI (gI (aD (gR (gC o1 0) 18) i1) 25)),(26,iI (gI (aD (gR (gC o1 0) 18) i1) 26)),(27,ak (gB (aD (gR (gC o1 0) 18) i1) 27)),(28,ak (gB (aD (gR (gC o1 0) 18) i1) 28)),(29,ak (gB (aD (gR (gC o1 0) 18) i1) 29)),(30,ak (gB (aD (gR (gC o1 0) 18) i1) 30)),(31,ak (gB (aD (gR (gC o1 0) 18) i1) 31)),(32,bE (gI (aD (gR (gC o1 0) 18) i1) 32)),(33,aT (gR (aD (gR (gC o1 0) 18) i1) 33)),(34,aT (gR (aD (gR (gC o1 0) 18) i1) 34)),(35,bH (gR (aD (gR (gC o1 0) 18) i1) 35)),(36,bH (gR (aD (gR (gC o1 0) 18) i1) 36)),(37,aa (gR (aD (gR (gC o1 0) 18) i1) 37)),(38,bC (gR (aD (gR (gC o1 0) 18) i1) 38)),(39,dh (gR (aD (gR (gC o1 0) 18) i1) 39)),(40,dg (gR (aD (gR (gC o1 0) 18) i1) 40)),(41,c8 (gR (aD (gR (gC o1 0) 18) i1) 41))]))))]),av l3]else ae [iI i0,av (gC o1 0),av l3]:aJ):=by kernel_rfl
def az1:Xm G N [iI i0,J l1,J l2]=(bO (B2 G N N [iI i0,iI 0,av l1,av l2]) λ_ o4=>ae [iI (gI o4 0),av (gC o4 1),av (gC o4 2)]:aJ):=by kernel_rfl
def aeO:N6 G N [iI i0,iI i1,J l2]=(bif aU i1 (ln (gR l2 17))then bif cg 0 i0 then ae [av l2]else aN [av l2]else aN [av l2]:aJ):=by kernel_rfl
def ae8:Fa G N (n+1) [iI i0,iI i1,J l2,J l3]=(bO (N6 G N [iI i0,iI i1,av l2]) λq6 o6=>bif bQ q6 then aR (lV ((0+(gR (gC o6 0) 17).length)*272) 140737488355328)<|bp i1 (gR (gC o6 0) 17)<|bO (G yj [av (aD (gR (gC o6 0) 17) i1),iI i0,av l3]) λ_ o7=>bp i1 ((([]:aW))++(gR (gC o6 0) 17))<|aR (dH (i1.toNat) (((([]:aW))++(gR (gC o6 0) 17)).length))<|Fa G N n [iI (gI o7 1),cC i1,J (sT (dJ (gC o6 0)) [(17,bC (((([]:aW))++(gR (gC o6 0) 17)).set i1.toNat (setAt (aD ((([]:aW))++(gR (gC o6 0) 17)) i1) 0 (dJ (gC o7 0)))))]),av l3]else ae [iI i0,av (gC o6 0),av l3]:aJ):=by kernel_rfl
def az0:OH G N [iI i0,J l1,J l2]=(bO (Fa G N N [iI i0,iI 0,av l1,av l2]) λ_ o8=>ae [iI (gI o8 0),av (gC o8 1),av (gC o8 2)]:aJ):=by kernel_rfl
def aeN:N5 G N [iI i0,iI i1,J l2]=(bif aU i1 (ln (gR l2 19))then bif cg 0 i0 then ae [av l2]else aN [av l2]else aN [av l2]:aJ):=by kernel_rfl
def ae7:E9 G N (n+1) [iI i0,iI i1,J l2,J l3]=(bO (N5 G N [iI i0,iI i1,av l2]) λmO cV=>bif bQ mO then aR (lV ((0+(gR (gC cV 0) 19).length)*296) 140737488355328)<|bp i1 (gR (gC cV 0) 19)<|bO (G yj [J (cP dG 1 (aD (gR (gC cV 0) 19) i1)),iI i0,av l3]) λ_ cX=>bp i1 ((([]:aW))++(gR (gC cV 0) 19))<|aR (dH (i1.toNat) (((([]:aW))++(gR (gC cV 0) 19)).length))<|E9 G N n [iI (gI cX 1),cC i1,J (sT (dJ (gC cV 0)) [(19,dg (((([]:aW))++(gR (gC cV 0) 19)).set i1.toNat (setAt (aD ((([]:aW))++(gR (gC cV 0) 19)) i1) 1 (dJ (gC cX 0)))))]),av l3]else ae [iI i0,av (gC cV 0),av l3]:aJ):=by kernel_rfl
def azm:Oi G N [iI i0,J l1,J l2]=(bO (E9 G N N [iI i0,iI 0,av l1,av l2]) λ_ dj=>ae [iI (gI dj 0),av (gC dj 1),av (gC dj 2)]:aJ):=by kernel_rfl
def aeM:N4 G N [iI i0,iI i1,J l2]=(bif aU i1 (ln (gR l2 20))then bif cg 0 i0 then ae [av l2]else aN [av l2]else aN [av l2]:aJ):=by kernel_rfl
def aeH:xZ G N (n+1) [iI i0,iI i1,J l2,J l3]=(bO (N4 G N [iI i0,iI i1,av l2]) λvU dc=>bif bQ vU then aR (lV ((0+(gR (gC dc 0) 20).length)*664) 140737488355328)<|bp i1 (gR (gC dc 0) 20)<|bO (G yj [J (cP dG 12 (aD (gR (gC dc 0) 20) i1)),iI i0,av l3]) λ_ dr=>bp i1 ((([]:aW))++(gR (gC dc 0) 20))<|aR (dH (i1.toNat) (((([]:aW))++(gR (gC dc 0) 20)).length))<|bif cg 0 (gI dr 1)then bp i1 (gR (gC dc 0) 20)<|bO (G yj [J (cP dG 33 (aD (gR (gC dc 0) 20) i1)),iI (gI dr 1),av l3]) λ_ fX=>bp i1 (((([]:aW))++(gR (gC dc 0) 20)).set i1.toNat (setAt (aD ((([]:aW))++(gR (gC dc 0) 20)) i1) 12 (dJ (gC dr 0))))<|aR (dH (i1.toNat) ((((([]:aW))++(gR (gC dc 0) 20)).set i1.toNat (setAt (aD ((([]:aW))++(gR (gC dc 0) 20)) i1) 12 (dJ (gC dr 0)))).length))<|xZ G N n [iI (gI fX 1),cC i1,J (sT (dJ (gC dc 0)) [(20,c8 ((((([]:aW))++(gR (gC dc 0) 20)).set i1.toNat (setAt (aD ((([]:aW))++(gR (gC dc 0) 20)) i1) 12 (dJ (gC dr 0)))).set i1.toNat (setAt (aD (((([]:aW))++(gR (gC dc 0) 20)).set i1.toNat (setAt (aD ((([]:aW))++(gR (gC dc 0) 20)) i1) 12 (dJ (gC dr 0)))) i1) 33 (dJ (gC fX 0)))))]),av l3]else xZ G N n [iI (gI dr 1),cC i1,J (sT (dJ (gC dc 0)) [(20,c8 (((([]:aW))++(gR (gC dc 0) 20)).set i1.toNat (setAt (aD ((([]:aW))++(gR (gC dc 0) 20)) i1) 12 (dJ (gC dr 0)))))]),av l3]else ae [iI i0,av (gC dc 0),av l3]:aJ):=by kernel_rfl
end
noncomputable section
variable {G:Nat->bl->Option UO} {N n:Nat} {i0 i1 i2 i3 i4 i5:Int} {l0 l1 l2 l3 l4 l5:bl} {r0 r1 r2 r3 r4 r5 r6:aW}
def agM:bZ CX EE G N yj [J l0,iI i1,J l2]=(bif i1==0 then ae [av l2,iI (-1)]else bO (Xm G N [iI (bw (i1- 1)),av l0,av l2]) λ_ o5=>bO (OH G N [iI (gI o5 0),av (gC o5 1),av (gC o5 2)]) λ_ o9=>bO (Oi G N [iI (gI o9 0),av (gC o9 1),av (gC o9 2)]) λ_ fe=>bO (xZ G N N [iI (gI fe 0),iI 0,av (gC fe 1),av (gC fe 2)]) λ_ du=>ae [av (gC du 1),iI (gI du 0)]:aJ):=by kernel_rfl
def adz:Nh G N [iI i0,iI i1,J l2,fZ r3]=(bif aU i1 (ln r3)then bif cg 0 i0 then ae [J (sT (zR l2) SL),fZ r3]else aN [J (sT (zR l2) SL),fZ r3]else aN [J (sT (zR l2) SL),fZ r3]:aJ):=by kernel_rfl
def adJ:Iw G N (n+1) [iI i0,iI i1,J l2,J l3,fZ r4]=(bO (Nh G N [iI i0,iI i1,J (sT (zR l2) SL),fZ r4]) λq1 o1=>bif bQ q1 then bp i1 (gR o1 1)<|aR (dH (i1.toNat) ((gR o1 1).length))<|bO (G yj [J (cP dG 2 (aD (gR o1 1) i1)),iI i0,av l3]) λ_ o2=>bp i1 (gR o1 1)<|aR (dH (i1.toNat) ((gR o1 1).length))<|Iw G N n [iI (gI o2 1),cC i1,J (sT (zR (gC o1 0)) pF),av l3,fZ ((gR o1 1).set i1.toNat (setAt (aD (gR o1 1) i1) 2 (dJ (gC o2 0))))]else ae [J (sT (zR (gC o1 0)) pF),av l3,fZ (gR o1 1)]:aJ):=by kernel_rfl
def ayD:bZ CX EE G N Ww [J l0,iI i1,J l2]=(aR (lV ((0+(gR l0 2).length)*312) 140737488355328)<|bO (Iw G N N [iI i1,iI 0,J (sT (zR l0) pF),av l2,fZ ((([]:aW))++(gR l0 2))]) λ_ o3=>ae [J (sT (zR (gC o3 0)) qW),fZ (gR o3 2)]:aJ):=by kernel_rfl
def ad6:IE G N (n+1) [aa r0,iI i1,iI i2,aa r3,iI i4,iI i5]=(bif aU i5 i4 then bp i5 r3<|bif aU (gI (aD r3 i5) 0) i1 then bY else bif aU i2 (gI (aD r3 i5) 0)then bY else bif aU 0 i5 then bp (bw (i5- 1)) r0<|bif cg (gI (aD r3 i5) 0) (gI (aD r0 (bw (i5- 1))) 0)then bY else IE G N n [aa r0,iI i1,iI i2,aa r3,iI i4,cC i5]else IE G N n [aa r0,iI i1,iI i2,aa r3,iI i4,cC i5]else aN []:aJ):=by kernel_rfl
def azr:bZ CX EE G N E7 [aa r0,iI i1,iI i2]=(bO (IE G N N [aa r0,iI i1,iI i2,aa r0,iI (ln r0),iI 0]) λq1 o1=>bif bQ q1 then ae [ak (gB o1 0)]else c9:aJ):=by kernel_rfl
def aws:bZ CX EE G N VQ [iI i0,J l1]=(bp i0 (gR l1 0)<|bif gB (aD (gR l1 0) i0) 3 then ae [cw,J [bJ (gR l1 0)]]else bp i0 (gR l1 0)<|ae [ak (gI (aD (gR l1 0) i0) 0 != 1),J [bJ (gR l1 0)]]:aJ):=by kernel_rfl
def acj:H4 G N (n+1) [aa r0,iI i1,iI i2,J l3]=(bif aU i2 i1 then bp i2 r0<|bO (G VQ [iI (gI (aD r0 i2) 0),J [bJ (gR l3 0)]]) λ_ o1=>bif gB o1 0 then ae [iI i2,J [bJ (gR (gC o1 1) 0)]]else H4 G N n [aa r0,iI i1,cC i2,J [bJ (gR (gC o1 1) 0)]]else aN [J [bJ (gR l3 0)]]:aJ):=by kernel_rfl
def acz:bZ CX EE G N TW [aa r0,J l1]=(bO (H4 G N N [aa r0,iI (ln r0),iI 0,J [bJ (gR l1 0)]]) λq2 o2=>bif bQ q2 then ae [iI (gI o2 0),J [bJ (gR (gC o2 1) 0)]]else ae [iI (-1),J [bJ (gR (gC o2 0) 0)]]:aJ):=by kernel_rfl
def aqe:bZ CX EE G N TR [aa r0,J l1]=(bO (G TW [aa r0,J [bJ (gR l1 0)]]) λ_ o1=>ae [ak (cg 0 (gI o1 0)),J [bJ (gR (gC o1 1) 0)]]:aJ):=by kernel_rfl
def awi:V5 G N [J l0]=(bif aU (ln (gR l0 0)) 1 then aN [aq,J [bJ (gR l0 0)]]else bif aU 2048 (ln (gR l0 0))then aN [aq,J [bJ (gR l0 0)]]else ae [J [bJ (gR l0 0)]]:aJ):=by kernel_rfl
def asM:UN G N [J l0]=(bif aU (gI l0 0) 1 then aN [aq,gW l0]else bif aU 16384 (gI l0 0)then aN [aq,gW l0]else ae [gW l0]:aJ):=by kernel_rfl
def asf:UA G N [J l0,J l1]=(bif gI l1 0 != 1 then aN [aq,J [bJ (gR l0 0)],gW l1]else bif gI l1 1 != 0 then aN [aq,J [bJ (gR l0 0)],gW l1]else bif gI l1 2 != 0 then aN [aq,J [bJ (gR l0 0)],gW l1]else bO (G E7 [aa (gR l1 4),iI 0,iI (bw (ln (gR l0 0)- 1))]) λ_ o3=>bif !(gB o3 0)then aN [aq,J [bJ (gR l0 0)],gW l1]else ae [J [bJ (gR l0 0)],gW l1]:aJ):=by kernel_rfl
def ady:BJ G N (n+1) [iI i0,bJ r1,iI i2,iI i3,J l4]=(bif aU i3 i2 then bp i3 r1<|bO (UN G N [gW (aD r1 i3)]) λq2 o2=>bif bQ q2 then bif !(gB (gC o2 0) 3)then bif aU 0 (ln (gR (gC o2 0) 4))then ae [aq,J [bJ (gR l4 0)]]else bif aU (gI (gC o2 0) 1) (-2147483648)then ae [aq,J [bJ (gR l4 0)]]else bif aU 2147483647 (gI (gC o2 0) 2)then ae [aq,J [bJ (gR l4 0)]]else bif aU (gI (gC o2 0) 2) (gI (gC o2 0) 1)then ae [aq,J [bJ (gR l4 0)]]else BJ G N n [iI (bw (i0+gI (gC o2 0) 0)),bJ r1,iI i2,cC i3,J [bJ (gR l4 0)]]else bO (UA G N [J [bJ (gR l4 0)],gW (gC o2 0)]) λq4 o4=>bif bQ q4 then bO (G TR [aa (gR (gC o4 1) 4),J [bJ (gR (gC o4 0) 0)]]) λ_ o5=>bif gB o5 0 then ae [aq,J [bJ (gR (gC o5 1) 0)]]else BJ G N n [iI (bw (i0+gI (gC o2 0) 0)),bJ r1,iI i2,cC i3,J [bJ (gR (gC o5 1) 0)]]else ae [ak (gB o4 0),J [bJ (gR (gC o4 1) 0)]]else ae [ak (gB o2 0),J [bJ (gR l4 0)]]else aN [iI i0,J [bJ (gR l4 0)]]:aJ):=by kernel_rfl
def Wc:bZ CX EE G N Wz [bJ r0]=(bO (V5 G N [J [bJ r0]]) λq1 o1=>bif bQ q1 then bO (BJ G N N [iI 0,bJ (gR (gC o1 0) 0),iI (ln (gR (gC o1 0) 0)),iI 0,J [bJ (gR (gC o1 0) 0)]]) λq6 o6=>bif bQ q6 then ae [ak (gB o6 0)]else ae [ak (cg (gI o6 0) 16384)]else ae [ak (gB o1 0)]:aJ):=by kernel_rfl
def avk:bZ CX EE G N Vs [.int .u64 i0,.int .u64 i1]=(ae [.int .u64 (IntKind.wrap .u64 ((IntKind.wrap .u64 ((IntKind.wrap .u64 (Int.fdiv i0 (2^32)*Int.fdiv i1 (2^32)))+(Int.fdiv (IntKind.wrap .u64 ((IntKind.wrap .u64 (Int.fdiv i0 (2^32)*(IntKind.wrap .u64 ((BitVec.ofInt 64 i1&&&BitVec.ofInt 64 4294967295).toNat :Int))))+(Int.fdiv (IntKind.wrap .u64 ((IntKind.wrap .u64 ((BitVec.ofInt 64 i0&&&BitVec.ofInt 64 4294967295).toNat :Int))*(IntKind.wrap .u64 ((BitVec.ofInt 64 i1&&&BitVec.ofInt 64 4294967295).toNat :Int)))) (2^32)))) (2^32))))+(Int.fdiv (IntKind.wrap .u64 ((IntKind.wrap .u64 ((BitVec.ofInt 64 ((IntKind.wrap .u64 ((IntKind.wrap .u64 (Int.fdiv i0 (2^32)*(IntKind.wrap .u64 ((BitVec.ofInt 64 i1&&&BitVec.ofInt 64 4294967295).toNat :Int))))+(Int.fdiv (IntKind.wrap .u64 ((IntKind.wrap .u64 ((BitVec.ofInt 64 i0&&&BitVec.ofInt 64 4294967295).toNat :Int))*(IntKind.wrap .u64 ((BitVec.ofInt 64 i1&&&BitVec.ofInt 64 4294967295).toNat :Int)))) (2^32)))))&&&BitVec.ofInt 64 4294967295).toNat :Int))+(IntKind.wrap .u64 ((IntKind.wrap .u64 ((BitVec.ofInt 64 i0&&&BitVec.ofInt 64 4294967295).toNat :Int))*Int.fdiv i1 (2^32))))) (2^32)))),.int .u64 (IntKind.wrap .u64 (i0*i1))]:aJ):=by kernel_rfl
def axC:bZ CX EE G N V9 [.int .u64 i0,.int .u64 i1]=(bO (G Vs [.int .u64 i0,.int .u64 i1]) λ_ o1=>ae [.int .u64 (gI o1 0),.int .u64 (gI o1 1)]:aJ):=by kernel_rfl
def ary:Ui G N [iI i0]=(bif aU i0 0 then none else ae []:aJ):=by kernel_rfl
def arc:Ua G N [.int .u64 i0,.int .u64 i1]=(bif aU 0 i0 then none else bif aU 9223372036854775807 i1 then none else ae []:aJ):=by kernel_rfl
def aqZ:H7 G N (n+1) [iI i0,ah r1]=(bif aU i0 (ln r1)then aR (cg 0 i0&&cg i0 (ln r1)&&cg (ln r1) (ln r1))<|aR (cg 0 i0&&cg i0 (ln r1))<|H7 G N n [iI (bw (i0+(((min ((r1.drop 0).take i0.toNat).length (r1.length- i0.toNat):Nat):Int)))),ah (tS r1 i0.toNat (r1.length- i0.toNat) ((r1.drop 0).take i0.toNat))]else ae [ah r1]:aJ):=by kernel_rfl
def asQ:bZ CX EE G N UB [ah r0,iI i1]=(bO (Ui G N [iI i1]) λ_ o1=>bO (G V9 [.int .u64 (IntKind.wrap .u64 (ln r0)),.int .u64 (IntKind.wrap .u64 i1)]) λ_ o2=>bO (Ua G N [.int .u64 (gI o2 0),.int .u64 (gI o2 1)]) λ_ o3=>aR (cg 0 (bw (gI o2 1))&&cg (bw (gI o2 1)) (bw (gI o2 1))&&cg ((bw (gI o2 1))*24) 140737488355328)<|bO (H7 G N N [iI (((min r0.length ((List.replicate ((bw (gI o2 1)).toNat) ([iI 0,iI 0,iI 0]:Row)).length):Nat):Int)),ah (tS (List.replicate ((bw (gI o2 1)).toNat) ([iI 0,iI 0,iI 0]:Row)) 0 ((List.replicate ((bw (gI o2 1)).toNat) ([iI 0,iI 0,iI 0]:Row)).length) r0)]) λ_ o4=>ae [ah (gR o4 0)]:aJ):=by kernel_rfl
def ad3:BS G N (n+1) [iI i0,iI i1,aa r2,iI i3,iI i4,.ab 0 r5]=(bif aU i4 i3 then bp i4 r2<|bif aU (gI (aD r2 i4) 0) i0 then ae [aq,.ab 0 (az (au r5))]else bif aU i1 (gI (aD r2 i4) 0)then ae [aq,.ab 0 (az (au r5))]else match aA.dR (au r5) (iI (gI (aD r2 i4) 0))with|some m1=>(bif m1.toB then ae [aq,.ab 0 (az (au r5))]else BS G N n [iI i0,iI i1,aa r2,iI i3,cC i4,.ab 0 (az (aA.iV (au r5) (iI (gI (aD r2 i4) 0)) (cw)))])|none=>(BS G N n [iI i0,iI i1,aa r2,iI i3,cC i4,.ab 0 (az (aA.iV (au r5) (iI (gI (aD r2 i4) 0)) (cw)))])else aN [.ab 0 (az (au r5))]:aJ):=by kernel_rfl
def azq:bZ CX EE G N IS [aa r0,iI i1,iI i2]=(bO (BS G N N [iI i1,iI i2,aa r0,iI (ln r0),iI 0,.ab 0 (az (([]:List (AV×AV))))]) λq2 o2=>bif bQ q2 then ae [ak (gB o2 0)]else c9:aJ):=by kernel_rfl
def adx:EL G N (n+1) [iI i0,aa r1,iI i2,iI i3,ah r4]=(bif aU i3 i2 then bp i3 r1<|bp (gI (aD r1 i3) 0) r4<|aR (dH ((gI (aD r1 i3) 0).toNat) (r4.length))<|bif cg 0 (gI (aD r4 (gI (aD r1 i3) 0)) 0)then ae [aq,ah r4,ah cy]else bp (gI (aD r1 i3) 0) r4<|aR (dH ((gI (aD r1 i3) 0).toNat) (r4.length))<|EL G N n [iI i0,aa r1,iI i2,cC i3,ah (r4.set ((gI (aD r1 i3) 0).toNat) (setAt (aD r4 (gI (aD r1 i3) 0)) 0 [iI i0]))]else aN [ah r4]:aJ):=by kernel_rfl
def aem:E1 G N (n+1) [od r0,iI i1,iI i2,J l3,ah r4]=(bif aU i2 i1 then bp i2 r0<|bO (G E7 [aa (gR (aD r0 i2) 1),iI 0,iI (bw (ln (gR l3 0)- 1))]) λ_ o2=>bif !(gB o2 0)then ae [aq,bL l3,ah r4,ah cy]else bO (EL G N N [iI i2,aa (gR (aD r0 i2) 1),iI (ln (gR (aD r0 i2) 1)),iI 0,ah r4]) λq3 o3=>bif bQ q3 then ae [ak (gB o3 0),bL l3,ah (gR o3 1),ah (gR o3 2)]else E1 G N n [od r0,iI i1,cC i2,bL l3,ah (gR o3 0)]else aN [bL l3,ah r4]:aJ):=by kernel_rfl
def aes:NO G N [J l0,ah r1]=(bO (E1 G N N [od (gR l0 3),iI (ln (gR l0 3)),iI 0,bL l0,ah r1]) λq4 o4=>bif bQ q4 then aN [ak (gB o4 0),bL (gC o4 1),ah (gR o4 2),ah (gR o4 3)]else ae [bL (gC o4 0),ah (gR o4 1)]:aJ):=by kernel_rfl
def ark:Ug G N [aa r0,J l1]=(bif aU 8 (ln r0)then aN [aq,bL l1,ah cy]else bO (G IS [aa r0,iI 0,iI (bw (ln (gR l1 0)- 1))]) λ_ o6=>bif !(gB o6 0)then aN [aq,bL l1,ah cy]else ae [bL l1]:aJ):=by kernel_rfl
def aqL:T2 G N [iI i0,J l1,ah r2,J l3]=(bp i0 (gR l1 0)<|bif gI (aD (gR l1 0) i0) 0 != 1 then aN [aq,bL l1,ah r2,IA l3,ah cy]else bp i0 r2<|aR (dH (i0.toNat) (r2.length))<|bif !(((gI (aD r2 i0) 0)==(gI l3 0))&&(((gI (aD r2 i0) 1)==(gI l3 1))&&(((gI (aD r2 i0) 2)==(gI l3 2))&&true)))then bp i0 r2<|aR (dH (i0.toNat) (r2.length))<|bif !(((gI (aD r2 i0) 0)==(-1))&&(((gI (aD r2 i0) 1)==(-1))&&(((gI (aD r2 i0) 2)==(-1))&&true)))then aN [aq,bL l1,ah r2,IA l3,ah cy]else ae [bL l1,ah r2,IA l3]else ae [bL l1,ah r2,IA l3]:aJ):=by kernel_rfl
def acN:Eu G N (n+1) [iI i0,iI i1,aa r2,iI i3,iI i4,J l5,ah r6]=(bif aU i4 i3 then bp i4 r2<|bO (T2 G N [iI (gI (aD r2 i4) 0),bL l5,ah r6,J [iI (-1),iI i0,iI i1]]) λq8 o8=>bif bQ q8 then bp (gI (aD r2 i4) 0) (gR o8 1)<|aR (dH ((gI (aD r2 i4) 0).toNat) ((gR o8 1).length))<|Eu G N n [iI i0,iI i1,aa r2,iI i3,cC i4,bL (gC o8 0),ah ((gR o8 1).set ((gI (aD r2 i4) 0).toNat) (setAt (aD (gR o8 1) (gI (aD r2 i4) 0)) 0 (adS (gC o8 2))))]else ae [ak (gB o8 0),bL (gC o8 1),ah (gR o8 2),ah (gR o8 4)]else aN [bL l5,ah r6]:aJ):=by kernel_rfl
def Uo:BF G N (n+1) [iI i0,iI i1,iI i2,iI i3,J l4,ah r5,B9 r6]=(bif aU i3 i2 then bp i3 r6<|aR (dH (i3.toNat) (r6.length))<|bO (Ug G N [aa (gR (aD r6 i3) 0),bL l4]) λq7 o7=>bif bQ q7 then bO (Eu G N N [iI i0,iI i1,aa (gR (aD r6 i3) 0),iI (ln (gR (aD r6 i3) 0)),iI 0,bL (gC o7 0),ah r5]) λq9 o9=>bif bQ q9 then ae [ak (gB o9 0),bL (gC o9 1),ah (gR o9 2),B9 r6,ah (gR o9 3)]else BF G N n [iI i0,iI i1,iI i2,cC i3,bL (gC o9 0),ah (gR o9 1),B9 r6]else ae [ak (gB o7 0),bL (gC o7 1),ah r5,B9 r6,ah (gR o7 2)]else aN [bL l4,ah r5,B9 r6]:aJ):=by kernel_rfl
def adw:EK G N (n+1) [iI i0,BU r1,iI i2,iI i3,J l4,ah r5]=(bif aU i3 i2 then bp i3 r1<|bO (BF G N N [iI i0,iI i3,iI 2,iI 0,bL l4,ah r5,B9 (([[aa (gR (aD r1 i3) 0)],[aa (gR (aD r1 i3) 1)]]:aW))]) λmO cV=>bif bQ mO then ae [ak (gB cV 0),bL (gC cV 1),ah (gR cV 2),ah (gR cV 4)]else EK G N n [iI i0,BU r1,iI i2,cC i3,bL (gC cV 0),ah (gR cV 1)]else aN [bL l4,ah r5]:aJ):=by kernel_rfl
def ad5:EU G N (n+1) [fZ r0,iI i1,iI i2,J l3,ah r4]=(bif aU i2 i1 then bp i2 r0<|bO (EK G N N [iI i2,BU (gR (aD r0 i2) 1),iI (ln (gR (aD r0 i2) 1)),iI 0,bL l3,ah r4]) λre cX=>bif bQ re then ae [ak (gB cX 0),bL (gC cX 1),ah (gR cX 2),ah (gR cX 3)]else EU G N n [fZ r0,iI i1,cC i2,bL (gC cX 0),ah (gR cX 1)]else aN [bL l3,ah r4]:aJ):=by kernel_rfl
def aer:NN G N [J l0,ah r1]=(bO (EU G N N [fZ (gR l0 2),iI (ln (gR l0 2)),iI 0,bL l0,ah r1]) λpN dj=>bif bQ pN then aN [ak (gB dj 0),bL (gC dj 1),ah (gR dj 2),ah (gR dj 3)]else ae [bL (gC dj 0),ah (gR dj 1)]:aJ):=by kernel_rfl
def adv:Iq G N (n+1) [aa r0,iI i1,iI i2,ah r3]=(bif aU i2 i1 then bp i2 r0<|bp (gI (aD r0 i2) 0) r3<|aR (dH ((gI (aD r0 i2) 0).toNat) (r3.length))<|bif !(((gI (aD r3 (gI (aD r0 i2) 0)) 0)==(-1))&&(((gI (aD r3 (gI (aD r0 i2) 0)) 1)==(-1))&&(((gI (aD r3 (gI (aD r0 i2) 0)) 2)==(-1))&&true)))then ae [aq,ah r3,ah cy]else Iq G N n [aa r0,iI i1,cC i2,ah r3]else aN [ah r3]:aJ):=by kernel_rfl
def ad4:ID G N (n+1) [bJ r0,iI i1,iI i2,ah r3]=(bif aU i2 i1 then bp i2 r0<|bO (Iq G N N [aa (gR (aD r0 i2) 4),iI (ln (gR (aD r0 i2) 4)),iI 0,ah r3]) λvU dc=>bif bQ vU then ae [ak (gB dc 0),ah (gR dc 1),ah (gR dc 2)]else ID G N n [bJ r0,iI i1,cC i2,ah (gR dc 0)]else aN [ah r3]:aJ):=by kernel_rfl
def aAh:bZ CX EE G N Oy [J l0]=(bO (G UB [ah (([[iI (-1),iI (-1),iI (-1)]]:aW)),iI (ln (gR l0 0))]) λ_ o1=>bO (NO G N [bL l0,ah (gR o1 0)]) λq5 o5=>bif bQ q5 then bO (NN G N [bL (gC o5 0),ah (gR o5 1)]) λzf fe=>bif bQ zf then bO (ID G N N [bJ (gR (gC fe 0) 0),iI (ln (gR (gC fe 0) 0)),iI 0,ah (gR fe 1)]) λvT dr=>bif bQ vT then ae [ak (gB dr 0),ah (gR dr 2)]else ae [cw,ah (gR dr 0)]else ae [ak (gB fe 0),ah (gR fe 3)]else ae [ak (gB o5 0),ah (gR o5 3)]:aJ):=by kernel_rfl
def Vv:IC G N (n+1) [iI i0,aT r1,iI i2,iI i3,J l4]=(bif aU i3 i2 then bp i3 r1<|bO (G I9 [bS (aD r1 i3),cC i0,J [iI (gI l4 0)]]) λ_ o1=>bif !(gB o1 0)then ae [aq,J [iI (gI (gC o1 1) 0)]]else IC G N n [iI i0,aT r1,iI i2,cC i3,J [iI (gI (gC o1 1) 0)]]else aN [J [iI (gI l4 0)]]:aJ):=by kernel_rfl
def W2:bZ CX EE G N I9 [J l0,iI i1,J l2]=(bif aU (bw (gI l2 0- 1)) 0 then ae [aq,J [iI (bw (gI l2 0- 1))]]else bif cg 64 i1 then ae [aq,J [iI (bw (gI l2 0- 1))]]else bO (IC G N N [iI i1,aT (gR l0 8),iI (ln (gR l0 8)),iI 0,J [iI (bw (gI l2 0- 1))]]) λq2 o2=>bif bQ q2 then ae [ak (gB o2 0),J [iI (gI (gC o2 1) 0)]]else ae [cw,J [iI (gI (gC o2 0) 0)]]:aJ):=by kernel_rfl
def ayH:bZ CX EE G N ae0 [J l0,J l1,aT r2]=(ae [bS l0,J (sT (nN l1) [(2,iI (gI l0 2)),(8,.aC 2)]),aT r2]:aJ):=by kernel_rfl
def Wd:bZ CX EE G N NT [J l0,J l1,aT r2]=(ae [bS l0,J (sT (nN l1) [(3,iI (gI l0 3)),(8,.aC 2)]),aT r2]:aJ):=by kernel_rfl
def aeT:bZ CX EE G N WB [J l0,J l1,aT r2]=(ae [bS l0,J (sT (nN l1) [(4,iI (gI l0 4)),(8,.aC 2)]),aT r2]:aJ):=by kernel_rfl
def ayG:bZ CX EE G N aeZ [J l0,J l1,aT r2]=(ae [bS l0,J (sT (nN l1) [(5,iI (gI l0 5)),(8,.aC 2)]),aT r2]:aJ):=by kernel_rfl
def aeS:bZ CX EE G N WA [J l0,J l1,aT r2]=(ae [bS l0,J (sT (nN l1) [(1,bE (gI l0 1)),(8,.aC 2)]),aT r2]:aJ):=by kernel_rfl
def ayF:bZ CX EE G N aeY [J l0,J l1,aT r2]=(ae [bS l0,J (sT (nN l1) [(6,iI (gI l0 6)),(7,iI (gI l0 7)),(8,.aC 2)]),aT r2]:aJ):=by kernel_rfl
def avf:VI G N [bE i0]=(bif i0==1 then c9 else bif i0==11 then c9 else ae [ak (i0==14)]:aJ):=by kernel_rfl
def asN:UP G N [bE i0]=(bif i0==6 then c9 else bif i0==7 then c9 else ae [ak (i0==10)]:aJ):=by kernel_rfl
end
end Go.Proofs.YtomkobcipaligaaGreatDoor

/-
  Equations. Printed by a program.
-/
import Derived.Test.YtffabbjfdgmbjaaGreatW2
import Derived.Test.YtffabbjfdgmbjaaGreatChecked
import Derived.KernelRfl
import Derived.Sort.Grow
import Derived.Shelf.Sort.Plain
set_option linter.all false
set_option linter.deprecated false
set_option maxHeartbeats 4000000
def Go.ah.ac{p:Prop}(h:p:=by kernel_rfl):p:=h
namespace Go.ah
def aqY{p:Prop}(h:p:=by
 cases hq:Nat.beq o.1 i with
 |false=>rfl
 |true=>have:=fk hq;omega):p:=h
def aqu{p:Prop}(h:p:=by
 intro l o ho;unfold PO at ho;rw [hlp,hc]at ho;exact hp l o ho):p:=h
def aeM{p:Prop}(h:p:=by simp only [oM,Ay,AV.rows];rw [eq_of_beq h]):p:=h
def aqc{p:Prop}(h:p:=by
 obtain⟨h1,h2⟩:=aoa hX h;exact⟨0,x,rfl,aML he,h1,h2⟩):p:=h
def ap7{p:Prop}(h:p:=by
 obtain⟨h1,h2⟩:=aoa hX h;exact⟨0,x,rfl,h1,h2⟩):p:=h
def ap3{p:Prop}(h:p:=by
 rw [hb]at hr;have:=fk hb;subst this;exact he iq hr):p:=h
end Go.ah
namespace Go.ah
def bT:=@cond_true
def tC:=@Bool.false_and
end Go.ah
namespace Go.ah
open Go
noncomputable section
variable {X:Cx} {R:Type}
variable{x:AV}{c root:Code}{fn:Func}{f:FuncId}{σ:af}{m p:Nat}{r:R}{s:Sh}{st:St}{t:TypeId}{args:aq}{M:aL}
def dV.xt:dV->Bool| .cell _| .vw _| .any =>false|_=>true
def Sh.xt:Sh->Bool| .one s=>s.xt|_=>false
def fu.xt:fu->Bool| .gone =>true|_=>false
def aF:List dV->Nat->aq->aq
 | [],_,_=>[]
 |s::ss,i,xs=>Dv s (xs.getD i .top)::aF ss (i+1) xs
def Fv:Sh->AV->AV
 | .one s,x=>Dv s x
 | .agg ss,x=> .agg (aF ss 0 x.cells)
 | .gM f ss,x=> .gM f [] (aF ss 0 x.iP)
def Qn:List (Nat×Sh)->Nat->aq->cf
 | [],_,_=>[]
 |e::es,i,l=>match e.2.xt with|true=>(e.1,Fv e.2 .top)::Qn es i l|false=>(e.1,Fv e.2 (l.getD i .top))::Qn es (i+1) l
def PI:List (Nat×Sh)->Nat->aq->cf
 | [],_,_=>[]
 |e::es,i,l=>(e.1,Fv e.2 (l.getD i .top))::PI es (i+1) l
def aJ(rows:aE):List (AV×AV):=rows.map λr=>(r.getD 0 .top,r.getD 1 .top)
def bz(es:List (AV×AV)):aE:=es.map λe=>[e.1,e.2]
def Ay:eH->AV
 | .row t xs=> .aj t xs
 | .fx t xs=> .aj t xs
 | .bD t xs _=> .aj t xs
 | .var _ cs=> .agg cs
 | .map _ _ _ es=> .aj 0 (bz es)
 | .loop _ env _ _=> .agg (env.map (·.2))
 |_=> .top
def oM:fu->AV->eH
 | .row t,x=> .row t x.rows
 | .fx t,x=> .fx t x.rows
 | .bD t,x=> .bD t x.rows none
 | .var ks ss,x=> .var ks (aF ss 0 x.cells)
 | .arr ks,x=> .var ks x.cells
 | .mp k ag ks,x=> .map k ag ks (aJ x.rows)
 | .loop s es p,x=> .loop s (PI es 0 x.cells) false p
 | .gone,_=> .dead
def Ql:List fu->Nat->aq->aL
 | [],_,_=>[]
 |s::ss,i,l=>match s.xt with|true=>oM s .top ::Ql ss i l|false=>oM s (l.getD i .top)::Ql ss (i+1) l
def nE:List (Nat×Sh)->Nat
 | []=>0
 |e::es=>match e.2.xt with|true=>nE es|false=>nE es+1
def unpack(σ:af)(l:aq):St:=⟨Qn σ.env 0 l,Ql σ.mem (nE σ.env) l,[],.yr⟩
def CU(lk:Nat->AV):List (Nat×Sh)->aq
 | []=>[]
 |e::es=>match e.2.xt with|true=>CU lk es|false=>lk e.1::CU lk es
def Hp:List fu->aL->aq
 |s::ss,b::M=>match s.xt with|true=>Hp ss M|false=>Ay b::Hp ss M
 |_,_=>[]
def pack(σ:af)(lk:Nat->AV)(M:aL):aq:=CU lk σ.env++Hp σ.mem M
def aov:∀{ss:List dV} {ys pre:aq},Bx ss ys=true->aF ss pre.length (pre++ys)=ys
 | [],[],pre,_=>rfl
 |s::ss,y::ys,pre,h=>by
  simp only [Bx,bA]at h;have ih:=aov (pre:=pre++[y]) h.2;rw [pN,fI]at ih;simp only [aF];rw [show(pre++y::ys).getD pre.length .top =y by simp [List.getD]];rw [UK h.1];exact GK (y:: ·) ih
 | [],_::_,_,h=>U8
 |_::_,[],_,h=>U8
def adM{ss:List dV}{ys:aq}(h:Bx ss ys=true):aF ss 0 ys=ys:=aov (pre:=[]) h
def ad1(h:LB s x=true):Fv s x=x:=by
 unfold LB at h;split at h
 ·exact UK h
 ·simp only [Fv,AV.cells];rw [adM h]
 ·rw [bA]at h;simp only [Fv,AV.iP];rw [adM h.2,fk h.1]
 ·exact aM
def aLB{s:dV}(h:s.xt=true)(x y:AV):Dv s x=Dv s y:=by cases s<;>first|rfl|cases h
def aLJ(h:s.xt=true)(x y:AV):Fv s x=Fv s y:=by
 cases s with
 |one s=>exact aLB h x y
 |agg _=>exact aM
 |gM _ _=>exact aM
def ad3{lk:Nat->AV}:∀{es:List (Nat×Sh)} {pre post:aq},LC lk es=true->Qn es pre.length (pre++(CU lk es++post))=H2 lk es
 | [],_,_,_=>rfl
 |e::es,pre,post,h=>by
  simp only [LC,bA]at h;simp only [Qn,CU,H2];rw [adY h.1];cases hc:e.2.xt with
  |true=>
   simp only;rw [aLJ hc .top (lk e.1),ad1 h.1,ad3 h.2]
  |false=>
   simp only;have ih:=ad3 (pre:=pre++[lk e.1]) (post:=post) h.2;rw [pN,fI]at ih;rw [show(pre++(lk e.1::CU lk es++post)).getD pre.length .top =lk e.1 by simp [List.getD],ad1 h.1];exact GK ((e.1,lk e.1):: ·) ih
def anO:∀{es:List (Nat×Sh)} {env:cf} {pre:aq},Fh es env=true->PI es pre.length (pre++env.map (·.2))=env
 | [],[],_,_=>rfl
 |e::es,x::env,pre,h=>by
  simp only [Fh,bA]at h;have ih:=anO (pre:=pre++[x.2]) h.2;rw [pN,fI]at ih;simp only [PI,my];rw [show(pre++x.2::env.map (·.2)).getD pre.length .top =x.2 by simp [List.getD],ad1 h.1.2,<-fk h.1.1];exact GK (x:: ·) ih
 | [],_::_,_,h=>U7
 |_::_,[],_,h=>U7
def aKo{es:List (Nat×Sh)}{env:cf}(h:Fh es env=true):PI es 0 (env.map (·.2))=env:=anO (pre:=[]) h
def xI(es:List (AV×AV)):aJ (bz es)=es:=by
 unfold aJ bz;rw [Ke]
 induction es with
 |nil=>rfl
 |cons e es ih=>simp only [my,ih];rfl
def aow{s:fu}{b:eH}(h:okB s b=true):oM s (Ay b)=b:=by
 unfold okB at h;split at h
 ·exact aeM
 ·exact aeM
 ·rw [bA]at h;simp only [oM,Ay,AV.cells];rw [adM h.2,eq_of_beq h.1]
 ·simp only [oM,Ay,AV.cells];rw [eq_of_beq h]
 ·rw [bA,bA]at h;simp only [oM,Ay,AV.rows];rw [xI,eq_of_beq h.1.1,eq_of_beq h.1.2,eq_of_beq h.2]
 ·rw [bA,bA]at h;simp only [oM,Ay,AV.cells];rw [aKo h.1.2,fk h.1.1,aoJ h.2]
 ·rfl
 ·exact aeM
 ·exact aM
def aLK{s:fu}(h:s.xt=true)(x y:AV):oM s x=oM s y:=by cases s<;>first|rfl|cases h
def ad2:∀{ss:List fu} {M:aL} {pre:aq},Ii ss M=true->Ql ss pre.length (pre++Hp ss M)=M
 | [],[],_,_=>rfl
 |s::ss,b::M,pre,h=>by
  simp only [Ii,bA]at h;simp only [Ql,Hp];cases hc:s.xt with
  |true=>
   simp only;rw [aLK hc .top (Ay b),aow h.1,ad2 h.2]
  |false=>
   simp only;have ih:=ad2 (pre:=pre++[Ay b]) h.2;rw [pN,fI]at ih;rw [show(pre++Ay b::Hp ss M).getD pre.length .top =Ay b by simp [List.getD],aow h.1];exact GK (b:: ·) ih
 | [],_::_,_,h=>U3
 |_::_,[],_,h=>U3
def afy{lk:Nat->AV}:∀(es:List (Nat×Sh)),nE es=(CU lk es).length
 | []=>rfl
 |e::es=>by
  simp only [nE,CU];cases e.2.xt with
  |true=>exact afy es
  |false=>simp only [mh,afy (lk:=lk) es]
def KN(σ:af)(bx:dy)(st:St):aq:=pack σ (λt=>iR (idx bx) 4 (look st.env t)) (ux st.mem bx)
def S1{bx:dy}(h:A9 σ bx st=true):unpack σ (KN σ bx st)=KC σ bx st:=by
 unfold A9 at h;rw [bA,bA]at h;unfold unpack KN pack KC awm;have h1:=ad3 (pre:=[]) (post:=Hp σ.mem (ux st.mem bx)) h.1.2;have h2:=ad2 (pre:=CU (λt=>iR (idx bx) 4 (look st.env t)) σ.env) h.2;rw [<-afy]at h2;rw [h2,adZ h.2];exact GK (λe=>(⟨e,_,[],.yr⟩:St)) h1
structure Wy where
 cv:List Cv
 bx:St->dy
variable{w:Wy}
abbrev UO:=Nat×aq
variable{L:nN UO}{o:UO}{g:aq->Option UO}
section
variable {O:Type}
def IM(X:Cx)(m:Nat)(w:Wy)(σ:af)(st:St)(f:aq->Option O):Option O:=
 lZ X w.cv st λst1=>a8 (A9 σ (w.bx st1) st1&&pre m (w.bx st1)&&st1.px.isEmpty) (f (KN σ (w.bx st1) st1))
def amz(hX:X.Ok){f:aq->Option O}{o:O}(h:IM X m w σ st f=some o):
 ∃l,f l=some o/\∀{nt:Nt} {rdc:Cy} {w0:World} {S:Sc} {F:bC} {ρ:bF} {a:Act} {w:World},Inv X w0 S F ρ st.mem w->jh X nt st rdc F ρ a w->
  ∃F' ρ',Inv X w0 S F' ρ' (unpack σ l).mem w/\jh X nt (unpack σ l) rdc F' ρ' a w/\v7 m F F' ρ ρ' w w:=by
 obtain⟨st1,h,e1,e2,hr⟩:=wK hX w.cv h;replace h:=cP h;obtain⟨h1,h⟩:=h;rw [bA,bA]at h1;obtain⟨⟨h1,h2⟩,h3⟩:=h1;refine⟨_,h,λ{nt rdc w0 S F ρ a w'} hI hs=> ?_⟩;obtain⟨F1,ρ1,i1,s1,g1⟩:=hr (nt:=nt) (rdc:=rdc) (a:=a) hI hs;obtain⟨aX,kM,_⟩:=Tm h1;rw [S1 h1];refine⟨F1,sub pq ρ1 (w.bx st1),?_,⟨acF hX h1 i1 s1.env,s1.size,?_,s1.rd,s1.kept⟩,?_⟩
 ·have:=(i1.atw hX aX pq).1;rw [<-kM]at this;exact iK
 ·have:=s1.defs;have hd:st1.px=[]:=by simpa using h3
  rw [hd]at this;exact iK
 ·refine(g1.toF m).trans ⟨λ_ h=>h,λid hd hm hh=> ?_,λ_ _=>rfl⟩;have:=aLX h2 hm;rw [Uz this (dX.1 hh).1];exact hh
end
structure Ow where
 e:Ex
 w:Wy
 σ:af
variable{xs:List Ow}
def Xq:Ex->Ex->Bool
 | .normal,.normal =>true
 | .ret,.ret =>true
 | .exit i,.exit j=>Nat.beq i j
 |_,_=>false
def aML{a b:Ex}(h:Xq a b=true):a=b:=by
 cases a<;>cases b<;>simp only [Xq,oW]at h
 ·rfl
 ·exact Kp
 ·rfl
def fits(X:Cx)(w:Wy)(σ:af)(st:St):Bool:=match lZ X w.cv st (λst1=>some (A9 σ (w.bx st1) st1))with|some b=>b|none=>false
def awn(e:Ex):List Ow->Bool
 | []=>false
 |x::xs=>match Xq x.e e with|true=>true|false=>awn e xs
def DZ(X:Cx)(m:Nat):List Ow->Nat->Ex->St->Option UO
 | [],_,_,_=>none
 |x::xs,i,e,st=>
  match Xq x.e e with
  |false=>DZ X m xs (i+1) e st
  |true=>
   match awn e xs with
   |false=>IM X m x.w x.σ st λl=>some (i,l)
   |true=>match fits X x.w x.σ st with|true=>IM X m x.w x.σ st λl=>some (i,l)|false=>DZ X m xs (i+1) e st
def Wt(X:Cx)(m:Nat)(st:St)(σ:af)(o:UO):Prop:=
 ∀{nt:Nt} {rdc:Cy} {w0:World} {S:Sc} {F:bC} {ρ:bF} {a:Act} {w:World},Inv X w0 S F ρ st.mem w->jh X nt st rdc F ρ a w->
  ∃F' ρ',Inv X w0 S F' ρ' (unpack σ o.2).mem w/\jh X nt (unpack σ o.2) rdc F' ρ' a w/\v7 m F F' ρ ρ' w w
def aoa(hX:X.Ok){i:Nat}(h:IM X m w σ st (λl=>some (i,l))=some o):o.1=i/\Wt X m st σ o:=by
 obtain⟨l,h,hr⟩:=amz hX h;injection h with h;subst h;exact⟨rfl,hr⟩
def acA(hX:X.Ok){m:Nat}{e:Ex}{st:St}{o:UO}:∀{xs:List Ow} {i:Nat},DZ X m xs i e st=some o->∃j x,xs[j]?=some x/\x.e=e/\o.1=i+j/\Wt X m st x.σ o
 | [],i,h=>aM
 |x::xs,i,h=>by
  have next:DZ X m xs (i+1) e st=some o->∃j y,(x::xs)[j]?=some y/\y.e=e/\o.1=i+j/\Wt X m st y.σ o:=by
   intro h;obtain⟨j,y,h1,h2,h3,h4⟩:=acA hX h;exact⟨j+1,y,h1,h2,by omega,h4⟩
  simp only [DZ]at h;split at h
  ·exact next h
  ·rename_i he;split at h
   ·exact aqc
   ·split at h
    ·exact aqc
    ·exact next h
def Rc:List Ow->Nat->UO->(Ex->St->Option R)->Option R
 | [],_,_,_=>none
 |x::xs,i,o,k=>
  match xs with
  | []=>k x.e (unpack x.σ o.2)
  |_::_=>match Nat.beq o.1 i with|true=>k x.e (unpack x.σ o.2)|false=>Rc xs (i+1) o k
def arq{o:UO}{k:Ex->St->Option R}:∀{xs:List Ow} {i j:Nat} {x:Ow},xs[j]?=some x->o.1=i+j->Rc xs i o k=k x.e (unpack x.σ o.2)
 | [],i,j,x,h,_=>jY
 |y::ys,i,0,x,h,ho=>by
  simp at h;subst h;cases ys with
  |nil=>rfl
  |cons z zs=>simp only [Rc];rw [ho];simp
 |y::ys,i,j+1,x,h,ho=>by
  cases ys with
  |nil=>exact jY
  |cons z zs=>
   have hb:Nat.beq o.1 i=false:=aqY;rw [Rc];simp only [hb];exact arq (mU) (by omega)
def aO2(X:Cx)(m:Nat)(bk:Wy)(σ:af)(xs:List Ow)(LF:aq->Option UO)(e:Ex)(st:St):Option UO:=
 match e with
 | .normal =>IM X m bk σ st LF
 | .exit i=>DZ X m xs 0 (.exit i) st
 | .ret =>DZ X m xs 0 .ret st
def KU(X:Cx)(L:nN UO)(c:Code)(p m:Nat)(bk:Wy)(σ:af)(xs:List Ow):Nat->aq->Option UO
 |0,_=>none
 |n+1,l=>sf X L c (2*p) (unpack σ l) (aO2 X m bk σ xs (KU X L c p m bk σ xs n))
def ahv(X:Cx)(L:nN UO)(c:Code)(p m:Nat)(σ:af)(xs:List Ow)(l:aq):Option UO:=sf X L c p (unpack σ l) (DZ X m xs 0)
def ahz(X:Cx)(nt:Nt)(c:Code)(m:Nat)(σ:af)(xs:List Ow)(f:aq->Option UO):Prop:=
 ∀l o,f l=some o->∃j x,xs[j]?=some x/\o.1=j/\aP3 X nt c m (unpack σ l) (Ex.sw x.e) (unpack x.σ o.2)
def aMQ(hX:X.Ok)(hL:L.Ok X root)(iq:At root p c):ahz X L.kU.nt c m σ xs (ahv X L c p m σ xs):=by
 intro l o h;obtain⟨e,mG,eG,hk⟩:=yO hX hL c iq h;obtain⟨j,x,h1,h2,h3,h4⟩:=acA hX hk;refine⟨j,x,h1,by omega,λ{rdc n w0 S F ρ a w Q} hI hs hq=> ?_⟩;refine eG hI hs λa' w' F' ρ' fY dR hg=> ?_;obtain⟨F2,ρ2,i2,s2,g2⟩:=h4 fY dR;rw [<-h2];exact hq a' w' F2 ρ2 i2 s2 ((hg.toF m).trans g2)
def alf(hX:X.Ok){root c:Code}{p m:Nat}{L:nN UO}(hL:L.Ok X root)(iq:At root p (.loop c)){bk:Wy}{σ:af}{xs:List Ow}:
 ∀(fuel:Nat) {l:aq} {o:UO},KU X L c p m bk σ xs fuel l=some o->∃j x,xs[j]?=some x/\o.1=j/\∀{rdc:Cy} {n:Nat} {w0:World} {S:Sc} {F:bC} {ρ:bF} {a:Act} {w:World} {Q:Exit->Act->World->Prop},
  Inv X w0 S F ρ (unpack σ l).mem w->jh X L.kU.nt (unpack σ l) rdc F ρ a w->
  (∀a' w' F' ρ',Inv X w0 S F' ρ' (unpack x.σ o.2).mem w'->jh X L.kU.nt (unpack x.σ o.2) rdc F' ρ' a' w'->v7 m F F' ρ ρ' w w'->Q (Ex.sw x.e) a' w')->Code.roundsIn (qM rdc.r) n X.P c Q fuel a w
 |0,l,o,h=>aM
 |fuel+1,l,o,h=>by
  simp only [KU]at h;obtain⟨e,aW,eG,h⟩:=yO hX hL c (iq.down false λl hl=>Bh) h;have out:e≠ .normal ->DZ X m xs 0 e aW=some o->∃j x,xs[j]?=some x/\o.1=j/\∀{rdc:Cy} {n:Nat} {w0:World} {S:Sc} {F:bC} {ρ:bF} {a:Act} {w:World} {Q:Exit->Act->World->Prop},
   Inv X w0 S F ρ (unpack σ l).mem w->jh X L.kU.nt (unpack σ l) rdc F ρ a w->
   (∀a' w' F' ρ',Inv X w0 S F' ρ' (unpack x.σ o.2).mem w'->jh X L.kU.nt (unpack x.σ o.2) rdc F' ρ' a' w'->v7 m F F' ρ ρ' w w'->Q (Ex.sw x.e) a' w')->Code.roundsIn (qM rdc.r) n X.P c Q (fuel+1) a w:=by
   intro fv hg;obtain⟨j,x,h1,h2,h3,h4⟩:=acA hX hg;refine⟨j,x,h1,by omega,λ{rdc n w0 S F ρ a w Q} hI hs hq=> ?_⟩;rw [TZ];refine eG hI hs λa' w' F' ρ' fY dR hg=> ?_;obtain⟨F2,ρ2,i2,s2,g2⟩:=h4 fY dR;have:=hq a' w' F2 ρ2 i2 s2 ((hg.toF m).trans g2);rw [h2]at this;cases e with
   |normal=>exact absurd rfl fv
   |exit i=>exact iK
   |ret=>exact iK
  cases e with
  |normal=>
   obtain⟨l',h,hr⟩:=amz hX h;obtain⟨j,x,h1,h2,h3⟩:=alf hX hL iq fuel h;refine⟨j,x,h1,h2,λ{rdc n w0 S F ρ a w Q} hI hs hq=> ?_⟩;rw [TZ];refine eG hI hs λa' w' F' ρ' fY dR hg=> ?_;obtain⟨F2,ρ2,i2,s2,g2⟩:=hr fY dR;exact h3 i2 s2 λIW vt yL ye HU HQ P4=>hq IW vt yL ye HU HQ ((hg.toF m).trans (g2.trans P4))
  |exit i=>exact out (by simp) h
  |ret=>exact out (by simp) h
def aKT(hX:X.Ok)(hL:L.Ok X root)(iq:At root p (.loop c)){bk:Wy}{fuel:Nat}:ahz X L.kU.nt (.loop c) m σ xs (KU X L c p m bk σ xs fuel):=by
 intro l o h;obtain⟨j,x,h1,h2,h3⟩:=alf hX hL iq fuel h;exact⟨j,x,h1,h2,λ{rdc n w0 S F ρ a w Q} hI hs hq=>wpIn_loop_rounds fuel (h3 hI hs hq)⟩
def Wr(X:Cx)(m mask:Nat)(w:Wy)(σ:af)(xs:List Ow)(nt:Nt)(f:aq->Option UO)(st:St)(k:Ex->St->Option R):Option R:=
 lZ X w.cv st λst1=>
  a8 (A9 σ (w.bx st1) st1&&Nat.beq (nt.mask&&&mask) mask&&st1.px.isEmpty)
   (match f (KN σ (w.bx st1) st1)with
    |none=>none
    |some o=>Rc xs 0 o λe so=>a8 (Kh m st1.mem (w.bx st1) so.mem) (k e (VC m mask (w.bx st1) st1 so)))
def alT(hX:X.Ok){mask:Nat}{nt:Nt}{f:aq->Option UO}(hf:ahz X ⟨nt.n,mask⟩ c m σ xs f){k:Ex->St->Option R}
 (h:Wr X m mask w σ xs nt f st k=some r):∃e aW,vT X nt c st (Ex.sw e) aW/\k e aW=some r:=by
 unfold Wr at h;obtain⟨st1,h,e1,e2,kj⟩:=wK hX w.cv h;replace h:=cP h;obtain⟨h1,h⟩:=h;rw [bA,bA]at h1;obtain⟨⟨h1,afT⟩,Fp⟩:=h1;have Fp:st1.px=[]:=by simpa using Fp
 have afT:nt.mask&&&mask=mask:=fk afT;split at h
 ·cases h
 ·rename_i o ho;obtain⟨j,x,hx,hj,eG⟩:=hf _ _ ho;rw [arq hx (by omega)]at h;replace h:=cP h;obtain⟨hm,h⟩:=h;refine⟨_,_,λ{rdc n w0 S F ρ a w' Q} hI hs hq=> ?_,h⟩;obtain⟨F1,ρ1,i1,s1,g1⟩:=kj (nt:=nt) (rdc:=rdc) (a:=a) hI hs;obtain⟨aX,kM,_⟩:=Tm h1;have BC:=i1.sub hX aX pq;refine eG (rdc:=⟨rdc.r,rdc.db,λt=>a.tmps.getD t undef⟩) (n:=n) (w0:=w') (S:=hand w' ρ1 st1.mem (w.bx st1) F1) (F:=F1) (ρ:=sub pq ρ1 (w.bx st1)) (a:=a) (w:=w')
   (by rw [S1 h1,kM];exact BC)
   ⟨by rw [S1 h1];exact acF hX h1 i1 s1.env,s1.size,by have:=s1.defs;rw [Fp]at this;exact this,s1.rd,λ_ _=>rfl⟩ ?_
  intro a' vt F' ρ' fY dR lx;obtain⟨i3,g3,r3⟩:=i1.merge hX aX pq fY lx hm;refine hq a' vt F' _ i3 ⟨λt=> ?_,dR.size,?_,dR.rd,λt ht=> ?_⟩ (g1.trans g3)
  ·rcases alC (HL (qa m (w.bx st1) st1.mem.length) 4 (unpack x.σ o.2).env) (st1.env.filter (λp=> !mask.testBit p.1)) t with e|e
   ·simp only [VC];rw [e];exact(dR.env.iR hX r3 4) t
   ·simp only [VC];rw [e];rcases amx mask st1.env t with e'|⟨hb,e'⟩
    ·rw [e'];exact .top _
    ·rw [e'];have hk:=dR.kept t hb;rw [hk];exact(s1.env t).grow g3
  ·have hd:=dR.defs;simp only [VC];rw [Fp];exact hd
  ·have hb:mask.testBit t=false:=by
    rw [<-afT,Nat.testBit_and,ht,tC]
   have hk:=dR.kept t hb;rw [hk];exact s1.kept t ht
def dec:Nat->Nat->List Bool
 |0,_=>[]
 |n+1,p=>match Nat.ble p 1 with|true=>[]|false=>Nat.beq (p %2) 1::dec n (p/2)
def aog:∀l:List Bool,l.length<enc l
 | []=>by simp [enc]
 |b::l=>by have:=aog l;simp only [enc,mh];cases b<;>simp<;>omega
def aol:∀(l:List Bool) (n:Nat),l.length<=n->dec n (enc l)=l
 | [],0,_=>rfl
 | [],n+1,_=>rfl
 |b::l,0,h=>jY
 |b::l,n+1,h=>by
  have h1:=UH l;have h2:Nat.ble (enc (b::l)) 1=false:=by
   cases hq:Nat.ble (enc (b::l)) 1 with
   |false=>rfl
   |true=>have:=yR hq;simp only [enc]at this;omega
  simp only [dec,h2];have ih:=aol l n (mU);have e1:enc (b::l)/2=enc l:=by simp only [enc];cases b<;>simp<;>omega
  have e2:Nat.beq (enc (b::l) %2) 1=b:=by
   cases b
   ·have:enc (false::l) %2=0:=by simp only [enc];simp
    exact iV
   ·have:enc (true::l) %2=1:=by simp only [enc,bT];omega
    exact iV
  rw [e1,e2,ih]
def fM(root:Code)(p:Nat):Option Code:=Hh root (dec p p)
def afh(h:At root p c):fM root p=some c:=by
 obtain⟨l,h1,h2⟩:=h;subst h1;unfold fM;rw [aol l _ (Nat.le_of_lt (aog l)),h2]
def Yt(root:Code)(p:Nat):Code:=match fM root p with|some c=>c|none=> .skip
def IU(root:Code)(p:Nat):Code:=match fM root p with|some (.loop c)=>c|_=> .skip
def gOf(root:Code)(p:Nat):Operand:=match fM root p with|some (.rangeFunc g _ _ _)=>g|_=> .func 0
def W1(root:Code)(p:Nat):Bool:=match fM root p with|some (.rangeFunc _ _ _ _)=>Nat.beq (enc (dec p p)) p|_=>false
def afq(nt:Nat)(root:Code)(p:Nat):Site:=match fM root p with|some (.rangeFunc _ ps a b)=>⟨nt,ps,a,b⟩|_=>⟨0,#[],.skip,.skip⟩
structure Pc where
 p:Nat
 lp:Bool
 m:Nat
 mask:Nat
 σ:af
 en:Wy
 bk:Wy
 xs:List Ow
inductive oT where
 |nil
 |pc(q:Pc)(eX:oT)
 |rg(p s:Nat)(pV:dy)(f:FuncId)(fn:Func)(jt eX:oT)
 |ur(p n:Nat)(eX:oT)
 |gh(g:List (Nat×(List Gh×List Gh)))(eX:oT)
abbrev YT(R:Type):=Nat->aq->aL->(AV->aL->Option R)->Option R
def full(n:Nat):Nat:=2^n- 1
def rV(fn:Func):Code:=fn.body.getD .skip
def Xz(p:Nat)(e:tU R)(L:nN R):nN R:={L with loop:=λq=>match Nat.beq q p with|true=>e|false=>L.loop q}
def Qg(p:Nat)(e:tU R)(L:nN R):nN R:={L with range:=λq=>match Nat.beq q p with|true=>e|false=>L.range q}
def ahy(p:Nat)(e:tU R)(L:nN R):nN R:={L with cut:=λq=>match Nat.beq q p with|true=>some e|false=>L.cut q}
def Pw(s:Nat)(e y:YT R):YT R:=λid args M k=>
 match gm M id with
 |some (.loop s' _ _ _)=>(match Nat.beq s' s with|true=>e id args M k|false=>y id args M k)
 |_=>none
def aop{root:Code}{p:Nat}{e:tU R}{L:nN R}(h:L.Ok X root)(he:arw X root L.kU.nt (p,e)):(Xz p e L).Ok X root where
 kU:=h.kU
 range:=h.range
 cut:=h.cut
 loop:=λ{q c st k r} iq hr=>by
  simp only [Xz]at hr;cases hb:Nat.beq q p with
  |true=>
   exact ap3
  |false=>rw [hb]at hr;exact h.loop iq hr
def aMW{root:Code}{p:Nat}{e:tU R}{L:nN R}(h:L.Ok X root)(he:aoq X root L.kU.nt (p,e)):(Qg p e L).Ok X root where
 kU:=h.kU
 loop:=h.loop
 cut:=h.cut
 range:=λ{q g ps a b st k r} iq hr=>by
  simp only [Qg]at hr;cases hb:Nat.beq q p with
  |true=>
   exact ap3
  |false=>rw [hb]at hr;exact h.range iq hr
def aMX{root:Code}{p:Nat}{e:tU R}{L:nN R}(h:L.Ok X root)(he:as6 X root L.kU.nt (p,e)):(ahy p e L).Ok X root where
 kU:=h.kU
 loop:=h.loop
 range:=h.range
 cut:=λ{q c f st k r} iq hf hr=>by
  simp only [ahy]at hf;split at hf
  ·rename_i hb;have:=fk hb;subst this;injection hf with hf;subst hf;exact he iq hr
  ·exact h.cut iq hf hr
def aLz{s:Nat}{e y:YT R}(he:IY X e)(hy:IY X y):IY X (Pw s e y):=by
 intro id args M k r h;unfold Pw at h;rw [fF]at h;split at h
 ·split at h
  ·exact he h
  ·exact hy h
 ·exact aM
def PO(X:Cx)(root:Code)(q:Pc)(L:nN UO)(N:Nat)(l:aq):Option UO:=
 match q.lp with
 |true=>KU X L (IU root q.p) q.p q.m q.bk q.σ q.xs N l
 |false=>ahv X L (Yt root q.p) q.p q.m q.σ q.xs l
def qZ(X:Cx)(N:Nat)(cs:(R:Type)->List (CE R)):Func->((R:Type)->YT R)->oT->Nat->(R:Type)->nN R
 |fn,y,.nil,mask,R=>arZ ⟨fn.ntmps,mask⟩ (cs R) (y R) [] [] []
 |fn,y,.pc q eX,mask,R=>
  match q.lp with
  |true=>Xz q.p (Wr X q.m q.mask q.en q.σ q.xs ⟨fn.ntmps,mask⟩ (PO X (rV fn) q (qZ X N cs fn y eX q.mask UO) N)) (qZ X N cs fn y eX mask R)
  |false=>ahy q.p (Wr X q.m q.mask q.en q.σ q.xs ⟨fn.ntmps,mask⟩ (PO X (rV fn) q (qZ X N cs fn y eX q.mask UO) N)) (qZ X N cs fn y eX mask R)
 |fn,y,.ur p n eX,mask,R=>Xz p (UR X (qZ X N cs fn y eX mask R) (IU (rV fn) p) (2*p) n) (qZ X N cs fn y eX mask R)
 |fn,y,.gh g eX,mask,R=>aos g (qZ X N cs fn y eX mask R)
 |fn,y,.rg p s pV f gn jt eX,mask,R=>
  Qg p (adS X (aef ⟨fn.ntmps,mask⟩ (inl f (Qa X (qZ X N cs gn (λR=>Pw s (OC X (qZ X N cs fn y eX (full fn.ntmps) R) s p) (y R)) jt (full gn.ntmps) R) (rV gn) gn.results.toList))) s pV (gOf (rV fn) p)) (qZ X N cs fn y eX mask R)
structure Enters(X:Cx)(f:FuncId)(fn:Func):Prop where
 at_:X.P.funcs[f]?=some fn
 body:fn.body.isSome=true
 name:(fn.name== "runtime.NumGoroutine")=false
def Enters.cd(h:Enters X f fn):fn.body=some (rV fn):=by
 have:=h.body;unfold rV;cases hb:fn.body with
 |none=>rw [hb]at this;cases this
 |some c=>rfl
def Enters.call(h:Enters X f fn)(vs:Array Value)(w:World):(callFunc f vs).run X.P w= .ok (.enter f vs) w:=enters h.at_ h.cd h.name vs w
def E1(X:Cx):Func->oT->Prop
 |_,.nil =>True
 |fn,.pc _ eX=>E1 X fn eX
 |fn,.ur _ _ eX=>E1 X fn eX
 |fn,.gh _ eX=>E1 X fn eX
 |fn,.rg p s _ f gn jt eX=>(X.site s=afq fn.ntmps (rV fn) p/\W1 (rV fn) p=true/\Enters X f gn/\E1 X gn jt)/\E1 X fn eX
def xV{N:Nat}{cs:(R:Type)->List (CE R)}:∀(eX:oT) (fn:Func) (y:(R:Type)->YT R) (mask:Nat) (R:Type),(qZ X N cs fn y eX mask R).kU.nt =⟨fn.ntmps,mask⟩
 | .nil,_,_,_,_=>rfl
 | .pc q eX,fn,y,mask,R=>by
   simp only [qZ];split
   ·exact xV eX fn y mask R
   ·exact xV eX fn y mask R
 | .ur _ _ eX,fn,y,mask,R=>xV eX fn y mask R
 | .gh _ eX,fn,y,mask,R=>xV eX fn y mask R
 | .rg _ _ _ _ _ _ eX,fn,y,mask,R=>xV eX fn y mask R
def aLS(h:W1 root p=true):∃g ps a b,fM root p=some (.rangeFunc g ps a b)/\At root p (.rangeFunc g ps a b):=by
 unfold W1 at h;split at h
 ·rename_i g ps a b hc;exact⟨g,ps,a,b,hc,dec p p,fk h,hc⟩
 ·exact aM
def Er(hX:X.Ok){N:Nat}{cs:(R:Type)->List (CE R)}(vK:∀R,p7 (zr X) (cs R)):
 ∀(eX:oT) {fn:Func} {y:(R:Type)->YT R} (_:∀R,IY X (y R)) (_:E1 X fn eX) (mask:Nat) (R:Type),(qZ X N cs fn y eX mask R).Ok X (rV fn)
 | .nil,fn,y,hy,_,mask,R=>aKP (vK R) (hy R) trivial trivial trivial
 | .gh g eX,fn,y,hy,h,mask,R=>aJM g (Er (N:=N) hX vK eX hy h mask R)
 | .ur p n eX,fn,y,hy,h,mask,R=>by
   have hi:=Er (N:=N) hX vK eX hy h mask R;refine aop hi ?_;intro c st k r iq hr;have hc:IU (rV fn) p=c:=by unfold IU;rw [afh iq]
   simp only at hr;rw [hc]at hr;obtain⟨e,aW,hk,hr⟩:=ala hX hi iq n hr;exact⟨e,aW,λ{rdc n w0 S F ρ a w Q} hI hs hq=>wpIn_loop_rounds _ (hr hI hs hq),hk⟩
 | .pc q eX,fn,y,hy,h,mask,R=>by
   have hi:=Er (N:=N) hX vK eX hy h mask R;have hq:=Er (N:=N) hX vK eX hy h q.mask UO;simp only [qZ];split
   ·rename_i hlp;refine aop hi ?_;intro c st k r iq hr;have hc:IU (rV fn) q.p=c:=by unfold IU;rw [afh iq]
    have hp:=aKT (m:=q.m) (bk:=q.bk) (σ:=q.σ) (xs:=q.xs) (fuel:=N) hX hq iq;rw [xV]at hp;rw [xV];refine alT hX (f:=PO X (rV fn) q (qZ X N cs fn y eX q.mask UO) N) (c:= .loop c) ?_ hr;exact aqu
   ·rename_i hlp;refine aMX hi ?_;intro c st k r iq hr;have hc:Yt (rV fn) q.p=c:=by unfold Yt;rw [afh iq]
    have hp:=aMQ (m:=q.m) (σ:=q.σ) (xs:=q.xs) hX hq iq;rw [xV]at hp;rw [xV];refine alT hX (f:=PO X (rV fn) q (qZ X N cs fn y eX q.mask UO) N) (c:=c) ?_ hr;exact aqu
 | .rg p s pV f gn jt eX,fn,y,hy,h,mask,R=>by
   have hi:=λmask R=>Er (N:=N) hX vK eX hy h.2 mask R;obtain⟨⟨hs,ry,AO,tP⟩,_⟩:=h;obtain⟨g,ps,a,b,hc,iq⟩:=aLS ry;have Hv:X.site s=⟨fn.ntmps,ps,a,b⟩:=by rw [hs];unfold afq;rw [hc]
   have XZ:∀R,IY X (Pw s (OC X (qZ X N cs fn y eX (full fn.ntmps) R) s p) (y R)):=by
    intro R;refine aLz ?_ (hy R);intro id args M k r hr;refine aHg hX (hi (full fn.ntmps) R) (g:=g) (ps:=ps) ?_ hr;rw [Hv];exact iq
   have hk:=Er (N:=N) hX vK jt XZ tP (full gn.ntmps) R;refine aMW (hi mask R) ?_;intro g' th a' b' st k r aZi hr;have:=aZi.det (dec p p) (fk (by unfold W1 at ry;rw [hc]at ry;exact ry));unfold fM at hc;rw [hc]at this;injection this with this;injection this with e1 e2 e3 e4;subst e1;subst e2;subst e3;subst e4;have hg:gOf (rV fn) p=g:=by unfold gOf fM;rw [hc]
   rw [xV];simp only [hg]at hr;refine aHh hX (T:=aef ⟨fn.ntmps,mask⟩ _) (aJV (aNE (g:=f) λ{args M k r} h=> ?_)) Hv hr;exact ack hX hk AO.at_ AO.cd (by rw [xV]) AO.call rfl h
structure Rw where
 w:Wy
 σ:af
def agW(j:Nat):List (Nat×Nat×Nat)->Nat->aq->Option Nat
 | [],_,_=>none
 |p::ps,k,xs=>match Nat.beq p.1 j with|true=>some (xs.getD k .top).id |false=>agW j ps (k+1) xs
def ave(j:Nat)(s:dV)(x:AV):Option Nat:=
 match s with
 | .ak i| .ptr i _ _| .lM i| .mpr i| .vw i=>match Nat.beq i j with|true=>some x.id|false=>none
 | .cl _ ps=>agW j ps 0 x.iP
 | .Rf _ ps=>agW j ps 0 x.aNS
 |_=>none
def W2(j:Nat):List dV->Nat->aq->Option Nat
 | [],_,_=>none
 |s::ss,k,xs=>match ave j s (xs.getD k .top)with|some i=>some i|none=>W2 j ss (k+1) xs
def ava(j:Nat)(s:Sh)(x:AV):Option Nat:=
 match s with
 | .one s=>ave j s x
 | .agg ss=>W2 j ss 0 x.cells
 | .gM _ ss=>W2 j ss 0 x.iP
def avc(j:Nat)(st:St):List (Nat×Sh)->Option Nat
 | []=>none
 |e::es=>match ava j e.2 (look st.env e.1)with|some i=>some i|none=>avc j st es
def avb(j:Nat):List (Nat×Sh)->Nat->cf->Option Nat
 | [],_,_=>none
 |e::es,k,l=>match ava j e.2 (l.getD k (0,.top)).2 with|some i=>some i|none=>avb j es (k+1) l
def avd(j:Nat)(st:St):List fu->dy->Option Nat
 |b::bs,i::is=>
  match(match b with| .var _ ss=>W2 j ss 0 (st.mem.getD i .dead).cells | .loop _ es _=>avb j es 0 (st.mem.getD i .dead).ag4 |_=>none)with
  |some n=>some n
  |none=>avd j st bs is
 |_,_=>none
def aty(m:Nat)(σ:af)(st:St):Nat->dy->dy
 |0,acc=>acc
 |n+1,acc=>aty m σ st n (acc++[match Nat.blt acc.length m with|true=>acc.length|false=>match avc acc.length st σ.env with|some i=>i|none=>(avd acc.length st σ.mem acc).getD 0])
def EO(m:Nat)(σ:af)(st:St):dy:=aty m σ st σ.mem.length []
inductive Cl where
 |fn(v:Nat)
 |fc(v:Nat)(c:List Cv)
 |ag0(v:Nat)(ps:List (Nat×TypeId))
 |inl(f:FuncId)(fn:Func)(eX:oT)
 |known(f:FuncId)
 |Xa(t:TypeId)(v vn ve:Nat)
 |Fy(f:FuncId)(t:TypeId)
structure FD where
 f:FuncId
 fn:Func
 na:Nat
 nr:Nat
 m:Nat
 σ:af
 outs:List Rw
 calls:List Cl
 eX:oT
variable{d:FD}
def Ff(nr:Nat)(env:cf):AV:=match nr with|1=>look env 0|n=> .gw (E0 n env)
def Q9(X:Cx)(m:Nat):List Rw->Nat->St->Option UO
 | [],_,_=>none
 |x::xs,i,st=>
  match xs with
  | []=>IM X m x.w x.σ st λl=>some (i,l)
  |_::_=>match fits X x.w x.σ st with|true=>IM X m x.w x.σ st λl=>some (i,l)|false=>Q9 X m xs (i+1) st
def agU(X:Cx)(m nr:Nat)(outs:List Rw)(x:AV)(M:aL):Option UO:=
 match nr with
 |1=>Q9 X m outs 0 ⟨[(0,x)],M,[],.yr⟩
 |n=>match x with| .gw xs=>a8 (Nat.beq xs.length n) (Q9 X m outs 0 ⟨wT 0 xs,M,[],.yr⟩)|_=>none
def acB(hX:X.Ok){m:Nat}{st:St}{o:UO}:∀{xs:List Rw} {i:Nat},Q9 X m xs i st=some o->∃j x,xs[j]?=some x/\o.1=i+j/\Wt X m st x.σ o
 | [],i,h=>aM
 | [x],i,h=>ap7
 |x::y::xs,i,h=>by
  rw [Q9]at h;split at h
  ·exact ap7
  ·obtain⟨j,z,h1,h2,h3⟩:=acB hX h;exact⟨j+1,z,h1,by omega,h3⟩
def Fs(X:Cx)(d:FD)(g:aq->Option UO):Prop:=
 ∀l o,g l=some o->∃j x,d.outs[j]?=some x/\o.1=j/\KD X d.f d.m (E0 d.na (unpack d.σ l).env) (unpack d.σ l).mem (Ff d.nr (unpack x.σ o.2).env) (unpack x.σ o.2).mem
def aJe(hX:X.Ok){nr:Nat}{outs:List Rw}{M1:aL}(hc:ya X f args M x M1)(h:agU X m nr outs x M1=some o):
 ∃j y,outs[j]?=some y/\o.1=j/\KD X f m args M (Ff nr (unpack y.σ o.2).env) (unpack y.σ o.2).mem :=by
 unfold agU at h;split at h
 ·obtain⟨j,y,h1,h2,hr⟩:=acB hX h;refine⟨j,y,h1,by omega,λ{w0 S F ρ w vs} hI Bm=> ?_⟩;refine(hc.2 hI Bm).mono ?_;rintro e w' ⟨v,ρ',F',rfl,fY,hg,hx⟩;obtain⟨F2,ρ2,i2,s2,g2⟩:=hr (nt:=⟨1,0⟩) (rdc:=⟨none,λ_=>False,λt=>(#[v]:Array Value).getD t undef⟩) (a:={tmps:= #[v],defers:=[]}) fY ⟨λt=>by
   simp only [ug,look_nil]
   by_cases ht:t=0
   ·subst ht;simpa using hx
   ·have:(t==0)=false:=by simpa using ht
    simp only [this,oW,sj];exact .top _,rfl,Marks.nil _ _ (λ_ h=>h.elim),.inl rfl,λ_ _=>rfl⟩
  exact⟨v,ρ2,F2,rfl,i2,(hg.toF m).trans g2,s2.env 0⟩
 ·rename_i X5;split at h
  ·rename_i xs;replace h:=cP h;obtain⟨hn,h⟩:=h;have hn:xs.length=nr:=fk hn;obtain⟨j,y,h1,h2,hr⟩:=acB hX h;refine⟨j,y,h1,by omega,λ{w0 S F ρ w vs} hI Bm=> ?_⟩;refine(hc.2 hI Bm).mono ?_;rintro e w' ⟨v,ρ',F',rfl,fY,hg,hx⟩;cases hx with
   |gw cs us hl pK=>
    obtain⟨F2,ρ2,i2,s2,g2⟩:=hr (nt:=⟨us.length,0⟩) (rdc:=⟨none,λ_=>False,λt=>us.toArray.getD t undef⟩) (a:={tmps:=us.toArray,defers:=[]}) fY ⟨amp ⟨hl,pK⟩,by simp,Marks.nil _ _ (λ_ h=>h.elim),.inl rfl,λ_ _=>rfl⟩;refine⟨.tuple us.toArray,ρ2,F2,rfl,i2,(hg.toF m).trans g2,?_⟩;have hr3:=am9 s2.env;rw [hl,hn]at hr3;have e:Ff nr (unpack y.σ o.2).env = .gw (E0 nr (unpack y.σ o.2).env):=by
     unfold Ff;split
     ·exact absurd rfl X5
     ·rfl
    rw [e];exact .gw _ us hr3.1 hr3.2
  ·exact aM
def Mf(nr:Nat):List Rw->Nat->UO->(AV->aL->Option R)->Option R
 | [],_,_,_=>none
 |x::xs,i,o,k=>
  match xs with
  | []=>k (Ff nr (unpack x.σ o.2).env) (unpack x.σ o.2).mem
  |_::_=>match Nat.beq o.1 i with|true=>k (Ff nr (unpack x.σ o.2).env) (unpack x.σ o.2).mem |false=>Mf nr xs (i+1) o k
def ars{nr:Nat}{o:UO}{k:AV->aL->Option R}:∀{xs:List Rw} {i j:Nat} {x:Rw},xs[j]?=some x->o.1=i+j->Mf nr xs i o k=k (Ff nr (unpack x.σ o.2).env) (unpack x.σ o.2).mem
 | [],i,j,x,h,_=>jY
 |y::ys,i,0,x,h,ho=>by
  simp at h;subst h;cases ys with
  |nil=>rfl
  |cons z zs=>simp only [Mf];rw [ho];simp
 |y::ys,i,j+1,x,h,ho=>by
  cases ys with
  |nil=>exact jY
  |cons z zs=>
   have hb:Nat.beq o.1 i=false:=aqY;rw [Mf];simp only [hb];exact ars (mU) (by omega)
def Wp(X:Cx)(d:FD)(w:Wy)(g:aq->Option UO)(args:aq)(M:aL)(k:AV->aL->Option R):Option R:=
 a8 (Nat.beq args.length d.na) (lZ X w.cv ⟨wT 0 args,M,[],.yr⟩ λst1=>
  a8 (A9 d.σ (w.bx st1) st1)
   (match g (KN d.σ (w.bx st1) st1)with
    |none=>none
    |some o=>Mf d.nr d.outs 0 o λx Mc=>a8 (Kh d.m st1.mem (w.bx st1) Mc) (k (iR (qa d.m (w.bx st1) st1.mem.length) 4 x) (merge d.m st1.mem (w.bx st1) Mc))))
def aJa(hX:X.Ok)(hg:Fs X d g)(hc:∀(vs:Array Value) (w:World),(callFunc d.f vs).run X.P w= .ok (.enter d.f vs) w)
   {k:AV->aL->Option R}  (h:Wp X d w g args M k=some r):∃x M',ya X d.f args M x M'/\k x M'=some r/\(w.cv=[]->eR (w.bx ⟨wT 0 args,M,[],.yr⟩) M M'):=by
 unfold Wp at h;replace h:=cP h;obtain⟨hna,h⟩:=h;have hna:args.length=d.na:=fk hna;have aYT:∃st1,(a8 (A9 d.σ (w.bx st1) st1) (match g (KN d.σ (w.bx st1) st1)with|none=>none|some o=>Mf d.nr d.outs 0 o λx Mc=>a8 (Kh d.m st1.mem (w.bx st1) Mc) (k (iR (qa d.m (w.bx st1) st1.mem.length) 4 x) (merge d.m st1.mem (w.bx st1) Mc))))=some r/\(w.cv=[]->st1=⟨wT 0 args,M,[],.yr⟩)/\
  ∀{nt:Nt} {rdc:Cy} {w0:World} {S:Sc} {F:bC} {ρ:bF} {a:Act} {w:World},Inv X w0 S F ρ M w->jh X nt ⟨wT 0 args,M,[],.yr⟩ rdc F ρ a w->∃F' ρ',Inv X w0 S F' ρ' st1.mem w/\jh X nt st1 rdc F' ρ' a w/\Grow F F' ρ ρ' w w:=by
  cases kj:w.cv with
  |nil=>rw [kj]at h;exact⟨_,h,λ_=>rfl,λ{nt rdc w0 S F ρ a w} hI hs=>⟨F,ρ,hI,hs,Grow.refl _ _ _⟩⟩
  |cons c cs=>
   rw [kj]at h;obtain⟨st1,h,_,_,kj⟩:=wK hX (c::cs) h;exact⟨st1,h,(λe=>by cases e),kj⟩
 clear h;obtain⟨st1,h,aYZ,kj⟩:=aYT;replace h:=cP h;obtain⟨h1,h⟩:=h;split at h
 ·cases h
 ·rename_i o ho;obtain⟨j,y,hy,hj,hf⟩:=hg _ _ ho;rw [ars hy (by omega)]at h;replace h:=cP h;obtain⟨hm,h⟩:=h;refine⟨_,_,⟨hc,λ{w0 S F ρ w' vs} hI hr=> ?_⟩,h,λe=>by rw [aYZ e];exact aIC⟩;obtain⟨F1,ρ1,i1,s1,g1⟩:=kj (nt:=⟨vs.length,0⟩) (rdc:=⟨none,λ_=>False,λt=>vs.toArray.getD t undef⟩) (a:={tmps:=vs.toArray,defers:=[]}) hI ⟨amp hr,by simp,Marks.nil _ _ (λ_ h=>h.elim),.inl rfl,λ_ _=>rfl⟩;obtain⟨aX,kM,_⟩:=Tm h1;have BC:=i1.sub hX aX pq;have ahm:=acF hX h1 i1 s1.env;have Bm:=am9 ahm;have hl:vs.length=d.na:=by rw [hr.1];exact hna
  rw [hl]at Bm;rw [S1 h1]at hf;have C5:=hf (w0:=w') (S:=hand w' ρ1 st1.mem (w.bx st1) F1) (F:=F1) (ρ:=sub pq ρ1 (w.bx st1)) (w:=w') (vs:=vs) (by rw [kM];exact BC) Bm;refine C5.mono ?_;rintro e vt ⟨v,ρ',F',rfl,fY,lx,hx⟩;obtain⟨i3,g3,r3⟩:=i1.merge hX aX pq fY lx hm;exact⟨v,_,F',rfl,i3,g1.trans g3,hx.iR hX.kinds r3 4⟩
def kC(cv:List Cv)(M:aL)(k:AV->aL->Option R)(x:AV)(M':aL):Option R:=match cv with| []=>k x M'|_::_=>a8 (Nat.ble M.length M'.length) (k x M')
def wC(w:Wy)(args:aq)(M:aL):Option dy:=match w.cv with| []=>some (w.bx ⟨wT 0 args,M,[],.yr⟩)|_::_=>some (List.range M.length)
def Qd(X:Cx)(d:FD)(w:Wy)(g:aq->Option UO)(R:Type):CE R:=
 ⟨d.f,λargs M=>fits X w d.σ ⟨wT 0 args,M,[],.yr⟩,wC w,λargs M k=>Wp X d w g args M (kC w.cv M k)⟩
def UJ(hX:X.Ok)(hg:Fs X d g)(hc:∀(vs:Array Value) (w:World),(callFunc d.f vs).run X.P w= .ok (.enter d.f vs) w):zr X (Qd X d w g R):=by
 intro args M k r h;have h':Wp X d w g args M (kC w.cv M k)=some r:=h;obtain⟨x,M',h1,h2,h3⟩:=aJa hX hg hc h';cases kj:w.cv with
 |nil=>
  rw [kj]at h2;refine⟨x,M',h1,h2,λids hi=> ?_⟩;have hi:wC w args M=some ids:=hi;unfold wC at hi;rw [kj]at hi;injection hi with hi;subst hi;exact h3 kj
 |cons c cs=>
  rw [kj]at h2;obtain⟨hle,h2⟩:=cP (show a8 _ _=some r from h2);refine⟨x,M',h1,h2,λids hi=> ?_⟩;have hi:wC w args M=some ids:=hi;unfold wC at hi;rw [kj]at hi;injection hi with hi;subst hi;exact⟨yR hle,λi hi hn=>absurd (xJ.2 hi) hn⟩
def zo(t:TypeId):Option UO->Bool
 |some (0,[.aj t' []])=>Nat.beq t' t
 |_=>false
def an8{o:Option UO}(h:zo t o=true):o=some (0,[.aj t []]):=by
 unfold zo at h;split at h
 ·exact Kp
 ·exact aM
def Fi(t:TypeId)(gn ge g:aq->Option UO)(l:aq):Option UO:=
 match(l.getD 0 .top).rows with
 | []=>bif zo t (gn [])&&zo t (ge [])then some (0,[.aj t []])else none
 |_::_=>g l
def OK(t:TypeId):List Rw->Bool
 | [⟨_,⟨[(0,.one (.ak 0))],[.row t']⟩⟩]=>Nat.beq t' t
 |_=>false
def CG(t:TypeId)(b:Nat):af->Bool
 |⟨[(0,.one (.cell (.slice t')))],[]⟩=>Nat.beq b 0&&Nat.beq t' t
 |⟨[(0,.one .jX)],[]⟩=>Nat.beq b 1
 |⟨[(0,.one .oh)],[]⟩=>Nat.beq b 2
 |_=>false
def aeh(t:TypeId)(d dn de:FD):Bool:=
 Nat.beq dn.f d.f&&Nat.beq de.f d.f&&Nat.beq d.na 1&&Nat.beq dn.na 1&&Nat.beq de.na 1&&Nat.beq d.nr 1&&Nat.beq dn.nr 1&&Nat.beq de.nr 1&&Nat.beq d.m 0&&Nat.beq dn.m 0&&Nat.beq de.m 0&&
  CG t 0 d.σ&&CG t 1 dn.σ&&CG t 2 de.σ&&OK t d.outs&&OK t dn.outs&&OK t de.outs
def acw{xs:List Rw}(h:OK t xs=true):∃w,xs=[⟨w,⟨[(0,.one (.ak 0))],[.row t]⟩⟩]:=by
 unfold OK at h;split at h
 ·rename_i w t';exact⟨w,Kp⟩
 ·exact aM
def aMb(h:CG t 0 σ=true):σ=⟨[(0,.one (.cell (.slice t)))],[]⟩:=by
 unfold CG at h;split at h
 ·rw [bA]at h;rw [fk h.2]
 ·exact aM
 ·exact aM
 ·exact aM
def aMa(h:CG t 1 σ=true):σ=⟨[(0,.one .jX)],[]⟩:=by
 unfold CG at h;split at h
 ·exact aM
 ·rfl
 ·exact aM
 ·exact aM
def aL9(h:CG t 2 σ=true):σ=⟨[(0,.one .oh)],[]⟩:=by
 unfold CG at h;split at h
 ·exact aM
 ·exact aM
 ·rfl
 ·exact aM
def aMf{dn de:FD}{gn ge:aq->Option UO}(hq:aeh t d dn de=true)(h:Fs X d g)(hn:Fs X dn gn)(he:Fs X de ge):Fs X d (Fi t gn ge g):=by
 simp only [aeh,bA]at hq;obtain⟨⟨⟨⟨⟨⟨⟨⟨⟨⟨⟨⟨⟨⟨⟨⟨q1,q2⟩,q3⟩,q4⟩,q5⟩,q6⟩,q7⟩,q8⟩,q9⟩,uK⟩,yu⟩,uJ⟩,Aw⟩,Av⟩,yt⟩,Ig⟩,Au⟩:=hq;intro l o ho;unfold Fi at ho;split at ho
 ·rename_i hl;have ht:(zo t (gn [])&&zo t (ge []))=true/\o=(0,[.aj t []]):=by
   cases hc:(zo t (gn [])&&zo t (ge []))with
   |false=>rw [hc]at ho;cases ho
   |true=>rw [hc]at ho;exact⟨rfl,by injection ho with ho;exact ho.symm⟩
  obtain⟨ht,rfl⟩:=ht;rw [bA]at ht;have h1:=hn _ _ (an8 ht.1);have h2:=he _ _ (an8 ht.2);obtain⟨w,e⟩:=acw yt;obtain⟨wn,en⟩:=acw Ig;obtain⟨we,ee⟩:=acw Au;refine⟨0,_,by rw [e];rfl,rfl,?_⟩;rw [aMb uJ,fk q3,fk q6,fk q9];obtain⟨jn,xn,X0,IG,sb⟩:=h1;obtain⟨je,xe,DK,hje,hce⟩:=h2;subst IG;subst hje;rw [en]at X0;rw [ee]at DK;injection X0 with X0;injection DK with DK;subst X0;subst DK;rw [aMa Aw,fk q4,fk q7,fk uK,fk q1]at sb;rw [aL9 Av,fk q5,fk q8,fk yu,fk q2]at hce;intro w0 S F ρ w vs hI hv;have jC:dZ X.K ρ F w [.aj t (l.getD 0 .top).rows] vs:=hv;rw [hl]at jC;obtain⟨hlen,nw⟩:=jC
  match vs,hlen with
  | [v],_=>
    have hr:=nw 0 _ v rfl rfl;have one:∀{x:AV},aR X.K ρ F w x v->dZ X.K ρ F w [x] [v]:=λhx=>⟨rfl,λj y u hy hu=>by
     cases j with
     |zero=>simp at hy hu;subst hy;subst hu;exact hx
     |succ j=>simp at hy⟩
    cases hr with
    |n7=>exact sb hI (one .jX)
    |aj _ _ a cap vss ki=>exact hce hI (one (.oh a cap))
 ·exact h l o ho
def Hb:aE->Option cj
 | []=>some []
 |r::rs=>match r with
  | [.int .i64 n]=>(match Hb rs with|some l=>some (n::l)|none=>none)
  |_=>none
def sX(l:cj):aE:=l.map λn=>[AV.int .i64 n]
def rM(l:cj):cj:=l.mergeSort λx y=>decide (x<=y)
def amy:∀{rs:aE} {l:cj},Hb rs=some l->rs=sX l
 | [],l,h=>by injection h with h;subst h;rfl
 |r::rs,l,h=>by
  unfold Hb at h;split at h
  ·rename_i n;split at h
   ·rename_i l' hl;injection h with h;subst h;rw [amy hl];rfl
   ·exact aM
  ·exact aM
def atx(t:TypeId):aq->Option UO
 | [.aj _ (x::xs)]=>match Hb (x::xs)with|some zs=>a8 (Nat.ble zs.length 4611686018427387903) (some (0,[.aj t (sX (rM zs))]))|none=>none
 |_=>none
def afn(t:TypeId):af->Bool
 |⟨[(0,.one (.ak 0))],[.row t']⟩=>Nat.beq t' t
 |_=>false
def ad5(t:TypeId):List Rw->Bool
 | [⟨_,⟨[],[.row t']⟩⟩]=>Nat.beq t' t
 |_=>false
def HI(d:FD)(l:aq):Option UO:=
 match d.calls with
 | .Fy f t::_=>(match Nat.beq d.f f&&Nat.beq d.na 1&&Nat.beq d.nr 0&&Nat.beq d.m 1&&afn t d.σ&&ad5 t d.outs with|true=>atx t l|false=>none)
 |_=>none
def agb(X:Cx)(f:FuncId)(t:TypeId):Prop:=∀zs:cj,zs≠ []->zs.length<=4611686018427387903->KD X f 1 [.ak 0] [.row t (sX zs)] (.gw []) [.row t (sX (rM zs))]
def aKv(h:afn t σ=true):σ=⟨[(0,.one (.ak 0))],[.row t]⟩:=by
 unfold afn at h;split at h
 ·exact Kp
 ·exact aM
def aJP{xs:List Rw}(h:ad5 t xs=true):∃w,xs=[⟨w,⟨[],[.row t]⟩⟩]:=by
 unfold ad5 at h;split at h
 ·rename_i w t';exact⟨w,Kp⟩
 ·exact aM
def aLO{cl:List Cl}(hc:d.calls= .Fy f t::cl)(hs:agb X f t){l:aq}(h:HI d l=some o):
 ∃j x,d.outs[j]?=some x/\o.1=j/\KD X d.f d.m (E0 d.na (unpack d.σ l).env) (unpack d.σ l).mem (Ff d.nr (unpack x.σ o.2).env) (unpack x.σ o.2).mem :=by
 unfold HI at h;rw [hc]at h;simp only at h;split at h
 ·rename_i hq;simp only [bA]at hq;obtain⟨⟨⟨⟨⟨q1,q2⟩,q3⟩,q4⟩,q5⟩,q6⟩:=hq;unfold atx at h;split at h
  ·rename_i u x xs;split at h
   ·rename_i zs hz;replace h:=cP h;obtain⟨hlen,h⟩:=h;injection h with h;subst h;have hx:=amy hz;obtain⟨w,e⟩:=aJP q6;refine⟨0,_,by rw [e];rfl,rfl,?_⟩;rw [aKv q5,fk q1,fk q2,fk q3,fk q4];have fv:zs≠ []:=by intro e0;rw [e0]at hx;cases hx
    have key:= @hs zs fv (yR hlen);rw [<-hx]at key;exact @key
   ·exact aM
  ·exact aM
 ·cases h
def HP(R:Type):CE R:=⟨0,λ_ _=>false,λ_ _=>none,λ_ _ _=>none⟩
def Kg:zr X (HP R):=by intro args M k r h;cases h
def aPS(e:CE R)(ps:List (Nat×TypeId)):CE R:=⟨e.f,λargs M=>e.test (GZ ps args) M,λargs M=>e.wr (GZ ps args) M,λargs M k=>e.run (GZ ps args) M k⟩
def aPT(X:Cx)(L:nN R)(f:FuncId)(fn:Func):CE R:=
 ⟨f,λ_ _=>true,λ_ M=>some (List.range M.length),λargs M k=>Qa X L (rV fn) fn.results.toList args M λx M'=>a8 (Nat.ble M.length M'.length) (k x M')⟩
def xu(X:Cx)(N:Nat)(E:List FD)(G:Nat->aq->Option UO):List Cl->(R:Type)->List (CE R)
 | [],_=>[]
 | .fn v::cl,R=>(match E[v]? with|none=>HP R|some d=>Qd X d ⟨[],EO 0 d.σ⟩ (G v) R)::xu X N E G cl R
 | .fc v c::cl,R=>(match E[v]? with|none=>HP R|some d=>Qd X d ⟨c,EO 0 d.σ⟩ (G v) R)::xu X N E G cl R
 | .ag0 v ps::cl,R=>(match E[v]? with|none=>HP R|some d=>aPS (Qd X d ⟨[],EO 0 d.σ⟩ (G v) R) ps)::xu X N E G cl R
 | .inl f fn eX::cl,R=>aPT X (qZ X N (xu X N E G cl) fn (λ_=>Qs) eX (full fn.ntmps) R) f fn::xu X N E G cl R
 | .known f::cl,R=>kce f::xu X N E G cl R
 | .Fy _ _::cl,R=>HP R::xu X N E G cl R
 | .Xa t v vn ve::cl,R=>(match E[v]?,E[vn]?,E[ve]? with|some d,some dn,some de=>(match aeh t d dn de with|true=>Qd X d ⟨[],EO 0 d.σ⟩ (Fi t (G vn) (G ve) (G v)) R|false=>HP R)|_,_,_=>HP R)::xu X N E G cl R
def bG(X:Cx)(E:List FD)(G:Nat->aq->Option UO)(N v:Nat)(l:aq):Option UO:=
 match E[v]? with
 |none=>none
 |some d=>match HI d l with
  |some o=>some o
  |none=>Qa X (qZ X N (xu X N E G d.calls) d.fn (λ_=>Qs) d.eX (full d.fn.ntmps) UO) (rV d.fn) d.fn.results.toList (E0 d.na (unpack d.σ l).env) (unpack d.σ l).mem (agU X d.m d.nr d.outs)
def FU(X:Cx)(E:List FD):Nat->Nat->aq->Option UO
 |0,_,_=>none
 |N+1,v,l=>bG X E (FU X E N) N v l
def ahB(X:Cx):Cl->Prop
 | .inl f fn eX=>Enters X f fn/\E1 X fn eX
 | .known f=>∀R,zr X (kce (R:=R) f)
 | .Fy f t=>agb X f t
 |_=>True
def ahA(X:Cx)(d:FD):Prop:=Enters X d.f d.fn/\E1 X d.fn d.eX/\p7 (ahB X) d.calls
def p7.at{α:Type}{P:α->Prop}:∀{l:List α} {i:Nat} {a:α},p7 P l->l[i]?=some a->P a
 | [],i,a,_,h=>jY
 |b::l,0,a,h,hi=>by simp at hi;subst hi;exact h.1
 |b::l,i+1,a,h,hi=>p7.at h.2 (EF)
def CL(hX:X.Ok){N:Nat}{E:List FD}(hE:p7 (ahA X) E){G:Nat->aq->Option UO}(hG:∀v d,E[v]?=some d->Fs X d (G v)):∀{cl:List Cl},p7 (ahB X) cl->∀R,p7 (zr X) (xu X N E G cl R)
 | [],_,R=>trivial
 | .fn v::cl,h,R=>⟨by
    split
    ·exact Kg
    ·rename_i d hd;exact UJ hX (hG v d hd) (hE.at hd).1.call,CL hX hE hG h.2 R⟩
 | .fc v c::cl,h,R=>⟨by
    split
    ·exact Kg
    ·rename_i d hd;exact UJ hX (hG v d hd) (hE.at hd).1.call,CL hX hE hG h.2 R⟩
 | .ag0 v ps::cl,h,R=>⟨by
    split
    ·exact Kg
    ·rename_i d hd;exact aNq (UJ hX (hG v d hd) (hE.at hd).1.call) ps _,CL hX hE hG h.2 R⟩
 | .inl f fn eX::cl,h,R=>by
   obtain⟨⟨AO,BF⟩,iJ⟩:=h;refine⟨aMs λ{args M k r} hr=> ?_,CL hX hE hG iJ R⟩;exact ack hX (Er hX (CL hX hE hG iJ) eX (λ_=>aoN) BF (full fn.ntmps) R) AO.at_ AO.cd (by rw [xV]) AO.call rfl hr
 | .known f::cl,h,R=>⟨h.1 R,CL hX hE hG h.2 R⟩
 | .Fy _ _::cl,h,R=>⟨Kg,CL hX hE hG h.2 R⟩
 | .Xa t v vn ve::cl,h,R=>⟨by
    split
    ·rename_i d dn de hd hdn hde;split
     ·rename_i hq;exact UJ hX (aMf hq (hG v d hd) (hG vn dn hdn) (hG ve de hde)) (hE.at hd).1.call
     ·exact Kg
    ·exact Kg,CL hX hE hG h.2 R⟩
def as2(hX:X.Ok){E:List FD}(hE:p7 (ahA X) E):∀N v d,E[v]?=some d->Fs X d (FU X E N v)
 |0,v,d,hd=>by intro l o h;cases h
 |N+1,v,d,hd=>by
  intro l o h;simp only [FU,bG,hd]at h;obtain⟨AO,BF,iJ⟩:=hE.at hd;split at h
  ·rename_i o' ho;injection h with h;subst h;cases hc:d.calls with
   |nil=>unfold HI at ho;rw [hc]at ho;cases ho
   |cons c cl=>
    cases c with
    |Fy f t=>
     rw [hc]at iJ;exact aLO hc iJ.1 ho
    |_=>unfold HI at ho;rw [hc]at ho;cases ho
  obtain⟨x,M',h1,h2⟩:=ack hX (Er hX (CL hX hE (as2 hX hE N) iJ) d.eX (λ_=>aoN) BF (full d.fn.ntmps) UO) AO.at_ AO.cd (by rw [xV]) AO.call rfl h;exact aJe hX h1 h2
abbrev gV(l:aq)(j:Nat):AV:=l.getD j .top
abbrev gI(l:aq)(j:Nat):Int:=(l.getD j .top).toI
abbrev gB(l:aq)(j:Nat):Bool:=(l.getD j .top).toB
abbrev gS(l:aq)(j:Nat):ByteArray:=(l.getD j .top).toS
abbrev gR(l:aq)(j:Nat):aE:=(l.getD j .top).rows
abbrev gC(l:aq)(j:Nat):aq:=(l.getD j .top).cells
abbrev iI(n:Int):AV:= .int .i64 n
abbrev aU(n:Int):Int:=IntKind.wrap .i64 n
abbrev ln(xs:aE):Int:=(xs.length:Int)
def ib(i:Int)(n:Nat):Bool:=decide (0<=i)&&decide (i<n)
abbrev gA(xs:aE)(j:Nat):Row:=xs.getD j []
def sT(l:aq):cf->aq
 | []=>l
 |e::es=>sT (l.set e.1 e.2) es
def bO(t:Option UO)(f:Nat->aq->Option R):Option R:=match t with|none=>none|some o=>f o.1 o.2
abbrev YF:=Nat->((R:Type)->List (CE R))->(R:Type)->YT R
def yNo:YF:=λ_ _ _=>Qs
def yU(X:Cx)(fn:Func)(y:YF)(eX:oT)(s p:Nat):YF:=λN cs R=>Pw s (OC X (qZ X N cs fn (y N cs) eX (full fn.ntmps) R) s p) (y N cs R)
def Qz(X:Cx)(E:List FD)(cl:List Cl)(fn:Func)(y:YF)(q:Pc)(eX:oT)(G:Nat->aq->Option UO)(N n:Nat)(l:aq):Option UO:=
 KU X (qZ X N (xu X N E G cl) fn (y N (xu X N E G cl)) eX q.mask UO) (IU (rV fn) q.p) q.p q.m q.bk q.σ q.xs n l
def ctU(X:Cx)(E:List FD)(cl:List Cl)(fn:Func)(y:YF)(q:Pc)(eX:oT)(G:Nat->aq->Option UO)(N:Nat)(l:aq):Option UO:=
 ahv X (qZ X N (xu X N E G cl) fn (y N (xu X N E G cl)) eX q.mask UO) (Yt (rV fn) q.p) q.p q.m q.σ q.xs l
def cI:dV:= .cell (.int .i64)
def cU:dV:= .cell (.int .u8)
def cB:dV:= .cell .bool
def cS(t:TypeId):dV:= .cell (.slice t)
def eI(t:Nat):Nat×Sh:=(t,.one cI)
def eB(t:Nat):Nat×Sh:=(t,.one cB)
def eS(t e:Nat):Nat×Sh:=(t,.one (cS e))
def eO(t j:Nat):Nat×Sh:=(t,.one (.ak j))
def eP(t j:Nat):Nat×Sh:=(t,.one (.ptr j 0 0))
def eA(t:Nat)(h:List dV):Nat×Sh:=(t,.agg h)
def QC:dV->Kind
 | .cell (.slice _)=> .any
 | .cell k=>k
 |_=> .any
def bV(h:List dV):fu:= .var (h.map QC) h
def cK(t c:Nat)(ty:TypeId):Cv:= .yw (λenv _=>(look env t).id) c ty
def xN(σ:af):Ex×List Cv×af:=(.normal,[],σ)
def xR(σ:af):Ex×List Cv×af:=(.ret,[],σ)
def xE(k:Nat)(σ:af):Ex×List Cv×af:=(.exit k,[],σ)
def pP(lp:Bool)(q p m mask:Nat)(σ:af)(xs:List (Ex×List Cv×af)):Pc:=⟨p,lp,m,mask,σ,⟨[],EO q σ⟩,⟨[],match lp with|true=>EO m σ|false=>λ_=>[]⟩,xs.map λx=>⟨x.1,⟨x.2.1,EO m x.2.2⟩,x.2.2⟩⟩
def pJ:=pP false
def pL:=pP true
def ic(c:List Cv)(q:Pc):Pc:={q with en:=⟨c,q.en.bx⟩}
def bkC(c:List Cv)(q:Pc):Pc:={q with bk:=⟨c,q.bk.bx⟩}
def oS(c:List Cv)(f:FuncId)(fn:Func)(na nr m:Nat)(σ o:af)(cl:List Cl)(eX:oT):FD:=⟨f,fn,na,nr,m,σ,[⟨⟨c,EO m o⟩,o⟩],cl,eX⟩
def bE:=oS []
def Fw:Nat->oT->oT
 |0,i=>i
 |k+1,.pc _ i=>Fw k i
 |k+1,.rg _ _ _ _ _ _ i=>Fw k i
 |k+1,.ur _ _ i=>Fw k i
 |k+1,.gh _ i=>Fw k i
 |_,.nil => .nil
def hdI:oT->Pc
 | .pc q _=>q
 |_=>⟨0,false,0,0,⟨[],[]⟩,⟨[],λ_=>[]⟩,⟨[],λ_=>[]⟩,[]⟩
def cG(X:Cx)(E:List FD)(d:FD)(k:Nat):=Qz X E d.calls d.fn yNo (hdI (Fw k d.eX)) (Fw (k+1) d.eX)
def ck(X:Cx)(E:List FD)(d:FD)(k:Nat):=ctU X E d.calls d.fn yNo (hdI (Fw k d.eX)) (Fw (k+1) d.eX)
def z0:Kind->AV
 | .int k=> .int k 0
 | .bool => .bool false
 | .slice t=> .aj t []
 |_=> .top
end
end Go.ah
namespace Go.Proofs.B
open Go Go.ah
set_option maxRecDepth 100000
noncomputable section
noncomputable def aOl:List (Nat×Site):=[(0,afq 13 (rV Tryz.f69) 58)]
noncomputable def tiL:List (Nat×TI):=[0,1,2,3,4,5,9,23,24,29,31,33,34,35,37,39,41,43,46,47,49,52,53,54,55,56,57,58,59,61,63,65,71,72,74,78,81,84,91,92,94,96,97,99,100,102,104,108,110,112,113,116,117,119,121,126,131,132,134,137,140,145,146,148,150,151,153,155,156,159,173,190,202,213,214,216,217,218,226,229,236,237,239,257,260,264,270].map λt=>(t,E9 Tryz.prog t)
def rdL:vg:=[2,3,4,23,33,34,35,37,49,52,53,54,55,56,57,58,59,61,63,71,72,74,78,81,84,104,108,110,132,134,140]
def Ym:Nat->AV:=λg=>match g with|_=> .top
def aNJ:∀g,Ym g= .top ∨(Ym g).pure =true:=λg=>by unfold Ym;split<;>first|exact .inl rfl|exact .inr rfl
def vwL:List (Nat×Nat):=[(15,100),(28,23),(41,145),(44,145),(56,23)]
noncomputable def CX:Cx:=⟨Tryz.prog,y0 tiL,asz aOl,Ym,EX [43,190],true,λd t=>arb vwL d t,none⟩
def hX:CX.Ok:=aPJ aNJ (el:=[43,190]) (by kernel_rfl) (by repeat' first|exact trivial|refine⟨?_,?_⟩|rfl|kernel_rfl) ⟨(by show HZ Tryz.prog _=true;kernel_rfl),(by show HZ Tryz.prog _=true;kernel_rfl),trivial⟩
abbrev tI:Nat:=3
abbrev aox:Nat:=23
abbrev zU:Nat:=41
abbrev alZ:Nat:=43
abbrev Ta:Nat:=61
abbrev Eg:Nat:=63
abbrev Gx:Nat:=65
abbrev NH:Nat:=74
abbrev Eb:Nat:=78
abbrev Cf:Nat:=81
abbrev acs:Nat:=84
abbrev M3:Nat:=94
abbrev ajo:Nat:=96
abbrev JU:Nat:=104
abbrev xw:Nat:=110
abbrev D7:Nat:=116
abbrev Eh:Nat:=134
abbrev ajf:Nat:=137
abbrev abO:Nat:=140
abbrev Ee:Nat:=155
abbrev abN:Nat:=190
abbrev zz0:aq:=[.int .u8 1,iI 0,iI 0,iI 0,iI 0,iI 0,.bool false,.bool false,.bool false,.bool false,.bool false,.int .u8 0,.aj NH ([]),.aj NH ([]),.aj xw ([]),.aj xw ([]),.aj tI ([]),.aj Ta ([]),.aj Cf ([]),.aj Eb ([]),.aj Eh ([])]
abbrev uE:aq:=[.bool false,.bool false,.aj tI ([]),iI 0,iI 0]
abbrev yo:aq:=[.bool false,.bool false,.aj tI ([]),iI 0,iI 1]
abbrev Qi:aq:=[.bool false,.bool false,.aj tI ([]),iI ((-2147483648)),iI 2147483647]
abbrev XA:aq:=[.bool false,.bool false,.aj tI ([]),iI 0,iI 32]
def aak:Nat:=0
def ach:Nat:=1
def NV:Nat:=2
def NL:Nat:=3
def NW:Nat:=4
def JC:Nat:=12
def Nr:Nat:=13
def xA:Nat:=14
def abq:Nat:=15
def JK:Nat:=16
def YN:Nat:=17
def YS:Nat:=18
def aaL:Nat:=19
def Tj:Nat:=20
def ZT:Nat:=21
def aa3:Nat:=22
def aav:Nat:=23
def Ny:Nat:=24
def SB:Nat:=25
def NM:Nat:=26
def M5:Nat:=27
def ab2:Nat:=28
def akU:Nat:=29
def SS:Nat:=30
def abu:Nat:=31
def akT:Nat:=32
def abr:Nat:=33
def akS:Nat:=34
def MQ:Nat:=35
def Gd:Nat:=36
def Gc:Nat:=37
def Gk:Nat:=38
def Su:Nat:=39
def Cj:Nat:=40
def wJ:Nat:=41
def Tt:Nat:=42
def abH:Nat:=43
def NA:Nat:=44
def R7:Nat:=52
def Zm:Nat:=69
def ZW:Nat:=70
def NN:Nat:=71
def wH:Nat:=72
def ajz:Nat:=73
def YO:Nat:=74
def YU:Nat:=75
def abp:Nat:=76
def nS:Nat:=77
def Ti:Nat:=78
def Nj:Nat:=79
def RB:Nat:=80
def aGn:Nat:=81
def aaj:Nat:=82
def Rz:Nat:=83
def aFn:Nat:=84
def YR:Nat:=85
def YM:Nat:=86
def aD8:Nat:=87
def YG:Nat:=88
def aD7:Nat:=89
def YQ:Nat:=90
def aD6:Nat:=91
def Z7:Nat:=92
def S4:Nat:=93
def MW:Nat:=94
def D8:Nat:=95
def D9:Nat:=96
def Js:Nat:=97
def Gn:Nat:=98
def YD:Nat:=99
def YI:Nat:=100
def Z5:Nat:=101
def Ro:Nat:=102
def YK:Nat:=103
def ZU:Nat:=104
def Ea:Nat:=105
def YJ:Nat:=106
def YP:Nat:=107
def aam:Nat:=108
def aaK:Nat:=109
def Nz:Nat:=110
def aid:Nat:=111
def aip:Nat:=112
def aa4:Nat:=113
def MJ:Nat:=114
def AZ:Nat:=115
def MN:Nat:=116
def Sl:Nat:=117
def Jn:Nat:=118
def Gj:Nat:=119
def zV:Nat:=120
def Sm:Nat:=121
def YH:Nat:=122
def YL:Nat:=123
def Z8:Nat:=124
def NX:Nat:=125
def Ss:Nat:=126
def aal:Nat:=127
def Ru:Nat:=128
def ZV:Nat:=129
def MX:Nat:=130
def Jm:Nat:=131
def MR:Nat:=132
def RS:Nat:=133
def GA:Nat:=134
def Si:Nat:=135
def Jd:Nat:=136
def Jc:Nat:=137
def Se:Nat:=138
def YC:Nat:=139
def Rr:Nat:=140
def Z6:Nat:=141
def Sr:Nat:=142
def Cb:Nat:=143
def D5:Nat:=144
def yN:Nat:=145
def abG:Nat:=146
def Gs:Nat:=147
def Yz:Nat:=148
def YE:Nat:=149
def ajQ:Nat:=150
def MC:Nat:=151
def Yv:Nat:=152
def Yw:Nat:=153
def aiy:Nat:=154
def Jf:Nat:=155
def Je:Nat:=156
def RG:Nat:=157
def RW:Nat:=158
def RH:Nat:=159
def RC:Nat:=160
def RR:Nat:=161
def Rk:Nat:=162
def Zh:Nat:=163
def Mn:Nat:=164
def Yy:Nat:=165
def RF:Nat:=166
def Yx:Nat:=167
def YB:Nat:=168
def Zg:Nat:=169
def RD:Nat:=170
def RV:Nat:=171
def Rm:Nat:=172
def Zn:Nat:=173
def JB:Nat:=174
def aci:Nat:=183
def adt:Nat:=184
def Ue:Nat:=185
def abE:Nat:=186
def abZ:Nat:=187
def JO:Nat:=188
def acf:Nat:=189
def Te:Nat:=190
def xX:Nat:=191
def Es:Nat:=192
def TF:Nat:=193
def N5:Nat:=194
def ab0:Nat:=195
def TE:Nat:=196
def TG:Nat:=197
def A1:Nat:=198
def ab1:Nat:=199
def Tf:Nat:=200
def Tr:Nat:=201
def abX:Nat:=202
def Nx:Nat:=203
def A3:Nat:=204
def acg:Nat:=205
def aaI:Nat:=206
def Tg:Nat:=207
def M8:Nat:=208
def abF:Nat:=209
def JA:Nat:=210
def NU:Nat:=211
def xv:Nat:=212
def JJ:Nat:=213
def Gu:Nat:=214
def Jr:Nat:=215
def acz:Nat:=216
def abY:Nat:=217
def Sd:Nat:=218
def M9:Nat:=219
def M4:Nat:=220
def aGm:Nat:=221
def akv:Nat:=222
def amd:Nat:=224
def aHd:Nat:=225
def aHe:Nat:=229
def aHY:Nat:=231
def aD5:Nat:=232
def ace:Nat:=233
def Ni:Nat:=234
def aIG:Nat:=235
def aCi:Nat:=236
def aaJ:Nat:=237
def SA:Nat:=240
def Th:Nat:=244
def fC:List dV:=[.cell (.int .u8),.cell (.int .i64),.cell (.int .i64),.cell (.int .i64),.cell (.int .i64),.cell (.int .i64),.cell .bool,.cell .bool,.cell .bool,.cell .bool,.cell .bool,.cell (.int .u8),.cell (.slice 74),.cell (.slice 74),.cell (.slice 110),.cell (.slice 110),.cell (.slice 3),.cell (.slice 61),.cell (.slice 81),.cell (.slice 78),.cell (.slice 134)]
def abP:List dV:=[.cell (.slice 84),.cell (.int .i64),.cell (.slice 63),.cell (.slice 104)]
def qP:List dV:=[.cell (.int .u8),.cell (.int .u8),.cell (.int .i64),.cell (.int .i64),.cell (.int .i64),.cell (.int .i64),.cell (.int .i64),.cell (.int .i64),.cell (.slice 74)]
def aHQ:List dV:=[.cell (.int .u8),.cell (.int .i64),.cell (.int .i64),.cell (.int .i64),.cell (.int .i64),.cell (.int .i64),.cell .bool,.cell .bool,.cell .bool,.cell .bool,.cell .bool,.cell (.int .u8),.cell (.slice 74),.cell (.slice 74),.cell (.slice 110),.cell (.slice 110),.cell (.slice 3),.cell (.slice 61),.cell (.slice 81),.cell (.slice 78),.cell (.slice 134),.cell (.int .u8),.cell (.int .i64),.cell (.int .i64),.cell (.int .i64),.cell (.int .i64),.cell (.int .i64),.cell .bool,.cell .bool,.cell .bool,.cell .bool,.cell .bool,.cell (.int .u8),.cell (.slice 74),.cell (.slice 74),.cell (.slice 110),.cell (.slice 110),.cell (.slice 3),.cell (.slice 61),.cell (.slice 81),.cell (.slice 78),.cell (.slice 134)]
def NR:List dV:=[.cell (.int .i64),.cell (.int .i64),.cell (.int .i64),.cell .bool,.cell (.slice 3)]
def akQ:List dV:=[.cell (.int .i64),.cell (.int .i64),.cell (.int .i64)]
def Tc:List dV:=[.cell (.int .i64),.cell (.slice 3),.cell (.slice 74)]
def si:List dV:=[.cell (.int .u8),.cell (.int .u8),.cell (.int .i64),.cell (.int .i64),.cell (.int .i64),.cell (.int .i64),.cell (.int .i64),.cell (.int .i64),.cell .any]
def xF:List dV:=[.cell .bool,.cell .bool,.cell .any,.cell (.int .i64),.cell (.int .i64)]
def nc:List dV:=[.cell .bool,.cell .bool,.cell (.slice 3),.cell (.int .i64),.cell (.int .i64)]
def eC:List dV:=[.cell (.slice 84),.cell (.int .i64),.cell (.slice 84),.cell (.int .i64),.cell (.slice 63),.cell (.slice 104),.cell .any,.cell (.int .i64),.cell .any]
def mO:List dV:=[.cell .any,.cell (.int .i64),.cell (.slice 3),.cell (.slice 3),.cell (.slice 3),.cell (.slice 3),.cell (.slice 3),.cell .bool,.cell .bool,.cell .bool,.cell (.int .i64),.cell (.int .i64)]
def py:List dV:=[.cell (.int .u8),.cell (.int .i64),.cell (.int .i64),.cell (.int .i64),.cell (.int .i64),.cell (.int .i64),.cell .bool,.cell .bool,.cell .bool,.cell .bool,.cell .bool,.cell (.int .u8),.cell .any,.cell .any,.cell .any,.cell .any,.cell .any,.cell .any,.cell .any,.cell .any,.cell .any]
def Nw:List dV:=[.cell (.int .u8),.cell (.int .i64),.cell (.int .i64),.cell (.int .i64),.cell (.slice 74)]
def aaH:List dV:=[.cell (.slice 3),.cell (.int .u8),.cell (.int .i64),.cell (.int .i64),.cell (.int .i64),.cell (.int .i64),.cell (.int .i64),.cell .bool,.cell .bool,.cell .bool,.cell .bool,.cell .bool,.cell (.int .u8),.cell (.slice 74),.cell (.slice 74),.cell (.slice 110),.cell (.slice 110),.cell (.slice 3),.cell (.slice 61),.cell (.slice 81),.cell (.slice 78),.cell (.slice 134)]
def Ef:List dV:=[.cell (.int .u8),.cell (.int .u8),.cell (.int .u8),.cell (.int .i64),.cell (.int .i64),.cell (.int .i64),.cell (.int .i64),.cell (.int .i64),.cell (.int .i64),.cell (.slice 74),.cell (.int .i64),.cell (.slice 74),.cell (.int .u8),.cell (.int .i64),.cell (.int .i64),.cell (.int .i64),.cell (.int .i64),.cell (.int .i64),.cell .bool,.cell .bool,.cell .bool,.cell .bool,.cell .bool,.cell (.int .u8),.cell (.slice 74),.cell (.slice 74),.cell (.slice 110),.cell (.slice 110),.cell (.slice 3),.cell (.slice 61),.cell (.slice 81),.cell (.slice 78),.cell (.slice 134),.cell (.int .u8),.cell (.int .i64),.cell (.int .i64),.cell (.int .i64),.cell (.int .i64),.cell (.int .i64),.cell .bool,.cell .bool,.cell .bool,.cell .bool,.cell .bool,.cell (.int .u8),.cell (.slice 74),.cell (.slice 74),.cell (.slice 110),.cell (.slice 110),.cell (.slice 3),.cell (.slice 61),.cell (.slice 81),.cell (.slice 78),.cell (.slice 134)]
def tD:List dV:=[.cell (.int .u8),.cell (.int .i64),.cell (.int .i64),.cell (.int .i64),.cell .any]
def aKr:List dV:=[.cell .any,.cell (.int .i64),.cell (.slice 3),.cell (.slice 3),.cell .any,.cell (.slice 3),.cell (.slice 3),.cell .bool,.cell .bool,.cell .bool,.cell (.int .i64),.cell (.int .i64)]
def aKs:List dV:=[.cell .any,.cell (.int .i64),.cell (.slice 3),.cell (.slice 3),.cell (.slice 3),.cell .any,.cell (.slice 3),.cell .bool,.cell .bool,.cell .bool,.cell (.int .i64),.cell (.int .i64)]
def wI:List dV:=[.cell (.int .u8),.cell (.int .i64),.cell (.int .i64),.cell (.int .i64),.cell (.int .i64),.cell (.int .i64),.cell .bool,.cell .bool,.cell .bool,.cell .bool,.cell .bool,.cell (.int .u8),.cell (.slice 74),.cell (.slice 74),.cell (.slice 110),.cell (.slice 110),.cell (.slice 3),.cell (.slice 61),.cell (.slice 81),.cell (.slice 78),.cell (.slice 134),.cell (.int .i64)]
def ql:List dV:=[.cell (.int .u8),.cell (.int .i64),.cell (.int .i64),.cell (.int .i64),.cell (.int .i64),.cell (.int .i64),.cell .bool,.cell .bool,.cell .bool,.cell .bool,.cell .bool,.cell (.int .u8),.cell (.slice 74),.cell (.slice 74),.cell (.slice 110),.cell (.slice 110),.cell (.slice 3),.cell (.slice 61),.cell (.slice 81),.cell (.slice 78),.cell (.slice 134),.cell (.int .i64),.cell .any,.cell .bool,.cell .bool]
def adj:List dV:=[.cell (.int .u8),.cell (.int .i64),.cell (.int .i64),.cell (.int .i64),.cell (.int .i64),.cell (.int .i64),.cell .bool,.cell .bool,.cell .bool,.cell .bool,.cell .bool,.cell (.int .u8),.cell .any,.cell .any,.cell .any,.cell .any,.cell .any,.cell .any,.cell .any,.cell .any,.cell .any,.cell (.int .i64),.cell .any,.cell .bool,.cell .bool]
def mN:List dV:=[.cell (.slice 84),.cell (.int .i64),.cell (.slice 63),.cell (.slice 104),.cell (.int .i64),.cell (.int .i64),.cell (.int .u8),.cell (.int .i64),.cell (.int .i64),.cell (.int .i64),.cell (.int .i64),.cell (.int .i64),.cell .bool,.cell .bool,.cell .bool,.cell .bool,.cell .bool,.cell (.int .u8),.cell (.slice 74),.cell (.slice 74),.cell (.slice 110),.cell (.slice 110),.cell (.slice 3),.cell (.slice 61),.cell (.slice 81),.cell (.slice 78),.cell (.slice 134),.cell (.int .i64),.cell (.slice 96),.cell .bool,.cell .bool,.cell (.int .u8),.cell (.int .i64),.cell (.int .i64),.cell (.int .i64),.cell (.int .i64),.cell (.int .i64),.cell .bool,.cell .bool,.cell .bool,.cell .bool,.cell .bool,.cell (.int .u8),.cell (.slice 74),.cell (.slice 74),.cell (.slice 110),.cell (.slice 110),.cell (.slice 3),.cell (.slice 61),.cell (.slice 81),.cell (.slice 78),.cell (.slice 134),.cell (.int .i64),.cell (.slice 96),.cell (.int .i64),.cell (.int .i64),.cell (.int .i64),.cell (.int .i64),.cell (.int .i64),.cell (.int .i64),.cell (.int .i64),.cell .any,.cell .any]
def alw:List dV:=[.cell (.int .i64),.cell (.slice 140),.cell (.int .u8),.cell (.int .i64),.cell (.int .i64),.cell (.int .i64),.cell (.int .i64),.cell (.int .i64),.cell .bool,.cell .bool,.cell .bool,.cell .bool,.cell .bool,.cell (.int .u8),.cell (.slice 74),.cell (.slice 74),.cell (.slice 110),.cell (.slice 110),.cell (.slice 3),.cell (.slice 61),.cell (.slice 81),.cell (.slice 78),.cell (.slice 134),.cell (.int .i64)]
def aah:List dV:=[.cell (.slice 84),.cell (.int .i64),.cell (.slice 63),.cell (.slice 104),.cell (.int .i64),.cell (.int .i64),.cell (.int .u8),.cell (.int .i64),.cell (.int .i64),.cell (.int .i64),.cell (.int .i64),.cell (.int .i64),.cell .bool,.cell .bool,.cell .bool,.cell .bool,.cell .bool,.cell (.int .u8),.cell (.slice 74),.cell (.slice 74),.cell (.slice 110),.cell (.slice 110),.cell (.slice 3),.cell (.slice 61),.cell (.slice 81),.cell (.slice 78),.cell (.slice 134),.cell (.int .i64),.cell (.slice 96),.cell .bool,.cell .bool,.cell (.int .u8),.cell (.int .i64),.cell (.int .i64),.cell (.int .i64),.cell (.int .i64),.cell (.int .i64),.cell .bool,.cell .bool,.cell .bool,.cell .bool,.cell .bool,.cell (.int .u8),.cell (.slice 74),.cell (.slice 74),.cell (.slice 110),.cell (.slice 110),.cell (.slice 3),.cell (.slice 61),.cell (.slice 81),.cell (.slice 78),.cell (.slice 134),.cell (.int .i64),.cell (.slice 96),.cell (.int .i64),.cell (.int .i64),.cell (.int .i64),.cell (.int .i64),.cell (.int .i64),.cell (.int .i64),.cell (.int .i64),.cell (.slice 43),.cell (.slice 23)]
def S3:List dV:=[.cell (.int .i64),.cell (.int .i64),.cell (.int .i64),.cell (.int .i64),.cell (.int .i64),.cell (.int .i64),.cell (.slice 43)]
def abC:List dV:=[.cell (.slice 84),.cell (.slice 116),.cell (.int .i64)]
def vP:List dV:=[.cell (.slice 84),.cell (.int .i64),.cell (.slice 63),.cell (.slice 104),.cell (.slice 137),.cell (.int .i64),.cell (.slice 3),.cell (.slice 3),.cell (.slice 3),.cell (.slice 3),.cell (.slice 3),.cell .bool,.cell .bool,.cell .bool,.cell (.int .i64),.cell (.int .i64)]
def aKt:List dV:=[.cell (.slice 84),.cell (.int .i64),.cell (.slice 63),.cell (.slice 104),.cell (.slice 137),.cell (.int .i64),.cell (.slice 3),.cell (.slice 3),.cell (.slice 3),.cell .any,.cell (.slice 3),.cell .bool,.cell .bool,.cell .bool,.cell (.int .i64),.cell (.int .i64)]
def alb:List dV:=[.cell (.int .i64),.cell (.int .i64),.cell (.slice 3)]
end
noncomputable section
def v0:fu:=bV [cU,cI,cI,cI,cI,cI,cB,cB,cB,cB,cB,cU,cS 74,cS 74,cS 110,cS 110,cS 3,cS 61,cS 81,cS 78,cS 134]
def s1:af:=⟨[eP 1 0,eO 3 1,eI 4],[v0,.row 61]⟩
def s2:af:=⟨[eO 3 1],[v0,.row 61]⟩
def aEY:Pc:=pL 0 58 1 536870808 s1 [xE 0 s2]
def s3:af:=⟨[eP 1 0,eO 3 1],[v0,.row 61]⟩
def aFg:Pc:=ic [.mk 3 61] (pJ 0 14 1 536870808 s3 [xN s2])
def s4:af:=⟨[eP 1 0,eO 3 1,eI 5],[v0,.row 61]⟩
def aDH:Pc:=pL 0 250 1 562941363486760 s4 [xE 2 s2]
def aFf:Pc:=pJ 0 62 1 562941363486760 s3 [xN s2]
def s5:af:=⟨[eP 1 0,eO 3 1,eI 6],[v0,.row 61]⟩
def aDG:Pc:=pL 0 506 1 2361182678484869185608 s5 [xE 4 s2]
def h6:List dV:=[cU,cI,cI,cI,cI,cI,cB,cB,cB,cB,cB,cU,cS 74,cS 74,cS 110,cS 110,cS 3,cS 61,cS 81,cS 78,cS 134]
def s7:af:=⟨[eA 0 h6],[]⟩
def s8:af:=⟨[eO 0 0],[.row 61]⟩
def JT:FD:=bE 51 Tryz.f51 1 1 0 s7 s8 [] (.pc aDG<| .pc aFf<| .pc aDH<| .pc aFg<| .pc aEY<| .nil)
def s9:af:=⟨[eI 3,eO 4 0,eI 5],[.row 61]⟩
def s10:af:=⟨[eI 3],[.row 61]⟩
def aEV:Pc:=pL 0 122 1 2096936 s9 [xE 0 s10]
def zy:af:=⟨[eI 0],[]⟩
def ami:FD:=bE 13 Tryz.f13 1 1 0 s7 zy [.fn 2,.fn 3] (.pc aEV<| .nil)
def v12:fu:=bV [cS 84,cI,cS 63,cS 104]
def s13:af:=⟨[eP 1 0,eI 16,eI 17],[v12]⟩
def BS:af:=⟨[eB 2],[v12]⟩
def aF6:Pc:=pL 0 58 1 536739852 s13 [xR BS,xE 0 ⟨[],[v12]⟩]
def yH:List dV:=[cS 84,cI,cS 63,cS 104]
def BR:af:=⟨[eA 0 yH],[]⟩
def eQ:af:=⟨[eB 0],[]⟩
def amj:FD:=bE 10 Tryz.f10 1 1 0 BR eQ [.fn 2] (.pc aF6<| .nil)
def km:List dV:=[cU,cU,cI,cI,cI,cI,cI,cI,cS 74]
def Qq:af:=⟨[eA 0 km],[]⟩
def aKb:FD:=oS [.kO 0 [.raw,.raw,.raw,.raw,.raw,.raw,.raw,.raw,.slice 74]] 29 Tryz.f29 1 1 0 zy Qq [] .nil
def aLv:FD:=oS [.kO 0 [.raw,.raw,.raw,.raw,.raw,.raw,.raw,.raw,.slice 74]] 19 Tryz.f19 1 1 0 zy Qq [] .nil
def s20:af:=⟨[eI 0,eA 1 km],[]⟩
def wD:List dV:=[cU,cI,cI,cI,cI,cI,cB,cB,cB,cB,cB,cU,.ak 0,cS 74,.ak 1,cS 110,cS 3,cS 61,cS 81,cS 78,cS 134]
def s22:af:=⟨[eA 0 wD],[.row 74,.row 110]⟩
def aLs:FD:=oS [.kO 0 [.raw,.raw,.raw,.raw,.raw,.raw,.raw,.raw,.raw,.raw,.raw,.raw,.raw,.slice 74,.raw,.slice 110,.slice 3,.slice 61,.slice 81,.slice 78,.slice 134]] 21 Tryz.f21 2 1 0 s20 s22 [] .nil
def s23:af:=⟨[eS 0 61],[]⟩
def aLt:FD:=oS [.kO 0 [.raw,.raw,.raw,.raw,.raw,.raw,.raw,.raw,.raw,.raw,.raw,.raw,.slice 74,.slice 74,.slice 110,.slice 110,.slice 3,.raw,.slice 81,.slice 78,.slice 134]] 24 Tryz.f24 1 1 0 s23 s7 [] .nil
def aKc:FD:=oS [.kO 0 [.raw,.raw,.raw,.raw,.raw,.raw,.raw,.raw,.raw,.raw,.raw,.raw,.slice 74,.slice 74,.slice 110,.slice 110,.slice 3,.slice 61,.slice 81,.slice 78,.slice 134]] 17 Tryz.f17 0 1 0 ⟨[],[]⟩ s7 [] .nil
def s24:af:=⟨[eA 0 h6,eA 1 h6,eS 2 3],[]⟩
def h25:List dV:=[cU,cI,cI,cI,cI,cI,cB,cB,cB,cB,cB,cU,cS 74,cS 74,cS 110,cS 110,cS 3,.ak 0,cS 81,cS 78,cS 134]
def s26:af:=⟨[eA 0 h25],[.row 61]⟩
def aJD:FD:=oS [.kO 0 [.raw,.raw,.raw,.raw,.raw,.raw,.raw,.raw,.raw,.raw,.raw,.raw,.slice 74,.slice 74,.slice 110,.slice 110,.raw,.raw,.raw,.slice 78,.slice 134],.kO 0 [.raw,.raw,.raw,.raw,.raw,.raw,.raw,.raw,.raw,.raw,.raw,.raw,.slice 74,.slice 74,.slice 110,.slice 110,.raw,.raw,.slice 81,.slice 78,.slice 134]] 49 Tryz.f49 3 1 0 s24 s26 [.fn 10] .nil
def h27:List dV:=[.ak 0,cI,.ak 1,.ak 2]
def s28:af:=⟨[eA 0 h27],[.row 84,.row 63,.row 104]⟩
def aLu:FD:=bE 15 Tryz.f15 0 1 0 ⟨[],[]⟩ s28 [.fn 10,.fn 7,.fn 8,.fc 8 [.kO 1 [.raw,.raw,.raw,.raw,.raw,.raw,.raw,.raw,.slice 74]],.fc 9 [.j5 0 (.slice 61)],.fn 6,.fn 11,.fc 11 [.kO 0 [.raw,.raw,.raw,.raw,.raw,.raw,.raw,.raw,.raw,.raw,.raw,.raw,.slice 74,.raw,.slice 110,.raw,.raw,.raw,.raw,.raw,.raw],.kO 1 [.raw,.raw,.raw,.raw,.raw,.raw,.raw,.raw,.raw,.raw,.raw,.raw,.raw,.slice 74,.slice 110,.slice 110,.slice 3,.raw,.slice 81,.slice 78,.slice 134],.j5 2 (.slice 3)]] .nil
def s29:af:=⟨[eS 0 3,eI 1,eI 2,eS 9 3,eI 10,eI 11],[]⟩
def DA:af:=⟨[eB 6],[]⟩
def aDM:Pc:=pL 0 26 0 274877905344 s29 [xR DA,xE 0 ⟨[],[]⟩]
def XH:af:=⟨[eS 0 3,eI 1,eI 2],[]⟩
def alr:FD:=bE 127 Tryz.f127 3 1 0 XH eQ [] (.pc aDM<| .nil)
def s32:af:=⟨[eI 0,eP 1 0],[bV [cS 84]]⟩
def s33:af:=⟨[eB 0],[bV [cS 84]]⟩
def aFU:FD:=bE 129 Tryz.f129 2 1 1 s32 s33 [] .nil
def s34:af:=⟨[eS 0 3,(1,.one (.cl 129 [(0,0,0)])),eI 7,eI 8],[bV [cS 84]]⟩
def s35:af:=⟨[eI 4],[bV [cS 84]]⟩
def s36:af:=⟨[],[bV [cS 84]]⟩
def axh:Pc:=pL 0 26 1 524080 s34 [xR s35,xE 0 s36]
def s37:af:=⟨[eS 0 3,(1,.one (.cl 129 [(0,0,0)]))],[bV [cS 84]]⟩
def s38:af:=⟨[eI 0],[bV [cS 84]]⟩
def ain:FD:=bE 161 Tryz.f161 2 1 1 s37 s38 [.fn 19] (.pc axh<| .nil)
def axq:FD:=bE 128 Tryz.f128 2 1 1 s37 s33 [.fn 18] .nil
def s39:af:=⟨[eP 1 0],[bV [cS 84]]⟩
def s40:af:=⟨[eB 2],[bV [cS 84]]⟩
def aD2:Pc:=pJ 0 6 1 16324 s39 [xN s36,xR s40]
def yq:fu:=bV [cI,cI,cI,cB,cS 3]
def s42:af:=⟨[eP 5 0],[yq]⟩
def s43:af:=⟨[eB 2],[yq]⟩
def aAT:Pc:=pJ 0 15666 1 267386884 s42 [xN ⟨[],[yq]⟩,xR s43]
def s44:af:=⟨[eP 1 0,eP 5 1],[bV [cS 84],yq]⟩
def s45:af:=⟨[],[bV [cS 84],yq]⟩
def s46:af:=⟨[eB 2],[bV [cS 84],yq]⟩
def aAe:Pc:=pJ 0 125342 2 302231382846063255748612 s44 [xN s45,xR s46]
def s47:af:=⟨[eP 1 0,eI 3,eS 14 84,eI 15,eI 16],[bV [cS 84]]⟩
def s48:af:=⟨[eI 3],[bV [cS 84]]⟩
def aB8:Pc:=pL 0 122 1 9671406556917033397583916 s47 [xR s40,xE 0 s48]
def s49:af:=⟨[eS 0 84],[]⟩
def Ns:FD:=bE 83 Tryz.f83 1 1 0 s49 eQ [.fn 16,.fn 17] (.pc aB8<| .pc aAe<| .pc aAT<| .pc aD2<| .nil)
def XG:af:=⟨[(0,.one (.cell (.int .u64))),(1,.one (.cell (.int .u64)))],[]⟩
def aED:FD:=bE 194 Tryz.f194 2 2 0 XG XG [] .nil
def aGR:FD:=bE 162 Tryz.f162 2 2 0 XG XG [.fn 23] .nil
def s51:af:=⟨[eI 1],[]⟩
def azw:Pc:=pJ 0 6 0 3584 s51 [xN ⟨[],[]⟩]
def s52:af:=⟨[(5,.one (.cell (.int .u64))),(6,.one (.cell (.int .u64)))],[]⟩
def ay4:Pc:=pJ 0 30 0 266338304 s52 [xN ⟨[],[]⟩]
def s53:af:=⟨[eO 7 0,eI 8],[.row 190]⟩
def XE:af:=⟨[],[.row 190]⟩
def ayH:Pc:=pL 0 508 1 140720308486400 s53 [xE 0 XE]
def s55:af:=⟨[eS 0 190,eI 1],[]⟩
def s56:af:=⟨[eO 0 0],[.row 190]⟩
def R9:FD:=bE 130 Tryz.f130 2 1 0 s55 s56 [.fn 22] (.pc ayH<| .pc ay4<| .pc azw<| .nil)
def s57:af:=⟨[eI 1,eI 2,(7,.one (.mpr 0)),eS 11 3,eI 12,eI 13],[.mp (.int .i64) false [.bool]]⟩
def s58:af:=⟨[eB 6],[.mp (.int .i64) false [.bool]]⟩
def s59:af:=⟨[],[.mp (.int .i64) false [.bool]]⟩
def aDJ:Pc:=pL 0 58 1 8589926976 s57 [xR s58,xE 0 s59]
def alq:FD:=bE 131 Tryz.f131 3 1 0 XH eQ [] (.pc aDJ<| .nil)
def s60:af:=⟨[eO 4 0,eI 5,eS 45 3,eI 46,eI 47],[.row 190]⟩
def s61:af:=⟨[eO 2 1,eB 3],[.row 190,.row 190]⟩
def aB7:Pc:=pL 0 29902 1 9223231299366420748 s60 [(.ret,[.mk 2 190],s61),xE 2 XE]
def s62:af:=⟨[eP 1 0,eO 4 1,eS 29 104,eI 30,eI 31],[v12,.row 190]⟩
def Lx:af:=⟨[eO 2 2,eB 3],[v12,.row 190,.row 190]⟩
def Lw:af:=⟨[],[v12,.row 190]⟩
def aEZ:Pc:=pL 0 58 2 18446744071562068332 s62 [(.ret,[.mk 2 190],Lx),xE 0 Lw]
def s65:af:=⟨[eP 1 0,eO 4 1],[v12,.row 190]⟩
def aFj:Pc:=pJ 0 14 2 18446744073441116524 s65 [xN Lw,xR Lx]
def s66:af:=⟨[eP 1 0,eS 14 3],[v12]⟩
def s67:af:=⟨[eO 2 1,eB 3],[v12,.row 190]⟩
def azd:Pc:=pJ 0 1026765618 1 5069364460873632225711913697292 s66 [xN ⟨[],[v12]⟩,(.ret,[.mk 2 190],s67)]
def v68:fu:=bV [cI,cI,cI]
def s69:af:=⟨[eP 1 0,eO 4 1,eI 16,eP 17 2],[v12,.row 190,v68]⟩
def s70:af:=⟨[],[v12,.row 190,v68]⟩
def s71:af:=⟨[eO 2 3,eB 3],[v12,.row 190,v68,.row 190]⟩
def aye:Pc:=pJ 0 1051407994470 3 21778068886791632394242160610385000923148 s69 [xN s70,(.ret,[.mk 2 190],s71)]
def s72:af:=⟨[eP 1 0,eO 4 1,eI 9,eI 11,eS 102 3,eI 103,eI 104],[v12,.row 190]⟩
def ay3:Pc:=pL 0 4107062478 2 696898287433799563569339525596314045972492 s72 [xR Lx,xE 10 Lw]
def s73:af:=⟨[eP 1 0,eO 4 1,eI 9,eI 11,eO 84 2,eI 85,eI 86],[v12,.row 190,.row 23]⟩
def s74:af:=⟨[eO 2 3,eB 3],[v12,.row 190,.row 23,.row 190]⟩
def s75:af:=⟨[],[v12,.row 190,.row 23]⟩
def aAG:Pc:=pL 0 8021606 3 1393796574908163868974729936704255413141516 s73 [xR s74,xE 8 s75]
def s76:af:=⟨[eP 1 0,eO 4 1,eI 9,eS 73 140,eI 74,eI 75],[v12,.row 190]⟩
def aB6:Pc:=pL 0 31334 2 2787593149816327892654185852218088026757132 s76 [xR Lx,xE 6 Lw]
def s77:af:=⟨[eP 1 0,eO 4 1,eS 65 63,eI 66,eI 67],[v12,.row 190]⟩
def aDL:Pc:=pL 0 122 2 5575186299632655785383781994209500700302860 s77 [xR Lx,xE 4 Lw]
def aFi:Pc:=pJ 0 30 2 5575186299632655785383911121418016667164172 s65 [xN Lw,xR Lx]
def s78:af:=⟨[eO 4 0,eS 150 3,eI 151,eI 152],[.row 190]⟩
def aB5:Pc:=pL 0 64102 1 11686304107876399506105245517852466176701931454476 s78 [(.ret,[.mk 2 190],s61),xE 14 XE]
def s79:af:=⟨[eO 4 0,eS 143 84,eI 144,eI 145],[.row 190]⟩
def aDK:Pc:=pL 0 250 1 23383981595804049630012674252023983017771911348236 s79 [xR s61,xE 12 XE]
def s80:af:=⟨[eO 0 0,eB 1],[.row 190]⟩
def xx:FD:=bE 84 Tryz.f84 1 2 0 BR s80 [.fn 16,.fc 21 [.j5 0 (.slice 190)],.fn 24] (.pc aDK<| .pc aB5<| .pc aFi<| .pc aDL<| .pc aB6<| .pc aAG<| .pc ay3<| .pc aye<| .pc azd<| .pc aFj<| .pc aEZ<| .pc aB7<| .nil)
def s81:af:=⟨[eI 1,eP 2 0,eS 23 74,eI 24,eI 25],[bV [cI]]⟩
def s82:af:=⟨[eB 6],[bV [cI]]⟩
def s83:af:=⟨[],[bV [cI]]⟩
def aDI:Pc:=pL 0 122 1 68685922624 s81 [xR s82,xE 0 s83]
def s84:af:=⟨[eA 0 km,eI 1,eP 2 0],[bV [cI]]⟩
def s85:af:=⟨[eB 0],[bV [cI]]⟩
def alR:FD:=bE 132 Tryz.f132 3 1 1 s84 s85 [.fn 26] (.pc aDI<| .nil)
def jf:fu:=bV [cU,cU,cI,cI,cI,cI,cI,cI,cS 74]
def v87:fu:=bV [cU,cU,cI,cI,cI,cI,cI,cI,.ak 2]
def Lv:af:=⟨[eP 0 0,eP 1 1],[jf,v87,.row 74]⟩
def Lu:af:=⟨[],[jf,v87,.row 74]⟩
def aHO:FD:=bE 196 Tryz.f196 2 0 3 Lv Lu [] .nil
def aHN:FD:=bE 197 Tryz.f197 2 0 3 Lv Lu [] .nil
def aHM:FD:=bE 198 Tryz.f198 2 0 3 Lv Lu [] .nil
def aHK:FD:=bE 200 Tryz.f200 2 0 3 Lv Lu [] .nil
def aHL:FD:=bE 199 Tryz.f199 2 0 3 Lv Lu [] .nil
def aHJ:FD:=bE 201 Tryz.f201 2 0 3 Lv Lu [] .nil
noncomputable def aI9:List Cl:=[.fc 29 [cK 1 8 74],.fc 30 [cK 1 8 74],.fn 31,.fc 33 [cK 1 8 74],.fn 32,.fc 34 [cK 1 8 74]]
noncomputable def aC7:oT:= .ur 26 4 oT.nil
noncomputable def aIr:List Cl:= .inl 195 Tryz.f195 aC7::aI9
def s90:af:=⟨[(19,.one (cU))],[]⟩
def s91:af:=⟨[eB 20],[]⟩
def aC3:Pc:=pJ 0 4084 0 15728640 s90 [xN s91]
def s92:af:=⟨[eB 65],[]⟩
def aAU:Pc:=pJ 0 4184062 0 553402322211286548480 s90 [xN s92]
def s93:af:=⟨[eA 0 km,eI 1],[]⟩
def ab6:FD:=oS [.kO 0 [.raw,.raw,.raw,.raw,.raw,.raw,.raw,.raw,.slice 74]] 163 Tryz.f163 1 2 0 Qq s93 aIr (.pc aAU<| .pc aC3<| .nil)
def s94:af:=⟨[eS 0 155],[]⟩
def s95:af:=⟨[eO 0 0],[.row 155]⟩
def aCA:FD:=bE 164 Tryz.f164 1 1 0 s94 s95 [] .nil
def s96:af:=⟨[(0,.one (.jX))],[]⟩
def aAC:FD:=oS [.mk 0 155] 164 Tryz.f164 1 1 0 s96 s95 [] .nil
def s97:af:=⟨[(0,.one (.oh))],[]⟩
def aAB:FD:=bE 164 Tryz.f164 1 1 0 s97 s95 [] .nil
def s98:af:=⟨[eA 0 [cS 84,cI],eI 1,eI 2],[]⟩
def aDx:FD:=bE 165 Tryz.f165 3 1 0 s98 eQ [] .nil
def s99:af:=⟨[eA 0 [cS 84,cI],eI 1,eI 2,eI 3],[]⟩
def aFS:FD:=bE 166 Tryz.f166 4 1 0 s99 eQ [] .nil
def An:List dV:=[cB,cB,cS 3,cI,cI]
def WY:af:=⟨[eA 0 An],[]⟩
def aKg:FD:=oS [.kO 0 [.raw,.raw,.slice 3,.raw,.raw]] 167 Tryz.f167 0 1 0 ⟨[],[]⟩ WY [] .nil
def aEH:FD:=bE 86 Tryz.f86 1 1 0 WY eQ [] .nil
def aJI:FD:=oS [.kO 0 [.raw,.raw,.slice 3,.raw,.raw]] 168 Tryz.f168 0 1 0 ⟨[],[]⟩ WY [] .nil
def n8:fu:=bV [cB,cB,cS 3,cI,cI]
def au5:af:=⟨[eP 4 0,eP 5 1],[n8,n8]⟩
def au4:af:=⟨[eB 8],[n8,n8]⟩
def aFm:Pc:=pJ 0 6 2 130816 au5 [xN au4]
def au3:af:=⟨[(0,.one (cU))],[]⟩
def aXI:af:=⟨[eB 17],[]⟩
def aD4:Pc:=pJ 0 56 0 16646144 au3 [xN aXI]
def au2:af:=⟨[eB 26],[]⟩
def aC4:Pc:=pJ 0 230 0 8522825728 au3 [xN au2]
def au1:af:=⟨[(0,.one (cU)),eA 1 An,eA 2 An],[]⟩
def Fe:af:=⟨[eA 0 An,eB 1],[]⟩
def S6:FD:=oS [.kO 0 [.raw,.raw,.slice 3,.raw,.raw]] 169 Tryz.f169 3 2 0 au1 Fe [.fn 41,.fn 40,.fn 42] (.pc aC4<| .pc aD4<| .pc aFm<| .nil)
def au0:af:=⟨[(0,.one (.cell (.int .u64)))],[]⟩
def aEE:FD:=bE 238 Tryz.f238 1 1 0 au0 zy [] .nil
def aGS:FD:=bE 225 Tryz.f225 1 1 0 au0 zy [.fn 47] .nil
def aXH:af:=⟨[eO 0 0,eI 1,eI 7],[.row 3]⟩
def Al:af:=⟨[],[.row 3]⟩
def axm:Pc:=pL 1 402 1 562949953355904 aXH [xE 2 Al]
def aXG:af:=⟨[eO 0 0,eI 1,eI 2,eI 6],[.row 3]⟩
def axv:Pc:=pL 1 6 1 562949953420480 aXG [xE 0 Al]
def aXF:af:=⟨[eO 0 0,eI 1,eI 2],[.row 3]⟩
def axA:FD:=bE 228 Tryz.f228 3 0 1 aXF Al [.fn 50] (.pc axv<| .pc axm<| .nil)
def aXE:af:=⟨[eO 0 0,eI 1,eI 2,eI 3,eB 8],[.row 3]⟩
def auZ:af:=⟨[eI 3],[.row 3]⟩
def axB:Pc:=pJ 1 910 1 4380866641928 aXE [xN auZ]
def aXD:af:=⟨[eO 0 0,eI 1,eI 2,eI 11,eI 12],[.row 3]⟩
def aXC:af:=⟨[eI 11,eI 12],[.row 3]⟩
def axz:Pc:=pJ 1 3646 1 2305280059260278784 aXD [xN aXC]
def aXB:af:=⟨[eB 8,eB 9,eI 12],[.row 3]⟩
def aXA:af:=⟨[eB 68],[.row 3]⟩
def axx:Pc:=pJ 1 14588 1 587989967349491957760 aXB [xN aXA]
def aXz:af:=⟨[eO 0 0,eI 1,eI 2,eB 8,eB 9,eI 12],[.row 3]⟩
def axy:Pc:=pJ 1 7294 1 9442427122730076733440 aXz [xN Al,xR Al]
def aXy:af:=⟨[eO 0 0,eI 1,eI 2,eI 11],[.row 3]⟩
def auY:af:=⟨[eI 1],[.row 3]⟩
def axw:Pc:=pJ 1 14590 1 19807031183833118659095568386 aXy [xN auY,xE 1 auY]
def aXx:af:=⟨[eO 0 0,eI 1,eI 2,eI 3,eB 8,eB 9],[.row 3]⟩
def axC:Pc:=pL 1 14 1 21778071482940061661655974875633165532942 aXx [xR Al]
def aXw:af:=⟨[eO 0 0,eI 1,eI 2,eI 3],[.row 3]⟩
def axO:FD:=bE 224 Tryz.f224 4 0 1 aXw Al [.fn 53,.fn 54,.fn 55,.fn 57,.fn 60,.fn 64,.fn 65,.fn 50,.fn 66,.fn 67] (.pc axC<| .pc axw<| .pc axy<| .pc axx<| .pc axz<| .pc axB<| .nil)
def Le:af:=⟨[eO 0 0],[.row 3]⟩
def R8:FD:=bE 202 Tryz.f202 1 0 1 Le Al [.Fy 202 3,.fn 53,.fn 46] .nil
def aXv:af:=⟨[eO 0 0,eI 3,(4,.one (.vw 0)),eI 5],[.row 3]⟩
def axG:Pc:=pL 1 59690 1 18014397972611112 aXv [xE 2 auZ]
def aXu:af:=⟨[eO 0 0,eI 3],[.row 3]⟩
def aXt:af:=⟨[eO 2 1],[.gone,.row 3]⟩
def ax5:Pc:=pL 1 58 1 1152921504606846012 aXu [xR aXt,xE 0 Al]
def aXs:af:=⟨[eO 0 1],[.gone,.row 3]⟩
def Zo:FD:=oS [.mov 0] 203 Tryz.f203 1 1 1 Le aXs [] (.pc ax5<| .pc axG<| .nil)
def v131:fu:=bV [cB,cB,.ak 3,cI,cI]
def aXr:af:=⟨[eP 2 0,eP 3 1,eP 4 2],[n8,n8,v131,.row 3]⟩
def aXq:af:=⟨[],[n8,n8,v131,.row 3]⟩
def aXp:af:=⟨[eB 5],[n8,n8,v131,.row 3]⟩
def aFl:Pc:=ic [cK 4 2 3] (pJ 0 6 3 268434976 aXr [xN aXq,(.ret,[.yw (λenv M=>2) 2 3],aXp)])
def zh:fu:=bV [cB,cB,.ak 4,cI,cI]
def aXo:af:=⟨[eP 4 0,eP 6 1,eO 31 2,eI 32,eI 33],[v131,zh,.row 155,.row 3,.row 3]⟩
def aXn:af:=⟨[eB 5],[v131,zh,.row 155,.row 3,.row 3]⟩
def aXm:af:=⟨[],[v131,zh,.row 155,.row 3,.row 3]⟩
def aCP:Pc:=ic [cK 6 2 3] (pL 0 122 3 36028788429029664 aXo [(.ret,[.yw (λenv M=>0) 2 3],aXn),xE 0 aXm])
def auX:af:=⟨[eA 0 An,eA 1 An],[]⟩
def aZr:List dV:=[cB,cB,.ak 0,cI,cI]
def agS:af:=⟨[eA 0 aZr,eB 1],[.row 3]⟩
def abK:FD:=bE 170 Tryz.f170 2 2 0 auX agS [.fn 52,.fn 69] (.pc aCP<| .pc aFl<| .nil)
def Bv:fu:=bV [cB,cB,.ak 2,cI,cI]
def auW:af:=⟨[eP 3 0,eP 4 1],[n8,Bv,.row 3]⟩
def agR:af:=⟨[],[n8,Bv,.row 3]⟩
def auV:af:=⟨[eB 5],[n8,Bv,.row 3]⟩
def azD:Pc:=ic [cK 4 2 3] (pJ 0 6 2 523296 auW [xN agR,(.ret,[.yw (λenv M=>1) 2 3],auV)])
def v146:fu:=bV [cS 84,cI]
def aXl:af:=⟨[eP 2 0,eP 6 1,eS 20 3,eI 21,eI 22],[v146,Bv,.row 3]⟩
def aXk:af:=⟨[],[v146,Bv,.row 3]⟩
def ayL:Pc:=bkC [.yw (λenv M=>1) 2 3] (ic [cK 6 2 3] (pL 0 122 2 4503599623177088 aXl [xE 0 aXk]))
def aXj:af:=⟨[eA 0 [cS 84,cI],eA 1 An],[]⟩
def ZY:FD:=bE 171 Tryz.f171 2 2 0 aXj agS [] (.pc ayL<| .pc azD<| .nil)
def aXi:af:=⟨[eP 4 0,eP 6 1,eP 8 2,eI 9],[jf,v131,jf,.row 3]⟩
def aXh:af:=⟨[],[jf,v131,jf,.row 3]⟩
def aXg:af:=⟨[eB 7],[jf,v131,jf,.row 3]⟩
def aAS:Pc:=ic [cK 6 2 3] (pJ 0 14 3 1208925819614629141151872 aXi [xN aXh,(.ret,[.yw (λenv M=>1) 2 3],aXg)])
def aXf:af:=⟨[eS 2 155,eP 4 0,eO 10 1,eI 11,eS 13 155],[jf,.row 155]⟩
def aXe:af:=⟨[eS 13 155],[jf,.row 155]⟩
def azc:Pc:=pJ 0 64102 2 10140585831806192521836176089088 aXf [(.normal,[.j5 13 (.slice 155)],aXe)]
def aXd:af:=⟨[eS 2 155,eP 3 0,eP 4 1,eP 6 2,eO 10 3,eS 81 74,eI 82,eI 83],[v146,jf,zh,.row 155,.row 3]⟩
def auU:af:=⟨[eB 7],[v146,jf,v131,.row 3]⟩
def auT:af:=⟨[eO 10 3],[v146,jf,zh,.row 155,.row 3]⟩
def azZ:Pc:=pL 0 250 3 332306998936557561669034731672501376 aXd [(.ret,[.yw (λenv M=>2) 2 3],auU),xE 0 auT]
def aXc:af:=⟨[eS 2 155,eP 3 0,eP 4 1,eP 6 2,eO 10 3],[v146,jf,zh,.row 155,.row 3]⟩
def aAR:Pc:=ic [.mk 10 155] (pJ 0 62 3 332306998945020042406337135895444608 aXc [xN auT,xR auU])
def aXb:af:=⟨[(119,.one (cU))],[]⟩
def aXa:af:=⟨[eB 235],[]⟩
def ayw:Pc:=pJ 0 1038334 0 386497795420271572096346328287513425337262102441541647089101356532760576 aXb [xN aXa]
def aW9:af:=⟨[eA 0 [cS 84,cI],eA 1 km,eS 2 155],[]⟩
def Ju:FD:=oS [.kO 0 [.raw,.raw,.slice 3,.raw,.raw]] 133 Tryz.f133 3 2 0 aW9 Fe [.fn 41,.fn 27,.fn 28,.Xa 155 35 36 37,.fn 38,.fn 39,.fn 40,.fn 42,.fn 43,.fn 44,.fn 70] (.pc ayw<| .pc aAR<| .pc azZ<| .pc azc<| .pc aAS<| .nil)
def aW8:af:=⟨[eA 0 [cS 84,cI],eA 1 km],[]⟩
def aGU:FD:=oS [.kO 0 [.raw,.raw,.slice 3,.raw,.raw]] 85 Tryz.f85 2 2 0 aW8 Fe [.fn 26,.ag0 27 [(2,155)]] .nil
def aW7:af:=⟨[eS 0 3,eI 1,eI 7,eI 8],[]⟩
def auS:af:=⟨[eI 4],[]⟩
def azR:Pc:=pL 0 26 0 524080 aW7 [xR auS,xE 0 ⟨[],[]⟩]
def WX:af:=⟨[eS 0 3,eI 1],[]⟩
def ajJ:FD:=bE 150 Tryz.f150 2 1 0 WX zy [] (.pc azR<| .nil)
def aA9:FD:=bE 103 Tryz.f103 2 1 0 WX eQ [.fn 73] .nil
def aW6:af:=⟨[eA 0 km,eP 1 0,eP 2 1],[bV [cS 84],bV [cS 3]]⟩
def auR:af:=⟨[eB 0],[bV [cS 84],bV [cS 3]]⟩
def aHI:FD:=bE 134 Tryz.f134 3 1 2 aW6 auR [.fn 71] .nil
def aW5:af:=⟨[eS 0 74,(1,.one (.cl 134 [(0,0,0),(1,0,0)])),eI 7,eI 8],[bV [cS 84],bV [cS 3]]⟩
def aW4:af:=⟨[eI 4],[bV [cS 84],bV [cS 3]]⟩
def aW3:af:=⟨[],[bV [cS 84],bV [cS 3]]⟩
def axi:Pc:=pL 0 26 2 524080 aW5 [xR aW4,xE 0 aW3]
def auQ:af:=⟨[eS 0 74,(1,.one (.cl 134 [(0,0,0),(1,0,0)]))],[bV [cS 84],bV [cS 3]]⟩
def aW2:af:=⟨[eI 0],[bV [cS 84],bV [cS 3]]⟩
def aio:FD:=bE 147 Tryz.f147 2 1 2 auQ aW2 [.fn 76] (.pc axi<| .nil)
def axr:FD:=bE 92 Tryz.f92 2 1 2 auQ auR [.fn 75] .nil
def WW:af:=⟨[(9,.one (cU))],[]⟩
def agQ:af:=⟨[eB 10],[]⟩
def aD1:Pc:=pJ 0 116 0 31744 WW [xN agQ]
def aW1:af:=⟨[eP 3 0,eP 4 1,eP 5 2,eB 7],[bV [cS 84],bV [cS 3],jf]⟩
def aW0:af:=⟨[eB 7],[bV [cS 84],bV [cS 3],jf]⟩
def aFk:Pc:=pJ 0 14 3 35184372088704 aW1 [xN aW0]
def auP:af:=⟨[eS 0 84,eS 1 3,eA 2 km],[]⟩
def ab5:FD:=bE 87 Tryz.f87 3 1 0 auP eQ [.fn 74,.fn 72] (.pc aFk<| .pc aD1<| .nil)
def auO:af:=⟨[eA 0 km,eA 1 km],[]⟩
def aGV:FD:=bE 205 Tryz.f205 2 1 0 auO eQ [.fn 80] .nil
def aWZ:af:=⟨[eS 1 74,(2,.one (.fn 205)),eS 15 74,eI 16,eI 17],[]⟩
def axc:Pc:=pL 0 58 0 4294837184 aWZ [xR DA,xE 0 ⟨[],[]⟩]
def aWY:af:=⟨[eS 0 74,eS 1 74,(2,.one (.fn 205))],[]⟩
def ail:FD:=bE 204 Tryz.f204 3 1 0 aWY eQ [.fn 81] (.pc axc<| .nil)
def aWX:af:=⟨[eS 0 3,eS 1 3,eI 12,eI 13],[]⟩
def Ak:af:=⟨[eB 4],[]⟩
def azS:Pc:=pL 0 58 0 67100720 aWX [xR Ak,xE 0 ⟨[],[]⟩]
def WV:af:=⟨[eS 0 3,eS 1 3],[]⟩
def ajK:FD:=bE 206 Tryz.f206 2 1 0 WV eQ [] (.pc azS<| .nil)
def Lo:List dV:=[cU,cI,cI,cI,cS 74]
def aWW:af:=⟨[eA 0 Lo,eA 1 Lo],[]⟩
def aFT:FD:=bE 208 Tryz.f208 2 1 0 aWW eQ [.fn 80] .nil
def aWV:af:=⟨[eS 1 110,(2,.one (.fn 208)),eS 15 110,eI 16,eI 17],[]⟩
def aw4:Pc:=pL 0 58 0 4294837184 aWV [xR DA,xE 0 ⟨[],[]⟩]
def aWU:af:=⟨[eS 0 110,eS 1 110,(2,.one (.fn 208))],[]⟩
def aif:FD:=bE 207 Tryz.f207 3 1 0 aWU eQ [.fn 84] (.pc aw4<| .nil)
def aWT:af:=⟨[eS 1 61,(2,.one (.fn 172)),eS 15 61,eI 16,eI 17],[]⟩
def axb:Pc:=pL 0 58 0 4294837184 aWT [xR DA,xE 0 ⟨[],[]⟩]
def aWS:af:=⟨[eS 0 61,eS 1 61,(2,.one (.fn 172))],[]⟩
def aik:FD:=bE 209 Tryz.f209 3 1 0 aWS eQ [.fn 79] (.pc axb<| .nil)
def av4:List dV:=[cU,cI,cI,cI,cI,cI,cB,cB,cB,cB,cB,cU,cS 74,cS 74,cS 110,cS 110,cS 3,cS 61,cS 81,cS 78,cS 134,cU,cI,cI,cI,cI,cI,cB,cB,cB,cB,cB,cU,cS 74,cS 74,cS 110,cS 110,cS 3,cS 61,cS 81,cS 78,cS 134]
def aWR:af:=⟨[eA 0 av4,eA 1 av4],[]⟩
def aEK:FD:=bE 210 Tryz.f210 2 1 0 aWR eQ [.fn 79] .nil
def aWQ:af:=⟨[eS 1 81,(2,.one (.fn 210)),eS 15 81,eI 16,eI 17],[]⟩
def awY:Pc:=pL 0 58 0 4294837184 aWQ [xR DA,xE 0 ⟨[],[]⟩]
def aWP:af:=⟨[eS 0 81,eS 1 81,(2,.one (.fn 210))],[]⟩
def aic:FD:=bE 213 Tryz.f213 3 1 0 aWP eQ [.fn 87] (.pc awY<| .nil)
def av3:List dV:=[cS 3,cU,cI,cI,cI,cI,cI,cB,cB,cB,cB,cB,cU,cS 74,cS 74,cS 110,cS 110,cS 3,cS 61,cS 81,cS 78,cS 134]
def aWO:af:=⟨[eA 0 av3,eA 1 av3],[]⟩
def aEJ:FD:=bE 211 Tryz.f211 2 1 0 aWO eQ [.fn 79,.fn 82] .nil
def aWN:af:=⟨[eS 1 78,(2,.one (.fn 211)),eS 15 78,eI 16,eI 17],[]⟩
def awJ:Pc:=pL 0 58 0 4294837184 aWN [xR DA,xE 0 ⟨[],[]⟩]
def aWM:af:=⟨[eS 0 78,eS 1 78,(2,.one (.fn 211))],[]⟩
def ahZ:FD:=bE 214 Tryz.f214 3 1 0 aWM eQ [.fn 89] (.pc awJ<| .nil)
def ahp:List dV:=[cU,cU,cU,cI,cI,cI,cI,cI,cI,cS 74,cI,cS 74,cU,cI,cI,cI,cI,cI,cB,cB,cB,cB,cB,cU,cS 74,cS 74,cS 110,cS 110,cS 3,cS 61,cS 81,cS 78,cS 134,cU,cI,cI,cI,cI,cI,cB,cB,cB,cB,cB,cU,cS 74,cS 74,cS 110,cS 110,cS 3,cS 61,cS 81,cS 78,cS 134]
def aWL:af:=⟨[eA 0 ahp,eA 1 ahp],[]⟩
def aEI:FD:=bE 212 Tryz.f212 2 1 0 aWL eQ [.fn 79,.fn 80,.fn 81] .nil
def aWK:af:=⟨[eS 1 134,(2,.one (.fn 212)),eS 15 134,eI 16,eI 17],[]⟩
def aw5:Pc:=pL 0 58 0 4294837184 aWK [xR DA,xE 0 ⟨[],[]⟩]
def aWJ:af:=⟨[eS 0 134,eS 1 134,(2,.one (.fn 212))],[]⟩
def aih:FD:=bE 215 Tryz.f215 3 1 0 aWJ eQ [.fn 91] (.pc aw5<| .nil)
def Dk:af:=⟨[eP 2 0,eP 3 1],[v0,v0]⟩
def aWI:af:=⟨[eB 8],[v0,v0]⟩
def aCh:Pc:=pJ 0 24 2 72057594037927680 Dk [xN aWI]
def aWH:af:=⟨[eB 56],[v0,v0]⟩
def aBB:Pc:=pJ 0 102 2 1237940039213322680861196288 Dk [xN aWH]
def aWG:af:=⟨[eB 90],[v0,v0]⟩
def aBA:Pc:=pJ 0 414 2 10384592479129615971680717759315968 Dk [xN aWG]
def Dj:af:=⟨[],[v0,v0]⟩
def Di:af:=⟨[eB 4],[v0,v0]⟩
def aC5:Pc:=pJ 0 6 2 87112285931760246646623899502532662132496 Dk [xN Dj,xR Di]
def auN:af:=⟨[eA 0 h6,eA 1 h6],[]⟩
def Nl:FD:=bE 172 Tryz.f172 2 1 0 auN eQ [.fn 80,.fn 82,.fn 83,.fn 85,.fn 86,.fn 88,.fn 90] (.pc aC5<| .pc aBA<| .pc aBB<| .pc aCh<| .nil)
def auM:af:=⟨[(24,.one (cU))],[]⟩
def aWF:af:=⟨[eB 51],[]⟩
def aAd:Pc:=pJ 0 33390590 0 15762598695796736 auM [xN aWF]
def aWE:af:=⟨[eB 63],[]⟩
def azb:Pc:=pJ 0 2136997886 0 64563604257983430656 auM [xN aWE]
def v212:fu:=bV [cU,cI,cI,cI,cI,cI,cB,cB,cB,cB,cB,cU,.ak 3,.ak 4,.ak 5,.ak 6,.ak 7,.ak 8,.ak 9,.ak 10,.ak 11]
def aWD:af:=⟨[eP 1 0,eP 4 1,eI 5,eI 6,eI 7,(8,.one (.mpr 2))],[v0,v212,.mp (.str) false [.bool],.row 74,.row 74,.row 110,.row 110,.row 3,.row 61,.row 81,.row 78,.row 134]⟩
def aWC:af:=⟨[eI 5,eI 6,eI 7],[v0,v212,.mp (.str) false [.bool],.row 74,.row 74,.row 110,.row 110,.row 3,.row 61,.row 81,.row 78,.row 134]⟩
def aWB:af:=⟨[eB 2],[v0,v212,.mp (.str) false [.bool],.row 74,.row 74,.row 110,.row 110,.row 3,.row 61,.row 81,.row 78,.row 134]⟩
def aD0:Pc:=ic [cK 4 12 74,cK 4 13 74,cK 4 14 110,cK 4 15 110,cK 4 16 3,cK 4 17 61,cK 4 18 81,cK 4 19 78,cK 4 20 134] (pJ 0 254 3 11150372599265311570767859136324180744601828 aWD [xN aWC,xR aWB])
def agr:fu:=bV [cU,cI,cI,cI,cI,cI,cB,cB,cB,cB,cB,cU,.ak 12,.ak 13,.ak 14,.ak 15,.ak 16,.ak 17,.ak 18,.ak 19,.ak 20]
def aWA:af:=⟨[eP 1 0,eP 3 1,eP 4 2,eI 5,eI 6,eI 7],[v0,v212,agr,.row 74,.row 74,.row 110,.row 110,.row 3,.row 61,.row 81,.row 78,.row 134,.row 74,.row 74,.row 110,.row 110,.row 3,.row 61,.row 81,.row 78,.row 134]⟩
def aWz:af:=⟨[],[v0,v212,agr,.fx 74,.fx 74,.fx 110,.fx 110,.fx 3,.fx 61,.fx 81,.fx 78,.fx 134,.fx 74,.fx 74,.fx 110,.fx 110,.fx 3,.fx 61,.fx 81,.fx 78,.fx 134]⟩
def aWy:af:=⟨[eB 2],[v0,v212,agr,.fx 74,.fx 74,.fx 110,.fx 110,.fx 3,.fx 61,.fx 81,.fx 78,.fx 134,.fx 74,.fx 74,.fx 110,.fx 110,.fx 3,.fx 61,.fx 81,.fx 78,.fx 134]⟩
def aDZ:Pc:=ic [cK 3 12 74,cK 3 13 74,cK 3 14 110,cK 3 15 110,cK 3 16 3,cK 3 17 61,cK 3 18 81,cK 3 19 78,cK 3 20 134] (pJ 0 510 3 374144408006338547794831746407509316707737978011652 aWA [xN aWz,xR aWy])
def NP:FD:=bE 135 Tryz.f135 1 1 0 s7 eQ [.fc 79 [.kO 0 [.raw,.raw,.raw,.raw,.raw,.raw,.raw,.raw,.raw,.raw,.raw,.raw,.slice 74,.slice 74,.slice 110,.slice 110,.slice 3,.slice 61,.slice 81,.slice 78,.slice 134],.kO 1 [.raw,.raw,.raw,.raw,.raw,.raw,.raw,.raw,.raw,.raw,.raw,.raw,.slice 74,.slice 74,.slice 110,.slice 110,.slice 3,.slice 61,.slice 81,.slice 78,.slice 134]]] (.pc aDZ<| .pc aD0<| .pc azb<| .pc aAd<| .nil)
def aWx:af:=⟨[(4,.one (cU))],[]⟩
def aWw:af:=⟨[eB 5],[]⟩
def aD3:Pc:=pJ 0 52 0 32736 aWx [xN aWw]
def als:FD:=bE 173 Tryz.f173 1 1 0 s7 eQ [] (.pc aD3<| .nil)
def v222:fu:=bV [cS 84,cI,cS 84,cI,cS 63,cS 104,.ak 1,cI,.mpr 2]
def jl:fu:=bV [.ptr 0 0 0,cI,cS 3,cS 3,cS 3,cS 3,cS 3,cB,cB,cB,cI,cI]
def Dh:af:=⟨[eP 2 3,eP 3 4],[v222,.row 190,.mp (.int .i64) false [.int .i64],jl,v0]⟩
def Dg:af:=⟨[],[v222,.row 190,.mp (.int .i64) false [.int .i64],jl,v0]⟩
def Fc:af:=⟨[eB 4],[v222,.row 190,.mp (.int .i64) false [.int .i64],jl,v0]⟩
def az8:Pc:=pJ 3 6 5 8176 Dh [xN Dg,xR Fc]
def aWv:af:=⟨[(14,.one (cU))],[v222,.row 190,.mp (.int .i64) false [.int .i64]]⟩
def aWu:af:=⟨[eB 15],[v222,.row 190,.mp (.int .i64) false [.int .i64]]⟩
def ay8:Pc:=pJ 3 116 3 491520 aWv [xN aWu]
def azA:Pc:=pJ 3 14 5 1073733648 Dh [xN Dg,xR Fc]
def HW:List dV:=[.ptr 0 0 0,cI,cS 3,cS 3,cS 3,cS 3,cS 3,cB,cB,cB,cI,cI]
def Fb:af:=⟨[eA 0 HW,eA 1 h6],[v222,.row 190,.mp (.int .i64) false [.int .i64]]⟩
def uy:af:=⟨[eB 0],[v222,.row 190,.mp (.int .i64) false [.int .i64]]⟩
def Sf:FD:=bE 136 Tryz.f136 2 1 3 Fb uy [.fn 93] (.pc azA<| .pc ay8<| .pc az8<| .nil)
def WU:af:=⟨[eA 0 HW,eI 1],[v222,.row 190,.mp (.int .i64) false [.int .i64]]⟩
def aFP:FD:=bE 177 Tryz.f177 2 1 3 WU uy [.fn 72] .nil
def v233:fu:=bV [.ptr 1 0 0,cI,cS 3,cS 3,cS 3,cS 3,cS 3,cB,cB,cB,cI,cI]
def v234:fu:=bV [cS 84,cI,cS 84,cI,cS 63,cS 104,.ak 2,cI,.mpr 3]
def aWt:af:=⟨[eA 0 km,eP 1 0],[v233,v234,.row 190,.mp (.int .i64) false [.int .i64]]⟩
def Fa:af:=⟨[eB 0],[v233,v234,.row 190,.mp (.int .i64) false [.int .i64]]⟩
def aCD:FD:=bE 239 Tryz.f239 2 1 4 aWt Fa [.fn 97] .nil
def aWs:af:=⟨[eS 0 74,(1,.one (.cl 239 [(0,0,0)])),eI 7,eI 8],[v233,v234,.row 190,.mp (.int .i64) false [.int .i64]]⟩
def agP:af:=⟨[eI 4],[v233,v234,.row 190,.mp (.int .i64) false [.int .i64]]⟩
def WT:af:=⟨[],[v233,v234,.row 190,.mp (.int .i64) false [.int .i64]]⟩
def awO:Pc:=pL 4 26 4 524080 aWs [xR agP,xE 0 WT]
def auL:af:=⟨[eS 0 74,(1,.one (.cl 239 [(0,0,0)]))],[v233,v234,.row 190,.mp (.int .i64) false [.int .i64]]⟩
def agO:af:=⟨[eI 0],[v233,v234,.row 190,.mp (.int .i64) false [.int .i64]]⟩
def ah2:FD:=bE 147 Tryz.f147 2 1 4 auL agO [.fn 101] (.pc awO<| .nil)
def awW:FD:=bE 92 Tryz.f92 2 1 4 auL Fa [.fn 100] .nil
def aWr:af:=⟨[eP 2 3,eP 3 4],[v222,.row 190,.mp (.int .i64) false [.int .i64],jl,jf]⟩
def aWq:af:=⟨[],[v222,.row 190,.mp (.int .i64) false [.int .i64],jl,jf]⟩
def aWp:af:=⟨[eB 4],[v222,.row 190,.mp (.int .i64) false [.int .i64],jl,jf]⟩
def aBy:Pc:=pJ 3 6 5 268435440 aWr [xN aWq,xR aWp]
def WS:af:=⟨[eA 0 HW,eA 1 km],[v222,.row 190,.mp (.int .i64) false [.int .i64]]⟩
def aj5:FD:=bE 226 Tryz.f226 2 1 3 WS uy [.fn 99,.fn 98] (.pc aBy<| .nil)
def aWo:af:=⟨[eA 0 An,eB 1],[v222,.row 190,.mp (.int .i64) false [.int .i64]]⟩
def aEF:FD:=bE 216 Tryz.f216 2 2 3 WS aWo [.fn 25,.fn 97] .nil
def aWn:af:=⟨[eI 0,eP 1 0],[v233,v234,.row 190,.mp (.int .i64) false [.int .i64]]⟩
def aBT:FD:=bE 217 Tryz.f217 2 1 4 aWn Fa [.fn 72] .nil
def aWm:af:=⟨[eS 0 3,(1,.one (.cl 217 [(0,0,0)])),eI 7,eI 8],[v233,v234,.row 190,.mp (.int .i64) false [.int .i64]]⟩
def awS:Pc:=pL 4 26 4 524080 aWm [xR agP,xE 0 WT]
def auK:af:=⟨[eS 0 3,(1,.one (.cl 217 [(0,0,0)]))],[v233,v234,.row 190,.mp (.int .i64) false [.int .i64]]⟩
def ah6:FD:=bE 161 Tryz.f161 2 1 4 auK agO [.fn 104] (.pc awS<| .nil)
def aw2:FD:=bE 128 Tryz.f128 2 1 4 auK Fa [.fn 103] .nil
def tL:fu:=bV [cU,cI,cI,cI,cS 74]
def agq:fu:=bV [cU,cI,cI,cI,.ak 5]
def auJ:af:=⟨[eP 3 3,eP 6 4,eI 7],[v222,.row 190,.mp (.int .i64) false [.int .i64],tL,agq,.row 74]⟩
def aWl:af:=⟨[eI 7],[v222,.row 190,.mp (.int .i64) false [.int .i64],tL,agq,.row 74]⟩
def aQb:fu:=bV [cU,cI,cI,cI,.ak 6]
def auI:af:=⟨[eO 4 5,eB 5],[v222,.row 190,.mp (.int .i64) false [.int .i64],tL,aQb,.row 3,.row 74]⟩
def aAa:Pc:=ic [cK 6 4 74] (pJ 3 30 5 137438937264 auJ [xN aWl,(.ret,[.mk 4 3],auI)])
def aWk:af:=⟨[],[v222,.row 190,.mp (.int .i64) false [.int .i64],tL,agq,.row 74]⟩
def az9:Pc:=pJ 3 62 5 9223371899415822384 auJ [xN aWk,(.ret,[.mk 4 3],auI)]
def aQa:fu:=bV [cB,cB,.ak 6,cI,cI]
def aWj:af:=⟨[eP 2 3,eP 3 4,eI 7,eP 8 5],[v222,.row 190,.mp (.int .i64) false [.int .i64],jl,tL,aQa,.row 3]⟩
def auH:af:=⟨[],[v222,.row 190,.mp (.int .i64) false [.int .i64],jl,tL,n8]⟩
def agN:af:=⟨[eO 4 6,eB 5],[v222,.row 190,.mp (.int .i64) false [.int .i64],jl,tL,n8,.row 3]⟩
def azB:Pc:=ic [cK 8 2 3] (pJ 3 254 6 75548640353877468643888 aWj [(.normal,[.wg (λenv M=>5) 2 3],auH),(.ret,[.mk 4 3],agN)])
def auG:af:=⟨[eP 2 3,eP 3 4,eP 8 5],[v222,.row 190,.mp (.int .i64) false [.int .i64],jl,tL,n8]⟩
def ayv:Pc:=pJ 3 130908 6 174224561478926776223592541944072665825328 auG [xN auH,(.ret,[.mk 4 3],agN)]
def aWi:af:=⟨[eS 10 3],[v222,.row 190,.mp (.int .i64) false [.int .i64],jl,tL,n8]⟩
def ay9:Pc:=pJ 3 1022 6 1393796574908163946270424528314608270705712 auG [(.normal,[.j5 10 (.slice 3)],aWi),(.ret,[.mk 4 3],agN)]
def auF:af:=⟨[eA 0 HW,eA 1 Lo],[v222,.row 190,.mp (.int .i64) false [.int .i64]]⟩
def aWh:af:=⟨[eS 0 3,eB 1],[v222,.row 190,.mp (.int .i64) false [.int .i64]]⟩
def Jo:FD:=oS [.j5 0 (.slice 3)] 174 Tryz.f174 2 2 3 auF aWh [.fn 102,.fn 38,.fn 39,.fn 98,.fn 96] (.pc ay9<| .pc ayv<| .pc azB<| .pc az9<| .pc aAa<| .nil)
def aWg:af:=⟨[eI 0,eP 1 0],[bV [cS 3]]⟩
def auE:af:=⟨[eB 0],[bV [cS 3]]⟩
def aGT:FD:=bE 240 Tryz.f240 2 1 1 aWg auE [.fn 72] .nil
def aWf:af:=⟨[eS 0 3,(1,.one (.cl 240 [(0,0,0)])),eI 7,eI 8],[bV [cS 3]]⟩
def aWe:af:=⟨[eI 4],[bV [cS 3]]⟩
def aWd:af:=⟨[],[bV [cS 3]]⟩
def axn:Pc:=pL 0 26 1 524080 aWf [xR aWe,xE 0 aWd]
def auD:af:=⟨[eS 0 3,(1,.one (.cl 240 [(0,0,0)]))],[bV [cS 3]]⟩
def aWc:af:=⟨[eI 0],[bV [cS 3]]⟩
def aiq:FD:=bE 161 Tryz.f161 2 1 1 auD aWc [.fn 113] (.pc axn<| .nil)
def axu:FD:=bE 128 Tryz.f128 2 1 1 auD auE [.fn 112] .nil
def aIo:FD:=bE 227 Tryz.f227 2 1 0 WV eQ [.fn 111] .nil
def Ln:List dV:=[cI,cI,cI,cB,cS 3]
def aWb:af:=⟨[eA 0 An,eA 1 Ln],[]⟩
def aFR:FD:=bE 219 Tryz.f219 2 1 0 aWb eQ [.fn 110] .nil
def HH:fu:=bV [.ptr 2 0 0,cI,cS 3,cS 3,cS 3,cS 3,cS 3,cB,cB,cB,cI,cI]
def HG:fu:=bV [cS 84,cI,cS 84,cI,cS 63,cS 104,.ak 3,cI,.mpr 4]
def aWa:af:=⟨[eI 0,eP 1 0,eP 2 1],[n8,HH,HG,.row 190,.mp (.int .i64) false [.int .i64]]⟩
def auC:af:=⟨[eB 0],[n8,HH,HG,.row 190,.mp (.int .i64) false [.int .i64]]⟩
def aDv:FD:=bE 218 Tryz.f218 3 1 5 aWa auC [.fn 109] .nil
def aV9:af:=⟨[eS 0 3,(1,.one (.cl 218 [(0,0,0),(1,0,0)])),eI 7,eI 8],[n8,HH,HG,.row 190,.mp (.int .i64) false [.int .i64]]⟩
def aV8:af:=⟨[eI 4],[n8,HH,HG,.row 190,.mp (.int .i64) false [.int .i64]]⟩
def aV7:af:=⟨[],[n8,HH,HG,.row 190,.mp (.int .i64) false [.int .i64]]⟩
def aw3:Pc:=pL 5 26 5 524080 aV9 [xR aV8,xE 0 aV7]
def auB:af:=⟨[eS 0 3,(1,.one (.cl 218 [(0,0,0),(1,0,0)]))],[n8,HH,HG,.row 190,.mp (.int .i64) false [.int .i64]]⟩
def aV6:af:=⟨[eI 0],[n8,HH,HG,.row 190,.mp (.int .i64) false [.int .i64]]⟩
def aie:FD:=bE 161 Tryz.f161 2 1 5 auB aV6 [.fn 108] (.pc aw3<| .nil)
def axg:FD:=bE 128 Tryz.f128 2 1 5 auB auC [.fn 107] .nil
def aV5:af:=⟨[eA 0 HW,eA 1 km,eS 2 3],[v222,.row 190,.mp (.int .i64) false [.int .i64]]⟩
def aFQ:FD:=bE 175 Tryz.f175 3 1 3 aV5 uy [.fn 106,.fn 96] .nil
def aAD:FD:=bE 176 Tryz.f176 2 1 3 WS uy [.fn 41,.fn 96] .nil
def aCF:FD:=bE 178 Tryz.f178 2 1 3 WS uy [.fn 96] .nil
def aBU:FD:=bE 179 Tryz.f179 2 1 3 auF uy [.fn 95] .nil
def auA:af:=⟨[eA 0 HW,eI 1,eI 2],[v222,.row 190,.mp (.int .i64) false [.int .i64]]⟩
def aEG:FD:=bE 180 Tryz.f180 3 1 3 auA uy [] .nil
def aDw:FD:=bE 181 Tryz.f181 3 1 3 auA uy [] .nil
def aJG:FD:=bE 187 Tryz.f187 1 1 0 s7 eQ [.fc 79 [.kO 1 [.raw,.raw,.raw,.raw,.raw,.raw,.raw,.raw,.raw,.raw,.raw,.raw,.slice 74,.slice 74,.slice 110,.slice 110,.slice 3,.slice 61,.slice 81,.slice 78,.slice 134]]] .nil
def agM:af:=⟨[(8,.one (cU))],[v222,.row 190,.mp (.int .i64) false [.int .i64]]⟩
def aV4:af:=⟨[eB 9],[v222,.row 190,.mp (.int .i64) false [.int .i64]]⟩
def azz:Pc:=pJ 3 116 3 3584 agM [xN aV4]
def aV3:af:=⟨[eP 3 3,eI 5],[v222,.row 190,.mp (.int .i64) false [.int .i64],v0]⟩
def aV2:af:=⟨[eI 5],[v222,.row 190,.mp (.int .i64) false [.int .i64],v0]⟩
def auz:af:=⟨[eB 4],[v222,.row 190,.mp (.int .i64) false [.int .i64],v0]⟩
def az7:Pc:=pJ 3 14 4 34359738352 aV3 [xN aV2,xR auz]
def aaq:FD:=bE 182 Tryz.f182 2 1 3 Fb uy [.fn 115,.fn 120] (.pc az7<| .pc azz<| .nil)
def auy:af:=⟨[eA 0 Ln,eA 1 Ln],[]⟩
def aJH:FD:=bE 221 Tryz.f221 2 1 0 auy eQ [.fn 110] .nil
def HF:fu:=bV [.ptr 3 0 0,cI,cS 3,cS 3,cS 3,cS 3,cS 3,cB,cB,cB,cI,cI]
def kK:fu:=bV [cS 3,cS 3]
def HE:fu:=bV [cS 84,cI,cS 84,cI,cS 63,cS 104,.ak 4,cI,.mpr 5]
def aV1:af:=⟨[eI 0,eP 1 0,eP 2 1,eP 3 2],[HF,kK,bV [cI],HE,.row 190,.mp (.int .i64) false [.int .i64]]⟩
def auw:af:=⟨[eB 0],[HF,kK,bV [cI],HE,.row 190,.mp (.int .i64) false [.int .i64]]⟩
def aCG:FD:=bE 220 Tryz.f220 4 1 6 aV1 auw [.fn 125] .nil
def aV0:af:=⟨[eS 0 3,(1,.one (.cl 220 [(0,0,0),(1,0,0),(2,0,0)])),eI 7,eI 8],[HF,kK,bV [cI],HE,.row 190,.mp (.int .i64) false [.int .i64]]⟩
def aVZ:af:=⟨[eI 4],[HF,kK,bV [cI],HE,.row 190,.mp (.int .i64) false [.int .i64]]⟩
def aVY:af:=⟨[],[HF,kK,bV [cI],HE,.row 190,.mp (.int .i64) false [.int .i64]]⟩
def awX:Pc:=pL 6 26 6 524080 aV0 [xR aVZ,xE 0 aVY]
def auv:af:=⟨[eS 0 3,(1,.one (.cl 220 [(0,0,0),(1,0,0),(2,0,0)]))],[HF,kK,bV [cI],HE,.row 190,.mp (.int .i64) false [.int .i64]]⟩
def aVX:af:=⟨[eI 0],[HF,kK,bV [cI],HE,.row 190,.mp (.int .i64) false [.int .i64]]⟩
def aib:FD:=bE 161 Tryz.f161 2 1 6 auv aVX [.fn 124] (.pc awX<| .nil)
def axa:FD:=bE 128 Tryz.f128 2 1 6 auv auw [.fn 123] .nil
def aBz:Pc:=pJ 3 6 5 67104784 Dh [xN Dg,xR Fc]
def aVW:af:=⟨[eP 3 3,eP 5 4],[v222,.row 190,.mp (.int .i64) false [.int .i64],v0,kK]⟩
def aVV:af:=⟨[],[v222,.row 190,.mp (.int .i64) false [.int .i64],v0,kK]⟩
def aVU:af:=⟨[eB 4],[v222,.row 190,.mp (.int .i64) false [.int .i64],v0,kK]⟩
def aAP:Pc:=pJ 3 30 5 144112989052600336 aVW [xN aVV,xR aVU]
def aVT:af:=⟨[eP 2 3,eP 5 4,eS 58 74,eI 59,eI 60],[v222,.row 190,.mp (.int .i64) false [.int .i64],jl,kK]⟩
def auu:af:=⟨[eB 4],[v222,.row 190,.mp (.int .i64) false [.int .i64],jl,kK]⟩
def aut:af:=⟨[],[v222,.row 190,.mp (.int .i64) false [.int .i64],jl,kK]⟩
def azX:Pc:=pL 3 250 5 75556710804409716572368 aVT [xR auu,xE 0 aut]
def aVS:af:=⟨[eP 2 3,eP 3 4,eP 5 5],[v222,.row 190,.mp (.int .i64) false [.int .i64],jl,v0,kK]⟩
def aVR:af:=⟨[],[v222,.row 190,.mp (.int .i64) false [.int .i64],jl,v0,kK]⟩
def aVQ:af:=⟨[eB 4],[v222,.row 190,.mp (.int .i64) false [.int .i64],jl,v0,kK]⟩
def aAO:Pc:=pJ 3 62 6 75557719610726247563472 aVS [xN aVR,xR aVQ]
def aVP:af:=⟨[eP 2 3,eP 5 4,eS 77 110,eI 78,eI 79],[v222,.row 190,.mp (.int .i64) false [.int .i64],jl,kK]⟩
def azW:Pc:=pL 3 506 5 316912045594147543059588452112 aVP [xR auu,xE 2 aut]
def Jt:FD:=bE 183 Tryz.f183 2 1 3 Fb uy [.fn 122,.fn 95,.fn 105,.fn 118] (.pc azW<| .pc aAO<| .pc azX<| .pc aAP<| .pc aBz<| .nil)
def aFO:FD:=bE 184 Tryz.f184 2 1 3 WU uy [.fn 72,.fn 118] .nil
def aVO:af:=⟨[eI 0,eI 1,eP 2 0],[v233,v234,.row 190,.mp (.int .i64) false [.int .i64]]⟩
def aBV:FD:=bE 222 Tryz.f222 3 1 4 aVO Fa [.fn 125] .nil
def aVN:af:=⟨[eS 1 3,(2,.one (.cl 222 [(0,0,0)])),eS 15 3,eI 16,eI 17],[v233,v234,.row 190,.mp (.int .i64) false [.int .i64]]⟩
def aVM:af:=⟨[eB 6],[v233,v234,.row 190,.mp (.int .i64) false [.int .i64]]⟩
def awT:Pc:=pL 4 58 4 4294837184 aVN [xR aVM,xE 0 WT]
def aVL:af:=⟨[eS 0 3,eS 1 3,(2,.one (.cl 222 [(0,0,0)]))],[v233,v234,.row 190,.mp (.int .i64) false [.int .i64]]⟩
def ah7:FD:=bE 223 Tryz.f223 3 1 4 aVL Fa [.fn 129] (.pc awT<| .nil)
def aAN:Pc:=pJ 3 6 5 17179868944 Dh [xN Dg,xR Fc]
def ajL:FD:=bE 185 Tryz.f185 2 1 3 Fb uy [.fn 118,.fn 128] (.pc aAN<| .nil)
def ayP:Pc:=pJ 3 13820 5 316912650057057068899199090704 Dh [xN Dg,xR Fc]
def aVK:af:=⟨[eB 184],[v222,.row 190,.mp (.int .i64) false [.int .i64]]⟩
def ayu:Pc:=pJ 3 884734 3 171639500576979552136134867040834628565298781684563443712 agM [xN aVK]
def aVJ:af:=⟨[eB 193],[v222,.row 190,.mp (.int .i64) false [.int .i64]]⟩
def ayb:Pc:=pJ 3 3538942 3 87879424295413530693701051924907329825432976222496483180544 agM [xN aVJ]
def Sj:FD:=bE 137 Tryz.f137 2 1 3 Fb uy [.fn 72,.fn 24,.fn 38,.fn 95,.fn 105,.fn 114,.fn 98,.fn 115,.fn 116,.fn 117,.fn 118,.fn 119,.fn 121,.fn 126,.fn 127] (.pc ayb<| .pc ayu<| .pc ayP<| .nil)
def aus:af:=⟨[eA 0 HW],[v222,.row 190,.mp (.int .i64) false [.int .i64]]⟩
def aDu:FD:=oS [.kO 0 [.raw,.raw,.slice 3,.raw,.raw,.raw,.raw,.raw,.raw,.raw,.raw,.raw]] 186 Tryz.f186 1 1 3 aus aus [] .nil
def aAQ:Pc:=pJ 3 6 5 8796092956688 Dh [xN Dg,xR Fc]
def aVI:af:=⟨[eP 2 3,eS 44 3,eI 45,eI 46],[v222,.row 190,.mp (.int .i64) false [.int .i64],jl]⟩
def aVH:af:=⟨[],[v222,.row 190,.mp (.int .i64) false [.int .i64],jl]⟩
def azY:Pc:=pL 3 58 4 576390383559245888 aVI [xE 0 aVH]
def aAc:Pc:=pJ 3 14 5 576451956210401344 Dh [xN Dg]
def aVG:af:=⟨[eP 7 3,eP 8 4,eS 66 81,eI 67,eI 68],[v222,.row 190,.mp (.int .i64) false [.int .i64],jl,jl]⟩
def aVF:af:=⟨[eB 4],[v222,.row 190,.mp (.int .i64) false [.int .i64],jl,jl]⟩
def aVE:af:=⟨[],[v222,.row 190,.mp (.int .i64) false [.int .i64],jl,jl]⟩
def azv:Pc:=pL 3 506 5 38685331079762954237772816 aVG [xR aVF,xE 2 aVE]
def aVD:af:=⟨[eP 3 3,eP 7 4,eP 8 5],[v222,.row 190,.mp (.int .i64) false [.int .i64],v0,jl,jl]⟩
def aVC:af:=⟨[],[v222,.row 190,.mp (.int .i64) false [.int .i64],v0,jl,jl]⟩
def aVB:af:=⟨[eB 4],[v222,.row 190,.mp (.int .i64) false [.int .i64],v0,jl,jl]⟩
def azC:Pc:=pJ 3 126 6 38685589334179986171495440 aVD [xN aVC,xR aVB]
def C8:fu:=bV [cS 3,cU,cI,cI,cI,cI,cI,cB,cB,cB,cB,cB,cU,cS 74,cS 74,cS 110,cS 110,cS 3,cS 61,cS 81,cS 78,cS 134]
def aVA:af:=⟨[eP 2 3,eP 3 4,eI 12,eP 13 5],[v222,.row 190,.mp (.int .i64) false [.int .i64],jl,v0,C8]⟩
def aVz:af:=⟨[],[v222,.row 190,.mp (.int .i64) false [.int .i64],jl,v0,C8]⟩
def aVy:af:=⟨[eB 4],[v222,.row 190,.mp (.int .i64) false [.int .i64],jl,v0,C8]⟩
def ayd:Pc:=pJ 3 2096434 6 170141173319264429905852091742258462736 aVA [xN aVz,xR aVy]
def aVx:af:=⟨[(11,.one (.mpr 3)),eS 128 3,eI 129,eI 130],[v222,.row 190,.mp (.int .i64) false [.int .i64],.mp (.int .i64) false [.bool]]⟩
def aVw:af:=⟨[eB 4],[v222,.row 190,.mp (.int .i64) false [.int .i64],.mp (.int .i64) false [.bool]]⟩
def aVv:af:=⟨[],[v222,.row 190,.mp (.int .i64) false [.int .i64],.mp (.int .i64) false [.bool]]⟩
def axX:Pc:=pL 3 16771482 4 1392435445440480192492128893610795521310736 aVx [xR aVw,xE 6 aVv]
def aVu:af:=⟨[eP 2 3,eP 3 4,(11,.one (.mpr 5)),eS 96 78,eI 97,eI 98],[v222,.row 190,.mp (.int .i64) false [.int .i64],jl,v0,.mp (.int .i64) false [.bool]]⟩
def aVt:af:=⟨[eB 4],[v222,.row 190,.mp (.int .i64) false [.int .i64],jl,v0,.mp (.int .i64) false [.bool]]⟩
def aVs:af:=⟨[],[v222,.row 190,.mp (.int .i64) false [.int .i64],jl,v0,.mp (.int .i64) false [.bool]]⟩
def ayK:Pc:=pL 3 16378 6 89202980794122175653492816033243071848165392 aVu [xR aVt,xE 4 aVs]
def Ce:FD:=bE 138 Tryz.f138 2 1 3 Fb uy [.fn 77,.fn 16,.fn 24,.fn 131] (.pc ayK<| .pc axX<| .pc ayd<| .pc azC<| .pc azv<| .pc aAc<| .pc azY<| .pc aAQ<| .nil)
def aVr:af:=⟨[eP 3 3],[v222,.row 190,.mp (.int .i64) false [.int .i64],v0]⟩
def aVq:af:=⟨[],[v222,.row 190,.mp (.int .i64) false [.int .i64],v0]⟩
def aAb:Pc:=pJ 3 6 4 17179867152 aVr [xN aVq,xR auz]
def aVp:af:=⟨[(58,.one (cU))],[v222,.row 190,.mp (.int .i64) false [.int .i64]]⟩
def aVo:af:=⟨[eB 76],[v222,.row 190,.mp (.int .i64) false [.int .i64]]⟩
def axT:Pc:=pJ 3 16593878 3 528905046081400263933952 aVp [xN aVo]
def PF:fu:=bV [cU,cU,cU,cI,cI,cI,cI,cI,cI,cS 74,cI,cS 74,cU,cI,cI,cI,cI,cI,cB,cB,cB,cB,cB,cU,cS 74,cS 74,cS 110,cS 110,cS 3,cS 61,cS 81,cS 78,cS 134,cU,cI,cI,cI,cI,cI,cB,cB,cB,cB,cB,cU,cS 74,cS 74,cS 110,cS 110,cS 3,cS 61,cS 81,cS 78,cS 134]
def aVn:af:=⟨[eP 2 3,eP 7 4,eP 8 5,(9,.one (cU))],[v222,.row 190,.mp (.int .i64) false [.int .i64],jl,PF,jl]⟩
def aVm:af:=⟨[(9,.one (cU))],[v222,.row 190,.mp (.int .i64) false [.int .i64],jl,PF,jl]⟩
def aVl:af:=⟨[eB 4],[v222,.row 190,.mp (.int .i64) false [.int .i64],jl,PF,jl]⟩
def ayc:Pc:=pJ 3 518558 6 85070591730234615865555421481790341648 aVn [(.normal,[.wg (λenv M=>5) 4 3],aVm),xR aVl]
def aVk:af:=⟨[eP 2 3,(5,.one (.mpr 4)),eS 44 134,eI 45,eI 46],[v222,.row 190,.mp (.int .i64) false [.int .i64],jl,.mp (.int .u8) false [.int .i64]]⟩
def aVj:af:=⟨[eB 4],[v222,.row 190,.mp (.int .i64) false [.int .i64],jl,.mp (.int .u8) false [.int .i64]]⟩
def aVi:af:=⟨[],[v222,.row 190,.mp (.int .i64) false [.int .i64],jl,.mp (.int .u8) false [.int .i64]]⟩
def ay2:Pc:=pL 3 506 5 11150372599265311570767859136253812008813456 aVk [xR aVj,xE 0 aVi]
def aVh:af:=⟨[(5,.one (.mpr 3)),eI 10],[v222,.row 190,.mp (.int .i64) false [.int .i64],.mp (.int .u8) false [.int .i64]]⟩
def aVg:af:=⟨[eI 10],[v222,.row 190,.mp (.int .i64) false [.int .i64],.mp (.int .u8) false [.int .i64]]⟩
def aza:Pc:=pJ 3 510 4 1382646202308898634775214532904198413370786816 aVh [xN aVg]
def Jj:FD:=bE 139 Tryz.f139 2 1 3 Fb uy [.fn 77,.fn 133,.fn 114,.fn 115,.fn 126,.fn 120] (.pc aza<| .pc ay2<| .pc ayc<| .pc axT<| .pc aAb<| .nil)
def aVf:af:=⟨[eS 0 3],[]⟩
def aDt:FD:=bE 188 Tryz.f188 1 1 0 aVf Le [] .nil
def aBb:FD:=oS [.mk 0 3] 188 Tryz.f188 1 1 0 s96 Le [] .nil
def aBa:FD:=bE 188 Tryz.f188 1 1 0 s97 Le [] .nil
def aJF:FD:=bE 142 Tryz.f142 2 1 0 WX Le [.Xa 3 135 136 137] .nil
def aZq:List dV:=[.ptr 0 0 0,cI,cS 3,cS 3,.ak 3,cS 3,cS 3,cB,cB,cB,cI,cI]
def aVe:af:=⟨[eA 0 aZq],[v222,.row 190,.mp (.int .i64) false [.int .i64],.row 3]⟩
def aAE:FD:=bE 140 Tryz.f140 2 1 3 WU aVe [.fn 134,.fn 131] .nil
def aZp:List dV:=[.ptr 0 0 0,cI,cS 3,cS 3,cS 3,.ak 3,cS 3,cB,cB,cB,cI,cI]
def aVd:af:=⟨[eA 0 aZp],[v222,.row 190,.mp (.int .i64) false [.int .i64],.row 3]⟩
def aCH:FD:=bE 141 Tryz.f141 2 1 3 WU aVd [.fn 134,.fn 131] .nil
def aVc:af:=⟨[eA 0 h6,eP 1 0],[v233,v234,.row 190,.mp (.int .i64) false [.int .i64]]⟩
def aCE:FD:=bE 144 Tryz.f144 2 1 4 aVc Fa [.fn 77] .nil
def aVb:af:=⟨[eS 0 61,(1,.one (.cl 144 [(0,0,0)])),eI 7,eI 8],[v233,v234,.row 190,.mp (.int .i64) false [.int .i64]]⟩
def awN:Pc:=pL 4 26 4 524080 aVb [xR agP,xE 0 WT]
def aur:af:=⟨[eS 0 61,(1,.one (.cl 144 [(0,0,0)]))],[v233,v234,.row 190,.mp (.int .i64) false [.int .i64]]⟩
def ah1:FD:=bE 189 Tryz.f189 2 1 4 aur agO [.fn 141] (.pc awN<| .nil)
def awV:FD:=bE 143 Tryz.f143 2 1 4 aur Fa [.fn 140] .nil
def aAM:Pc:=pJ 3 14 5 8796092989456 Dh [xN Dg,xR Fc]
def aAL:Pc:=pJ 3 62 5 44601490397061246283071436545155985523605616 Dh [(.normal,[.wg (λenv M=>3) 2 3,.wg (λenv M=>3) 3 3,.wg (λenv M=>3) 6 3],Dg),xR Fc]
def aax:FD:=bE 88 Tryz.f88 2 1 3 Fb uy [.fn 77,.fc 77 [.kO 0 [.raw,.raw,.raw,.raw,.slice 3,.raw,.raw,.raw,.raw,.raw,.raw,.raw]],.fc 77 [.kO 0 [.raw,.raw,.raw,.raw,.raw,.slice 3,.raw,.raw,.raw,.raw,.raw,.raw]],.fn 78,.fn 92,.fn 94,.fn 130,.fn 132,.fn 133,.fn 138,.fn 134,.fn 139] (.pc aAL<| .pc aAM<| .nil)
def Ld:af:=⟨[eP 1 0],[v12]⟩
def aHV:Pc:=pJ 0 6 1 288230376151580676 Ld [xN ⟨[],[v12]⟩,xR BS]
def aVa:af:=⟨[eS 59 63,eI 60,eI 61],[]⟩
def agL:af:=⟨[eB 2],[]⟩
def aG3:Pc:=pL 0 58 0 1237940036979537265685430292 aVa [xR agL,xE 0 ⟨[],[]⟩]
def aG8:Pc:=pJ 0 14 1 1237940038997149898747412500 Ld [xN ⟨[],[v12]⟩,xR BS]
def E6:fu:=bV [cI,cS 3,cS 74]
def aU9:af:=⟨[eP 9 0],[E6]⟩
def auq:af:=⟨[],[E6]⟩
def aup:af:=⟨[eB 2],[E6]⟩
def aC6:Pc:=pJ 0 130354 1 85065399433376081038215121361612832772 aU9 [xN auq,xR aup]
def aU8:af:=⟨[eP 1 0,eP 9 1,eS 127 74,eI 128,eI 129],[v12,E6]⟩
def auo:af:=⟨[eB 2],[v12,E6]⟩
def aun:af:=⟨[],[v12,E6]⟩
def aCQ:Pc:=pL 0 521422 2 2923003273981241102565492738505816824448328677380 aU8 [xR auo,xE 4 aun]
def aU7:af:=⟨[eP 1 0,eS 106 104,eI 107,eI 108],[v12]⟩
def aE2:Pc:=pL 0 1018 1 5846006549323611348296185672438405295467709610500 aU7 [xR BS,xE 2 ⟨[],[v12]⟩]
def aGl:Pc:=pJ 0 254 1 5846006549323611632249920123561791230729227614724 Ld [xN ⟨[],[v12]⟩,xR BS]
def Ww:fu:=bV [cS 84,cI,cS 84,cI,cS 63,cS 104,.ak 2,cI,.mpr 1]
def aU6:af:=⟨[eP 7 0,eS 163 63,eI 164,eI 165],[Ww,.mp (.int .i64) false [.int .i64],.row 190]⟩
def aum:af:=⟨[eB 2],[Ww,.mp (.int .i64) false [.int .i64],.row 190]⟩
def aul:af:=⟨[],[Ww,.mp (.int .i64) false [.int .i64],.row 190]⟩
def aE1:Pc:=pL 0 2042 2 383077117164077625696204238872930374848055790704574468 aU6 [xR aum,xE 6 aul]
def aU5:af:=⟨[eP 7 0,eI 180,eI 181],[Ww,.mp (.int .i64) false [.int .i64],.row 190]⟩
def aE0:Pc:=pL 0 4090 2 100430562775105160443655914077268362039270449633180185067524 aU5 [xR aum,xE 8 aul]
def A4:FD:=bE 59 Tryz.f59 1 1 0 BR eQ [.fn 15,.fn 20,.fn 25,.fn 41,.fn 71,.fc 77 [.kO 0 [.raw,.raw,.slice 3,.slice 3,.slice 3,.slice 3,.slice 3,.raw,.raw,.raw,.raw,.raw]]] (.pc aE0<| .pc aE1<| .pc aGl<| .pc aE2<| .pc aCQ<| .pc aC6<| .pc aG8<| .pc aG3<| .pc aHV<| .nil)
def aU4:af:=⟨[(0,.one (.cl 151 [(0,0,0)]))],[v0]⟩
def aIp:FD:=bE 105 Tryz.f105 1 1 0 s7 aU4 [] .nil
noncomputable def Gy:List Cl:=[.fn 145,.fn 146]
noncomputable def Ji:YF:=yU CX Tryz.f69 yNo .nil 0 58
def aU3:af:=⟨[(0,.one (.lM 0)),eS 12 81,eI 13,eI 14],[.loop 0 [eP 3 1] none,bV [cI]]⟩
def WR:af:=⟨[],[.loop 0 [eP 3 1] none,bV [cI]]⟩
def aiR:Pc:=pL 0 10 2 2147467280 aU3 [xE 0 WR]
noncomputable def aje:oT:= .pc aiR oT.nil
def auk:af:=⟨[(0,.one (.lM 0)),eP 1 1],[.loop 0 [eP 3 2] none,v0,bV [cI]]⟩
def auj:af:=⟨[],[.loop 0 [eP 3 2] none,v0,bV [cI]]⟩
def ai0:Pc:=pJ 0 2 3 2147481616 auk [xN auj]
noncomputable def ajd:oT:= .pc ai0 aje
def aU2:af:=⟨[(0,.one (.lM 0)),eS 32 61,eI 33,eI 34],[.loop 0 [eP 3 1] none,bV [cI]]⟩
def aiQ:Pc:=pL 0 26 2 8778913153088 aU2 [xE 2 WR]
noncomputable def ajc:oT:= .pc aiQ ajd
def aiZ:Pc:=pJ 0 6 3 8793945538624 auk [xN auj]
noncomputable def ajb:oT:= .pc aiZ ajc
def aU1:af:=⟨[(0,.one (.lM 0)),eS 44 78,eI 45,eI 46],[.loop 0 [eP 3 1] none,bV [cI]]⟩
def aiP:Pc:=pL 0 58 2 71987225293750528 aU1 [xE 4 WR]
noncomputable def aja:oT:= .pc aiP ajb
def aU0:af:=⟨[(0,.one (.lM 0)),eS 57 134,eI 58,eI 59],[.loop 0 [eP 3 1] none,bV [cI]]⟩
def aiO:Pc:=pL 0 62 2 75557287265162019996672 aU0 [xE 6 WR]
noncomputable def aAV:oT:= .pc aiO aja
def aI6:FD:=bE 69 Tryz.f69 1 1 0 s7 zy Gy (.rg 58 0 [3] 151 Tryz.f151 aAV<| .nil)
def aUZ:af:=⟨[eA 0 h6,eP 1 0,eP 2 1],[bV [.ak 2],bV [cI],.row 96]⟩
def aUY:af:=⟨[],[bV [.ak 3],bV [cI],.gone,.row 96]⟩
def ayF:FD:=bE 145 Tryz.f145 3 0 3 aUZ aUY [.fn 145] .nil
def aUX:af:=⟨[(4,.one (.cl 145 [(0,0,0),(1,0,0)])),eS 19 81,eI 20,eI 21],[bV [.ak 2],bV [cI],.row 96]⟩
def WQ:af:=⟨[],[bV [.ak 2],bV [cI],.row 96]⟩
def axR:Pc:=pL 0 122 2 17177772096 aUX [xE 0 WQ]
def Bu:fu:=bV [cU,cI,cI,cI,cI,cI,cB,cB,cB,cB,cB,cU,cS 74,cS 74,cS 110,cS 110,cS 3,cS 61,cS 81,cS 78,cS 134,cI]
def aui:af:=⟨[eP 1 0,(4,.one (.cl 145 [(1,0,0),(2,0,0)]))],[Bu,bV [.ak 3],bV [cI],.row 96]⟩
def auh:af:=⟨[],[Bu,bV [.ak 3],bV [cI],.row 96]⟩
def ax0:Pc:=ic [.yw (λenv M=>((ah.look env 4).iP.getD 0 .top).id) 0 96] (pJ 0 30 3 17179738176 aui [xN auh])
def aUW:af:=⟨[(4,.one (.cl 145 [(0,0,0),(1,0,0)])),eS 36 61,eI 37,eI 38],[bV [.ak 2],bV [cI],.row 96]⟩
def axQ:Pc:=pL 0 250 2 70093866270976 aUW [xE 2 WQ]
def axZ:Pc:=pJ 0 62 3 70351564308736 aui [xN auh]
def aUV:af:=⟨[(4,.one (.cl 145 [(0,0,0),(1,0,0)])),eS 48 78,eI 49,eI 50],[bV [.ak 2],bV [cI],.row 96]⟩
def axP:Pc:=pL 0 506 2 575334852396581888 aUV [xE 4 WQ]
def aUU:af:=⟨[(4,.one (.cl 145 [(0,0,0),(1,0,0)])),eS 61 134,eI 62,eI 63],[bV [.ak 2],bV [cI],.row 96]⟩
def axH:Pc:=pL 0 1018 2 75548640353877468647424 aUU [xE 6 WQ]
def HV:List dV:=[cU,cI,cI,cI,cI,cI,cB,cB,cB,cB,cB,cU,cS 74,cS 74,cS 110,cS 110,cS 3,cS 61,cS 81,cS 78,cS 134,cI]
def aUT:af:=⟨[eA 0 HV],[]⟩
def aUS:af:=⟨[eO 0 0],[.row 96]⟩
def Gb:FD:=bE 89 Tryz.f89 1 1 0 aUT aUS [.fn 144] (.pc axH<| .pc axP<| .pc axZ<| .pc axQ<| .pc ax0<| .pc axR<| .nil)
def PE:fu:=bV [cU,cI,cI,cI,cI,cI,cB,cB,cB,cB,cB,cU,cS 74,cS 74,cS 110,cS 110,cS 3,cS 61,cS 81,cS 78,cS 134,cI,.ak 1,cB,cB]
def aug:af:=⟨[eP 5 0],[PE,.row 96]⟩
def agK:af:=⟨[],[PE,.row 96]⟩
def az5:Pc:=pJ 0 1812 1 8585740288 aug [xN agK]
def aUR:af:=⟨[eB 1,eP 5 0,eS 6 96],[PE,.row 96]⟩
def aUQ:af:=⟨[eB 85],[PE,.row 96]⟩
def az4:Pc:=pJ 0 1814 1 633786614487887032614761005056 aUR [xN aUQ]
def az3:Pc:=pJ 0 3626 1 17583596109824 aug [xN agK]
def aUP:af:=⟨[eP 5 0,eS 6 96,eS 52 81,eI 53,eI 54],[PE,.row 96]⟩
def azu:Pc:=pL 0 58042 1 604462891792916077871872 aUP [xE 3 agK]
def aP9:fu:=bV [cU,cI,cI,cI,cI,cI,cB,cB,cB,cB,cB,cU,.ak 2,.ak 3,.ak 4,.ak 5,.ak 6,.ak 7,.ak 8,.ak 9,.ak 10,cI,.ak 11,cB,cB]
def aP8:fu:=bV [cU,cI,cI,cI,cI,cI,cB,cB,cB,cB,cB,cU,cS 74,cS 74,cS 110,cS 110,cS 3,cS 61,cS 81,cS 78,cS 134,cI,.ak 12,cB,cB]
def aUO:af:=⟨[eB 1,eP 4 0,eP 5 1],[aP9,aP8,.row 74,.row 74,.row 110,.row 110,.row 3,.row 61,.row 81,.row 78,.row 134,.row 96,.row 96]⟩
def atn:fu:=bV [cU,cI,cI,cI,cI,cI,cB,cB,cB,cB,cB,cU,cS 74,cS 74,cS 110,cS 110,cS 3,cS 61,cS 81,cS 78,cS 134,cI,.ak 2,cB,cB]
def aUN:af:=⟨[],[atn,atn,.row 96]⟩
def aBn:Pc:=ic [cK 4 12 74,cK 4 13 74,cK 4 14 110,cK 4 15 110,cK 4 16 3,cK 4 17 61,cK 4 18 81,cK 4 19 78,cK 4 20 134,cK 4 22 96,cK 5 22 96] (pL 0 14 2 41538374868278621028243970633757632 aUO [xR aUN])
def auf:af:=⟨[eA 0 HV,eB 1],[]⟩
def aZo:List dV:=[cU,cI,cI,cI,cI,cI,cB,cB,cB,cB,cB,cU,cS 74,cS 74,cS 110,cS 110,cS 3,cS 61,cS 81,cS 78,cS 134,cI,.ak 0,cB,cB]
def aUM:af:=⟨[eA 0 aZo],[.row 96]⟩
def Jw:FD:=bE 60 Tryz.f60 2 1 0 auf aUM [.fn 143] (.pc aBn<| .pc azu<| .pc az3<| .pc az4<| .pc az5<| .gh [(2,([],[.j5 6 96]))]<| .nil)
def ayn:FD:=bE 93 Tryz.f93 1 1 0 Qq eQ [] .nil
def aUL:af:=⟨[eS 0 74,(1,.one (.fn 93)),eI 7,eI 8],[]⟩
def awx:Pc:=pL 0 26 0 524080 aUL [xR auS,xE 0 ⟨[],[]⟩]
def aue:af:=⟨[eS 0 74,(1,.one (.fn 93))],[]⟩
def ahG:FD:=bE 147 Tryz.f147 2 1 0 aue zy [.fn 154] (.pc awx<| .nil)
def awz:FD:=bE 92 Tryz.f92 2 1 0 aue eQ [.fn 153] .nil
def aUK:af:=⟨[(7,.one (cU))],[]⟩
def aUJ:af:=⟨[eB 8],[]⟩
def axS:Pc:=pJ 0 52 0 130816 aUK [xN aUJ]
def aUI:af:=⟨[eB 1,eP 2 0],[Bu]⟩
def aUH:af:=⟨[],[Bu]⟩
def aUG:af:=⟨[eB 4],[Bu]⟩
def axY:Pc:=pJ 0 6 1 8589934576 aUI [xN aUH,xR aUG]
def Za:FD:=bE 62 Tryz.f62 2 1 0 auf eQ [.fc 147 [.j5 0 (.slice 96)],.fn 143,.fn 152] (.pc axY<| .pc axS<| .nil)
def aUF:af:=⟨[eA 0 HV,eP 1 0],[bV [cB]]⟩
def aud:af:=⟨[eB 0],[bV [cB]]⟩
def aEC:FD:=bE 91 Tryz.f91 2 1 1 aUF aud [.fn 151] .nil
def aUE:af:=⟨[eS 0 96,(1,.one (.cl 91 [(0,0,0)])),eI 7,eI 8],[bV [cB]]⟩
def aUD:af:=⟨[eI 4],[bV [cB]]⟩
def aUC:af:=⟨[],[bV [cB]]⟩
def awI:Pc:=pL 0 26 1 524080 aUE [xR aUD,xE 0 aUC]
def auc:af:=⟨[eS 0 96,(1,.one (.cl 91 [(0,0,0)]))],[bV [cB]]⟩
def aUB:af:=⟨[eI 0],[bV [cB]]⟩
def ahY:FD:=bE 146 Tryz.f146 2 1 1 auc aUB [.fn 150] (.pc awI<| .nil)
def awR:FD:=bE 90 Tryz.f90 2 1 1 auc aud [.fn 149] .nil
def aUA:af:=⟨[eS 0 96,eB 1],[]⟩
def aGQ:FD:=bE 61 Tryz.f61 2 1 0 aUA eQ [.fn 148] .nil
def pf:fu:=bV [cS 84,cI,cS 63,cS 104,cI,cI,cU,cI,cI,cI,cI,cI,cB,cB,cB,cB,cB,cU,cS 74,cS 74,cS 110,cS 110,cS 3,cS 61,cS 81,cS 78,cS 134,cI,cS 96,cB,cB,cU,cI,cI,cI,cI,cI,cB,cB,cB,cB,cB,cU,cS 74,cS 74,cS 110,cS 110,cS 3,cS 61,cS 81,cS 78,cS 134,cI,cS 96,cI,cI,cI,cI,cI,cI,cI,.ak 1,.ak 2]
def aUz:af:=⟨[eP 0 0,eA 1 km],[pf,.row 43,.row 23]⟩
def Df:af:=⟨[eB 0],[pf,.row 43,.row 23]⟩
def aBd:FD:=bE 94 Tryz.f94 2 1 3 aUz Df [] .nil
def agp:fu:=bV [cI,cS 140,cU,cI,cI,cI,cI,cI,cB,cB,cB,cB,cB,cU,cS 74,cS 74,cS 110,cS 110,cS 3,cS 61,cS 81,cS 78,cS 134,cI]
def aUy:af:=⟨[eP 0 0,eP 3 3,eP 4 4],[pf,.row 43,.row 23,agp,Bu]⟩
def aUx:af:=⟨[],[pf,.row 43,.row 23,agp,Bu]⟩
def aUw:af:=⟨[eB 2],[pf,.row 43,.row 23,agp,Bu]⟩
def ayO:Pc:=ic [.wg (λenv M=>0) 28 96] (pJ 3 62 5 1237940039285380257719255044 aUy [xN aUx,xR aUw])
def agJ:af:=⟨[eO 5 3],[pf,.row 43,.row 23,.row 96]⟩
def ayt:Pc:=pJ 3 254 3 5065650640755776084887216324640 agJ [xN agJ]
def aUv:af:=⟨[],[pf,.row 43,.row 23,.fx 96]⟩
def aUu:af:=⟨[eB 2],[pf,.row 43,.row 23,.fx 96]⟩
def ays:Pc:=pJ 3 510 4 170141178389866830818769697729071284228 agJ [xN aUv,xR aUu]
def Lc:af:=⟨[eP 0 0],[pf,.row 43,.row 23]⟩
def RZ:FD:=bE 63 Tryz.f63 1 1 3 Lc Df [.fn 142,.fn 147,.fn 143,.fn 156] (.pc ays<| .pc ayt<| .pc ayO<| .gh [(9,([.j5 5 96],[])),(11,([.j5 5 96],[]))]<| .nil)
def aUt:af:=⟨[eP 0 0,eA 1 h6],[pf,.row 43,.row 23]⟩
def aBe:FD:=bE 95 Tryz.f95 2 1 3 aUt Df [] .nil
def aub:af:=⟨[eP 6 3],[pf,.row 43,.row 23,jf]⟩
def agI:af:=⟨[],[pf,.row 43,.row 23,jf]⟩
def axJ:Pc:=pJ 3 29902 4 34091302912 aub [xN agI]
def axI:Pc:=pJ 3 59806 4 8761733283840 aub [xN agI,xE 1 agI]
def aUs:af:=⟨[eP 0 0,eP 7 3,eP 8 4],[pf,.row 43,.row 23,jf,jf]⟩
def aUr:af:=⟨[eB 68],[pf,.row 43,.row 23,jf,jf]⟩
def axE:Pc:=pJ 3 478462 5 590223752764667723776 aUs [xN aUr]
def aUq:af:=⟨[eP 0 0,eI 3,eS 12 96,eI 13,eI 14],[pf,.row 43,.row 23]⟩
def aUp:af:=⟨[eI 3],[pf,.row 43,.row 23]⟩
def ax6:Pc:=pL 3 58 3 302231454903657293660648 aUq [xE 0 aUp]
def MI:FD:=bE 64 Tryz.f64 1 1 3 Lc Df [.fn 156,.fn 158] (.pc ax6<| .pc axE<| .pc axI<| .pc axJ<| .nil)
def Bt:fu:=bV [.ptr 2 0 0]
def Aj:fu:=bV [cS 84,cI,cS 63,cS 104,cI,cI,cU,cI,cI,cI,cI,cI,cB,cB,cB,cB,cB,cU,cS 74,cS 74,cS 110,cS 110,cS 3,cS 61,cS 81,cS 78,cS 134,cI,cS 96,cB,cB,cU,cI,cI,cI,cI,cI,cB,cB,cB,cB,cB,cU,cS 74,cS 74,cS 110,cS 110,cS 3,cS 61,cS 81,cS 78,cS 134,cI,cS 96,cI,cI,cI,cI,cI,cI,cI,.ak 3,.ak 4]
def aUo:af:=⟨[eA 0 h6,eP 1 0,eP 2 1],[Bt,bV [cI],Aj,.row 43,.row 23]⟩
def agH:af:=⟨[],[Bt,bV [cI],Aj,.row 43,.row 23]⟩
def ayZ:FD:=bE 96 Tryz.f96 3 0 5 aUo agH [.fn 158] .nil
def Wv:fu:=bV [.ptr 0 0 0]
def aUn:af:=⟨[(4,.one (.cl 96 [(3,0,0),(4,0,0)])),eS 30 61,eI 31,eI 32],[pf,.row 43,.row 23,Wv,bV [cI]]⟩
def agG:af:=⟨[],[pf,.row 43,.row 23,Wv,bV [cI]]⟩
def axD:Pc:=pL 3 250682 5 1095216660736 aUn [xE 2 agG]
def aUm:af:=⟨[(4,.one (.cl 96 [(3,0,0),(4,0,0)])),eS 14 96,eI 15,eI 16],[pf,.row 43,.row 23,Wv,bV [cI]]⟩
def axW:Pc:=pL 3 122 5 2199023190336 aUm [xE 0 agG]
def Zp:FD:=bE 65 Tryz.f65 1 1 3 Lc Df [.fn 160] (.pc axW<| .pc axD<| .nil)
def aUl:af:=⟨[eP 0 0,eA 1 Lo],[pf,.row 43,.row 23]⟩
def azr:FD:=bE 100 Tryz.f100 2 1 3 aUl Df [] .nil
def aUk:af:=⟨[eS 0 110,(1,.one (.Rf 100 [(0,0,0)])),eI 7,eI 8],[pf,.row 43,.row 23]⟩
def aUj:af:=⟨[eI 4],[pf,.row 43,.row 23]⟩
def aUi:af:=⟨[],[pf,.row 43,.row 23]⟩
def awA:Pc:=pL 3 26 3 524080 aUk [xR aUj,xE 0 aUi]
def aua:af:=⟨[eS 0 110,(1,.one (.Rf 100 [(0,0,0)]))],[pf,.row 43,.row 23]⟩
def aUh:af:=⟨[eI 0],[pf,.row 43,.row 23]⟩
def ahL:FD:=bE 148 Tryz.f148 2 1 3 aua aUh [.fn 166] (.pc awA<| .nil)
def awD:FD:=bE 99 Tryz.f99 2 1 3 aua Df [.fn 165] .nil
def aUg:af:=⟨[eP 1 0,eP 3 5],[Bt,bV [cI],Aj,.row 43,.row 23,Bu]⟩
def aUf:af:=⟨[eB 4],[Bt,bV [cI],Aj,.row 43,.row 23,Bu]⟩
def ax8:Pc:=pJ 5 6 6 8589934576 aUg [xN aUf]
def aUe:af:=⟨[eA 0 HV,eP 1 0,eP 2 1],[Bt,bV [cI],Aj,.row 43,.row 23]⟩
def aiN:FD:=bE 98 Tryz.f98 3 0 5 aUe agH [.fn 164,.fn 166] (.pc ax8<| .nil)
def aUd:af:=⟨[(1,.one (.cl 98 [(0,0,0),(1,0,0)])),eO 10 5,eI 11,eI 12],[Bt,bV [cI],Aj,.row 43,.row 23,.row 96]⟩
def aUc:af:=⟨[],[Bt,bV [cI],Aj,.row 43,.row 23,.row 96]⟩
def awC:Pc:=pL 5 30 6 1044512 aUd [xE 0 aUc]
def aUb:af:=⟨[eA 0 HV,(1,.one (.cl 98 [(0,0,0),(1,0,0)]))],[Bt,bV [cI],Aj,.row 43,.row 23]⟩
def ahP:FD:=bE 97 Tryz.f97 2 0 5 aUb agH [.fn 143,.fn 162,.fn 163] (.pc awC<| .nil)
def HD:fu:=bV [.ptr 1 0 0]
def HC:fu:=bV [cS 84,cI,cS 63,cS 104,cI,cI,cU,cI,cI,cI,cI,cI,cB,cB,cB,cB,cB,cU,cS 74,cS 74,cS 110,cS 110,cS 3,cS 61,cS 81,cS 78,cS 134,cI,cS 96,cB,cB,cU,cI,cI,cI,cI,cI,cB,cB,cB,cB,cB,cU,cS 74,cS 74,cS 110,cS 110,cS 3,cS 61,cS 81,cS 78,cS 134,cI,cS 96,cI,cI,cI,cI,cI,cI,cI,.ak 2,.ak 3]
def aUa:af:=⟨[eA 0 Ln,eP 1 0],[HD,HC,.row 43,.row 23]⟩
def at7:af:=⟨[eB 0],[HD,HC,.row 43,.row 23]⟩
def azs:FD:=bE 102 Tryz.f102 2 1 4 aUa at7 [.fn 72] .nil
def aT9:af:=⟨[eS 0 84,(1,.one (.cl 102 [(0,0,0)])),eI 7,eI 8],[HD,HC,.row 43,.row 23]⟩
def aT8:af:=⟨[eI 4],[HD,HC,.row 43,.row 23]⟩
def aT7:af:=⟨[],[HD,HC,.row 43,.row 23]⟩
def awE:Pc:=pL 4 26 4 524080 aT9 [xR aT8,xE 0 aT7]
def at6:af:=⟨[eS 0 84,(1,.one (.cl 102 [(0,0,0)]))],[HD,HC,.row 43,.row 23]⟩
def aT6:af:=⟨[eI 0],[HD,HC,.row 43,.row 23]⟩
def ahS:FD:=bE 149 Tryz.f149 2 1 4 at6 aT6 [.fn 169] (.pc awE<| .nil)
def awH:FD:=bE 101 Tryz.f101 2 1 4 at6 at7 [.fn 168] .nil
def aT5:af:=⟨[eP 1 3,eP 3 4,eS 10 63,eI 11,eI 12],[pf,.row 43,.row 23,Wv,bV [cI]]⟩
def ayq:Pc:=pL 3 58 5 4190240 aT5 [xE 0 agG]
def ai8:FD:=bE 66 Tryz.f66 1 1 3 Lc Df [.fn 162,.fn 167] (.pc ayq<| .nil)
def ay0:FD:=bE 67 Tryz.f67 1 1 3 Lc Df [] .nil
def PD:fu:=bV [.ptr 4 0 0]
def E5:fu:=bV [cS 84,cI,cS 63,cS 104,cI,cI,cU,cI,cI,cI,cI,cI,cB,cB,cB,cB,cB,cU,cS 74,cS 74,cS 110,cS 110,cS 3,cS 61,cS 81,cS 78,cS 134,cI,cS 96,cB,cB,cU,cI,cI,cI,cI,cI,cB,cB,cB,cB,cB,cU,cS 74,cS 74,cS 110,cS 110,cS 3,cS 61,cS 81,cS 78,cS 134,cI,cS 96,cI,cI,cI,cI,cI,cI,cI,.ak 5,.ak 6]
def aT4:af:=⟨[eA 0 HV,eP 1 0,eP 2 1,eP 3 2],[bV [.ak 3],bV [cB],PD,.bD 23,E5,.row 43,.row 23]⟩
def at5:af:=⟨[],[bV [.ak 3],bV [cB],PD,.bD 23,E5,.row 43,.row 23]⟩
def azP:FD:=bE 104 Tryz.f104 4 0 7 aT4 at5 [] (.gh [(2,([.avi (.cell 1 0) 4 4 0],[.close (.cell 1 0)]))]<| .nil)
def aT3:af:=⟨[(1,.one (.cl 104 [(0,0,0),(1,0,0),(2,0,0)])),eO 10 7,eI 11,eI 12],[bV [.ak 3],bV [cB],PD,.bD 23,E5,.row 43,.row 23,.row 96]⟩
def aT2:af:=⟨[],[bV [.ak 3],bV [cB],PD,.bD 23,E5,.row 43,.row 23,.row 96]⟩
def awF:Pc:=pL 7 30 8 1044512 aT3 [xE 0 aT2]
def aT1:af:=⟨[eA 0 HV,(1,.one (.cl 104 [(0,0,0),(1,0,0),(2,0,0)]))],[bV [.ak 3],bV [cB],PD,.bD 23,E5,.row 43,.row 23]⟩
def ahT:FD:=bE 97 Tryz.f97 2 0 7 aT1 at5 [.fn 143,.fn 172,.fn 173] (.pc awF<| .nil)
def ago:fu:=bV [.ptr 3 0 0]
def aT0:af:=⟨[eP 1 0,eP 3 1,eP 4 2,eS 19 96,eI 20,eI 21],[ago,bV [.ak 4],bV [cB],E5,.bD 23,.row 43,.row 23]⟩
def at4:af:=⟨[],[ago,bV [.ak 4],bV [cB],E5,.bD 23,.row 43,.row 23]⟩
def ayp:Pc:=pL 0 122 4 534773824 aT0 [xE 0 at4]
def aTZ:af:=⟨[eP 1 0,eP 3 1,eP 4 2],[ago,bV [.ak 4],bV [cB],E5,.bD 23,.row 43,.row 23]⟩
def ayN:Pc:=pJ 0 30 4 536805440 aTZ [xN at4]
def aTY:af:=⟨[eP 1 0,eO 29 1,eI 30,eI 31],[Bt,.row 23,Aj,.row 43,.row 23]⟩
def aTX:af:=⟨[],[Bt,.row 23,Aj,.row 43,.row 23]⟩
def ayo:Pc:=pL 0 250 3 9223372034707292544 aTY [xE 2 aTX]
def aTW:af:=⟨[eB 0],[Aj,.gone,.gone,.row 43,.row 23]⟩
def RY:FD:=bE 68 Tryz.f68 1 1 3 Lc aTW [.fn 172] (.pc ayo<| .pc ayN<| .pc ayp<| .gh [(8,([.flat (.cell 3 0)],[]))]<| .nil)
def aTV:af:=⟨[eP 1 0,eO 5 1,eI 6,eS 43 63,eI 44,eI 45],[v12,.row 94]⟩
def aTU:af:=⟨[eO 2 1,eI 3],[v12,.row 94]⟩
def aTT:af:=⟨[eO 5 1],[v12,.row 94]⟩
def aBo:Pc:=ic [.mk 5 94] (pL 0 1018 1 1237940039285345090527039468 aTV [(.ret,[.mk 2 94],aTU),xE 0 aTT])
def aTS:af:=⟨[eO 0 0,eI 1],[.row 94]⟩
def ak2:FD:=oS [.mk 0 94] 48 Tryz.f48 1 2 0 BR aTS [.fn 14,.fn 142,.fc 147 [.j5 0 (.slice 96)],.fn 151,.fc 155 [.rn (λenv M=>(ah.look env 0).id) 18 74,.rn (λenv M=>(ah.look env 0).id) 19 74,.rn (λenv M=>(ah.look env 0).id) 20 110,.rn (λenv M=>(ah.look env 0).id) 21 110,.rn (λenv M=>(ah.look env 0).id) 22 3,.rn (λenv M=>(ah.look env 0).id) 23 61,.rn (λenv M=>(ah.look env 0).id) 24 81,.rn (λenv M=>(ah.look env 0).id) 25 78,.rn (λenv M=>(ah.look env 0).id) 26 134,.rn (λenv M=>(ah.look env 0).id) 28 96,.rn (λenv M=>(ah.look env 0).id) 43 74,.rn (λenv M=>(ah.look env 0).id) 44 74,.rn (λenv M=>(ah.look env 0).id) 45 110,.rn (λenv M=>(ah.look env 0).id) 46 110,.rn (λenv M=>(ah.look env 0).id) 47 3,.rn (λenv M=>(ah.look env 0).id) 48 61,.rn (λenv M=>(ah.look env 0).id) 49 81,.rn (λenv M=>(ah.look env 0).id) 50 78,.rn (λenv M=>(ah.look env 0).id) 51 134,.rn (λenv M=>(ah.look env 0).id) 53 96,cK 0 61 43,cK 0 62 23],.fn 157,.fn 159,.fn 161,.fn 170,.fn 171,.fn 145] (.pc aBo<| .ur 16685402 6<| .gh [(22,([.Yn 9 102],[]))]<| .nil)
def aTR:af:=⟨[eO 6 1,eO 14 0,eI 15,eI 16],[.row 94,.row 41]⟩
def aTQ:af:=⟨[eO 6 1],[.row 94,.row 41]⟩
def aBq:Pc:=ic [.mk 6 41] (pL 0 122 1 268370240 aTR [xE 0 aTQ])
def aTP:af:=⟨[eO 0 0,eI 1],[.row 41]⟩
def akK:FD:=bE 8 Tryz.f8 1 2 0 BR aTP [.fn 13] (.pc aBq<| .gh [(6,([.Mk 8 102],[]))]<| .nil)
def aTO:af:=⟨[eO 6 0,(8,.one (.any)),eS 39 23,eI 40,eI 41],[.row 65]⟩
def aTN:af:=⟨[eO 6 0],[.row 65]⟩
def azV:Pc:=pL 0 62670 0 144112989052601920 aTO [xE 2 aTN]
def aTM:af:=⟨[eO 6 1,eO 16 0,eI 17,eI 18],[.row 94,.row 65]⟩
def aTL:af:=⟨[eO 6 1],[.row 94,.row 65]⟩
def aBp:Pc:=ic [.mk 6 65] (pL 0 122 1 288230376151451456 aTM [xE 0 aTL])
def aTK:af:=⟨[eO 0 0,eI 1],[.row 65]⟩
def aa8:FD:=bE 11 Tryz.f11 1 2 0 BR aTK [.fn 13] (.pc aBp<| .pc azV<| .gh [(6,([.Mk 8 102],[])),(10,([.Mk 8 102],[]))]<| .nil)
def aIn:FD:=bE 44 Tryz.f44 1 1 0 s23 s8 [.fn 7,.fn 8] .nil
def aTJ:af:=⟨[eA 0 h27,(1,.one (.fn 44))],[.row 84,.row 63,.row 104]⟩
def ayG:FD:=bE 33 Tryz.f33 2 1 3 aTJ s28 [.fc 9 [.j5 0 (.slice 61)],.fc 176 [.j5 0 (.slice 61)]] .nil
def at3:af:=⟨[eO 0 1],[.gone,.row 61]⟩
def aFN:FD:=bE 45 Tryz.f45 1 1 1 s8 at3 [.fn 7] .nil
def aTI:af:=⟨[eA 0 h27,(1,.one (.fn 45))],[.row 84,.row 63,.row 104]⟩
def azQ:FD:=bE 33 Tryz.f33 2 1 3 aTI s28 [.fc 9 [.j5 0 (.slice 61)],.fn 180] .nil
def E4:fu:=bV [cI,cI,cI,cI,cI,cI,cS 43]
def aTH:af:=⟨[eP 6 0,eP 7 1],[E4,E4]⟩
def at2:af:=⟨[],[E4,E4]⟩
def at1:af:=⟨[eB 4],[E4,E4]⟩
def aAH:Pc:=pJ 0 3730 2 151115727451828378402832 aTH [xN at2,xR at1]
def aTG:af:=⟨[eP 6 0,eP 7 1,eI 8],[E4,E4]⟩
def azT:Pc:=pL 0 14926 2 39613930141404716968125137168 aTG [xR at1,xE 2 at2]
def aTF:af:=⟨[eS 0 41,eS 1 41,eI 5],[]⟩
def aBX:Pc:=pL 0 58 0 39614081257132168796771959280 aTF [xR Ak,xE 0 ⟨[],[]⟩]
def aTE:af:=⟨[eS 0 41,eS 1 41],[]⟩
def aGL:FD:=bE 46 Tryz.f46 2 1 0 aTE eQ [] (.pc aBX<| .pc azT<| .pc aAH<| .nil)
def at0:af:=⟨[eS 0 65,eS 1 65,eI 5],[]⟩
def aAI:Pc:=pJ 0 1864 0 144115188075593744 at0 [xN ⟨[],[]⟩,xR Ak]
def aTD:af:=⟨[eS 0 65,eS 1 65,eI 5,eI 6],[]⟩
def aAF:Pc:=pL 0 7462 0 19342812969718878719443024 aTD [xR Ak,xE 2 ⟨[],[]⟩]
def aBY:Pc:=pL 0 58 0 19342813113834066795294832 at0 [xR Ak,xE 0 ⟨[],[]⟩]
def aTC:af:=⟨[eS 0 65,eS 1 65],[]⟩
def aGM:FD:=bE 47 Tryz.f47 2 1 0 aTC eQ [] (.pc aBY<| .pc aAF<| .pc aAI<| .nil)
def aTB:af:=⟨[eA 0 yH,eI 1],[]⟩
def aJE:FD:=bE 42 Tryz.f42 2 1 0 aTB eQ [.fn 12,.fn 174] .nil
def aTA:af:=⟨[eO 1 0,eI 2,eO 3 1,eI 4],[.row 41,.row 65]⟩
def aTz:af:=⟨[eB 10],[.fx 41,.fx 65]⟩
def aFh:Pc:=pJ 0 510 2 9223370937343149056 aTA [(.normal,[.Xo (λenv M=>1) 65,.Xo (λenv M=>0) 41],aTz)]
def aJC:FD:=bE 6 Tryz.f6 0 1 0 ⟨[],[]⟩ eQ [.fc 12 [.kO 0 [.slice 84,.raw,.slice 63,.slice 104]],.fc 174 [.kO 0 [.slice 84,.raw,.slice 63,.slice 104]],.fn 5,.fn 177,.fn 178,.fc 183 [.kO 0 [.slice 84,.raw,.slice 63,.slice 104]],.fc 181 [.j5 0 (.slice 41),.j5 1 (.slice 41)],.fc 182 [.j5 0 (.slice 65),.j5 1 (.slice 65)]] (.pc aFh<| .nil)
def atZ:af:=⟨[eS 0 3,eI 1,eI 2,eI 7],[]⟩
def aET:Pc:=pL 0 26 0 17592186044352 atZ [xR DA,xE 0 ⟨[],[]⟩]
def alO:FD:=bE 71 Tryz.f71 3 1 0 XH eQ [] (.pc aET<| .nil)
def aTy:af:=⟨[eP 3 0],[yq]⟩
def agF:af:=⟨[eB 4],[yq]⟩
def aGd:Pc:=pJ 0 6 1 16336 aTy [xN ⟨[],[yq]⟩,xR agF]
def aTx:af:=⟨[eS 0 84,eP 3 0],[yq]⟩
def aE5:Pc:=pJ 0 30 1 1152921229728940048 aTx [xN ⟨[],[yq]⟩,xR agF]
def aTw:af:=⟨[eS 0 84,eP 3 0,eI 5],[yq]⟩
def aDA:Pc:=pL 0 250 1 309485008668423564117934128 aTw [xR agF,xE 0 ⟨[],[yq]⟩]
def aTv:af:=⟨[eS 0 84,eA 1 Ln],[]⟩
def Tn:FD:=bE 70 Tryz.f70 2 1 0 aTv eQ [.fn 188] (.pc aDA<| .pc aE5<| .pc aGd<| .nil)
def aFd:Pc:=pJ 0 6 0 8164 s49 [xN ⟨[],[]⟩,xR agL]
def aTu:af:=⟨[eS 0 84,eI 3,eI 4],[]⟩
def aTt:af:=⟨[eI 3],[]⟩
def aCN:Pc:=pL 0 122 0 8589926428 aTu [xR agL,xE 0 aTt]
def abJ:FD:=bE 52 Tryz.f52 1 1 0 s49 eQ [.fn 187] (.pc aCN<| .pc aFd<| .nil)
def aTs:af:=⟨[eS 0 3,eI 1,eI 5],[]⟩
def aIw:Pc:=pL 0 26 0 262128 aTs [xR Ak,xE 0 ⟨[],[]⟩]
def aok:FD:=bE 75 Tryz.f75 2 1 0 WX eQ [] (.pc aIw<| .nil)
def aEO:Pc:=pL 0 26 0 274877906880 atZ [xR DA,xE 0 ⟨[],[]⟩]
def alM:FD:=bE 72 Tryz.f72 3 1 0 XH eQ [.fn 191] (.pc aEO<| .nil)
def aTr:af:=⟨[eP 1 0,eO 4 1,eI 5],[v12,.row 137]⟩
def atY:af:=⟨[eO 4 1],[v12,.row 137]⟩
def aF0:Pc:=pL 0 58 1 1073217584 aTr [xE 0 atY]
def agE:af:=⟨[eP 1 0,eO 4 1],[v12,.row 137]⟩
def aGc:Pc:=ic [.mk 4 137] (pJ 0 14 1 1073217584 agE [xN atY])
def aTq:af:=⟨[eP 1 0,eO 4 1,eI 6,eI 7],[v12,.row 137]⟩
def De:af:=⟨[eO 2 2,eB 3],[v12,.row 137,.row 137]⟩
def Dd:af:=⟨[],[v12,.row 137]⟩
def aCM:Pc:=pL 0 15654 2 1208925819051679221285260 aTq [(.ret,[.mk 2 137],De),xE 4 Dd]
def aTp:af:=⟨[eP 1 0,eO 4 1,eI 6],[v12,.row 137]⟩
def aES:Pc:=pL 0 122 2 1208925819614628100964812 aTp [(.ret,[.mk 2 137],De),xE 2 Dd]
def aGb:Pc:=pJ 0 30 2 1208925819614628100964812 agE [xN Dd,xR De]
def aTo:af:=⟨[eP 1 0,eP 11 1],[v12,kK]⟩
def aTn:af:=⟨[],[v12,kK]⟩
def aTm:af:=⟨[eO 2 2,eB 3],[v12,kK,.row 137]⟩
def aBr:Pc:=pJ 0 1025170 2 174224571701261216464034435613487313977356 aTo [xN aTn,(.ret,[.mk 2 137],aTm)]
def aTl:af:=⟨[eO 4 0,eI 9,eI 10,eI 14],[.row 137]⟩
def aTk:af:=⟨[eB 15],[.row 137]⟩
def az1:Pc:=pJ 0 524887954 1 1496554840663761292882476336125962620205492800094208 aTl [xN aTk]
def aTj:af:=⟨[eP 1 0,eO 4 1,eI 14,eB 15],[v12,.row 137]⟩
def azx:Pc:=pJ 0 1049775910 2 200867254035796107815900673302072056613801562095174180405260 aTj [xN Dd,(.ret,[.mk 2 137],De)]
def aTi:af:=⟨[eP 1 0,eO 4 1,eI 9,eI 10,eO 12 2,eI 13],[v12,.row 137,.row 3]⟩
def aTh:af:=⟨[eO 2 3,eB 3],[v12,.row 137,.row 3,.row 137]⟩
def aTg:af:=⟨[],[v12,.row 137,.row 3]⟩
def aBh:Pc:=pL 0 8201374 3 205688069665150755247070402621138189981306264931549121412653068 aTi [xR aTh,xE 10 aTg]
def aTf:af:=⟨[eP 1 0,eO 4 1,eI 9,eI 10],[v12,.row 137]⟩
def aCL:Pc:=pL 0 16018 2 205688069665150755269371147819668812968099478293524948556250124 aTf [xR De,xE 8 Dd]
def aTe:af:=⟨[eP 1 0,eO 4 1,eI 9],[v12,.row 137]⟩
def aER:Pc:=pL 0 250 2 205688069665150755269371147819668813121633057384582853743934988 aTe [xR De,xE 6 Dd]
def aGa:Pc:=pJ 0 62 2 205688069665150755269371147819668813121633057384582853743934988 agE [xN Dd,xR De]
def aTd:af:=⟨[eP 1 0,eO 4 1,eI 16,eI 17],[v12,.row 137]⟩
def aCK:Pc:=pL 0 32402 2 452312848556938315456184863515707633130918269520434679428993909717333311500 aTd [(.ret,[.mk 2 137],De),xE 14 Dd]
def aTc:af:=⟨[eP 1 0,eO 4 1,eI 16],[v12,.row 137]⟩
def aEQ:Pc:=pL 0 506 2 452312848583060700303659009434917768904016208787035611295926990047992545292 aTc [xR De,xE 12 Dd]
def aTb:af:=⟨[eO 0 0,eB 1],[.row 137]⟩
def xy:FD:=bE 53 Tryz.f53 1 2 0 BR aTb [.fn 188,.fn 190] (.pc aEQ<| .pc aCK<| .pc aGa<| .pc aER<| .pc aCL<| .pc aBh<| .pc azx<| .pc az1<| .pc aBr<| .pc aGb<| .pc aES<| .pc aCM<| .pc aGc<| .pc aF0<| .nil)
def aTa:af:=⟨[eI 1,eI 2],[]⟩
def aS9:af:=⟨[eI 6],[]⟩
def aHS:Pc:=pJ 0 6 0 64576 aTa [xN ⟨[],[]⟩,xR aS9]
def aS8:af:=⟨[eI 1,eI 2,eP 3 0,eI 7,eI 8],[jf]⟩
def aS7:af:=⟨[eI 6],[jf]⟩
def aS6:af:=⟨[eI 7],[jf]⟩
def aFY:Pc:=pL 0 122 1 549755749312 aS8 [xR aS7,xE 0 aS6]
def aS5:af:=⟨[eA 0 km,eI 1,eI 2],[]⟩
def acG:FD:=bE 73 Tryz.f73 3 1 0 aS5 zy [.fn 193] (.pc aFY<| .pc aHS<| .nil)
def aDR:Pc:=pJ 0 244 0 15360 WW [xN agQ]
def atX:af:=⟨[eB 46],[]⟩
def aBu:Pc:=pJ 0 251902 0 1055531162664960 WW [xN atX]
def aS4:af:=⟨[eP 1 0,eP 3 1,eI 4],[jf,v87,.row 74]⟩
def aS3:af:=⟨[eI 4],[jf,v87,.row 74]⟩
def aS2:af:=⟨[eB 2],[jf,v87,.row 74]⟩
def aFb:Pc:=ic [cK 3 8 74] (pJ 0 30 2 147573952589676412692 aS4 [xN aS3,xR aS2])
def Tp:FD:=bE 106 Tryz.f106 1 1 0 Qq eQ [] (.pc aFb<| .pc aBu<| .pc aDR<| .nil)
def aS1:af:=⟨[eS 0 84,eI 1,eI 2],[]⟩
def aJ7:FD:=bE 107 Tryz.f107 3 1 0 aS1 eQ [] .nil
def aS0:af:=⟨[eS 0 84,eI 1,eI 2,eI 3],[]⟩
def aKa:FD:=bE 108 Tryz.f108 4 1 0 aS0 eQ [] .nil
def aJA:FD:=bE 55 Tryz.f55 1 1 0 WY eQ [] .nil
def aGh:Pc:=pJ 0 6 2 130816 au5 [xN au4]
def WO:af:=⟨[(17,.one (cU))],[]⟩
def aSZ:af:=⟨[eB 18],[]⟩
def aDU:Pc:=pJ 0 116 0 33292288 WO [xN aSZ]
def aSY:af:=⟨[eB 27],[]⟩
def aDT:Pc:=pJ 0 470 0 939524096 WO [xN aSY]
def aSX:af:=⟨[eB 48],[]⟩
def aCW:Pc:=pJ 0 1886 0 8725724278030336 WO [xN aSX]
def aSW:af:=⟨[eB 55],[]⟩
def aCV:Pc:=pJ 0 7550 0 540431955284459520 WO [xN aSW]
def JS:FD:=oS [.kO 0 [.raw,.raw,.slice 3,.raw,.raw]] 109 Tryz.f109 3 2 0 au1 Fe [.fn 198] (.pc aCV<| .pc aCW<| .pc aDT<| .pc aDU<| .pc aGh<| .nil)
def aSV:af:=⟨[eO 0 0,eI 1,eI 5],[.row 3]⟩
def aSU:af:=⟨[eB 4],[.row 3]⟩
def aF2:Pc:=pL 1 26 1 262128 aSV [xR aSU,xE 0 Al]
def aST:af:=⟨[eO 0 0,eI 1],[.row 3]⟩
def aSS:af:=⟨[eB 0],[.row 3]⟩
def amg:FD:=bE 75 Tryz.f75 2 1 1 aST aSS [] (.pc aF2<| .nil)
def aSR:af:=⟨[eP 2 0,eP 3 1],[n8,n8]⟩
def aSQ:af:=⟨[eB 15],[n8,n8]⟩
def aFa:Pc:=pJ 0 12 2 64512 aSR [xN aSQ]
def aSP:af:=⟨[eP 4 0,eO 7 1,eI 8],[Bv,.row 116,.row 3]⟩
def atW:af:=⟨[],[Bv,.row 116,.row 3]⟩
def aSO:af:=⟨[eB 5],[Bv,.row 116,.row 3]⟩
def aCb:Pc:=pJ 0 27464 2 549739036704 aSP [xN atW,(.ret,[.yw (λenv M=>0) 2 3],aSO)]
def aSN:af:=⟨[eO 7 0,eI 8,eI 9],[.row 116]⟩
def atV:af:=⟨[],[.row 116]⟩
def aBt:Pc:=pJ 0 439448 1 18013848753668096 aSN [xN atV,xE 2 atV]
def aSM:af:=⟨[eP 6 0,eO 7 1,eI 8,eI 9],[Bv,.row 116,.row 3]⟩
def aBi:Pc:=pL 0 109862 2 2417851639228708593598976 aSM [xE 2 atW]
def aSL:af:=⟨[eP 4 0,eP 6 1,eO 7 2,eI 8],[v131,zh,.row 116,.row 3,.row 3]⟩
def aSK:af:=⟨[eB 5],[v131,zh,.row 116,.row 3,.row 3]⟩
def aSJ:af:=⟨[],[v131,zh,.row 116,.row 3,.row 3]⟩
def aDB:Pc:=ic [cK 4 2 3,cK 6 2 3] (pL 0 858 3 2417851639229258348364576 aSL [xR aSK,xE 0 aSJ])
def JR:FD:=oS [.kO 0 [.raw,.raw,.slice 3,.raw,.raw]] 110 Tryz.f110 2 2 0 auX Fe [.fn 201] (.pc aDB<| .pc aBi<| .pc aBt<| .pc aCb<| .pc aFa<| .nil)
def aF7:Pc:=ic [cK 4 2 3] (pJ 0 6 2 261664 auW [xN agR,(.ret,[.yw (λenv M=>1) 2 3],auV)])
def aSI:af:=⟨[eS 0 84,eP 3 0,eP 6 1,eI 7],[n8,Bv,.row 3]⟩
def aDy:Pc:=ic [cK 6 2 3] (pL 0 122 2 18014398508958080 aSI [xE 0 agR])
def aSH:af:=⟨[eS 0 84,eA 1 An],[]⟩
def ab4:FD:=bE 111 Tryz.f111 2 2 0 aSH agS [] (.pc aDy<| .pc aF7<| .nil)
def Bs:fu:=bV [cS 84,cS 116,cI]
def aSG:af:=⟨[eP 2 0,eP 3 1,eO 6 2,eI 7,eP 8 3],[Bs,jf,.row 116,Bs]⟩
def aSF:af:=⟨[],[Bs,jf,.row 116,Bs]⟩
def aE3:Pc:=pJ 0 7826 4 70368207306752 aSG [(.normal,[.wg (λenv M=>3) 1 116],aSF)]
def aSE:af:=⟨[eP 2 0,eP 3 1,eP 4 2,eO 6 3,eI 7],[Bs,jf,zh,.row 116,.row 3]⟩
def atU:af:=⟨[eB 5],[Bs,jf,v131,.row 3]⟩
def atT:af:=⟨[eO 6 3],[Bs,jf,zh,.row 116,.row 3]⟩
def aFX:Pc:=pL 0 122 3 9223372036852680672 aSE [(.ret,[.yw (λenv M=>2) 2 3],atU),xE 0 atT]
def aSD:af:=⟨[eP 2 0,eP 3 1,eP 4 2,eO 6 3],[Bs,jf,zh,.row 116,.row 3]⟩
def aG4:Pc:=ic [.mk 6 116,cK 4 2 3] (pJ 0 30 3 9223372036852680672 aSD [xN atT,xR atU])
def aSC:af:=⟨[(64,.one (cU))],[]⟩
def aSB:af:=⟨[eB 181],[]⟩
def aCR:Pc:=pJ 0 514046 0 21454937572122444017016858380104328570662347710570430464 aSC [xN aSB]
def aSA:af:=⟨[eP 2 0,eP 3 1],[Bs,jf]⟩
def aSz:af:=⟨[eB 16],[Bs,jf]⟩
def az0:Pc:=pJ 0 2105540604 2 4171849677590358612452047698942944567009888363585430602250676119025960492176409289058389393408 aSA [xN aSz]
def aZm:List dV:=[cS 84,cS 116,cI]
def atS:af:=⟨[eA 0 aZm,eA 1 km],[]⟩
def J1:FD:=oS [.kO 0 [.raw,.raw,.slice 3,.raw,.raw]] 74 Tryz.f74 2 2 0 atS Fe [.fn 198,.fn 194,.fn 195,.fn 196,.fn 197,.fn 199,.fn 200,.fn 202] (.pc az0<| .pc aCR<| .pc aG4<| .pc aFX<| .pc aE3<| .nil)
def aMM:FD:=oS [.kO 0 [.raw,.raw,.slice 3,.raw,.raw]] 54 Tryz.f54 2 2 0 atS Fe [.fn 193,.fn 194] .nil
def aDV:Pc:=pJ 0 52 0 31744 WW [xN agQ]
def aSy:af:=⟨[eS 0 84,eS 1 3,eP 5 0],[jf]⟩
def atQ:af:=⟨[eB 6],[jf]⟩
def aFc:Pc:=pJ 0 6 1 35184372088640 aSy [xN ⟨[],[jf]⟩,xR atQ]
def aSx:af:=⟨[eS 0 84,eS 1 3,eP 5 0,eI 7],[jf]⟩
def aDD:Pc:=pL 0 58 1 2305807824841605312 aSx [xR atQ,xE 1 ⟨[],[jf]⟩]
def S5:FD:=bE 56 Tryz.f56 3 1 0 auP eQ [.fn 203,.fn 191] (.pc aDD<| .pc aFc<| .pc aDV<| .nil)
def atP:af:=⟨[(12,.one (cU))],[]⟩
def aSw:af:=⟨[eB 36],[]⟩
def aBs:Pc:=pJ 0 8224766 0 481036337152 atP [xN aSw]
def az2:Pc:=pJ 0 526385150 0 492581209243648 atP [xN atX]
def PC:fu:=bV [cU,cI,cI,cI,cI,cI,cB,cB,cB,cB,cB,cU,.ak 2,.ak 3,.ak 4,.ak 5,.ak 6,.ak 7,.ak 8,.ak 9,.ak 10]
def aSv:af:=⟨[eP 1 0,eP 3 1,eI 4,eI 5,eI 6,eB 7],[v0,PC,.row 74,.row 74,.row 110,.row 110,.row 3,.row 61,.row 81,.row 78,.row 134]⟩
def aSu:af:=⟨[eI 4,eI 5,eI 6,eB 7],[v0,PC,.row 74,.row 74,.row 110,.row 110,.row 3,.row 61,.row 81,.row 78,.row 134]⟩
def atO:af:=⟨[eB 2],[v0,PC,.row 74,.row 74,.row 110,.row 110,.row 3,.row 61,.row 81,.row 78,.row 134]⟩
def aGe:Pc:=ic [cK 3 12 74,cK 3 13 74,cK 3 14 110,cK 3 15 110,cK 3 16 3,cK 3 17 61,cK 3 18 81,cK 3 19 78,cK 3 20 134] (pJ 0 62 2 166153499473114484112975882535041268 aSv [xN aSu,xR atO])
def aSt:af:=⟨[eP 1 0,eP 3 1],[v0,PC,.row 74,.row 74,.row 110,.row 110,.row 3,.row 61,.row 81,.row 78,.row 134]⟩
def aSs:af:=⟨[],[v0,PC,.row 74,.row 74,.row 110,.row 110,.row 3,.row 61,.row 81,.row 78,.row 134]⟩
def aE8:Pc:=pJ 0 126 2 6277101735386680763835623269708193301618242468581499469828 aSt [xN aSs,xR atO]
def aSr:af:=⟨[eP 1 0,eI 4,eI 5,eI 6],[v0]⟩
def WN:af:=⟨[eB 2],[v0]⟩
def aE7:Pc:=pJ 0 254 1 842498327071355758196663457633574035343494347102037445570453307396 aSr [xN ⟨[],[v0]⟩,xR WN]
def agD:af:=⟨[eP 1 0],[v0]⟩
def aE6:Pc:=pJ 0 510 1 27606142888828906692245440104886632446345884727918341827760062407376900 agD [xN ⟨[],[v0]⟩,xR WN]
def aDO:Pc:=pJ 0 1022 1 1852673400190073739614880610399983076544217944845813135949775123476513179041796 agD [xN ⟨[],[v0]⟩,xR WN]
def Ei:FD:=bE 76 Tryz.f76 1 1 0 s7 eQ [] (.pc aDO<| .pc aE6<| .pc aE7<| .pc aE8<| .pc aGe<| .pc az2<| .pc aBs<| .nil)
def aGg:Pc:=pJ 0 6 1 32764 agD [xN ⟨[],[v0]⟩,xR WN]
def alP:FD:=bE 112 Tryz.f112 1 1 0 s7 eQ [] (.pc aGg<| .nil)
def jz:fu:=bV [cS 84,cI,cS 63,cS 104,cS 137,cI,cS 3,cS 3,cS 3,cS 3,cS 3,cB,cB,cB,cI,cI]
def PN:af:=⟨[eP 2 0,eP 3 1],[jz,v0]⟩
def Db:af:=⟨[],[jz,v0]⟩
def Lb:af:=⟨[eB 4],[jz,v0]⟩
def aCf:Pc:=pJ 0 6 2 8176 PN [xN Db,xR Lb]
def aBw:Pc:=pJ 0 14 2 17179861008 PN [xN Db,xR Lb]
def Dr:List dV:=[cS 84,cI,cS 63,cS 104,cS 137,cI,cS 3,cS 3,cS 3,cS 3,cS 3,cB,cB,cB,cI,cI]
def PM:af:=⟨[eA 0 Dr,eA 1 h6],[]⟩
def aaN:FD:=bE 77 Tryz.f77 2 1 0 PM eQ [.fn 207] (.pc aBw<| .pc aCf<| .nil)
def agn:fu:=bV [cU,cI,cI,cI,.ak 2]
def atN:af:=⟨[eP 3 0,eP 6 1,eI 7],[tL,agn,.row 74]⟩
def aSq:af:=⟨[eI 7],[tL,agn,.row 74]⟩
def aP7:fu:=bV [cU,cI,cI,cI,.ak 3]
def atM:af:=⟨[eO 4 2,eB 5],[tL,aP7,.row 3,.row 74]⟩
def aGj:Pc:=ic [cK 6 4 74] (pJ 0 30 2 137438937264 atN [xN aSq,(.ret,[.mk 4 3],atM)])
def aSp:af:=⟨[],[tL,agn,.row 74]⟩
def aGi:Pc:=pJ 0 62 2 9223371899415822384 atN [xN aSp,(.ret,[.mk 4 3],atM)]
def aSo:af:=⟨[eS 0 84,eA 1 Lo],[]⟩
def atL:af:=⟨[eS 0 3,eB 1],[]⟩
def acp:FD:=oS [.j5 0 (.slice 3)] 190 Tryz.f190 2 2 0 aSo atL [.fc 192 [.kO 0 [.raw,.slice 116,.raw]],.fn 196,.fn 197] (.pc aGi<| .pc aGj<| .nil)
def WM:af:=⟨[eA 0 Dr,eI 1],[]⟩
def aIm:FD:=bE 115 Tryz.f115 2 1 0 WM eQ [.fn 191] .nil
def atK:af:=⟨[eP 2 0,eP 3 1],[jz,jf]⟩
def agC:af:=⟨[],[jz,jf]⟩
def agB:af:=⟨[eB 4],[jz,jf]⟩
def aDX:Pc:=pJ 0 6 2 2097104 atK [xN agC,xR agB]
def aC0:Pc:=pJ 0 14 2 17592183947280 atK [xN agC,xR agB]
def aSn:af:=⟨[eP 2 0,eP 3 1,eI 5],[jz,jf]⟩
def aB2:Pc:=pL 0 122 2 576443160117379120 aSn [xR agB,xE 0 agC]
def WL:af:=⟨[eA 0 Dr,eA 1 km],[]⟩
def SU:FD:=bE 191 Tryz.f191 2 1 0 WL eQ [.fn 213,.fn 212] (.pc aB2<| .pc aC0<| .pc aDX<| .nil)
def aSm:af:=⟨[eP 2 0,eP 3 1,eI 8],[jz,tL]⟩
def agA:af:=⟨[eO 4 2,eB 5],[jz,tL,.row 3]⟩
def agz:af:=⟨[],[jz,tL]⟩
def aBm:Pc:=pL 0 122 2 34358690096 aSm [(.ret,[.mk 4 3],agA),xE 0 agz]
def aSl:af:=⟨[eP 2 0,eP 3 1],[jz,tL]⟩
def aCg:Pc:=pJ 0 30 2 34358690096 aSl [xN agz,xR agA]
def aSk:af:=⟨[eP 2 0,eP 3 1,eS 6 3,eI 9],[jz,tL]⟩
def aBl:Pc:=pL 0 250 2 4611685984067650096 aSk [(.ret,[.mk 4 3],agA),xE 2 agz]
def atJ:af:=⟨[eA 0 Dr,eA 1 Lo],[]⟩
def SD:FD:=oS [.j5 0 (.slice 3),.j5 0 (.slice 3)] 152 Tryz.f152 2 2 0 atJ atL [.fn 191,.fn 213,.fn 211,.fn 212] (.pc aBl<| .pc aCg<| .pc aBm<| .nil)
def aHF:FD:=bE 153 Tryz.f153 2 2 0 WL Fe [.fc 192 [.kO 0 [.raw,.slice 116,.raw]],.fn 212] .nil
def atI:af:=⟨[eS 0 3,eS 1 3,eI 5],[]⟩
def aEP:Pc:=pL 0 26 0 524272 atI [xR Ak,xE 0 ⟨[],[]⟩]
def alN:FD:=bE 192 Tryz.f192 2 1 0 WV eQ [.fn 191] (.pc aEP<| .nil)
def aSh:af:=⟨[eA 0 Ln,eA 1 An],[]⟩
def aJ9:FD:=bE 154 Tryz.f154 2 1 0 aSh eQ [.fn 217] .nil
def aSg:af:=⟨[eA 0 Dr,eA 1 km,eI 2],[]⟩
def aEB:FD:=bE 117 Tryz.f117 3 1 0 aSg eQ [.fn 214,.fn 216] .nil
def aSf:af:=⟨[eP 2 0,eP 3 1,eS 5 3,eI 9],[jz,v0]⟩
def aCO:Pc:=pL 0 250 2 140736414614032 aSf [xR Lb,xE 0 Db]
def alp:FD:=bE 113 Tryz.f113 2 1 0 PM eQ [.fn 215,.fn 210,.fn 214] (.pc aCO<| .nil)
def aCB:FD:=bE 114 Tryz.f114 2 1 0 WL eQ [.fn 198,.fn 214] .nil
def aFL:FD:=bE 116 Tryz.f116 2 1 0 WL eQ [.fn 214] .nil
def aEA:FD:=bE 118 Tryz.f118 2 1 0 atJ eQ [.fn 210] .nil
def aSe:af:=⟨[eA 0 Dr,eI 1,eI 2],[]⟩
def aGP:FD:=bE 119 Tryz.f119 3 1 0 aSe eQ [] .nil
def aHE:FD:=bE 160 Tryz.f160 2 1 0 auO eQ [.fn 224] .nil
def aSd:af:=⟨[eS 0 74,eS 1 74,eI 5],[]⟩
def aF3:Pc:=pL 0 58 0 134215728 aSd [xR Ak,xE 0 ⟨[],[]⟩]
def aSc:af:=⟨[eS 0 74,eS 1 74],[]⟩
def amh:FD:=bE 156 Tryz.f156 2 1 0 aSc eQ [.fn 225] (.pc aF3<| .nil)
def aSb:af:=⟨[eS 0 110,eS 1 110,eI 5],[]⟩
def aEU:Pc:=pL 0 58 0 2417851639229258349410352 aSb [xR Ak,xE 0 ⟨[],[]⟩]
def aSa:af:=⟨[eS 0 110,eS 1 110],[]⟩
def aI3:FD:=bE 157 Tryz.f157 2 1 0 aSa eQ [.fn 224] (.pc aEU<| .nil)
def aG0:Pc:=pL 0 58 0 67106864 atI [xR Ak,xE 0 ⟨[],[]⟩]
def aJ8:FD:=bE 158 Tryz.f158 2 1 0 WV eQ [] (.pc aG0<| .nil)
def aR9:af:=⟨[eS 0 61,eS 1 61,eI 5],[]⟩
def aFW:Pc:=pL 0 58 0 134215728 aR9 [xR Ak,xE 0 ⟨[],[]⟩]
def aR8:af:=⟨[eS 0 61,eS 1 61],[]⟩
def aJB:FD:=bE 159 Tryz.f159 2 1 0 aR8 eQ [.fn 223] (.pc aFW<| .nil)
def aDW:Pc:=pJ 0 6 2 4951760157141521099596495888 Dk [xN Dj,xR Di]
def aCZ:Pc:=pJ 0 14 2 348449143727036034826338456489031052034064 Dk [xN Dj,xR Di]
def aCY:Pc:=pJ 0 30 2 11692012750198079618588492075234666147116811812880 Dk [xN Dj,xR Di]
def aR7:af:=⟨[eP 2 0,eP 3 1,eI 5],[v0,v0]⟩
def aB1:Pc:=pL 0 250 2 1606938044247298262443314868995533123860472729625545374957616 aR7 [xR Di,xE 0 Dj]
def aCX:Pc:=pJ 0 62 2 1606938044247298262443314868995533123860472729625545374957616 Dk [xN Dj,xR Di]
def aR6:af:=⟨[eP 2 0,eP 3 1,eI 6],[v0,v0]⟩
def aB0:Pc:=pL 0 506 2 220855883095691103153653197317322852386094324506930166771417982326276176 aR6 [xR Di,xE 2 Dj]
def aCc:Pc:=pJ 0 126 2 220855883095691103153653197317322852386094324506930166771417982326276176 Dk [xN Dj,xR Di]
def aR5:af:=⟨[eP 2 0,eP 3 1,eI 7],[v0,v0]⟩
def aBj:Pc:=pL 0 1018 2 509258994083621521346255539005046499064954910823619248180599625229142955175633401384272784 aR5 [xR Di,xE 4 Dj]
def aHD:FD:=bE 125 Tryz.f125 2 1 0 auN eQ [.fn 223,.fn 224,.fn 226,.fn 227,.fn 228,.fn 225] (.pc aBj<| .pc aCc<| .pc aB0<| .pc aCX<| .pc aB1<| .pc aCY<| .pc aCZ<| .pc aDW<| .nil)
def atH:af:=⟨[eP 4 0,eI 7],[v0]⟩
def aR4:af:=⟨[eI 7],[v0]⟩
def aCe:Pc:=pJ 0 14 1 130688 atH [xN aR4]
def agy:af:=⟨[eI 2,eP 4 0,eI 7],[v0]⟩
def atG:af:=⟨[eB 6],[v0]⟩
def aCd:Pc:=pJ 0 30 1 17179738176 agy [xN ⟨[],[v0]⟩,xR atG]
def aR3:af:=⟨[eI 2,eP 4 0,eI 8],[v0]⟩
def aBk:Pc:=pL 0 506 1 36893347409930748224 aR3 [xR atG,xE 0 ⟨[],[v0]⟩]
def WK:af:=⟨[eA 0 Dr,eA 1 h6,eI 2],[]⟩
def aGN:FD:=bE 120 Tryz.f120 3 1 0 WK eQ [.fn 219,.fc 223 [.kO 1 [.raw,.raw,.raw,.raw,.raw,.raw,.raw,.raw,.raw,.raw,.raw,.raw,.slice 74,.slice 74,.slice 110,.slice 110,.slice 3,.slice 61,.slice 81,.slice 78,.slice 134]]] (.pc aBk<| .pc aCd<| .pc aCe<| .nil)
def aI4:FD:=bE 155 Tryz.f155 2 1 0 auy eQ [.fn 217] .nil
def aDY:Pc:=pJ 0 6 2 33552400 PN [xN Db,xR Lb]
def aR2:af:=⟨[eP 3 0,eP 5 1],[v0,kK]⟩
def aR1:af:=⟨[],[v0,kK]⟩
def aR0:af:=⟨[eB 4],[v0,kK]⟩
def aC2:Pc:=pJ 0 30 2 9007061815787536 aR2 [xN aR1,xR aR0]
def aRZ:af:=⟨[eP 2 0,eP 3 1,eP 5 2,eI 6],[jz,v0,kK]⟩
def agx:af:=⟨[eB 4],[jz,v0,kK]⟩
def agw:af:=⟨[],[jz,v0,kK]⟩
def aB4:Pc:=pL 0 250 3 9444723958540035686480 aRZ [xR agx,xE 0 agw]
def aRY:af:=⟨[eP 2 0,eP 3 1,eP 5 2],[jz,v0,kK]⟩
def aC1:Pc:=pJ 0 62 3 9444723958540035686480 aRY [xN agw,xR agx]
def aRX:af:=⟨[eP 2 0,eP 5 1,eI 7,eS 8 3,eI 10],[jz,kK]⟩
def aRW:af:=⟨[eB 4],[jz,kK]⟩
def aRV:af:=⟨[],[jz,kK]⟩
def azU:Pc:=pL 0 129614 2 664613992940697779310382430543676432 aRX [xR aRW,xE 4 aRV]
def aRU:af:=⟨[eP 2 0,eP 3 1,eP 5 2,eI 7],[jz,v0,kK]⟩
def aB3:Pc:=pL 0 506 3 664613997892448491718937790849746832 aRU [xR agx,xE 2 agw]
def aHG:FD:=bE 121 Tryz.f121 2 1 0 PM eQ [.fn 215,.fn 221,.fn 210,.fn 230] (.pc aB3<| .pc azU<| .pc aC1<| .pc aB4<| .pc aC2<| .pc aDY<| .nil)
def aIl:FD:=bE 122 Tryz.f122 2 1 0 WM eQ [.fn 191,.fn 221] .nil
def aBx:Pc:=pJ 0 6 2 68719475728 PN [xN Db,xR Lb]
def aRT:af:=⟨[eP 6 0],[kK]⟩
def aRS:af:=⟨[],[kK]⟩
def aRR:af:=⟨[eB 4],[kK]⟩
def aAK:Pc:=pJ 0 30 1 1179438699212804456464 aRT [xN aRS,xR aRR]
def aRQ:af:=⟨[eP 5 0,eP 6 1],[kK,kK]⟩
def aRP:af:=⟨[],[kK,kK]⟩
def aRO:af:=⟨[eB 4],[kK,kK]⟩
def aAJ:Pc:=pJ 0 62 2 77370071863715549769891856 aRQ [xN aRP,xR aRO]
def aRN:af:=⟨[eP 2 0,eO 7 1,eO 8 2,eI 9],[jz,.row 3,.row 3]⟩
def aRM:af:=⟨[eB 4],[jz,.row 3,.row 3]⟩
def aRL:af:=⟨[],[jz,.row 3,.row 3]⟩
def azt:Pc:=pL 0 1018 3 356811923176488702613971264132972287392481808 aRN [xR aRM,xE 0 aRL]
def aEz:FD:=bE 123 Tryz.f123 2 1 0 PM eQ [.fn 221,.fn 230] (.pc azt<| .pc aAJ<| .pc aAK<| .pc aBx<| .nil)
def azy:Pc:=pJ 0 13820 2 151115727451827573096464 PN [xN Db,xR Lb]
def atF:af:=⟨[(6,.one (cU))],[]⟩
def aRK:af:=⟨[eB 158],[]⟩
def ay5:Pc:=pJ 0 884734 0 2557627865329080106856448457253495284397881950208 atF [xN aRK]
def aRJ:af:=⟨[eB 167],[]⟩
def ayM:Pc:=pJ 0 3538942 0 1309505467048489014710501610113789585611715558506496 atF [xN aRJ]
def Sv:FD:=bE 78 Tryz.f78 2 1 0 PM eQ [.fn 190,.fn 191,.fn 209,.fn 218,.fn 213,.fn 219,.fn 215,.fn 220,.fn 221,.fn 222,.fn 229,.fn 231,.fn 232] (.pc ayM<| .pc ay5<| .pc azy<| .nil)
def atE:af:=⟨[eA 0 Dr],[]⟩
def aGO:FD:=oS [.kO 0 [.raw,.raw,.raw,.raw,.raw,.raw,.slice 3,.raw,.raw,.raw,.raw,.raw,.raw,.raw,.raw,.raw]] 124 Tryz.f124 1 1 0 atE atE [] .nil
def aRI:af:=⟨[eP 3 0,eP 4 1],[jz,v0]⟩
def La:af:=⟨[eI 6],[jz,v0]⟩
def aG5:Pc:=pJ 0 6 2 274877890624 aRI [xN Db,xR La]
def aE4:Pc:=pJ 0 232 1 140462610448384 agy [xN ⟨[],[v0]⟩,xE 0 ⟨[],[v0]⟩]
def atD:af:=⟨[eI 2,eP 3 0,eP 4 1,eI 7],[jz,v0]⟩
def PK:af:=⟨[eI 2],[jz,v0]⟩
def aFZ:Pc:=pL 0 58 2 37778931862682283803524 atD [xE 0 PK]
def WG:af:=⟨[eI 2,eP 3 0,eP 4 1],[jz,v0]⟩
def aF9:Pc:=pJ 0 14 2 37778931862682283803524 WG [xN PK]
def aF8:Pc:=pJ 0 62 2 38610068363942219267178500 WG [xN PK]
def aRH:af:=⟨[eI 2,eP 4 0,eI 11],[v0]⟩
def aDN:Pc:=pJ 0 8168 1 39536710004676832529590779904 aRH [xN ⟨[],[v0]⟩,xE 2 ⟨[],[v0]⟩]
def aRG:af:=⟨[eP 3 0,eP 4 1,eI 11,eP 12 2],[jz,v0,C8]⟩
def aRF:af:=⟨[],[jz,v0,C8]⟩
def aRE:af:=⟨[eI 6],[jz,v0,C8]⟩
def aCa:Pc:=pJ 0 130706 3 10633818895676926070312850495429935168 aRG [xN aRF,xR aRE]
def aRD:af:=⟨[eO 10 1,eP 12 0,eI 13],[C8,.row 3]⟩
def aRC:af:=⟨[eI 6],[C8]⟩
def aRB:af:=⟨[eO 10 1],[C8,.row 3]⟩
def aBg:Pc:=pL 0 1045658 1 44601479763237280003744453314840240769213504 aRD [xR aRC,xE 4 aRB]
def aRA:af:=⟨[eI 2,eP 3 0,eP 4 1,eO 10 2,eI 11],[jz,v0,.row 3]⟩
def aDz:Pc:=ic [.mk 10 3] (pL 0 2042 2 1427247692705959880980914716994158869201566788 aRA [xR La,xE 2 PK])
def A2:FD:=bE 79 Tryz.f79 3 1 0 WK zy [.fn 204,.fn 188,.fn 190,.fn 201,.fn 234] (.pc aDz<| .pc aBg<| .pc aCa<| .pc aDN<| .pc aF8<| .pc aF9<| .pc aFZ<| .pc aE4<| .pc aG5<| .nil)
def aRz:af:=⟨[eP 4 0],[v0]⟩
def aRy:af:=⟨[eI 6],[v0]⟩
def aGf:Pc:=pJ 0 6 1 274877890624 aRz [xN ⟨[],[v0]⟩,xR aRy]
def aRx:af:=⟨[eI 2,eP 4 0,eI 10],[v0]⟩
def aCU:Pc:=pJ 0 2024 1 35958428274786304 aRx [xN ⟨[],[v0]⟩,xE 0 ⟨[],[v0]⟩]
def aRw:af:=⟨[eP 3 0,eI 7,eI 8,eI 9,eP 11 1,eP 12 2],[jz,PF,jz]⟩
def aRv:af:=⟨[eI 7,eI 8,eI 9],[jz,PF,jz]⟩
def aBv:Pc:=pJ 0 129614 3 9671258982964443721237376 aRw [(.normal,[.wg (λenv M=>2) 8 3],aRv)]
def aRu:af:=⟨[eI 2,eP 3 0,eP 4 1,eI 7,eI 8,eI 9,eI 10],[jz,v0]⟩
def atC:af:=⟨[eI 2,eI 7,eI 8,eI 9],[jz,v0]⟩
def aDC:Pc:=pL 0 506 2 39614081257132098428027805636 aRu [xR La,xE 0 atC]
def aRt:af:=⟨[eI 2,eP 3 0,eP 4 1,eI 7,eI 8,eI 9],[jz,v0]⟩
def aDS:Pc:=pJ 0 126 2 39614081257132098428027805636 aRt [xN atC,xR La]
def aI5:FD:=bE 80 Tryz.f80 3 1 0 WK zy [.fn 204,.fn 236,.fc 223 [.kO 1 [.raw,.raw,.raw,.raw,.raw,.raw,.raw,.raw,.raw,.raw,.raw,.raw,.slice 74,.slice 74,.slice 110,.slice 110,.slice 3,.slice 61,.slice 81,.slice 78,.slice 134]],.fn 238] (.pc aDS<| .pc aDC<| .pc aBv<| .pc aCU<| .pc aGf<| .nil)
def aZk:List dV:=[cS 84,cI,cS 63,cS 104,cS 137,cI,cS 3,cS 3,.ak 0,cS 3,cS 3,cB,cB,cB,cI,cI]
def aRs:af:=⟨[eA 0 aZk],[.row 3]⟩
def aCC:FD:=bE 81 Tryz.f81 2 1 0 WM aRs [.fn 234] .nil
def aZj:List dV:=[cS 84,cI,cS 63,cS 104,cS 137,cI,cS 3,cS 3,cS 3,.ak 0,cS 3,cB,cB,cB,cI,cI]
def aRr:af:=⟨[eA 0 aZj],[.row 3]⟩
def aFM:FD:=bE 82 Tryz.f82 2 1 0 WM aRr [.fn 234] .nil
def aRq:af:=⟨[(13,.one (cU))],[]⟩
def ayr:Pc:=pJ 0 982 0 469762048 aRq [xN au2]
def aRp:af:=⟨[eA 0 Dr,eA 1 ahp],[]⟩
def aBc:FD:=bE 126 Tryz.f126 2 1 0 aRp eQ [.fn 218,.fn 219,.fn 231,.fc 223 [.kO 1 [.raw,.raw,.raw,.raw,.raw,.raw,.raw,.raw,.raw,.raw,.raw,.raw,.slice 74,.slice 74,.slice 110,.slice 110,.slice 3,.slice 61,.slice 81,.slice 78,.slice 134]]] (.pc ayr<| .nil)
def aHT:Pc:=pJ 0 6 2 8589934144 WG [xN Db,xR La]
def aG6:Pc:=pJ 0 62 2 19342813113833517039484992 WG [(.normal,[.wg (λenv M=>0) 6 3,.wg (λenv M=>0) 7 3,.wg (λenv M=>0) 10 3],Db),xR La]
def aE9:Pc:=pJ 0 2024 1 9884177501169208132397694976 agy [xN ⟨[],[v0]⟩,xE 1 ⟨[],[v0]⟩]
def atB:af:=⟨[eP 3 0,eP 4 1,eI 7,eP 8 2],[jz,v0,jz]⟩
def atA:af:=⟨[],[jz,v0,jz]⟩
def aDQ:Pc:=pJ 0 32402 3 162180048666699099053984466337792 atB [(.normal,[.wg (λenv M=>2) 8 3],atA)]
def aRo:af:=⟨[eB 118],[v0]⟩
def aCT:Pc:=pJ 0 129612 1 664451738615628723088511952129884160 atH [xN aRo]
def aDP:Pc:=pJ 0 64806 3 10633661707002497769867064904232468480 atB [(.normal,[.wg (λenv M=>2) 9 3],atA)]
def aRn:af:=⟨[eP 4 0,eI 7,eP 8 1],[v0,jz]⟩
def aRm:af:=⟨[],[v0,jz]⟩
def aCS:Pc:=pJ 0 129614 2 44601479763237280003744453314840240769204224 aRn [xN aRm]
def aF1:Pc:=pL 0 506 2 11417981541647679048446944942482127024266674564 atD [xE 1 PK]
def Ck:FD:=bE 57 Tryz.f57 3 1 0 WK zy [.fn 204,.fn 205,.fn 206,.fn 208,.fn 233,.fn 235,.fn 236,.fn 237] (.pc aF1<| .pc aCS<| .pc aDP<| .pc aCT<| .pc aDQ<| .pc aE9<| .pc aG6<| .pc aHT<| .nil)
def aRl:af:=⟨[eO 1 0,eP 2 1,eI 5],[.row 3,v0]⟩
def atz:af:=⟨[],[.row 3,v0]⟩
def aBf:Pc:=pL 0 234 2 536866848 aRl [xE 0 atz]
def aRk:af:=⟨[eO 1 0,eP 2 1],[.row 3,v0]⟩
def aB9:Pc:=pJ 0 14 2 536870432 aRk [xN atz]
def aRj:af:=⟨[eO 1 0,eO 4 1,eI 6],[.row 3,.row 61]⟩
def aRi:af:=⟨[],[.row 3,.row 61]⟩
def aBZ:Pc:=pL 0 62 2 2198486384704 aRj [xE 2 aRi]
def aRh:af:=⟨[eA 0 h6,eO 1 0],[.row 3]⟩
def SC:FD:=bE 58 Tryz.f58 2 0 1 aRh Al [.fn 3,.fn 240] (.pc aBZ<| .pc aB9<| .pc aBf<| .nil)
def aIx:Pc:=pJ 0 6 1 562949953290244 Ld [xN ⟨[],[v12]⟩,xR BS]
def aRg:af:=⟨[eP 1 0,eI 3],[v12]⟩
def aG1:Pc:=pL 0 122 1 4951760157069463505558568988 aRg [xR BS,xE 0 ⟨[],[v12]⟩]
def aHU:Pc:=pJ 0 30 1 4951760157069463505558568988 Ld [xN ⟨[],[v12]⟩,xR BS]
def aRf:af:=⟨[eP 8 0],[E6]⟩
def aFe:Pc:=pJ 0 65170 1 42532699716688040519107560680806416388 aRf [xN auq,xR aup]
def aRe:af:=⟨[eP 1 0,eP 8 1,eI 9],[v12,E6]⟩
def aDF:Pc:=pL 0 260686 2 187072209578313038234206541279751304690030394478084 aRe [xR auo,xE 4 aun]
def aRd:af:=⟨[eP 1 0,eI 7],[v12]⟩
def aF5:Pc:=pL 0 1018 1 187072209578355573529437833287570111815211013902212 aRd [xR BS,xE 2 ⟨[],[v12]⟩]
def aG7:Pc:=pJ 0 254 1 187072209578355573529437833287570111815211013902212 Ld [xN ⟨[],[v12]⟩,xR BS]
def aRc:af:=⟨[eP 1 0,eS 5 137,eI 12,eI 13],[v12]⟩
def aRb:af:=⟨[eI 12],[v12]⟩
def aF4:Pc:=ic [.j5 5 (.slice 137)] (pL 0 4090 1 1569275246774460612603373825730258016341362345156643139584 aRc [xE 6 aRb])
def aRa:af:=⟨[eP 1 0,eO 5 1,eI 12],[v12,.row 137]⟩
def aQ9:af:=⟨[eI 12],[v12,.fx 137]⟩
def aGk:Pc:=pJ 0 1022 2 1569275246774460612603373825730258016341362345156643139584 aRa [xN aQ9]
def aQ8:af:=⟨[eP 1 0,eO 14 1,eI 15],[v12,.row 3]⟩
def WE:af:=⟨[],[v12,.row 3]⟩
def aEX:Pc:=pL 0 32762 2 3290908681014645897417716992483929687302814093580048302145044480 aQ8 [xE 8 WE]
def aQ7:af:=⟨[eP 1 0,eO 14 1,eI 16],[v12,.row 3]⟩
def aQ6:af:=⟨[eB 2],[v12,.row 3]⟩
def aEW:Pc:=pL 0 65530 2 13476682324460677485249197605144700635808606739539019080825107972100 aQ7 [xR aQ6,xE 10 WE]
def yS:FD:=bE 41 Tryz.f41 1 1 0 BR eQ [.fn 186,.fn 189,.fc 192 [.kO 0 [.raw,.slice 116,.raw]],.fn 198,.fn 203,.fc 204 [.kO 0 [.raw,.raw,.raw,.raw,.raw,.raw,.slice 3,.slice 3,.slice 3,.slice 3,.slice 3,.raw,.raw,.raw,.raw,.raw]],.fn 240] (.pc aEW<| .pc aEX<| .pc aGk<| .pc aF4<| .pc aG7<| .pc aF5<| .pc aDF<| .pc aFe<| .pc aHU<| .pc aG1<| .pc aIx<| .nil)
def aQ5:af:=⟨[eO 0 2,eO 5 1,eI 6],[.gone,.row 61,.row 61]⟩
def aQ4:af:=⟨[eO 0 2],[.gone,.row 61,.row 61]⟩
def aDE:Pc:=pL 1 122 2 33546305 aQ5 [xE 0 aQ4]
def aQ3:af:=⟨[eO 0 0,eA 1 h6],[.row 61]⟩
def alQ:FD:=bE 50 Tryz.f50 2 1 1 aQ3 at3 [.fn 244,.fn 3] (.pc aDE<| .nil)
def aQ2:af:=⟨[eP 1 0,eO 3 1,eI 4],[v12,.row 61]⟩
def aQ1:af:=⟨[eO 3 1],[v12,.row 61]⟩
def aG2:Pc:=ic [.mk 3 61] (pL 0 122 1 8388376 aQ2 [xE 0 aQ1])
def anE:FD:=oS [.mk 0 61] 12 Tryz.f12 1 1 0 BR s8 [.fn 185,.fn 244] (.pc aG2<| .nil)
def aQ0:af:=⟨[eO 3 0,eI 4,eI 6],[.row 41]⟩
def aQZ:af:=⟨[],[.row 41]⟩
def aQY:af:=⟨[eB 2],[.row 41]⟩
def az6:Pc:=pJ 0 62 1 8791798054916 aQ0 [xN aQZ,xR aQY]
def aQX:af:=⟨[eP 1 0,eO 9 1,eI 63,eI 64],[v12,.row 3]⟩
def ay1:Pc:=pL 0 8186 2 19342794667089993085748224 aQX [xE 0 WE]
def aQW:af:=⟨[eP 1 0,eO 9 1],[v12,.row 3]⟩
def ay7:Pc:=pJ 0 2046 2 19342810807991057581605888 aQW [xN WE]
def C7:fu:=bV [cI,cI,cS 3]
def aQV:af:=⟨[eO 3 0,eP 12 1],[.row 41,C7]⟩
def aQU:af:=⟨[],[.row 41,C7]⟩
def aQT:af:=⟨[eB 2],[.row 41,C7]⟩
def aya:Pc:=pJ 0 2096434 2 21267647931320713927175532689586388996 aQV [xN aQU,xR aQT]
def aQS:af:=⟨[eO 9 0,eP 12 1,eI 14],[.row 3,C7]⟩
def aQR:af:=⟨[],[.row 3,C7]⟩
def aQQ:af:=⟨[eB 2],[.row 3,C7]⟩
def axK:Pc:=pJ 0 1073375026 2 356809200917554602756863785365514329949995012 aQS [xN aQR,xR aQQ]
def aQP:af:=⟨[eO 3 0,eO 7 1,eO 8 2,eO 9 3,eP 12 4,eS 125 3,eI 126,eI 127],[.row 41,.row 61,.row 3,.row 3,C7]⟩
def aQO:af:=⟨[eB 2],[.row 41,.row 61,.row 3,.row 3,C7]⟩
def aQN:af:=⟨[],[.row 41,.row 61,.row 3,.row 3,C7]⟩
def ax7:Pc:=pL 0 8385742 5 51422017416287688817342616813733742811478764113745654845587460 aQP [xR aQO,xE 4 aQN]
def aQM:af:=⟨[eO 3 0,eO 7 1,eO 8 2,eO 9 3,eO 84 4,eI 85,eI 86],[.row 41,.row 61,.row 3,.row 3,.row 65]⟩
def aQL:af:=⟨[eB 2],[.row 41,.row 61,.row 3,.row 3,.row 65]⟩
def aQK:af:=⟨[],[.row 41,.row 61,.row 3,.row 3,.row 65]⟩
def ayJ:Pc:=pL 0 16378 5 102844034832575377634685573909834406484049739146762474278146052 aQM [xR aQL,xE 2 aQK]
def aQJ:af:=⟨[eO 3 0,eO 5 1,eO 7 2,eO 8 3,eO 9 4],[.row 41,.row 65,.row 61,.row 3,.row 3]⟩
def aQI:af:=⟨[],[.row 41,.row 65,.row 61,.row 3,.row 3]⟩
def aQH:af:=⟨[eB 2],[.row 41,.row 65,.row 61,.row 3,.row 3]⟩
def ay6:Pc:=pJ 0 4094 5 102844034832575377634685573909834406542078178488264674664042500 aQJ [xN aQI,xR aQH]
def aQG:af:=⟨[eO 9 0,eI 16,eP 17 1,eI 18],[.row 3,v0]⟩
def aQF:af:=⟨[eI 18],[.row 3,v0]⟩
def ax9:Pc:=pJ 0 8387174 2 431345982637951667066335001638853631974154448873724091058750975377408 aQG [xN aQF]
def aQE:af:=⟨[eO 8 0,eO 9 1,eO 206 2,eI 207,eI 208],[.row 3,.row 3,.row 61]⟩
def aQD:af:=⟨[eB 2],[.row 3,.row 3,.row 61]⟩
def aQC:af:=⟨[],[.row 3,.row 3,.row 61]⟩
def ayI:Pc:=pL 0 32762 3 55213970362948370969176536359473907980271245531679126032905227953700868 aQE [xR aQD,xE 6 aQC]
def ly:FD:=bE 4 Tryz.f4 1 1 0 BR eQ [.fn 4,.fn 12,.fn 1,.fn 174,.fn 184,.fn 2] (.pc ayI<| .pc ax9<| .pc ay6<| .pc ayJ<| .pc ax7<| .pc axK<| .pc aya<| .pc ay7<| .pc ay1<| .pc az6<| .nil)
end
noncomputable section
def EE:List FD:=[ly,amj,ami,JT,aJC,aLu,aKb,aLv,aLs,aLt,aKc,aJD,akK,ak2,A4,Ns,alr,axq,ain,aFU,xx,R9,aGR,aED,alq,aGU,alR,Ju,ab6,aHO,aHN,aHM,aHK,aHL,aHJ,aCA,aAC,aAB,aDx,aFS,aKg,aEH,aJI,S6,abK,ly,aGS,aEE,ly,ly,ly,ly,R8,axO,axA,ly,ly,ly,ly,ly,ly,ly,ly,ly,ly,ly,ly,ly,ly,Zo,ZY,ab5,aA9,ajJ,axr,aio,aHI,aax,NP,Nl,ail,aGV,ajK,aif,aFT,aik,aic,aEK,ahZ,aEJ,aih,aEI,Sf,als,Sj,Jo,aEF,aj5,aFP,awW,ah2,aCD,aw2,ah6,aBT,aFQ,axg,aie,aDv,aFR,aIo,axu,aiq,aGT,aAD,aCF,aBU,aEG,aDw,aaq,aJG,Jt,axa,aib,aCG,aJH,aFO,ajL,ah7,aBV,Ce,aDu,Jj,aAE,aJF,aDt,aBb,aBa,aCH,awV,ah1,aCE,Jw,Gb,ayF,aI6,aIp,aGQ,awR,ahY,aEC,Za,awz,ahG,ayn,RZ,aBd,MI,aBe,Zp,ayZ,ai8,ahP,aiN,awD,ahL,azr,awH,ahS,azs,ay0,RY,ahT,azP,aa8,ly,aIn,ayG,azQ,ly,aFN,aGL,aGM,aJE,anE,yS,abJ,Tn,alO,xy,alM,aok,aMM,acG,J1,Tp,aJ7,aKa,aJA,JS,JR,amg,ab4,S5,Ck,Ei,aaN,alP,Sv,alp,SD,acp,SU,aIm,aHF,aEB,aJ9,alN,aCB,aFL,aEA,aGP,aGN,aHD,amh,aHE,aI3,aJ8,aJB,aHG,aI4,aIl,aEz,A2,aGO,aI5,aCC,aFM,aBc,ly,SC,ly,ly,ly,alQ]
def SK:=cG CX EE JT 4
def abk:=ck CX EE JT 3
def Sz:=cG CX EE JT 2
def SL:=ck CX EE JT 1
def Gq:=cG CX EE JT 0
def SJ:=cG CX EE ami 0
def SZ:=cG CX EE amj 0
def Nh:=cG CX EE alr 0
def Mu:=cG CX EE ain 0
def aaZ:=ck CX EE Ns 3
def Z3:=ck CX EE Ns 2
def ZQ:=ck CX EE Ns 1
def Gl:=cG CX EE Ns 0
def Zx:=ck CX EE R9 2
def Zq:=ck CX EE R9 1
def MF:=cG CX EE R9 0
def Gr:=cG CX EE alq 0
def Jq:=cG CX EE xx 11
def JD:=cG CX EE xx 10
def SP:=ck CX EE xx 9
def Zv:=ck CX EE xx 8
def Y9:=ck CX EE xx 7
def Jb:=cG CX EE xx 6
def Gg:=cG CX EE xx 5
def Jp:=cG CX EE xx 4
def Jy:=cG CX EE xx 3
def SN:=ck CX EE xx 2
def MZ:=cG CX EE xx 1
def Ng:=cG CX EE xx 0
def Nf:=cG CX EE alR 0
def aaD:=ck CX EE ab6 1
def Z4:=ck CX EE ab6 0
def abn:=ck CX EE S6 2
def aa1:=ck CX EE S6 1
def aaE:=ck CX EE S6 0
def I2:=cG CX EE Zo 1
def MB:=cG CX EE Zo 0
def abm:=ck CX EE abK 1
def zR:=cG CX EE abK 0
def ai9:=ck CX EE ZY 1
def Ja:=cG CX EE ZY 0
def Z2:=ck CX EE Ju 4
def Zu:=ck CX EE Ju 3
def AX:=cG CX EE Ju 2
def Sb:=ck CX EE Ju 1
def Zf:=ck CX EE Ju 0
def R3:=cG CX EE ajJ 0
def Ry:=cG CX EE aio 0
def aaY:=ck CX EE ab5 1
def abl:=ck CX EE ab5 0
def Rx:=cG CX EE ail 0
def R4:=cG CX EE ajK 0
def Rs:=cG CX EE aif 0
def Rv:=cG CX EE aik 0
def Rq:=cG CX EE aic 0
def Rl:=cG CX EE ahZ 0
def Rt:=cG CX EE aih 0
def aau:=ck CX EE Nl 3
def aag:=ck CX EE Nl 2
def aaf:=ck CX EE Nl 1
def aaF:=ck CX EE Nl 0
def ZP:=ck CX EE NP 3
def Zt:=ck CX EE NP 2
def aaX:=ck CX EE NP 1
def aaW:=ck CX EE NP 0
def aa0:=ck CX EE als 0
def ZK:=ck CX EE Sf 2
def Zs:=ck CX EE Sf 1
def ZA:=ck CX EE Sf 0
def IZ:=cG CX EE ah2 0
def aad:=ck CX EE aj5 0
def Mr:=cG CX EE ah6 0
def ZM:=ck CX EE Jo 4
def ZL:=ck CX EE Jo 3
def D6:=ck CX EE Jo 2
def Ze:=ck CX EE Jo 1
def RP:=ck CX EE Jo 0
def RA:=cG CX EE aiq 0
def Mt:=cG CX EE aie 0
def Zz:=ck CX EE aaq 1
def ZJ:=ck CX EE aaq 0
def Ms:=cG CX EE aib 0
def aae:=ck CX EE Jt 4
def Sa:=ck CX EE Jt 3
def R5:=cG CX EE Jt 2
def Z0:=ck CX EE Jt 1
def Jg:=cG CX EE Jt 0
def Rp:=cG CX EE ah7 0
def ZZ:=ck CX EE ajL 0
def Zl:=ck CX EE Sj 2
def Zd:=ck CX EE Sj 1
def Y7:=ck CX EE Sj 0
def Z1:=ck CX EE Ce 7
def Jh:=cG CX EE Ce 6
def ZO:=ck CX EE Ce 5
def MK:=cG CX EE Ce 4
def ZB:=ck CX EE Ce 3
def Y8:=ck CX EE Ce 2
def I5:=cG CX EE Ce 1
def I9:=cG CX EE Ce 0
def ZN:=ck CX EE Jj 4
def Y0:=ck CX EE Jj 3
def I7:=ck CX EE Jj 2
def Cc:=cG CX EE Jj 1
def RQ:=ck CX EE Jj 0
def Rn:=cG CX EE ah1 0
def MO:=ck CX EE aax 1
def AY:=ck CX EE aax 0
def ab9:=ck CX EE A4 8
def NF:=cG CX EE A4 7
def S9:=ck CX EE A4 6
def aaG:=ck CX EE A4 5
def Gm:=cG CX EE A4 4
def JG:=cG CX EE A4 3
def S0:=ck CX EE A4 2
def JF:=cG CX EE A4 1
def JE:=cG CX EE A4 0
def RU:=Qz CX EE Gy Tryz.f151 Ji aiR oT.nil
def ZS:=ctU CX EE Gy Tryz.f151 Ji ai0 aje
def RT:=Qz CX EE Gy Tryz.f151 Ji aiQ ajd
def ZR:=ctU CX EE Gy Tryz.f151 Ji aiZ ajc
def MM:=Qz CX EE Gy Tryz.f151 Ji aiP ajb
def ML:=Qz CX EE Gy Tryz.f151 Ji aiO aja
def Mz:=cG CX EE Gb 5
def Y3:=ck CX EE Gb 4
def My:=cG CX EE Gb 3
def Y2:=ck CX EE Gb 2
def I4:=cG CX EE Gb 1
def I3:=cG CX EE Gb 0
def ZI:=ck CX EE Jw 4
def ZH:=ck CX EE Jw 3
def ZG:=ck CX EE Jw 2
def Ge:=cG CX EE Jw 1
def MV:=cG CX EE Jw 0
def Mm:=cG CX EE ahG 0
def YZ:=ck CX EE Za 1
def Y1:=ck CX EE Za 0
def Mq:=cG CX EE ahY 0
def Zk:=ck CX EE RZ 2
def Zc:=ck CX EE RZ 1
def Zb:=ck CX EE RZ 0
def YW:=ck CX EE MI 3
def YV:=ck CX EE MI 2
def Mw:=ck CX EE MI 1
def zQ:=cG CX EE MI 0
def Mv:=cG CX EE Zp 1
def MA:=cG CX EE Zp 0
def Mo:=cG CX EE ahL 0
def Y4:=ck CX EE aiN 0
def Ri:=cG CX EE ahP 0
def Mp:=cG CX EE ahS 0
def RE:=cG CX EE ai8 0
def Rj:=cG CX EE ahT 0
def MD:=cG CX EE RY 2
def Zj:=ck CX EE RY 1
def I8:=cG CX EE RY 0
def Cd:=cG CX EE ak2 0
def Jl:=cG CX EE akK 0
def Gf:=cG CX EE aa8 1
def Jk:=cG CX EE aa8 0
def No:=cG CX EE alO 0
def ak8:=ck CX EE Tn 2
def akM:=ck CX EE Tn 1
def Sw:=cG CX EE Tn 0
def akN:=ck CX EE abJ 1
def Sp:=cG CX EE abJ 0
def Tw:=cG CX EE aok 0
def SE:=cG CX EE alM 0
def SW:=cG CX EE xy 13
def abv:=ck CX EE xy 12
def M7:=cG CX EE xy 11
def Nn:=cG CX EE xy 10
def ak7:=ck CX EE xy 9
def aCJ:=ck CX EE xy 8
def aCI:=cG CX EE xy 5
def Sn:=cG CX EE xy 4
def SI:=cG CX EE xy 3
def ak6:=ck CX EE xy 2
def M6:=cG CX EE xy 1
def SH:=cG CX EE xy 0
def alW:=ck CX EE acG 1
def SV:=cG CX EE acG 0
def aaS:=ck CX EE Tp 2
def aab:=ck CX EE Tp 1
def abh:=ck CX EE Tp 0
def aby:=ck CX EE JS 4
def aaU:=ck CX EE JS 3
def aaT:=ck CX EE JS 2
def aaC:=ck CX EE JS 1
def aaB:=ck CX EE JS 0
def SX:=cG CX EE amg 0
def abg:=ck CX EE JR 4
def ajM:=ck CX EE JR 3
def aaa:=ck CX EE JR 2
def Gi:=cG CX EE JR 1
def Gp:=cG CX EE JR 0
def ak3:=ck CX EE ab4 1
def Jx:=cG CX EE ab4 0
def aba:=ck CX EE J1 4
def Ec:=cG CX EE J1 3
def S8:=ck CX EE J1 2
def aay:=ck CX EE J1 1
def ZE:=ck CX EE J1 0
def aaV:=ck CX EE S5 2
def abi:=ck CX EE S5 1
def Sx:=cG CX EE S5 0
def Z9:=ck CX EE Ei 6
def ZF:=ck CX EE Ei 5
def abw:=ck CX EE Ei 4
def abe:=ck CX EE Ei 3
def abd:=ck CX EE Ei 2
def abc:=ck CX EE Ei 1
def aaP:=ck CX EE Ei 0
def abx:=ck CX EE alP 0
def aat:=ck CX EE aaN 1
def aac:=ck CX EE aaN 0
def abA:=ck CX EE acp 1
def abz:=ck CX EE acp 0
def aks:=ck CX EE SU 2
def aj6:=ck CX EE SU 1
def MY:=cG CX EE SU 0
def Sg:=cG CX EE SD 2
def ajN:=ck CX EE SD 1
def MU:=cG CX EE SD 0
def SG:=cG CX EE alN 0
def Sq:=cG CX EE alp 0
def SY:=cG CX EE amh 0
def Zy:=ck CX EE Sv 2
def Zr:=ck CX EE Sv 1
def Zi:=ck CX EE Sv 0
def abL:=ck CX EE A2 8
def abb:=ck CX EE A2 7
def JH:=cG CX EE A2 6
def ak5:=ck CX EE A2 5
def ak4:=ck CX EE A2 4
def aaO:=ck CX EE A2 3
def aas:=ck CX EE A2 2
def MT:=cG CX EE A2 1
def Nc:=cG CX EE A2 0
def ab8:=ck CX EE Ck 7
def abM:=ck CX EE Ck 6
def abf:=ck CX EE Ck 5
def aaR:=ck CX EE Ck 4
def aaA:=ck CX EE Ck 3
def aaQ:=ck CX EE Ck 2
def aaz:=ck CX EE Ck 1
def Gv:=cG CX EE Ck 0
def MS:=cG CX EE SC 2
def aar:=ck CX EE SC 1
def Sk:=cG CX EE SC 0
def acr:=ck CX EE yS 10
def ND:=cG CX EE yS 9
def alX:=ck CX EE yS 8
def abj:=ck CX EE yS 7
def Nd:=cG CX EE yS 6
def Nv:=cG CX EE yS 5
def alu:=ck CX EE yS 4
def Nu:=cG CX EE yS 3
def ak9:=ck CX EE yS 2
def Nq:=cG CX EE yS 1
def Np:=cG CX EE yS 0
def Sy:=cG CX EE alQ 0
def S7:=cG CX EE anE 0
def R6:=ck CX EE ly 9
def RK:=cG CX EE ly 8
def RN:=ck CX EE ly 7
def Y6:=ck CX EE ly 6
def YX:=ck CX EE ly 5
def Ca:=cG CX EE ly 4
def MH:=cG CX EE ly 3
def RM:=ck CX EE ly 2
def Y5:=ck CX EE ly 1
def MG:=cG CX EE ly 0
abbrev aA:Type:=Option UO
inductive Qm
 |tA(l:aq)
 |aa9(l:aq)
 |bK(l:aq)
 |sO(l:aq)
 |aC(l:aq)
 |lG(l:aq)
 |fg(l:aq)
 |cz(l:aq)
 |qj(l:aq)
 |oU(l:aq)
 |aGX(l:aq)
 |zT(l:aq)
 |jK(l:aq)
 |cC(l:aq)
 |qO(l:aq)
 |Nb(l:aq)
 |dC(l:aq)
 |bL(l:aq)
 |oo(l:aq)
 |cV
 |fm
 |agX
 |gJ(n:Nat)
 |eh(i:Int)(l:aE)(k:Option UO)
 |cH(a b:Int)
 |dJ(a b:Int)
 |qF(a b:Nat)
 |XN(a b:Nat)
 |Ir(l:aE)
 |Im(l m:aE)
 |bp(l:aE)(i:Int)
 |bZ(i:Int)
 |dL
abbrev am(x:Qm)(A:Type):=CoeDep Qm x A
instance (l:aq):am (.tA l) AV:=⟨.agg (aF Ef 0 l)⟩
instance (l:aq):am (.aa9 l) AV:=⟨.agg (aF aHQ 0 l)⟩
instance (l:aq):am (.bK l) AV:=⟨.agg (aF qP 0 l)⟩
instance (l:aq):am (.sO l) AV:=⟨.agg (aF aaH 0 l)⟩
instance (l:aq):am (.aC l) AV:=⟨.agg (aF fC 0 l)⟩
instance (l:aq):am (.lG l) AV:=⟨.agg (aF NR 0 l)⟩
instance (l:aq):am (.fg l) AV:=⟨.agg (aF Nw 0 l)⟩
instance (l:aq):am (.cz l) AV:=⟨.agg (aF abP 0 l)⟩
instance (l:aq):am (.qj l) AV:=⟨.agg (aF Tc 0 l)⟩
instance (l:aq):am (.oU l) AV:=⟨.agg (aF alb 0 l)⟩
instance (l:aq):am (.aGX l) AV:=⟨.agg (aF S3 0 l)⟩
instance (l:aq):am (.zT l) AV:=⟨.agg (aF alw 0 l)⟩
instance (l:aq):am (.jK l) AV:=⟨.agg (aF wI 0 l)⟩
instance (l:aq):am (.cC l) AV:=⟨.agg (aF vP 0 l)⟩
instance (l:aq):am (.qO l) AV:=⟨.agg (aF abC 0 l)⟩
instance (l:aq):am (.Nb l) AV:=⟨.agg (aF akQ 0 l)⟩
instance (l:aq):am (.dC l) AV:=⟨.agg (aF nc 0 l)⟩
instance (l:aq):am (.bL l) (Option UO):=⟨some (0,l)⟩
instance (l:aq):am (.oo l) (Option UO):=⟨some (1,l)⟩
instance:am (.cV ) (Option UO):=⟨some (0,[.bool true])⟩
instance:am (.fm ) (Option UO):=⟨some (0,[.bool false])⟩
instance:am (.agX ) (Option UO):=⟨some (1,[.bool false])⟩
instance (n:Nat):am (.gJ n) Bool:=⟨Nat.beq n 0⟩
instance (i:Int)(l:aE)(k:Option UO):am (.eh i l k) (Option UO):=⟨a8 (ib i l.length) k⟩
instance (a b:Int):am (.cH a b) Bool:=⟨decide (a<b)⟩
instance (a b:Int):am (.dJ a b) Bool:=⟨decide (a<=b)⟩
instance (a b:Nat):am (.qF a b) Bool:=⟨decide (a<b)⟩
instance (a b:Nat):am (.XN a b) Bool:=⟨decide (a<=b)⟩
instance (l:aE):am (.Ir l) Bool:=⟨decide ((0+l.length)*8<=140737488355328)⟩
instance (l m:aE):am (.Im l m) Bool:=⟨decide ((l.length+m.length)*8<=140737488355328)⟩
instance (l:aE)(i:Int):am (.bp l i) aq:=⟨gA l i.toNat⟩
instance (i:Int):am (.bZ i) AV:=⟨iI (aU (i+1))⟩
instance:am (.dL ) aE:=⟨[]⟩
end
end Go.Proofs.B
namespace Go.ah
open Go
def amm{zs:cj}{i:Nat}{row:Row}(h:(sX zs)[i]?=some row):∃z,zs[i]?=some z/\row=[AV.int .i64 z]:=by
 unfold sX at h;rw [kW]at h;cases hz:zs[i]? with
 |none=>rw [hz]at h;cases h
 |some z=>rw [hz]at h;injection h with h;exact⟨z,rfl,h.symm⟩
def Tx(zs:cj):(sX zs).length =zs.length:=by simp [sX]
def aLU{K:TypeId->fh}{ρ:bF}{F:bC}{w:World}{z:Int}{v:Value}(h:aR K ρ F w (.int .i64 z) v):v= .int .i64 z:=by cases h;rfl
def aHW{off:Nat}{d:Array Int}{c:Array Value}{k:Nat}(hk:k<c.size):(Go.Sort.putCells (Value.int .i64) off d c)[k]?=some (if off<=k/\k<off+d.size then Value.int .i64 d[k- off]! else c[k]):=by
 unfold Go.Sort.putCells;rw [GL (Kw),Array.getElem_mapIdx]
def aM4{X:Cx}{f:FuncId}{t:TypeId}(hK:X.K t=[.int .i64])
 (hC:∀(Mj off cap:Nat) (zs:cj) (w:World),Go.Sort.Holds (Value.int .i64) w Mj off zs.toArray->Mj<w.heap.size->zs.length<4611686018427387904->
   Calls X.P f #[.slice (some ⟨Mj,off,none⟩) zs.length cap] w λe w'=>e= .returned (.tuple #[])/\∃n os,w'=Go.Sort.grow (Go.Sort.putRow (Value.int .i64) (Go.Sort.ahead w n) Mj off (zs.mergeSort λx y=>decide (x<=y)).toArray) os):agb X f t:=by
 intro zs fv a0e w0 S F ρ w vs hI hv;obtain⟨v,rfl,hr⟩:=hv.one;cases hr with
 |ak _ hd bf=>
 have nw:=hI.rep 0 _ hd rfl bf;obtain⟨fU,oQ,hr⟩:=nw;rw [hK]at fU oQ;have qz:hd.sz=1:=fU;rcases hr with⟨_,hx⟩|⟨g,o,c,cur,ny,hh,h4,h5,h6,h7⟩
 ·exfalso;have:=Tx zs;rw [hx]at this;exact fv (ac5.1 this.symm)
 ·rw [Tx]at ny h4;rw [qz]at h6 h7;have cX:hd.dE=some g:=by simp [Hd.dE,Value.dE,ny]
  have P0:=hI.sep 0 _ hd g rfl rfl bf cX;have pT:∀(i:Nat) z,zs[i]?=some z->cur[o+i]?=some (Value.int .i64 z):=λi z hz=>by
   have ia:(sX zs)[i]?=some [AV.int .i64 z]:=by unfold sX;rw [kW,hz];rfl
   obtain⟨v,kj,hrv⟩:=h7 i _ ia 0 (.int .i64 z) rfl;rw [aLU hrv]at kj;simpa using kj
  have hold:Go.Sort.Holds (Value.int .i64) w g o zs.toArray:=λj hj=>by
   have hj:j<zs.length:=by simpa using hj
   have hz:zs[j]?=some zs[j]:=c8 hj;refine⟨?_,?_⟩
   ·rw [show zs.toArray[j]! =zs[j]by rw [Oa _ j (by simpa using hj)];simp];simp only [World.cell?,hh];exact pT j _ hz
   ·simp [World.frozen?,hh]
  have yD:zs.length<4611686018427387904:=by omega
  have C5:=hC g o c zs w hold P0.1 yD;rw [show(#[hd.v]:Array Value)= #[.slice (some ⟨g,o,none⟩) zs.length c]by rw [ny]];refine C5.mono ?_;rintro e w' ⟨rfl,n,os,rfl⟩;have hlen:(rM zs).length =zs.length:=by unfold rM;exact List.length_mergeSort zs
  have hgl:g<w.heap.size:=P0.1;have Bl:∀k,k<w.heap.size->k≠g->(Go.Sort.grow (Go.Sort.putRow (Value.int .i64) (Go.Sort.ahead w n) g o (rM zs).toArray) os).heap[k]?=w.heap[k]?:=λk hk hkg=>by
   simp only [Go.Sort.grow,Go.Sort.putRow,Go.Sort.mapBlock,Go.Sort.ahead];rw [N9 (Kw),ac4,if_neg (λh=>hkg h.symm)]
  have lx:(Go.Sort.grow (Go.Sort.putRow (Value.int .i64) (Go.Sort.ahead w n) g o (rM zs).toArray) os).heap[g]?=some (.cells (Go.Sort.putCells (Value.int .i64) o (rM zs).toArray cur) t (0,0)):=by
   simp only [Go.Sort.grow,Go.Sort.putRow,Go.Sort.mapBlock,Go.Sort.ahead];rw [N9 (by simpa using hgl),ac4,if_pos rfl,hh];rfl
  have pd:w.grownBy (Go.Sort.grow (Go.Sort.putRow (Value.int .i64) (Go.Sort.ahead w n) g o (rM zs).toArray) os) (some g):=
   ⟨rfl,rfl,rfl,by simp [Go.Sort.grow,Go.Sort.putRow,Go.Sort.mapBlock,Go.Sort.ahead],λk hk fv=>Bl k hk λh=>fv (by rw [h])⟩
  have kM:∀z∈rM zs,z∈zs:=λz hz=>by unfold rM at hz;exact List.mem_mergeSort.1 hz
  have BE:nx X ρ F (Go.Sort.grow (Go.Sort.putRow (Value.int .i64) (Go.Sort.ahead w n) g o (rM zs).toArray) os) hd (.row t (sX (rM zs))):=by
   refine⟨by rw [hK];exact fU,λi row hi=> ?_,.inr ⟨g,o,c,_,by rw [Tx,hlen];exact ny,lx,by rw [Tx,hlen];exact h4,h5,by rw [qz];simpa [Go.Sort.putCells]using h6,λi row hi j x hx=> ?_⟩⟩
   ·obtain⟨z,hz,rfl⟩:=amm hi;obtain⟨i',eJ⟩:=Cp (kM z (qk hz));rw [hK];exact oQ i' _ (by unfold sX;rw [kW,eJ];rfl)
   ·obtain⟨z,hz,rfl⟩:=amm hi;have oR:i<(rM zs).length :=(dX.1 hz).1;cases j with
    |succ j=>exact Bb
    |zero=>
     simp at hx;subst hx;refine⟨.int .i64 z,?_,.int _ _⟩;rw [qz,Nat.mul_one,CB,aHW (by omega),if_pos (eE)];rw [show o+i- o=i by omega,Oa _ i (by simpa using oR)];have:=(dX.1 hz).2;simp [this]
  refine⟨.tuple #[],ρ,F,rfl,hI.write rfl rfl bf cX pd BE,⟨λ_ h=>h,λ_ _ _ h=>h,λa ha=>Bl _ (hI.fz a ha) λh=>P0.2.2 a ha h⟩,?_⟩;exact .gw [] [] rfl (λj x v hx=>Bb)
end Go.ah
namespace Go.Proofs
open Go.Shelf
def Tryz.aID:Go.Shelf.Ren:=⟨fun|189=>202|125=>225|257=>224|128=>237|129=>238|294=>228|295=>229|296=>230|297=>231|298=>232|299=>233|216=>234|300=>235|301=>236|328=>241|329=>242|330=>243|331=>244|332=>245|215=>246|343=>247|n=>n,fun|28=>23|3=>3|46=>213|0=>0|51=>233|53=>236|4=>4|183=>257|182=>256|131=>260|5=>5|9=>9|218=>264|222=>192|228=>269|229=>270|n=>n,fun|n=>n⟩
theorem Tryz.aMo:Go.Proofs.Lays.n189 Tryz.prog Tryz.aID:={
 mixed:=by kernel_rfl
 f125:=Tryz.func225.trans (congrArg some (by kernel_rfl))
 f128:=Tryz.func237.trans (congrArg some (by kernel_rfl))
 f129:=Tryz.func238.trans (congrArg some (by kernel_rfl))
 f189:=Tryz.func202.trans (congrArg some (by kernel_rfl))
 f215:=Tryz.func246.trans (congrArg some (by kernel_rfl))
 f216:=Tryz.func234.trans (congrArg some (by kernel_rfl))
 f257:=Tryz.func224.trans (congrArg some (by kernel_rfl))
 f294:=Tryz.func228.trans (congrArg some (by kernel_rfl))
 f295:=Tryz.func229.trans (congrArg some (by kernel_rfl))
 f296:=Tryz.func230.trans (congrArg some (by kernel_rfl))
 f297:=Tryz.func231.trans (congrArg some (by kernel_rfl))
 f298:=Tryz.func232.trans (congrArg some (by kernel_rfl))
 f299:=Tryz.func233.trans (congrArg some (by kernel_rfl))
 f300:=Tryz.func235.trans (congrArg some (by kernel_rfl))
 f301:=Tryz.func236.trans (congrArg some (by kernel_rfl))
 f328:=Tryz.func241.trans (congrArg some (by kernel_rfl))
 f329:=Tryz.func242.trans (congrArg some (by kernel_rfl))
 f330:=Tryz.func243.trans (congrArg some (by kernel_rfl))
 f331:=Tryz.func244.trans (congrArg some (by kernel_rfl))
 f332:=Tryz.func245.trans (congrArg some (by kernel_rfl))
 f343:=Tryz.func247.trans (congrArg some (by kernel_rfl))
 t0:=Tryz.underlying0
 a0:=Tryz.isAgg0
 z0:=Tryz.sizeOf0
 v0:=Tryz.zeroValue0
 t3:=Tryz.underlying3
 a3:=Tryz.isAgg3
 z3:=Tryz.sizeOf3
 v3:=Tryz.zeroValue3
 t4:=Tryz.underlying4
 a4:=Tryz.isAgg4
 z4:=Tryz.sizeOf4
 v4:=Tryz.zeroValue4
 t5:=Tryz.underlying5
 a5:=Tryz.isAgg5
 z5:=Tryz.sizeOf5
 v5:=Tryz.zeroValue5
 t9:=Tryz.underlying9
 a9:=Tryz.isAgg9
 z9:=Tryz.sizeOf9
 v9:=Tryz.zeroValue9
 t28:=Tryz.underlying23
 a28:=Tryz.isAgg23
 z28:=Tryz.sizeOf23
 v28:=Tryz.zeroValue23
 t46:=Tryz.underlying213
 a46:=Tryz.isAgg213
 z46:=Tryz.sizeOf213
 v46:=Tryz.zeroValue213
 t51:=Tryz.underlying233
 a51:=Tryz.isAgg233
 z51:=Tryz.sizeOf233
 v51:=Tryz.zeroValue233
 t53:=Tryz.underlying236
 a53:=Tryz.isAgg236
 z53:=Tryz.sizeOf236
 v53:=Tryz.zeroValue236
 t131:=Tryz.underlying260
 a131:=Tryz.isAgg260
 z131:=Tryz.sizeOf260
 v131:=Tryz.zeroValue260
 t182:=Tryz.underlying256
 a182:=Tryz.isAgg256
 z182:=Tryz.sizeOf256
 v182:=Tryz.zeroValue256
 t183:=Tryz.underlying257
 a183:=Tryz.isAgg257
 z183:=Tryz.sizeOf257
 v183:=Tryz.zeroValue257
 t218:=Tryz.underlying264
 a218:=Tryz.isAgg264
 z218:=Tryz.sizeOf264
 v218:=Tryz.zeroValue264
 t222:=Tryz.underlying192
 a222:=Tryz.isAgg192
 z222:=Tryz.sizeOf192
 v222:=Tryz.zeroValue192
 t228:=Tryz.underlying269
 a228:=Tryz.isAgg269
 z228:=Tryz.sizeOf269
 v228:=Tryz.zeroValue269
 t229:=Tryz.underlying270
 a229:=Tryz.isAgg270
 z229:=Tryz.sizeOf270
 v229:=Tryz.zeroValue270}
end Go.Proofs
namespace Go.Proofs.B
open Go Go.ah
set_option maxRecDepth 100000
noncomputable section
def aOg:ahB CX (.Fy 202 3):=aM4 (by kernel_rfl) (λMj off cap zs w h1 h2 h3=>Any.slices_Sort_int Tryz.aMo Mj off cap zs w h1 h2 h3)
set_option maxRecDepth 1000000 in
def hE:p7 (ahA CX) EE:=by repeat' first|exact trivial|exact⟨by kernel_rfl,by kernel_rfl,by kernel_rfl⟩|refine⟨?_,?_⟩|kernel_rfl|exact aOg
end
end Go.Proofs.B
namespace Go.ah
def zb{p:Prop}(h:p:=by rw [mi (by omega) (by omega)];omega):p:=h
end Go.ah
namespace Go.Proofs.B
open Go Go.ah
section
variable{n:Int}{i:Nat}
def aLH(h0: -9223372036854775808<=n)(h1:n<=9223372036854775807):IntKind.wrap .i64 n=n:=by
 simp [IntKind.wrap,IntKind.bits,IntKind.signed];split<;>omega
def mi(h0: -9223372036854775808<=n)(h1:n<=9223372036854775807):aU n=n:=aLH h0 h1
def aZ8(X:Cx)(E:List FD)(N v:Nat)(l:aq):FU X E (N+1) v l=bG X E (FU X E N) N v l:=rfl
def u9{n:Nat}(h:i<n):ib (i:Int) n=true:=by simp [ib,h]
def J8(h:i<9223372036854775807):aU ((i:Int)+1)=((i+1:Nat):Int):=zb
end
end Go.Proofs.B
namespace Go.ah
def OV{p:Prop}(h:p:=by rw [hp]at h;cases h):p:=h
def OT{p:Prop}(h:p:=by subst hc;exact h):p:=h
def apT{p:Prop}(h:p:=by
 rw [h N n (by omega) (by omega)];exact hk N n (by omega) (by omega)):p:=h
def apm{p:Prop}(h:p:=by
 cases c
 ·exact h2 rfl
 ·exact h1 rfl):p:=h
end Go.ah
namespace Go.Proofs.B
open Go Go.ah
section
variable{c:Bool}{α:Type}{l:List α}{i m v:Nat}{LF:Nat->Nat->Nat->Option UO}{k:Nat->Nat->Nat->aq->Option UO}{f g:Nat->Nat->Option UO}{P:Nat->Prop}{done hit o r:UO}{p:α->Bool}
def E(f:Nat->Nat->Option UO)(o:UO):Prop:=∃B,∀N n,B<=N->B<=n->f N n=some o
abbrev Ev(v:Nat)(l:aq)(o:UO):Prop:=E (λN _=>FU CX EE N v l) o
def ab(h:o=r):E (λ_ _=>some o) r:=⟨0,λ_ _ _ _=>by rw [h]⟩
def ae(h:E f o)(hk:E (λN n=>k N n o.1 o.2) r):E (λN n=>bO (f N n) (k N n)) r:=by
 obtain⟨B,h⟩:=h;obtain⟨C,hk⟩:=hk;refine⟨B+C,λN n h1 h2=> ?_⟩;show bO (f N n) (k N n)=some r;exact apT
def az(hc:c=true)(h:E f r):E (λN n=>ah.a8 c (f N n)) r:=OT
def ax(h1:c=true->E f r)(h2:c=false->E g r):E (λN n=>bif c then f N n else g N n) r:=apm
def aV(hc:c=true)(h:E f r):E (λN n=>bif c then f N n else g N n) r:=OT
def au(hc:c=false)(h:E g r):E (λN n=>bif c then f N n else g N n) r:=OT
def as5(he:∀N n,f N n=g N n)(h:E g r):E f r:=by
 obtain⟨B,h⟩:=h;exact⟨B,λN n h1 h2=>(he N n).trans (h N n h1 h2)⟩
def as4{l:aq}{g:Nat->Option UO}(he:∀N,bG CX EE (FU CX EE N) N v l=g N)(h:E (λN _=>g N) r):Ev v l r:=by
 obtain⟨B,h⟩:=h;refine⟨B+1,λN n h1 _=> ?_⟩;obtain⟨M,rfl⟩:∃M,N=M+1:=⟨N- 1,by omega⟩;show FU CX EE (M+1) v l=_;rw [aZ8];exact(he M).trans <|h M M (by omega) (by omega)
def aMY(he:∀N n,f N (n+1)=g N n)(h:E g r):E f r:=by
 obtain⟨B,h⟩:=h;refine⟨B+1,λN n h1 h2=> ?_⟩;obtain⟨m,rfl⟩:∃m,n=m+1:=⟨n- 1,by omega⟩;exact(he N m).trans <|h N m (by omega) (by omega)
def bX(he:∀{N n},f N n=g N n)(h:E g r):E f r:=as5 (λ_ _=>he) h
def bj{l:aq}{g:Nat->Option UO}(he:∀{N},bG CX EE (FU CX EE N) N v l=g N)(h:E (λN _=>g N) r):Ev v l r:=as4 (λ_=>he) h
def aY(he:∀{N n},f N (n+1)=g N n)(h:E g r):E f r:=aMY (λ_ _=>he) h
def E.diag(h:E f r):E (λN _=>f N N) r:=by
 obtain⟨B,h⟩:=h;exact⟨B,λN n h1 h2=>h N N h1 h1⟩
def aP4(he:∀N n,f N n=g N n)(h:E (λN n=>bO (g N n) (k N n)) r):E (λN n=>bO (f N n) (k N n)) r:=
 as5 (λN n=>by rw [he]) h
def E2(he:∀{N n},f N n=g N n)(h:E (λN n=>bO (g N n) (k N n)) r):E (λN n=>bO (f N n) (k N n)) r:=aP4 (λ_ _=>he) h
def xU(h1:c=true->E (λN n=>bO (f N n) (k N n)) r)(h2:c=false->E (λN n=>bO (g N n) (k N n)) r):E (λN n=>bO (bif c then f N n else g N n) (k N n)) r:=apm
def VM(hc:c=false)(h:E (λN n=>bO (g N n) (k N n)) r):E (λN n=>bO (bif c then f N n else g N n) (k N n)) r:=OT
def rH{q:Nat}{l:aq}(h:E (λN n=>k N n q l) r):E (λN n=>bO (some (q,l)) (k N n)) r:=h
def Kl(hc:c=true)(h:E (λN n=>bO (f N n) (k N n)) r):E (λN n=>bO (ah.a8 c (f N n)) (k N n)) r:=OT
def anL{k1:Nat->Nat->Nat->aq->Option UO}(h:E f o)(hk:E (λN n=>bO (k1 N n o.1 o.2) (k N n)) r):E (λN n=>bO (bO (f N n) (k1 N n)) (k N n)) r:=by
 obtain⟨B,h⟩:=h;obtain⟨C,hk⟩:=hk;refine⟨B+C,λN n h1 h2=> ?_⟩;show bO (bO (f N n) (k1 N n)) (k N n)=some r;exact apT
def E.to(h:E f o)(e:o=r):E f r:=e▸h
def E.uniq(h:E f o)(h':E f r):o=r:=by
 obtain⟨B,h⟩:=h;obtain⟨C,h'⟩:=h';have h1:=h (B+C) (B+C) (by omega) (by omega);rw [h' (B+C) (B+C) (by omega) (by omega)]at h1;exact(Option.some.inj h1).symm
def down(h0:P m)(hs:∀i,i<m->P (i+1)->P i):∀i,i<=m->P i:=by
 intro i hi;obtain⟨k,rfl⟩:∃k,m=i+k:=⟨m- i,by omega⟩;clear hi
 induction k generalizing i with
 |zero=>exact h0
 |succ k ih=>
  refine hs i (by omega) (ih (i+1) ?_ ?_)
  ·rw [show i+1+k=i+(k+1)by omega];exact h0
  ·intro j hj;exact hs j (by omega)
def fP(h0:P m)(hs:∀i,i<m->P (i+1)->P i):P 0:=down h0 hs 0 (qR _)
abbrev mx:Nat:=1048576
abbrev ints(l:cj):aE:=l.map λn=>[iI n]
def wR{f:α->Row}(h:i<l.length):gA (l.map f) i=f l[i]:=by simp [gA,List.getD,h]
def gf{f:α->Row}(h:i<l.length):gA (l.map f) ((i:Int).toNat)=f l[i]:=wR h
def jj(h:i<l.length):l.drop i=l[i]::l.drop (i+1):=adF h
def ix{n:Nat}(h:i<n)(hn:n<=mx):aU ((i:Int)+1)=((i+1:Nat):Int):=J8 (by simp only [mx]at hn;omega)
def cZ{f:α->Row}(h:i<l.length):decide ((i:Int)<ln (l.map f))=true:=by simpa [ln]using h
def dw{f:α->Row}:decide ((l.length:Int)<ln (l.map f))=false:=by simp [ln]
def cw{f:α->Row}(h:i<l.length):ib (i:Int) (l.map f).length =true:=by simpa using u9 h
def scan{hit:Nat->UO}(hd:E (LF l.length) done)
 (hs:∀(i:Nat) (h:i<l.length) (r:UO),(p l[i]=true->hit i=r)->(p l[i]=false->E (LF (i+1)) r)->E (LF i) r):
 (l.any p=false/\E (LF 0) done)∨(l.any p=true/\∃i,i<l.length/\E (LF 0) (hit i)):=by
 have h:=fP (P:=λi=>((l.drop i).any p=false/\E (LF i) done)∨((l.drop i).any p=true/\∃j,j<l.length/\E (LF i) (hit j))) (m:=l.length) (.inl ⟨by simp,hd⟩) λi hi ih=>by
  rw [jj hi,List.any_cons];cases hp:p l[i]with
  |true=>exact .inr ⟨rfl,i,hi,hs i hi _ (λ_=>rfl) (λh=>OV)⟩
  |false=>
   rw [Us];rcases ih with⟨h1,h2⟩|⟨h1,j,hj,h2⟩
   ·exact .inl ⟨h1,hs i hi _ (λh=>OV) λ_=>h2⟩
   ·exact .inr ⟨h1,j,hj,hs i hi _ (λh=>OV) λ_=>h2⟩
 simpa using h
def CQ(hd:E (LF l.length) done)
 (hs:∀(i:Nat) (h:i<l.length) (r:UO),(p l[i]=true->hit=r)->(p l[i]=false->E (LF (i+1)) r)->E (LF i) r):
 E (LF 0) (bif l.any p then hit else done):=by
 rcases scan (hit:=λ_=>hit) hd hs with⟨h1,h2⟩|⟨h1,i,_,h2⟩
 ·rw [h1];exact h2
 ·rw [h1];exact h2
def Hl{p:Nat->Bool}(hd:E (LF m) done)
 (hs:∀(i:Nat),i<m->∀(r:UO),(p i=true->hit=r)->(p i=false->E (LF (i+1)) r)->E (LF i) r):E (LF 0) (bif (List.range m).any p then hit else done):=by
 have:=CQ (l:=List.range m) (LF:=LF) (p:=p) (hit:=hit) (done:=done) (by simpa using hd) λi hi r h1 h2=>hs i (EF) r (λh=>h1 (mU)) λh=>h2 (mU);exact this
def Wd{l:cj}(h:i<l.length):gI (gA (ints l) i) 0=l.getD i 0:=by rw [wR h];simp [gI,AV.toI,h]
def pO{l:cj}(h:i<l.length):gI (gA (ints l) ((i:Int).toNat)) 0=l.getD i 0:=Wd h
end
end Go.Proofs.B
namespace Go.ah
def V1{p:Prop}(h:p:=by
 cases s with
 |mk k g n e b a=>cases g;cases b;cases a;rfl):p:=h
def Bi{p:Prop}(h:p:=by rw [Kk];rfl):p:=h
def Bd{p:Prop}(h:p:=by cases s;rfl):p:=h
def apB{p:Prop}(h:p:=by
 cases s with
 |mk d u=>cases d;cases u;rfl):p:=h
def apA{p:Prop}(h:p:=by
 cases s with
 |mk k g n e b a=>cases g;rfl):p:=h
def aoV{p:Prop}(h:p:=by
 cases s with
 |mk e b=>cases b;rfl):p:=h
end Go.ah
namespace Go.Proofs.B
open Go Go.ah
abbrev aa:=AV.agg
abbrev av:=AV.bool
abbrev aT:=AV.bool false
abbrev c5:=AV.bool true
abbrev cu:=AV.int .u8
abbrev fy:=AV.aj Eh
abbrev fO:=AV.aj Cf
abbrev bR:=AV.aj NH
abbrev fV:=AV.aj Eb
abbrev dv:=AV.aj Ta
abbrev Jz:=AV.aj abO
abbrev dg:=AV.aj acs
abbrev c7:=AV.aj xw
abbrev uf:=AV.aj JU
abbrev lP:=AV.aj Gx
abbrev mg:=AV.aj zU
abbrev cF:=AV.aj alZ
abbrev ng:=AV.aj Eg
abbrev sN:=AV.aj ajf
abbrev j7:=AV.aj D7
abbrev ay:=AV.aj abN
abbrev gW:=AV.aj Ee
abbrev aw:=AV.aj tI
abbrev cp:=AV.aj aox
abbrev sg:=AV.aj M3
abbrev hY:=AV.aj ajo
abbrev Xw:List (Nat×AV):=[(2,.ak 4)]
abbrev Ap:List (Nat×AV):=[(12,.ak 3),(13,.ak 4),(14,.ak 5),(15,.ak 6),(16,.ak 7),(17,.ak 8),(18,.ak 9),(19,.ak 10),(20,.ak 11)]
abbrev aZT:List (Nat×AV):=[(12,.ak 12),(13,.ak 13),(14,.ak 14),(15,.ak 15),(16,.ak 16),(17,.ak 17),(18,.ak 18),(19,.ak 19),(20,.ak 20)]
abbrev eY:List (Nat×AV):=[(6,.ak 1),(8,.mp 2)]
abbrev pX:List (Nat×AV):=[(0,.ptr 0 0 0)]
abbrev aZS:List (Nat×AV):=[(8,.mp 2)]
abbrev Lq:List (Nat×AV):=[(6,.ak 2),(8,.mp 1)]
abbrev Xv:List (Nat×AV):=[(22,.ak 1)]
abbrev ahw:List (Nat×AV):=[(12,.ak 2),(13,.ak 3),(14,.ak 4),(15,.ak 5),(16,.ak 6),(17,.ak 7),(18,.ak 8),(19,.ak 9),(20,.ak 10),(22,.ak 11)]
abbrev awk:List (Nat×AV):=[(22,.ak 2)]
abbrev w4:List (Nat×AV):=[(61,.ak 1),(62,.ak 2)]
abbrev Wl:List (Nat×AV):=[(61,.ak 5),(62,.ak 6)]
abbrev af4:List (Nat×AV):=[(61,.ak 3),(62,.ak 4)]
abbrev Px:List (Nat×AV):=[(2,.ak 3)]
abbrev zf:List (Nat×AV):=[(8,.ak 2)]
abbrev Hz:List (Nat×AV):=[(2,.ak 0)]
abbrev aPR:List (Nat×AV):=[(2,.ak 2)]
abbrev aPQ:List (Nat×AV):=[(0,.ptr 1 0 0)]
abbrev aPP:List (Nat×AV):=[(6,.ak 2),(8,.mp 3)]
abbrev aPO:List (Nat×AV):=[(4,.ak 3)]
abbrev aPN:List (Nat×AV):=[(5,.ak 3)]
abbrev aPM:List (Nat×AV):=[(9,.ak 0)]
abbrev bS(f:(Nat->List AV->Option UO)->Nat->Nat->List AV->Option UO)(l:List AV)(r:UO):=E (λN m=>f (FU CX EE N) N m l) r
abbrev bY(f:(Nat->List AV->Option UO)->Nat->List AV->Option UO)(l:List AV)(r:UO):=E (λN _=>f (FU CX EE N) N l) r
def aD{o:UO}:E (λ_ _=>some o) o:=ab rfl
def bm{f g:Nat->Nat->Option UO}{r:UO}{c:Bool}(h:E g r)(hc:c=false:=by rfl):E (λN n=>bif c then f N n else g N n) r:=au hc h
def bh{f g:Nat->Nat->Option UO}{r:UO}{c:Bool}(h:E f r)(hc:c=true:=by rfl):E (λN n=>bif c then f N n else g N n) r:=aV hc h
end Go.Proofs.B
namespace Go.ah
def GO:=@List.not_mem_nil
def GN:=@or_false
def N6:=@List.sizeOf_lt_of_mem
end Go.ah
namespace Go.Proofs.B
open Go Go.ah
inductive CE where
 |mk(kind op N O off len lo hi:Int)(L:List CE)
namespace CE
def kind:CE->Int|mk k _ _ _ _ _ _ _ _=>k
def op:CE->Int|mk _ p _ _ _ _ _ _ _=>p
def N:CE->Int|mk _ _ n _ _ _ _ _ _=>n
def O:CE->Int|mk _ _ _ o _ _ _ _ _=>o
def off:CE->Int|mk _ _ _ _ f _ _ _ _=>f
def len:CE->Int|mk _ _ _ _ _ l _ _ _=>l
def lo:CE->Int|mk _ _ _ _ _ _ a _ _=>a
def hi:CE->Int|mk _ _ _ _ _ _ _ b _=>b
def L:CE->List CE|mk _ _ _ _ _ _ _ _ l=>l
end CE
def CE.eta(e:CE):e= .mk e.kind e.op e.N e.O e.off e.len e.lo e.hi e.L:=by cases e;rfl
def CE.lt{e y:CE}(h:y∈e.L):SizeOf.sizeOf y<SizeOf.sizeOf e:=by
 cases e with
 |mk _ _ _ _ _ _ _ _ l=>
  have:=N6 h;simp only [CE.L]at this;simp only [CE.mk.sizeOf_spec];omega
def CE.ind{P:CE->Prop}(h:∀e:CE,(∀y∈e.L,P y)->P e):∀e,P e:=λe=>
 h e λy hy=>CE.ind h y
termination_by e=>SizeOf.sizeOf e
decreasing_by exact CE.lt hy
mutual
def aH:CE->aq
 | .mk k p n o f l a b es=>[cu k,cu p,iI n,iI o,iI f,iI l,iI a,iI b,bR (Wk es)]
def Wk:List CE->aE
 | []=>[]
 |e::es=>aH e::Wk es
end
def amF:∀es,Wk es=es.map aH
 | []=>rfl
 |e::es=>by simp only [Wk,my,amF es]
def Kk(e:CE):aH e=[cu e.kind,cu e.op,iI e.N,iI e.O,iI e.off,iI e.len,iI e.lo,iI e.hi,bR (e.L.map aH)]:=by
 cases e;simp only [aH,amF];rfl
def e7(e:CE):aF qP 0 (aH e)=aH e:=by cases e;rfl
def uD(e:CE):gR (aH e) 8=e.L.map aH:=Bi
structure PL where
 kind:Int
 O:Int
 off:Int
 len:Int
 E:List CE
def dc(p:PL):aq:=[cu p.kind,iI p.O,iI p.off,iI p.len,bR (p.E.map aH)]
def atq(p:PL):aF Nw 0 (dc p)=dc p:=rfl
structure gp where
 kind:Int
 N:Int
 O:Int
 T:Int
 P:Int
 entry:Int
 In:Bool
 rev:Bool
 sC:Bool
 els:Bool
 yK:Bool
 mode:Int
 E:List CE
 Ins:List CE
 To:List PL
 kS:List PL
 Ts:cj
mutual
inductive CS where
 |mk(f:gp)(L:List CS)(D:List CD)(H:List CH)(A:List CA)
inductive CD where
 |mk(d u:CS)
inductive CH where
 |mk(gv:cj)(body:CS)
inductive CA where
 |mk(kind:Int)(guard:CE)(entry:Int)(E:List CE)(body after:CS)
end
variable{s y:CS}
namespace CS
def f:CS->gp|mk f _ _ _ _=>f
def L:CS->List CS|mk _ l _ _ _=>l
def D:CS->List CD|mk _ _ d _ _=>d
def H:CS->List CH|mk _ _ _ h _=>h
def A:CS->List CA|mk _ _ _ _ a=>a
end CS
def CD.d:CD->CS|mk d _=>d
def CD.u:CD->CS|mk _ u=>u
def CH.gv:CH->List Int|mk e _=>e
def CH.body:CH->CS|mk _ b=>b
def CA.kind:CA->Int|mk k _ _ _ _ _=>k
def CA.guard:CA->CE|mk _ g _ _ _ _=>g
def CA.entry:CA->Int|mk _ _ e _ _ _=>e
def CA.E:CA->List CE|mk _ _ _ e _ _=>e
def CA.body:CA->CS|mk _ _ _ _ b _=>b
def CA.after:CA->CS|mk _ _ _ _ _ a=>a
def CS.kids(s:CS):List CS:=s.D.flatMap (λd=>[d.d,d.u])++(s.L++(s.H.map CH.body++s.A.flatMap λa=>[a.body,a.after]))
def CS.lt(h:y∈s.kids):SizeOf.sizeOf y<SizeOf.sizeOf s:=by
 cases s with
 |mk f l d hh a=>
  simp only [CS.mk.sizeOf_spec];simp only [CS.kids,nA,ov,wL,CS.L,CS.D,CS.H,CS.A,iz,GO,GN]at h;rcases h with⟨x,hx,h⟩|h|⟨x,hx,rfl⟩|⟨x,hx,h⟩
  ·have:=N6 hx;cases x with
   |mk p q=>
    simp only [CD.mk.sizeOf_spec]at this;rcases h with rfl|rfl<;>(try simp only [CD.d,CD.u])<;>omega
  ·have:=N6 h;omega
  ·have:=N6 hx;cases x with
   |mk p q=>
    simp only [CH.mk.sizeOf_spec]at this;simp only [CH.body];omega
  ·have:=N6 hx;cases x with
   |mk _ _ _ _ p q=>
    simp only [CA.mk.sizeOf_spec]at this;rcases h with rfl|rfl<;>(try simp only [CA.body,CA.after])<;>omega
def CS.ind{P:CS->Prop}(h:∀s:CS,(∀y∈s.kids,P y)->P s):∀s,P s:=λs=>
 h s λy hy=>CS.ind h y
termination_by s=>SizeOf.sizeOf s
decreasing_by exact CS.lt hy
def zn{d:CD}(h:d∈s.D):d.d∈s.kids/\d.u∈s.kids:=by
 simp only [CS.kids,nA,ov];exact⟨.inl ⟨d,h,by simp⟩,.inl ⟨d,h,by simp⟩⟩
def Fj(h:y∈s.L):y∈s.kids:=by
 simp only [CS.kids,nA];exact .inr (.inl h)
def Lj{x:CH}(h:x∈s.H):x.body∈s.kids:=by
 simp only [CS.kids,nA,wL];exact .inr (.inr (.inl ⟨x,h,rfl⟩))
def Bz{x:CA}(h:x∈s.A):x.body∈s.kids/\x.after∈s.kids:=by
 simp only [CS.kids,nA,ov];exact⟨.inr (.inr (.inr ⟨x,h,by simp⟩)),.inr (.inr (.inr ⟨x,h,by simp⟩))⟩
abbrev fX(f:gp)(l d h a:aE):aq:=[cu f.kind,iI f.N,iI f.O,iI f.T,iI f.P,iI f.entry,av f.In,av f.rev,av f.sC,av f.els,av f.yK,cu f.mode,bR (f.E.map aH),bR (f.Ins.map aH),c7 (f.To.map dc),c7 (f.kS.map dc),aw (ints f.Ts),dv l,fO d,fV h,fy a]
mutual
def encS:CS->aq
 | .mk f l d h a=>fX f (K1 l) (K5 d) (K4 h) (K6 a)
def K1:List CS->aE
 | []=>[]
 |s::ss=>encS s::K1 ss
def eu:CD->aq
 | .mk d u=>encS d++encS u
def K5:List CD->aE
 | []=>[]
 |s::ss=>eu s::K5 ss
def dj:CH->aq
 | .mk e b=> aw (ints e)::encS b
def K4:List CH->aE
 | []=>[]
 |s::ss=>dj s::K4 ss
def fa:CA->aq
 | .mk k g n e b a=> cu k::(aH g++(iI n:: bR (e.map aH)::(encS b++encS a)))
def K6:List CA->aE
 | []=>[]
 |s::ss=>fa s::K6 ss
end
def amD:∀l,K1 l=l.map encS
 | []=>rfl
 |e::es=>by simp only [K1,my,amD es]
def amG:∀l,K5 l=l.map eu
 | []=>rfl
 |e::es=>by simp only [K5,my,amG es]
def amE:∀l,K4 l=l.map dj
 | []=>rfl
 |e::es=>by simp only [K4,my,amE es]
def amH:∀l,K6 l=l.map fa
 | []=>rfl
 |e::es=>by simp only [K6,my,amH es]
def OG(s:CS):encS s=fX s.f (s.L.map encS) (s.D.map eu) (s.H.map dj) (s.A.map fa):=by
 cases s;simp only [encS,amD,amG,amE,amH];rfl
def kZ(s:CS):aF fC 0 (encS s)=encS s:=Bd
def PH(s:CH):aF aaH 0 (dj s)=dj s:=aoV
def aQj(s:CD):aF fC 0 (eu s)=encS s.d:=apB
def aQi(s:CD):aF fC 21 (eu s)=encS s.u:=apB
def ats(s:CH):aF fC 1 (dj s)=encS s.body:=aoV
def aQk(s:CA):aF qP 1 (fa s)=aH s.guard:=V1
def agt(s:CA):aF fC 12 (fa s)=encS s.body:=V1
def agu(s:CA):aF fC 33 (fa s)=encS s.after:=V1
def aZD(s:CA):gI (fa s) 0=s.kind:=by
 cases s with
 |mk k g n e b a=>rfl
def aZC(s:CA):gI (fa s) 10=s.entry:=apA
def aZE(s:CA):gR (fa s) 11=s.E.map aH:=apA
def P8(s:CH):gR (dj s) 0=ints s.gv:=Bd
structure OB where
 size:Int
 lo:Int
 hi:Int
 ptr:Bool
 set:cj
def iX(o:OB):aq:=[iI o.size,iI o.lo,iI o.hi,av o.ptr,aw (ints o.set)]
structure EN where
 ins:cj
 outs:cj
def nM(e:EN):aq:=[aw (ints e.ins),aw (ints e.outs)]
structure TK where
 prio:Int
 aJ:List EN
 body:CS
 dead:Int
def cA(t:TK):aq:=iI t.prio:: Jz (t.aJ.map nM)::(encS t.body++[iI t.dead])
structure PR where
 ceil:Int
 nu:cj
 bars:List CE
def il(q:PR):aq:=[iI q.ceil,aw (ints q.nu),bR (q.bars.map aH)]
structure PG where
 bq:List OB
 gv:Int
 tasks:List TK
 bW:List PR
def jB(p:PG):aq:=[dg (p.bq.map iX),iI p.gv,ng (p.tasks.map cA),uf (p.bW.map il)]
structure SO where
 ptr:Bool
 null:Bool
 set:cj
 lo:Int
 hi:Int
def bJ(s:SO):aq:=[av s.ptr,av s.null,aw (ints s.set),iI s.lo,iI s.hi]
inductive CE.Ok:CE->Prop
 |mk(e:CE)(hl:e.L.length<=mx)(h:∀y∈e.L,CE.Ok y):CE.Ok e
def Dx(l:List CE):Prop:=l.length<=mx/\∀e∈l,e.Ok
def PL.Ok(p:PL):Prop:=Dx p.E
def Qh(l:List PL):Prop:=l.length<=mx/\∀e∈l,e.Ok
structure gp.Ok(f:gp):Prop where
 E:Dx f.E
 Ins:Dx f.Ins
 To:Qh f.To
 kS:Qh f.kS
 Ts:f.Ts.length<=mx
 mode:0<=f.mode
structure CH.B7(x:CH):Prop where
 gv:x.gv.length<=mx
structure CA.B7(x:CA):Prop where
 guard:x.guard.Ok
 E:Dx x.E
inductive CS.Ok:CS->Prop
 |mk(s:CS)(hf:s.f.Ok)(hL:s.L.length<=mx)(hD:s.D.length<=mx)(hH:s.H.length<=mx)(hA:s.A.length<=mx)(h1:∀x∈s.H,x.B7)(h2:∀x∈s.A,x.B7)(hk:∀y∈s.kids,CS.Ok y):CS.Ok s
def OB.Ok(o:OB):Prop:=o.set.length<=mx
def EN.Ok(e:EN):Prop:=e.ins.length<=mx/\e.outs.length<=mx
structure TK.Ok(t:TK):Prop where
 len:t.aJ.length<=mx
 aJ:∀e∈t.aJ,e.Ok
 body:t.body.Ok
structure PR.Ok(q:PR):Prop where
 nu:q.nu.length<=mx
 bars:Dx q.bars
structure PG.Ok(p:PG):Prop where
 bq:p.bq.length<=mx
 obj:∀o∈p.bq,o.Ok
 tasks:p.tasks.length<=mx
 task:∀t∈p.tasks,t.Ok
 bW:p.bW.length<=mx
 nK:∀q∈p.bW,q.Ok
end Go.Proofs.B
namespace Go.Proofs.B
open Go Go.ah Qm
set_option maxRecDepth 100000
noncomputable section
inductive Wq
 |ca(p0:Bool)(p1:Option UO)(p2:Bool)(p3:Option UO)(p4:Option UO)
 |wq1(p0:aq)(p1:cf)
 |XB(p0:List dV)(p1:Nat)(p2:aq)(p3:cf)
 |wq3(p0:Bool)(p1:Option UO)(p2:aq)
 |k6(p0:Nat)(p1:Nat)
 |eW(p0:Nat)(p1:aq)(p2:Nat)
 |wq6(p0:Bool)(p1:aq)(p2:Option UO)
 |wq7(p0:aE)
 |wq8(p0:Nat)(p1:aE)
 |wq9(p0:List dV)(p1:aq)(p2:cf)
 |agl(p0:List dV)(p1:aq)(p2:Nat×AV)(p3:cf)
 |kh(p0:List dV)(p1:aq)(p2:Nat)(p3:Nat)(p4:cf)
 |dp
 |cL(p0:aq)(p1:Nat)
 |agk(p0:aq)(p1:Nat)(p2:Nat)(p3:cf)
 |kg(p0:Int)(p1:Int)(p2:Option UO)(p3:Option UO)
 |iN(p0:aq)(p1:Nat)
 |gk(p0:List dV)(p1:aq)(p2:Nat)(p3:AV)(p4:cf)
 |ba(p0:aE)
 |atm(p0:Nat)(p1:aq)(p2:Nat)
 |atl(p0:aq)(p1:Nat)(p2:AV)(p3:cf)
 |atk(p0:aq)(p1:Nat)(p2:Nat)(p3:Nat)(p4:cf)
 |ja(p0:aq)(p1:Nat)
 |iF(p0:aq)(p1:Nat)
 |cM(p0:aq)(p1:Nat)
 |HB(p0:AV)(p1:aq)
 |dD(p0:aq)(p1:Nat)(p2:Int)
 |bB(p0:aE)
 |agj(p0:AV)(p1:aq)
 |gU(p0:Bool)(p1:Option UO)
 |bQ(p0:aE)
 |bu(p0:aq)
 |lu(p0:Bool)(p1:Option UO)(p2:AV)(p3:aq)
 |Ai
 |kJ(p0:AV)(p1:aq)
 |agi(p0:aq)
 |di(p0:AV)
 |ig(p0:Int)(p1:aq)(p2:Nat)
 |agh(p0:AV)(p1:AV)(p2:aq)
 |w7(p0:aq)(p1:AV)(p2:cf)
 |fS(p0:Nat)(p1:Option UO)(p2:AV)(p3:aq)
 |bP(p0:aq)
 |bH(p0:aq)(p1:AV)
 |lr(p0:Bool)(p1:aq)(p2:Option UO)
 |nJ(p0:aq)(p1:Nat)
 |atj(p0:aq)(p1:Nat)(p2:Nat)(p3:cf)
 |lL(p0:aq)(p1:Nat)
 |cT(p0:aE)
 |eK(p0:aq)
 |dG(p0:Int)(p1:aq)(p2:Nat)(p3:Option UO)
 |da(p0:aE)
 |ati(p0:aq)(p1:Nat)(p2:Nat)(p3:cf)
 |ath(p0:aq)(p1:Nat)(p2:Nat)(p3:Nat×AV)(p4:cf)
 |atg(p0:aq)(p1:Nat)(p2:Nat)(p3:Nat)(p4:AV)(p5:cf)
 |atf(p0:aq)(p1:Nat)(p2:Nat)(p3:AV)(p4:cf)
 |jZ(p0:aq)(p1:Nat)(p2:Nat)(p3:AV)
 |HA(p0:Nat)
 |ate(p0:aq)(p1:Nat)
 |mq(p0:aq)
 |atd(p0:aq)(p1:Nat)(p2:cf)
 |jG(p0:AV)(p1:AV)(p2:AV)(p3:aq)
 |dU(p0:aE)
 |jk(p0:aq)(p1:Nat)(p2:Nat)
 |bN(p0:aE)
 |agf(p0:Bool)(p1:Option UO)(p2:AV)(p3:AV)(p4:aq)
 |kf(p0:aq)(p1:Nat)(p2:AV)
 |eD
 |lK(p0:aq)(p1:Nat)
 |oG(p0:Nat)(p1:Nat)(p2:Option UO)
 |lJ(p0:aE)(p1:Int)
 |ke(p0:Int)
 |atc(p0:aq)(p1:Nat)(p2:cf)
 |bU(p0:aq)
 |v8(p0:Int)(p1:aq)(p2:Nat)(p3:Option UO)
 |atb(p0:aq)(p1:Nat)(p2:Nat×AV)(p3:cf)
 |age(p0:aq)(p1:Nat)(p2:Nat)(p3:AV)(p4:cf)
 |eM
 |ata(p0:aq)(p1:Nat)(p2:AV)(p3:cf)
 |mV(p0:aq)(p1:Nat)(p2:AV)
 |nv(p0:aq)
 |iM(p0:aq)
 |agd(p0:AV)(p1:aq)
 |cb(p0:aq)
 |eV(p0:aE)
 |pU(p0:Bool)(p1:Option UO)
 |cE(p0:aq)
 |cx(p0:aq)(p1:AV)
 |kc(p0:Bool)(p1:AV)(p2:aq)(p3:Option UO)
 |cy(p0:aq)(p1:AV)
 |mo(p0:aq)(p1:Nat)
 |fR(p0:AV)(p1:AV)(p2:AV)(p3:AV)(p4:aq)
 |nI(p0:Int)(p1:Int)(p2:Option UO)(p3:AV)(p4:aq)
 |iE(p0:Int)
 |as9(p0:aq)(p1:Nat)
 |fQ(p0:aq)(p1:Nat)
 |gj(p0:aE)
 |gG(p0:aE)
 |as8(p0:aq)(p1:Nat)(p2:Nat×AV)(p3:cf)
 |as7(p0:aq)(p1:Nat)(p2:Nat)(p3:cf)
 |iZ(p0:aq)(p1:Nat)(p2:Nat)
 |nF(p0:AV)(p1:aq)
 |gL(p0:aE)
 |jx(p0:aq)(p1:Nat)
 |iL(p0:Nat)(p1:Option UO)(p2:aq)(p3:aq)
 |sW(p0:aq)(p1:Nat)(p2:Option UO)(p3:Option UO)
 |iD(p0:aq)
 |ie(p0:aE)
 |oD(p0:AV)(p1:AV)(p2:aq)
 |eL(p0:Bool)(p1:Option UO)(p2:AV)(p3:AV)(p4:AV)(p5:aq)
 |jW(p0:aq)
 |oC(p0:AV)(p1:AV)(p2:aq)
 |jP(p0:Int)(p1:aq)(p2:Nat)
 |jO(p0:aq)(p1:Nat)(p2:aq)(p3:Nat)
 |dN(p0:aq)
 |dh(p0:AV)(p1:AV)
 |j8(p0:AV)
 |dP(p0:aq)
 |lq(p0:Bool)(p1:AV)(p2:AV)(p3:aq)(p4:Option UO)
 |jN(p0:Int)(p1:aE)(p2:Nat)(p3:Nat)(p4:Option UO)
 |arH(p0:aq)(p1:Nat)(p2:Nat)(p3:cf)
 |hZ(p0:Bool)(p1:Option UO)(p2:AV)(p3:AV)(p4:aq)
 |lU(p0:Nat)
 |dS(p0:AV)(p1:AV)(p2:aq)
 |mT(p0:aq)
 |arG(p0:aq)(p1:Nat)
 |fW(p0:aq)
 |gX(p0:aq)
 |eU(p0:aq)
 |nD(p0:aq)
 |uo(p0:aq)
 |lj(p0:Bool)(p1:AV)(p2:AV)(p3:AV)(p4:aq)
 |nC(p0:aq)
 |mE(p0:aE)(p1:aE)(p2:Int)
 |n6(p0:aq)
 |KG(p0:AV)(p1:AV)(p2:AV)(p3:aq)
 |jS(p0:Bool)(p1:AV)(p2:aq)(p3:Option UO)
 |nq(p0:aq)(p1:Nat)(p2:Int)
 |fZ(p0:aq)
 |KF(p0:AV)(p1:aq)
 |mS(p0:aE)
 |nZ(p0:aq)(p1:Nat)(p2:Nat)
 |arF(p0:aq)(p1:AV)(p2:aq)
 |pC(p0:Bool)
 |jw(p0:AV)(p1:AV)(p2:AV)(p3:AV)(p4:aq)
 |lT(p0:AV)(p1:AV)(p2:AV)(p3:aq)(p4:AV)(p5:aq)
 |nm(p0:aq)
 |kG(p0:Nat)
 |kF(p0:Nat)
 |kE(p0:Nat)
 |kB(p0:Nat)
 |kz(p0:Nat)
 |y5(p0:Nat)
 |kv(p0:Nat)
 |kr(p0:Nat)
 |pS(p0:aE)
 |mC(p0:aq)
 |nY(p0:aE)
 |qt(p0:aq)
 |nj(p0:Bool)(p1:Int)(p2:AV)(p3:aq)(p4:Option UO)
 |qq(p0:aq)
 |nX(p0:aq)(p2:Nat)(p3:aq)
 |oB(p0:AV)(p1:aq)(p2:aq)
 |lI(p0:aq)
 |arE(p0:Nat)(p1:Nat)(p2:Option UO)
 |EM(p0:Nat)(p1:aq)
 |pR(p0:aq)(p1:AV)
 |qV(p0:aq)
 |qU(p0:aq)
 |pQ(p0:Nat)(p1:aq)
 |oA(p0:aE)
 |nW(p0:aq)(p1:Nat)
 |arD(p0:aq)(p1:Nat)(p2:Nat)(p3:cf)
 |iC(p0:aq)
 |rL(p0:aq)
 |mB(p0:Int)(p1:Int)(p3:aE)(p4:Option UO)(p5:AV)(p6:aq)
 |pb(p0:aE)
 |lR(p0:Int)
 |fN(p0:Bool)(p1:Option UO)(p2:AV)(p3:AV)
 |iU(p0:AV)
 |nB
 |oi(p0:Int)(p1:AV)(p2:AV)(p3:AV)(p4:aq)
 |gT(p0:aq)(p1:Nat)(p2:Option UO)
 |rK(p0:aq)(p1:Nat)
 |rJ(p0:aq)(p1:aq)
 |oz(p0:aq)(p1:AV)(p2:AV)(p3:AV)(p4:aq)
 |jF(p0:aq)
 |pa(p0:aq)(p1:Nat)
 |o0(p0:Nat)(p1:Option UO)
 |qp(p0:aE)
 |jM(p0:aq)
 |pB(p0:aq)(p1:Nat)
 |sv(p0:aq)(p1:AV)
 |arB(p0:aq)(p1:Nat)(p2:cf)
 |iu(p0:aq)(p1:Nat)
 |um(p0:aq)
 |uk(p0:aq)
 |mj(p0:aq)(p1:Nat)(p2:cf)
 |qo(p0:aq)(p1:Nat)
 |kY(p0:aq)
 |su(p0:aE)
 |oZ(p0:Int)(p1:Int)(p2:Option UO)(p3:Bool)(p4:Option UO)(p5:Option UO)
 |vd(p0:aq)
 |lA(p0:aq)
open Wq
abbrev ap(x:Wq)(A:Type):=CoeDep Wq x A
instance (p0:Bool)(p1:Option UO)(p2:Bool)(p3:Option UO)(p4:Option UO):ap (.ca p0 p1 p2 p3 p4) (Option UO):=⟨bif p0 then p1 else bif p2 then p3 else p4⟩
instance (p0:aq)(p1:cf):ap (.wq1 p0 p1) (AV):=⟨aa (sT p0 p1)⟩
instance (p0:List dV)(p1:Nat)(p2:aq)(p3:cf):ap (.XB p0 p1 p2 p3) (AV):=⟨wq1 (aF p0 p1 p2) p3⟩
instance (p0:Bool)(p1:Option UO)(p2:aq):ap (.wq3 p0 p1 p2) (Option UO):=⟨bif p0 then p1 else bL p2⟩
instance (p0:Nat)(p1:Nat):ap (.k6 p0 p1) (Nat×AV):=⟨(p0,.ak p1)⟩
instance (p0:Nat)(p1:aq)(p2:Nat):ap (.eW p0 p1 p2) (AV):=⟨.aj p0 (gR p1 p2)⟩
instance (p0:Bool)(p1:aq)(p2:Option UO):ap (.wq6 p0 p1 p2) (Option UO):=⟨bif p0 then bL p1 else p2⟩
instance (p0:aE):ap (.wq7 p0) aE:=⟨bz (aJ p0)⟩
instance (p0:Nat)(p1:aE):ap (.wq8 p0 p1) (AV):=⟨.aj p0 (wq7 p1)⟩
instance (p0:List dV)(p1:aq)(p2:cf):ap (.wq9 p0 p1 p2) (AV):=⟨XB p0 0 p1 p2⟩
instance (p0:List dV)(p1:aq)(p2:Nat×AV)(p3:cf):ap (.agl p0 p1 p2 p3) (AV):=⟨wq9 p0 p1 (p2::p3)⟩
instance (p0:List dV)(p1:aq)(p2:Nat)(p3:Nat)(p4:cf):ap (.kh p0 p1 p2 p3 p4) (AV):=⟨agl p0 p1 (k6 p2 p3) p4⟩
instance:ap (.dp) (AV):=⟨aT⟩
instance (p0:aq)(p1:Nat):ap (.cL p0 p1) (AV):=⟨iI (gI p0 p1)⟩
instance (p0:aq)(p1:Nat)(p2:Nat)(p3:cf):ap (.agk p0 p1 p2 p3) (AV):=⟨kh eC p0 p1 p2 p3⟩
instance (p0:Int)(p1:Int)(p2:Option UO)(p3:Option UO):ap (.kg p0 p1 p2 p3) (Option UO):=⟨bif cH p0 p1 then p2 else p3⟩
instance (p0:aq)(p1:Nat):ap (.iN p0 p1) (AV):=⟨av (gB p0 p1)⟩
instance (p0:List dV)(p1:aq)(p2:Nat)(p3:AV)(p4:cf):ap (.gk p0 p1 p2 p3 p4) (AV):=⟨agl p0 p1 (p2,p3) p4⟩
instance (p0:aE):ap (.ba p0) (AV):=⟨aw p0⟩
instance (p0:Nat)(p1:aq)(p2:Nat):ap (.atm p0 p1 p2) (AV):=⟨wq8 p0 (gR p1 p2)⟩
instance (p0:aq)(p1:Nat)(p2:AV)(p3:cf):ap (.atl p0 p1 p2 p3) (AV):=⟨gk mO p0 p1 p2 p3⟩
instance (p0:aq)(p1:Nat)(p2:Nat)(p3:Nat)(p4:cf):ap (.atk p0 p1 p2 p3 p4) (AV):=⟨agk (gC p0 p1) p2 p3 p4⟩
instance (p0:aq)(p1:Nat):ap (.ja p0 p1) (Int):=⟨ln (gR p0 p1)⟩
instance (p0:aq)(p1:Nat):ap (.iF p0 p1) (AV):=⟨eW abN p0 p1⟩
instance (p0:aq)(p1:Nat):ap (.cM p0 p1) (AV):=⟨eW tI p0 p1⟩
instance (p0:AV)(p1:aq):ap (.HB p0 p1) (AV):=⟨aa (p0::p1)⟩
instance (p0:aq)(p1:Nat)(p2:Int):ap (.dD p0 p1 p2) aq:=⟨bp (gR p0 p1) p2⟩
instance (p0:aE):ap (.bB p0) (AV):=⟨ay p0⟩
instance (p0:AV)(p1:aq):ap (.agj p0 p1) (Option UO):=⟨bL (p0::p1)⟩
instance (p0:Bool)(p1:Option UO):ap (.gU p0 p1) (Option UO):=⟨bif p0 then p1 else fm⟩
instance (p0:aE):ap (.bQ p0) (AV):=⟨bR p0⟩
instance (p0:aq):ap (.bu p0) aq:=⟨gC p0 1⟩
instance (p0:Bool)(p1:Option UO)(p2:AV)(p3:aq):ap (.lu p0 p1 p2 p3) (Option UO):=⟨wq3 p0 p1 (p2::p3)⟩
instance:ap (.Ai) (AV):=⟨iI 0⟩
instance (p0:AV)(p1:aq):ap (.kJ p0 p1) (Option UO):=⟨oo (p0::p1)⟩
instance (p0:aq):ap (.agi p0) (Option UO):=⟨kJ dp p0⟩
instance (p0:AV):ap (.di p0) (AV):=⟨HB p0 []⟩
instance (p0:Int)(p1:aq)(p2:Nat):ap (.ig p0 p1 p2) (Bool):=⟨cH p0 (ja p1 p2)⟩
instance (p0:AV)(p1:AV)(p2:aq):ap (.agh p0 p1 p2) (Option UO):=⟨agj p0 (p1::p2)⟩
instance (p0:aq)(p1:AV)(p2:cf):ap (.w7 p0 p1 p2) (AV):=⟨atl p0 0 p1 p2⟩
instance (p0:Nat)(p1:Option UO)(p2:AV)(p3:aq):ap (.fS p0 p1 p2 p3) (Option UO):=⟨lu (gJ p0) p1 p2 p3⟩
instance (p0:aq):ap (.bP p0) aq:=⟨gC p0 0⟩
instance (p0:aq)(p1:AV):ap (.bH p0 p1) (AV):=⟨w7 p0 p1 []⟩
instance (p0:Bool)(p1:aq)(p2:Option UO):ap (.lr p0 p1 p2) (Option UO):=⟨bif p0 then agi p1 else p2⟩
instance (p0:aq)(p1:Nat):ap (.nJ p0 p1) (Bool):=⟨!(gB p0 p1)⟩
instance (p0:aq)(p1:Nat)(p2:Nat)(p3:cf):ap (.atj p0 p1 p2 p3) (AV):=⟨kh mN p0 p1 p2 p3⟩
instance (p0:aq)(p1:Nat):ap (.lL p0 p1) (AV):=⟨atm 0 p0 p1⟩
instance (p0:aE):ap (.cT p0) (AV):=⟨c7 p0⟩
instance (p0:aq):ap (.eK p0) (AV):=⟨iN p0 0⟩
instance (p0:Int)(p1:aq)(p2:Nat)(p3:Option UO):ap (.dG p0 p1 p2 p3) (Option UO):=⟨eh p0 (gR p1 p2)<|p3⟩
instance (p0:aE):ap (.da p0) (AV):=⟨dv p0⟩
instance (p0:aq)(p1:Nat)(p2:Nat)(p3:cf):ap (.ati p0 p1 p2 p3) (AV):=⟨atk p0 p1 6 p2 p3⟩
instance (p0:aq)(p1:Nat)(p2:Nat)(p3:Nat×AV)(p4:cf):ap (.ath p0 p1 p2 p3 p4) (AV):=⟨ati p0 p1 p2 (p3::p4)⟩
instance (p0:aq)(p1:Nat)(p2:Nat)(p3:Nat)(p4:AV)(p5:cf):ap (.atg p0 p1 p2 p3 p4 p5) (AV):=⟨ath p0 p1 p2 (p3,p4) p5⟩
instance (p0:aq)(p1:Nat)(p2:Nat)(p3:AV)(p4:cf):ap (.atf p0 p1 p2 p3 p4) (AV):=⟨atg p0 p1 p2 8 p3 p4⟩
instance (p0:aq)(p1:Nat)(p2:Nat)(p3:AV):ap (.jZ p0 p1 p2 p3) (AV):=⟨atf p0 p1 p2 p3 []⟩
instance (p0:Nat):ap (.HA p0) (Nat×AV):=⟨k6 62 p0⟩
instance (p0:aq)(p1:Nat):ap (.ate p0 p1) (AV):=⟨di (cL p0 p1)⟩
instance (p0:aq):ap (.mq p0) (Int):=⟨gI p0 0⟩
instance (p0:aq)(p1:Nat)(p2:cf):ap (.atd p0 p1 p2) (AV):=⟨atj p0 61 p1 p2⟩
instance (p0:AV)(p1:AV)(p2:AV)(p3:aq):ap (.jG p0 p1 p2 p3) (Option UO):=⟨agh p0 p1 (p2::p3)⟩
instance (p0:aE):ap (.dU p0) (AV):=⟨cp p0⟩
instance (p0:aq)(p1:Nat)(p2:Nat):ap (.jk p0 p1 p2) aq:=⟨gA (gR p0 p1) p2⟩
instance (p0:aE):ap (.bN p0) (AV):=⟨wq8 0 p0⟩
instance (p0:Bool)(p1:Option UO)(p2:AV)(p3:AV)(p4:aq):ap (.agf p0 p1 p2 p3 p4) (Option UO):=⟨lu p0 p1 p2 (p3::p4)⟩
instance (p0:aq)(p1:Nat)(p2:AV):ap (.kf p0 p1 p2) (AV):=⟨jZ p0 p1 1 p2⟩
instance:ap (.eD) (AV):=⟨c5⟩
instance (p0:aq)(p1:Nat):ap (.lK p0 p1) (AV):=⟨eW acs p0 p1⟩
instance (p0:Nat)(p1:Nat)(p2:Option UO):ap (.oG p0 p1 p2) (Option UO):=⟨a8 (qF p0 p1)<|p2⟩
instance (p0:aE)(p1:Int):ap (.lJ p0 p1) (Int):=⟨mq (bp p0 p1)⟩
instance (p0:Int):ap (.ke p0) (AV):=⟨cu p0⟩
instance (p0:aq)(p1:Nat)(p2:cf):ap (.atc p0 p1 p2) (AV):=⟨agk p0 6 p1 p2⟩
instance (p0:aq):ap (.bU p0) (AV):=⟨iF p0 2⟩
instance (p0:Int)(p1:aq)(p2:Nat)(p3:Option UO):ap (.v8 p0 p1 p2 p3) (Option UO):=⟨a8 (ig p0 p1 p2)<|p3⟩
instance (p0:aq)(p1:Nat)(p2:Nat×AV)(p3:cf):ap (.atb p0 p1 p2 p3) (AV):=⟨atc p0 p1 (p2::p3)⟩
instance (p0:aq)(p1:Nat)(p2:Nat)(p3:AV)(p4:cf):ap (.age p0 p1 p2 p3 p4) (AV):=⟨atb p0 p1 (p2,p3) p4⟩
instance:ap (.eM) (AV):=⟨ba dL⟩
instance (p0:aq)(p1:Nat)(p2:AV)(p3:cf):ap (.ata p0 p1 p2 p3) (AV):=⟨age p0 p1 8 p2 p3⟩
instance (p0:aq)(p1:Nat)(p2:AV):ap (.mV p0 p1 p2) (AV):=⟨ata p0 p1 p2 []⟩
instance (p0:aq):ap (.nv p0) aq:=⟨(Ai::p0)⟩
instance (p0:aq):ap (.iM p0) aq:=⟨nv (nv p0)⟩
instance (p0:AV)(p1:aq):ap (.agd p0 p1) (Option UO):=⟨agi (p0::p1)⟩
instance (p0:aq):ap (.cb p0) (AV):=⟨lL p0 3⟩
instance (p0:aE):ap (.eV p0) (AV):=⟨cF p0⟩
instance (p0:Bool)(p1:Option UO):ap (.pU p0 p1) (Option UO):=⟨bif p0 then fm else p1⟩
instance (p0:aq):ap (.cE p0) (Bool):=⟨nJ p0 0⟩
instance (p0:aq)(p1:AV):ap (.cx p0 p1) (AV):=⟨kf p0 1 p1⟩
instance (p0:Bool)(p1:AV)(p2:aq)(p3:Option UO):ap (.kc p0 p1 p2 p3) (Option UO):=⟨wq6 p0 (p1::p2) p3⟩
instance (p0:aq)(p1:AV):ap (.cy p0 p1) (AV):=⟨mV p0 1 p1⟩
instance (p0:aq)(p1:Nat):ap (.mo p0 p1) (AV):=⟨eW aox p0 p1⟩
instance (p0:AV)(p1:AV)(p2:AV)(p3:AV)(p4:aq):ap (.fR p0 p1 p2 p3 p4) (Option UO):=⟨jG p0 p1 p2 (p3::p4)⟩
instance (p0:Int)(p1:Int)(p2:Option UO)(p3:AV)(p4:aq):ap (.nI p0 p1 p2 p3 p4) (Option UO):=⟨kg p0 p1 p2 (kJ p3 p4)⟩
instance (p0:Int):ap (.iE p0) (AV):=⟨iI (aU p0)⟩
instance (p0:aq)(p1:Nat):ap (.as9 p0 p1) (AV):=⟨di (lK p0 p1)⟩
instance (p0:aq)(p1:Nat):ap (.fQ p0 p1) (AV):=⟨eW alZ p0 p1⟩
instance (p0:aE):ap (.gj p0) (AV):=⟨fO p0⟩
instance (p0:aE):ap (.gG p0) (AV):=⟨fV p0⟩
instance (p0:aq)(p1:Nat)(p2:Nat×AV)(p3:cf):ap (.as8 p0 p1 p2 p3) (AV):=⟨atd p0 p1 (p2::p3)⟩
instance (p0:aq)(p1:Nat)(p2:Nat)(p3:cf):ap (.as7 p0 p1 p2 p3) (AV):=⟨as8 p0 p1 (HA p2) p3⟩
instance (p0:aq)(p1:Nat)(p2:Nat):ap (.iZ p0 p1 p2) (AV):=⟨as7 p0 p1 p2 []⟩
instance (p0:AV)(p1:aq):ap (.nF p0 p1) aq:=⟨nv (p0::p1)⟩
instance (p0:aE):ap (.gL p0) (AV):=⟨fy p0⟩
instance (p0:aq)(p1:Nat):ap (.jx p0 p1) (AV):=⟨iI (ja p0 p1)⟩
instance (p0:Nat)(p1:Option UO)(p2:aq)(p3:aq):ap (.iL p0 p1 p2 p3) (Option UO):=⟨fS p0 p1 (eK p2) p3⟩
instance (p0:aq)(p1:Nat)(p2:Option UO)(p3:Option UO):ap (.sW p0 p1 p2 p3) (Option UO):=⟨bif gB p0 p1 then p2 else p3⟩
instance (p0:aq):ap (.iD p0) (AV):=⟨cM p0 0⟩
instance (p0:aE):ap (.ie p0) (AV):=⟨hY p0⟩
instance (p0:AV)(p1:AV)(p2:aq):ap (.oD p0 p1 p2) (AV):=⟨HB p0 (p1::p2)⟩
instance (p0:Bool)(p1:Option UO)(p2:AV)(p3:AV)(p4:AV)(p5:aq):ap (.eL p0 p1 p2 p3 p4 p5) (Option UO):=⟨agf p0 p1 p2 p3 (p4::p5)⟩
instance (p0:aq):ap (.jW p0) (AV):=⟨ke (mq p0)⟩
instance (p0:AV)(p1:AV)(p2:aq):ap (.oC p0 p1 p2) (Option UO):=⟨agd p0 (p1::p2)⟩
instance (p0:Int)(p1:aq)(p2:Nat):ap (.jP p0 p1 p2) (Bool):=⟨dJ p0 (gI p1 p2)⟩
instance (p0:aq)(p1:Nat)(p2:aq)(p3:Nat):ap (.jO p0 p1 p2 p3) aq:=⟨dD p0 p1 (gI p2 p3)⟩
instance (p0:aq):ap (.dN p0) aq:=⟨gC p0 2⟩
instance (p0:AV)(p1:AV):ap (.dh p0 p1) (Option UO):=⟨agh p0 p1 []⟩
instance (p0:AV):ap (.j8 p0) (Option UO):=⟨agj p0 []⟩
instance (p0:aq):ap (.dP p0) (Bool):=⟨gB p0 0⟩
instance (p0:Bool)(p1:AV)(p2:AV)(p3:aq)(p4:Option UO):ap (.lq p0 p1 p2 p3 p4) (Option UO):=⟨kc p0 p1 (p2::p3) p4⟩
instance (p0:Int)(p1:aE)(p2:Nat)(p3:Nat)(p4:Option UO):ap (.jN p0 p1 p2 p3 p4) (Option UO):=⟨eh p0 p1<|oG p2 p3 p4⟩
instance (p0:aq)(p1:Nat)(p2:Nat)(p3:cf):ap (.arH p0 p1 p2 p3) (AV):=⟨kh xF p0 p1 p2 p3⟩
instance (p0:Bool)(p1:Option UO)(p2:AV)(p3:AV)(p4:aq):ap (.hZ p0 p1 p2 p3 p4) (Option UO):=⟨eL p0 p1 dp p2 p3 p4⟩
instance (p0:Nat):ap (.lU p0) (AV):=⟨di (.ak p0)⟩
instance (p0:AV)(p1:AV)(p2:aq):ap (.dS p0 p1 p2) aq:=⟨nF p0 (p1::p2)⟩
instance (p0:aq):ap (.mT p0) (AV):=⟨dC (bP p0)⟩
instance (p0:aq)(p1:Nat):ap (.arG p0 p1) (AV):=⟨iZ p0 1 p1⟩
instance (p0:aq):ap (.fW p0) (AV):=⟨arG p0 2⟩
instance (p0:aq):ap (.gX p0) (AV):=⟨ate p0 0⟩
instance (p0:aq):ap (.eU p0) (AV):=⟨cL p0 0⟩
instance (p0:aq):ap (.nD p0) (AV):=⟨cz (bP p0)⟩
instance (p0:aq):ap (.uo p0) aq:=⟨iM (iM p0)⟩
instance (p0:Bool)(p1:AV)(p2:AV)(p3:AV)(p4:aq):ap (.lj p0 p1 p2 p3 p4) (Option UO):=⟨fR (av p0) p1 p2 p3 p4⟩
instance (p0:aq):ap (.nC p0) (Option UO):=⟨j8 (eK p0)⟩
instance (p0:aE)(p1:aE)(p2:Int):ap (.mE p0 p1 p2) aq:=⟨bp p0 (lJ p1 p2)⟩
instance (p0:aq):ap (.n6 p0) (AV):=⟨di (iD p0)⟩
instance (p0:AV)(p1:AV)(p2:AV)(p3:aq):ap (.KG p0 p1 p2 p3) (Option UO):=⟨oC p0 p1 (p2::p3)⟩
instance (p0:Bool)(p1:AV)(p2:aq)(p3:Option UO):ap (.jS p0 p1 p2 p3) (Option UO):=⟨lq p0 dp p1 p2 p3⟩
instance (p0:aq)(p1:Nat)(p2:Int):ap (.nq p0 p1 p2) (Int):=⟨mq (dD p0 p1 p2)⟩
instance (p0:aq):ap (.fZ p0) aq:=⟨gC p0 4⟩
instance (p0:AV)(p1:aq):ap (.KF p0 p1) (AV):=⟨oD p0 dp p1⟩
instance (p0:aE):ap (.mS p0) (AV):=⟨sN p0⟩
instance (p0:aq)(p1:Nat)(p2:Nat):ap (.nZ p0 p1 p2) (AV):=⟨bK (jk p0 p1 p2)⟩
instance (p0:aq)(p1:AV)(p2:aq):ap (.arF p0 p1 p2) (AV):=⟨oD (iD p0) p1 p2⟩
instance (p0:Bool):ap (.pC p0) (Option UO):=⟨j8 (av p0)⟩
instance (p0:AV)(p1:AV)(p2:AV)(p3:AV)(p4:aq):ap (.jw p0 p1 p2 p3 p4) (Option UO):=⟨KG p0 p1 p2 (p3::p4)⟩
instance (p0:AV)(p1:AV)(p2:AV)(p3:aq)(p4:AV)(p5:aq):ap (.lT p0 p1 p2 p3 p4 p5) (Option UO):=⟨jw p0 p1 p2 (bH p3 p4) p5⟩
instance (p0:aq):ap (.nm p0) (AV):=⟨KF dp p0⟩
instance (p0:Nat):ap (.kG p0) (Nat×AV):=⟨k6 19 p0⟩
instance (p0:Nat):ap (.kF p0) (Nat×AV):=⟨k6 17 p0⟩
instance (p0:Nat):ap (.kE p0) (Nat×AV):=⟨k6 14 p0⟩
instance (p0:Nat):ap (.kB p0) (Nat×AV):=⟨k6 15 p0⟩
instance (p0:Nat):ap (.kz p0) (Nat×AV):=⟨k6 16 p0⟩
instance (p0:Nat):ap (.y5 p0) (Nat×AV):=⟨k6 20 p0⟩
instance (p0:Nat):ap (.kv p0) (Nat×AV):=⟨k6 18 p0⟩
instance (p0:Nat):ap (.kr p0) (Nat×AV):=⟨k6 13 p0⟩
instance (p0:aE):ap (.pS p0) (AV):=⟨iI (ln p0)⟩
instance (p0:aq):ap (.mC p0) (AV):=⟨cL p0 1⟩
instance (p0:aE):ap (.nY p0) (AV):=⟨mg p0⟩
instance (p0:aq):ap (.qt p0) (AV):=⟨aC (bu p0)⟩
instance (p0:Bool)(p1:Int)(p2:AV)(p3:aq)(p4:Option UO):ap (.nj p0 p1 p2 p3 p4) (Option UO):=⟨lq p0 (iI p1) p2 p3 p4⟩
instance (p0:aq):ap (.qq p0) (AV):=⟨gX (bu p0)⟩
instance (p0:aq)(p2:Nat)(p3:aq):ap (.nX p0 p2 p3) (AV):=⟨arF p0 (cM p0 p2) p3⟩
instance (p0:AV)(p1:aq)(p2:aq):ap (.oB p0 p1 p2) (AV):=⟨oD p0 (mC p1) p2⟩
instance (p0:aq):ap (.lI p0) aq:=⟨gC p0 3⟩
instance (p0:Nat)(p1:Nat)(p2:Option UO):ap (.arE p0 p1 p2) (Option UO):=⟨a8 (XN p0 p1)<|p2⟩
instance (p0:Nat)(p1:aq):ap (.EM p0 p1) aq:=⟨aF fC p0 p1⟩
instance (p0:aq)(p1:AV):ap (.pR p0 p1) (AV):=⟨bH (bu p0) p1⟩
instance (p0:aq):ap (.qV p0) (AV):=⟨di (eK p0)⟩
instance (p0:aq):ap (.qU p0) (AV):=⟨fW (bu p0)⟩
instance (p0:Nat)(p1:aq):ap (.pQ p0 p1) (AV):=⟨aa (EM p0 p1)⟩
instance (p0:aE):ap (.oA p0) (AV):=⟨gW p0⟩
instance (p0:aq)(p1:Nat):ap (.nW p0 p1) (AV):=⟨eW ajf p0 p1⟩
instance (p0:aq)(p1:Nat)(p2:Nat)(p3:cf):ap (.arD p0 p1 p2 p3) (AV):=⟨kh py p0 p1 p2 p3⟩
instance (p0:aq):ap (.iC p0) (AV):=⟨as9 p0 0⟩
instance (p0:aq):ap (.rL p0) (AV):=⟨cz (bu p0)⟩
instance (p0:Int)(p1:Int)(p3:aE)(p4:Option UO)(p5:AV)(p6:aq):ap (.mB p0 p1 p3 p4 p5 p6) (Option UO):=⟨nI p0 p1 (eh p0 p3 p4) p5 p6⟩
instance (p0:aE):ap (.pb p0) (AV):=⟨dg p0⟩
instance (p0:Int):ap (.lR p0) (Bool):=⟨dJ 0 p0⟩
instance (p0:Bool)(p1:Option UO)(p2:AV)(p3:AV):ap (.fN p0 p1 p2 p3) (Option UO):=⟨agf p0 p1 p2 p3 []⟩
instance (p0:AV):ap (.iU p0) (Option UO):=⟨agd p0 []⟩
instance:ap (.nB) (Nat×AV):=⟨y5 10⟩
instance (p0:Int)(p1:AV)(p2:AV)(p3:AV)(p4:aq):ap (.oi p0 p1 p2 p3 p4) (Option UO):=⟨fR (iI p0) p1 p2 p3 p4⟩
instance (p0:aq)(p1:Nat)(p2:Option UO):ap (.gT p0 p1 p2) (Option UO):=⟨v8 0 p0 p1 p2⟩
instance (p0:aq)(p1:Nat):ap (.rK p0 p1) (AV):=⟨cL (bu p0) p1⟩
instance (p0:aq)(p1:aq):ap (.rJ p0 p1) (Option UO):=⟨kJ (eK p0) p1⟩
instance (p0:aq)(p1:AV)(p2:AV)(p3:AV)(p4:aq):ap (.oz p0 p1 p2 p3 p4) (Option UO):=⟨fR (eK p0) p1 p2 p3 p4⟩
instance (p0:aq):ap (.jF p0) (Int):=⟨gI p0 1⟩
instance (p0:aq)(p1:Nat):ap (.pa p0 p1) (AV):=⟨eW NH p0 p1⟩
instance (p0:Nat)(p1:Option UO):ap (.o0 p0 p1) (Option UO):=⟨arE p0 140737488355328 p1⟩
instance (p0:aE):ap (.qp p0) (AV):=⟨j7 p0⟩
instance (p0:aq):ap (.jM p0) (AV):=⟨iF p0 3⟩
instance (p0:aq)(p1:Nat):ap (.pB p0 p1) (AV):=⟨eW Ta p0 p1⟩
instance (p0:aq)(p1:AV):ap (.sv p0 p1) (AV):=⟨bH (lI p0) p1⟩
instance (p0:aq)(p1:Nat)(p2:cf):ap (.arB p0 p1 p2) (AV):=⟨arH p0 2 p1 p2⟩
instance (p0:aq)(p1:Nat):ap (.iu p0 p1) (AV):=⟨arB p0 p1 []⟩
instance (p0:aq):ap (.um p0) (AV):=⟨aC (bP p0)⟩
instance (p0:aq):ap (.uk p0) (AV):=⟨cC (bP p0)⟩
instance (p0:aq)(p1:Nat)(p2:cf):ap (.mj p0 p1 p2) (AV):=⟨arD p0 12 p1 p2⟩
instance (p0:aq)(p1:Nat):ap (.qo p0 p1) (AV):=⟨eW ajo p0 p1⟩
instance (p0:aq):ap (.kY p0) (AV):=⟨lL p0 4⟩
instance (p0:aE):ap (.su p0) (AV):=⟨sg p0⟩
instance (p0:Int)(p1:Int)(p2:Option UO)(p3:Bool)(p4:Option UO)(p5:Option UO):ap (.oZ p0 p1 p2 p3 p4 p5) (Option UO):=⟨ca (cH p0 p1) p2 p3 p4 p5⟩
instance (p0:aq):ap (.vd p0) (Bool):=⟨lR (mq p0)⟩
instance (p0:aq):ap (.lA p0) (AV):=⟨mo p0 3⟩
variable {G:Nat->aq->Option UO} {N n:Nat} {i0 i1 i2 i3 i4 i5:Int} {l0 l1 l2 l3 l4 l5:aq} {r0 r1 r2 r3 r4 r5 r6:aE}
def akh:SK G N (n+1) [iI i0,aa l1,dv r2]=(fN (ig i0 l1 18) (dG i0 l1 18 (dG i0 l1 18 (o0 ((r2.length+2)*272) (SK G N n [bZ i0,aC l1,da (r2++([EM 0 (dD l1 18 i0),EM 21 (dD l1 18 i0)]:aE))])))) (aC l1) (da r2):aA):=ac
def aFA:abk G N [aa l0,dv r1]=(bO (SK G N N (dS (aC l0) (da r1) [])) λ_ o1=>dh (um o1) (pB o1 1):aA):=ac
def ajZ:Sz G N (n+1) [iI i0,aa l1,dv r2]=(fN (ig i0 l1 19) (dG i0 l1 19 (o0 ((r2.length+1)*272) (Sz G N n [bZ i0,aC l1,da (r2++([EM 1 (dD l1 19 i0)]:aE))]))) (aC l1) (da r2):aA):=ac
def aFz:SL G N [aa l0,dv r1]=(bO (Sz G N N (dS (aC l0) (da r1) [])) λ_ o3=>dh (um o3) (pB o3 1):aA):=ac
def ajY:Gq G N (n+1) [iI i0,aa l1,dv r2]=(fN (ig i0 l1 20) (dG i0 l1 20 (dG i0 l1 20 (o0 ((r2.length+2)*272) (Gq G N n [bZ i0,aC l1,da (r2++([EM 12 (dD l1 20 i0),EM 33 (dD l1 20 i0)]:aE))])))) (aC l1) (da r2):aA):=ac
def aIg:bG CX EE G N NL [aa l0]=(bO (abk G N [aC l0,da dL]) λ_ o2=>o0 (((gR o2 1).length +(gR (bP o2) 17).length)*272) (bO (SL G N [um o2,da ((gR o2 1)++(gR (bP o2) 17))]) λ_ o4=>bO (Gq G N N (dS (um o4) (pB o4 1) [])) λ_ o5=>j8 (pB o5 1)):aA):=ac
def ake:SJ G N (n+1) [iI i0,iI i1,dv r2]=(fN (cH i1 (ln r2)) (jN i1 r2 i1.toNat r2.length (bO (G NV [aC (bp r2 i1)]) λ_ o2=>SJ G N n [iE (i0+(gI o2 0)),bZ i1,da r2])) (iI i0) (da r2):aA):=ac
def aIW:bG CX EE G N NV [aa l0]=(bO (G NL [aC l0]) λ_ o1=>bO (SJ G N N (iI 1::nF (pB o1 0) [])) λ_ o3=>j8 (eU o3):aA):=ac
def akF:SZ G N (n+1) [iI i0,iI i1,aa l2]=(nI i1 i0 (dG i1 l2 2 (bO (G NV [pQ 2 (dD l2 2 i1)]) λ_ o1=>lq (cH 1000 (mq o1)) eD (cz l2) [] (SZ G N n [iI i0,bZ i1,cz l2]))) (cz l2) []:aA):=ac
def aIX:bG CX EE G N ach [aa l0]=(ca (ig 40 l0 2) cV (ig 300 l0 0) cV (bO (SZ G N N (jx l0 2::nF (cz l0) [])) λq2 o2=>kc (gJ q2) (eK o2) [] fm):aA):=ac
def aj3:Nh G N (n+1) [aw r0,iI i1,iI i2,aw r3,iI i4,iI i5]=(kg i5 i4 (eh i5 r3 (oZ (lJ r3 i5) i1 fm (cH i2 (lJ r3 i5)) fm (kg 0 i5 (eh (aU (i5- 1)) r0 (pU (dJ (lJ r3 i5) (lJ r0 (aU (i5- 1)))) (Nh G N n [ba r0,iI i1,iI i2,ba r3,iI i4,bZ i5]))) (Nh G N n [ba r0,iI i1,iI i2,ba r3,iI i4,bZ i5])))) (oo []):aA):=ac
def aHy:bG CX EE G N JK [aw r0,iI i1,iI i2]=(bO (Nh G N N (ba r0::iI i1::iI i2::ba r0::pS r0::nv [])) λq1 o1=>kc (gJ q1) (eK o1) [] cV:aA):=ac
def aEy:bG CX EE G N aaL [iI i0,aa l1]=(dG i0 l1 0 (lq (gB (dD l1 0 i0) 3) eD (iC l1) [] (dG i0 l1 0 (dh (av ((gI (dD l1 0 i0) 0) != 1)) (iC l1)))):aA):=ac
def ah3:Mu G N (n+1) [aw r0,iI i1,iI i2,aa l3]=(mB i2 i1 r0 (bO (G aaL [eU (bp r0 i2),iC l3]) λ_ o1=>nj (dP o1) i2 (iC (bu o1)) [] (Mu G N n [ba r0,iI i1,bZ i2,iC (bu o1)])) (iC l3) []:aA):=ac
def aii:bG CX EE G N YS [aw r0,aa l1]=(bO (Mu G N N (ba r0::pS r0::nF (iC l1) [])) λq2 o2=>fS q2 (dh (eU o2) (iC (bu o2))) (iI (-1)) [iC (bP o2)]:aA):=ac
def axk:bG CX EE G N YN [aw r0,aa l1]=(bO (G YS [ba r0,iC l1]) λ_ o1=>dh (av (vd o1)) (iC (bu o1)):aA):=ac
def aEl:aaZ G N [aa l0]=(oZ (ja l0 0) 1 (iU (iC l0)) (ig 2048 l0 0) (iU (iC l0)) (j8 (iC l0)):aA):=ac
def aA3:Z3 G N [aa l0]=(oZ (mq l0) 1 (iU (lG l0)) (cH 16384 (mq l0)) (iU (lG l0)) (j8 (lG l0)):aA):=ac
def aAs:ZQ G N [aa l0,aa l1]=(ca ((gI l1 0) != 1) (oC (iC l0) (lG l1) []) ((gI l1 1) != 0) (oC (iC l0) (lG l1) []) (lr ((gI l1 2) != 0) [iC l0,lG l1] (bO (G JK (cM l1 4::nF (iE ((ln (gR l0 0))- 1)) [])) λ_ o3=>fN (cE o3) (oC (iC l0) (lG l1) []) (iC l0) (lG l1))):aA):=ac
def ajw:Gl G N (n+1) [iI i0,dg r1,iI i2,iI i3,aa l4]=(mB i3 i2 r1 (bO (Z3 G N [lG (bp r1 i3)]) λq2 o2=>iL q2 (bif nJ (bP o2) 3 then jS (ig 0 (bP o2) 4) (iC l4) [] (oZ (jF (bP o2)) (-2147483648) (dh dp (iC l4)) (cH 2147483647 (gI (bP o2) 2)) (dh dp (iC l4)) (jS (cH (gI (bP o2) 2) (jF (bP o2))) (iC l4) [] (Gl G N n [iE (i0+(gI (bP o2) 0)),pb r1,iI i2,bZ i3,iC l4])))else bO (ZQ G N [iC l4,lG (bP o2)]) λq4 o4=>iL q4 (bO (G YN [cM (bu o4) 4,iC (bP o4)]) λ_ o5=>jS (dP o5) (iC (bu o5)) [] (Gl G N n [iE (i0+(gI (bP o2) 0)),pb r1,iI i2,bZ i3,iC (bu o5)])) o4 [iC (bu o4)]) o2 [iC l4]) (iI i0) [iC l4]:aA):=ac
def aa6:bG CX EE G N abq [dg r0]=(bO (aaZ G N [di (pb r0)]) λq1 o1=>iL q1 (bO (Gl G N N (dS (lK (bP o1) 0) (jx (bP o1) 0) (nF (iC (bP o1)) []))) λq6 o6=>fS q6 (nC o6) (av (dJ (mq o6) 16384)) []) o1 []:aA):=ac
def aDp:bG CX EE G N aav [.int .u64 i0,.int .u64 i1]=(bL [.int .u64 (IntKind.wrap .u64 ((IntKind.wrap .u64 ((IntKind.wrap .u64 (Int.fdiv i0 (2^32)*Int.fdiv i1 (2^32)))+(Int.fdiv (IntKind.wrap .u64 ((IntKind.wrap .u64 (Int.fdiv i0 (2^32)*(IntKind.wrap .u64 ((BitVec.ofInt 64 i1&&&BitVec.ofInt 64 4294967295).toNat :Int))))+(Int.fdiv (IntKind.wrap .u64 ((IntKind.wrap .u64 ((BitVec.ofInt 64 i0&&&BitVec.ofInt 64 4294967295).toNat :Int))*(IntKind.wrap .u64 ((BitVec.ofInt 64 i1&&&BitVec.ofInt 64 4294967295).toNat :Int)))) (2^32)))) (2^32))))+(Int.fdiv (IntKind.wrap .u64 ((IntKind.wrap .u64 ((BitVec.ofInt 64 ((IntKind.wrap .u64 ((IntKind.wrap .u64 (Int.fdiv i0 (2^32)*(IntKind.wrap .u64 ((BitVec.ofInt 64 i1&&&BitVec.ofInt 64 4294967295).toNat :Int))))+(Int.fdiv (IntKind.wrap .u64 ((IntKind.wrap .u64 ((BitVec.ofInt 64 i0&&&BitVec.ofInt 64 4294967295).toNat :Int))*(IntKind.wrap .u64 ((BitVec.ofInt 64 i1&&&BitVec.ofInt 64 4294967295).toNat :Int)))) (2^32)))))&&&BitVec.ofInt 64 4294967295).toNat :Int))+(IntKind.wrap .u64 ((IntKind.wrap .u64 ((BitVec.ofInt 64 i0&&&BitVec.ofInt 64 4294967295).toNat :Int))*Int.fdiv i1 (2^32))))) (2^32)))),.int .u64 (IntKind.wrap .u64 (i0*i1))]:aA):=ac
def aFI:bG CX EE G N aa3 [.int .u64 i0,.int .u64 i1]=(bO (G aav [.int .u64 i0,.int .u64 i1]) λ_ o1=>dh (.int .u64 (mq o1)) (.int .u64 (jF o1)):aA):=ac
def azF:Zx G N [iI i0]=(wq3 (cH i0 0) none []:aA):=ac
def aze:Zq G N [.int .u64 i0,.int .u64 i1]=(oZ 0 i0 none (cH 9223372036854775807 i1) none (bL []):aA):=ac
def ayQ:MF G N (n+1) [iI i0,ay r1]=(bif cH i0 (ln r1)then a8 (dJ 0 i0&&dJ i0 (ln r1)&&dJ (ln r1) (ln r1))<|a8 (dJ 0 i0&&dJ i0 (ln r1))<|MF G N n [iI (aU (i0+(((min ((r1.drop 0).take i0.toNat).length (r1.length- i0.toNat):Nat):Int)))),ay (yI r1 i0.toNat (r1.length- i0.toNat) ((r1.drop 0).take i0.toNat))]else bL [ay r1]:aA):=ac
def aA5:bG CX EE G N ZT [ay r0,iI i1]=(bO (Zx G N [iI i1]) λ_ o1=>bO (G aa3 [.int .u64 (IntKind.wrap .u64 (ln r0)),.int .u64 (IntKind.wrap .u64 i1)]) λ_ o2=>bO (Zq G N [.int .u64 (mq o2),.int .u64 (jF o2)]) λ_ o3=>a8 (((lR (aU (jF o2)))&&(dJ (aU (jF o2)) (aU (jF o2))))&&(dJ ((aU (jF o2))*24) 140737488355328))<|bO (MF G N N [iI ((min r0.length (List.replicate (aU (jF o2)).toNat (iM (nv []):Row)).length :Nat):Int),bB (yI (List.replicate (aU (jF o2)).toNat (iM (nv []):Row)) 0 (List.replicate (aU (jF o2)).toNat (iM (nv []):Row)).length r0)]) λ_ o4=>j8 (iF o4 0):aA):=ac
def aj0:Gr G N (n+1) [iI i0,iI i1,aw r2,iI i3,iI i4,.aj 0 r5]=(bif cH i4 i3 then eh i4 r2<|bif cH (gI (bp r2 i4) 0) i0 then bL [aT,.aj 0 (bz (aJ r5))]else bif cH i1 (gI (bp r2 i4) 0)then bL [aT,.aj 0 (bz (aJ r5))]else match ah.ew (aJ r5) (iI (gI (bp r2 i4) 0))with|some m1=>(bif m1.toB then bL [aT,.aj 0 (bz (aJ r5))]else Gr G N n [iI i0,iI i1,aw r2,iI i3,bZ i4,.aj 0 (bz (ah.lY (aJ r5) (iI (gI (bp r2 i4) 0)) (c5)))])|none=>(Gr G N n [iI i0,iI i1,aw r2,iI i3,bZ i4,.aj 0 (bz (ah.lY (aJ r5) (iI (gI (bp r2 i4) 0)) (c5)))])else oo [.aj 0 (bz (aJ r5))]:aA):=ac
def aHx:bG CX EE G N Ny [aw r0,iI i1,iI i2]=(bO (Gr G N N [iI i1,iI i2,aw r0,iI (ln r0),iI 0,.aj 0 (bz (([]:List (AV×AV))))]) λq2 o2=>bif gJ q2 then bL [av (gB o2 0)]else cV:aA):=ac
def ajv:Jq G N (n+1) [iI i0,aw r1,iI i2,iI i3,ay r4]=(mB i3 i2 r1 (jN (lJ r1 i3) r4 (gI (bp r1 i3) 0).toNat r4.length (jS (lR (lJ r4 (lJ r1 i3))) (bB r4) [bB dL] (jN (lJ r1 i3) r4 (gI (bp r1 i3) 0).toNat r4.length (Jq G N n [iI i0,ba r1,iI i2,bZ i3,bB (r4.set (gI (bp r1 i3) 0).toNat (setAt (mE r4 r1 i3) 0 [iI i0]))])))) (bB r4) []:aA):=ac
def aki:JD G N (n+1) [uf r0,iI i1,iI i2,aa l3,ay r4]=(mB i2 i1 r0 (bO (G JK ((cM (bp r0 i2) 1)::nF (iE ((ln (gR l3 0))- 1)) [])) λ_ o2=>jS (cE o2) (cz l3) [bB r4,bB dL] (bO (Jq G N N (iI i2::(cM (bp r0 i2) 1)::(jx (bp r0 i2) 1)::nF (bB r4) [])) λq3 o3=>lq (gJ q3) (eK o3) (cz l3) [iF o3 1,bU o3] (JD G N n [uf r0,iI i1,bZ i2,cz l3,iF o3 0]))) (cz l3) [bB r4]:aA):=ac
def ako:SP G N [aa l0,ay r1]=(bO (JD G N N (eW JU l0 3::jx l0 3::dS (cz l0) (bB r1) [])) λq4 o4=>fS q4 (rJ o4 [rL o4,bU o4,jM o4]) (nD o4) [iF o4 1]:aA):=ac
def azn:Zv G N [aw r0,aa l1]=(kg 8 (ln r0) (oC (cz l1) (bB dL) []) (bO (G Ny (ba r0::nF (iE ((ln (gR l1 0))- 1)) [])) λ_ o6=>lu (cE o6) (oC (cz l1) (bB dL) []) (cz l1) []):aA):=ac
def ayl:Y9 G N [iI i0,aa l1,ay r2,aa l3]=(dG i0 l1 0 (lr ((gI (dD l1 0 i0) 0) != 1) [cz l1,bB r2,Nb l3,bB dL] (jN i0 r2 i0.toNat r2.length (eL (!(((gI (bp r2 i0) 0)==(gI l3 0))&&(((gI (bp r2 i0) 1)==(gI l3 1))&&(((gI (bp r2 i0) 2)==(gI l3 2))&&true)))) (jN i0 r2 i0.toNat r2.length (eL (!(((gI (bp r2 i0) 0)==(-1))&&(((gI (bp r2 i0) 1)==(-1))&&(((gI (bp r2 i0) 2)==(-1))&&true)))) (jw (cz l1) (bB r2) (Nb l3) (bB dL) []) (cz l1) (bB r2) (Nb l3) [])) (cz l1) (bB r2) (Nb l3) []))):aA):=ac
def aiL:Jb G N (n+1) [iI i0,iI i1,aw r2,iI i3,iI i4,aa l5,ay r6]=(bif cH i4 i3 then eh i4 r2<|bO (Y9 G N [iI (gI (bp r2 i4) 0),cz l5,ay r6,aa [iI (-1),iI i0,iI i1]]) λq8 o8=>bif gJ q8 then eh (gI (bp r2 i4) 0) (gR o8 1)<|a8 (qF ((gI (bp r2 i4) 0).toNat) ((gR o8 1).length))<|Jb G N n [iI i0,iI i1,aw r2,iI i3,bZ i4,cz (gC o8 0),ay ((gR o8 1).set ((gI (bp r2 i4) 0).toNat) (setAt (bp (gR o8 1) (gI (bp r2 i4) 0)) 0 (aF akQ 0 (gC o8 2))))]else bL [av (gB o8 0),cz (gC o8 1),ay (gR o8 2),ay (gR o8 4)]else oo [cz l5,ay r6]:aA):=ac
def ZC:Gg G N (n+1) [iI i0,iI i1,iI i2,iI i3,aa l4,ay r5,cp r6]=(nI i3 i2 (jN i3 r6 i3.toNat r6.length (bO (Zv G N [iD (bp r6 i3),cz l4]) λq7 o7=>iL q7 (bO (Jb G N N (iI i0::iI i1::(iD (bp r6 i3))::(jx (bp r6 i3) 0)::dS (nD o7) (bB r5) [])) λq9 o9=>lq (gJ q9) (eK o9) (rL o9) [bU o9,dU r6,jM o9] (Gg G N n [iI i0,iI i1,iI i2,bZ i3,nD o9,iF o9 1,dU r6])) o7 [rL o7,bB r5,dU r6,bU o7])) (cz l4) [bB r5,dU r6]:aA):=ac
end
open Go Go.ah Qm Wq
noncomputable section
variable {G:Nat->aq->Option UO} {N n:Nat} {i0 i1 i2 i3:Int} {l0 l1 l2 l3 l4:aq} {r0 r1 r2 r3 r4 r5 r6:aE} {DE Il:Nat}
def aju:Jp G N (n+1) [iI i0,Jz r1,iI i2,iI i3,aa l4,ay r5]=(mB i3 i2 r1 (bO (Gg G N N (iI i0::iI i3::iI 2::dS (cz l4) (bB r5) [dU ([[iD (bp r1 i3)],[cM (bp r1 i3) 1]]:aE)])) λuK cO=>lq (gJ uK) (eK cO) (rL cO) [bU cO,iF cO 4] (Jp G N n [iI i0,Jz r1,iI i2,bZ i3,nD cO,iF cO 1])) (cz l4) [bB r5]:aA):=ac
def aj2:Jy G N (n+1) [ng r0,iI i1,iI i2,aa l3,ay r4]=(mB i2 i1 r0 (bO (Jp G N N (iI i2::(eW abO (bp r0 i2) 1)::(jx (bp r0 i2) 1)::dS (cz l3) (bB r4) [])) λyu dQ=>lq (gJ yu) (eK dQ) (rL dQ) [bU dQ,jM dQ] (Jy G N n [ng r0,iI i1,bZ i2,nD dQ,iF dQ 1])) (cz l3) [bB r4]:aA):=ac
def akn:SN G N [aa l0,ay r1]=(bO (Jy G N N (eW Eg l0 2::jx l0 2::dS (cz l0) (bB r1) [])) λuJ cq=>fS uJ (rJ cq [rL cq,bU cq,jM cq]) (nD cq) [iF cq 1]:aA):=ac
def ajt:MZ G N (n+1) [aw r0,iI i1,iI i2,ay r3]=(mB i2 i1 r0 (jN (lJ r0 i2) r3 (gI (bp r0 i2) 0).toNat r3.length (jS (!(((gI (mE r3 r0 i2) 0)==(-1))&&(((gI (mE r3 r0 i2) 1)==(-1))&&(((gI (mE r3 r0 i2) 2)==(-1))&&true)))) (bB r3) [bB dL] (MZ G N n [ba r0,iI i1,bZ i2,bB r3]))) (bB r3) []:aA):=ac
def aj1:Ng G N (n+1) [dg r0,iI i1,iI i2,ay r3]=(mB i2 i1 r0 (bO (MZ G N N ((cM (bp r0 i2) 4)::(jx (bp r0 i2) 4)::nF (bB r3) [])) λAv dr=>lq (gJ Av) (eK dr) (iF dr 1) [bU dr] (Ng G N n [pb r0,iI i1,bZ i2,iF dr 0])) (bB r3) []:aA):=ac
def aIi:bG CX EE G N Tj [aa l0]=(bO (G ZT [bB ([[iI (-1),iI (-1),iI (-1)]]:aE),jx l0 0]) λ_ o1=>bO (SP G N [cz l0,iF o1 0]) λq5 o5=>iL q5 (bO (SN G N [nD o5,iF o5 1]) λAw fr=>iL Aw (bO (Ng G N N ((lK (bP fr) 0)::(jx (bP fr) 0)::nF (iF fr 1) [])) λyt dI=>fS yt (dh (eK dI) (bU dI)) eD [iF dI 0]) fr [jM fr]) o5 [jM o5]:aA):=ac
def aaw:Nf G N (n+1) [iI i0,bR r1,iI i2,iI i3,aa l4]=(mB i3 i2 r1 (bO (G NM [bK (bp r1 i3),bZ i0,gX l4]) λ_ o1=>jS (cE o1) (qq o1) [] (Nf G N n [iI i0,bQ r1,iI i2,bZ i3,qq o1])) (gX l4) []:aA):=ac
def abI:bG CX EE G N NM [aa l0,iI i1,aa l2]=(oZ (aU ((gI l2 0)- 1)) 0 (dh dp (di (iE ((gI l2 0)- 1)))) (dJ 64 i1) (dh dp (di (iE ((gI l2 0)- 1)))) (bO (Nf G N N (iI i1::pa l0 8::jx l0 8::nF (di (iE ((gI l2 0)- 1))) [])) λq2 o2=>fS q2 (dh (eK o2) (qq o2)) eD [gX (bP o2)]):aA):=ac
def aGK:bG CX EE G N akU [aa l0,aa l1,bR r2]=(jG (bK l0) (gk si l1 2 (cL l0 2) [k6 8 2]) (bQ r2) []:aA):=ac
def aa7:bG CX EE G N SS [aa l0,aa l1,bR r2]=(jG (bK l0) (gk si l1 3 (cL l0 3) [k6 8 2]) (bQ r2) []:aA):=ac
def akJ:bG CX EE G N abu [aa l0,aa l1,bR r2]=(jG (bK l0) (gk si l1 4 (cL l0 4) [k6 8 2]) (bQ r2) []:aA):=ac
def aGJ:bG CX EE G N akT [aa l0,aa l1,bR r2]=(jG (bK l0) (gk si l1 5 (cL l0 5) [k6 8 2]) (bQ r2) []:aA):=ac
def akI:bG CX EE G N abr [aa l0,aa l1,bR r2]=(jG (bK l0) (gk si l1 1 (ke (jF l0)) [k6 8 2]) (bQ r2) []:aA):=ac
def aGI:bG CX EE G N akS [aa l0,aa l1,bR r2]=(jG (bK l0) (gk si l1 6 (cL l0 6) [(7,cL l0 7),k6 8 2]) (bQ r2) []:aA):=ac
def aDi:aaD G N [cu i0]=(ca (i0==1) cV (i0==11) cV (pC (i0==14)):aA):=ac
def aA4:Z4 G N [cu i0]=(ca (i0==6) cV (i0==7) cV (pC (i0==10)):aA):=ac
def aIj:bG CX EE G N ab2 [aa l0]=(bO (aaD G N [jW l0]) λ_ o1=>ca (dP o1) (bO (G akU [bK l0,oD (jW l0) (ke 0) (iM (uo [.ak 2])),bQ dL]) λ_ o2=>dh (gk qP (bu o2) 8 (pa o2 2) []) Ai) ((gI l0 0)==2) (bO (G SS [bK l0,oD (jW l0) (ke 0) (iM (uo [.ak 2])),bQ dL]) λ_ o3=>bO (G abu [bK (bP o3),kh si (bu o3) 8 2 [],pa o3 2]) λ_ o4=>dh (gk qP (bu o4) 8 (pa o4 2) []) Ai) (bif (gI l0 0)==3 then bO (G SS [bK l0,oD (jW l0) (ke 0) (iM (uo [.ak 2])),bQ dL]) λ_ o5=>bO (G abu [bK (bP o5),kh si (bu o5) 8 2 [],pa o5 2]) λ_ o6=>bO (G akT [bK (bP o6),kh si (bu o6) 8 2 [],pa o6 2]) λ_ o7=>dh (gk qP (bu o7) 8 (pa o7 2) []) (iI 1)else ca ((gI l0 0)==4) (bO (G abr [bK l0,oD (jW l0) (ke 0) (uo (iM [.ak 2])),bQ dL]) λ_ o8=>dh (gk qP (bu o8) 8 (pa o8 2) []) (iI 1)) ((gI l0 0)==5) (bO (G abr [bK l0,oD (jW l0) (ke 0) (uo (iM [.ak 2])),bQ dL]) λ_ o9=>dh (gk qP (bu o9) 8 (pa o9 2) []) (iI 2)) (bO (Z4 G N [jW l0]) λ_ cO=>ca (dP cO) (dh (oD (jW l0) (ke 0) (uo (iM [bQ []]))) (iI 2)) ((gI l0 0)==8) (dh (oD (jW l0) (ke 0) (uo (iM [bQ []]))) (iI 3)) (bif (gI l0 0)==9 then bO (G akS [bK l0,oD (jW l0) (ke 0) (uo (iM [.ak 2])),bQ dL]) λ_ dQ=>dh (gk qP (bu dQ) 8 (pa dQ 2) []) (iI 1)else ca ((gI l0 0)==12) (bO (G SS [bK l0,oD (jW l0) (ke 0) (uo (iM [.ak 2])),bQ dL]) λ_ cq=>dh (gk qP (bu cq) 8 (pa cq 2) []) Ai) ((gI l0 0)==13) (dh (oD (jW l0) (ke 0) (iM (uo [bQ []]))) (iI 1)) (dh (oD (jW l0) (ke 0) (uo (iM [bQ []]))) (iI (-1)))))):aA):=ac
def aBL:bG CX EE G N MQ [gW r0]=(bif r0.isEmpty then none else o0 ((0+r0.length)*48) (j8 (oA (([]:aE)++r0))):aA):=ac
def azM:bG CX EE G N Gd []=(j8 (oA dL):aA):=ac
def azL:bG CX EE G N Gc []=(j8 (oA dL):aA):=ac
def aCz:bG CX EE G N Gk [aa l0,iI i1,iI i2]=(gU (lR i1) (kg i1 (ja l0 0) (gU (lR i2) (dG i1 l0 0 (pC (cH i2 (nq l0 0 i1))))) fm):aA):=ac
def aEx:bG CX EE G N Su [aa l0,iI i1,iI i2,iI i3]=(gU (lR i1) (kg i1 (ja l0 0) (dG i1 l0 0 (gU (nJ (dD l0 0 i1) 3) (gU (lR i2) (gU (dJ 1 i3) (dG i1 l0 0 (gU (dJ i2 (nq l0 0 i1)) (dG i1 l0 0 (pC (dJ i3 (aU ((gI (dD l0 0 i1) 0)- i2))))))))))) fm):aA):=ac
def aJz:bG CX EE G N Cj []=(j8 (aa yo):aA):=ac
def aDs:bG CX EE G N wJ [aa l0]=(gU (cE l0) (kc (jP 0 l0 3) (av (dJ (gI l0 4) 1)) [] fm):aA):=ac
def aI2:bG CX EE G N Tt []=(j8 (aa Qi):aA):=ac
def aFD:abn G N [aa l0,aa l1]=(hZ (cE l0) (jG (av (cE l1)) (dC l0) (dC l1) []) (dC l0) (dC l1) []:aA):=ac
def aEn:aa1 G N [cu i0]=(kc (dJ 1 i0) (av (dJ i0 6)) [] fm:aA):=ac
def aDj:aaE G N [cu i0]=(lu (i0==7) cV (av (i0==8)) []:aA):=ac
def aHC:bG CX EE G N abH [cu i0,aa l1,aa l2]=(bO (abn G N [dC l1,dC l2]) λ_ o1=>bO (aa1 G N [ke i0]) λ_ o2=>sW o2 0 (bO (G Tt []) λ_ o3=>dh (mT o3) (eK o1)) (bO (aaE G N [ke i0]) λ_ o4=>sW o4 0 (bO (G Cj []) λ_ o5=>ca (dP o1) (dh (mT o5) eD) (dP (bu o1)) (fN (dP (dN o1)) (dh (mT o5) eD) (mT o5) (iN (dN o1) 1)) (fN (gB (bu o1) 1) (fN (dP (dN o1)) (dh (mT o5) eD) (mT o5) (iN (dN o1) 1)) (mT o5) dp)) (ca (dJ 9 i0) (ca (dJ i0 12) (bO (G Cj []) λ_ o6=>dh (mT o6) (eK o1)) (dJ 13 i0) (fN (dJ i0 15) (bO (G Cj []) λ_ o7=>bO (G wJ [dC (bu o1)]) λ_ o8=>fN (dP o8) (bO (G wJ [dC (dN o1)]) λ_ o9=>dh (mT o7) (eK o9)) (mT o7) dp) (aa uE) dp) (dh (aa uE) dp)) (dJ 13 i0) (fN (dJ i0 15) (bO (G Cj []) λ_ cO=>bO (G wJ [dC (bu o1)]) λ_ dQ=>fN (dP dQ) (bO (G wJ [dC (dN o1)]) λ_ cq=>dh (mT cO) (eK cq)) (mT cO) dp) (aa uE) dp) (dh (aa uE) dp))):aA):=ac
def ais:I2 G N (n+1) [iI i0,.vw 0 DE Il,iI i2,aw r3]=(fN (cH i2 (Il:Int)) (a8 ((lR i2)&&(cH i2 (Il:Int))) (oG (DE+i2.toNat) r3.length (a8 ((lR (aU (i2- 1)))&&(cH (aU (i2- 1)) (Il:Int))) (oG (DE+(aU (i2- 1)).toNat) r3.length (bif (gI (gA r3 (DE+i2.toNat)) 0) != (gI (gA r3 (DE+(aU (i2- 1)).toNat)) 0)then a8 ((lR i2)&&(cH i2 (Il:Int)))<|oG (DE+i2.toNat) r3.length (jN i0 r3 i0.toNat r3.length (I2 G N n [bZ i0,.vw 0 DE Il,bZ i2,ba (r3.set i0.toNat (setAt (bp r3 i0) 0 [eU (gA r3 (DE+i2.toNat))]))]))else I2 G N n [iI i0,.vw 0 DE Il,bZ i2,ba r3]))))) (iI i0) (ba r3):aA):=ac
def aiz:MB G N (n+1) [iI i0,aw r1]=(bif cH i0 (ln r1)then eh i0 r1<|a8 (qF (i0.toNat) (r1.length))<|eh (aU (i0- 1)) r1<|a8 (qF ((aU (i0- 1)).toNat) (r1.length))<|bif gI (bp r1 i0) 0==gI (bp r1 (aU (i0- 1))) 0 then a8 (dJ 0 i0&&dJ i0 (ln r1)&&dJ (ln r1) (ln r1))<|bO (I2 G N N [iI i0,.vw 0 i0.toNat (r1.length- i0.toNat),iI 1,aw r1]) λ_ o1=>a8 (dJ 0 (gI o1 0)&&dJ (gI o1 0) (ln (gR o1 1))&&dJ (ln (gR o1 1)) (ln (gR o1 1)))<|a8 (dJ 0 (gI o1 0)&&dJ (gI o1 0) (ln (uW ([iI 0]) (gR o1 1) ((gI o1 0).toNat) (((gR o1 1).length)-((gI o1 0).toNat))))&&dJ (ln (uW ([iI 0]) (gR o1 1) ((gI o1 0).toNat) (((gR o1 1).length)-((gI o1 0).toNat)))) (ln (uW ([iI 0]) (gR o1 1) ((gI o1 0).toNat) (((gR o1 1).length)-((gI o1 0).toNat)))))<|bL [aw ((uW ([iI 0]) (gR o1 1) ((gI o1 0).toNat) (((gR o1 1).length)-((gI o1 0).toNat))).take ((gI o1 0).toNat))]else MB G N n [bZ i0,aw r1]else oo [aw r1]:aA):=ac
def aiM:bG CX EE G N Zm [aw r0]=(kc (cH (ln r0) 2) (ba r0) [] (bO (MB G N N [iI 1,ba r0]) λq2 o2=>fS q2 (j8 (iD o2)) (iD o2) []):aA):=ac
def aFC:abm G N [aa l0,aa l1,aa l2,aw r3]=(eL (cE l0) (eL (cE l1) (kJ eD [dC l0,dC l1,nm [.ak 3,iI (rS (gI l0 3) (gI l1 3)),iI (imax (gI l0 4) (gI l1 4))],eM]) (dC l0) (dC l1) (iu l2 3) [ba r3]) (dC l0) (dC l1) (iu l2 3) [ba r3]:aA):=ac
def aan:zR G N (n+1) [iI i0,iI i1,aa l2,aa l3,gW r4,aw r5,aw r6]=(nI i1 i0 (jN i1 r4 i1.toNat r4.length (ca (cE (bp r4 i1)) (ca (nJ (bp r4 i1) 1) (fR dp (nm (.ak 3::iM [])) (iu l3 4) (oA r4) [eM,ba r6]) (dP (bp r4 i1)) (a8 (Im r6 (gR (bp r4 i1) 2)) (zR G N n [iI i0,bZ i1,iu l2 3,iu l3 4,oA r4,ba r5,ba (r6++(gR (bp r4 i1) 2))])) (zR G N n [iI i0,bZ i1,iu l2 3,iu l3 4,oA r4,ba r5,ba r6])) (dP (bp r4 i1)) (a8 (Im r6 (gR (bp r4 i1) 2)) (zR G N n [iI i0,bZ i1,iu l2 3,iu l3 4,oA r4,ba r5,ba (r6++(gR (bp r4 i1) 2))])) (zR G N n [iI i0,bZ i1,iu l2 3,iu l3 4,oA r4,ba r5,ba r6]))) (iu l2 3) [iu l3 4,oA r4,ba r5,ba r6]:aA):=ac
end
noncomputable section
variable {G:Nat->aq->Option UO} {N n:Nat} {b0:Bool} {i0 i1 i2 i3:Int} {l0 l1 l2 l3 l4 l5 l6:aq} {r0 r1 r2 r4 r5 r7 r8:aE}
def aHA:bG CX EE G N NA [aa l0,aa l1]=(bO (abm G N [dC l0,dC l1,nm (.ak 3::iM []),eM]) λq1 o1=>fS q1 (bO (zR G N N (iI 2::dS (iu (dN o1) 3) (KF eD (.ak 4::iM [])) [oA ([aF nc 0 (bP o1),aF nc 0 (bu o1)]:aE),cM o1 3,eM])) λq2 o2=>lq (gJ q2) (iu (bu o2) 0) (eK o2) [cM o2 4] (bO (G R7 [cM o2 4]) λ_ o3=>bO (G Zm [iD o3]) λ_ o4=>jG (iu (bu o2) 0) eD (iD o4) [])) (iu (lI o1) 0) [eK o1,cM o1 4]:aA):=ac
def azK:ai9 G N [aa l0,aa l1,aw r2]=(eL (cE l0) (eL (nJ l0 1) (KG (dC l0) (nm (.ak 2::iM [])) eM []) (dC l0) (iu l1 2) (ba r2) []) (dC l0) (iu l1 2) (ba r2) []:aA):=ac
def aiI:Ja G N (n+1) [aw r0,iI i1,iI i2,aa l3,aa l4,aw r5]=(eL (cH i2 i1) (eh i2 r0 (dG (lJ r0 i2) l3 0 (bif i2==0 then Ja G N n [ba r0,iI i1,bZ i2,oB (lK l3 0) l3 [],nm [.ak 2,iI (rS (jF (dD l3 0 (lJ r0 i2))) (jF (dD l3 0 (lJ r0 i2)))),iI (imax (gI (dD l3 0 (lJ r0 i2)) 2) (gI (dD l3 0 (lJ r0 i2)) 2))],eM]else Ja G N n [ba r0,iI i1,bZ i2,oB (lK l3 0) l3 [],oD (eK l4) (iN l4 1) [.ak 2,iI (rS (gI l4 3) (jF (dD l3 0 (lJ r0 i2)))),iI (imax (gI l4 4) (gI (dD l3 0 (lJ r0 i2)) 2))],ba r5]))) (oB (lK l3 0) l3 []) (iu l4 2) (ba r5) []:aA):=ac
def aA8:bG CX EE G N ZW [aa l0,aa l1]=(bO (ai9 G N [dC l1,nm (.ak 2::iM []),eM]) λq1 o1=>fS q1 (bO (Ja G N N ((cM (bP o1) 2)::(jx (bP o1) 2)::dS (oB (lK l0 0) l0 []) (nm (.ak 2::iM [])) [eM])) λ_ o2=>jG (iu (bu o2) 0) eD (cM o2 2) []) (iu (dN o1) 0) [eK o1,cM o1 3]:aA):=ac
def aA2:Z2 G N [iI i0,aa l1,aa l2,aa l3,aw r4]=(lr (i0 != (ln (gR l1 8))) [bK l1,nm (.ak 3::iM []),bK l3,eM] (ca ((gI l3 2) != (gI l1 2)) (jw (bK l1) (nm (.ak 3::iM [])) (bK l3) eM []) ((gI l3 1) != (gI l1 1)) (jw (bK l1) (nm (.ak 3::iM [])) (bK l3) eM []) (ca ((gI l3 3) != (gI l1 3)) (jw (bK l1) (nm (.ak 3::iM [])) (bK l3) eM []) ((gI l3 4) != (gI l1 4)) (jw (bK l1) (nm (.ak 3::iM [])) (bK l3) eM []) (lr ((gI l3 5) != (gI l1 5)) [bK l1,nm (.ak 3::iM []),bK l3,eM] (ca ((gI l3 6) != (gI l1 6)) (jw (bK l1) (nm (.ak 3::iM [])) (bK l3) eM []) ((gI l3 7) != (gI l1 7)) (jw (bK l1) (nm (.ak 3::iM [])) (bK l3) eM []) (fR (bK l1) (iu l2 3) (bK l3) (ba r4) []))))):aA):=ac
def azm:Zu G N [gW r0,iI i1,gW r2,aa l3,gW r4]=(eL ((gI l3 0)==10) (eL (i1==1) (bO (Fi Ee (G Gd) (G Gc) (G MQ) [oA r0]) λ_ o3=>a8 (cH 0 (ln r4))<|oG 0 r4.length (o0 (((gR o3 0).length +([aF nc 0 (gA r4 0)]:aE).length)*48) (jG (oA ((gR o3 0)++([aF nc 0 (gA r4 0)]:aE))) (bK l3) (oA r4) []))) (oA r2) (bK l3) (oA r4) []) (oA r2) (bK l3) (oA r4) []:aA):=ac
def ai5:AX G N (n+1) [gW r0,bR r1,iI i2,iI i3,aa l4,aa l5,aa l6,gW r7,aw r8]=(mB i3 i2 r1 (bO (Zu G N [oA r0,iI i3,oA r0,bK l5,oA r7]) λ_ o4=>bO (G M5 [oB (lK l4 0) l4 [],bK (bp r1 i3),eW Ee o4 0]) λ_ o5=>jS (nJ o5 1) (oB (lK l4 0) l4 []) [bK (bu o4),nm (.ak 3::iM []),eM] (o0 (((gR o4 2).length +1)*48) (AX G N n [oA r0,bQ r1,iI i2,bZ i3,oB (lK l4 0) l4 [],bK (bu o4),iu l6 4,oA ((gR o4 2)++([aF nc 0 (bP o5)]:aE)),ba r8]))) (oB (lK l4 0) l4 []) [bK l5,iu l6 4,oA r7,ba r8]:aA):=ac
def aA1:Sb G N [gW r0,aa l1,aa l2,aa l3,gW r4,aw r5]=(bO (AX G N N (oA r0::pa l2 8::jx l2 8::dS (oB (lK l1 0) l1 []) (bK l2) [iu l3 4,oA r4,ba r5])) λq6 o6=>fS q6 (rJ o6 [oB (lK (bu o6) 0) (bu o6) [],bK (dN o6),iu (lI o6) 3,cM o6 4]) (oB (lK (bP o6) 0) (bP o6) []) [bK (bu o6),iu (dN o6) 4,eW Ee o6 3,cM o6 4]:aA):=ac
def ayB:Zf G N [cu i0]=(lu (i0==6) cV (av (i0==7)) []:aA):=ac
def aap:bG CX EE G N M5 [aa l0,aa l1,gW r2]=(bO (G ab2 [bK l1]) λ_ o1=>bO (Z2 G N [iI (gI o1 1),bK l1,aa [aT,aT,.ak 3,iI 0,iI 0],bK (gC o1 0),aw dL]) λq2 o2=>bif gJ q2 then bO (Sb G N [gW r2,aa [dg (gR l0 0),iI (gI l0 1)],bK (gC o2 0),aa (sT (aF xF 0 (gC o2 1)) Xw),gW dL,aw (gR o2 3)]) λq7 o7=>bif gJ q7 then bif gI (gC o7 1) 0==1 then bif dJ (-2147483648) (gI (gC o7 1) 2)then bL [aa [aT,av (gI (gC o7 1) 2==0),aw dL,iI (gI (gC o7 1) 2),iI (gI (gC o7 1) 2)],av (dJ (gI (gC o7 1) 2) 2147483647)]else bL [aa [aT,av (gI (gC o7 1) 2==0),aw dL,iI (gI (gC o7 1) 2),iI (gI (gC o7 1) 2)],aT]else bif gI (gC o7 1) 0==2 then bO (G Gk [aa [dg (gR (gC o7 0) 0),iI (gI (gC o7 0) 1)],iI (gI (gC o7 1) 3),iI (gI (gC o7 1) 4)]) λ_ o8=>bif !(gB o8 0)then bL [aa uE,aT]else eh (gI (gC o7 1) 3) (gR (gC o7 0) 0)<|bL [aa [av (gB (bp (gR (gC o7 0) 0) (gI (gC o7 1) 3)) 3),aT,aw (gR (bp (gR (gC o7 0) 0) (gI (gC o7 1) 3)) 4),iI (gI (bp (gR (gC o7 0) 0) (gI (gC o7 1) 3)) 1),iI (gI (bp (gR (gC o7 0) 0) (gI (gC o7 1) 3)) 2)],c5]else bif gI (gC o7 1) 0==3 then bO (G Su [aa [dg (gR (gC o7 0) 0),iI (gI (gC o7 0) 1)],iI (gI (gC o7 1) 3),iI (gI (gC o7 1) 4),iI (gI (gC o7 1) 5)]) λ_ o9=>bif !(gB o9 0)then bL [aa uE,aT]else a8 (cH 0 (ln (gR o7 3)))<|a8 (qF 0 ((gR o7 3).length))<|bif gB (gA (gR o7 3) 0) 0 then bL [aa uE,aT]else eh (gI (gC o7 1) 3) (gR (gC o7 0) 0)<|eh (gI (gC o7 1) 3) (gR (gC o7 0) 0)<|bL [aa [aT,aT,aw dL,iI (gI (bp (gR (gC o7 0) 0) (gI (gC o7 1) 3)) 1),iI (gI (bp (gR (gC o7 0) 0) (gI (gC o7 1) 3)) 2)],c5]else bif gI (gC o7 1) 0==4 then bif gI (gC o7 1) 1==18 then bO (G Cj []) λ_ cO=>a8 (cH 0 (ln (gR o7 3)))<|a8 (qF 0 ((gR o7 3).length))<|bO (G wJ [dC (gA (gR o7 3) 0)]) λ_ dQ=>bL [dC (gC cO 0),av (gB dQ 0)]else bO (G Tt []) λ_ cq=>bif gI (gC o7 1) 1==16 then a8 (cH 0 (ln (gR o7 3)))<|a8 (qF 0 ((gR o7 3).length))<|bL [dC (gC cq 0),av (!(gB (gA (gR o7 3) 0) 0))]else bif gI (gC o7 1) 1==17 then a8 (cH 0 (ln (gR o7 3)))<|a8 (qF 0 ((gR o7 3).length))<|bL [dC (gC cq 0),av (!(gB (gA (gR o7 3) 0) 0))]else bL [dC (gC cq 0),aT]else bif gI (gC o7 1) 0==5 then a8 (cH 0 (ln (gR o7 3)))<|a8 (qF 0 ((gR o7 3).length))<|a8 (cH 1 (ln (gR o7 3)))<|a8 (qF 1 ((gR o7 3).length))<|bO (G abH [cu (gI (gC o7 1) 1),dC (gA (gR o7 3) 0),dC (gA (gR o7 3) 1)]) λ_ fr=>bL [dC (gC fr 0),av (gB fr 1)]else bO (Zf G N [cu (gI (gC o7 1) 0)]) λ_ dr=>bif gB dr 0 then bO (G Cj []) λ_ dI=>a8 (cH 0 (ln (gR o7 3)))<|a8 (qF 0 ((gR o7 3).length))<|bO (G wJ [dC (gA (gR o7 3) 0)]) λ_ jU=>bif gB jU 0 then a8 (cH 1 (ln (gR o7 3)))<|a8 (qF 1 ((gR o7 3).length))<|bO (G wJ [dC (gA (gR o7 3) 1)]) λ_ dO=>bL [dC (gC dI 0),av (gB dO 0)]else bL [dC (gC dI 0),aT]else bif gI (gC o7 1) 0==8 then a8 (cH 1 (ln (gR o7 3)))<|a8 (qF 1 ((gR o7 3).length))<|a8 (cH 2 (ln (gR o7 3)))<|a8 (qF 2 ((gR o7 3).length))<|bO (G NA [dC (gA (gR o7 3) 1),dC (gA (gR o7 3) 2)]) λ_ jI=>bif gB jI 1 then a8 (cH 0 (ln (gR o7 3)))<|a8 (qF 0 ((gR o7 3).length))<|bO (G wJ [dC (gA (gR o7 3) 0)]) λ_ ma=>bL [aa (sT (aF nc 0 (gC jI 0)) [(2,aw (gR jI 2))]),av (gB ma 0)]else bL [aa (sT (aF nc 0 (gC jI 0)) [(2,aw (gR jI 2))]),aT]else bif gI (gC o7 1) 0==9 then bif dJ (-2147483648) (gI (gC o7 1) 6)then bif dJ (gI (gC o7 1) 7) 2147483647 then bif dJ (gI (gC o7 1) 6) (gI (gC o7 1) 7)then a8 (cH 0 (ln (gR o7 3)))<|a8 (qF 0 ((gR o7 3).length))<|bL [aa [aT,aT,aw dL,iI (gI (gC o7 1) 6),iI (gI (gC o7 1) 7)],av (!(gB (gA (gR o7 3) 0) 0))]else bL [aa [aT,aT,aw dL,iI (gI (gC o7 1) 6),iI (gI (gC o7 1) 7)],aT]else bL [aa [aT,aT,aw dL,iI (gI (gC o7 1) 6),iI (gI (gC o7 1) 7)],aT]else bL [aa [aT,aT,aw dL,iI (gI (gC o7 1) 6),iI (gI (gC o7 1) 7)],aT]else bif gI (gC o7 1) 0==10 then a8 (cH 1 (ln (gR o7 3)))<|a8 (qF 1 ((gR o7 3).length))<|a8 (cH 1 (ln ((gR o7 3).set 1 (setAt (gA (gR o7 3) 1) 1 [aT]))))<|a8 (qF 1 (((gR o7 3).set 1 (setAt (gA (gR o7 3) 1) 1 [aT])).length))<|bL [dC (gA ((gR o7 3).set 1 (setAt (gA (gR o7 3) 1) 1 [aT])) 1),c5]else bif gI (gC o7 1) 0==11 then bif cH (gI (gC o7 1) 2) 0 then bL [aa uE,aT]else bif dJ (ln r2) (gI (gC o7 1) 2)then bL [aa uE,aT]else eh (aU (aU (ln r2- 1)- gI (gC o7 1) 2)) r2<|bL [aa (sT (aF nc 0 (bp r2 (aU (aU (ln r2- 1)- gI (gC o7 1) 2)))) [(1,aT)]),c5]else bif gI (gC o7 1) 0==12 then bO (G Gk [aa [dg (gR (gC o7 0) 0),iI (gI (gC o7 0) 1)],iI (gI (gC o7 1) 3),iI 0]) λ_ zG=>bif gB zG 0 then eh (gI (gC o7 1) 3) (gR (gC o7 0) 0)<|bif !(gB (bp (gR (gC o7 0) 0) (gI (gC o7 1) 3)) 3)then eh (gI (gC o7 1) 3) (gR (gC o7 0) 0)<|bL [aa [c5,aT,aw (([[iI (gI (gC o7 1) 3)]]:aE)),iI 0,iI 0],av (gI (bp (gR (gC o7 0) 0) (gI (gC o7 1) 3)) 0==1)]else bL [aa [c5,aT,aw (([[iI (gI (gC o7 1) 3)]]:aE)),iI 0,iI 0],aT]else bL [aa [c5,aT,aw (([[iI (gI (gC o7 1) 3)]]:aE)),iI 0,iI 0],aT]else bif gI (gC o7 1) 0==13 then a8 (cH 0 (ln (gR o7 3)))<|a8 (qF 0 ((gR o7 3).length))<|bO (G ZW [aa [dg (gR (gC o7 0) 0),iI (gI (gC o7 0) 1)],dC (gA (gR o7 3) 0)]) λ_ mJ=>bL [aa (sT (aF nc 0 (gC mJ 0)) [(2,aw (gR mJ 2))]),av (gB mJ 1)]else bif dJ 0 (gI (gC o7 1) 2)then bL [aa XA,av (cH (gI (gC o7 1) 2) (gI (gC o7 0) 1))]else bL [aa XA,aT]else bL [aa (sT (aF nc 0 (gC o7 3)) [(2,aw (gR o7 4))]),av (gB o7 0)]else bL [aa (sT (aF nc 0 (gC o2 2)) [(2,aw (gR o2 4))]),av (gB o2 0)]:aA):=ac
def akr:bG CX EE G N SB [aa l0,aa l1]=(bO (G NM (bK l1::nF (di (iI 256)) [])) λ_ o1=>lq (cE o1) (aa uE) dp [] (bO (G M5 [oB (lK l0 0) l0 [],bK l1,oA []]) λ_ o2=>dh (mT o2) (iN o2 1)):aA):=ac
def ai1:R3 G N (n+1) [aw r0,iI i1,iI i2,iI i3]=(kg i3 i2 (eh i3 r0 (kc (i1==(gI (bp r0 i3) 0)) (iI i3) [] (R3 G N n [ba r0,iI i1,iI i2,bZ i3]))) (oo []):aA):=ac
def ajx:bG CX EE G N ajz [aw r0,iI i1]=(bO (R3 G N N (ba r0::iI i1::pS r0::nv [])) λq1 o1=>fS q1 (j8 (eU o1)) (iI (-1)) []:aA):=ac
def ai7:bG CX EE G N wH [aw r0,iI i1]=(bO (G ajz [ba r0,iI i1]) λ_ o1=>pC (vd o1):aA):=ac
def aGH:bG CX EE G N abp [aa l0,aa l1,aa l2]=(bO (G NN [lK l1 0,iD l2,bK l0]) λ_ o1=>jG (av (cE o1)) (iC l1) (n6 l2) []:aA):=ac
def ah4:Ry G N (n+1) [bR r0,iI i1,iI i2,aa l3,aa l4]=(mB i2 i1 r0 (bO (G abp [bK (bp r0 i2),iC l3,n6 l4]) λ_ o1=>nj (dP o1) i2 (iC (bu o1)) [n6 (dN o1)] (Ry G N n [bQ r0,iI i1,bZ i2,iC (bu o1),n6 (dN o1)])) (iC l3) [n6 l4]:aA):=ac
def aij:bG CX EE G N YU [bR r0,aa l1,aa l2]=(bO (Ry G N N (bQ r0::pS r0::dS (iC l1) (n6 l2) [])) λq2 o2=>fS q2 (jG (eU o2) (iC (bu o2)) (n6 (dN o2)) []) (iI (-1)) [iC (bP o2),n6 (bu o2)]:aA):=ac
def axl:bG CX EE G N YO [bR r0,aa l1,aa l2]=(bO (G YU [bQ r0,iC l1,n6 l2]) λ_ o1=>jG (av (vd o1)) (iC (bu o1)) (n6 (dN o1)) []:aA):=ac
def aEk:aaY G N [cu i0]=(ca (i0==1) cV (i0==14) cV (lu (i0==6) cV (av (i0==7)) []):aA):=ac
def aFB:abl G N [av b0,aa l1,aa l2,aa l3]=(bO (aaY G N [jW l3]) λ_ o1=>ca (dP o1) (fR eD (iC l1) (n6 l2) (bK l3) []) ((gI l3 0)==2) (bO (G wH [iD l2,cL l3 3]) λ_ o2=>hZ (dP o2) (dG (gI l3 3) l1 0 (lj (nJ (jO l1 0 l3 3) 3) (iC l1) (n6 l2) (bK l3) [])) (iC l1) (n6 l2) [bK l3]) (ca ((gI l3 0)==4) (lj ((gI l3 1)==18) (iC l1) (n6 l2) (bK l3) []) ((gI l3 0)==5) (hZ (jP 7 l3 1) (lj (dJ (jF l3) 15) (iC l1) (n6 l2) (bK l3) []) (iC l1) (n6 l2) [bK l3]) (lj b0 (iC l1) (n6 l2) (bK l3) [])):aA):=ac
def alo:bG CX EE G N NN [dg r0,aw r1,aa l2]=(bO (abl G N [dp,di (pb r0),di (ba r1),bK l2]) λ_ o3=>gU (dP o3) (bO (G YO [pa (lI o3) 8,iC (bu o3),n6 (dN o3)]) λ_ o4=>pC (cE o4)):aA):=ac
def axe:Rx G N (n+1) [bR r0,bR r1,iI i2,iI i3]=(kg i3 i2 (eh i3 r1 (eh i3 r0 (bO (G aGn [bK (bp r1 i3),bK (bp r0 i3)]) λ_ o1=>pU (cE o1) (Rx G N n [bQ r0,bQ r1,iI i2,bZ i3])))) (oo []):aA):=ac
def axt:bG CX EE G N RB [bR r0,bR r1]=(pU ((ln r0) != (ln r1)) (bO (Rx G N N (bQ r1::bQ r0::pS r0::nv [])) λq2 o2=>kc (gJ q2) (eK o2) [] cV):aA):=ac
def aAf:R4 G N (n+1) [aw r0,aw r1,iI i2,iI i3]=(kg i3 i2 (eh i3 r0 (eh i3 r1 (pU ((gI (bp r0 i3) 0) != (gI (bp r1 i3) 0)) (R4 G N n [ba r0,ba r1,iI i2,bZ i3])))) (oo []):aA):=ac
def aCp:bG CX EE G N aaj [aw r0,aw r1]=(pU ((ln r0) != (ln r1)) (bO (R4 G N N (ba r0::ba r1::pS r0::nv [])) λq1 o1=>kc (gJ q1) (eK o1) [] cV):aA):=ac
def aw6:Rs G N (n+1) [c7 r0,c7 r1,iI i2,iI i3]=(kg i3 i2 (eh i3 r1 (eh i3 r0 (bO (G aFn [fg (bp r1 i3),fg (bp r0 i3)]) λ_ o1=>pU (cE o1) (Rs G N n [cT r0,cT r1,iI i2,bZ i3])))) (oo []):aA):=ac
def axo:bG CX EE G N Rz [c7 r0,c7 r1]=(pU ((ln r0) != (ln r1)) (bO (Rs G N N (cT r1::cT r0::pS r0::nv [])) λq2 o2=>kc (gJ q2) (eK o2) [] cV):aA):=ac
def axd:Rv G N (n+1) [dv r0,dv r1,iI i2,iI i3]=(kg i3 i2 (eh i3 r1 (eh i3 r0 (bO (G Nj [aC (bp r1 i3),aC (bp r0 i3)]) λ_ o1=>pU (cE o1) (Rv G N n [da r0,da r1,iI i2,bZ i3])))) (oo []):aA):=ac
def axs:bG CX EE G N YR [dv r0,dv r1]=(pU ((ln r0) != (ln r1)) (bO (Rv G N N (da r1::da r0::pS r0::nv [])) λq2 o2=>kc (gJ q2) (eK o2) [] cV):aA):=ac
def awZ:Rq G N (n+1) [fO r0,fO r1,iI i2,iI i3]=(kg i3 i2 (eh i3 r1 (eh i3 r0 (bO (G aD8 [aa9 (bp r1 i3),aa9 (bp r0 i3)]) λ_ o1=>pU (cE o1) (Rq G N n [gj r0,gj r1,iI i2,bZ i3])))) (oo []):aA):=ac
def axj:bG CX EE G N YM [fO r0,fO r1]=(pU ((ln r0) != (ln r1)) (bO (Rq G N N (gj r1::gj r0::pS r0::nv [])) λq2 o2=>kc (gJ q2) (eK o2) [] cV):aA):=ac
end
noncomputable section
variable {G:Nat->aq->Option UO} {N n:Nat} {i0 i1 i2 i3:Int} {l0 l1 l3 l4 l5:aq} {r0 r1 r5 r6 r7 r8 r9 eZ gD gz gy gZ FJ FI FH FG FE FC Ic Ib Ia:aE}
def awK:Rl G N (n+1) [fV r0,fV r1,iI i2,iI i3]=(kg i3 i2 (eh i3 r1 (eh i3 r0 (bO (G aD7 [sO (bp r1 i3),sO (bp r0 i3)]) λ_ o1=>pU (cE o1) (Rl G N n [gG r0,gG r1,iI i2,bZ i3])))) (oo []):aA):=ac
def aw0:bG CX EE G N YG [fV r0,fV r1]=(pU ((ln r0) != (ln r1)) (bO (Rl G N N (gG r1::gG r0::pS r0::nv [])) λq2 o2=>kc (gJ q2) (eK o2) [] cV):aA):=ac
def aw7:Rt G N (n+1) [fy r0,fy r1,iI i2,iI i3]=(kg i3 i2 (eh i3 r1 (eh i3 r0 (bO (G aD6 [tA (bp r1 i3),tA (bp r0 i3)]) λ_ o1=>pU (cE o1) (Rt G N n [gL r0,gL r1,iI i2,bZ i3])))) (oo []):aA):=ac
def axp:bG CX EE G N YQ [fy r0,fy r1]=(pU ((ln r0) != (ln r1)) (bO (Rt G N N (gL r1::gL r0::pS r0::nv [])) λq2 o2=>kc (gJ q2) (eK o2) [] cV):aA):=ac
def aCo:aau G N [aa l0,aa l1]=(ca ((gI l0 0) != (gI l1 0)) (jG eD (aC l0) (aC l1) []) ((gI l0 1) != (gI l1 1)) (jG eD (aC l0) (aC l1) []) (ca ((gI l0 2) != (gI l1 2)) (jG eD (aC l0) (aC l1) []) ((gI l0 3) != (gI l1 3)) (jG eD (aC l0) (aC l1) []) (ca ((gI l0 4) != (gI l1 4)) (jG eD (aC l0) (aC l1) []) ((gI l0 5) != (gI l1 5)) (jG eD (aC l0) (aC l1) []) (jG (av ((gI l0 11) != (gI l1 11))) (aC l0) (aC l1) []))):aA):=ac
def aBK:aag G N [aa l0,aa l1]=(ca (!((gB l0 6)==(gB l1 6))) (jG eD (aC l0) (aC l1) []) (!((gB l0 7)==(gB l1 7))) (jG eD (aC l0) (aC l1) []) (ca (!((gB l0 8)==(gB l1 8))) (jG eD (aC l0) (aC l1) []) (!((gB l0 9)==(gB l1 9))) (jG eD (aC l0) (aC l1) []) (jG (av (!((gB l0 10)==(gB l1 10)))) (aC l0) (aC l1) [])):aA):=ac
def aBJ:aaf G N [aa l0,aa l1]=(bO (G RB [pa l0 12,pa l1 12]) λ_ o3=>lq (cE o3) eD (aC l0) [aC l1] (bO (G RB [pa l0 13,pa l1 13]) λ_ o4=>lq (cE o4) eD (aC l0) [aC l1] (bO (G aaj [cM l0 16,cM l1 16]) λ_ o5=>jG (av (cE o5)) (aC l0) (aC l1) [])):aA):=ac
def aDk:aaF G N [aa l0,aa l1]=(bO (aau G N [aC l0,aC l1]) λ_ o1=>lr (dP o1) [qt o1,aC (dN o1)] (bO (aag G N [qt o1,aC (dN o1)]) λ_ o2=>lr (dP o2) [qt o2,aC (dN o2)] (bO (aaf G N [qt o2,aC (dN o2)]) λ_ o6=>lr (dP o6) [qt o6,aC (dN o6)] (bO (G Rz [eW xw (bu o6) 14,eW xw (dN o6) 14]) λ_ o7=>lr (cE o7) [qt o6,aC (dN o6)] (bO (G Rz [eW xw (bu o6) 15,eW xw (dN o6) 15]) λ_ o8=>lr (cE o8) [qt o6,aC (dN o6)] (bO (G YR [pB (bu o6) 17,pB (dN o6) 17]) λ_ o9=>fN (cE o9) (oC (qt o6) (aC (dN o6)) []) (qt o6) (aC (dN o6))))))):aA):=ac
def aFK:bG CX EE G N Nj [aa l0,aa l1]=(bO (aaF G N [aC l0,aC l1]) λuK cO=>iL uK (bO (G YM [eW Cf (bP cO) 18,eW Cf (bu cO) 18]) λ_ dQ=>gU (dP dQ) (bO (G YG [eW Eb (bP cO) 19,eW Eb (bu cO) 19]) λ_ cq=>gU (dP cq) (bO (G YQ [eW Eh (bP cO) 20,eW Eh (bu cO) 20]) λ_ fr=>nC fr))) cO []:aA):=ac
def aAr:ZP G N [cu i0]=(lu (i0==8) cV (av (i0==10)) []:aA):=ac
def azl:Zt G N [cu i0]=(lu (i0==12) cV (av (i0==13)) []:aA):=ac
def aEj:aaX G N [iI i0,iI i1,iI i2,aa l3,aa l4,.aj 0 r5,bR r6,bR r7,c7 r8,c7 r9,aw eZ,dv gD,fO gz,fV gy,fy gZ]=(bif gI l3 0==1 then bL [iI i0,iI i1,iI i2,aC l3,aa (sT (aF py 0 l4) Ap),.aj 0 (bz (aJ r5)),bR r6,bR r7,c7 r8,c7 r9,aw eZ,dv gD,fO gz,fV gy,fy gZ]else bif gI l3 0==2 then bL [iI 1,iI 1,iI i2,aC l3,aa (sT (aF py 0 l4) Ap),.aj 0 (bz (aJ r5)),bR r6,bR r7,c7 r8,c7 r9,aw eZ,dv gD,fO gz,fV gy,fy gZ]else bif gI l3 0==3 then bL [iI i0,iI i1,iI (ln (gR l3 17)),aC l3,aa (sT (aF py 0 l4) Ap),.aj 0 (bz (aJ r5)),bR r6,bR r7,c7 r8,c7 r9,aw eZ,dv gD,fO gz,fV gy,fy gZ]else bif gI l3 0==4 then bL [iI 1,iI i1,iI 2,aC l3,aa (sT (aF py 0 l4) Ap),.aj 0 (bz (aJ r5)),bR r6,bR r7,c7 r8,c7 r9,aw eZ,dv gD,fO gz,fV gy,fy gZ]else bif gI l3 0==5 then bL [iI 1,iI i1,iI 1,aC l3,aa (sT (aF py 0 l4) Ap),.aj 0 (bz (aJ r5)),bR r6,bR r7,c7 r8,c7 r9,aw eZ,dv gD,fO gz,fV gy,fy gZ]else bif gI l3 0==6 then bL [iI 2,iI i1,iI 1,aC l3,aa [cu (gI l4 0),iI (gI l4 1),iI (gI l3 2),iI (gI l4 3),iI (gI l4 4),iI (gI l4 5),av (gB l4 6),av (gB l3 7),av (gB l4 8),av (gB l4 9),av (gB l4 10),cu (gI l4 11),.ak 3,.ak 4,.ak 5,.ak 6,.ak 7,.ak 8,.ak 9,.ak 10,.ak 11],.aj 0 (bz (aJ r5)),bR r6,bR r7,c7 r8,c7 r9,aw eZ,dv gD,fO gz,fV gy,fy gZ]else bif gI l3 0==7 then bL [iI i0,iI i1,iI 1,aC l3,aa (sT (aF py 0 l4) [(1,iI (gI l3 1)),(12,.ak 3),(13,.ak 4),(14,.ak 5),(15,.ak 6),(16,.ak 7),(17,.ak 8),(18,.ak 9),(19,.ak 10),(20,.ak 11)]),.aj 0 (bz (aJ r5)),bR r6,bR r7,c7 r8,c7 r9,aw eZ,dv gD,fO gz,fV gy,fy gZ]else bO (ZP G N [cu (gI l3 0)]) λ_ o1=>bif gB o1 0 then bL [iI i0,iI i1,iI i2,aC l3,aa (sT (aF py 0 l4) [(1,iI (gI l3 1)),(12,.ak 3),(13,.ak 4),(14,.ak 5),(15,.ak 6),(16,.ak 7),(17,.ak 8),(18,.ak 9),(19,.ak 10),(20,.ak 11)]),.aj 0 (bz (aJ r5)),bR r6,bR r7,c7 r8,c7 r9,aw eZ,dv gD,fO gz,fV gy,fy gZ]else bif gI l3 0==9 then bL [iI i0,iI i1,iI 1,aC l3,aa (sT (aF py 0 l4) Ap),.aj 0 (bz (ah.lY (ah.lY (aJ r5) (.str ((⟨#[116,115]⟩:ByteArray))) (c5)) (.str ((⟨#[100,101,99,108,115]⟩:ByteArray))) (c5))),bR r6,bR r7,c7 r8,c7 r9,aw eZ,dv gD,fO gz,fV gy,fy gZ]else bif gI l3 0==11 then bL [iI 1,iI i1,iI i2,aC l3,aa (sT (aF py 0 l4) Ap),.aj 0 (bz (aJ r5)),bR r6,bR r7,c7 r8,c7 r9,aw eZ,dv gD,fO gz,fV gy,fy gZ]else bO (Zt G N [cu (gI l3 0)]) λ_ o2=>bif gB o2 0 then bL [iI i0,iI 1,iI i2,aC l3,aa (sT (aF py 0 l4) Ap),.aj 0 (bz (aJ r5)),bR r6,bR r7,c7 r8,c7 r9,aw eZ,dv gD,fO gz,fV gy,fy gZ]else bif gI l3 0==14 then bif gB l3 6 then bL [iI i0,iI 1,iI i2,aC l3,aa [cu (gI l4 0),iI (gI l4 1),iI (gI l4 2),iI (gI l4 3),iI (gI l3 4),iI (gI l3 5),av (gB l3 6),av (gB l4 7),av (gB l4 8),av (gB l4 9),av (gB l4 10),cu (gI l4 11),.ak 3,.ak 4,.ak 5,.ak 6,.ak 7,.ak 8,.ak 9,.ak 10,.ak 11],.aj 0 (bz (aJ r5)),bR r6,bR r7,c7 r8,c7 r9,aw eZ,dv gD,fO gz,fV gy,fy gZ]else bL [iI i0,iI 1,iI i2,aC l3,aa [cu (gI l4 0),iI (gI l4 1),iI (gI l4 2),iI (gI l4 3),iI (gI l4 4),iI (gI l3 5),av (gB l3 6),av (gB l4 7),av (gB l4 8),av (gB l4 9),av (gB l4 10),cu (gI l4 11),.ak 3,.ak 4,.ak 5,.ak 6,.ak 7,.ak 8,.ak 9,.ak 10,.ak 11],.aj 0 (bz (aJ r5)),bR r6,bR r7,c7 r8,c7 r9,aw eZ,dv gD,fO gz,fV gy,fy gZ]else bif gI l3 0==15 then bL [iI 1,iI i1,iI i2,aC l3,aa (sT (aF py 0 l4) [(8,av (gB l3 8)),(12,.ak 3),(13,.ak 4),(14,.ak 5),(15,.ak 6),(16,.ak 7),(17,.ak 8),(18,.ak 9),(19,.ak 10),(20,.ak 11)]),.aj 0 (bz (aJ r5)),bR r6,bR r7,c7 r8,c7 r9,aw eZ,dv gD,fO gz,fV gy,fy gZ]else bif gI l3 0==16 then bL [iI (ln (gR l3 12)),iI i1,iI 2,aC l3,aa [cu (gI l4 0),iI (gI l4 1),iI (gI l4 2),iI (gI l3 3),iI (gI l4 4),iI (gI l3 5),av (gB l4 6),av (gB l4 7),av (gB l4 8),av (gB l4 9),av (gB l4 10),cu (gI l3 11),.ak 3,.ak 4,.ak 5,.ak 6,.ak 7,.ak 8,.ak 9,.ak 10,.ak 11],.aj 0 (bz (ah.lY (aJ r5) (.str ((⟨#[99,97,108,108]⟩:ByteArray))) (c5))),bR r6,bR r7,c7 r8,c7 r9,aw eZ,dv gD,fO gz,fV gy,fy gZ]else bif gI l3 0==17 then bL [iI (ln (gR l3 12)),iI i1,iI 3,aC l3,aa [cu (gI l4 0),iI (gI l4 1),iI (gI l4 2),iI (gI l4 3),iI (gI l3 4),iI (gI l3 5),av (gB l4 6),av (gB l4 7),av (gB l4 8),av (gB l4 9),av (gB l4 10),cu (gI l3 11),.ak 3,.ak 4,.ak 5,.ak 6,.ak 7,.ak 8,.ak 9,.ak 10,.ak 11],.aj 0 (bz (aJ r5)),bR r6,bR r7,c7 r8,c7 r9,aw eZ,dv gD,fO gz,fV gy,fy gZ]else bif gI l3 0==18 then bL [iI i0,iI i1,iI 2,aC l3,aa (sT (aF py 0 l4) [(5,iI (gI l3 5)),(12,.ak 3),(13,.ak 4),(14,.ak 5),(15,.ak 6),(16,.ak 7),(17,.ak 8),(18,.ak 9),(19,.ak 10),(20,.ak 11)]),.aj 0 (bz (aJ r5)),bR r6,bR r7,c7 r8,c7 r9,aw eZ,dv gD,fO gz,fV gy,fy gZ]else bif gI l3 0==19 then bL [iI i0,iI i1,iI 1,aC l3,aa (sT (aF py 0 l4) [(9,av (gB l3 9)),(12,.ak 3),(13,.ak 4),(14,.ak 5),(15,.ak 6),(16,.ak 7),(17,.ak 8),(18,.ak 9),(19,.ak 10),(20,.ak 11)]),.aj 0 (bz (ah.lY (aJ r5) (.str ((⟨#[97,108,116,115]⟩:ByteArray))) (c5))),bR r6,bR r7,c7 r8,c7 r9,aw eZ,dv gD,fO gz,fV gy,fy gZ]else bif gI l3 0==20 then bL [iI i0,iI i1,iI 1,aC l3,aa (sT (aF py 0 l4) [(4,iI (gI l3 4)),(12,.ak 3),(13,.ak 4),(14,.ak 5),(15,.ak 6),(16,.ak 7),(17,.ak 8),(18,.ak 9),(19,.ak 10),(20,.ak 11)]),.aj 0 (bz (aJ r5)),bR r6,bR r7,c7 r8,c7 r9,aw eZ,dv gD,fO gz,fV gy,fy gZ]else bif gI l3 0==21 then bL [iI i0,iI i1,iI i2,aC l3,aa [cu (gI l4 0),iI (gI l4 1),iI (gI l4 2),iI (gI l3 3),iI (gI l4 4),iI (gI l3 5),av (gB l4 6),av (gB l4 7),av (gB l4 8),av (gB l4 9),av (gB l3 10),cu (gI l4 11),.ak 3,.ak 4,.ak 5,.ak 6,.ak 7,.ak 8,.ak 9,.ak 10,.ak 11],.aj 0 (bz (aJ r5)),bR r6,bR r7,c7 r8,c7 r9,aw eZ,dv gD,fO gz,fV gy,fy gZ]else bif gI l3 0==22 then bL [iI i0,iI i1,iI i2,aC l3,aa (sT (aF py 0 l4) Ap),.aj 0 (bz (ah.lY (aJ r5) (.str ((⟨#[116,115]⟩:ByteArray))) (c5))),bR r6,bR r7,c7 r8,c7 r9,aw eZ,dv gD,fO gz,fV gy,fy gZ]else oo [aT,aC l3,aa (sT (aF py 0 l4) Ap),.aj 0 (bz (aJ r5)),bR r6,bR r7,c7 r8,c7 r9,aw eZ,dv gD,fO gz,fV gy,fy gZ]:aA):=ac
def aEi:aaW G N [iI i0,iI i1,iI i2,aa l3,aa l4,aa l5,bR r6,bR r7,c7 r8,c7 r9,aw eZ,dv gD,fO gz,fV gy,fy gZ,bR FJ,bR FI,c7 FH,c7 FG,aw FE,dv FC,fO Ic,fV Ib,fy Ia]=(bO (G Nj [gk fC l4 12 (bQ r6) [(13,bQ r7),(14,cT r8),(15,cT r9),(16,ba eZ),(17,da gD),(18,gj gz),(19,gG gy),(20,gL gZ)],gk fC l5 12 (bQ FJ) [(13,bQ FI),(14,cT FH),(15,cT FG),(16,ba FE),(17,da FC),(18,gj Ic),(19,gG Ib),(20,gL Ia)]]) λ_ o4=>ca (cE o4) (jw (aC l3) (mj l4 3 [kr 4,kE 5,kB 6,kz 7,kF 8,kv 9,kG 10,y5 11]) (mj l5 12 [kr 13,kE 14,kB 15,kz 16,kF 17,kv 18,kG 19,y5 20]) (bQ r6) [bQ r7,cT r8,cT r9,ba eZ,da gD,gj gz,gG gy,gL gZ,bQ FJ,bQ FI,cT FH,cT FG,ba FE,da FC,gj Ic,gG Ib,gL Ia]) ((ln (gR l3 12)) != i0) (jw (aC l3) (mj l4 3 [kr 4,kE 5,kB 6,kz 7,kF 8,kv 9,kG 10,y5 11]) (mj l5 12 [kr 13,kE 14,kB 15,kz 16,kF 17,kv 18,kG 19,y5 20]) (bQ r6) [bQ r7,cT r8,cT r9,ba eZ,da gD,gj gz,gG gy,gL gZ,bQ FJ,bQ FI,cT FH,cT FG,ba FE,da FC,gj Ic,gG Ib,gL Ia]) (ca ((ln (gR l3 14)) != i1) (jw (aC l3) (mj l4 3 [kr 4,kE 5,kB 6,kz 7,kF 8,kv 9,kG 10,y5 11]) (mj l5 12 [kr 13,kE 14,kB 15,kz 16,kF 17,kv 18,kG 19,y5 20]) (bQ r6) [bQ r7,cT r8,cT r9,ba eZ,da gD,gj gz,gG gy,gL gZ,bQ FJ,bQ FI,cT FH,cT FG,ba FE,da FC,gj Ic,gG Ib,gL Ia]) ((ln (gR l3 17)) != i2) (jw (aC l3) (mj l4 3 [kr 4,kE 5,kB 6,kz 7,kF 8,kv 9,kG 10,y5 11]) (mj l5 12 [kr 13,kE 14,kB 15,kz 16,kF 17,kv 18,kG 19,y5 20]) (bQ r6) [bQ r7,cT r8,cT r9,ba eZ,da gD,gj gz,gG gy,gL gZ,bQ FJ,bQ FI,cT FH,cT FG,ba FE,da FC,gj Ic,gG Ib,gL Ia]) (fR (aC l3) (mj l4 3 [kr 4,kE 5,kB 6,kz 7,kF 8,kv 9,kG 10,y5 11]) (mj l5 12 [kr 13,kE 14,kB 15,kz 16,kF 17,kv 18,kG 19,y5 20]) (bQ r6) [bQ r7,cT r8,cT r9,ba eZ,da gD,gj gz,gG gy,gL gZ,bQ FJ,bQ FI,cT FH,cT FG,ba FE,da FC,gj Ic,gG Ib,gL Ia])):aA):=ac
end
noncomputable section
variable {G:Nat->aq->Option UO} {N n:Nat} {i0 i1 i2:Int} {l0 l1 l2 l3 l4:aq} {r0 r1 r2 r3 r4 r5 r6:aE}
def aIh:bG CX EE G N Ti [aa l0]=(bO (aaX G N [iI 0,iI 0,iI 0,aC l0,aa [cu (gI l0 0),iI 0,iI 0,iI 0,iI 0,iI 0,aT,aT,aT,aT,aT,cu 0,.ak 3,.ak 4,.ak 5,.ak 6,.ak 7,.ak 8,.ak 9,.ak 10,.ak 11],.aj 0 (bz (([]:List (AV×AV)))),bR dL,bR dL,c7 dL,c7 dL,aw dL,dv dL,fO dL,fV dL,fy dL]) λq3 o3=>bif gJ q3 then bO (aaW G N [iI (gI o3 0),iI (gI o3 1),iI (gI o3 2),aC (gC o3 3),aa (sT (aF py 0 l0) Ap),aa (sT (aF py 0 (gC o3 4)) aZT),bR dL,bR dL,c7 dL,c7 dL,aw dL,dv dL,fO dL,fV dL,fy dL,bR (gR o3 6),bR (gR o3 7),c7 (gR o3 8),c7 (gR o3 9),aw (gR o3 10),dv (gR o3 11),fO (gR o3 12),fV (gR o3 13),fy (gR o3 14)]) λq5 o5=>bif gJ q5 then match ah.ew (aJ (gR o3 5)) (.str ((⟨#[99,97,108,108]⟩:ByteArray)))with|some m6=>(bif m6.toB then match ah.ew (aJ (gR o3 5)) (.str ((⟨#[116,115]⟩:ByteArray)))with|some m7=>(bif m7.toB then match ah.ew (aJ (gR o3 5)) (.str ((⟨#[100,101,99,108,115]⟩:ByteArray)))with|some m8=>(bif m8.toB then match ah.ew (aJ (gR o3 5)) (.str ((⟨#[97,108,116,115]⟩:ByteArray)))with|some m9=>(bif m9.toB then cV else bL [av (ln (gR (gC o5 0) 20)==0)])|none=>(bL [av (ln (gR (gC o5 0) 20)==0)])else bif aU ((ln (gR (gC o5 0) 18))+(ln (gR (gC o5 0) 19)))==0 then match ah.ew (aJ (gR o3 5)) (.str ((⟨#[97,108,116,115]⟩:ByteArray)))with|some m10=>(bif m10.toB then cV else bL [av (ln (gR (gC o5 0) 20)==0)])|none=>(bL [av (ln (gR (gC o5 0) 20)==0)])else fm)|none=>(bif aU ((ln (gR (gC o5 0) 18))+(ln (gR (gC o5 0) 19)))==0 then match ah.ew (aJ (gR o3 5)) (.str ((⟨#[97,108,116,115]⟩:ByteArray)))with|some m11=>(bif m11.toB then cV else bL [av (ln (gR (gC o5 0) 20)==0)])|none=>(bL [av (ln (gR (gC o5 0) 20)==0)])else fm)else bif ln (gR (gC o5 0) 16)==0 then match ah.ew (aJ (gR o3 5)) (.str ((⟨#[100,101,99,108,115]⟩:ByteArray)))with|some m12=>(bif m12.toB then match ah.ew (aJ (gR o3 5)) (.str ((⟨#[97,108,116,115]⟩:ByteArray)))with|some Io=>(bif Io.toB then cV else bL [av (ln (gR (gC o5 0) 20)==0)])|none=>(bL [av (ln (gR (gC o5 0) 20)==0)])else bif aU ((ln (gR (gC o5 0) 18))+(ln (gR (gC o5 0) 19)))==0 then match ah.ew (aJ (gR o3 5)) (.str ((⟨#[97,108,116,115]⟩:ByteArray)))with|some m14=>(bif m14.toB then cV else bL [av (ln (gR (gC o5 0) 20)==0)])|none=>(bL [av (ln (gR (gC o5 0) 20)==0)])else fm)|none=>(bif aU ((ln (gR (gC o5 0) 18))+(ln (gR (gC o5 0) 19)))==0 then match ah.ew (aJ (gR o3 5)) (.str ((⟨#[97,108,116,115]⟩:ByteArray)))with|some m15=>(bif m15.toB then cV else bL [av (ln (gR (gC o5 0) 20)==0)])|none=>(bL [av (ln (gR (gC o5 0) 20)==0)])else fm)else fm)|none=>(bif ln (gR (gC o5 0) 16)==0 then match ah.ew (aJ (gR o3 5)) (.str ((⟨#[100,101,99,108,115]⟩:ByteArray)))with|some m16=>(bif m16.toB then match ah.ew (aJ (gR o3 5)) (.str ((⟨#[97,108,116,115]⟩:ByteArray)))with|some m17=>(bif m17.toB then cV else bL [av (ln (gR (gC o5 0) 20)==0)])|none=>(bL [av (ln (gR (gC o5 0) 20)==0)])else bif aU ((ln (gR (gC o5 0) 18))+(ln (gR (gC o5 0) 19)))==0 then match ah.ew (aJ (gR o3 5)) (.str ((⟨#[97,108,116,115]⟩:ByteArray)))with|some m18=>(bif m18.toB then cV else bL [av (ln (gR (gC o5 0) 20)==0)])|none=>(bL [av (ln (gR (gC o5 0) 20)==0)])else fm)|none=>(bif aU ((ln (gR (gC o5 0) 18))+(ln (gR (gC o5 0) 19)))==0 then match ah.ew (aJ (gR o3 5)) (.str ((⟨#[97,108,116,115]⟩:ByteArray)))with|some m19=>(bif m19.toB then cV else bL [av (ln (gR (gC o5 0) 20)==0)])|none=>(bL [av (ln (gR (gC o5 0) 20)==0)])else fm)else fm)else bif aU ((ln (gR (gC o5 0) 13))+(ln (gR (gC o5 0) 15)))==0 then match ah.ew (aJ (gR o3 5)) (.str ((⟨#[116,115]⟩:ByteArray)))with|some m20=>(bif m20.toB then match ah.ew (aJ (gR o3 5)) (.str ((⟨#[100,101,99,108,115]⟩:ByteArray)))with|some m21=>(bif m21.toB then match ah.ew (aJ (gR o3 5)) (.str ((⟨#[97,108,116,115]⟩:ByteArray)))with|some Qw=>(bif Qw.toB then cV else bL [av (ln (gR (gC o5 0) 20)==0)])|none=>(bL [av (ln (gR (gC o5 0) 20)==0)])else bif aU ((ln (gR (gC o5 0) 18))+(ln (gR (gC o5 0) 19)))==0 then match ah.ew (aJ (gR o3 5)) (.str ((⟨#[97,108,116,115]⟩:ByteArray)))with|some Qv=>(bif Qv.toB then cV else bL [av (ln (gR (gC o5 0) 20)==0)])|none=>(bL [av (ln (gR (gC o5 0) 20)==0)])else fm)|none=>(bif aU ((ln (gR (gC o5 0) 18))+(ln (gR (gC o5 0) 19)))==0 then match ah.ew (aJ (gR o3 5)) (.str ((⟨#[97,108,116,115]⟩:ByteArray)))with|some m24=>(bif m24.toB then cV else bL [av (ln (gR (gC o5 0) 20)==0)])|none=>(bL [av (ln (gR (gC o5 0) 20)==0)])else fm)else bif ln (gR (gC o5 0) 16)==0 then match ah.ew (aJ (gR o3 5)) (.str ((⟨#[100,101,99,108,115]⟩:ByteArray)))with|some m25=>(bif m25.toB then match ah.ew (aJ (gR o3 5)) (.str ((⟨#[97,108,116,115]⟩:ByteArray)))with|some m26=>(bif m26.toB then cV else bL [av (ln (gR (gC o5 0) 20)==0)])|none=>(bL [av (ln (gR (gC o5 0) 20)==0)])else bif aU ((ln (gR (gC o5 0) 18))+(ln (gR (gC o5 0) 19)))==0 then match ah.ew (aJ (gR o3 5)) (.str ((⟨#[97,108,116,115]⟩:ByteArray)))with|some m27=>(bif m27.toB then cV else bL [av (ln (gR (gC o5 0) 20)==0)])|none=>(bL [av (ln (gR (gC o5 0) 20)==0)])else fm)|none=>(bif aU ((ln (gR (gC o5 0) 18))+(ln (gR (gC o5 0) 19)))==0 then match ah.ew (aJ (gR o3 5)) (.str ((⟨#[97,108,116,115]⟩:ByteArray)))with|some m28=>(bif m28.toB then cV else bL [av (ln (gR (gC o5 0) 20)==0)])|none=>(bL [av (ln (gR (gC o5 0) 20)==0)])else fm)else fm)|none=>(bif ln (gR (gC o5 0) 16)==0 then match ah.ew (aJ (gR o3 5)) (.str ((⟨#[100,101,99,108,115]⟩:ByteArray)))with|some m29=>(bif m29.toB then match ah.ew (aJ (gR o3 5)) (.str ((⟨#[97,108,116,115]⟩:ByteArray)))with|some m30=>(bif m30.toB then cV else bL [av (ln (gR (gC o5 0) 20)==0)])|none=>(bL [av (ln (gR (gC o5 0) 20)==0)])else bif aU ((ln (gR (gC o5 0) 18))+(ln (gR (gC o5 0) 19)))==0 then match ah.ew (aJ (gR o3 5)) (.str ((⟨#[97,108,116,115]⟩:ByteArray)))with|some m31=>(bif m31.toB then cV else bL [av (ln (gR (gC o5 0) 20)==0)])|none=>(bL [av (ln (gR (gC o5 0) 20)==0)])else fm)|none=>(bif aU ((ln (gR (gC o5 0) 18))+(ln (gR (gC o5 0) 19)))==0 then match ah.ew (aJ (gR o3 5)) (.str ((⟨#[97,108,116,115]⟩:ByteArray)))with|some m32=>(bif m32.toB then cV else bL [av (ln (gR (gC o5 0) 20)==0)])|none=>(bL [av (ln (gR (gC o5 0) 20)==0)])else fm)else fm)else fm)|none=>(bif aU ((ln (gR (gC o5 0) 13))+(ln (gR (gC o5 0) 15)))==0 then match ah.ew (aJ (gR o3 5)) (.str ((⟨#[116,115]⟩:ByteArray)))with|some m33=>(bif m33.toB then match ah.ew (aJ (gR o3 5)) (.str ((⟨#[100,101,99,108,115]⟩:ByteArray)))with|some m34=>(bif m34.toB then match ah.ew (aJ (gR o3 5)) (.str ((⟨#[97,108,116,115]⟩:ByteArray)))with|some m35=>(bif m35.toB then cV else bL [av (ln (gR (gC o5 0) 20)==0)])|none=>(bL [av (ln (gR (gC o5 0) 20)==0)])else bif aU ((ln (gR (gC o5 0) 18))+(ln (gR (gC o5 0) 19)))==0 then match ah.ew (aJ (gR o3 5)) (.str ((⟨#[97,108,116,115]⟩:ByteArray)))with|some m36=>(bif m36.toB then cV else bL [av (ln (gR (gC o5 0) 20)==0)])|none=>(bL [av (ln (gR (gC o5 0) 20)==0)])else fm)|none=>(bif aU ((ln (gR (gC o5 0) 18))+(ln (gR (gC o5 0) 19)))==0 then match ah.ew (aJ (gR o3 5)) (.str ((⟨#[97,108,116,115]⟩:ByteArray)))with|some m37=>(bif m37.toB then cV else bL [av (ln (gR (gC o5 0) 20)==0)])|none=>(bL [av (ln (gR (gC o5 0) 20)==0)])else fm)else bif ln (gR (gC o5 0) 16)==0 then match ah.ew (aJ (gR o3 5)) (.str ((⟨#[100,101,99,108,115]⟩:ByteArray)))with|some m38=>(bif m38.toB then match ah.ew (aJ (gR o3 5)) (.str ((⟨#[97,108,116,115]⟩:ByteArray)))with|some m39=>(bif m39.toB then cV else bL [av (ln (gR (gC o5 0) 20)==0)])|none=>(bL [av (ln (gR (gC o5 0) 20)==0)])else bif aU ((ln (gR (gC o5 0) 18))+(ln (gR (gC o5 0) 19)))==0 then match ah.ew (aJ (gR o3 5)) (.str ((⟨#[97,108,116,115]⟩:ByteArray)))with|some m40=>(bif m40.toB then cV else bL [av (ln (gR (gC o5 0) 20)==0)])|none=>(bL [av (ln (gR (gC o5 0) 20)==0)])else fm)|none=>(bif aU ((ln (gR (gC o5 0) 18))+(ln (gR (gC o5 0) 19)))==0 then match ah.ew (aJ (gR o3 5)) (.str ((⟨#[97,108,116,115]⟩:ByteArray)))with|some m41=>(bif m41.toB then cV else bL [av (ln (gR (gC o5 0) 20)==0)])|none=>(bL [av (ln (gR (gC o5 0) 20)==0)])else fm)else fm)|none=>(bif ln (gR (gC o5 0) 16)==0 then match ah.ew (aJ (gR o3 5)) (.str ((⟨#[100,101,99,108,115]⟩:ByteArray)))with|some m42=>(bif m42.toB then match ah.ew (aJ (gR o3 5)) (.str ((⟨#[97,108,116,115]⟩:ByteArray)))with|some m43=>(bif m43.toB then cV else bL [av (ln (gR (gC o5 0) 20)==0)])|none=>(bL [av (ln (gR (gC o5 0) 20)==0)])else bif aU ((ln (gR (gC o5 0) 18))+(ln (gR (gC o5 0) 19)))==0 then match ah.ew (aJ (gR o3 5)) (.str ((⟨#[97,108,116,115]⟩:ByteArray)))with|some m44=>(bif m44.toB then cV else bL [av (ln (gR (gC o5 0) 20)==0)])|none=>(bL [av (ln (gR (gC o5 0) 20)==0)])else fm)|none=>(bif aU ((ln (gR (gC o5 0) 18))+(ln (gR (gC o5 0) 19)))==0 then match ah.ew (aJ (gR o3 5)) (.str ((⟨#[97,108,116,115]⟩:ByteArray)))with|some m45=>(bif m45.toB then cV else bL [av (ln (gR (gC o5 0) 20)==0)])|none=>(bL [av (ln (gR (gC o5 0) 20)==0)])else fm)else fm)else fm)else bL [av (gB o5 0)]else bL [av (gB o3 0)]:aA):=ac
def aEm:aa0 G N [cu i0]=(ca (i0==16) cV (i0==17) cV (ca (i0==18) cV (i0==19) cV (ca (i0==15) cV (i0==11) cV (ca (i0==12) cV (i0==22) cV (pC (i0==21))))):aA):=ac
def aHB:bG CX EE G N S4 [aa l0]=(bO (aa0 G N [jW l0]) λ_ o1=>ca (dP o1) cV ((gI l0 0)==9) (pC (ig 0 l0 16)) fm:aA):=ac
def aAm:ZK G N [aa l0,ay r1,.aj 0 r2,aa l3,aa l4]=(eL (ig 0 l3 5) (bO (G S4 [aC l4]) λ_ o1=>eL (dP o1) (lT (cy l0 (.mp 2)) (bB r1) (bN r2) l3 (.ptr 0 0 0) [aC l4]) (cy l0 (.mp 2)) (bB r1) (bN r2) [bH l3 (.ptr 0 0 0),aC l4]) (cy l0 (.mp 2)) (bB r1) (bN r2) [bH l3 (.ptr 0 0 0),aC l4]:aA):=ac
def azi:Zs G N [cu i0,aa l1,ay r2,.aj 0 r3]=(ca (i0==18) (fR eD (cy l1 (.mp 2)) (bB r2) (bN r3) []) (i0==19) (fR eD (cy l1 (.mp 2)) (bB r2) (bN r3) []) (lj (i0==21) (cy l1 (.mp 2)) (bB r2) (bN r3) []):aA):=ac
def azI:ZA G N [aa l0,ay r1,.aj 0 r2,aa l3,aa l4]=(bO (Zs G N [jW l4,cy l0 (.mp 2),bB r1,bN r2]) λ_ o3=>sW o3 0 (bif nJ l3 7 then kJ (av (nJ l3 8)) [cx o3 (.mp 2),bU o3,cb o3,bH l3 (.ptr 0 0 0),aC l4]else lT (cx o3 (.mp 2)) (bU o3) (cb o3) l3 (.ptr 0 0 0) [aC l4]) (ca ((gI l4 0)==11) (kJ eD [cx o3 (.mp 2),bU o3,cb o3,bH l3 (.ptr 0 0 0),aC l4]) ((gI l4 0)==12) (kJ eD [cx o3 (.mp 2),bU o3,cb o3,bH l3 (.ptr 0 0 0),aC l4]) (fR (cx o3 (.mp 2)) (bU o3) (cb o3) (bH l3 (.ptr 0 0 0)) [aC l4])):aA):=ac
def aBP:bG CX EE G N Z7 [aa l0,aa l1,aa l2,ay r3,.aj 0 r4]=(bO (ZK G N [cy l2 (.mp 2),bB r3,bN r4,bH l0 (.ptr 0 0 0),aC l1]) λq2 o2=>iL q2 (bO (ZA G N [kf o2 0 (.mp 2),iF o2 1,lL o2 2,sv o2 (.ptr 0 0 0),aC (fZ o2)]) λq4 o4=>iL q4 (lq (nJ (lI o4) 8) eD (kf o4 0 (.mp 2)) [iF o4 1,lL o4 2] (bO (G S4 [aC (fZ o4)]) λ_ o5=>lj (cE o5) (kf o4 0 (.mp 2)) (iF o4 1) (lL o4 2) [])) o4 [cx o4 (.mp 2),bU o4,cb o4]) o2 [cx o2 (.mp 2),bU o2,cb o2]:aA):=ac
def aEu:bG CX EE G N Gn [aa l0,iI i1,aa l2,ay r3,.aj 0 r4]=(jN i1 r3 i1.toNat r3.length (ca (lR (lJ r3 i1)) (bO (G wH [cM l0 5,eU (bp r3 i1)]) λ_ o1=>oz o1 (cy l2 (.mp 2)) (bB r3) (bN r4) []) (cH (jF (bp r3 i1)) 0) (fR eD (cy l2 (.mp 2)) (bB r3) (bN r4) []) (hZ ((gI (bp r3 i1) 1)==(gI l0 1)) (bO (G wH [cM l0 4,cL (bp r3 i1) 2]) λ_ o2=>oz o2 (cy l2 (.mp 2)) (bB r3) (bN r4) []) (cy l2 (.mp 2)) (bB r3) [bN r4])):aA):=ac
def aBN:bG CX EE G N Z5 [aa l0,aa l1,aa l2,ay r3,.aj 0 r4]=(bO (G Js [bH l1 (.ptr 0 0 0),bK l0,cy l2 (.mp 2),bB r3,bN r4]) λ_ o1=>lj (cE o1) (bH l1 (.ptr 1 0 0)) (jZ o1 1 2 (.mp 3)) (bU o1) [cb o1]:aA):=ac
def ahM:IZ G N (n+1) [bR r0,iI i1,iI i2,aa l3,aa l4,ay r5,.aj 0 r6]=(mB i2 i1 r0 (bO (G Z5 [bK (bp r0 i2),bH l3 (.ptr 1 0 0),mV l4 2 (.mp 3),bB r5,bN r6]) λ_ o1=>nj (dP o1) i2 (pR o1 (.ptr 1 0 0)) [jZ o1 2 2 (.mp 3),jM o1,kY o1] (IZ G N n [bQ r0,iI i1,bZ i2,pR o1 (.ptr 1 0 0),jZ o1 2 2 (.mp 3),jM o1,kY o1])) (bH l3 (.ptr 1 0 0)) [mV l4 2 (.mp 3),bB r5,bN r6]:aA):=ac
def aw8:bG CX EE G N YI [bR r0,aa l1,aa l2,ay r3,.aj 0 r4]=(bO (IZ G N N (bQ r0::pS r0::dS (bH l1 (.ptr 1 0 0)) (mV l2 2 (.mp 3)) [bB r3,bN r4])) λq2 o2=>fS q2 (fR (eU o2) (pR o2 (.ptr 1 0 0)) (jZ o2 2 2 (.mp 3)) (jM o2) [kY o2]) (iI (-1)) [bH (bP o2) (.ptr 1 0 0),jZ o2 1 2 (.mp 3),bU o2,cb o2]:aA):=ac
def awP:bG CX EE G N YD [bR r0,aa l1,aa l2,ay r3,.aj 0 r4]=(bO (G YI [bQ r0,bH l1 (.ptr 1 0 0),mV l2 2 (.mp 3),bB r3,bN r4]) λ_ o1=>lj (vd o1) (pR o1 (.ptr 1 0 0)) (jZ o1 2 2 (.mp 3)) (jM o1) [kY o1]:aA):=ac
def aBH:aad G N [aa l0,ay r1,.aj 0 r2,aa l3,aa l4]=(bif (gI l4 0)==2 then bO (G Gn [bH l3 (.ptr 0 0 0),cL l4 3,cy l0 (.mp 2),bB r1,bN r2]) λ_ o1=>eL (cE o1) (lT (cx o1 (.mp 2)) (bU o1) (cb o1) l3 (.ptr 0 0 0) [bK l4]) (cx o1 (.mp 2)) (bU o1) (cb o1) [bH l3 (.ptr 0 0 0),bK l4]else ca ((gI l4 0)==3) (bO (G Gn [bH l3 (.ptr 0 0 0),cL l4 3,cy l0 (.mp 2),bB r1,bN r2]) λ_ o2=>eL (cE o2) (lT (cx o2 (.mp 2)) (bU o2) (cb o2) l3 (.ptr 0 0 0) [bK l4]) (cx o2 (.mp 2)) (bU o2) (cb o2) [bH l3 (.ptr 0 0 0),bK l4]) ((gI l4 0)==12) (jN (gI l4 3) r1 (gI l4 3).toNat r1.length (eL (!(((gI (bp r1 (gI l4 3)) 0)==(-1))&&(((gI (bp r1 (gI l4 3)) 1)==(-1))&&(((gI (bp r1 (gI l4 3)) 2)==(-1))&&true)))) (lT (cy l0 (.mp 2)) (bB r1) (bN r2) l3 (.ptr 0 0 0) [bK l4]) (cy l0 (.mp 2)) (bB r1) (bN r2) [bH l3 (.ptr 0 0 0),bK l4])) (fR (cy l0 (.mp 2)) (bB r1) (bN r2) (bH l3 (.ptr 0 0 0)) [bK l4]):aA):=ac
def ajG:bG CX EE G N Js [aa l0,aa l1,aa l2,ay r3,.aj 0 r4]=(bO (aad G N [cy l2 (.mp 2),bB r3,bN r4,bH l0 (.ptr 0 0 0),bK l1]) λq3 o3=>iL q3 (bO (G YD [pa (fZ o3) 8,sv o3 (.ptr 1 0 0),jZ o3 0 2 (.mp 3),iF o3 1,lL o3 2]) λ_ o4=>lj (cE o4) (kf o4 2 (.mp 2)) (jM o4) (kY o4) []) o3 [cx o3 (.mp 2),bU o3,cb o3]:aA):=ac
def ajH:bG CX EE G N D9 [aa l0,aa l1,aa l2,ay r3,.aj 0 r4]=(bO (G SB [oB (lK l2 0) l2 [],bK l1]) λ_ o1=>eL (gB o1 1) (bO (G Js [bH l0 (.ptr 0 0 0),bK l1,cy l2 (.mp 2),bB r3,bN r4]) λ_ o2=>fR (mT o1) (eK o2) (cx o2 (.mp 2)) (bU o2) [cb o2]) (mT o1) dp (cy l2 (.mp 2)) [bB r3,bN r4]:aA):=ac
def aA6:bG CX EE G N ZU [iI i0,aa l1,aa l2,ay r3,.aj 0 r4]=(bO (G wH [cM l1 6,iI i0]) λ_ o1=>oz o1 (bH l1 (.ptr 1 0 0)) (mV l2 2 (.mp 3)) (bB r3) [bN r4]:aA):=ac
def ahQ:Mr G N (n+1) [aw r0,iI i1,iI i2,aa l3,aa l4,ay r5,.aj 0 r6]=(mB i2 i1 r0 (bO (G ZU [eU (bp r0 i2),bH l3 (.ptr 1 0 0),mV l4 2 (.mp 3),bB r5,bN r6]) λ_ o1=>nj (dP o1) i2 (pR o1 (.ptr 1 0 0)) [jZ o1 2 2 (.mp 3),jM o1,kY o1] (Mr G N n [ba r0,iI i1,bZ i2,pR o1 (.ptr 1 0 0),jZ o1 2 2 (.mp 3),jM o1,kY o1])) (bH l3 (.ptr 1 0 0)) [mV l4 2 (.mp 3),bB r5,bN r6]:aA):=ac
def ah0:bG CX EE G N YK [aw r0,aa l1,aa l2,ay r3,.aj 0 r4]=(bO (Mr G N N (ba r0::pS r0::dS (bH l1 (.ptr 1 0 0)) (mV l2 2 (.mp 3)) [bB r3,bN r4])) λq2 o2=>fS q2 (fR (eU o2) (pR o2 (.ptr 1 0 0)) (jZ o2 2 2 (.mp 3)) (jM o2) [kY o2]) (iI (-1)) [bH (bP o2) (.ptr 1 0 0),jZ o2 1 2 (.mp 3),bU o2,cb o2]:aA):=ac
end
noncomputable section
variable {G:Nat->aq->Option UO} {N n:Nat} {i0 i1 i2:Int} {l0 l1 l2 l3 l4 l5 l6:aq} {r0 r1 r2 r3 r4 r5 r6 r7:aE}
def awU:bG CX EE G N Ro [aw r0,aa l1,aa l2,ay r3,.aj 0 r4]=(bO (G YK [ba r0,bH l1 (.ptr 1 0 0),mV l2 2 (.mp 3),bB r3,bN r4]) λ_ o1=>lj (vd o1) (pR o1 (.ptr 1 0 0)) (jZ o1 2 2 (.mp 3)) (jM o1) [kY o1]:aA):=ac
def aAo:ZM G N [iI i0,aa l1,ay r2,.aj 0 r3,aa l4,aa l5,bR r6]=(ca ((gI l4 0)==1) (fR Ai (cy l1 (.mp 2)) (bB r2) (bN r3) [fg l4,oB (jW l5) l4 [cL l4 2,cL l5 3,.ak 5],bQ r6]) ((gI l4 0)==2) (oi i0 (cy l1 (.mp 2)) (bB r2) (bN r3) [fg l4,gk tD l4 0 (jW l5) [k6 4 5],bQ r6]) (nj ((gI l4 0)==3) i0 (cy l1 (.mp 2)) [bB r2,bN r3,fg l4,kh tD l5 4 5 [],bQ r6] (jw (cy l1 (.mp 2)) (bB r2) (bN r3) (fg l4) [kh tD l5 4 6 [],eM,bQ r6])):aA):=ac
def aAn:ZL G N [iI i0,aa l1,ay r2,.aj 0 r3,aa l4,aa l5,bR r6]=(ca ((gI l5 1) != (gI l4 1)) (jw (cy l1 (.mp 2)) (bB r2) (bN r3) (fg l4) [kh tD l5 4 6 [],eM,bQ r6]) ((gI l5 2) != (gI l4 2)) (jw (cy l1 (.mp 2)) (bB r2) (bN r3) (fg l4) [kh tD l5 4 6 [],eM,bQ r6]) (ca ((gI l5 3) != (gI l4 3)) (jw (cy l1 (.mp 2)) (bB r2) (bN r3) (fg l4) [kh tD l5 4 6 [],eM,bQ r6]) ((ln (gR l4 4)) != i0) (jw (cy l1 (.mp 2)) (bB r2) (bN r3) (fg l4) [kh tD l5 4 6 [],eM,bQ r6]) (fR (cy l1 (.mp 2)) (bB r2) (bN r3) (fg l4) [kh tD l5 4 5 [],bQ r6])):aA):=ac
def aiX:D6 G N [iI i0,aa l1,ay r2,.aj 0 r3,aa l4,aa l5,aa l6,aw r7]=(eL (i0==1) (gT l5 4 (bO (G D9 [bH l4 (.ptr 0 0 0),nZ l5 4 0,cy l1 (.mp 2),bB r2,bN r3]) λ_ o3=>eL (nJ o3 1) (lT (kf o3 2 (.mp 2)) (jM o3) (kY o3) l4 (.ptr 0 0 0) [fg l5,mT o3,eM]) (kf o3 2 (.mp 2)) (jM o3) (kY o3) [bH l4 (.ptr 0 0 0),fg l5,mT o3])) (cy l1 (.mp 2)) (bB r2) (bN r3) [bH l4 (.ptr 0 0 0),fg l5,gk nc l6 2 (ba r7) []]:aA):=ac
def ayA:Ze G N [aa l0,ay r1,.aj 0 r2,aa l3,aa l4,aa l5]=(lr (dP l5) [cy l0 (.mp 2),bB r1,bN r2,bH l3 (.ptr 0 0 0),fg l4,dC l5,eM] (bO (G Su [oB (lK l0 0) l0 [],mC l4,cL l4 2,cL l4 3]) λ_ o7=>lr (cE o7) [cy l0 (.mp 2),bB r1,bN r2,bH l3 (.ptr 0 0 0),fg l4,dC l5,eM] (bO (G Gn [bH l3 (.ptr 0 0 0),mC l4,cy l0 (.mp 2),bB r1,bN r2]) λ_ o8=>eL (cE o8) (lT (cx o8 (.mp 2)) (bU o8) (cb o8) l3 (.ptr 0 0 0) [fg l4,dC l5,eM]) (cx o8 (.mp 2)) (bU o8) (cb o8) [bH l3 (.ptr 0 0 0),fg l4,dC l5])):aA):=ac
def azj:RP G N [aa l0,ay r1,.aj 0 r2,aa l3,aa l4,aa l5]=(ca ((gI l4 0)==1) (bO (G Gk [oB (lK l0 0) l0 [],mC l4,cL l4 2]) λ_ o5=>lr (cE o5) [cy l0 (.mp 2),bB r1,bN r2,bH l3 (.ptr 0 0 0),fg l4,dC l5,eM] (bO (G Gn [bH l3 (.ptr 0 0 0),mC l4,cy l0 (.mp 2),bB r1,bN r2]) λ_ o6=>eL (cE o6) (lT (cx o6 (.mp 2)) (bU o6) (cb o6) l3 (.ptr 0 0 0) [fg l4,dC l5,eM]) (ba ([[mC l4]]:aE)) (cx o6 (.mp 2)) (bU o6) [cb o6,bH l3 (.ptr 0 0 0),fg l4,dC l5])) ((gI l4 0)==2) (bO (Ze G N [cy l0 (.mp 2),bB r1,bN r2,bH l3 (.ptr 0 0 0),fg l4,dC l5]) λq9 o9=>lq (gJ q9) (ba ([[mC (fZ o9)]]:aE)) (kf o9 0 (.mp 2)) [iF o9 1,lL o9 2,sv o9 (.ptr 0 0 0),fg (fZ o9),dC (gC o9 5)] (rJ o9 [cx o9 (.mp 2),bU o9,cb o9,bH (fZ o9) (.ptr 0 0 0),fg (gC o9 5),dC (gC o9 6),cM o9 7])) (eL (cE l5) (eL (nJ l5 1) (lT (cy l0 (.mp 2)) (bB r1) (bN r2) l3 (.ptr 0 0 0) [fg l4,dC l5,eM]) (cM l5 2) (cy l0 (.mp 2)) (bB r1) [bN r2,bH l3 (.ptr 0 0 0),fg l4,dC l5]) (cM l5 2) (cy l0 (.mp 2)) (bB r1) [bN r2,bH l3 (.ptr 0 0 0),fg l4,dC l5]):aA):=ac
def aCu:bG CX EE G N D8 [aa l0,aa l1,aa l2,ay r3,.aj 0 r4]=(bO (ZM G N [iI 1,cy l2 (.mp 2),bB r3,bN r4,fg l1,HB (jW l1) (iM (nF (.ak 5) [])),bQ dL]) λq1 o1=>fS q1 (bO (ZL G N [eU o1,cx o1 (.mp 2),bU o1,cb o1,fg (fZ o1),kh tD (gC o1 5) 4 5 [],pa o1 6]) λq2 o2=>fS q2 (bO (D6 G N [eU o1,kf o2 0 (.mp 2),iF o2 1,lL o2 2,bH l0 (.ptr 0 0 0),fg (lI o2),nm (.ak 6::iM []),eM]) λq4 o4=>fS q4 (bO (RP G N [kf o4 0 (.mp 2),iF o4 1,lL o4 2,sv o4 (.ptr 0 0 0),fg (fZ o4),dC (gC o4 5)]) λuK cO=>fS uK (bO (G Ro [iD cO,bH (fZ cO) (.ptr 1 0 0),jZ cO 1 2 (.mp 3),bU cO,cb cO]) λ_ dQ=>fR (iD cO) (av (cE dQ)) (kf dQ 2 (.mp 2)) (jM dQ) [kY dQ]) (cM cO 7) [eK cO,cx cO (.mp 2),bU cO,cb cO]) (cM o4 7) [eK o4,cx o4 (.mp 2),bU o4,cb o4]) (cM o2 6) [eK o2,cx o2 (.mp 2),bU o2,cb o2]) (cM o1 6) [eK o1,cx o1 (.mp 2),bU o1,cb o1]:aA):=ac
def aFJ:bG CX EE G N aa4 [iI i0,aa l1]=(bO (G wH [iD l1,iI i0]) λ_ o1=>dh (av (cE o1)) (n6 l1):aA):=ac
def ah8:RA G N (n+1) [aw r0,iI i1,iI i2,aa l3]=(mB i2 i1 r0 (bO (G aa4 [eU (bp r0 i2),n6 l3]) λ_ o1=>nj (dP o1) i2 (n6 (bu o1)) [] (RA G N n [ba r0,iI i1,bZ i2,n6 (bu o1)])) (n6 l3) []:aA):=ac
def aim:bG CX EE G N aip [aw r0,aa l1]=(bO (RA G N N (ba r0::pS r0::nF (n6 l1) [])) λq2 o2=>fS q2 (dh (eU o2) (n6 (bu o2))) (iI (-1)) [n6 (bP o2)]:aA):=ac
def aia:bG CX EE G N aid [aw r0,aa l1]=(bO (G aip [ba r0,n6 l1]) λ_ o1=>dh (av (vd o1)) (n6 (bu o1)):aA):=ac
def ak1:bG CX EE G N Nz [aw r0,aw r1]=(bO (G aid [ba r0,di (ba r1)]) λ_ o1=>pC (cE o1):aA):=ac
def aEw:bG CX EE G N aaK [aa l0,aa l1]=(ca (gB l1 3) (ca (gB l0 1) cV (dP l0) (bO (G Nz [cM l0 2,cM l1 4]) λ_ o1=>nC o1) fm) (cE l0) (kc (jP (jF l1) l0 3) (av (jP (gI l0 4) l1 2)) [] fm) fm:aA):=ac
def aCw:bG CX EE G N aam [iI i0,aa l1,aa l2,aa l3,ay r4,.aj 0 r5]=(dG i0 l3 0 (bO (G aaK [dC l1,lG (dD l3 0 i0)]) λ_ o1=>lj (cE o1) (dC l1) (bH l2 (.ptr 2 0 0)) (mV l3 3 (.mp 4)) [bB r4,bN r5]):aA):=ac
def ahW:Mt G N (n+1) [aw r0,iI i1,iI i2,aa l3,aa l4,aa l5,ay r6,.aj 0 r7]=(mB i2 i1 r0 (bO (G aam [eU (bp r0 i2),dC l3,bH l4 (.ptr 2 0 0),mV l5 3 (.mp 4),bB r6,bN r7]) λ_ o1=>nj (dP o1) i2 (dC (bu o1)) [bH (dN o1) (.ptr 2 0 0),jZ o1 3 3 (.mp 4),iF o1 4,lL o1 5] (Mt G N n [ba r0,iI i1,bZ i2,dC (bu o1),bH (dN o1) (.ptr 2 0 0),jZ o1 3 3 (.mp 4),iF o1 4,lL o1 5])) (dC l3) [bH l4 (.ptr 2 0 0),mV l5 3 (.mp 4),bB r6,bN r7]:aA):=ac
def ah9:bG CX EE G N YP [aw r0,aa l1,aa l2,aa l3,ay r4,.aj 0 r5]=(bO (Mt G N N (ba r0::pS r0::dS (dC l1) (bH l2 (.ptr 2 0 0)) [mV l3 3 (.mp 4),bB r4,bN r5])) λq2 o2=>fS q2 (fR (eU o2) (dC (bu o2)) (bH (dN o2) (.ptr 2 0 0)) (jZ o2 3 3 (.mp 4)) [iF o2 4,lL o2 5]) (iI (-1)) [mT o2,pR o2 (.ptr 2 0 0),jZ o2 2 3 (.mp 4),jM o2,kY o2]:aA):=ac
def aw9:bG CX EE G N YJ [aw r0,aa l1,aa l2,aa l3,ay r4,.aj 0 r5]=(bO (G YP [ba r0,dC l1,bH l2 (.ptr 2 0 0),mV l3 3 (.mp 4),bB r4,bN r5]) λ_ o1=>lj (vd o1) (dC (bu o1)) (bH (dN o1) (.ptr 2 0 0)) (jZ o1 3 3 (.mp 4)) [iF o1 4,lL o1 5]:aA):=ac
def aEv:bG CX EE G N Ea [aa l0,aa l1,aw r2,aa l3,ay r4,.aj 0 r5]=(bO (G D9 [bH l0 (.ptr 0 0 0),bK l1,cy l3 (.mp 2),bB r4,bN r5]) λ_ o1=>hZ (gB o1 1) (bO (G YJ [ba r2,mT o1,bH l0 (.ptr 2 0 0),jZ o1 2 3 (.mp 4),jM o1,kY o1]) λ_ o2=>lj (cE o2) (kf o2 3 (.mp 2)) (iF o2 4) (lL o2 5) []) (kf o1 2 (.mp 2)) (jM o1) [kY o1]:aA):=ac
def aiY:bG CX EE G N MJ [aa l0,aa l1,aa l2,ay r3,.aj 0 r4]=(bO (G D9 [bH l0 (.ptr 0 0 0),bK l1,cy l2 (.mp 2),bB r3,bN r4]) λ_ o1=>hZ (gB o1 1) (bO (G wJ [mT o1]) λ_ o2=>oz o2 (kf o1 2 (.mp 2)) (jM o1) (kY o1) []) (kf o1 2 (.mp 2)) (jM o1) [kY o1]:aA):=ac
def ajn:bG CX EE G N AZ [aa l0,aa l1,aa l2,ay r3,.aj 0 r4]=(bO (G D9 [bH l0 (.ptr 0 0 0),bK l1,cy l2 (.mp 2),bB r3,bN r4]) λ_ o1=>hZ (gB o1 1) (lj (cE (bP o1)) (kf o1 2 (.mp 2)) (jM o1) (kY o1) []) (kf o1 2 (.mp 2)) (jM o1) [kY o1]:aA):=ac
def ZD:bG CX EE G N MN [aa l0,aa l1,aa l2,ay r3,.aj 0 r4]=(bO (G D8 [bH l0 (.ptr 0 0 0),fg l1,cy l2 (.mp 2),bB r3,bN r4]) λ_ o1=>hZ (gB o1 1) (hZ ((gI l1 0) != 3) (gT o1 0 (dG (mq (jk o1 0 0)) (dN o1) 0 (lj (nJ (dD (dN o1) 0 (mq (jk o1 0 0))) 3) (kf o1 2 (.mp 2)) (jM o1) (kY o1) []))) (kf o1 2 (.mp 2)) (jM o1) [kY o1]) (kf o1 2 (.mp 2)) (jM o1) [kY o1]:aA):=ac
def aDr:bG CX EE G N Sl [aa l0,iI i1,iI i2,aa l3,ay r4,.aj 0 r5]=(hZ (lR i1) (hZ (ig i1 l3 5) (hZ (lR i2) (dG i1 l3 5 (lj (ig i2 (dD l3 5 i1) 2) (cy l3 (.mp 2)) (bB r4) (bN r5) [])) (cy l3 (.mp 2)) (bB r4) [bN r5]) (cy l3 (.mp 2)) (bB r4) [bN r5]) (cy l3 (.mp 2)) (bB r4) [bN r5]:aA):=ac
def aCx:bG CX EE G N Jn [aa l0,iI i1,iI i2,aa l3,ay r4,.aj 0 r5]=(hZ (lR i1) (hZ (ig i1 l3 4) (hZ (lR i2) (dG i1 l3 4 (lj (ig i2 (dD l3 4 i1) 1) (cy l3 (.mp 2)) (bB r4) (bN r5) [])) (cy l3 (.mp 2)) (bB r4) [bN r5]) (cy l3 (.mp 2)) (bB r4) [bN r5]) (cy l3 (.mp 2)) (bB r4) [bN r5]:aA):=ac
def aI0:bG CX EE G N zV [aa l0]=(bO (G Nj [aC l0,aa zz0]) λ_ o1=>nC o1:aA):=ac
def azH:Zz G N [cu i0,aa l1,ay r2,.aj 0 r3]=(eL (i0==2) (fR eD (cy l1 (.mp 2)) (bB r2) (bN r3) []) (av (i0==3)) (cy l1 (.mp 2)) (bB r2) [bN r3]:aA):=ac
def aAl:ZJ G N [iI i0,aa l1,ay r2,.aj 0 r3,aa l4]=(bO (Zz G N [cu (gI l4 11),aa (sT (aF eC 0 l1) eY),ay r2,.aj 0 (bz (aJ r3))]) λ_ o1=>bif gB o1 0 then bL [iI 1,aa (sT (aF eC 0 (gC o1 1)) eY),ay (gR o1 2),.aj 0 (bz (aJ (gR o1 3))),aC l4]else bif gI l4 11==0 then a8 (dJ 0 (aU (ln (gR l4 17)- 2))&&dJ (aU (ln (gR l4 17)- 2)) (ln (gR l4 17))&&dJ (ln (gR l4 17)) (ln (gR l4 17))&&dJ (ln (gR l4 17)) (ln (gR l4 17)))<|a8 (cH 0 (ln ((gR l4 17).drop ((aU (ln (gR l4 17)- 2)).toNat))))<|bO (G zV [aC (gA ((gR l4 17).drop ((aU (ln (gR l4 17)- 2)).toNat)) 0)]) λ_ o2=>bif !(gB o2 0)then oo [aT,aa (sT (aF eC 0 (gC o1 1)) eY),ay (gR o1 2),.aj 0 (bz (aJ (gR o1 3))),aC l4]else a8 (cH 1 (ln ((gR l4 17).drop ((aU (ln (gR l4 17)- 2)).toNat))))<|bO (G zV [aC (gA ((gR l4 17).drop ((aU (ln (gR l4 17)- 2)).toNat)) 1)]) λ_ o3=>bif !(gB o3 0)then oo [aT,aa (sT (aF eC 0 (gC o1 1)) eY),ay (gR o1 2),.aj 0 (bz (aJ (gR o1 3))),aC l4]else bL [iI i0,aa (sT (aF eC 0 (gC o1 1)) eY),ay (gR o1 2),.aj 0 (bz (aJ (gR o1 3))),aC l4]else bif gI l4 11==1 then bL [iI i0,aa (sT (aF eC 0 (gC o1 1)) eY),ay (gR o1 2),.aj 0 (bz (aJ (gR o1 3))),aC l4]else oo [aT,aa (sT (aF eC 0 (gC o1 1)) eY),ay (gR o1 2),.aj 0 (bz (aJ (gR o1 3))),aC l4]:aA):=ac
def aCs:bG CX EE G N Gj [aa l0,aa l1,aa l2,ay r3,.aj 0 r4]=(bO (ZJ G N (dS (cy l2 (.mp 2)) (bB r3) [bN r4,aC l1])) λq4 o4=>iL q4 (hZ ((ln (gR (fZ o4) 12))==(gI o4 0)) (lq ((gI o4 0)==0) eD (cx o4 (.mp 2)) [bU o4,cb o4] (gT (fZ o4) 12 (bO (G AZ [bH l0 (.ptr 0 0 0),nZ (fZ o4) 12 0,cx o4 (.mp 2),bU o4,cb o4]) λ_ o5=>oz o5 (cx o5 (.mp 2)) (bU o5) (cb o5) []))) (cx o4 (.mp 2)) (bU o4) [cb o4]) o4 [cx o4 (.mp 2),bU o4,cb o4]:aA):=ac
def aI1:bG CX EE G N NX [aa l0,aa l1]=(ca (gB l0 3) (gU (gB l0 3) (gU (gB l1 3) (bO (G Nz [cM l0 4,cM l1 4]) λ_ o1=>nC o1))) (gB l1 3) (gU (gB l0 3) (gU (gB l1 3) (bO (G Nz [cM l0 4,cM l1 4]) λ_ o2=>nC o2))) (kc (jP (jF l1) l0 1) (av (jP (gI l0 2) l1 2)) [] fm):aA):=ac
end
end Go.Proofs.B

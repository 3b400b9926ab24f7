/-
  Equations. Printed by a program.
-/
import Derived.Test.YtomkobcipaligaaGreatDoorW2
import Derived.Test.YtomkobcipaligaaGreatDoorChecked
import Derived.KernelRfl
import Derived.Sort.Grow
import Derived.Shelf.Sort.Plain
set_option linter.all false
set_option linter.deprecated false
set_option maxHeartbeats 4000000
namespace Go.az
def ajo{p:Prop}(h:p:=by
 cases hq:Nat.beq o.1 i with
 |false=>rfl
 |true=>have:=dE hq;omega):p:=h
def aiY{p:Prop}(h:p:=by
 intro l o ho;unfold J1 at ho;rw [hlp,hc]at ho;exact hp l o ho):p:=h
def aiC{p:Prop}(h:p:=by
 obtain⟨h1,h2⟩:=agY hX h;exact⟨0,x,rfl,aCW he,h1,h2⟩):p:=h
def aiA{p:Prop}(h:p:=by
 obtain⟨h1,h2⟩:=agY hX h;exact⟨0,x,rfl,h1,h2⟩):p:=h
def aiz{p:Prop}(h:p:=by
 rw [hb]at hr;have:=dE hb;subst this;exact he eM hr):p:=h
def aix{p:Prop}(h:p:=by
 split at h
 ·rename_i w t';exact⟨w,by rw [dE h]⟩
 ·cases h):p:=h
end Go.az
namespace Go.az
def cg:=@cond_true
def mZ:=@Bool.false_and
end Go.az
namespace Go.az
open Go
noncomputable section
variable {X:Cx} {R:Type}
variable{x:AV}{c root:Code}{fn:Func}{f:FuncId}{σ:ax}{m p:Nat}{r:R}{s:Sh}{st:St}{t:TypeId}{args:bp}{M:aW}
def ez.rT:ez->Bool| .cell _| .vw _| .any =>false|_=>true
def Sh.rT:Sh->Bool| .one s=>s.rT|_=>false
def fu.rT:fu->Bool| .gone =>true|_=>false
def cO:List ez->Nat->bp->bp
 | [],_,_=>[]
 |s::ss,i,xs=>yE s (xs.getD i .top)::cO ss (i+1) xs
def Av:Sh->AV->AV
 | .one s,x=>yE s x
 | .agg ss,x=> .agg (cO ss 0 x.cells)
 | .du f ss,x=> .du f [] (cO ss 0 x.fG)
def KA:List (Nat×Sh)->Nat->bp->cV
 | [],_,_=>[]
 |e::es,i,l=>match e.2.rT with|true=>(e.1,Av e.2 .top)::KA es i l|false=>(e.1,Av e.2 (l.getD i .top))::KA es (i+1) l
def JW:List (Nat×Sh)->Nat->bp->cV
 | [],_,_=>[]
 |e::es,i,l=>(e.1,Av e.2 (l.getD i .top))::JW es (i+1) l
def au(rows:aZ):List (AV×AV):=rows.map λr=>(r.getD 0 .top,r.getD 1 .top)
def ay(es:List (AV×AV)):aZ:=es.map λe=>[e.1,e.2]
def uf:ed->AV
 | .row t xs=> .ab t xs
 | .eN t xs=> .ab t xs
 | .var _ cs=> .agg cs
 | .map _ _ _ es=> .ab 0 (ay es)
 | .loop _ env _ _=> .agg (env.map (·.2))
 |_=> .top
def jK:fu->AV->ed
 | .row t,x=> .row t x.rows
 | .eN t,x=> .eN t x.rows
 | .var ks ss,x=> .var ks (cO ss 0 x.cells)
 | .arr ks,x=> .var ks x.cells
 | .mp k ag ks,x=> .map k ag ks (au x.rows)
 | .loop s es p,x=> .loop s (JW es 0 x.cells) false p
 | .gone,_=> .dead
def Kz:List fu->Nat->bp->aW
 | [],_,_=>[]
 |s::ss,i,l=>match s.rT with|true=>jK s .top ::Kz ss i l|false=>jK s (l.getD i .top)::Kz ss (i+1) l
def nE:List (Nat×Sh)->Nat
 | []=>0
 |e::es=>match e.2.rT with|true=>nE es|false=>nE es+1
def unpack(σ:ax)(l:bp):St:=⟨KA σ.env 0 l,Kz σ.mem (nE σ.env) l,[],.sM⟩
def xX(lk:Nat->AV):List (Nat×Sh)->bp
 | []=>[]
 |e::es=>match e.2.rT with|true=>xX lk es|false=>lk e.1::xX lk es
def Ch:List fu->aW->bp
 |s::ss,b::M=>match s.rT with|true=>Ch ss M|false=>uf b::Ch ss M
 |_,_=>[]
def pack(σ:ax)(lk:Nat->AV)(M:aW):bp:=xX lk σ.env++Ch σ.mem M
def ahb:∀{ss:List ez} {ys pre:bp},wR ss ys=true->cO ss pre.length (pre++ys)=ys
 | [],[],pre,_=>rfl
 |s::ss,y::ys,pre,h=>by
  simp only [wR,bS]at h;have ih:=ahb (pre:=pre++[y]) h.2;rw [iJ,fy]at ih;simp only [cO];rw [show(pre++y::ys).getD pre.length .top =y by simp [List.getD]];rw [O8 h.1];exact uJ (y:: ·) ih
 | [],_::_,_,h=>Pw
 |_::_,[],_,h=>Pw
def XB{ss:List ez}{ys:bp}(h:wR ss ys=true):cO ss 0 ys=ys:=ahb (pre:=[]) h
def XS(h:GD s x=true):Av s x=x:=by
 unfold GD at h;split at h
 ·exact O8 h
 ·simp only [Av,AV.cells];rw [XB h]
 ·rw [bS]at h;simp only [Av,AV.fG];rw [XB h.2,dE h.1]
 ·exact bh
def aB2{s:ez}(h:s.rT=true)(x y:AV):yE s x=yE s y:=by cases s<;>first|rfl|cases h
def aCa(h:s.rT=true)(x y:AV):Av s x=Av s y:=by
 cases s with
 |one s=>exact aB2 h x y
 |agg _=>exact bh
 |du _ _=>exact bh
def XU{lk:Nat->AV}:∀{es:List (Nat×Sh)} {pre post:bp},GG lk es=true->KA es pre.length (pre++(xX lk es++post))=C6 lk es
 | [],_,_,_=>rfl
 |e::es,pre,post,h=>by
  simp only [GG,bS]at h;simp only [KA,xX,C6];rw [XO h.1];cases hc:e.2.rT with
  |true=>
   simp only;rw [aCa hc .top (lk e.1),XS h.1,XU h.2]
  |false=>
   simp only;have ih:=XU (pre:=pre++[lk e.1]) (post:=post) h.2;rw [iJ,fy]at ih;rw [show(pre++(lk e.1::xX lk es++post)).getD pre.length .top =lk e.1 by simp [List.getD],XS h.1];exact uJ ((e.1,lk e.1):: ·) ih
def agw:∀{es:List (Nat×Sh)} {env:cV} {pre:bp},Ag es env=true->JW es pre.length (pre++env.map (·.2))=env
 | [],[],_,_=>rfl
 |e::es,x::env,pre,h=>by
  simp only [Ag,bS]at h;have ih:=agw (pre:=pre++[x.2]) h.2;rw [iJ,fy]at ih;simp only [JW,nf];rw [show(pre++x.2::env.map (·.2)).getD pre.length .top =x.2 by simp [List.getD],XS h.1.2,<-dE h.1.1];exact uJ (x:: ·) ih
 | [],_::_,_,h=>Pv
 |_::_,[],_,h=>Pv
def aA0{es:List (Nat×Sh)}{env:cV}(h:Ag es env=true):JW es 0 (env.map (·.2))=env:=agw (pre:=[]) h
def rZ(es:List (AV×AV)):au (ay es)=es:=by
 unfold au ay;rw [Oz]
 induction es with
 |nil=>rfl
 |cons e es ih=>simp only [nf,ih];rfl
def ahc{s:fu}{b:ed}(h:okB s b=true):jK s (uf b)=b:=by
 unfold okB at h;split at h
 ·simp only [jK,uf,AV.rows];rw [eq_of_beq h]
 ·simp only [jK,uf,AV.rows];rw [eq_of_beq h]
 ·rw [bS]at h;simp only [jK,uf,AV.cells];rw [XB h.2,eq_of_beq h.1]
 ·simp only [jK,uf,AV.cells];rw [eq_of_beq h]
 ·rw [bS,bS]at h;simp only [jK,uf,AV.rows];rw [rZ,eq_of_beq h.1.1,eq_of_beq h.1.2,eq_of_beq h.2]
 ·rw [bS,bS]at h;simp only [jK,uf,AV.cells];rw [aA0 h.1.2,dE h.1.1,ahk h.2]
 ·rfl
 ·exact bh
def aCb{s:fu}(h:s.rT=true)(x y:AV):jK s x=jK s y:=by cases s<;>first|rfl|cases h
def XT:∀{ss:List fu} {M:aW} {pre:bp},Dk ss M=true->Kz ss pre.length (pre++Ch ss M)=M
 | [],[],_,_=>rfl
 |s::ss,b::M,pre,h=>by
  simp only [Dk,bS]at h;simp only [Kz,Ch];cases hc:s.rT with
  |true=>
   simp only;rw [aCb hc .top (uf b),ahc h.1,XT h.2]
  |false=>
   simp only;have ih:=XT (pre:=pre++[uf b]) h.2;rw [iJ,fy]at ih;rw [show(pre++uf b::Ch ss M).getD pre.length .top =uf b by simp [List.getD],ahc h.1];exact uJ (b:: ·) ih
 | [],_::_,_,h=>Pq
 |_::_,[],_,h=>Pq
def Y9{lk:Nat->AV}:∀(es:List (Nat×Sh)),nE es=(xX lk es).length
 | []=>rfl
 |e::es=>by
  simp only [nE,xX];cases e.2.rT with
  |true=>exact Y9 es
  |false=>simp only [nc,Y9 (lk:=lk) es]
def FK(σ:ax)(bN:dI)(st:St):bp:=pack σ (λt=>gw (idx bN) 4 (look st.env t)) (pX st.mem bN)
def Nl{bN:dI}(h:wc σ bN st=true):unpack σ (FK σ bN st)=FC σ bN st:=by
 unfold wc at h;rw [bS,bS]at h;unfold unpack FK pack FC aob;have h1:=XU (pre:=[]) (post:=Ch σ.mem (pX st.mem bN)) h.1.2;have h2:=XT (pre:=xX (λt=>gw (idx bN) 4 (look st.env t)) σ.env) h.2;rw [<-Y9]at h2;rw [h2,XP h.2];exact uJ (λe=>(⟨e,_,[],.sM⟩:St)) h1
structure Wy where
 cv:List Cv
 bN:St->dI
variable{w:Wy}
abbrev UO:=Nat×bp
variable{L:kc UO}{o:UO}{g:bp->Option UO}
section
variable {O:Type}
def DH(X:Cx)(m:Nat)(w:Wy)(σ:ax)(st:St)(f:bp->Option O):Option O:=
 jU X w.cv st λcY=>aP (wc σ (w.bN cY) cY&&pre m (w.bN cY)&&cY.iF.isEmpty) (f (FK σ (w.bN cY) cY))
def afn(hX:X.Ok){f:bp->Option O}{o:O}(h:DH X m w σ st f=some o):
 ∃l,f l=some o∧∀{nt:Nt} {rdc:Cy} {w0:World} {S:Sc} {F:bT} {ρ:bY} {a:Act} {w:World},Inv X w0 S F ρ st.mem w->gg X nt st rdc F ρ a w->
  ∃F' ρ',Inv X w0 S F' ρ' (unpack σ l).mem w∧gg X nt (unpack σ l) rdc F' ρ' a w∧qz m F F' ρ ρ' w w:=by
 obtain⟨cY,h,e1,e2,hr⟩:=tC hX w.cv h;replace h:=di h;obtain⟨h1,h⟩:=h;rw [bS,bS]at h1;obtain⟨⟨h1,h2⟩,h3⟩:=h1;refine⟨_,h,λ{nt rdc w0 S F ρ a w'} hI hs=> ?_⟩;obtain⟨F1,ρ1,i1,s1,g1⟩:=hr (nt:=nt) (rdc:=rdc) (a:=a) hI hs;obtain⟨bB,iy,_⟩:=NM h1;rw [Nl h1];refine⟨F1,sub oM ρ1 (w.bN cY),?_,⟨WT hX h1 i1 s1.env,s1.size,?_,s1.rd,s1.kept⟩,?_⟩
 ·have:=(i1.alz hX bB oM).1;rw [<-iy]at this;exact this
 ·have:=s1.defs;have hd:cY.iF=[]:=by simpa using h3
  rw [hd]at this;exact this
 ·refine(g1.toF m).trans ⟨λ_ h=>h,λid hd hm hh=> ?_,λ_ _=>rfl⟩;have:=aCl h2 hm;rw [OZ this (eU.1 hh).1];exact hh
end
structure Ow where
 e:Ex
 w:Wy
 σ:ax
variable{xs:List Ow}
def Rr:Ex->Ex->Bool
 | .normal,.normal =>true
 | .ret,.ret =>true
 | .exit i,.exit j=>Nat.beq i j
 |_,_=>false
def aCW{a b:Ex}(h:Rr a b=true):a=b:=by
 cases a<;>cases b<;>simp only [Rr,lg]at h
 ·rfl
 ·rw [dE h]
 ·rfl
def fits(X:Cx)(w:Wy)(σ:ax)(st:St):Bool:=match jU X w.cv st (λcY=>some (wc σ (w.bN cY) cY))with|some b=>b|none=>false
def aoc(e:Ex):List Ow->Bool
 | []=>false
 |x::xs=>match Rr x.e e with|true=>true|false=>aoc e xs
def zg(X:Cx)(m:Nat):List Ow->Nat->Ex->St->Option UO
 | [],_,_,_=>none
 |x::xs,i,e,st=>
  match Rr x.e e with
  |false=>zg X m xs (i+1) e st
  |true=>
   match aoc e xs with
   |false=>DH X m x.w x.σ st λl=>some (i,l)
   |true=>match fits X x.w x.σ st with|true=>DH X m x.w x.σ st λl=>some (i,l)|false=>zg X m xs (i+1) e st
def QH(X:Cx)(m:Nat)(st:St)(σ:ax)(o:UO):Prop:=
 ∀{nt:Nt} {rdc:Cy} {w0:World} {S:Sc} {F:bT} {ρ:bY} {a:Act} {w:World},Inv X w0 S F ρ st.mem w->gg X nt st rdc F ρ a w->
  ∃F' ρ',Inv X w0 S F' ρ' (unpack σ o.2).mem w∧gg X nt (unpack σ o.2) rdc F' ρ' a w∧qz m F F' ρ ρ' w w
def agY(hX:X.Ok){i:Nat}(h:DH X m w σ st (λl=>some (i,l))=some o):o.1=i∧QH X m st σ o:=by
 obtain⟨l,h,hr⟩:=afn hX h;injection h with h;subst h;exact⟨rfl,hr⟩
def WN(hX:X.Ok){m:Nat}{e:Ex}{st:St}{o:UO}:∀{xs:List Ow} {i:Nat},zg X m xs i e st=some o->∃j x,xs[j]?=some x∧x.e=e∧o.1=i+j∧QH X m st x.σ o
 | [],i,h=>bh
 |x::xs,i,h=>by
  have next:zg X m xs (i+1) e st=some o->∃j y,(x::xs)[j]?=some y∧y.e=e∧o.1=i+j∧QH X m st y.σ o:=by
   intro h;obtain⟨j,y,h1,h2,h3,h4⟩:=WN hX h;exact⟨j+1,y,h1,h2,by omega,h4⟩
  simp only [zg]at h;split at h
  ·exact next h
  ·rename_i he;split at h
   ·exact aiC
   ·split at h
    ·exact aiC
    ·exact next h
def Lu:List Ow->Nat->UO->(Ex->St->Option R)->Option R
 | [],_,_,_=>none
 |x::xs,i,o,k=>
  match xs with
  | []=>k x.e (unpack x.σ o.2)
  |_::_=>match Nat.beq o.1 i with|true=>k x.e (unpack x.σ o.2)|false=>Lu xs (i+1) o k
def ajU{o:UO}{k:Ex->St->Option R}:∀{xs:List Ow} {i j:Nat} {x:Ow},xs[j]?=some x->o.1=i+j->Lu xs i o k=k x.e (unpack x.σ o.2)
 | [],i,j,x,h,_=>gM
 |y::ys,i,0,x,h,ho=>by
  simp at h;subst h;cases ys with
  |nil=>rfl
  |cons z zs=>simp only [Lu];rw [ho];simp
 |y::ys,i,j+1,x,h,ho=>by
  cases ys with
  |nil=>exact gM
  |cons z zs=>
   have hb:Nat.beq o.1 i=false:=ajo;rw [Lu];simp only [hb];exact ajU (lJ) (by omega)
def aES(X:Cx)(m:Nat)(bk:Wy)(σ:ax)(xs:List Ow)(LF:bp->Option UO)(e:Ex)(st:St):Option UO:=
 match e with
 | .normal =>DH X m bk σ st LF
 | .exit i=>zg X m xs 0 (.exit i) st
 | .ret =>zg X m xs 0 .ret st
def FO(X:Cx)(L:kc UO)(c:Code)(p m:Nat)(bk:Wy)(σ:ax)(xs:List Ow):Nat->bp->Option UO
 |0,_=>none
 |n+1,l=>nQ X L c (2*p) (unpack σ l) (aES X m bk σ xs (FO X L c p m bk σ xs n))
def aaM(X:Cx)(L:kc UO)(c:Code)(p m:Nat)(σ:ax)(xs:List Ow)(l:bp):Option UO:=nQ X L c p (unpack σ l) (zg X m xs 0)
def aaR(X:Cx)(nt:Nt)(c:Code)(m:Nat)(σ:ax)(xs:List Ow)(f:bp->Option UO):Prop:=
 ∀l o,f l=some o->∃j x,xs[j]?=some x∧o.1=j∧aFt X nt c m (unpack σ l) (Ex.nD x.e) (unpack x.σ o.2)
def aC1(hX:X.Ok)(hL:L.Ok X root)(eM:At root p c):aaR X L.gY.nt c m σ xs (aaM X L c p m σ xs):=by
 intro l o h;obtain⟨e,ke,dB,hk⟩:=tE hX hL c eM h;obtain⟨j,x,h1,h2,h3,h4⟩:=WN hX hk;refine⟨j,x,h1,by omega,λ{rdc n w0 S F ρ a w Q} hI hs hq=> ?_⟩;refine dB hI hs λa' w' F' ρ' dG dm hg=> ?_;obtain⟨F2,ρ2,i2,s2,g2⟩:=h4 dG dm;rw [<-h2];exact hq a' w' F2 ρ2 i2 s2 ((hg.toF m).trans g2)
def ad8(hX:X.Ok){root c:Code}{p m:Nat}{L:kc UO}(hL:L.Ok X root)(eM:At root p (.loop c)){bk:Wy}{σ:ax}{xs:List Ow}:
 ∀(fuel:Nat) {l:bp} {o:UO},FO X L c p m bk σ xs fuel l=some o->∃j x,xs[j]?=some x∧o.1=j∧∀{rdc:Cy} {n:Nat} {w0:World} {S:Sc} {F:bT} {ρ:bY} {a:Act} {w:World} {Q:Exit->Act->World->Prop},
  Inv X w0 S F ρ (unpack σ l).mem w->gg X L.gY.nt (unpack σ l) rdc F ρ a w->
  (∀a' w' F' ρ',Inv X w0 S F' ρ' (unpack x.σ o.2).mem w'->gg X L.gY.nt (unpack x.σ o.2) rdc F' ρ' a' w'->qz m F F' ρ ρ' w w'->Q (Ex.nD x.e) a' w')->Code.roundsIn (kY rdc.r) n X.P c Q fuel a w
 |0,l,o,h=>bh
 |fuel+1,l,o,h=>by
  simp only [FO]at h;obtain⟨e,bl,dB,h⟩:=tE hX hL c (eM.down false λl hl=>wx) h;have out:e≠ .normal ->zg X m xs 0 e bl=some o->∃j x,xs[j]?=some x∧o.1=j∧∀{rdc:Cy} {n:Nat} {w0:World} {S:Sc} {F:bT} {ρ:bY} {a:Act} {w:World} {Q:Exit->Act->World->Prop},
   Inv X w0 S F ρ (unpack σ l).mem w->gg X L.gY.nt (unpack σ l) rdc F ρ a w->
   (∀a' w' F' ρ',Inv X w0 S F' ρ' (unpack x.σ o.2).mem w'->gg X L.gY.nt (unpack x.σ o.2) rdc F' ρ' a' w'->qz m F F' ρ ρ' w w'->Q (Ex.nD x.e) a' w')->Code.roundsIn (kY rdc.r) n X.P c Q (fuel+1) a w:=by
   intro eD hg;obtain⟨j,x,h1,h2,h3,h4⟩:=WN hX hg;refine⟨j,x,h1,by omega,λ{rdc n w0 S F ρ a w Q} hI hs hq=> ?_⟩;rw [Oy];refine dB hI hs λa' w' F' ρ' dG dm hg=> ?_;obtain⟨F2,ρ2,i2,s2,g2⟩:=h4 dG dm;have:=hq a' w' F2 ρ2 i2 s2 ((hg.toF m).trans g2);rw [h2]at this;cases e with
   |normal=>exact absurd rfl eD
   |exit i=>exact this
   |ret=>exact this
  cases e with
  |normal=>
   obtain⟨l',h,hr⟩:=afn hX h;obtain⟨j,x,h1,h2,h3⟩:=ad8 hX hL eM fuel h;refine⟨j,x,h1,h2,λ{rdc n w0 S F ρ a w Q} hI hs hq=> ?_⟩;rw [Oy];refine dB hI hs λa' w' F' ρ' dG dm hg=> ?_;obtain⟨F2,ρ2,i2,s2,g2⟩:=hr dG dm;exact h3 i2 s2 λDN p8 tu sw CY CU Kd=>hq DN p8 tu sw CY CU ((hg.toF m).trans (g2.trans Kd))
  |exit i=>exact out (by simp) h
  |ret=>exact out (by simp) h
def aBv(hX:X.Ok)(hL:L.Ok X root)(eM:At root p (.loop c)){bk:Wy}{fuel:Nat}:aaR X L.gY.nt (.loop c) m σ xs (FO X L c p m bk σ xs fuel):=by
 intro l o h;obtain⟨j,x,h1,h2,h3⟩:=ad8 hX hL eM fuel h;exact⟨j,x,h1,h2,λ{rdc n w0 S F ρ a w Q} hI hs hq=>Xg fuel (h3 hI hs hq)⟩
def QF(X:Cx)(m mask:Nat)(w:Wy)(σ:ax)(xs:List Ow)(nt:Nt)(f:bp->Option UO)(st:St)(k:Ex->St->Option R):Option R:=
 jU X w.cv st λcY=>
  aP (wc σ (w.bN cY) cY&&Nat.beq (nt.mask&&&mask) mask&&cY.iF.isEmpty)
   (match f (FK σ (w.bN cY) cY)with
    |none=>none
    |some o=>Lu xs 0 o λe so=>aP (Ff m cY.mem (w.bN cY) so.mem) (k e (P4 m mask (w.bN cY) cY so)))
def aeK(hX:X.Ok){mask:Nat}{nt:Nt}{f:bp->Option UO}(hf:aaR X ⟨nt.n,mask⟩ c m σ xs f){k:Ex->St->Option R}
 (h:QF X m mask w σ xs nt f st k=some r):∃e bl,pS X nt c st (Ex.nD e) bl∧k e bl=some r:=by
 unfold QF at h;obtain⟨cY,h,e1,e2,kr⟩:=tC hX w.cv h;replace h:=di h;obtain⟨h1,h⟩:=h;rw [bS,bS]at h1;obtain⟨⟨h1,Zq⟩,Al⟩:=h1;have Al:cY.iF=[]:=by simpa using Al
 have Zq:nt.mask&&&mask=mask:=dE Zq;split at h
 ·cases h
 ·rename_i o ho;obtain⟨j,x,hx,hj,dB⟩:=hf _ _ ho;rw [ajU hx (by omega)]at h;replace h:=di h;obtain⟨hm,h⟩:=h;refine⟨_,_,λ{rdc n w0 S F ρ a w' Q} hI hs hq=> ?_,h⟩;obtain⟨F1,ρ1,i1,s1,g1⟩:=kr (nt:=nt) (rdc:=rdc) (a:=a) hI hs;obtain⟨bB,iy,_⟩:=NM h1;have Aj:=i1.sub hX bB oM;refine dB (rdc:=⟨rdc.r,rdc.db,λt=>a.tmps.getD t undef⟩) (n:=n) (w0:=w') (S:=hand ρ1 cY.mem (w.bN cY) F1) (F:=F1) (ρ:=sub oM ρ1 (w.bN cY)) (a:=a) (w:=w')
   (by rw [Nl h1,iy];exact Aj)
   ⟨by rw [Nl h1];exact WT hX h1 i1 s1.env,s1.size,by have:=s1.defs;rw [Al]at this;exact this,s1.rd,λ_ _=>rfl⟩ ?_
  intro a' p8 F' ρ' dG dm jo;obtain⟨i3,g3,r3⟩:=i1.merge hX bB oM dG jo hm;refine hq a' p8 F' _ i3 ⟨λt=> ?_,dm.size,?_,dm.rd,λt ht=> ?_⟩ (g1.trans g3)
  ·rcases aeu (CF (nJ m (w.bN cY) cY.mem.length) 4 (unpack x.σ o.2).env) (cY.env.filter (λp=> !mask.testBit p.1)) t with e|e
   ·simp only [P4];rw [e];exact(dm.env.gw hX r3 4) t
   ·simp only [P4];rw [e];rcases afk mask cY.env t with e'|⟨hb,e'⟩
    ·rw [e'];exact .top _
    ·rw [e'];have hk:=dm.kept t hb;rw [hk];exact(s1.env t).grow g3
  ·have hd:=dm.defs;simp only [P4];rw [Al];exact hd
  ·have hb:mask.testBit t=false:=by
    rw [<-Zq,Nat.testBit_and,ht,mZ]
   have hk:=dm.kept t hb;rw [hk];exact s1.kept t ht
def dec:Nat->Nat->List Bool
 |0,_=>[]
 |n+1,p=>match Nat.ble p 1 with|true=>[]|false=>Nat.beq (p %2) 1::dec n (p/2)
def ag1:∀l:List Bool,l.length<enc l
 | []=>by simp [enc]
 |b::l=>by have:=ag1 l;simp only [enc,nc];cases b<;>simp<;>omega
def ag6:∀(l:List Bool) (n:Nat),l.length<=n->dec n (enc l)=l
 | [],0,_=>rfl
 | [],n+1,_=>rfl
 |b::l,0,h=>gM
 |b::l,n+1,h=>by
  have h1:=O6 l;have h2:Nat.ble (enc (b::l)) 1=false:=by
   cases hq:Nat.ble (enc (b::l)) 1 with
   |false=>rfl
   |true=>have:=tL hq;simp only [enc]at this;omega
  simp only [dec,h2];have ih:=ag6 l n (lJ);have e1:enc (b::l)/2=enc l:=by simp only [enc];cases b<;>simp<;>omega
  have e2:Nat.beq (enc (b::l) %2) 1=b:=by
   cases b
   ·have:enc (false::l) %2=0:=by simp only [enc];simp
    exact eX
   ·have:enc (true::l) %2=1:=by simp only [enc,cg];omega
    exact eX
  rw [e1,e2,ih]
def xg(root:Code)(p:Nat):Option Code:=wA root (dec p p)
def YZ(h:At root p c):xg root p=some c:=by
 obtain⟨l,h1,h2⟩:=h;subst h1;unfold xg;rw [ag6 l _ (Nat.le_of_lt (ag1 l)),h2]
def Sz(root:Code)(p:Nat):Code:=match xg root p with|some c=>c|none=> .skip
def DM(root:Code)(p:Nat):Code:=match xg root p with|some (.loop c)=>c|_=> .skip
def gOf(root:Code)(p:Nat):Operand:=match xg root p with|some (.rangeFunc g _ _ _)=>g|_=> .func 0
def Q3(root:Code)(p:Nat):Bool:=match xg root p with|some (.rangeFunc _ _ _ _)=>Nat.beq (enc (dec p p)) p|_=>false
def Y4(nt:Nat)(root:Code)(p:Nat):Site:=match xg root p with|some (.rangeFunc _ ps a b)=>⟨nt,ps,a,b⟩|_=>⟨0,#[],.skip,.skip⟩
structure Pc where
 p:Nat
 lp:Bool
 m:Nat
 mask:Nat
 σ:ax
 en:Wy
 bk:Wy
 xs:List Ow
inductive k8 where
 |nil
 |pc(q:Pc)(eR:k8)
 |rg(p s:Nat)(sE:dI)(f:FuncId)(fn:Func)(ui eR:k8)
 |ur(p n:Nat)(eR:k8)
abbrev YT(R:Type):=Nat->bp->aW->(AV->aW->Option R)->Option R
def full(n:Nat):Nat:=2^n- 1
def nn(fn:Func):Code:=fn.body.getD .skip
def RC(p:Nat)(e:oH R)(L:kc R):kc R:={L with loop:=λq=>match Nat.beq q p with|true=>e|false=>L.loop q}
def Ks(p:Nat)(e:oH R)(L:kc R):kc R:={L with range:=λq=>match Nat.beq q p with|true=>e|false=>L.range q}
def Kt(p:Nat)(e:oH R)(L:kc R):kc R:={L with cut:=λq=>match Nat.beq q p with|true=>some e|false=>L.cut q}
def JM(s:Nat)(e y:YT R):YT R:=λid args M k=>
 match gm M id with
 |some (.loop s' _ _ _)=>(match Nat.beq s' s with|true=>e id args M k|false=>y id args M k)
 |_=>none
def ag7{root:Code}{p:Nat}{e:oH R}{L:kc R}(h:L.Ok X root)(he:aj0 X root L.gY.nt (p,e)):(RC p e L).Ok X root where
 gY:=h.gY
 range:=h.range
 cut:=h.cut
 loop:=λ{q c st k r} eM hr=>by
  simp only [RC]at hr;cases hb:Nat.beq q p with
  |true=>
   exact aiz
  |false=>rw [hb]at hr;exact h.loop eM hr
def aC6{root:Code}{p:Nat}{e:oH R}{L:kc R}(h:L.Ok X root)(he:ag8 X root L.gY.nt (p,e)):(Ks p e L).Ok X root where
 gY:=h.gY
 loop:=h.loop
 cut:=h.cut
 range:=λ{q g ps a b st k r} eM hr=>by
  simp only [Ks]at hr;cases hb:Nat.beq q p with
  |true=>
   exact aiz
  |false=>rw [hb]at hr;exact h.range eM hr
def aC7{root:Code}{p:Nat}{e:oH R}{L:kc R}(h:L.Ok X root)(he:alj X root L.gY.nt (p,e)):(Kt p e L).Ok X root where
 gY:=h.gY
 loop:=h.loop
 range:=h.range
 cut:=λ{q c f st k r} eM hf hr=>by
  simp only [Kt]at hf;split at hf
  ·rename_i hb;have:=dE hb;subst this;injection hf with hf;subst hf;exact he eM hr
  ·exact h.cut eM hf hr
def aB0{s:Nat}{e y:YT R}(he:DO X e)(hy:DO X y):DO X (JM s e y):=by
 intro id args M k r h;unfold JM at h;rw [eY]at h;split at h
 ·split at h
  ·exact he h
  ·exact hy h
 ·exact bh
def J1(X:Cx)(root:Code)(q:Pc)(L:kc UO)(N:Nat)(l:bp):Option UO:=
 match q.lp with
 |true=>FO X L (DM root q.p) q.p q.m q.bk q.σ q.xs N l
 |false=>aaM X L (Sz root q.p) q.p q.m q.σ q.xs l
def nj(X:Cx)(N:Nat)(cs:(R:Type)->List (CE R)):Func->((R:Type)->YT R)->k8->Nat->(R:Type)->kc R
 |fn,y,.nil,mask,R=>akh ⟨fn.ntmps,mask⟩ (cs R) (y R) [] [] []
 |fn,y,.pc q eR,mask,R=>
  match q.lp with
  |true=>RC q.p (QF X q.m q.mask q.en q.σ q.xs ⟨fn.ntmps,mask⟩ (J1 X (nn fn) q (nj X N cs fn y eR q.mask UO) N)) (nj X N cs fn y eR mask R)
  |false=>Kt q.p (QF X q.m q.mask q.en q.σ q.xs ⟨fn.ntmps,mask⟩ (J1 X (nn fn) q (nj X N cs fn y eR q.mask UO) N)) (nj X N cs fn y eR mask R)
 |fn,y,.ur p n eR,mask,R=>RC p (IV X (nj X N cs fn y eR mask R) (DM (nn fn) p) (2*p) n) (nj X N cs fn y eR mask R)
 |fn,y,.rg p s sE f gn ui eR,mask,R=>
  Ks p (O5 X (X1 ⟨fn.ntmps,mask⟩ (inl f (yD X (nj X N cs gn (λR=>JM s (Fh X (nj X N cs fn y eR (full fn.ntmps) R) s p) (y R)) ui (full gn.ntmps) R) (nn gn) gn.results.toList))) s sE (gOf (nn fn) p)) (nj X N cs fn y eR mask R)
structure Enters(X:Cx)(f:FuncId)(fn:Func):Prop where
 at_:X.P.funcs[f]?=some fn
 body:fn.body.isSome=true
 name:(fn.name== "runtime.NumGoroutine")=false
def Enters.cd(h:Enters X f fn):fn.body=some (nn fn):=by
 have:=h.body;unfold nn;cases hb:fn.body with
 |none=>rw [hb]at this;cases this
 |some c=>rfl
def Enters.call(h:Enters X f fn)(vs:Array Value)(w:World):(callFunc f vs).run X.P w= .ok (.enter f vs) w:=enters h.at_ h.cd h.name vs w
def Cq(X:Cx):Func->k8->Prop
 |_,.nil =>True
 |fn,.pc _ eR=>Cq X fn eR
 |fn,.ur _ _ eR=>Cq X fn eR
 |fn,.rg p s _ f gn ui eR=>(X.site s=Y4 fn.ntmps (nn fn) p∧Q3 (nn fn) p=true∧Enters X f gn∧Cq X gn ui)∧Cq X fn eR
def tM{N:Nat}{cs:(R:Type)->List (CE R)}:∀(eR:k8) (fn:Func) (y:(R:Type)->YT R) (mask:Nat) (R:Type),(nj X N cs fn y eR mask R).gY.nt =⟨fn.ntmps,mask⟩
 | .nil,_,_,_,_=>rfl
 | .pc q eR,fn,y,mask,R=>by
   simp only [nj];split
   ·exact tM eR fn y mask R
   ·exact tM eR fn y mask R
 | .ur _ _ eR,fn,y,mask,R=>tM eR fn y mask R
 | .rg _ _ _ _ _ _ eR,fn,y,mask,R=>tM eR fn y mask R
def aCg(h:Q3 root p=true):∃g ps a b,xg root p=some (.rangeFunc g ps a b)∧At root p (.rangeFunc g ps a b):=by
 unfold Q3 at h;split at h
 ·rename_i g ps a b hc;exact⟨g,ps,a,b,hc,dec p p,dE h,hc⟩
 ·exact bh
def BU(hX:X.Ok){N:Nat}{cs:(R:Type)->List (CE R)}(om:∀R,iE (sH X) (cs R)):
 ∀(eR:k8) {fn:Func} {y:(R:Type)->YT R} (_:∀R,DO X (y R)) (_:Cq X fn eR) (mask:Nat) (R:Type),(nj X N cs fn y eR mask R).Ok X (nn fn)
 | .nil,fn,y,hy,_,mask,R=>aBs (om R) (hy R) trivial trivial trivial
 | .ur p n eR,fn,y,hy,h,mask,R=>by
   have hi:=BU (N:=N) hX om eR hy h mask R;refine ag7 hi ?_;intro c st k r eM hr;have hc:DM (nn fn) p=c:=by unfold DM;rw [YZ eM]
   simp only at hr;rw [hc]at hr;obtain⟨e,bl,hk,hr⟩:=VO hX hi eM n hr;exact⟨e,bl,λ{rdc n w0 S F ρ a w Q} hI hs hq=>Xg _ (hr hI hs hq),hk⟩
 | .pc q eR,fn,y,hy,h,mask,R=>by
   have hi:=BU (N:=N) hX om eR hy h mask R;have hq:=BU (N:=N) hX om eR hy h q.mask UO;simp only [nj];split
   ·rename_i hlp;refine ag7 hi ?_;intro c st k r eM hr;have hc:DM (nn fn) q.p=c:=by unfold DM;rw [YZ eM]
    have hp:=aBv (m:=q.m) (bk:=q.bk) (σ:=q.σ) (xs:=q.xs) (fuel:=N) hX hq eM;rw [tM]at hp;rw [tM];refine aeK hX (f:=J1 X (nn fn) q (nj X N cs fn y eR q.mask UO) N) (c:= .loop c) ?_ hr;exact aiY
   ·rename_i hlp;refine aC7 hi ?_;intro c st k r eM hr;have hc:Sz (nn fn) q.p=c:=by unfold Sz;rw [YZ eM]
    have hp:=aC1 (m:=q.m) (σ:=q.σ) (xs:=q.xs) hX hq eM;rw [tM]at hp;rw [tM];refine aeK hX (f:=J1 X (nn fn) q (nj X N cs fn y eR q.mask UO) N) (c:=c) ?_ hr;exact aiY
 | .rg p s sE f gn ui eR,fn,y,hy,h,mask,R=>by
   have hi:=λmask R=>BU (N:=N) hX om eR hy h.2 mask R;obtain⟨⟨hs,kX,vP,kP⟩,_⟩:=h;obtain⟨g,ps,a,b,hc,eM⟩:=aCg kX;have yb:X.site s=⟨fn.ntmps,ps,a,b⟩:=by rw [hs];unfold Y4;rw [hc]
   have hyk:∀R,DO X (JM s (Fh X (nj X N cs fn y eR (full fn.ntmps) R) s p) (y R)):=by
    intro R;refine aB0 ?_ (hy R);intro id args M k r hr;refine adP hX (hi (full fn.ntmps) R) (g:=g) (ps:=ps) ?_ hr;rw [yb];exact eM
   have hk:=BU (N:=N) hX om ui hyk kP (full gn.ntmps) R;refine aC6 (hi mask R) ?_;intro g' mQ a' b' st k r aNb hr;have:=aNb.det (dec p p) (dE (by unfold Q3 at kX;rw [hc]at kX;exact kX));unfold xg at hc;rw [hc]at this;injection this with this;injection this with e1 e2 e3 e4;subst e1;subst e2;subst e3;subst e4;have hg:gOf (nn fn) p=g:=by unfold gOf xg;rw [hc]
   rw [tM];simp only [hg]at hr;refine adQ hX (T:=X1 ⟨fn.ntmps,mask⟩ _) (aAE (aDH (g:=f) λ{args M k r} h=> ?_)) yb hr;exact N1 hX hk vP.at_ vP.cd (by rw [tM]) vP.call rfl h
structure Rw where
 w:Wy
 σ:ax
def am1(j:Nat):List (Nat×Nat×Nat)->Nat->bp->Option Nat
 | [],_,_=>none
 |p::ps,k,xs=>match Nat.beq p.1 j with|true=>some (xs.getD k .top).id |false=>am1 j ps (k+1) xs
def am4(j:Nat)(s:ez)(x:AV):Option Nat:=
 match s with
 | .aA i| .ptr i _ _| .ik i| .mpr i| .vw i=>match Nat.beq i j with|true=>some x.id|false=>none
 | .cl _ ps=>am1 j ps 0 x.fG
 |_=>none
def Q4(j:Nat):List ez->Nat->bp->Option Nat
 | [],_,_=>none
 |s::ss,k,xs=>match am4 j s (xs.getD k .top)with|some i=>some i|none=>Q4 j ss (k+1) xs
def am0(j:Nat)(s:Sh)(x:AV):Option Nat:=
 match s with
 | .one s=>am4 j s x
 | .agg ss=>Q4 j ss 0 x.cells
 | .du _ ss=>Q4 j ss 0 x.fG
def pY(j:Nat)(st:St):List (Nat×Sh)->Option Nat
 | []=>none
 |e::es=>match am0 j e.2 (look st.env e.1)with|some i=>some i|none=>pY j st es
def am2(j:Nat):List (Nat×Sh)->Nat->cV->Option Nat
 | [],_,_=>none
 |e::es,k,l=>match am0 j e.2 (l.getD k (0,.top)).2 with|some i=>some i|none=>am2 j es (k+1) l
def am3(j:Nat)(st:St):List fu->dI->Option Nat
 |b::bs,i::is=>
  match(match b with| .var _ ss=>Q4 j ss 0 (st.mem.getD i .dead).cells | .loop _ es _=>am2 j es 0 (st.mem.getD i .dead).aag |_=>none)with
  |some n=>some n
  |none=>am3 j st bs is
 |_,_=>none
def alB(m:Nat)(σ:ax)(st:St):Nat->dI->dI
 |0,acc=>acc
 |n+1,acc=>alB m σ st n (acc++[match Nat.blt acc.length m with|true=>acc.length|false=>match pY acc.length st σ.env with|some i=>i|none=>(am3 acc.length st σ.mem acc).getD 0])
def zR(m:Nat)(σ:ax)(st:St):dI:=alB m σ st σ.mem.length []
inductive Cl where
 |fn(v:Nat)
 |fc(v:Nat)(c:List Cv)
 |aac(v:Nat)(ps:List (Nat×TypeId))
 |inl(f:FuncId)(fn:Func)(eR:k8)
 |known(f:FuncId)
 |Q9(t:TypeId)(v vn ve:Nat)
 |Ax(f:FuncId)(t:TypeId)
structure FD where
 f:FuncId
 fn:Func
 na:Nat
 nr:Nat
 m:Nat
 σ:ax
 outs:List Rw
 calls:List Cl
 eR:k8
variable{d:FD}
def Ae(nr:Nat)(env:cV):AV:=match nr with|1=>look env 0|n=> .ep (z6 n env)
def Lr(X:Cx)(m:Nat):List Rw->Nat->St->Option UO
 | [],_,_=>none
 |x::xs,i,st=>
  match xs with
  | []=>DH X m x.w x.σ st λl=>some (i,l)
  |_::_=>match fits X x.w x.σ st with|true=>DH X m x.w x.σ st λl=>some (i,l)|false=>Lr X m xs (i+1) st
def Z6(X:Cx)(m nr:Nat)(outs:List Rw)(x:AV)(M:aW):Option UO:=
 match nr with
 |1=>Lr X m outs 0 ⟨[(0,x)],M,[],.sM⟩
 |n=>match x with| .ep xs=>aP (Nat.beq xs.length n) (Lr X m outs 0 ⟨rj 0 xs,M,[],.sM⟩)|_=>none
def WO(hX:X.Ok){m:Nat}{st:St}{o:UO}:∀{xs:List Rw} {i:Nat},Lr X m xs i st=some o->∃j x,xs[j]?=some x∧o.1=i+j∧QH X m st x.σ o
 | [],i,h=>bh
 | [x],i,h=>aiA
 |x::y::xs,i,h=>by
  rw [Lr]at h;split at h
  ·exact aiA
  ·obtain⟨j,z,h1,h2,h3⟩:=WO hX h;exact⟨j+1,z,h1,by omega,h3⟩
def Aq(X:Cx)(d:FD)(g:bp->Option UO):Prop:=
 ∀l o,g l=some o->∃j x,d.outs[j]?=some x∧o.1=j∧FF X d.f d.m (z6 d.na (unpack d.σ l).env) (unpack d.σ l).mem (Ae d.nr (unpack x.σ o.2).env) (unpack x.σ o.2).mem
def az3(hX:X.Ok){nr:Nat}{outs:List Rw}{M1:aW}(hc:lh X f args M x M1)(h:Z6 X m nr outs x M1=some o):
 ∃j y,outs[j]?=some y∧o.1=j∧FF X f m args M (Ae nr (unpack y.σ o.2).env) (unpack y.σ o.2).mem :=by
 unfold Z6 at h;split at h
 ·obtain⟨j,y,h1,h2,hr⟩:=WO hX h;refine⟨j,y,h1,by omega,λ{w0 S F ρ w vs} hI wI=> ?_⟩;refine(hc.2 hI wI).mono ?_;rintro e w' ⟨v,ρ',F',rfl,dG,hg,hx⟩;obtain⟨F2,ρ2,i2,s2,g2⟩:=hr (nt:=⟨1,0⟩) (rdc:=⟨none,λ_=>False,λt=>(#[v]:Array Value).getD t undef⟩) (a:={tmps:= #[v],defers:=[]}) dG ⟨λt=>by
   simp only [pN,look_nil]
   by_cases ht:t=0
   ·subst ht;simpa using hx
   ·have:(t==0)=false:=by simpa using ht
    simp only [this,lg,ng];exact .top _,rfl,Marks.nil _ _ (λ_ h=>h.elim),.inl rfl,λ_ _=>rfl⟩
  exact⟨v,ρ2,F2,rfl,i2,(hg.toF m).trans g2,s2.env 0⟩
 ·rename_i Sb;split at h
  ·rename_i xs;replace h:=di h;obtain⟨hn,h⟩:=h;have hn:xs.length=nr:=dE hn;obtain⟨j,y,h1,h2,hr⟩:=WO hX h;refine⟨j,y,h1,by omega,λ{w0 S F ρ w vs} hI wI=> ?_⟩;refine(hc.2 hI wI).mono ?_;rintro e w' ⟨v,ρ',F',rfl,dG,hg,hx⟩;cases hx with
   |ep cs us hl KY=>
    obtain⟨F2,ρ2,i2,s2,g2⟩:=hr (nt:=⟨us.length,0⟩) (rdc:=⟨none,λ_=>False,λt=>us.toArray.getD t undef⟩) (a:={tmps:=us.toArray,defers:=[]}) dG ⟨afg ⟨hl,KY⟩,by simp,Marks.nil _ _ (λ_ h=>h.elim),.inl rfl,λ_ _=>rfl⟩;refine⟨.tuple us.toArray,ρ2,F2,rfl,i2,(hg.toF m).trans g2,?_⟩;have hr3:=af1 s2.env;rw [hl,hn]at hr3;have e:Ae nr (unpack y.σ o.2).env = .ep (z6 nr (unpack y.σ o.2).env):=by
     unfold Ae;split
     ·exact absurd rfl Sb
     ·rfl
    rw [e];exact .ep _ us hr3.1 hr3.2
  ·exact bh
def G8(nr:Nat):List Rw->Nat->UO->(AV->aW->Option R)->Option R
 | [],_,_,_=>none
 |x::xs,i,o,k=>
  match xs with
  | []=>k (Ae nr (unpack x.σ o.2).env) (unpack x.σ o.2).mem
  |_::_=>match Nat.beq o.1 i with|true=>k (Ae nr (unpack x.σ o.2).env) (unpack x.σ o.2).mem |false=>G8 nr xs (i+1) o k
def ajV{nr:Nat}{o:UO}{k:AV->aW->Option R}:∀{xs:List Rw} {i j:Nat} {x:Rw},xs[j]?=some x->o.1=i+j->G8 nr xs i o k=k (Ae nr (unpack x.σ o.2).env) (unpack x.σ o.2).mem
 | [],i,j,x,h,_=>gM
 |y::ys,i,0,x,h,ho=>by
  simp at h;subst h;cases ys with
  |nil=>rfl
  |cons z zs=>simp only [G8];rw [ho];simp
 |y::ys,i,j+1,x,h,ho=>by
  cases ys with
  |nil=>exact gM
  |cons z zs=>
   have hb:Nat.beq o.1 i=false:=ajo;rw [G8];simp only [hb];exact ajV (lJ) (by omega)
def QD(X:Cx)(d:FD)(w:Wy)(g:bp->Option UO)(args:bp)(M:aW)(k:AV->aW->Option R):Option R:=
 aP (Nat.beq args.length d.na) (jU X w.cv ⟨rj 0 args,M,[],.sM⟩ λcY=>
  aP (wc d.σ (w.bN cY) cY)
   (match g (FK d.σ (w.bN cY) cY)with
    |none=>none
    |some o=>G8 d.nr d.outs 0 o λx Mc=>aP (Ff d.m cY.mem (w.bN cY) Mc) (k (gw (nJ d.m (w.bN cY) cY.mem.length) 4 x) (merge d.m cY.mem (w.bN cY) Mc))))
def azV(hX:X.Ok)(hg:Aq X d g)(hc:∀(vs:Array Value) (w:World),(callFunc d.f vs).run X.P w= .ok (.enter d.f vs) w)
   {k:AV->aW->Option R}  (h:QD X d w g args M k=some r):∃x M',lh X d.f args M x M'∧k x M'=some r∧(w.cv=[]->dR (w.bN ⟨rj 0 args,M,[],.sM⟩) M M'):=by
 unfold QD at h;replace h:=di h;obtain⟨hna,h⟩:=h;have hna:args.length=d.na:=dE hna;have aMM:∃cY,(aP (wc d.σ (w.bN cY) cY) (match g (FK d.σ (w.bN cY) cY)with|none=>none|some o=>G8 d.nr d.outs 0 o λx Mc=>aP (Ff d.m cY.mem (w.bN cY) Mc) (k (gw (nJ d.m (w.bN cY) cY.mem.length) 4 x) (merge d.m cY.mem (w.bN cY) Mc))))=some r∧(w.cv=[]->cY=⟨rj 0 args,M,[],.sM⟩)∧
  ∀{nt:Nt} {rdc:Cy} {w0:World} {S:Sc} {F:bT} {ρ:bY} {a:Act} {w:World},Inv X w0 S F ρ M w->gg X nt ⟨rj 0 args,M,[],.sM⟩ rdc F ρ a w->∃F' ρ',Inv X w0 S F' ρ' cY.mem w∧gg X nt cY rdc F' ρ' a w∧Grow F F' ρ ρ' w w:=by
  cases kr:w.cv with
  |nil=>rw [kr]at h;exact⟨_,h,λ_=>rfl,λ{nt rdc w0 S F ρ a w} hI hs=>⟨F,ρ,hI,hs,Grow.refl _ _ _⟩⟩
  |cons c cs=>
   rw [kr]at h;obtain⟨cY,h,_,_,kr⟩:=tC hX (c::cs) h;exact⟨cY,h,(λe=>by cases e),kr⟩
 clear h;obtain⟨cY,h,aar,kr⟩:=aMM;replace h:=di h;obtain⟨h1,h⟩:=h;split at h
 ·cases h
 ·rename_i o ho;obtain⟨j,y,hy,hj,hf⟩:=hg _ _ ho;rw [ajV hy (by omega)]at h;replace h:=di h;obtain⟨hm,h⟩:=h;refine⟨_,_,⟨hc,λ{w0 S F ρ w' vs} hI hr=> ?_⟩,h,λe=>by rw [aar e];exact azr⟩;obtain⟨F1,ρ1,i1,s1,g1⟩:=kr (nt:=⟨vs.length,0⟩) (rdc:=⟨none,λ_=>False,λt=>vs.toArray.getD t undef⟩) (a:={tmps:=vs.toArray,defers:=[]}) hI ⟨afg hr,by simp,Marks.nil _ _ (λ_ h=>h.elim),.inl rfl,λ_ _=>rfl⟩;obtain⟨bB,iy,_⟩:=NM h1;have Aj:=i1.sub hX bB oM;have Ke:=WT hX h1 i1 s1.env;have wI:=af1 Ke;have hl:vs.length=d.na:=by rw [hr.1];exact hna
  rw [hl]at wI;rw [Nl h1]at hf;have yc:=hf (w0:=w') (S:=hand ρ1 cY.mem (w.bN cY) F1) (F:=F1) (ρ:=sub oM ρ1 (w.bN cY)) (w:=w') (vs:=vs) (by rw [iy];exact Aj) wI;refine yc.mono ?_;rintro e p8 ⟨v,ρ',F',rfl,dG,jo,hx⟩;obtain⟨i3,g3,r3⟩:=i1.merge hX bB oM dG jo hm;exact⟨v,_,F',rfl,i3,g1.trans g3,hx.gw hX.kinds r3 4⟩
def kC(cv:List Cv)(M:aW)(k:AV->aW->Option R)(x:AV)(M':aW):Option R:=match cv with| []=>k x M'|_::_=>aP (Nat.ble M.length M'.length) (k x M')
def wC(w:Wy)(args:bp)(M:aW):Option dI:=match w.cv with| []=>some (w.bN ⟨rj 0 args,M,[],.sM⟩)|_::_=>some (List.range M.length)
def Kp(X:Cx)(d:FD)(w:Wy)(g:bp->Option UO)(R:Type):CE R:=
 ⟨d.f,λargs M=>fits X w d.σ ⟨rj 0 args,M,[],.sM⟩,wC w,λargs M k=>QD X d w g args M (kC w.cv M k)⟩
def O7(hX:X.Ok)(hg:Aq X d g)(hc:∀(vs:Array Value) (w:World),(callFunc d.f vs).run X.P w= .ok (.enter d.f vs) w):sH X (Kp X d w g R):=by
 intro args M k r h;have h':QD X d w g args M (kC w.cv M k)=some r:=h;obtain⟨x,M',h1,h2,h3⟩:=azV hX hg hc h';cases kr:w.cv with
 |nil=>
  rw [kr]at h2;refine⟨x,M',h1,h2,λids hi=> ?_⟩;have hi:wC w args M=some ids:=hi;unfold wC at hi;rw [kr]at hi;injection hi with hi;subst hi;exact h3 kr
 |cons c cs=>
  rw [kr]at h2;obtain⟨hle,h2⟩:=di (show aP _ _=some r from h2);refine⟨x,M',h1,h2,λids hi=> ?_⟩;have hi:wC w args M=some ids:=hi;unfold wC at hi;rw [kr]at hi;exact ajg
def tW(t:TypeId):Option UO->Bool
 |some (0,[.ab t' []])=>Nat.beq t' t
 |_=>false
def agW{o:Option UO}(h:tW t o=true):o=some (0,[.ab t []]):=by
 unfold tW at h;split at h
 ·rw [dE h]
 ·exact bh
def Ah(t:TypeId)(gn ge g:bp->Option UO)(l:bp):Option UO:=
 match(l.getD 0 .top).rows with
 | []=>bif tW t (gn [])&&tW t (ge [])then some (0,[.ab t []])else none
 |_::_=>g l
def IY(t:TypeId):List Rw->Bool
 | [⟨_,⟨[(0,.one (.aA 0))],[.row t']⟩⟩]=>Nat.beq t' t
 |_=>false
def xL(t:TypeId)(b:Nat):ax->Bool
 |⟨[(0,.one (.cell (.slice t')))],[]⟩=>Nat.beq b 0&&Nat.beq t' t
 |⟨[(0,.one .gE)],[]⟩=>Nat.beq b 1
 |⟨[(0,.one .jF)],[]⟩=>Nat.beq b 2
 |_=>false
def X3(t:TypeId)(d dn de:FD):Bool:=
 Nat.beq dn.f d.f&&Nat.beq de.f d.f&&Nat.beq d.na 1&&Nat.beq dn.na 1&&Nat.beq de.na 1&&Nat.beq d.nr 1&&Nat.beq dn.nr 1&&Nat.beq de.nr 1&&Nat.beq d.m 0&&Nat.beq dn.m 0&&Nat.beq de.m 0&&
  xL t 0 d.σ&&xL t 1 dn.σ&&xL t 2 de.σ&&IY t d.outs&&IY t dn.outs&&IY t de.outs
def WE{xs:List Rw}(h:IY t xs=true):∃w,xs=[⟨w,⟨[(0,.one (.aA 0))],[.row t]⟩⟩]:=by
 unfold IY at h;exact aix
def aCr(h:xL t 0 σ=true):σ=⟨[(0,.one (.cell (.slice t)))],[]⟩:=by
 unfold xL at h;split at h
 ·rw [bS]at h;rw [dE h.2]
 ·exact bh
 ·exact bh
 ·exact bh
def aCq(h:xL t 1 σ=true):σ=⟨[(0,.one .gE)],[]⟩:=by
 unfold xL at h;split at h
 ·exact bh
 ·rfl
 ·exact bh
 ·exact bh
def aCp(h:xL t 2 σ=true):σ=⟨[(0,.one .jF)],[]⟩:=by
 unfold xL at h;split at h
 ·exact bh
 ·exact bh
 ·rfl
 ·exact bh
def aCu{dn de:FD}{gn ge:bp->Option UO}(hq:X3 t d dn de=true)(h:Aq X d g)(hn:Aq X dn gn)(he:Aq X de ge):Aq X d (Ah t gn ge g):=by
 simp only [X3,bS]at hq;obtain⟨⟨⟨⟨⟨⟨⟨⟨⟨⟨⟨⟨⟨⟨⟨⟨q1,q2⟩,q3⟩,q4⟩,q5⟩,q6⟩,q7⟩,q8⟩,q9⟩,my⟩,qH⟩,pz⟩,yL⟩,vz⟩,vv⟩,yK⟩,vu⟩:=hq;intro l o ho;unfold Ah at ho;split at ho
 ·rename_i hl;have ht:(tW t (gn [])&&tW t (ge []))=true∧o=(0,[.ab t []]):=by
   cases hc:(tW t (gn [])&&tW t (ge []))with
   |false=>rw [hc]at ho;cases ho
   |true=>rw [hc]at ho;exact⟨rfl,by injection ho with ho;exact ho.symm⟩
  obtain⟨ht,rfl⟩:=ht;rw [bS]at ht;have h1:=hn _ _ (agW ht.1);have h2:=he _ _ (agW ht.2);obtain⟨w,e⟩:=WE vv;obtain⟨wn,en⟩:=WE yK;obtain⟨we,ee⟩:=WE vu;refine⟨0,_,by rw [e];rfl,rfl,?_⟩;rw [aCr pz,dE q3,dE q6,dE q9];obtain⟨jn,xn,R7,Dy,Sk⟩:=h1;obtain⟨je,xe,yZ,hje,hce⟩:=h2;subst Dy;subst hje;rw [en]at R7;rw [ee]at yZ;injection R7 with R7;injection yZ with yZ;subst R7;subst yZ;rw [aCq yL,dE q4,dE q7,dE my,dE q1]at Sk;rw [aCp vz,dE q5,dE q8,dE qH,dE q2]at hce;intro w0 S F ρ w vs hI hv;have fN:dt X.K ρ F w [.ab t (l.getD 0 .top).rows] vs:=hv;rw [hl]at fN;obtain⟨hlen,jI⟩:=fN
  match vs,hlen with
  | [v],_=>
    have hr:=jI 0 _ v rfl rfl;have one:∀{x:AV},aY X.K ρ F w x v->dt X.K ρ F w [x] [v]:=λhx=>⟨rfl,λj y u hy hu=>by
     cases j with
     |zero=>simp at hy hu;subst hy;subst hu;exact hx
     |succ j=>simp at hy⟩
    cases hr with
    |kj=>exact Sk hI (one .gE)
    |ab _ _ a cap vss fP=>exact hce hI (one (.jF a cap))
 ·exact h l o ho
def B9:aZ->Option cT
 | []=>some []
 |r::rs=>match r with
  | [.int .i64 n]=>(match B9 rs with|some l=>some (n::l)|none=>none)
  |_=>none
def nY(l:cT):aZ:=l.map λn=>[AV.int .i64 n]
def nh(l:cT):cT:=l.mergeSort λx y=>decide (x<=y)
def afm:∀{rs:aZ} {l:cT},B9 rs=some l->rs=nY l
 | [],l,h=>by injection h with h;subst h;rfl
 |r::rs,l,h=>by
  unfold B9 at h;split at h
  ·rename_i n;split at h
   ·rename_i l' hl;injection h with h;subst h;rw [afm hl];rfl
   ·exact bh
  ·exact bh
def alA(t:TypeId):bp->Option UO
 | [.ab _ (x::xs)]=>match B9 (x::xs)with|some zs=>aP (Nat.ble zs.length 4611686018427387903) (some (0,[.ab t (nY (nh zs))]))|none=>none
 |_=>none
def Y3(t:TypeId):ax->Bool
 |⟨[(0,.one (.aA 0))],[.row t']⟩=>Nat.beq t' t
 |_=>false
def XW(t:TypeId):List Rw->Bool
 | [⟨_,⟨[],[.row t']⟩⟩]=>Nat.beq t' t
 |_=>false
def Cw(d:FD)(l:bp):Option UO:=
 match d.calls with
 | .Ax f t::_=>(match Nat.beq d.f f&&Nat.beq d.na 1&&Nat.beq d.nr 0&&Nat.beq d.m 1&&Y3 t d.σ&&XW t d.outs with|true=>alA t l|false=>none)
 |_=>none
def ZD(X:Cx)(f:FuncId)(t:TypeId):Prop:=∀zs:cT,zs≠ []->zs.length<=4611686018427387903->FF X f 1 [.aA 0] [.row t (nY zs)] (.ep []) [.row t (nY (nh zs))]
def aBg(h:Y3 t σ=true):σ=⟨[(0,.one (.aA 0))],[.row t]⟩:=by
 unfold Y3 at h;split at h
 ·rw [dE h]
 ·exact bh
def aAx{xs:List Rw}(h:XW t xs=true):∃w,xs=[⟨w,⟨[],[.row t]⟩⟩]:=by
 unfold XW at h;exact aix
def aCd{cl:List Cl}(hc:d.calls= .Ax f t::cl)(hs:ZD X f t){l:bp}(h:Cw d l=some o):
 ∃j x,d.outs[j]?=some x∧o.1=j∧FF X d.f d.m (z6 d.na (unpack d.σ l).env) (unpack d.σ l).mem (Ae d.nr (unpack x.σ o.2).env) (unpack x.σ o.2).mem :=by
 unfold Cw at h;rw [hc]at h;simp only at h;split at h
 ·rename_i hq;simp only [bS]at hq;obtain⟨⟨⟨⟨⟨q1,q2⟩,q3⟩,q4⟩,q5⟩,q6⟩:=hq;unfold alA at h;split at h
  ·rename_i u x xs;split at h
   ·rename_i zs hz;replace h:=di h;obtain⟨hlen,h⟩:=h;injection h with h;subst h;have hx:=afm hz;obtain⟨w,e⟩:=aAx q6;refine⟨0,_,by rw [e];rfl,rfl,?_⟩;rw [aBg q5,dE q1,dE q2,dE q3,dE q4];have eD:zs≠ []:=by intro e0;rw [e0]at hx;cases hx
    have key:= @hs zs eD (tL hlen);rw [<-hx]at key;exact @key
   ·exact bh
  ·exact bh
 ·cases h
def CL(R:Type):CE R:=⟨0,λ_ _=>false,λ_ _=>none,λ_ _ _=>none⟩
def Fe:sH X (CL R):=by intro args M k r h;cases h
def aFl(e:CE R)(ps:List (Nat×TypeId)):CE R:=⟨e.f,λargs M=>e.test (B1 ps args) M,λargs M=>e.wr (B1 ps args) M,λargs M k=>e.run (B1 ps args) M k⟩
def aFm(X:Cx)(L:kc R)(f:FuncId)(fn:Func):CE R:=
 ⟨f,λ_ _=>true,λ_ M=>some (List.range M.length),λargs M k=>yD X L (nn fn) fn.results.toList args M λx M'=>aP (Nat.ble M.length M'.length) (k x M')⟩
def rU(X:Cx)(N:Nat)(E:List FD)(G:Nat->bp->Option UO):List Cl->(R:Type)->List (CE R)
 | [],_=>[]
 | .fn v::cl,R=>(match E[v]? with|none=>CL R|some d=>Kp X d ⟨[],zR 0 d.σ⟩ (G v) R)::rU X N E G cl R
 | .fc v c::cl,R=>(match E[v]? with|none=>CL R|some d=>Kp X d ⟨c,zR 0 d.σ⟩ (G v) R)::rU X N E G cl R
 | .aac v ps::cl,R=>(match E[v]? with|none=>CL R|some d=>aFl (Kp X d ⟨[],zR 0 d.σ⟩ (G v) R) ps)::rU X N E G cl R
 | .inl f fn eR::cl,R=>aFm X (nj X N (rU X N E G cl) fn (λ_=>GL) eR (full fn.ntmps) R) f fn::rU X N E G cl R
 | .known f::cl,R=>kce f::rU X N E G cl R
 | .Ax _ _::cl,R=>CL R::rU X N E G cl R
 | .Q9 t v vn ve::cl,R=>(match E[v]?,E[vn]?,E[ve]? with|some d,some dn,some de=>(match X3 t d dn de with|true=>Kp X d ⟨[],zR 0 d.σ⟩ (Ah t (G vn) (G ve) (G v)) R|false=>CL R)|_,_,_=>CL R)::rU X N E G cl R
def ca(X:Cx)(E:List FD)(G:Nat->bp->Option UO)(N v:Nat)(l:bp):Option UO:=
 match E[v]? with
 |none=>none
 |some d=>match Cw d l with
  |some o=>some o
  |none=>yD X (nj X N (rU X N E G d.calls) d.fn (λ_=>GL) d.eR (full d.fn.ntmps) UO) (nn d.fn) d.fn.results.toList (z6 d.na (unpack d.σ l).env) (unpack d.σ l).mem (Z6 X d.m d.nr d.outs)
def FU(X:Cx)(E:List FD):Nat->Nat->bp->Option UO
 |0,_,_=>none
 |N+1,v,l=>ca X E (FU X E N) N v l
def RE(X:Cx):Cl->Prop
 | .inl f fn eR=>Enters X f fn∧Cq X fn eR
 | .known f=>∀R,sH X (kce (R:=R) f)
 | .Ax f t=>ZD X f t
 |_=>True
def aaS(X:Cx)(d:FD):Prop:=Enters X d.f d.fn∧Cq X d.fn d.eR∧iE (RE X) d.calls
def iE.at{α:Type}{P:α->Prop}:∀{l:List α} {i:Nat} {a:α},iE P l->l[i]?=some a->P a
 | [],i,a,_,h=>gM
 |b::l,0,a,h,hi=>by simp at hi;subst hi;exact h.1
 |b::l,i+1,a,h,hi=>iE.at h.2 (B6)
def xU(hX:X.Ok){N:Nat}{E:List FD}(hE:iE (aaS X) E){G:Nat->bp->Option UO}(hG:∀v d,E[v]?=some d->Aq X d (G v)):∀{cl:List Cl},iE (RE X) cl->∀R,iE (sH X) (rU X N E G cl R)
 | [],_,R=>trivial
 | .fn v::cl,h,R=>⟨by
    split
    ·exact Fe
    ·rename_i d hd;exact O7 hX (hG v d hd) (hE.at hd).1.call,xU hX hE hG h.2 R⟩
 | .fc v c::cl,h,R=>⟨by
    split
    ·exact Fe
    ·rename_i d hd;exact O7 hX (hG v d hd) (hE.at hd).1.call,xU hX hE hG h.2 R⟩
 | .aac v ps::cl,h,R=>⟨by
    split
    ·exact Fe
    ·rename_i d hd;exact aDx (O7 hX (hG v d hd) (hE.at hd).1.call) ps _,xU hX hE hG h.2 R⟩
 | .inl f fn eR::cl,h,R=>by
   obtain⟨⟨vP,tY⟩,eL⟩:=h;refine⟨aCE λ{args M k r} hr=> ?_,xU hX hE hG eL R⟩;exact N1 hX (BU hX (xU hX hE hG eL) eR (λ_=>ahm) tY (full fn.ntmps) R) vP.at_ vP.cd (by rw [tM]) vP.call rfl hr
 | .known f::cl,h,R=>⟨h.1 R,xU hX hE hG h.2 R⟩
 | .Ax _ _::cl,h,R=>⟨Fe,xU hX hE hG h.2 R⟩
 | .Q9 t v vn ve::cl,h,R=>⟨by
    split
    ·rename_i d dn de hd hdn hde;split
     ·rename_i hq;exact O7 hX (aCu hq (hG v d hd) (hG vn dn hdn) (hG ve de hde)) (hE.at hd).1.call
     ·exact Fe
    ·exact Fe,xU hX hE hG h.2 R⟩
def alg(hX:X.Ok){E:List FD}(hE:iE (aaS X) E):∀N v d,E[v]?=some d->Aq X d (FU X E N v)
 |0,v,d,hd=>by intro l o h;cases h
 |N+1,v,d,hd=>by
  intro l o h;simp only [FU,ca,hd]at h;obtain⟨vP,tY,eL⟩:=hE.at hd;split at h
  ·rename_i o' ho;injection h with h;subst h;cases hc:d.calls with
   |nil=>unfold Cw at ho;rw [hc]at ho;cases ho
   |cons c cl=>
    cases c with
    |Ax f t=>
     rw [hc]at eL;exact aCd hc eL.1 ho
    |_=>unfold Cw at ho;rw [hc]at ho;cases ho
  obtain⟨x,M',h1,h2⟩:=N1 hX (BU hX (xU hX hE (alg hX hE N) eL) d.eR (λ_=>ahm) tY (full d.fn.ntmps) UO) vP.at_ vP.cd (by rw [tM]) vP.call rfl h;exact az3 hX h1 h2
abbrev gI(l:bp)(j:Nat):Int:=(l.getD j .top).toI
abbrev gB(l:bp)(j:Nat):Bool:=(l.getD j .top).toB
abbrev gS(l:bp)(j:Nat):ByteArray:=(l.getD j .top).toS
abbrev gR(l:bp)(j:Nat):aZ:=(l.getD j .top).rows
abbrev gC(l:bp)(j:Nat):bp:=(l.getD j .top).cells
abbrev iI(n:Int):AV:= .int .i64 n
abbrev bx(n:Int):Int:=IntKind.wrap .i64 n
abbrev ln(xs:aZ):Int:=(xs.length:Int)
def ib(i:Int)(n:Nat):Bool:=decide (0<=i)&&decide (i<n)
abbrev gA(xs:aZ)(j:Nat):Row:=xs.getD j []
def sT(l:bp):cV->bp
 | []=>l
 |e::es=>sT (l.set e.1 e.2) es
def bO(t:Option UO)(f:Nat->bp->Option R):Option R:=match t with|none=>none|some o=>f o.1 o.2
abbrev YF:=Nat->((R:Type)->List (CE R))->(R:Type)->YT R
def yNo:YF:=λ_ _ _=>GL
def yU(X:Cx)(fn:Func)(y:YF)(eR:k8)(s p:Nat):YF:=λN cs R=>JM s (Fh X (nj X N cs fn (y N cs) eR (full fn.ntmps) R) s p) (y N cs R)
def KJ(X:Cx)(E:List FD)(cl:List Cl)(fn:Func)(y:YF)(q:Pc)(eR:k8)(G:Nat->bp->Option UO)(N n:Nat)(l:bp):Option UO:=
 FO X (nj X N (rU X N E G cl) fn (y N (rU X N E G cl)) eR q.mask UO) (DM (nn fn) q.p) q.p q.m q.bk q.σ q.xs n l
def ctU(X:Cx)(E:List FD)(cl:List Cl)(fn:Func)(y:YF)(q:Pc)(eR:k8)(G:Nat->bp->Option UO)(N:Nat)(l:bp):Option UO:=
 aaM X (nj X N (rU X N E G cl) fn (y N (rU X N E G cl)) eR q.mask UO) (Sz (nn fn) q.p) q.p q.m q.σ q.xs l
def cI:ez:= .cell (.int .i64)
def cU:ez:= .cell (.int .u8)
def cB:ez:= .cell .bool
def cS(t:TypeId):ez:= .cell (.slice t)
def eI(t:Nat):Nat×Sh:=(t,.one cI)
def eB(t:Nat):Nat×Sh:=(t,.one cB)
def eS(t e:Nat):Nat×Sh:=(t,.one (cS e))
def eO(t j:Nat):Nat×Sh:=(t,.one (.aA j))
def eP(t j:Nat):Nat×Sh:=(t,.one (.ptr j 0 0))
def eA(t:Nat)(h:List ez):Nat×Sh:=(t,.agg h)
def KL:ez->Kind
 | .cell (.slice _)=> .any
 | .cell k=>k
 |_=> .any
def bV(h:List ez):fu:= .var (h.map KL) h
def cK(t c:Nat)(ty:TypeId):Cv:= .sR (λenv _=>(look env t).id) c ty
def xN(σ:ax):Ex×List Cv×ax:=(.normal,[],σ)
def xR(σ:ax):Ex×List Cv×ax:=(.ret,[],σ)
def xE(k:Nat)(σ:ax):Ex×List Cv×ax:=(.exit k,[],σ)
def pP(lp:Bool)(q p m mask:Nat)(σ:ax)(xs:List (Ex×List Cv×ax)):Pc:=⟨p,lp,m,mask,σ,⟨[],zR q σ⟩,⟨[],match lp with|true=>zR m σ|false=>λ_=>[]⟩,xs.map λx=>⟨x.1,⟨x.2.1,zR m x.2.2⟩,x.2.2⟩⟩
def pJ:=pP false
def pL:=pP true
def dY(c:List Cv)(q:Pc):Pc:={q with en:=⟨c,q.en.bN⟩}
def Lx(c:List Cv)(q:Pc):Pc:={q with bk:=⟨c,q.bk.bN⟩}
def nw(c:List Cv)(f:FuncId)(fn:Func)(na nr m:Nat)(σ o:ax)(cl:List Cl)(eR:k8):FD:=⟨f,fn,na,nr,m,σ,[⟨⟨c,zR m o⟩,o⟩],cl,eR⟩
def cp:=nw []
def C9:Nat->k8->k8
 |0,i=>i
 |k+1,.pc _ i=>C9 k i
 |k+1,.rg _ _ _ _ _ _ i=>C9 k i
 |k+1,.ur _ _ i=>C9 k i
 |_,.nil => .nil
def hdI:k8->Pc
 | .pc q _=>q
 |_=>⟨0,false,0,0,⟨[],[]⟩,⟨[],λ_=>[]⟩,⟨[],λ_=>[]⟩,[]⟩
def da(X:Cx)(E:List FD)(d:FD)(k:Nat):=KJ X E d.calls d.fn yNo (hdI (C9 k d.eR)) (C9 (k+1) d.eR)
def cj(X:Cx)(E:List FD)(d:FD)(k:Nat):=ctU X E d.calls d.fn yNo (hdI (C9 k d.eR)) (C9 (k+1) d.eR)
def z0:Kind->AV
 | .int k=> .int k 0
 | .bool => .bool false
 | .slice t=> .ab t []
 |_=> .top
end
end Go.az
namespace Go.Proofs.YtomkobcipaligaaGreatDoor.Cl
open Go Go.az
set_option maxRecDepth 100000
noncomputable def RW:Operand×Array Tmp×Code×Code:=match wA (cb Tryz.f35).c [false,true,true,true]with|some (.rangeFunc g ps a b)=>(g,ps,a,b)|_=>(.func 0,#[],.skip,.skip)
noncomputable def yO:Operand×Array Tmp×Code×Code:=match wA (cb Tryz.f34).c [false,true,false,true,true]with|some (.rangeFunc g ps a b)=>(g,ps,a,b)|_=>(.func 0,#[],.skip,.skip)
noncomputable def Y5:List (Nat×Site):=[(0,⟨17,RW.2.1,RW.2.2.1,RW.2.2.2⟩),(1,⟨13,yO.2.1,yO.2.2.1,yO.2.2.2⟩)]
noncomputable def RH:List (Nat×TI):=[0,1,2,3,4,5,9,20,22,23,24,26,29,31,32,33,34,35,36,37,38,39,41,44,46,47,49,51,52,54,55,57,59,67,82,83,84,88,89,91,93,94,96,98,99,102,110,112,113,115,116,118,120,121,122,123,125,127,134,147,149,150,151,163,166,167,169,172,176,178,179,190,198,203,204,206,207,208,218,219,223,229,233,234,236,237,239,240,244,246,249,257,258,260,261,264,267,272,273,274,275].map λt=>(t,wO Tryz.prog t)
noncomputable def X:Cx:=⟨Tryz.prog,λt=>Au (oA RH t),Zf Y5,λ_=> .top,tR [166],false,λd t=>YL [(28,36),(41,88),(44,88),(56,36)] d t,some ⟨[.any,.any,.any],127,125,122,244,202⟩⟩
def hX:X.Okb:=aDV (l:=RH) (el:=[166]) (λu h=>by injection h with h;subst h;exact⟨by kernel_rfl,by kernel_rfl,aD9 (by kernel_rfl),by kernel_rfl,by decide,⟨_,Tryz.func202,by kernel_rfl,by kernel_rfl,by kernel_rfl,by kernel_rfl⟩⟩) (λ_=> .inl rfl) (by kernel_rfl) (by repeat' first|exact trivial|refine⟨?_,?_⟩|rfl|kernel_rfl) ⟨(by show An Tryz.prog _=true;kernel_rfl),trivial⟩
def hG:Fb X:=λg {ρ ρ' F w v} _=> .top v
noncomputable def I:List (Nat×FI):=[(9,cb Tryz.f9),(16,cb Tryz.f16),(21,cb Tryz.f21),(33,cb Tryz.f33),(17,cb Tryz.f17),(13,cb Tryz.f13),(39,cb Tryz.f39),(90,cb Tryz.f90),(92,cb Tryz.f92),(91,cb Tryz.f91),(141,cb Tryz.f141),(40,cb Tryz.f40),(93,cb Tryz.f93),(142,cb Tryz.f142),(183,cb Tryz.f183),(184,cb Tryz.f184),(94,cb Tryz.f94),(41,cb Tryz.f41),(95,cb Tryz.f95),(96,cb Tryz.f96),(143,cb Tryz.f143),(185,cb Tryz.f185),(186,cb Tryz.f186),(187,cb Tryz.f187),(188,cb Tryz.f188),(189,cb Tryz.f189),(190,cb Tryz.f190),(191,cb Tryz.f191),(144,cb Tryz.f144),(145,cb Tryz.f145),(146,cb Tryz.f146),(147,cb Tryz.f147),(42,cb Tryz.f42),(148,cb Tryz.f148),(149,cb Tryz.f149),(150,cb Tryz.f150),(192,cb Tryz.f192),(213,cb Tryz.f213),(231,cb Tryz.f231),(218,cb Tryz.f218),(212,cb Tryz.f212),(222,cb Tryz.f222),(228,cb Tryz.f228),(241,cb Tryz.f241),(223,cb Tryz.f223),(236,cb Tryz.f236),(224,cb Tryz.f224),(237,cb Tryz.f237),(238,cb Tryz.f238),(225,cb Tryz.f225),(239,cb Tryz.f239),(240,cb Tryz.f240),(242,cb Tryz.f242),(226,cb Tryz.f226),(227,cb Tryz.f227),(229,cb Tryz.f229),(230,cb Tryz.f230),(193,cb Tryz.f193),(151,cb Tryz.f151),(43,cb Tryz.f43),(97,cb Tryz.f97),(152,cb Tryz.f152),(99,cb Tryz.f99),(98,cb Tryz.f98),(153,cb Tryz.f153),(44,cb Tryz.f44),(100,cb Tryz.f100),(22,cb Tryz.f22),(20,cb Tryz.f20),(63,cb Tryz.f63),(58,cb Tryz.f58),(68,cb Tryz.f68),(67,cb Tryz.f67),(69,cb Tryz.f69),(70,cb Tryz.f70),(71,cb Tryz.f71),(72,cb Tryz.f72),(73,cb Tryz.f73),(74,cb Tryz.f74),(75,cb Tryz.f75),(101,cb Tryz.f101),(154,cb Tryz.f154),(102,cb Tryz.f102),(155,cb Tryz.f155),(194,cb Tryz.f194),(214,cb Tryz.f214),(158,cb Tryz.f158),(232,cb Tryz.f232),(195,cb Tryz.f195),(156,cb Tryz.f156),(196,cb Tryz.f196),(197,cb Tryz.f197),(215,cb Tryz.f215),(233,cb Tryz.f233),(157,cb Tryz.f157),(159,cb Tryz.f159),(160,cb Tryz.f160),(161,cb Tryz.f161),(162,cb Tryz.f162),(163,cb Tryz.f163),(168,cb Tryz.f168),(164,cb Tryz.f164),(198,cb Tryz.f198),(199,cb Tryz.f199),(165,cb Tryz.f165),(166,cb Tryz.f166),(200,cb Tryz.f200),(201,cb Tryz.f201),(103,cb Tryz.f103),(167,cb Tryz.f167),(104,cb Tryz.f104),(105,cb Tryz.f105),(107,cb Tryz.f107),(169,cb Tryz.f169),(106,cb Tryz.f106),(109,cb Tryz.f109),(108,cb Tryz.f108),(170,cb Tryz.f170),(51,cb Tryz.f51),(113,cb Tryz.f113),(175,cb Tryz.f175),(176,cb Tryz.f176),(205,cb Tryz.f205),(206,cb Tryz.f206),(217,cb Tryz.f217),(219,cb Tryz.f219),(207,cb Tryz.f207),(208,cb Tryz.f208),(220,cb Tryz.f220),(221,cb Tryz.f221),(234,cb Tryz.f234),(235,cb Tryz.f235),(52,cb Tryz.f52),(50,cb Tryz.f50),(111,cb Tryz.f111),(172,cb Tryz.f172),(203,cb Tryz.f203),(173,cb Tryz.f173),(171,cb Tryz.f171),(204,cb Tryz.f204),(110,cb Tryz.f110),(174,cb Tryz.f174),(56,cb Tryz.f56),(112,cb Tryz.f112),(53,cb Tryz.f53),(114,cb Tryz.f114),(54,cb Tryz.f54),(115,cb Tryz.f115),(116,cb Tryz.f116),(117,cb Tryz.f117),(55,cb Tryz.f55),(118,cb Tryz.f118),(177,cb Tryz.f177),(119,cb Tryz.f119),(178,cb Tryz.f178),(120,cb Tryz.f120),(18,cb Tryz.f18),(10,cb Tryz.f10),(35,cb Tryz.f35),(36,cb Tryz.f36),(89,cb Tryz.f89),(34,cb Tryz.f34)]
set_option maxRecDepth 1000000 in
def hI:iE (λe=>C8 X e.1 e.2) I:=by repeat' first|exact trivial|exact aDS (by kernel_rfl) (by kernel_rfl) (by kernel_rfl)|refine⟨?_,?_⟩
def Ss:List SI:=[⟨0,35,30⟩,⟨1,34,58⟩]
def hS:iE (C7 X I) Ss:=⟨⟨RW.1,⟨[false,true,true,true],by kernel_rfl,by kernel_rfl⟩,by kernel_rfl⟩,⟨yO.1,⟨[false,true,false,true,true],by kernel_rfl,by kernel_rfl⟩,by kernel_rfl⟩,trivial⟩
noncomputable def fi9:FI:=cb Tryz.f9
def aLw:asB (yD X (LA X I Ss 64 64 9) fi9.c fi9.rs [] [] kB)=true:=by kernel_rfl
def aMx:lh X 9 [] [] (.bool true) []:=aAp hX hG hI hS (fi:=fi9) (by kernel_rfl) aLw
end Go.Proofs.YtomkobcipaligaaGreatDoor.Cl
namespace Go.Proofs.YtomkobcipaligaaGreatDoor
open Go Go.az
set_option maxRecDepth 100000
noncomputable section
noncomputable def Y5:List (Nat×Site):=[(0,Y4 17 (nn Tryz.f35) 30)]
noncomputable def RH:List (Nat×TI):=[0,1,2,3,4,5,9,22,23,24,26,29,32,33,34,35,36,37,38,39,41,51,52,54,55,57,63,64,67,69,70,72,74,79,82,84,88,89,91,93,94,96,98,99,102,103,110,112,113,115,116,118,120,134,157,166,167,203,204,206,207,208,218,219,223,236,237,239,261,264,267,275].map λt=>(t,wO Tryz.prog t)
def rdL:pT:=[2,3,4,22,23,24,26,29,32,33,34,35,36,37,38,39,41,51,52,54,55,57,67,110,112,113,115,116,118,120,134]
def Sx:Nat->AV:=λg=>match g with|_=> .top
def aDN:∀g,Sx g= .top ∨(Sx g).pure =true:=λg=>by unfold Sx;split<;>first|exact .inl rfl|exact .inr rfl
def vwL:List (Nat×Nat):=[(28,36),(41,88),(44,88),(56,36)]
noncomputable def CX:Cx:=⟨Tryz.prog,oA RH,Zf Y5,Sx,tR [166],true,λd t=>YL vwL d t,none⟩
def hX:CX.Ok:=aFg aDN (el:=[166]) (by kernel_rfl) (by repeat' first|exact trivial|refine⟨?_,?_⟩|rfl|kernel_rfl) ⟨(by show An Tryz.prog _=true;kernel_rfl),trivial⟩
abbrev tP:Nat:=3
abbrev aDa:Nat:=36
abbrev Nz:Nat:=41
abbrev EB:Nat:=54
abbrev aeO:Nat:=57
abbrev aeP:Nat:=67
abbrev arD:Nat:=69
abbrev Ez:Nat:=98
abbrev NA:Nat:=110
abbrev MG:Nat:=112
abbrev NT:Nat:=115
abbrev EA:Nat:=118
abbrev afc:Nat:=120
abbrev aeo:Nat:=134
abbrev abV:Nat:=157
abbrev aen:Nat:=166
abbrev pw:bp:=[.bool false,.bool false,.ab tP ([]),iI 0,iI 0]
abbrev sI:bp:=[.bool false,.bool false,.ab tP ([]),iI 0,iI 1]
abbrev Kw:bp:=[.bool false,.bool false,.ab tP ([]),iI ((-2147483648)),iI 2147483647]
abbrev RF:bp:=[.bool false,.bool false,.ab tP ([]),iI 0,iI 32]
abbrev rD:bp:=[.int .u8 1,iI 0,iI 0,iI 0,iI 0,iI 0,.bool false,.bool false,.bool false,.bool false,.bool false,.int .u8 0,.ab EB ([]),.ab EB ([]),.ab EA ([]),.ab EA ([]),.ab tP ([]),.ab Nz ([]),.ab NA ([]),.ab MG ([]),.ab NT ([])]
abbrev Kv:bp:=[.int .u8 0,iI 0,iI 0,iI 0,iI 0,iI 0,.bool false,.bool false,.bool false,.bool false,.bool false,.int .u8 0,.ab EB ([]),.ab EB ([]),.ab EA ([]),.ab EA ([]),.ab tP ([]),.ab Nz ([]),.ab NA ([]),.ab MG ([]),.ab NT ([])]
def Bt:Nat:=0
def Wn:Nat:=1
def NY:Nat:=2
def Ie:Nat:=3
def tG:Nat:=4
def VP:Nat:=5
def V5:Nat:=6
def EF:Nat:=7
def NV:Nat:=8
def ED:Nat:=9
def qZ:Nat:=10
def BX:Nat:=11
def Oc:Nat:=12
def Iw:Nat:=13
def V6:Nat:=14
def Ob:Nat:=15
def Oe:Nat:=16
def vX:Nat:=17
def V7:Nat:=18
def NF:Nat:=19
def NX:Nat:=20
def V4:Nat:=21
def HZ:Nat:=22
def pO:Nat:=23
def NW:Nat:=24
def UP:Nat:=25
def NG:Nat:=26
def xp:Nat:=27
def VQ:Nat:=28
def Bs:Nat:=29
def zr:Nat:=30
def uF:Nat:=31
def Es:Nat:=32
def Bu:Nat:=33
def Bh:Nat:=34
def WL:Nat:=35
def Ib:Nat:=36
def Bb:Nat:=37
def xq:Nat:=38
def HB:Nat:=39
def Ei:Nat:=40
def Eg:Nat:=41
def mX:Nat:=42
def EP:Nat:=43
def adJ:Nat:=44
def ND:Nat:=45
def Od:Nat:=46
def Wm:Nat:=47
def M3:Nat:=48
def Ic:Nat:=49
def Er:Nat:=50
def Us:Nat:=51
def Im:Nat:=52
def Eh:Nat:=53
def EG:Nat:=54
def Md:Nat:=55
def UQ:Nat:=56
def LW:Nat:=57
def MH:Nat:=59
def Xn:Nat:=62
def NH:Nat:=64
def M4:Nat:=69
def xH:Nat:=70
def tD:Nat:=71
def Vx:Nat:=72
def Et:Nat:=73
def SP:Nat:=74
def SV:Nat:=75
def US:Nat:=76
def NJ:Nat:=77
def TB:Nat:=78
def Vc:Nat:=79
def Ut:Nat:=80
def H0:Nat:=81
def MI:Nat:=82
def Ig:Nat:=83
def HC:Nat:=84
def V8:Nat:=85
def adM:Nat:=86
def M5:Nat:=87
def Vz:Nat:=88
def adL:Nat:=89
def Vy:Nat:=90
def adK:Nat:=91
def Hr:Nat:=92
def A8:Nat:=93
def A7:Nat:=94
def Bf:Nat:=95
def Mz:Nat:=96
def xA:Nat:=97
def qV:Nat:=98
def NZ:Nat:=99
def VS:Nat:=100
def H3:Nat:=101
def L4:Nat:=109
def S7:Nat:=126
def TE:Nat:=127
def Ih:Nat:=128
def rV:Nat:=129
def acn:Nat:=130
def SQ:Nat:=131
def SW:Nat:=132
def Vw:Nat:=133
def jZ:Nat:=134
def NI:Nat:=135
def HQ:Nat:=136
def LQ:Nat:=137
def aw6:Nat:=138
def T9:Nat:=139
def LO:Nat:=140
def av2:Nat:=141
def SU:Nat:=142
def SN:Nat:=143
def auP:Nat:=144
def SE:Nat:=145
def auO:Nat:=146
def SS:Nat:=147
def auN:Nat:=148
def TU:Nat:=149
def No:Nat:=150
def Mj:Nat:=151
def Be:Nat:=152
def xo:Nat:=153
def Ea:Nat:=154
def Bl:Nat:=155
def SD:Nat:=156
def SH:Nat:=157
def TS:Nat:=158
def LC:Nat:=159
def SK:Nat:=160
def TC:Nat:=161
def zl:Nat:=162
def SJ:Nat:=163
def SR:Nat:=164
def Uc:Nat:=165
def UR:Nat:=166
def H2:Nat:=167
def abe:Nat:=168
def abp:Nat:=169
def Vd:Nat:=170
def Hl:Nat:=171
def Bc:Nat:=172
def Hp:Nat:=173
def Mr:Nat:=174
def D5:Nat:=175
def Hx:Nat:=176
def uG:Nat:=177
def Ms:Nat:=178
def SG:Nat:=179
def SL:Nat:=180
def TV:Nat:=181
def Io:Nat:=182
def My:Nat:=183
def Ua:Nat:=184
def LK:Nat:=185
def TD:Nat:=186
def Hy:Nat:=187
def D4:Nat:=188
def Ht:Nat:=189
def LV:Nat:=190
def BE:Nat:=191
def Mi:Nat:=192
def DY:Nat:=193
def DX:Nat:=194
def Me:Nat:=195
def SC:Nat:=196
def LH:Nat:=197
def TT:Nat:=198
def WM:Nat:=199
def xw:Nat:=200
def VR:Nat:=201
def azj:List ez:=[.cell (.slice 120),.cell (.int .i64),.cell (.slice 57),.cell (.slice 67)]
def dD:List ez:=[.cell (.int .u8),.cell (.int .i64),.cell (.int .i64),.cell (.int .i64),.cell (.int .i64),.cell (.int .i64),.cell .bool,.cell .bool,.cell .bool,.cell .bool,.cell .bool,.cell (.int .u8),.cell (.slice 54),.cell (.slice 54),.cell (.slice 118),.cell (.slice 118),.cell (.slice 3),.cell (.slice 41),.cell (.slice 110),.cell (.slice 112),.cell (.slice 115)]
def azY:List ez:=[.cell (.int .i64),.cell (.int .i64),.cell (.int .i64),.cell .bool,.cell (.slice 3)]
def azi:List ez:=[.cell (.int .i64),.cell (.slice 3),.cell (.slice 54)]
def Bx:List ez:=[.cell (.int .u8),.cell (.int .u8),.cell (.int .i64),.cell (.int .i64),.cell (.int .i64),.cell (.int .i64),.cell (.int .i64),.cell (.int .i64),.cell (.slice 54)]
def aA6:List ez:=[.cell (.int .u8),.cell (.int .u8),.cell (.int .i64),.cell (.int .i64),.cell (.int .i64),.cell (.int .i64),.cell (.int .i64),.cell (.int .i64),.cell .any]
def axE:List ez:=[.cell .bool,.cell .bool,.cell (.slice 3),.cell (.int .i64),.cell (.int .i64)]
def ayu:List ez:=[.cell (.slice 120),.cell (.slice 69),.cell (.int .i64)]
def aA7:List ez:=[.cell .bool,.cell .bool,.cell .any,.cell (.int .i64),.cell (.int .i64)]
def ayv:List ez:=[.cell (.slice 120),.cell (.int .i64),.cell (.slice 57),.cell (.slice 67),.cell (.slice 157),.cell (.int .i64),.cell (.slice 3),.cell (.slice 3),.cell (.slice 3),.cell (.slice 3),.cell (.slice 3),.cell .bool,.cell .bool,.cell .bool,.cell (.int .i64),.cell (.int .i64)]
def aBc:List ez:=[.cell (.int .u8),.cell (.int .i64),.cell (.int .i64),.cell (.int .i64),.cell (.int .i64),.cell (.int .i64),.cell .bool,.cell .bool,.cell .bool,.cell .bool,.cell .bool,.cell (.int .u8),.cell .any,.cell .any,.cell .any,.cell .any,.cell .any,.cell .any,.cell .any,.cell .any,.cell .any]
def ayw:List ez:=[.cell (.int .u8),.cell (.int .i64),.cell (.int .i64),.cell (.int .i64),.cell (.slice 54)]
def aA8:List ez:=[.cell (.int .u8),.cell (.int .i64),.cell (.int .i64),.cell (.int .i64),.cell .any]
def avq:List ez:=[.cell (.slice 3),.cell (.int .u8),.cell (.int .i64),.cell (.int .i64),.cell (.int .i64),.cell (.int .i64),.cell (.int .i64),.cell .bool,.cell .bool,.cell .bool,.cell .bool,.cell .bool,.cell (.int .u8),.cell (.slice 54),.cell (.slice 54),.cell (.slice 118),.cell (.slice 118),.cell (.slice 3),.cell (.slice 41),.cell (.slice 110),.cell (.slice 112),.cell (.slice 115)]
def aBd:List ez:=[.cell (.slice 120),.cell (.int .i64),.cell (.slice 57),.cell (.slice 67),.cell (.slice 157),.cell (.int .i64),.cell (.slice 3),.cell (.slice 3),.cell .any,.cell (.slice 3),.cell (.slice 3),.cell .bool,.cell .bool,.cell .bool,.cell (.int .i64),.cell (.int .i64)]
def aBe:List ez:=[.cell (.slice 120),.cell (.int .i64),.cell (.slice 57),.cell (.slice 67),.cell (.slice 157),.cell (.int .i64),.cell (.slice 3),.cell (.slice 3),.cell (.slice 3),.cell .any,.cell (.slice 3),.cell .bool,.cell .bool,.cell .bool,.cell (.int .i64),.cell (.int .i64)]
def azk:List ez:=[.cell (.int .u8),.cell (.int .u8),.cell (.int .u8),.cell (.int .i64),.cell (.int .i64),.cell (.int .i64),.cell (.int .i64),.cell (.int .i64),.cell (.int .i64),.cell (.slice 54),.cell (.int .i64),.cell (.slice 54),.cell (.int .u8),.cell (.int .i64),.cell (.int .i64),.cell (.int .i64),.cell (.int .i64),.cell (.int .i64),.cell .bool,.cell .bool,.cell .bool,.cell .bool,.cell .bool,.cell (.int .u8),.cell (.slice 54),.cell (.slice 54),.cell (.slice 118),.cell (.slice 118),.cell (.slice 3),.cell (.slice 41),.cell (.slice 110),.cell (.slice 112),.cell (.slice 115),.cell (.int .u8),.cell (.int .i64),.cell (.int .i64),.cell (.int .i64),.cell (.int .i64),.cell (.int .i64),.cell .bool,.cell .bool,.cell .bool,.cell .bool,.cell .bool,.cell (.int .u8),.cell (.slice 54),.cell (.slice 54),.cell (.slice 118),.cell (.slice 118),.cell (.slice 3),.cell (.slice 41),.cell (.slice 110),.cell (.slice 112),.cell (.slice 115)]
def aA4:List ez:=[.cell (.slice 120),.cell (.int .i64),.cell .any,.cell (.slice 67)]
def ayx:List ez:=[.cell (.int .u8),.cell (.int .i64),.cell (.int .i64),.cell (.int .i64),.cell (.int .i64),.cell (.int .i64),.cell .bool,.cell .bool,.cell .bool,.cell .bool,.cell .bool,.cell (.int .u8),.cell (.slice 54),.cell (.slice 54),.cell (.slice 118),.cell (.slice 118),.cell (.slice 3),.cell (.slice 41),.cell (.slice 110),.cell (.slice 112),.cell (.slice 115),.cell (.int .u8),.cell (.int .i64),.cell (.int .i64),.cell (.int .i64),.cell (.int .i64),.cell (.int .i64),.cell .bool,.cell .bool,.cell .bool,.cell .bool,.cell .bool,.cell (.int .u8),.cell (.slice 54),.cell (.slice 54),.cell (.slice 118),.cell (.slice 118),.cell (.slice 3),.cell (.slice 41),.cell (.slice 110),.cell (.slice 112),.cell (.slice 115)]
def axF:List ez:=[.cell (.int .i64),.cell (.int .i64),.cell (.int .i64)]
def aA9:List ez:=[.cell (.slice 120),.cell (.int .i64),.cell (.slice 120),.cell (.int .i64),.cell (.slice 57),.cell (.slice 67),.cell .any,.cell (.int .i64),.cell .any]
def aBb:List ez:=[.cell .any,.cell (.int .i64),.cell (.slice 3),.cell (.slice 3),.cell (.slice 3),.cell (.slice 3),.cell (.slice 3),.cell .bool,.cell .bool,.cell .bool,.cell (.int .i64),.cell (.int .i64)]
def aA5:List ez:=[.cell .any,.cell (.int .i64),.cell (.slice 3),.cell (.slice 3),.cell .any,.cell (.slice 3),.cell (.slice 3),.cell .bool,.cell .bool,.cell .bool,.cell (.int .i64),.cell (.int .i64)]
def aBa:List ez:=[.cell .any,.cell (.int .i64),.cell (.slice 3),.cell (.slice 3),.cell (.slice 3),.cell .any,.cell (.slice 3),.cell .bool,.cell .bool,.cell .bool,.cell (.int .i64),.cell (.int .i64)]
end
noncomputable section
def v0:fu:=bV [cU,cI,cI,cI,cI,cI,cB,cB,cB,cB,cB,cU,cS 54,cS 54,cS 118,cS 118,cS 3,cS 41,cS 110,cS 112,cS 115]
def s1:ax:=⟨[eP 1 0,eO 3 1,eI 4],[v0,.row 41]⟩
def s2:ax:=⟨[eO 3 1],[v0,.row 41]⟩
def avD:Pc:=pL 0 58 1 536870808 s1 [xE 0 s2]
def s3:ax:=⟨[eP 1 0,eO 3 1],[v0,.row 41]⟩
def avW:Pc:=dY [.mk 3 41] (pJ 0 14 1 536870808 s3 [xN s2])
def s4:ax:=⟨[eP 1 0,eO 3 1,eI 5],[v0,.row 41]⟩
def aun:Pc:=pL 0 250 1 562941363486760 s4 [xE 2 s2]
def avV:Pc:=pJ 0 62 1 562941363486760 s3 [xN s2]
def s5:ax:=⟨[eP 1 0,eO 3 1,eI 6],[v0,.row 41]⟩
def aum:Pc:=pL 0 506 1 2361182678484869185608 s5 [xE 4 s2]
def h6:List ez:=[cU,cI,cI,cI,cI,cI,cB,cB,cB,cB,cB,cU,cS 54,cS 54,cS 118,cS 118,cS 3,cS 41,cS 110,cS 112,cS 115]
def s7:ax:=⟨[eA 0 h6],[]⟩
def s8:ax:=⟨[eO 0 0],[.row 41]⟩
noncomputable def EL:FD:=cp 38 Tryz.f38 1 1 0 s7 s8 [] (.pc aum<| .pc avV<| .pc aun<| .pc avW<| .pc avD<| .nil)
def s9:ax:=⟨[eI 3,eO 4 0,eI 5],[.row 41]⟩
def s10:ax:=⟨[eI 3],[.row 41]⟩
def avA:Pc:=pL 0 122 1 2096936 s9 [xE 0 s10]
def Az:ax:=⟨[eI 0],[]⟩
noncomputable def afa:FD:=cp 25 Tryz.f25 1 1 0 s7 Az [.fn 2,.fn 3] (.pc avA<| .nil)
def v12:fu:=bV [cS 120,cI,cS 57,cS 67]
def Dd:ax:=⟨[eP 1 0],[v12]⟩
def vt:ax:=⟨[eB 2],[v12]⟩
def axU:Pc:=pJ 0 6 1 2097124 Dd [xN ⟨[],[v12]⟩,xR vt]
def s15:ax:=⟨[eP 1 0,eI 3,eI 4],[v12]⟩
def avE:Pc:=pL 0 122 1 562949951324188 s15 [xR vt,xE 0 ⟨[],[v12]⟩]
def iR:List ez:=[cS 120,cI,cS 57,cS 67]
def Db:ax:=⟨[eA 0 iR],[]⟩
def ew:ax:=⟨[eB 0],[]⟩
noncomputable def Ww:FD:=cp 7 Tryz.f7 1 1 0 Db ew [.fn 2] (.pc avE<| .pc axU<| .nil)
def s19:ax:=⟨[eS 0 3,eI 1,eI 2,eI 7],[]⟩
def yJ:ax:=⟨[eB 6],[]⟩
def avy:Pc:=pL 0 26 0 17592186044352 s19 [xR yJ,xE 0 ⟨[],[]⟩]
def RP:ax:=⟨[eS 0 3,eI 1,eI 2],[]⟩
noncomputable def aeE:FD:=cp 77 Tryz.f77 3 1 0 RP ew [] (.pc avy<| .nil)
def sL:fu:=bV [cI,cI,cI,cB,cS 3]
def s23:ax:=⟨[eP 3 0],[sL]⟩
def s24:ax:=⟨[eB 4],[sL]⟩
def awU:Pc:=pJ 0 6 1 16336 s23 [xN ⟨[],[sL]⟩,xR s24]
def s25:ax:=⟨[eS 0 120,eP 3 0],[sL]⟩
def avL:Pc:=pJ 0 30 1 1152921229728940048 s25 [xN ⟨[],[sL]⟩,xR s24]
def s26:ax:=⟨[eS 0 120,eP 3 0,eI 5],[sL]⟩
def aug:Pc:=pL 0 250 1 309485008668423564117934128 s26 [xR s24,xE 0 ⟨[],[sL]⟩]
def Lo:List ez:=[cI,cI,cI,cB,cS 3]
def s28:ax:=⟨[eS 0 120,eA 1 Lo],[]⟩
noncomputable def NN:FD:=cp 76 Tryz.f76 2 1 0 s28 ew [.fn 7] (.pc aug<| .pc avL<| .pc awU<| .nil)
def s29:ax:=⟨[eS 0 120],[]⟩
def s30:ax:=⟨[eB 2],[]⟩
def avT:Pc:=pJ 0 6 0 8164 s29 [xN ⟨[],[]⟩,xR s30]
def s31:ax:=⟨[eS 0 120,eI 3,eI 4],[]⟩
def s32:ax:=⟨[eI 3],[]⟩
def atk:Pc:=pL 0 122 0 8589926428 s31 [xR s30,xE 0 s32]
noncomputable def VV:FD:=cp 26 Tryz.f26 1 1 0 s29 ew [.fn 6] (.pc atk<| .pc avT<| .nil)
def s33:ax:=⟨[eS 0 3,eI 1,eI 5],[]⟩
def Da:ax:=⟨[eB 4],[]⟩
def azo:Pc:=pL 0 26 0 262128 s33 [xR Da,xE 0 ⟨[],[]⟩]
def RN:ax:=⟨[eS 0 3,eI 1],[]⟩
noncomputable def ag5:FD:=cp 81 Tryz.f81 2 1 0 RN ew [] (.pc azo<| .nil)
def avt:Pc:=pL 0 26 0 274877906880 s19 [xR yJ,xE 0 ⟨[],[]⟩]
noncomputable def aeC:FD:=cp 78 Tryz.f78 3 1 0 RP ew [.fn 10] (.pc avt<| .nil)
def s36:ax:=⟨[eP 1 0,eO 4 1,eI 5],[v12,.row 157]⟩
def s37:ax:=⟨[eO 4 1],[v12,.row 157]⟩
def awG:Pc:=pL 0 58 1 1073217584 s36 [xE 0 s37]
def s38:ax:=⟨[eP 1 0,eO 4 1],[v12,.row 157]⟩
def awT:Pc:=dY [.mk 4 157] (pJ 0 14 1 1073217584 s38 [xN s37])
def s39:ax:=⟨[eP 1 0,eO 4 1,eI 6,eI 7],[v12,.row 157]⟩
def yI:ax:=⟨[eO 2 2,eB 3],[v12,.row 157,.row 157]⟩
def yH:ax:=⟨[],[v12,.row 157]⟩
def atj:Pc:=pL 0 15654 2 1208925819051679221285260 s39 [(.ret,[.mk 2 157],yI),xE 4 yH]
def s42:ax:=⟨[eP 1 0,eO 4 1,eI 6],[v12,.row 157]⟩
def avx:Pc:=pL 0 122 2 1208925819614628100964812 s42 [(.ret,[.mk 2 157],yI),xE 2 yH]
def awS:Pc:=pJ 0 30 2 1208925819614628100964812 s38 [xN yH,xR yI]
def gU:fu:=bV [cS 3,cS 3]
def s44:ax:=⟨[eP 1 0,eP 11 1],[v12,gU]⟩
def s45:ax:=⟨[],[v12,gU]⟩
def s46:ax:=⟨[eO 2 2,eB 3],[v12,gU,.row 157]⟩
def arN:Pc:=pJ 0 1025170 2 174224571701261216464034435613487313977356 s44 [xN s45,(.ret,[.mk 2 157],s46)]
def s47:ax:=⟨[eO 4 0,eI 9,eI 10,eI 14],[.row 157]⟩
def s48:ax:=⟨[eB 15],[.row 157]⟩
def aqw:Pc:=pJ 0 524887954 1 1496554840663761292882476336125962620205492800094208 s47 [xN s48]
def s49:ax:=⟨[eP 1 0,eO 4 1,eI 14,eB 15],[v12,.row 157]⟩
def ap7:Pc:=pJ 0 1049775910 2 200867254035796107815900673302072056613801562095174180405260 s49 [xN yH,(.ret,[.mk 2 157],yI)]
def s50:ax:=⟨[eP 1 0,eO 4 1,eI 9,eI 10,eO 12 2,eI 13],[v12,.row 157,.row 3]⟩
def s51:ax:=⟨[eO 2 3,eB 3],[v12,.row 157,.row 3,.row 157]⟩
def s52:ax:=⟨[],[v12,.row 157,.row 3]⟩
def arH:Pc:=pL 0 8201374 3 205688069665150755247070402621138189981306264931549121412653068 s50 [xR s51,xE 10 s52]
def s53:ax:=⟨[eP 1 0,eO 4 1,eI 9,eI 10],[v12,.row 157]⟩
def ati:Pc:=pL 0 16018 2 205688069665150755269371147819668812968099478293524948556250124 s53 [xR yI,xE 8 yH]
def s54:ax:=⟨[eP 1 0,eO 4 1,eI 9],[v12,.row 157]⟩
def avw:Pc:=pL 0 250 2 205688069665150755269371147819668813121633057384582853743934988 s54 [xR yI,xE 6 yH]
def awR:Pc:=pJ 0 62 2 205688069665150755269371147819668813121633057384582853743934988 s38 [xN yH,xR yI]
def s55:ax:=⟨[eP 1 0,eO 4 1,eI 16,eI 17],[v12,.row 157]⟩
def ath:Pc:=pL 0 32402 2 452312848556938315456184863515707633130918269520434679428993909717333311500 s55 [(.ret,[.mk 2 157],yI),xE 14 yH]
def s56:ax:=⟨[eP 1 0,eO 4 1,eI 16],[v12,.row 157]⟩
def avv:Pc:=pL 0 506 2 452312848583060700303659009434917768904016208787035611295926990047992545292 s56 [xR yI,xE 12 yH]
def s57:ax:=⟨[eO 0 0,eB 1],[.row 157]⟩
noncomputable def qp:FD:=cp 27 Tryz.f27 1 2 0 Db s57 [.fn 7,.fn 9] (.pc avv<| .pc ath<| .pc awR<| .pc avw<| .pc ati<| .pc arH<| .pc ap7<| .pc aqw<| .pc arN<| .pc awS<| .pc avx<| .pc atj<| .pc awT<| .pc awG<| .nil)
def s58:ax:=⟨[eI 1,eI 2],[]⟩
def s59:ax:=⟨[eI 6],[]⟩
def ayz:Pc:=pJ 0 6 0 64576 s58 [xN ⟨[],[]⟩,xR s59]
def gK:fu:=bV [cU,cU,cI,cI,cI,cI,cI,cI,cS 54]
def s61:ax:=⟨[eI 1,eI 2,eP 3 0,eI 7,eI 8],[gK]⟩
def s62:ax:=⟨[eI 6],[gK]⟩
def s63:ax:=⟨[eI 7],[gK]⟩
def awE:Pc:=pL 0 122 1 549755749312 s61 [xR s62,xE 0 s63]
def ql:List ez:=[cU,cU,cI,cI,cI,cI,cI,cI,cS 54]
def s65:ax:=⟨[eA 0 ql,eI 1,eI 2],[]⟩
noncomputable def WU:FD:=cp 79 Tryz.f79 3 1 0 s65 Az [.fn 12] (.pc awE<| .pc ayz<| .nil)
def RM:ax:=⟨[(9,.one (cU))],[]⟩
def s67:ax:=⟨[eB 10],[]⟩
def auz:Pc:=pJ 0 244 0 15360 RM [xN s67]
def s68:ax:=⟨[eB 46],[]⟩
def arS:Pc:=pJ 0 251902 0 1055531162664960 RM [xN s68]
def Ky:fu:=bV [cU,cU,cI,cI,cI,cI,cI,cI,.aA 2]
def s70:ax:=⟨[eP 1 0,eP 3 1,eI 4],[gK,Ky,.row 54]⟩
def s71:ax:=⟨[eI 4],[gK,Ky,.row 54]⟩
def s72:ax:=⟨[eB 2],[gK,Ky,.row 54]⟩
def avR:Pc:=dY [cK 3 8 54] (pJ 0 30 2 147573952589676412692 s70 [xN s71,xR s72])
def s73:ax:=⟨[eA 0 ql],[]⟩
noncomputable def NO:FD:=cp 121 Tryz.f121 1 1 0 s73 ew [] (.pc avR<| .pc arS<| .pc auz<| .nil)
def s74:ax:=⟨[eS 0 120,eI 1,eI 2],[]⟩
noncomputable def aAN:FD:=cp 122 Tryz.f122 3 1 0 s74 ew [] .nil
def s75:ax:=⟨[eS 0 120,eI 1,eI 2,eI 3],[]⟩
noncomputable def aAP:FD:=cp 123 Tryz.f123 4 1 0 s75 ew [] .nil
def vR:List ez:=[cB,cB,cS 3,cI,cI]
def RK:ax:=⟨[eA 0 vR],[]⟩
noncomputable def aAk:FD:=cp 29 Tryz.f29 1 1 0 RK ew [] .nil
def jW:fu:=bV [cB,cB,cS 3,cI,cI]
def s79:ax:=⟨[eP 4 0,eP 5 1],[jW,jW]⟩
def s80:ax:=⟨[eB 8],[jW,jW]⟩
def awY:Pc:=pJ 0 6 2 130816 s79 [xN s80]
def RJ:ax:=⟨[(17,.one (cU))],[]⟩
def s82:ax:=⟨[eB 18],[]⟩
def auC:Pc:=pJ 0 116 0 33292288 RJ [xN s82]
def s83:ax:=⟨[eB 27],[]⟩
def auB:Pc:=pJ 0 470 0 939524096 RJ [xN s83]
def s84:ax:=⟨[eB 48],[]⟩
def atu:Pc:=pJ 0 1886 0 8725724278030336 RJ [xN s84]
def s85:ax:=⟨[eB 55],[]⟩
def att:Pc:=pJ 0 7550 0 540431955284459520 RJ [xN s85]
def s86:ax:=⟨[(0,.one (cU)),eA 1 vR,eA 2 vR],[]⟩
def Ay:ax:=⟨[eA 0 vR,eB 1],[]⟩
noncomputable def EK:FD:=nw [.iV 0 [.raw,.raw,.slice 3,.raw,.raw]] 124 Tryz.f124 3 2 0 s86 Ay [.fn 17] (.pc att<| .pc atu<| .pc auB<| .pc auC<| .pc awY<| .nil)
def s88:ax:=⟨[eO 0 0,eI 1,eI 5],[.row 3]⟩
def s89:ax:=⟨[eB 4],[.row 3]⟩
def vq:ax:=⟨[],[.row 3]⟩
def awI:Pc:=pL 1 26 1 262128 s88 [xR s89,xE 0 vq]
def s91:ax:=⟨[eO 0 0,eI 1],[.row 3]⟩
def s92:ax:=⟨[eB 0],[.row 3]⟩
noncomputable def ae8:FD:=cp 81 Tryz.f81 2 1 1 s91 s92 [] (.pc awI<| .nil)
def s93:ax:=⟨[eP 2 0,eP 3 1],[jW,jW]⟩
def s94:ax:=⟨[eB 15],[jW,jW]⟩
def avQ:Pc:=pJ 0 12 2 64512 s93 [xN s94]
def wW:fu:=bV [cB,cB,.aA 2,cI,cI]
def s96:ax:=⟨[eP 4 0,eO 7 1,eI 8],[wW,.row 69,.row 3]⟩
def s97:ax:=⟨[],[wW,.row 69,.row 3]⟩
def s98:ax:=⟨[eB 5],[wW,.row 69,.row 3]⟩
def asF:Pc:=pJ 0 27464 2 549739036704 s96 [xN s97,(.ret,[.sR (λenv M=>0) 2 3],s98)]
def s99:ax:=⟨[eO 7 0,eI 8,eI 9],[.row 69]⟩
def amV:ax:=⟨[],[.row 69]⟩
def arQ:Pc:=pJ 0 439448 1 18013848753668096 s99 [xN amV,xE 2 amV]
def aLu:ax:=⟨[eP 6 0,eO 7 1,eI 8,eI 9],[wW,.row 69,.row 3]⟩
def arI:Pc:=pL 0 109862 2 2417851639228708593598976 aLu [xE 2 s97]
def rn:fu:=bV [cB,cB,.aA 3,cI,cI]
def tT:fu:=bV [cB,cB,.aA 4,cI,cI]
def aLt:ax:=⟨[eP 4 0,eP 6 1,eO 7 2,eI 8],[rn,tT,.row 69,.row 3,.row 3]⟩
def aLs:ax:=⟨[eB 5],[rn,tT,.row 69,.row 3,.row 3]⟩
def aLr:ax:=⟨[],[rn,tT,.row 69,.row 3,.row 3]⟩
def auh:Pc:=dY [cK 4 2 3,cK 6 2 3] (pL 0 858 3 2417851639229258348364576 aLt [xR aLs,xE 0 aLr])
def amU:ax:=⟨[eA 0 vR,eA 1 vR],[]⟩
noncomputable def EI:FD:=nw [.iV 0 [.raw,.raw,.slice 3,.raw,.raw]] 125 Tryz.f125 2 2 0 amU Ay [.fn 20] (.pc auh<| .pc arI<| .pc arQ<| .pc asF<| .pc avQ<| .nil)
def amT:ax:=⟨[eP 3 0,eP 4 1],[jW,wW,.row 3]⟩
def Z5:ax:=⟨[],[jW,wW,.row 3]⟩
def amS:ax:=⟨[eB 5],[jW,wW,.row 3]⟩
def awO:Pc:=dY [cK 4 2 3] (pJ 0 6 2 261664 amT [xN Z5,(.ret,[.sR (λenv M=>1) 2 3],amS)])
def aLq:ax:=⟨[eS 0 120,eP 3 0,eP 6 1,eI 7],[jW,wW,.row 3]⟩
def aue:Pc:=dY [cK 6 2 3] (pL 0 122 2 18014398508958080 aLq [xE 0 Z5])
def aLp:ax:=⟨[eS 0 120,eA 1 vR],[]⟩
def aNj:List ez:=[cB,cB,.aA 0,cI,cI]
def Z4:ax:=⟨[eA 0 aNj,eB 1],[.row 3]⟩
noncomputable def Wb:FD:=cp 126 Tryz.f126 2 2 0 aLp Z4 [] (.pc aue<| .pc awO<| .nil)
def wN:fu:=bV [cS 120,cS 69,cI]
def aLo:ax:=⟨[eP 2 0,eP 3 1,eO 6 2,eI 7,eP 8 3],[wN,gK,.row 69,wN]⟩
def aLn:ax:=⟨[],[wN,gK,.row 69,wN]⟩
def avJ:Pc:=pJ 0 7826 4 70368207306752 aLo [(.normal,[.nF (λenv M=>3) 1 69],aLn)]
def aLm:ax:=⟨[eP 2 0,eP 3 1,eP 4 2,eO 6 3,eI 7],[wN,gK,tT,.row 69,.row 3]⟩
def amR:ax:=⟨[eB 5],[wN,gK,rn,.row 3]⟩
def amQ:ax:=⟨[eO 6 3],[wN,gK,tT,.row 69,.row 3]⟩
def awD:Pc:=pL 0 122 3 9223372036852680672 aLm [(.ret,[.sR (λenv M=>2) 2 3],amR),xE 0 amQ]
def aLl:ax:=⟨[eP 2 0,eP 3 1,eP 4 2,eO 6 3],[wN,gK,tT,.row 69,.row 3]⟩
def axO:Pc:=dY [.mk 6 69,cK 4 2 3] (pJ 0 30 3 9223372036852680672 aLl [xN amQ,xR amR])
def aLk:ax:=⟨[(64,.one (cU))],[]⟩
def aLj:ax:=⟨[eB 181],[]⟩
def atp:Pc:=pJ 0 514046 0 21454937572122444017016858380104328570662347710570430464 aLk [xN aLj]
def aLi:ax:=⟨[eP 2 0,eP 3 1],[wN,gK]⟩
def aLh:ax:=⟨[eB 16],[wN,gK]⟩
def aqv:Pc:=pJ 0 2105540604 2 4171849677590358612452047698942944567009888363585430602250676119025960492176409289058389393408 aLi [xN aLh]
def aNi:List ez:=[cS 120,cS 69,cI]
def amP:ax:=⟨[eA 0 aNi,eA 1 ql],[]⟩
noncomputable def EY:FD:=nw [.iV 0 [.raw,.raw,.slice 3,.raw,.raw]] 80 Tryz.f80 2 2 0 amP Ay [.fn 17,.fn 13,.fn 14,.fn 15,.fn 16,.fn 18,.fn 19,.fn 21] (.pc aqv<| .pc atp<| .pc axO<| .pc awD<| .pc avJ<| .nil)
noncomputable def aCX:FD:=nw [.iV 0 [.raw,.raw,.slice 3,.raw,.raw]] 28 Tryz.f28 2 2 0 amP Ay [.fn 12,.fn 13] .nil
def auD:Pc:=pJ 0 52 0 31744 RM [xN s67]
def aLg:ax:=⟨[eS 0 120,eS 1 3,eP 5 0],[gK]⟩
def amO:ax:=⟨[eB 6],[gK]⟩
def avS:Pc:=pJ 0 6 1 35184372088640 aLg [xN ⟨[],[gK]⟩,xR amO]
def aLf:ax:=⟨[eS 0 120,eS 1 3,eP 5 0,eI 7],[gK]⟩
def auj:Pc:=pL 0 58 1 2305807824841605312 aLf [xR amO,xE 1 ⟨[],[gK]⟩]
def amN:ax:=⟨[eS 0 120,eS 1 3,eA 2 ql],[]⟩
noncomputable def Np:FD:=cp 30 Tryz.f30 3 1 0 amN ew [.fn 22,.fn 10] (.pc auj<| .pc avS<| .pc auD<| .nil)
def amM:ax:=⟨[(12,.one (cU))],[]⟩
def aLe:ax:=⟨[eB 36],[]⟩
def arP:Pc:=pJ 0 8224766 0 481036337152 amM [xN aLe]
def aqx:Pc:=pJ 0 526385150 0 492581209243648 amM [xN s68]
def JU:fu:=bV [cU,cI,cI,cI,cI,cI,cB,cB,cB,cB,cB,cU,.aA 2,.aA 3,.aA 4,.aA 5,.aA 6,.aA 7,.aA 8,.aA 9,.aA 10]
def aLd:ax:=⟨[eP 1 0,eP 3 1,eI 4,eI 5,eI 6,eB 7],[v0,JU,.row 54,.row 54,.row 118,.row 118,.row 3,.row 41,.row 110,.row 112,.row 115]⟩
def aLc:ax:=⟨[eI 4,eI 5,eI 6,eB 7],[v0,JU,.row 54,.row 54,.row 118,.row 118,.row 3,.row 41,.row 110,.row 112,.row 115]⟩
def amL:ax:=⟨[eB 2],[v0,JU,.row 54,.row 54,.row 118,.row 118,.row 3,.row 41,.row 110,.row 112,.row 115]⟩
def awV:Pc:=dY [cK 3 12 54,cK 3 13 54,cK 3 14 118,cK 3 15 118,cK 3 16 3,cK 3 17 41,cK 3 18 110,cK 3 19 112,cK 3 20 115] (pJ 0 62 2 166153499473114484112975882535041268 aLd [xN aLc,xR amL])
def aLb:ax:=⟨[eP 1 0,eP 3 1],[v0,JU,.row 54,.row 54,.row 118,.row 118,.row 3,.row 41,.row 110,.row 112,.row 115]⟩
def aLa:ax:=⟨[],[v0,JU,.row 54,.row 54,.row 118,.row 118,.row 3,.row 41,.row 110,.row 112,.row 115]⟩
def avO:Pc:=pJ 0 126 2 6277101735386680763835623269708193301618242468581499469828 aLb [xN aLa,xR amL]
def aK9:ax:=⟨[eP 1 0,eI 4,eI 5,eI 6],[v0]⟩
def QZ:ax:=⟨[eB 2],[v0]⟩
def avN:Pc:=pJ 0 254 1 842498327071355758196663457633574035343494347102037445570453307396 aK9 [xN ⟨[],[v0]⟩,xR QZ]
def Z3:ax:=⟨[eP 1 0],[v0]⟩
def avM:Pc:=pJ 0 510 1 27606142888828906692245440104886632446345884727918341827760062407376900 Z3 [xN ⟨[],[v0]⟩,xR QZ]
def auv:Pc:=pJ 0 1022 1 1852673400190073739614880610399983076544217944845813135949775123476513179041796 Z3 [xN ⟨[],[v0]⟩,xR QZ]
noncomputable def zt:FD:=cp 82 Tryz.f82 1 1 0 s7 ew [] (.pc auv<| .pc avM<| .pc avN<| .pc avO<| .pc awV<| .pc aqx<| .pc arP<| .nil)
def awX:Pc:=pJ 0 6 1 32764 Z3 [xN ⟨[],[v0]⟩,xR QZ]
noncomputable def aeG:FD:=cp 127 Tryz.f127 1 1 0 s7 ew [] (.pc awX<| .nil)
def v143:fu:=bV [cS 120,cI,cS 57,cS 67,cS 157,cI,cS 3,cS 3,cS 3,cS 3,cS 3,cB,cB,cB,cI,cI]
def J0:ax:=⟨[eP 2 0,eP 3 1],[v143,v0]⟩
def yp:ax:=⟨[],[v143,v0]⟩
def Gi:ax:=⟨[eB 4],[v143,v0]⟩
def asJ:Pc:=pJ 0 6 2 8176 J0 [xN yp,xR Gi]
def arU:Pc:=pJ 0 14 2 17179861008 J0 [xN yp,xR Gi]
def yB:List ez:=[cS 120,cI,cS 57,cS 67,cS 157,cI,cS 3,cS 3,cS 3,cS 3,cS 3,cB,cB,cB,cI,cI]
def JZ:ax:=⟨[eA 0 yB,eA 1 h6],[]⟩
noncomputable def UU:FD:=cp 83 Tryz.f83 2 1 0 JZ ew [.fn 26] (.pc arU<| .pc asJ<| .nil)
def oE:fu:=bV [cU,cI,cI,cI,cS 54]
def ZK:fu:=bV [cU,cI,cI,cI,.aA 2]
def amK:ax:=⟨[eP 3 0,eP 6 1,eI 7],[oE,ZK,.row 54]⟩
def aK8:ax:=⟨[eI 7],[oE,ZK,.row 54]⟩
def aFx:fu:=bV [cU,cI,cI,cI,.aA 3]
def amJ:ax:=⟨[eO 4 2,eB 5],[oE,aFx,.row 3,.row 54]⟩
def aw0:Pc:=dY [cK 6 4 54] (pJ 0 30 2 137438937264 amK [xN aK8,(.ret,[.mk 4 3],amJ)])
def aK7:ax:=⟨[],[oE,ZK,.row 54]⟩
def awZ:Pc:=pJ 0 62 2 9223371899415822384 amK [xN aK7,(.ret,[.mk 4 3],amJ)]
def Ki:List ez:=[cU,cI,cI,cI,cS 54]
def aK6:ax:=⟨[eS 0 120,eA 1 Ki],[]⟩
def amI:ax:=⟨[eS 0 3,eB 1],[]⟩
noncomputable def Wv:FD:=nw [.ly 0 (.slice 3)] 209 Tryz.f209 2 2 0 aK6 amI [.fc 11 [.iV 0 [.raw,.slice 69,.raw]],.fn 15,.fn 16] (.pc awZ<| .pc aw0<| .nil)
def QY:ax:=⟨[eA 0 yB,eI 1],[]⟩
noncomputable def ay8:FD:=cp 130 Tryz.f130 2 1 0 QY ew [.fn 10] .nil
def amH:ax:=⟨[eP 2 0,eP 3 1],[v143,gK]⟩
def Z2:ax:=⟨[],[v143,gK]⟩
def Z1:ax:=⟨[eB 4],[v143,gK]⟩
def auF:Pc:=pJ 0 6 2 2097104 amH [xN Z2,xR Z1]
def aty:Pc:=pJ 0 14 2 17592183947280 amH [xN Z2,xR Z1]
def aK5:ax:=⟨[eP 2 0,eP 3 1,eI 5],[v143,gK]⟩
def asv:Pc:=pL 0 122 2 576443160117379120 aK5 [xR Z1,xE 0 Z2]
def QX:ax:=⟨[eA 0 yB,eA 1 ql],[]⟩
noncomputable def M6:FD:=cp 210 Tryz.f210 2 1 0 QX ew [.fn 32,.fn 31] (.pc asv<| .pc aty<| .pc auF<| .nil)
def aK4:ax:=⟨[eP 2 0,eP 3 1,eI 8],[v143,oE]⟩
def Z0:ax:=⟨[eO 4 2,eB 5],[v143,oE,.row 3]⟩
def ZZ:ax:=⟨[],[v143,oE]⟩
def arM:Pc:=pL 0 122 2 34358690096 aK4 [(.ret,[.mk 4 3],Z0),xE 0 ZZ]
def aK3:ax:=⟨[eP 2 0,eP 3 1],[v143,oE]⟩
def asK:Pc:=pJ 0 30 2 34358690096 aK3 [xN ZZ,xR Z0]
def aK2:ax:=⟨[eP 2 0,eP 3 1,eS 6 3,eI 9],[v143,oE]⟩
def arL:Pc:=pL 0 250 2 4611685984067650096 aK2 [(.ret,[.mk 4 3],Z0),xE 2 ZZ]
def amG:ax:=⟨[eA 0 yB,eA 1 Ki],[]⟩
noncomputable def MM:FD:=nw [.ly 0 (.slice 3),.ly 0 (.slice 3)] 179 Tryz.f179 2 2 0 amG amI [.fn 10,.fn 32,.fn 30,.fn 31] (.pc arL<| .pc asK<| .pc arM<| .nil)
noncomputable def ayk:FD:=cp 180 Tryz.f180 2 2 0 QX Ay [.fc 11 [.iV 0 [.raw,.slice 69,.raw]],.fn 31] .nil
def amF:ax:=⟨[eS 0 3,eS 1 3,eI 5],[]⟩
def avu:Pc:=pL 0 26 0 524272 amF [xR Da,xE 0 ⟨[],[]⟩]
def QW:ax:=⟨[eS 0 3,eS 1 3],[]⟩
noncomputable def aeD:FD:=cp 211 Tryz.f211 2 1 0 QW ew [.fn 10] (.pc avu<| .nil)
def aK1:ax:=⟨[eA 0 Lo,eA 1 vR],[]⟩
noncomputable def aAO:FD:=cp 181 Tryz.f181 2 1 0 aK1 ew [.fn 36] .nil
def aK0:ax:=⟨[eA 0 yB,eA 1 ql,eI 2],[]⟩
noncomputable def avg:FD:=cp 132 Tryz.f132 3 1 0 aK0 ew [.fn 33,.fn 35] .nil
def aKZ:ax:=⟨[eP 2 0,eP 3 1,eS 5 3,eI 9],[v143,v0]⟩
def atl:Pc:=pL 0 250 2 140736414614032 aKZ [xR Gi,xE 0 yp]
noncomputable def aei:FD:=cp 128 Tryz.f128 2 1 0 JZ ew [.fn 34,.fn 29,.fn 33] (.pc atl<| .nil)
noncomputable def ata:FD:=cp 129 Tryz.f129 2 1 0 QX ew [.fn 17,.fn 33] .nil
noncomputable def aws:FD:=cp 131 Tryz.f131 2 1 0 QX ew [.fn 33] .nil
noncomputable def avf:FD:=cp 133 Tryz.f133 2 1 0 amG ew [.fn 29] .nil
def aKY:ax:=⟨[eA 0 yB,eI 1,eI 2],[]⟩
noncomputable def axv:FD:=cp 134 Tryz.f134 3 1 0 aKY ew [] .nil
def amE:ax:=⟨[eA 0 ql,eA 1 ql],[]⟩
noncomputable def ayj:FD:=cp 24 Tryz.f24 2 1 0 amE ew [.fn 43] .nil
def aKX:ax:=⟨[eS 0 54,eS 1 54,eI 5],[]⟩
def awJ:Pc:=pL 0 58 0 134215728 aKX [xR Da,xE 0 ⟨[],[]⟩]
def aKW:ax:=⟨[eS 0 54,eS 1 54],[]⟩
noncomputable def ae9:FD:=cp 46 Tryz.f46 2 1 0 aKW ew [.fn 44] (.pc awJ<| .nil)
def aKV:ax:=⟨[eS 0 118,eS 1 118,eI 5],[]⟩
def avz:Pc:=pL 0 58 0 2417851639229258349410352 aKV [xR Da,xE 0 ⟨[],[]⟩]
def aKU:ax:=⟨[eS 0 118,eS 1 118],[]⟩
noncomputable def aeF:FD:=cp 47 Tryz.f47 2 1 0 aKU ew [.fn 43] (.pc avz<| .nil)
def axH:Pc:=pL 0 58 0 67106864 amF [xR Da,xE 0 ⟨[],[]⟩]
noncomputable def afx:FD:=cp 48 Tryz.f48 2 1 0 QW ew [] (.pc axH<| .nil)
def aKT:ax:=⟨[eS 0 41,eS 1 41,eI 5],[]⟩
def awC:Pc:=pL 0 58 0 134215728 aKT [xR Da,xE 0 ⟨[],[]⟩]
def aKS:ax:=⟨[eS 0 41,eS 1 41],[]⟩
noncomputable def ae7:FD:=cp 49 Tryz.f49 2 1 0 aKS ew [.fn 42] (.pc awC<| .nil)
def yo:ax:=⟨[eP 2 0,eP 3 1],[v0,v0]⟩
def yn:ax:=⟨[],[v0,v0]⟩
def ym:ax:=⟨[eB 4],[v0,v0]⟩
def auE:Pc:=pJ 0 6 2 4951760157141521099596495888 yo [xN yn,xR ym]
def atx:Pc:=pJ 0 14 2 348449143727036034826338456489031052034064 yo [xN yn,xR ym]
def atw:Pc:=pJ 0 30 2 11692012750198079618588492075234666147116811812880 yo [xN yn,xR ym]
def aKR:ax:=⟨[eP 2 0,eP 3 1,eI 5],[v0,v0]⟩
def asu:Pc:=pL 0 250 2 1606938044247298262443314868995533123860472729625545374957616 aKR [xR ym,xE 0 yn]
def atv:Pc:=pJ 0 62 2 1606938044247298262443314868995533123860472729625545374957616 yo [xN yn,xR ym]
def aKQ:ax:=⟨[eP 2 0,eP 3 1,eI 6],[v0,v0]⟩
def ast:Pc:=pL 0 506 2 220855883095691103153653197317322852386094324506930166771417982326276176 aKQ [xR ym,xE 2 yn]
def asG:Pc:=pJ 0 126 2 220855883095691103153653197317322852386094324506930166771417982326276176 yo [xN yn,xR ym]
def aKP:ax:=⟨[eP 2 0,eP 3 1,eI 7],[v0,v0]⟩
def arJ:Pc:=pL 0 1018 2 509258994083621521346255539005046499064954910823619248180599625229142955175633401384272784 aKP [xR ym,xE 4 yn]
def amD:ax:=⟨[eA 0 h6,eA 1 h6],[]⟩
noncomputable def xt:FD:=cp 15 Tryz.f15 2 1 0 amD ew [.fn 42,.fn 44,.fn 43,.fn 45,.fn 46,.fn 47] (.pc arJ<| .pc asG<| .pc ast<| .pc atv<| .pc asu<| .pc atw<| .pc atx<| .pc auE<| .nil)
def amC:ax:=⟨[eP 4 0,eI 7],[v0]⟩
def aKO:ax:=⟨[eI 7],[v0]⟩
def asI:Pc:=pJ 0 14 1 130688 amC [xN aKO]
def ZY:ax:=⟨[eI 2,eP 4 0,eI 7],[v0]⟩
def amB:ax:=⟨[eB 6],[v0]⟩
def asH:Pc:=pJ 0 30 1 17179738176 ZY [xN ⟨[],[v0]⟩,xR amB]
def aKN:ax:=⟨[eI 2,eP 4 0,eI 8],[v0]⟩
def arK:Pc:=pL 0 506 1 36893347409930748224 aKN [xR amB,xE 0 ⟨[],[v0]⟩]
def QV:ax:=⟨[eA 0 yB,eA 1 h6,eI 2],[]⟩
noncomputable def ML:FD:=cp 135 Tryz.f135 3 1 0 QV ew [.fc 42 [.iV 1 [.raw,.raw,.raw,.raw,.raw,.raw,.raw,.raw,.raw,.raw,.raw,.raw,.slice 54,.slice 54,.slice 118,.slice 118,.slice 3,.slice 41,.slice 110,.slice 112,.slice 115]],.fn 38] (.pc arK<| .pc asH<| .pc asI<| .nil)
def amA:ax:=⟨[eA 0 Lo,eA 1 Lo],[]⟩
noncomputable def azQ:FD:=cp 182 Tryz.f182 2 1 0 amA ew [.fn 36] .nil
def auG:Pc:=pJ 0 6 2 33552400 J0 [xN yp,xR Gi]
def aKM:ax:=⟨[eP 3 0,eP 5 1],[v0,gU]⟩
def aKL:ax:=⟨[],[v0,gU]⟩
def aKK:ax:=⟨[eB 4],[v0,gU]⟩
def atA:Pc:=pJ 0 30 2 9007061815787536 aKM [xN aKL,xR aKK]
def aKJ:ax:=⟨[eP 2 0,eP 3 1,eP 5 2,eI 6],[v143,v0,gU]⟩
def ZX:ax:=⟨[eB 4],[v143,v0,gU]⟩
def ZW:ax:=⟨[],[v143,v0,gU]⟩
def asx:Pc:=pL 0 250 3 9444723958540035686480 aKJ [xR ZX,xE 0 ZW]
def aKI:ax:=⟨[eP 2 0,eP 3 1,eP 5 2],[v143,v0,gU]⟩
def atz:Pc:=pJ 0 62 3 9444723958540035686480 aKI [xN ZW,xR ZX]
def aKH:ax:=⟨[eP 2 0,eP 5 1,eI 7,eS 8 3,eI 10],[v143,gU]⟩
def aKG:ax:=⟨[eB 4],[v143,gU]⟩
def aKF:ax:=⟨[],[v143,gU]⟩
def aqq:Pc:=pL 0 129614 2 664613992940697779310382430543676432 aKH [xR aKG,xE 4 aKF]
def aKE:ax:=⟨[eP 2 0,eP 3 1,eP 5 2,eI 7],[v143,v0,gU]⟩
def asw:Pc:=pL 0 506 3 664613997892448491718937790849746832 aKE [xR ZX,xE 2 ZW]
noncomputable def Bv:FD:=cp 136 Tryz.f136 2 1 0 JZ ew [.fn 34,.fn 40,.fn 29,.fn 49] (.pc asw<| .pc aqq<| .pc atz<| .pc asx<| .pc atA<| .pc auG<| .nil)
noncomputable def ay7:FD:=cp 137 Tryz.f137 2 1 0 QY ew [.fn 10,.fn 40] .nil
def arV:Pc:=pJ 0 6 2 68719475728 J0 [xN yp,xR Gi]
def aKD:ax:=⟨[eP 6 0],[gU]⟩
def aKC:ax:=⟨[eB 4],[gU]⟩
def aq2:Pc:=pJ 0 30 1 1179438699212804456464 aKD [xN ⟨[],[gU]⟩,xR aKC]
def aKB:ax:=⟨[eP 5 0,eP 6 1],[gU,gU]⟩
def aKA:ax:=⟨[],[gU,gU]⟩
def aKz:ax:=⟨[eB 4],[gU,gU]⟩
def aq1:Pc:=pJ 0 62 2 77370071863715549769891856 aKB [xN aKA,xR aKz]
def aKy:ax:=⟨[eP 2 0,eO 7 1,eO 8 2,eI 9],[v143,.row 3,.row 3]⟩
def aKx:ax:=⟨[eB 4],[v143,.row 3,.row 3]⟩
def aKw:ax:=⟨[],[v143,.row 3,.row 3]⟩
def ap4:Pc:=pL 0 1018 3 356811923176488702613971264132972287392481808 aKy [xR aKx,xE 0 aKw]
noncomputable def HD:FD:=cp 138 Tryz.f138 2 1 0 JZ ew [.fn 40,.fn 49] (.pc ap4<| .pc aq1<| .pc aq2<| .pc arV<| .nil)
def ap8:Pc:=pJ 0 13820 2 151115727451827573096464 J0 [xN yp,xR Gi]
def amz:ax:=⟨[(6,.one (cU))],[]⟩
def aKv:ax:=⟨[eB 158],[]⟩
def apO:Pc:=pJ 0 884734 0 2557627865329080106856448457253495284397881950208 amz [xN aKv]
def aKu:ax:=⟨[eB 167],[]⟩
def apG:Pc:=pJ 0 3538942 0 1309505467048489014710501610113789585611715558506496 amz [xN aKu]
noncomputable def MA:FD:=cp 84 Tryz.f84 2 1 0 JZ ew [.fn 9,.fn 10,.fn 28,.fn 37,.fn 32,.fn 38,.fn 34,.fn 39,.fn 40,.fn 41,.fn 48,.fn 50,.fn 51] (.pc apG<| .pc apO<| .pc ap8<| .nil)
def amy:ax:=⟨[eA 0 yB],[]⟩
noncomputable def axu:FD:=nw [.iV 0 [.raw,.raw,.raw,.raw,.raw,.raw,.slice 3,.raw,.raw,.raw,.raw,.raw,.raw,.raw,.raw,.raw]] 139 Tryz.f139 1 1 0 amy amy [] .nil
def aKt:ax:=⟨[eP 3 0,eP 4 1],[v143,v0]⟩
def Gh:ax:=⟨[eI 6],[v143,v0]⟩
def axP:Pc:=pJ 0 6 2 274877890624 aKt [xN yp,xR Gh]
def avK:Pc:=pJ 0 232 1 140462610448384 ZY [xN ⟨[],[v0]⟩,xE 0 ⟨[],[v0]⟩]
def amx:ax:=⟨[eI 2,eP 3 0,eP 4 1,eI 7],[v143,v0]⟩
def JY:ax:=⟨[eI 2],[v143,v0]⟩
def awF:Pc:=pL 0 58 2 37778931862682283803524 amx [xE 0 JY]
def QU:ax:=⟨[eI 2,eP 3 0,eP 4 1],[v143,v0]⟩
def awQ:Pc:=pJ 0 14 2 37778931862682283803524 QU [xN JY]
def awP:Pc:=pJ 0 62 2 38610068363942219267178500 QU [xN JY]
def aKs:ax:=⟨[eI 2,eP 4 0,eI 11],[v0]⟩
def auu:Pc:=pJ 0 8168 1 39536710004676832529590779904 aKs [xN ⟨[],[v0]⟩,xE 2 ⟨[],[v0]⟩]
def v227:fu:=bV [cS 3,cU,cI,cI,cI,cI,cI,cB,cB,cB,cB,cB,cU,cS 54,cS 54,cS 118,cS 118,cS 3,cS 41,cS 110,cS 112,cS 115]
def aKr:ax:=⟨[eP 3 0,eP 4 1,eI 11,eP 12 2],[v143,v0,v227]⟩
def aKq:ax:=⟨[],[v143,v0,v227]⟩
def aKp:ax:=⟨[eI 6],[v143,v0,v227]⟩
def asE:Pc:=pJ 0 130706 3 10633818895676926070312850495429935168 aKr [xN aKq,xR aKp]
def aKo:ax:=⟨[eO 10 1,eP 12 0,eI 13],[v227,.row 3]⟩
def aKn:ax:=⟨[eI 6],[v227]⟩
def aKm:ax:=⟨[eO 10 1],[v227,.row 3]⟩
def arG:Pc:=pL 0 1045658 1 44601479763237280003744453314840240769213504 aKo [xR aKn,xE 4 aKm]
def aKl:ax:=⟨[eI 2,eP 3 0,eP 4 1,eO 10 2,eI 11],[v143,v0,.row 3]⟩
def auf:Pc:=dY [.mk 10 3] (pL 0 2042 2 1427247692705959880980914716994158869201566788 aKl [xR Gh,xE 2 JY])
noncomputable def vY:FD:=cp 85 Tryz.f85 3 1 0 QV Az [.fn 23,.fn 7,.fn 9,.fn 20,.fn 53] (.pc auf<| .pc arG<| .pc asE<| .pc auu<| .pc awP<| .pc awQ<| .pc awF<| .pc avK<| .pc axP<| .nil)
def aKk:ax:=⟨[eP 4 0],[v0]⟩
def aKj:ax:=⟨[eI 6],[v0]⟩
def awW:Pc:=pJ 0 6 1 274877890624 aKk [xN ⟨[],[v0]⟩,xR aKj]
def aKi:ax:=⟨[eI 2,eP 4 0,eI 10],[v0]⟩
def ats:Pc:=pJ 0 2024 1 35958428274786304 aKi [xN ⟨[],[v0]⟩,xE 0 ⟨[],[v0]⟩]
def JT:fu:=bV [cU,cU,cU,cI,cI,cI,cI,cI,cI,cS 54,cI,cS 54,cU,cI,cI,cI,cI,cI,cB,cB,cB,cB,cB,cU,cS 54,cS 54,cS 118,cS 118,cS 3,cS 41,cS 110,cS 112,cS 115,cU,cI,cI,cI,cI,cI,cB,cB,cB,cB,cB,cU,cS 54,cS 54,cS 118,cS 118,cS 3,cS 41,cS 110,cS 112,cS 115]
def aKh:ax:=⟨[eP 3 0,eI 7,eI 8,eI 9,eP 11 1,eP 12 2],[v143,JT,v143]⟩
def aKg:ax:=⟨[eI 7,eI 8,eI 9],[v143,JT,v143]⟩
def arT:Pc:=pJ 0 129614 3 9671258982964443721237376 aKh [(.normal,[.nF (λenv M=>2) 8 3],aKg)]
def aKf:ax:=⟨[eI 2,eP 3 0,eP 4 1,eI 7,eI 8,eI 9,eI 10],[v143,v0]⟩
def amw:ax:=⟨[eI 2,eI 7,eI 8,eI 9],[v143,v0]⟩
def aui:Pc:=pL 0 506 2 39614081257132098428027805636 aKf [xR Gh,xE 0 amw]
def aKe:ax:=⟨[eI 2,eP 3 0,eP 4 1,eI 7,eI 8,eI 9],[v143,v0]⟩
def auA:Pc:=pJ 0 126 2 39614081257132098428027805636 aKe [xN amw,xR Gh]
noncomputable def EJ:FD:=cp 86 Tryz.f86 3 1 0 QV Az [.fc 42 [.iV 1 [.raw,.raw,.raw,.raw,.raw,.raw,.raw,.raw,.raw,.raw,.raw,.raw,.slice 54,.slice 54,.slice 118,.slice 118,.slice 3,.slice 41,.slice 110,.slice 112,.slice 115]],.fn 23,.fn 55,.fn 57] (.pc auA<| .pc aui<| .pc arT<| .pc ats<| .pc awW<| .nil)
def aNh:List ez:=[cS 120,cI,cS 57,cS 67,cS 157,cI,cS 3,cS 3,.aA 0,cS 3,cS 3,cB,cB,cB,cI,cI]
def aKd:ax:=⟨[eA 0 aNh],[.row 3]⟩
noncomputable def atb:FD:=cp 87 Tryz.f87 2 1 0 QY aKd [.fn 53] .nil
def aNg:List ez:=[cS 120,cI,cS 57,cS 67,cS 157,cI,cS 3,cS 3,cS 3,.aA 0,cS 3,cB,cB,cB,cI,cI]
def aKc:ax:=⟨[eA 0 aNg],[.row 3]⟩
noncomputable def awt:FD:=cp 88 Tryz.f88 2 1 0 QY aKc [.fn 53] .nil
def aKb:ax:=⟨[(13,.one (cU))],[]⟩
def amv:ax:=⟨[eB 26],[]⟩
def apv:Pc:=pJ 0 982 0 469762048 aKb [xN amv]
def aaB:List ez:=[cU,cU,cU,cI,cI,cI,cI,cI,cI,cS 54,cI,cS 54,cU,cI,cI,cI,cI,cI,cB,cB,cB,cB,cB,cU,cS 54,cS 54,cS 118,cS 118,cS 3,cS 41,cS 110,cS 112,cS 115,cU,cI,cI,cI,cI,cI,cB,cB,cB,cB,cB,cU,cS 54,cS 54,cS 118,cS 118,cS 3,cS 41,cS 110,cS 112,cS 115]
def aKa:ax:=⟨[eA 0 yB,eA 1 aaB],[]⟩
noncomputable def abU:FD:=cp 140 Tryz.f140 2 1 0 aKa ew [.fc 42 [.iV 1 [.raw,.raw,.raw,.raw,.raw,.raw,.raw,.raw,.raw,.raw,.raw,.raw,.slice 54,.slice 54,.slice 118,.slice 118,.slice 3,.slice 41,.slice 110,.slice 112,.slice 115]],.fn 37,.fn 38,.fn 50] (.pc apv<| .nil)
def ayA:Pc:=pJ 0 6 2 8589934144 QU [xN yp,xR Gh]
def axQ:Pc:=pJ 0 62 2 19342813113833517039484992 QU [(.normal,[.nF (λenv M=>0) 6 3,.nF (λenv M=>0) 7 3,.nF (λenv M=>0) 10 3],yp),xR Gh]
def avP:Pc:=pJ 0 2024 1 9884177501169208132397694976 ZY [xN ⟨[],[v0]⟩,xE 1 ⟨[],[v0]⟩]
def amu:ax:=⟨[eP 3 0,eP 4 1,eI 7,eP 8 2],[v143,v0,v143]⟩
def amt:ax:=⟨[],[v143,v0,v143]⟩
def auy:Pc:=pJ 0 32402 3 162180048666699099053984466337792 amu [(.normal,[.nF (λenv M=>2) 8 3],amt)]
def aJ9:ax:=⟨[eB 118],[v0]⟩
def atr:Pc:=pJ 0 129612 1 664451738615628723088511952129884160 amC [xN aJ9]
def auw:Pc:=pJ 0 64806 3 10633661707002497769867064904232468480 amu [(.normal,[.nF (λenv M=>2) 9 3],amt)]
def aJ8:ax:=⟨[eP 4 0,eI 7,eP 8 1],[v0,v143]⟩
def aJ7:ax:=⟨[],[v0,v143]⟩
def atq:Pc:=pJ 0 129614 2 44601479763237280003744453314840240769204224 aJ8 [xN aJ7]
def awH:Pc:=pL 0 506 2 11417981541647679048446944942482127024266674564 amx [xE 1 JY]
noncomputable def xC:FD:=cp 31 Tryz.f31 3 1 0 QV Az [.fn 23,.fn 24,.fn 25,.fn 27,.fn 52,.fn 54,.fn 55,.fn 56] (.pc awH<| .pc atq<| .pc auw<| .pc atr<| .pc auy<| .pc avP<| .pc axQ<| .pc ayA<| .nil)
def aJ6:ax:=⟨[eO 1 0,eP 2 1,eI 5],[.row 3,v0]⟩
def ams:ax:=⟨[],[.row 3,v0]⟩
def arF:Pc:=pL 0 234 2 536866848 aJ6 [xE 0 ams]
def aJ5:ax:=⟨[eO 1 0,eP 2 1],[.row 3,v0]⟩
def asD:Pc:=pJ 0 14 2 536870432 aJ5 [xN ams]
def aJ4:ax:=⟨[eO 1 0,eO 4 1,eI 6],[.row 3,.row 41]⟩
def aJ3:ax:=⟨[],[.row 3,.row 41]⟩
def ass:Pc:=pL 0 62 2 2198486384704 aJ4 [xE 2 aJ3]
def aJ2:ax:=⟨[eA 0 h6,eO 1 0],[.row 3]⟩
noncomputable def MK:FD:=cp 32 Tryz.f32 2 0 1 aJ2 vq [.fn 59,.fn 3] (.pc ass<| .pc asD<| .pc arF<| .nil)
def azp:Pc:=pJ 0 6 1 562949953290244 Dd [xN ⟨[],[v12]⟩,xR vt]
def aJ1:ax:=⟨[eP 1 0,eI 3],[v12]⟩
def axI:Pc:=pL 0 122 1 4951760157069463505558568988 aJ1 [xR vt,xE 0 ⟨[],[v12]⟩]
def ayB:Pc:=pJ 0 30 1 4951760157069463505558568988 Dd [xN ⟨[],[v12]⟩,xR vt]
def z7:fu:=bV [cI,cS 3,cS 54]
def aJ0:ax:=⟨[eP 8 0],[z7]⟩
def amr:ax:=⟨[],[z7]⟩
def amq:ax:=⟨[eB 2],[z7]⟩
def avU:Pc:=pJ 0 65170 1 42532699716688040519107560680806416388 aJ0 [xN amr,xR amq]
def aJZ:ax:=⟨[eP 1 0,eP 8 1,eI 9],[v12,z7]⟩
def amp:ax:=⟨[eB 2],[v12,z7]⟩
def amo:ax:=⟨[],[v12,z7]⟩
def aul:Pc:=pL 0 260686 2 187072209578313038234206541279751304690030394478084 aJZ [xR amp,xE 4 amo]
def aJY:ax:=⟨[eP 1 0,eI 7],[v12]⟩
def awL:Pc:=pL 0 1018 1 187072209578355573529437833287570111815211013902212 aJY [xR vt,xE 2 ⟨[],[v12]⟩]
def axR:Pc:=pJ 0 254 1 187072209578355573529437833287570111815211013902212 Dd [xN ⟨[],[v12]⟩,xR vt]
def aJX:ax:=⟨[eP 1 0,eS 5 157,eI 12,eI 13],[v12]⟩
def aJW:ax:=⟨[eI 12],[v12]⟩
def awK:Pc:=dY [.ly 5 (.slice 157)] (pL 0 4090 1 1569275246774460612603373825730258016341362345156643139584 aJX [xE 6 aJW])
def aJV:ax:=⟨[eP 1 0,eO 5 1,eI 12],[v12,.row 157]⟩
def aJU:ax:=⟨[eI 12],[v12,.eN 157]⟩
def aw1:Pc:=pJ 0 1022 2 1569275246774460612603373825730258016341362345156643139584 aJV [xN aJU]
def aJT:ax:=⟨[eP 1 0,eO 14 1,eI 15],[v12,.row 3]⟩
def amn:ax:=⟨[],[v12,.row 3]⟩
def avC:Pc:=pL 0 32762 2 3290908681014645897417716992483929687302814093580048302145044480 aJT [xE 8 amn]
def aJS:ax:=⟨[eP 1 0,eO 14 1,eI 16],[v12,.row 3]⟩
def aJR:ax:=⟨[eB 2],[v12,.row 3]⟩
def avB:Pc:=pL 0 65530 2 13476682324460677485249197605144700635808606739539019080825107972100 aJS [xR aJR,xE 10 amn]
noncomputable def tH:FD:=cp 8 Tryz.f8 1 1 0 Db ew [.fn 5,.fn 8,.fc 11 [.iV 0 [.raw,.slice 69,.raw]],.fn 17,.fn 22,.fc 23 [.iV 0 [.raw,.raw,.raw,.raw,.raw,.raw,.slice 3,.slice 3,.slice 3,.slice 3,.slice 3,.raw,.raw,.raw,.raw,.raw]],.fn 59] (.pc avB<| .pc avC<| .pc aw1<| .pc awK<| .pc axR<| .pc awL<| .pc aul<| .pc avU<| .pc ayB<| .pc axI<| .pc azp<| .nil)
def aJQ:ax:=⟨[eO 0 2,eO 5 1,eI 6],[.gone,.row 41,.row 41]⟩
def aJP:ax:=⟨[eO 0 2],[.gone,.row 41,.row 41]⟩
def auk:Pc:=pL 1 122 2 33546305 aJQ [xE 0 aJP]
def aJO:ax:=⟨[eO 0 0,eA 1 h6],[.row 41]⟩
def aJN:ax:=⟨[eO 0 1],[.gone,.row 41]⟩
noncomputable def aeH:FD:=cp 37 Tryz.f37 2 1 1 aJO aJN [.fn 64,.fn 3] (.pc auk<| .nil)
def aJM:ax:=⟨[eP 1 0,eO 3 1,eI 4],[v12,.row 41]⟩
def aJL:ax:=⟨[eO 3 1],[v12,.row 41]⟩
def axJ:Pc:=dY [.mk 3 41] (pL 0 122 1 8388376 aJM [xE 0 aJL])
noncomputable def agn:FD:=nw [.mk 0 41] 11 Tryz.f11 1 1 0 Db s8 [.fn 4,.fn 64] (.pc axJ<| .nil)
def aJK:ax:=⟨[eI 1,eP 3 0,eI 8],[v0]⟩
def axS:Pc:=pJ 0 488 1 4286578688 aJK [xN ⟨[],[v0]⟩,xE 0 ⟨[],[v0]⟩]
def aJJ:ax:=⟨[eI 1,eP 3 0,eP 5 1,eI 8],[v0,v0]⟩
def Cz:ax:=⟨[eI 1],[v0,v0]⟩
def axM:Pc:=Lx [.nF (λenv M=>0) 18 110] (pL 0 122 2 9444732965739282042626 aJJ [xE 0 Cz])
def ZV:ax:=⟨[eI 1,eP 3 0,eP 5 1],[v0,v0]⟩
def ayD:Pc:=pJ 0 30 2 9444732965739282042626 ZV [xN Cz]
def aJI:ax:=⟨[eI 1,eP 3 0,eI 12],[v0]⟩
def aw4:Pc:=pJ 0 1000 1 4826258545492777408397312 aJI [xN ⟨[],[v0]⟩,xE 2 ⟨[],[v0]⟩]
def aJH:ax:=⟨[eI 1,eP 3 0,eP 5 1,eI 12],[v0,v0]⟩
def axL:Pc:=Lx [.nF (λenv M=>0) 17 41] (pL 0 250 2 20282409594206937458207960870914 aJH [xE 2 Cz])
def ayC:Pc:=pJ 0 62 2 20282409594206937458207960870914 ZV [xN Cz]
def aJG:ax:=⟨[eI 1,eP 3 0,eI 14],[v0]⟩
def aw3:Pc:=pJ 0 2024 1 10364311307466003586637045407154176 aJG [xN ⟨[],[v0]⟩,xE 4 ⟨[],[v0]⟩]
def aJF:ax:=⟨[eI 1,eP 3 0,eP 5 1,eI 14],[v0,v0]⟩
def axK:Pc:=Lx [.nF (λenv M=>0) 19 112] (pL 0 506 2 174224571843238083689596128581118073028610 aJF [xE 4 Cz])
def axT:Pc:=pJ 0 126 2 174224571843238083689596128581118073028610 ZV [xN Cz]
def aJE:ax:=⟨[eI 1,eP 3 0,eI 16],[v0]⟩
def aw2:Pc:=pJ 0 4072 1 89028756222258972072849625291588380699656192 aJE [xN ⟨[],[v0]⟩,xE 6 ⟨[],[v0]⟩]
def aJD:ax:=⟨[eI 1,eP 3 0,eP 5 1,eI 16],[v0,v0]⟩
def awM:Pc:=Lx [.nF (λenv M=>0) 20 115] (pL 0 1018 2 392318858461667373515164975429985857758598210213678088194 aJD [xE 6 Cz])
def aJC:ax:=⟨[eA 0 h6,eI 1,eA 2 h6],[]⟩
def aJB:ax:=⟨[eA 0 h6,eI 1],[]⟩
noncomputable def tI:FD:=cp 45 Tryz.f45 3 2 0 aJC aJB [.fn 70] (.pc awM<| .pc aw2<| .pc axT<| .pc axK<| .pc aw3<| .pc ayC<| .pc axL<| .pc aw4<| .pc ayD<| .pc axM<| .pc axS<| .nil)
def alp:fu:=bV [cS 120,cI,.aA 1,cS 67]
def aJA:ax:=⟨[eI 1,eP 3 0,eI 7],[alp,.row 57]⟩
def amm:ax:=⟨[],[alp,.row 57]⟩
def asL:Pc:=pJ 0 232 1 16744448 aJA [xN amm,xE 0 amm]
def alo:fu:=bV [cS 120,cI,.aA 2,cS 67]
def aJz:ax:=⟨[eI 1,eP 3 0,eP 5 1,eI 7],[alo,v0,.row 57]⟩
def aJy:ax:=⟨[],[alo,v0,.row 57]⟩
def atm:Pc:=pL 0 58 2 35184372056962 aJz [xE 0 aJy]
def aJx:ax:=⟨[eA 0 iR,eI 1,eA 2 h6],[]⟩
def aNf:List ez:=[cS 120,cI,.aA 0,cS 67]
def aJw:ax:=⟨[eA 0 aNf],[.row 57]⟩
noncomputable def VC:FD:=cp 14 Tryz.f14 3 1 0 aJx aJw [.fn 70] (.pc atm<| .pc asL<| .nil)
def aJv:ax:=⟨[eS 0 3,eI 1,eI 2,eS 9 3,eI 10,eI 11],[]⟩
def aut:Pc:=pL 0 26 0 274877905344 aJv [xR yJ,xE 0 ⟨[],[]⟩]
noncomputable def aek:FD:=cp 90 Tryz.f90 3 1 0 RP ew [] (.pc aut<| .nil)
def aJu:ax:=⟨[eI 0,eP 1 0],[bV [cS 120]]⟩
def aml:ax:=⟨[eB 0],[bV [cS 120]]⟩
noncomputable def awA:FD:=cp 92 Tryz.f92 2 1 1 aJu aml [] .nil
def aJt:ax:=⟨[eS 0 3,(1,.one (.cl 92 [(0,0,0)])),eI 7,eI 8],[bV [cS 120]]⟩
def aJs:ax:=⟨[eI 4],[bV [cS 120]]⟩
def amk:ax:=⟨[],[bV [cS 120]]⟩
def aoU:Pc:=pL 0 26 1 524080 aJt [xR aJs,xE 0 amk]
def amj:ax:=⟨[eS 0 3,(1,.one (.cl 92 [(0,0,0)]))],[bV [cS 120]]⟩
def aJr:ax:=⟨[eI 0],[bV [cS 120]]⟩
noncomputable def abn:FD:=cp 141 Tryz.f141 2 1 1 amj aJr [.fn 76] (.pc aoU<| .nil)
noncomputable def ao3:FD:=cp 91 Tryz.f91 2 1 1 amj aml [.fn 75] .nil
def aJq:ax:=⟨[eP 1 0],[bV [cS 120]]⟩
def ami:ax:=⟨[eB 2],[bV [cS 120]]⟩
def auK:Pc:=pJ 0 6 1 16324 aJq [xN amk,xR ami]
def aJp:ax:=⟨[eP 5 0],[sL]⟩
def aJo:ax:=⟨[eB 2],[sL]⟩
def arc:Pc:=pJ 0 15666 1 267386884 aJp [xN ⟨[],[sL]⟩,xR aJo]
def aJn:ax:=⟨[eP 1 0,eP 5 1],[bV [cS 120],sL]⟩
def aJm:ax:=⟨[],[bV [cS 120],sL]⟩
def aJl:ax:=⟨[eB 2],[bV [cS 120],sL]⟩
def aqF:Pc:=pJ 0 125342 2 302231382846063255748612 aJn [xN aJm,xR aJl]
def aJk:ax:=⟨[eP 1 0,eI 3,eS 14 120,eI 15,eI 16],[bV [cS 120]]⟩
def aJj:ax:=⟨[eI 3],[bV [cS 120]]⟩
def asC:Pc:=pL 0 122 1 9671406556917033397583916 aJk [xR ami,xE 0 aJj]
noncomputable def HX:FD:=cp 39 Tryz.f39 1 1 0 s29 ew [.fn 73,.fn 74] (.pc asC<| .pc aqF<| .pc arc<| .pc auK<| .nil)
def QT:ax:=⟨[(0,.one (.cell (.int .u64))),(1,.one (.cell (.int .u64)))],[]⟩
noncomputable def avh:FD:=cp 184 Tryz.f184 2 2 0 QT QT [] .nil
noncomputable def axw:FD:=cp 142 Tryz.f142 2 2 0 QT QT [.fn 80] .nil
def aJi:ax:=⟨[eI 1],[]⟩
def ap6:Pc:=pJ 0 6 0 3584 aJi [xN ⟨[],[]⟩]
def aJh:ax:=⟨[(5,.one (.cell (.int .u64))),(6,.one (.cell (.int .u64)))],[]⟩
def apN:Pc:=pJ 0 30 0 266338304 aJh [xN ⟨[],[]⟩]
def aJg:ax:=⟨[eO 7 0,eI 8],[.row 166]⟩
def QS:ax:=⟨[],[.row 166]⟩
def apD:Pc:=pL 0 508 1 140720308486400 aJg [xE 0 QS]
def aJf:ax:=⟨[eS 0 166,eI 1],[]⟩
def aJe:ax:=⟨[eO 0 0],[.row 166]⟩
noncomputable def L6:FD:=cp 93 Tryz.f93 2 1 0 aJf aJe [.fn 79] (.pc apD<| .pc apN<| .pc ap6<| .nil)
def aJd:ax:=⟨[eI 1,eI 2,(7,.one (.mpr 0)),eS 11 3,eI 12,eI 13],[.mp (.int .i64) false [.bool]]⟩
def aJc:ax:=⟨[eB 6],[.mp (.int .i64) false [.bool]]⟩
def aJb:ax:=⟨[],[.mp (.int .i64) false [.bool]]⟩
def auq:Pc:=pL 0 58 1 8589926976 aJd [xR aJc,xE 0 aJb]
noncomputable def aej:FD:=cp 94 Tryz.f94 3 1 0 RP ew [] (.pc auq<| .nil)
def aJa:ax:=⟨[eO 4 0,eI 5,eS 45 3,eI 46,eI 47],[.row 166]⟩
def ZU:ax:=⟨[eO 2 1,eB 3],[.row 166,.row 166]⟩
def asA:Pc:=pL 0 29902 1 9223231299366420748 aJa [(.ret,[.mk 2 166],ZU),xE 2 QS]
def aI9:ax:=⟨[eP 1 0,eO 4 1,eS 29 67,eI 30,eI 31],[v12,.row 166]⟩
def Gg:ax:=⟨[eO 2 2,eB 3],[v12,.row 166,.row 166]⟩
def Gf:ax:=⟨[],[v12,.row 166]⟩
def avF:Pc:=pL 0 58 2 18446744071562068332 aI9 [(.ret,[.mk 2 166],Gg),xE 0 Gf]
def amh:ax:=⟨[eP 1 0,eO 4 1],[v12,.row 166]⟩
def avY:Pc:=pJ 0 14 2 18446744073441116524 amh [xN Gf,xR Gg]
def aI8:ax:=⟨[eP 1 0,eS 14 3],[v12]⟩
def aI7:ax:=⟨[eO 2 1,eB 3],[v12,.row 166]⟩
def apU:Pc:=pJ 0 1026765618 1 5069364460873632225711913697292 aI8 [xN ⟨[],[v12]⟩,(.ret,[.mk 2 166],aI7)]
def ZJ:fu:=bV [cI,cI,cI]
def aI6:ax:=⟨[eP 1 0,eO 4 1,eI 16,eP 17 2],[v12,.row 166,ZJ]⟩
def aI5:ax:=⟨[],[v12,.row 166,ZJ]⟩
def aI4:ax:=⟨[eO 2 3,eB 3],[v12,.row 166,ZJ,.row 166]⟩
def apq:Pc:=pJ 0 1051407994470 3 21778068886791632394242160610385000923148 aI6 [xN aI5,(.ret,[.mk 2 166],aI4)]
def aI3:ax:=⟨[eP 1 0,eO 4 1,eI 9,eI 11,eS 102 3,eI 103,eI 104],[v12,.row 166]⟩
def apM:Pc:=pL 0 4107062478 2 696898287433799563569339525596314045972492 aI3 [xR Gg,xE 10 Gf]
def aI2:ax:=⟨[eP 1 0,eO 4 1,eI 9,eI 11,eO 84 2,eI 85,eI 86],[v12,.row 166,.row 36]⟩
def aI1:ax:=⟨[eO 2 3,eB 3],[v12,.row 166,.row 36,.row 166]⟩
def aI0:ax:=⟨[],[v12,.row 166,.row 36]⟩
def aq0:Pc:=pL 0 8021606 3 1393796574908163868974729936704255413141516 aI2 [xR aI1,xE 8 aI0]
def aIZ:ax:=⟨[eP 1 0,eO 4 1,eI 9,eS 73 134,eI 74,eI 75],[v12,.row 166]⟩
def asz:Pc:=pL 0 31334 2 2787593149816327892654185852218088026757132 aIZ [xR Gg,xE 6 Gf]
def aIY:ax:=⟨[eP 1 0,eO 4 1,eS 65 57,eI 66,eI 67],[v12,.row 166]⟩
def aus:Pc:=pL 0 122 2 5575186299632655785383781994209500700302860 aIY [xR Gg,xE 4 Gf]
def avX:Pc:=pJ 0 30 2 5575186299632655785383911121418016667164172 amh [xN Gf,xR Gg]
def aIX:ax:=⟨[eO 4 0,eS 150 3,eI 151,eI 152],[.row 166]⟩
def asy:Pc:=pL 0 64102 1 11686304107876399506105245517852466176701931454476 aIX [(.ret,[.mk 2 166],ZU),xE 14 QS]
def aIW:ax:=⟨[eO 4 0,eS 143 120,eI 144,eI 145],[.row 166]⟩
def aur:Pc:=pL 0 250 1 23383981595804049630012674252023983017771911348236 aIW [xR ZU,xE 12 QS]
def aIV:ax:=⟨[eO 0 0,eB 1],[.row 166]⟩
noncomputable def rW:FD:=cp 40 Tryz.f40 1 2 0 Db aIV [.fn 73,.fc 78 [.ly 0 (.slice 166)],.fn 81] (.pc aur<| .pc asy<| .pc avX<| .pc aus<| .pc asz<| .pc aq0<| .pc apM<| .pc apq<| .pc apU<| .pc avY<| .pc avF<| .pc asA<| .nil)
def aIU:ax:=⟨[eI 1,eP 2 0,eS 23 54,eI 24,eI 25],[bV [cI]]⟩
def aIT:ax:=⟨[eB 6],[bV [cI]]⟩
def aIS:ax:=⟨[],[bV [cI]]⟩
def aup:Pc:=pL 0 122 1 68685922624 aIU [xR aIT,xE 0 aIS]
def aIR:ax:=⟨[eA 0 ql,eI 1,eP 2 0],[bV [cI]]⟩
def aIQ:ax:=⟨[eB 0],[bV [cI]]⟩
noncomputable def aeI:FD:=cp 95 Tryz.f95 3 1 1 aIR aIQ [.fn 83] (.pc aup<| .nil)
def Ge:ax:=⟨[eP 0 0,eP 1 1],[gK,Ky,.row 54]⟩
def Gd:ax:=⟨[],[gK,Ky,.row 54]⟩
noncomputable def ays:FD:=cp 186 Tryz.f186 2 0 3 Ge Gd [] .nil
noncomputable def ayr:FD:=cp 187 Tryz.f187 2 0 3 Ge Gd [] .nil
noncomputable def ayq:FD:=cp 188 Tryz.f188 2 0 3 Ge Gd [] .nil
noncomputable def ayo:FD:=cp 190 Tryz.f190 2 0 3 Ge Gd [] .nil
noncomputable def ayp:FD:=cp 189 Tryz.f189 2 0 3 Ge Gd [] .nil
noncomputable def ayn:FD:=cp 191 Tryz.f191 2 0 3 Ge Gd [] .nil
noncomputable def azU:List Cl:=[.fc 86 [cK 1 8 54],.fc 87 [cK 1 8 54],.fn 88,.fc 90 [cK 1 8 54],.fn 89,.fc 91 [cK 1 8 54]]
noncomputable def atH:k8:= .ur 26 4 k8.nil
noncomputable def azb:List Cl:= .inl 185 Tryz.f185 atH::azU
def amg:ax:=⟨[(19,.one (cU))],[]⟩
def aIP:ax:=⟨[eB 20],[]⟩
def atD:Pc:=pJ 0 4084 0 15728640 amg [xN aIP]
def aIO:ax:=⟨[eB 65],[]⟩
def ard:Pc:=pJ 0 4184062 0 553402322211286548480 amg [xN aIO]
def aIN:ax:=⟨[eA 0 ql,eI 1],[]⟩
noncomputable def Wd:FD:=nw [.iV 0 [.raw,.raw,.raw,.raw,.raw,.raw,.raw,.raw,.slice 54]] 143 Tryz.f143 1 2 0 s73 aIN azb (.pc ard<| .pc atD<| .nil)
def aIM:ax:=⟨[eS 0 98],[]⟩
def ZT:ax:=⟨[eO 0 0],[.row 98]⟩
noncomputable def as9:FD:=cp 144 Tryz.f144 1 1 0 aIM ZT [] .nil
def amf:ax:=⟨[(0,.one (.gE))],[]⟩
noncomputable def aqX:FD:=nw [.mk 0 98] 144 Tryz.f144 1 1 0 amf ZT [] .nil
def ame:ax:=⟨[(0,.one (.jF))],[]⟩
noncomputable def aqW:FD:=cp 144 Tryz.f144 1 1 0 ame ZT [] .nil
def Kh:List ez:=[cS 120,cI]
def aIL:ax:=⟨[eA 0 Kh,eI 1,eI 2],[]⟩
noncomputable def aud:FD:=cp 145 Tryz.f145 3 1 0 aIL ew [] .nil
def aIK:ax:=⟨[eA 0 Kh,eI 1,eI 2,eI 3],[]⟩
noncomputable def awy:FD:=cp 146 Tryz.f146 4 1 0 aIK ew [] .nil
noncomputable def aAT:FD:=nw [.iV 0 [.raw,.raw,.slice 3,.raw,.raw]] 147 Tryz.f147 0 1 0 ⟨[],[]⟩ RK [] .nil
noncomputable def avl:FD:=cp 42 Tryz.f42 1 1 0 RK ew [] .nil
noncomputable def aAo:FD:=nw [.iV 0 [.raw,.raw,.slice 3,.raw,.raw]] 148 Tryz.f148 0 1 0 ⟨[],[]⟩ RK [] .nil
def av1:Pc:=pJ 0 6 2 130816 s79 [xN s80]
def amd:ax:=⟨[(0,.one (cU))],[]⟩
def aIJ:ax:=⟨[eB 17],[]⟩
def auM:Pc:=pJ 0 56 0 16646144 amd [xN aIJ]
def atE:Pc:=pJ 0 230 0 8522825728 amd [xN amv]
noncomputable def Nq:FD:=nw [.iV 0 [.raw,.raw,.slice 3,.raw,.raw]] 149 Tryz.f149 3 2 0 s86 Ay [.fn 98,.fn 97,.fn 99] (.pc atE<| .pc auM<| .pc av1<| .nil)
def amc:ax:=⟨[(0,.one (.cell (.int .u64)))],[]⟩
noncomputable def avi:FD:=cp 218 Tryz.f218 1 1 0 amc Az [] .nil
noncomputable def axx:FD:=cp 213 Tryz.f213 1 1 0 amc Az [.fn 104] .nil
def aII:ax:=⟨[eO 0 0,eI 1,eI 7],[.row 3]⟩
def aoZ:Pc:=pL 1 402 1 562949953355904 aII [xE 2 vq]
def aIH:ax:=⟨[eO 0 0,eI 1,eI 2,eI 6],[.row 3]⟩
def ao8:Pc:=pL 1 6 1 562949953420480 aIH [xE 0 vq]
def aIG:ax:=⟨[eO 0 0,eI 1,eI 2],[.row 3]⟩
noncomputable def apd:FD:=cp 222 Tryz.f222 3 0 1 aIG vq [.fn 107] (.pc ao8<| .pc aoZ<| .nil)
def aIF:ax:=⟨[eO 0 0,eI 1,eI 2,eI 3,eB 8],[.row 3]⟩
def amb:ax:=⟨[eI 3],[.row 3]⟩
def ape:Pc:=pJ 1 910 1 4380866641928 aIF [xN amb]
def aIE:ax:=⟨[eO 0 0,eI 1,eI 2,eI 11,eI 12],[.row 3]⟩
def aID:ax:=⟨[eI 11,eI 12],[.row 3]⟩
def apc:Pc:=pJ 1 3646 1 2305280059260278784 aIE [xN aID]
def aIC:ax:=⟨[eB 8,eB 9,eI 12],[.row 3]⟩
def aIB:ax:=⟨[eB 68],[.row 3]⟩
def apa:Pc:=pJ 1 14588 1 587989967349491957760 aIC [xN aIB]
def aIA:ax:=⟨[eO 0 0,eI 1,eI 2,eB 8,eB 9,eI 12],[.row 3]⟩
def apb:Pc:=pJ 1 7294 1 9442427122730076733440 aIA [xN vq,xR vq]
def aIz:ax:=⟨[eO 0 0,eI 1,eI 2,eI 11],[.row 3]⟩
def ama:ax:=⟨[eI 1],[.row 3]⟩
def ao9:Pc:=pJ 1 14590 1 19807031183833118659095568386 aIz [xN ama,xE 1 ama]
def aIy:ax:=⟨[eO 0 0,eI 1,eI 2,eI 3,eB 8,eB 9],[.row 3]⟩
def apf:Pc:=pL 1 14 1 21778071482940061661655974875633165532942 aIy [xR vq]
def aIx:ax:=⟨[eO 0 0,eI 1,eI 2,eI 3],[.row 3]⟩
noncomputable def aph:FD:=cp 212 Tryz.f212 4 0 1 aIx vq [.fn 110,.fn 111,.fn 112,.fn 114,.fn 117,.fn 121,.fn 122,.fn 107,.fn 123,.fn 124] (.pc apf<| .pc ao9<| .pc apb<| .pc apa<| .pc apc<| .pc ape<| .nil)
def Gc:ax:=⟨[eO 0 0],[.row 3]⟩
noncomputable def L5:FD:=cp 192 Tryz.f192 1 0 1 Gc vq [.Ax 192 3,.fn 110,.fn 103] .nil
def aIw:ax:=⟨[eO 0 0,eI 3,(4,.one (.vw 0)),eI 5],[.row 3]⟩
def apg:Pc:=pL 1 59690 1 18014397972611112 aIw [xE 2 amb]
def aIv:ax:=⟨[eO 0 0,eI 3],[.row 3]⟩
def aIu:ax:=⟨[eO 2 1],[.gone,.row 3]⟩
def apl:Pc:=pL 1 58 1 1152921504606846012 aIv [xR aIu,xE 0 vq]
def aIt:ax:=⟨[eO 0 1],[.gone,.row 3]⟩
noncomputable def S8:FD:=nw [.mov 0] 193 Tryz.f193 1 1 1 Gc aIt [] (.pc apl<| .pc apg<| .nil)
def aIs:ax:=⟨[eP 2 0,eP 3 1,eP 4 2],[jW,jW,rn,.row 3]⟩
def aIr:ax:=⟨[],[jW,jW,rn,.row 3]⟩
def aIq:ax:=⟨[eB 5],[jW,jW,rn,.row 3]⟩
def av0:Pc:=dY [cK 4 2 3] (pJ 0 6 3 268434976 aIs [xN aIr,(.ret,[.sR (λenv M=>2) 2 3],aIq)])
def aIp:ax:=⟨[eP 4 0,eP 6 1,eO 31 2,eI 32,eI 33],[rn,tT,.row 98,.row 3,.row 3]⟩
def aIo:ax:=⟨[eB 5],[rn,tT,.row 98,.row 3,.row 3]⟩
def aIn:ax:=⟨[],[rn,tT,.row 98,.row 3,.row 3]⟩
def atn:Pc:=dY [cK 6 2 3] (pL 0 122 3 36028788429029664 aIp [(.ret,[.sR (λenv M=>0) 2 3],aIo),xE 0 aIn])
noncomputable def VW:FD:=cp 150 Tryz.f150 2 2 0 amU Z4 [.fn 109,.fn 126] (.pc atn<| .pc av0<| .nil)
def aqd:Pc:=dY [cK 4 2 3] (pJ 0 6 2 523296 amT [xN Z5,(.ret,[.sR (λenv M=>1) 2 3],amS)])
def F7:fu:=bV [cS 120,cI]
def aIm:ax:=⟨[eP 2 0,eP 6 1,eS 20 3,eI 21,eI 22],[F7,wW,.row 3]⟩
def aIl:ax:=⟨[],[F7,wW,.row 3]⟩
def apF:Pc:=Lx [.sR (λenv M=>1) 2 3] (dY [cK 6 2 3] (pL 0 122 2 4503599623177088 aIm [xE 0 aIl]))
def aIk:ax:=⟨[eA 0 Kh,eA 1 vR],[]⟩
noncomputable def TG:FD:=cp 151 Tryz.f151 2 2 0 aIk Z4 [] (.pc apF<| .pc aqd<| .nil)
def aIj:ax:=⟨[eP 4 0,eP 6 1,eP 8 2,eI 9],[gK,rn,gK,.row 3]⟩
def aIi:ax:=⟨[],[gK,rn,gK,.row 3]⟩
def aIh:ax:=⟨[eB 7],[gK,rn,gK,.row 3]⟩
def arb:Pc:=dY [cK 6 2 3] (pJ 0 14 3 1208925819614629141151872 aIj [xN aIi,(.ret,[.sR (λenv M=>1) 2 3],aIh)])
def aIg:ax:=⟨[eS 2 98,eP 4 0,eO 10 1,eI 11,eS 13 98],[gK,.row 98]⟩
def aIf:ax:=⟨[eS 13 98],[gK,.row 98]⟩
def apT:Pc:=pJ 0 64102 2 10140585831806192521836176089088 aIg [(.normal,[.ly 13 (.slice 98)],aIf)]
def aIe:ax:=⟨[eS 2 98,eP 3 0,eP 4 1,eP 6 2,eO 10 3,eS 81 54,eI 82,eI 83],[F7,gK,tT,.row 98,.row 3]⟩
def al9:ax:=⟨[eB 7],[F7,gK,rn,.row 3]⟩
def al8:ax:=⟨[eO 10 3],[F7,gK,tT,.row 98,.row 3]⟩
def aqu:Pc:=pL 0 250 3 332306998936557561669034731672501376 aIe [(.ret,[.sR (λenv M=>2) 2 3],al9),xE 0 al8]
def aId:ax:=⟨[eS 2 98,eP 3 0,eP 4 1,eP 6 2,eO 10 3],[F7,gK,tT,.row 98,.row 3]⟩
def ara:Pc:=dY [.mk 10 98] (pJ 0 62 3 332306998945020042406337135895444608 aId [xN al8,xR al9])
def aIc:ax:=⟨[(119,.one (cU))],[]⟩
def aIb:ax:=⟨[eB 235],[]⟩
def apy:Pc:=pJ 0 1038334 0 386497795420271572096346328287513425337262102441541647089101356532760576 aIc [xN aIb]
def aIa:ax:=⟨[eA 0 Kh,eA 1 ql,eS 2 98],[]⟩
noncomputable def Ec:FD:=nw [.iV 0 [.raw,.raw,.slice 3,.raw,.raw]] 96 Tryz.f96 3 2 0 aIa Ay [.fn 98,.fn 84,.fn 85,.Q9 98 92 93 94,.fn 95,.fn 96,.fn 97,.fn 99,.fn 100,.fn 101,.fn 127] (.pc apy<| .pc ara<| .pc aqu<| .pc apT<| .pc arb<| .nil)
def aH9:ax:=⟨[eA 0 Kh,eA 1 ql],[]⟩
noncomputable def axA:FD:=nw [.iV 0 [.raw,.raw,.slice 3,.raw,.raw]] 41 Tryz.f41 2 2 0 aH9 Ay [.fn 83,.aac 84 [(2,98)]] .nil
def aH8:ax:=⟨[eS 0 3,eI 1,eI 7,eI 8],[]⟩
def aH7:ax:=⟨[eI 4],[]⟩
def aqo:Pc:=pL 0 26 0 524080 aH8 [xR aH7,xE 0 ⟨[],[]⟩]
noncomputable def acA:FD:=cp 152 Tryz.f152 2 1 0 RN Az [] (.pc aqo<| .nil)
noncomputable def arz:FD:=cp 97 Tryz.f97 2 1 0 RN ew [.fn 130] .nil
def aH6:ax:=⟨[eA 0 ql,eP 1 0,eP 2 1],[bV [cS 120],bV [cS 3]]⟩
def al7:ax:=⟨[eB 0],[bV [cS 120],bV [cS 3]]⟩
noncomputable def aym:FD:=cp 99 Tryz.f99 3 1 2 aH6 al7 [.fn 128] .nil
def aH5:ax:=⟨[eS 0 54,(1,.one (.cl 99 [(0,0,0),(1,0,0)])),eI 7,eI 8],[bV [cS 120],bV [cS 3]]⟩
def aH4:ax:=⟨[eI 4],[bV [cS 120],bV [cS 3]]⟩
def aH3:ax:=⟨[],[bV [cS 120],bV [cS 3]]⟩
def aoV:Pc:=pL 0 26 2 524080 aH5 [xR aH4,xE 0 aH3]
def al6:ax:=⟨[eS 0 54,(1,.one (.cl 99 [(0,0,0),(1,0,0)]))],[bV [cS 120],bV [cS 3]]⟩
def aH2:ax:=⟨[eI 0],[bV [cS 120],bV [cS 3]]⟩
noncomputable def abo:FD:=cp 153 Tryz.f153 2 1 2 al6 aH2 [.fn 133] (.pc aoV<| .nil)
noncomputable def ao4:FD:=cp 98 Tryz.f98 2 1 2 al6 al7 [.fn 132] .nil
def auJ:Pc:=pJ 0 116 0 31744 RM [xN s67]
def aH1:ax:=⟨[eP 3 0,eP 4 1,eP 5 2,eB 7],[bV [cS 120],bV [cS 3],gK]⟩
def aH0:ax:=⟨[eB 7],[bV [cS 120],bV [cS 3],gK]⟩
def avZ:Pc:=pJ 0 14 3 35184372088704 aH1 [xN aH0]
noncomputable def Wc:FD:=cp 43 Tryz.f43 3 1 0 amN ew [.fn 129,.fn 131] (.pc avZ<| .pc auJ<| .nil)
noncomputable def axB:FD:=cp 20 Tryz.f20 2 1 0 amE ew [.fn 137] .nil
def aHZ:ax:=⟨[eS 1 54,(2,.one (.fn 20)),eS 15 54,eI 16,eI 17],[]⟩
def aoP:Pc:=pL 0 58 0 4294837184 aHZ [xR yJ,xE 0 ⟨[],[]⟩]
def aHY:ax:=⟨[eS 0 54,eS 1 54,(2,.one (.fn 20))],[]⟩
noncomputable def abl:FD:=cp 63 Tryz.f63 3 1 0 aHY ew [.fn 138] (.pc aoP<| .nil)
def aHX:ax:=⟨[eS 0 3,eS 1 3,eI 12,eI 13],[]⟩
def aqp:Pc:=pL 0 58 0 67100720 aHX [xR Da,xE 0 ⟨[],[]⟩]
noncomputable def acB:FD:=cp 58 Tryz.f58 2 1 0 QW ew [] (.pc aqp<| .nil)
def aHW:ax:=⟨[eA 0 Ki,eA 1 Ki],[]⟩
noncomputable def awz:FD:=cp 68 Tryz.f68 2 1 0 aHW ew [.fn 137] .nil
def aHV:ax:=⟨[eS 1 118,(2,.one (.fn 68)),eS 15 118,eI 16,eI 17],[]⟩
def aoH:Pc:=pL 0 58 0 4294837184 aHV [xR yJ,xE 0 ⟨[],[]⟩]
def aHU:ax:=⟨[eS 0 118,eS 1 118,(2,.one (.fn 68))],[]⟩
noncomputable def abg:FD:=cp 67 Tryz.f67 3 1 0 aHU ew [.fn 141] (.pc aoH<| .nil)
def aHT:ax:=⟨[eS 1 41,(2,.one (.fn 22)),eS 15 41,eI 16,eI 17],[]⟩
def aoO:Pc:=pL 0 58 0 4294837184 aHT [xR yJ,xE 0 ⟨[],[]⟩]
def aHS:ax:=⟨[eS 0 41,eS 1 41,(2,.one (.fn 22))],[]⟩
noncomputable def abk:FD:=cp 69 Tryz.f69 3 1 0 aHS ew [.fn 136] (.pc aoO<| .nil)
def anX:List ez:=[cU,cI,cI,cI,cI,cI,cB,cB,cB,cB,cB,cU,cS 54,cS 54,cS 118,cS 118,cS 3,cS 41,cS 110,cS 112,cS 115,cU,cI,cI,cI,cI,cI,cB,cB,cB,cB,cB,cU,cS 54,cS 54,cS 118,cS 118,cS 3,cS 41,cS 110,cS 112,cS 115]
def aHR:ax:=⟨[eA 0 anX,eA 1 anX],[]⟩
noncomputable def avo:FD:=cp 70 Tryz.f70 2 1 0 aHR ew [.fn 136] .nil
def aHQ:ax:=⟨[eS 1 110,(2,.one (.fn 70)),eS 15 110,eI 16,eI 17],[]⟩
def aoB:Pc:=pL 0 58 0 4294837184 aHQ [xR yJ,xE 0 ⟨[],[]⟩]
def aHP:ax:=⟨[eS 0 110,eS 1 110,(2,.one (.fn 70))],[]⟩
noncomputable def abd:FD:=cp 73 Tryz.f73 3 1 0 aHP ew [.fn 144] (.pc aoB<| .nil)
def anW:List ez:=[cS 3,cU,cI,cI,cI,cI,cI,cB,cB,cB,cB,cB,cU,cS 54,cS 54,cS 118,cS 118,cS 3,cS 41,cS 110,cS 112,cS 115]
def aHO:ax:=⟨[eA 0 anW,eA 1 anW],[]⟩
noncomputable def avn:FD:=cp 71 Tryz.f71 2 1 0 aHO ew [.fn 136,.fn 139] .nil
def aHN:ax:=⟨[eS 1 112,(2,.one (.fn 71)),eS 15 112,eI 16,eI 17],[]⟩
def aoq:Pc:=pL 0 58 0 4294837184 aHN [xR yJ,xE 0 ⟨[],[]⟩]
def aHM:ax:=⟨[eS 0 112,eS 1 112,(2,.one (.fn 71))],[]⟩
noncomputable def aa0:FD:=cp 74 Tryz.f74 3 1 0 aHM ew [.fn 146] (.pc aoq<| .nil)
def aHL:ax:=⟨[eA 0 aaB,eA 1 aaB],[]⟩
noncomputable def avm:FD:=cp 72 Tryz.f72 2 1 0 aHL ew [.fn 138,.fn 136,.fn 137] .nil
def aHK:ax:=⟨[eS 1 115,(2,.one (.fn 72)),eS 15 115,eI 16,eI 17],[]⟩
def aoI:Pc:=pL 0 58 0 4294837184 aHK [xR yJ,xE 0 ⟨[],[]⟩]
def aHJ:ax:=⟨[eS 0 115,eS 1 115,(2,.one (.fn 72))],[]⟩
noncomputable def abh:FD:=cp 75 Tryz.f75 3 1 0 aHJ ew [.fn 148] (.pc aoI<| .nil)
def aHI:ax:=⟨[eB 8],[v0,v0]⟩
def asN:Pc:=pJ 0 24 2 72057594037927680 yo [xN aHI]
def aHH:ax:=⟨[eB 56],[v0,v0]⟩
def arZ:Pc:=pJ 0 102 2 1237940039213322680861196288 yo [xN aHH]
def aHG:ax:=⟨[eB 90],[v0,v0]⟩
def arY:Pc:=pJ 0 414 2 10384592479129615971680717759315968 yo [xN aHG]
def atF:Pc:=pJ 0 6 2 87112285931760246646623899502532662132496 yo [xN yn,xR ym]
noncomputable def HR:FD:=cp 22 Tryz.f22 2 1 0 amD ew [.fn 139,.fn 137,.fn 140,.fn 142,.fn 143,.fn 145,.fn 147] (.pc atF<| .pc arY<| .pc arZ<| .pc asN<| .nil)
def al5:ax:=⟨[(24,.one (cU))],[]⟩
def aHF:ax:=⟨[eB 51],[]⟩
def aqE:Pc:=pJ 0 33390590 0 15762598695796736 al5 [xN aHF]
def aHE:ax:=⟨[eB 63],[]⟩
def apS:Pc:=pJ 0 2136997886 0 64563604257983430656 al5 [xN aHE]
def F6:fu:=bV [cU,cI,cI,cI,cI,cI,cB,cB,cB,cB,cB,cU,.aA 3,.aA 4,.aA 5,.aA 6,.aA 7,.aA 8,.aA 9,.aA 10,.aA 11]
def aHD:ax:=⟨[eP 1 0,eP 4 1,eI 5,eI 6,eI 7,(8,.one (.mpr 2))],[v0,F6,.mp (.str) false [.bool],.row 54,.row 54,.row 118,.row 118,.row 3,.row 41,.row 110,.row 112,.row 115]⟩
def aHC:ax:=⟨[eI 5,eI 6,eI 7],[v0,F6,.mp (.str) false [.bool],.row 54,.row 54,.row 118,.row 118,.row 3,.row 41,.row 110,.row 112,.row 115]⟩
def aHB:ax:=⟨[eB 2],[v0,F6,.mp (.str) false [.bool],.row 54,.row 54,.row 118,.row 118,.row 3,.row 41,.row 110,.row 112,.row 115]⟩
def auI:Pc:=dY [cK 4 12 54,cK 4 13 54,cK 4 14 118,cK 4 15 118,cK 4 16 3,cK 4 17 41,cK 4 18 110,cK 4 19 112,cK 4 20 115] (pJ 0 254 3 11150372599265311570767859136324180744601828 aHD [xN aHC,xR aHB])
def ZI:fu:=bV [cU,cI,cI,cI,cI,cI,cB,cB,cB,cB,cB,cU,.aA 12,.aA 13,.aA 14,.aA 15,.aA 16,.aA 17,.aA 18,.aA 19,.aA 20]
def aHA:ax:=⟨[eP 1 0,eP 3 1,eP 4 2,eI 5,eI 6,eI 7],[v0,F6,ZI,.row 54,.row 54,.row 118,.row 118,.row 3,.row 41,.row 110,.row 112,.row 115,.row 54,.row 54,.row 118,.row 118,.row 3,.row 41,.row 110,.row 112,.row 115]⟩
def aHz:ax:=⟨[],[v0,F6,ZI,.eN 54,.eN 54,.eN 118,.eN 118,.eN 3,.eN 41,.eN 110,.eN 112,.eN 115,.eN 54,.eN 54,.eN 118,.eN 118,.eN 3,.eN 41,.eN 110,.eN 112,.eN 115]⟩
def aHy:ax:=⟨[eB 2],[v0,F6,ZI,.eN 54,.eN 54,.eN 118,.eN 118,.eN 3,.eN 41,.eN 110,.eN 112,.eN 115,.eN 54,.eN 54,.eN 118,.eN 118,.eN 3,.eN 41,.eN 110,.eN 112,.eN 115]⟩
def auH:Pc:=dY [cK 3 12 54,cK 3 13 54,cK 3 14 118,cK 3 15 118,cK 3 16 3,cK 3 17 41,cK 3 18 110,cK 3 19 112,cK 3 20 115] (pJ 0 510 3 374144408006338547794831746407509316707737978011652 aHA [xN aHz,xR aHy])
noncomputable def Ij:FD:=cp 100 Tryz.f100 1 1 0 s7 ew [.fc 136 [.iV 0 [.raw,.raw,.raw,.raw,.raw,.raw,.raw,.raw,.raw,.raw,.raw,.raw,.slice 54,.slice 54,.slice 118,.slice 118,.slice 3,.slice 41,.slice 110,.slice 112,.slice 115],.iV 1 [.raw,.raw,.raw,.raw,.raw,.raw,.raw,.raw,.raw,.raw,.raw,.raw,.slice 54,.slice 54,.slice 118,.slice 118,.slice 3,.slice 41,.slice 110,.slice 112,.slice 115]]] (.pc auH<| .pc auI<| .pc apS<| .pc aqE<| .nil)
def aHx:ax:=⟨[(4,.one (cU))],[]⟩
def aHw:ax:=⟨[eB 5],[]⟩
def auL:Pc:=pJ 0 52 0 32736 aHx [xN aHw]
noncomputable def ael:FD:=cp 154 Tryz.f154 1 1 0 s7 ew [] (.pc auL<| .nil)
def ef:fu:=bV [cS 120,cI,cS 120,cI,cS 57,cS 67,.aA 1,cI,.mpr 2]
def fQ:fu:=bV [.ptr 0 0 0,cI,cS 3,cS 3,cS 3,cS 3,cS 3,cB,cB,cB,cI,cI]
def yl:ax:=⟨[eP 2 3,eP 3 4],[ef,.row 166,.mp (.int .i64) false [.int .i64],fQ,v0]⟩
def yk:ax:=⟨[],[ef,.row 166,.mp (.int .i64) false [.int .i64],fQ,v0]⟩
def Ad:ax:=⟨[eB 4],[ef,.row 166,.mp (.int .i64) false [.int .i64],fQ,v0]⟩
def aqz:Pc:=pJ 3 6 5 8176 yl [xN yk,xR Ad]
def aHv:ax:=⟨[(14,.one (cU))],[ef,.row 166,.mp (.int .i64) false [.int .i64]]⟩
def aHu:ax:=⟨[eB 15],[ef,.row 166,.mp (.int .i64) false [.int .i64]]⟩
def apP:Pc:=pJ 3 116 3 491520 aHv [xN aHu]
def aqa:Pc:=pJ 3 14 5 1073733648 yl [xN yk,xR Ad]
def CZ:List ez:=[.ptr 0 0 0,cI,cS 3,cS 3,cS 3,cS 3,cS 3,cB,cB,cB,cI,cI]
def Ac:ax:=⟨[eA 0 CZ,eA 1 h6],[ef,.row 166,.mp (.int .i64) false [.int .i64]]⟩
def pn:ax:=⟨[eB 0],[ef,.row 166,.mp (.int .i64) false [.int .i64]]⟩
noncomputable def Mf:FD:=cp 101 Tryz.f101 2 1 3 Ac pn [.fn 150] (.pc aqa<| .pc apP<| .pc aqz<| .nil)
def QR:ax:=⟨[eA 0 CZ,eI 1],[ef,.row 166,.mp (.int .i64) false [.int .i64]]⟩
noncomputable def awv:FD:=cp 158 Tryz.f158 2 1 3 QR pn [.fn 129] .nil
def pj:fu:=bV [.ptr 1 0 0,cI,cS 3,cS 3,cS 3,cS 3,cS 3,cB,cB,cB,cI,cI]
def ph:fu:=bV [cS 120,cI,cS 120,cI,cS 57,cS 67,.aA 2,cI,.mpr 3]
def aHt:ax:=⟨[eA 0 ql,eP 1 0],[pj,ph,.row 166,.mp (.int .i64) false [.int .i64]]⟩
def Ab:ax:=⟨[eB 0],[pj,ph,.row 166,.mp (.int .i64) false [.int .i64]]⟩
noncomputable def atc:FD:=cp 232 Tryz.f232 2 1 4 aHt Ab [.fn 154] .nil
def aHs:ax:=⟨[eS 0 54,(1,.one (.cl 232 [(0,0,0)])),eI 7,eI 8],[pj,ph,.row 166,.mp (.int .i64) false [.int .i64]]⟩
def ZS:ax:=⟨[eI 4],[pj,ph,.row 166,.mp (.int .i64) false [.int .i64]]⟩
def QQ:ax:=⟨[],[pj,ph,.row 166,.mp (.int .i64) false [.int .i64]]⟩
def aot:Pc:=pL 4 26 4 524080 aHs [xR ZS,xE 0 QQ]
def al4:ax:=⟨[eS 0 54,(1,.one (.cl 232 [(0,0,0)]))],[pj,ph,.row 166,.mp (.int .i64) false [.int .i64]]⟩
def ZR:ax:=⟨[eI 0],[pj,ph,.row 166,.mp (.int .i64) false [.int .i64]]⟩
noncomputable def aa3:FD:=cp 153 Tryz.f153 2 1 4 al4 ZR [.fn 158] (.pc aot<| .nil)
noncomputable def aoz:FD:=cp 98 Tryz.f98 2 1 4 al4 Ab [.fn 157] .nil
def aHr:ax:=⟨[eP 2 3,eP 3 4],[ef,.row 166,.mp (.int .i64) false [.int .i64],fQ,gK]⟩
def aHq:ax:=⟨[],[ef,.row 166,.mp (.int .i64) false [.int .i64],fQ,gK]⟩
def aHp:ax:=⟨[eB 4],[ef,.row 166,.mp (.int .i64) false [.int .i64],fQ,gK]⟩
def arW:Pc:=pJ 3 6 5 268435440 aHr [xN aHq,xR aHp]
def QP:ax:=⟨[eA 0 CZ,eA 1 ql],[ef,.row 166,.mp (.int .i64) false [.int .i64]]⟩
noncomputable def acT:FD:=cp 214 Tryz.f214 2 1 3 QP pn [.fn 156,.fn 155] (.pc arW<| .nil)
def aHo:ax:=⟨[eA 0 vR,eB 1],[ef,.row 166,.mp (.int .i64) false [.int .i64]]⟩
noncomputable def avj:FD:=cp 194 Tryz.f194 2 2 3 QP aHo [.fn 82,.fn 154] .nil
def aHn:ax:=⟨[eI 0,eP 1 0],[pj,ph,.row 166,.mp (.int .i64) false [.int .i64]]⟩
noncomputable def asn:FD:=cp 195 Tryz.f195 2 1 4 aHn Ab [.fn 129] .nil
def aHm:ax:=⟨[eS 0 3,(1,.one (.cl 195 [(0,0,0)])),eI 7,eI 8],[pj,ph,.row 166,.mp (.int .i64) false [.int .i64]]⟩
def aov:Pc:=pL 4 26 4 524080 aHm [xR ZS,xE 0 QQ]
def al3:ax:=⟨[eS 0 3,(1,.one (.cl 195 [(0,0,0)]))],[pj,ph,.row 166,.mp (.int .i64) false [.int .i64]]⟩
noncomputable def aa7:FD:=cp 141 Tryz.f141 2 1 4 al3 ZR [.fn 161] (.pc aov<| .nil)
noncomputable def aoF:FD:=cp 91 Tryz.f91 2 1 4 al3 Ab [.fn 160] .nil
def ZH:fu:=bV [cU,cI,cI,cI,.aA 5]
def al0:ax:=⟨[eP 3 3,eP 6 4,eI 7],[ef,.row 166,.mp (.int .i64) false [.int .i64],oE,ZH,.row 54]⟩
def aHl:ax:=⟨[eI 7],[ef,.row 166,.mp (.int .i64) false [.int .i64],oE,ZH,.row 54]⟩
def aFw:fu:=bV [cU,cI,cI,cI,.aA 6]
def alZ:ax:=⟨[eO 4 5,eB 5],[ef,.row 166,.mp (.int .i64) false [.int .i64],oE,aFw,.row 3,.row 54]⟩
def aqB:Pc:=dY [cK 6 4 54] (pJ 3 30 5 137438937264 al0 [xN aHl,(.ret,[.mk 4 3],alZ)])
def aHk:ax:=⟨[],[ef,.row 166,.mp (.int .i64) false [.int .i64],oE,ZH,.row 54]⟩
def aqA:Pc:=pJ 3 62 5 9223371899415822384 al0 [xN aHk,(.ret,[.mk 4 3],alZ)]
def aFv:fu:=bV [cB,cB,.aA 6,cI,cI]
def aHj:ax:=⟨[eP 2 3,eP 3 4,eI 7,eP 8 5],[ef,.row 166,.mp (.int .i64) false [.int .i64],fQ,oE,aFv,.row 3]⟩
def alY:ax:=⟨[],[ef,.row 166,.mp (.int .i64) false [.int .i64],fQ,oE,jW]⟩
def ZQ:ax:=⟨[eO 4 6,eB 5],[ef,.row 166,.mp (.int .i64) false [.int .i64],fQ,oE,jW,.row 3]⟩
def aqb:Pc:=dY [cK 8 2 3] (pJ 3 254 6 75548640353877468643888 aHj [(.normal,[.nF (λenv M=>5) 2 3],alY),(.ret,[.mk 4 3],ZQ)])
def alX:ax:=⟨[eP 2 3,eP 3 4,eP 8 5],[ef,.row 166,.mp (.int .i64) false [.int .i64],fQ,oE,jW]⟩
def apx:Pc:=pJ 3 130908 6 174224561478926776223592541944072665825328 alX [xN alY,(.ret,[.mk 4 3],ZQ)]
def aHi:ax:=⟨[eS 10 3],[ef,.row 166,.mp (.int .i64) false [.int .i64],fQ,oE,jW]⟩
def apQ:Pc:=pJ 3 1022 6 1393796574908163946270424528314608270705712 alX [(.normal,[.ly 10 (.slice 3)],aHi),(.ret,[.mk 4 3],ZQ)]
def alW:ax:=⟨[eA 0 CZ,eA 1 Ki],[ef,.row 166,.mp (.int .i64) false [.int .i64]]⟩
def aHh:ax:=⟨[eS 0 3,eB 1],[ef,.row 166,.mp (.int .i64) false [.int .i64]]⟩
noncomputable def D6:FD:=nw [.ly 0 (.slice 3)] 155 Tryz.f155 2 2 3 alW aHh [.fn 159,.fn 95,.fn 96,.fn 155,.fn 153] (.pc apQ<| .pc apx<| .pc aqb<| .pc aqA<| .pc aqB<| .nil)
def aHg:ax:=⟨[eI 0,eP 1 0],[bV [cS 3]]⟩
def alV:ax:=⟨[eB 0],[bV [cS 3]]⟩
noncomputable def axz:FD:=cp 233 Tryz.f233 2 1 1 aHg alV [.fn 129] .nil
def aHf:ax:=⟨[eS 0 3,(1,.one (.cl 233 [(0,0,0)])),eI 7,eI 8],[bV [cS 3]]⟩
def aHe:ax:=⟨[eI 4],[bV [cS 3]]⟩
def aHd:ax:=⟨[],[bV [cS 3]]⟩
def ao0:Pc:=pL 0 26 1 524080 aHf [xR aHe,xE 0 aHd]
def alU:ax:=⟨[eS 0 3,(1,.one (.cl 233 [(0,0,0)]))],[bV [cS 3]]⟩
def aHc:ax:=⟨[eI 0],[bV [cS 3]]⟩
noncomputable def abq:FD:=cp 141 Tryz.f141 2 1 1 alU aHc [.fn 170] (.pc ao0<| .nil)
noncomputable def ao7:FD:=cp 91 Tryz.f91 2 1 1 alU alV [.fn 169] .nil
noncomputable def ay9:FD:=cp 215 Tryz.f215 2 1 0 QW ew [.fn 168] .nil
def aHb:ax:=⟨[eA 0 vR,eA 1 Lo],[]⟩
noncomputable def awx:FD:=cp 197 Tryz.f197 2 1 0 aHb ew [.fn 167] .nil
def Cu:fu:=bV [.ptr 2 0 0,cI,cS 3,cS 3,cS 3,cS 3,cS 3,cB,cB,cB,cI,cI]
def Ct:fu:=bV [cS 120,cI,cS 120,cI,cS 57,cS 67,.aA 3,cI,.mpr 4]
def aHa:ax:=⟨[eI 0,eP 1 0,eP 2 1],[jW,Cu,Ct,.row 166,.mp (.int .i64) false [.int .i64]]⟩
def alT:ax:=⟨[eB 0],[jW,Cu,Ct,.row 166,.mp (.int .i64) false [.int .i64]]⟩
noncomputable def aub:FD:=cp 196 Tryz.f196 3 1 5 aHa alT [.fn 166] .nil
def aG9:ax:=⟨[eS 0 3,(1,.one (.cl 196 [(0,0,0),(1,0,0)])),eI 7,eI 8],[jW,Cu,Ct,.row 166,.mp (.int .i64) false [.int .i64]]⟩
def aG8:ax:=⟨[eI 4],[jW,Cu,Ct,.row 166,.mp (.int .i64) false [.int .i64]]⟩
def aG7:ax:=⟨[],[jW,Cu,Ct,.row 166,.mp (.int .i64) false [.int .i64]]⟩
def aoG:Pc:=pL 5 26 5 524080 aG9 [xR aG8,xE 0 aG7]
def alS:ax:=⟨[eS 0 3,(1,.one (.cl 196 [(0,0,0),(1,0,0)]))],[jW,Cu,Ct,.row 166,.mp (.int .i64) false [.int .i64]]⟩
def aG6:ax:=⟨[eI 0],[jW,Cu,Ct,.row 166,.mp (.int .i64) false [.int .i64]]⟩
noncomputable def abf:FD:=cp 141 Tryz.f141 2 1 5 alS aG6 [.fn 165] (.pc aoG<| .nil)
noncomputable def aoT:FD:=cp 91 Tryz.f91 2 1 5 alS alT [.fn 164] .nil
def aG5:ax:=⟨[eA 0 CZ,eA 1 ql,eS 2 3],[ef,.row 166,.mp (.int .i64) false [.int .i64]]⟩
noncomputable def aww:FD:=cp 156 Tryz.f156 3 1 3 aG5 pn [.fn 163,.fn 153] .nil
noncomputable def aqY:FD:=cp 157 Tryz.f157 2 1 3 QP pn [.fn 98,.fn 153] .nil
noncomputable def ate:FD:=cp 159 Tryz.f159 2 1 3 QP pn [.fn 153] .nil
noncomputable def aso:FD:=cp 160 Tryz.f160 2 1 3 alW pn [.fn 152] .nil
def alR:ax:=⟨[eA 0 CZ,eI 1,eI 2],[ef,.row 166,.mp (.int .i64) false [.int .i64]]⟩
noncomputable def avk:FD:=cp 161 Tryz.f161 3 1 3 alR pn [] .nil
noncomputable def auc:FD:=cp 162 Tryz.f162 3 1 3 alR pn [] .nil
noncomputable def aAm:FD:=cp 168 Tryz.f168 1 1 0 s7 ew [.fc 136 [.iV 1 [.raw,.raw,.raw,.raw,.raw,.raw,.raw,.raw,.raw,.raw,.raw,.raw,.slice 54,.slice 54,.slice 118,.slice 118,.slice 3,.slice 41,.slice 110,.slice 112,.slice 115]]] .nil
def ZP:ax:=⟨[(8,.one (cU))],[ef,.row 166,.mp (.int .i64) false [.int .i64]]⟩
def aG4:ax:=⟨[eB 9],[ef,.row 166,.mp (.int .i64) false [.int .i64]]⟩
def ap9:Pc:=pJ 3 116 3 3584 ZP [xN aG4]
def aG3:ax:=⟨[eP 3 3,eI 5],[ef,.row 166,.mp (.int .i64) false [.int .i64],v0]⟩
def aG2:ax:=⟨[eI 5],[ef,.row 166,.mp (.int .i64) false [.int .i64],v0]⟩
def alQ:ax:=⟨[eB 4],[ef,.row 166,.mp (.int .i64) false [.int .i64],v0]⟩
def aqy:Pc:=pJ 3 14 4 34359738352 aG3 [xN aG2,xR alQ]
noncomputable def Ui:FD:=cp 163 Tryz.f163 2 1 3 Ac pn [.fn 172,.fn 177] (.pc aqy<| .pc ap9<| .nil)
noncomputable def aAn:FD:=cp 199 Tryz.f199 2 1 0 amA ew [.fn 167] .nil
def Cs:fu:=bV [.ptr 3 0 0,cI,cS 3,cS 3,cS 3,cS 3,cS 3,cB,cB,cB,cI,cI]
def Cr:fu:=bV [cS 120,cI,cS 120,cI,cS 57,cS 67,.aA 4,cI,.mpr 5]
def aG1:ax:=⟨[eI 0,eP 1 0,eP 2 1,eP 3 2],[Cs,gU,bV [cI],Cr,.row 166,.mp (.int .i64) false [.int .i64]]⟩
def alP:ax:=⟨[eB 0],[Cs,gU,bV [cI],Cr,.row 166,.mp (.int .i64) false [.int .i64]]⟩
noncomputable def atf:FD:=cp 198 Tryz.f198 4 1 6 aG1 alP [.fn 182] .nil
def aG0:ax:=⟨[eS 0 3,(1,.one (.cl 198 [(0,0,0),(1,0,0),(2,0,0)])),eI 7,eI 8],[Cs,gU,bV [cI],Cr,.row 166,.mp (.int .i64) false [.int .i64]]⟩
def aGZ:ax:=⟨[eI 4],[Cs,gU,bV [cI],Cr,.row 166,.mp (.int .i64) false [.int .i64]]⟩
def aGY:ax:=⟨[],[Cs,gU,bV [cI],Cr,.row 166,.mp (.int .i64) false [.int .i64]]⟩
def aoA:Pc:=pL 6 26 6 524080 aG0 [xR aGZ,xE 0 aGY]
def alO:ax:=⟨[eS 0 3,(1,.one (.cl 198 [(0,0,0),(1,0,0),(2,0,0)]))],[Cs,gU,bV [cI],Cr,.row 166,.mp (.int .i64) false [.int .i64]]⟩
def aGX:ax:=⟨[eI 0],[Cs,gU,bV [cI],Cr,.row 166,.mp (.int .i64) false [.int .i64]]⟩
noncomputable def abc:FD:=cp 141 Tryz.f141 2 1 6 alO aGX [.fn 181] (.pc aoA<| .nil)
noncomputable def aoN:FD:=cp 91 Tryz.f91 2 1 6 alO alP [.fn 180] .nil
def arX:Pc:=pJ 3 6 5 67104784 yl [xN yk,xR Ad]
def aGW:ax:=⟨[eP 3 3,eP 5 4],[ef,.row 166,.mp (.int .i64) false [.int .i64],v0,gU]⟩
def aGV:ax:=⟨[],[ef,.row 166,.mp (.int .i64) false [.int .i64],v0,gU]⟩
def aGU:ax:=⟨[eB 4],[ef,.row 166,.mp (.int .i64) false [.int .i64],v0,gU]⟩
def aq8:Pc:=pJ 3 30 5 144112989052600336 aGW [xN aGV,xR aGU]
def aGT:ax:=⟨[eP 2 3,eP 5 4,eS 58 54,eI 59,eI 60],[ef,.row 166,.mp (.int .i64) false [.int .i64],fQ,gU]⟩
def alN:ax:=⟨[eB 4],[ef,.row 166,.mp (.int .i64) false [.int .i64],fQ,gU]⟩
def alM:ax:=⟨[],[ef,.row 166,.mp (.int .i64) false [.int .i64],fQ,gU]⟩
def aqs:Pc:=pL 3 250 5 75556710804409716572368 aGT [xR alN,xE 0 alM]
def aGS:ax:=⟨[eP 2 3,eP 3 4,eP 5 5],[ef,.row 166,.mp (.int .i64) false [.int .i64],fQ,v0,gU]⟩
def aGR:ax:=⟨[],[ef,.row 166,.mp (.int .i64) false [.int .i64],fQ,v0,gU]⟩
def aGQ:ax:=⟨[eB 4],[ef,.row 166,.mp (.int .i64) false [.int .i64],fQ,v0,gU]⟩
def aq7:Pc:=pJ 3 62 6 75557719610726247563472 aGS [xN aGR,xR aGQ]
def aGP:ax:=⟨[eP 2 3,eP 5 4,eS 77 118,eI 78,eI 79],[ef,.row 166,.mp (.int .i64) false [.int .i64],fQ,gU]⟩
def aqr:Pc:=pL 3 506 5 316912045594147543059588452112 aGP [xR alN,xE 2 alM]
noncomputable def Eb:FD:=cp 164 Tryz.f164 2 1 3 Ac pn [.fn 179,.fn 152,.fn 162,.fn 175] (.pc aqr<| .pc aq7<| .pc aqs<| .pc aq8<| .pc arX<| .nil)
noncomputable def awu:FD:=cp 165 Tryz.f165 2 1 3 QR pn [.fn 129,.fn 175] .nil
def aGO:ax:=⟨[eI 0,eI 1,eP 2 0],[pj,ph,.row 166,.mp (.int .i64) false [.int .i64]]⟩
noncomputable def asp:FD:=cp 200 Tryz.f200 3 1 4 aGO Ab [.fn 182] .nil
def aGN:ax:=⟨[eS 1 3,(2,.one (.cl 200 [(0,0,0)])),eS 15 3,eI 16,eI 17],[pj,ph,.row 166,.mp (.int .i64) false [.int .i64]]⟩
def aGM:ax:=⟨[eB 6],[pj,ph,.row 166,.mp (.int .i64) false [.int .i64]]⟩
def aow:Pc:=pL 4 58 4 4294837184 aGN [xR aGM,xE 0 QQ]
def aGL:ax:=⟨[eS 0 3,eS 1 3,(2,.one (.cl 200 [(0,0,0)]))],[pj,ph,.row 166,.mp (.int .i64) false [.int .i64]]⟩
noncomputable def aa8:FD:=cp 201 Tryz.f201 3 1 4 aGL Ab [.fn 186] (.pc aow<| .nil)
def aq6:Pc:=pJ 3 6 5 17179868944 yl [xN yk,xR Ad]
noncomputable def acC:FD:=cp 166 Tryz.f166 2 1 3 Ac pn [.fn 175,.fn 185] (.pc aq6<| .nil)
def apH:Pc:=pJ 3 13820 5 316912650057057068899199090704 yl [xN yk,xR Ad]
def aGK:ax:=⟨[eB 184],[ef,.row 166,.mp (.int .i64) false [.int .i64]]⟩
def apw:Pc:=pJ 3 884734 3 171639500576979552136134867040834628565298781684563443712 ZP [xN aGK]
def aGJ:ax:=⟨[eB 193],[ef,.row 166,.mp (.int .i64) false [.int .i64]]⟩
def apm:Pc:=pJ 3 3538942 3 87879424295413530693701051924907329825432976222496483180544 ZP [xN aGJ]
noncomputable def Ml:FD:=cp 102 Tryz.f102 2 1 3 Ac pn [.fn 81,.fn 129,.fn 95,.fn 152,.fn 162,.fn 171,.fn 155,.fn 172,.fn 173,.fn 174,.fn 175,.fn 176,.fn 178,.fn 183,.fn 184] (.pc apm<| .pc apw<| .pc apH<| .nil)
def alL:ax:=⟨[eA 0 CZ],[ef,.row 166,.mp (.int .i64) false [.int .i64]]⟩
noncomputable def aua:FD:=nw [.iV 0 [.raw,.raw,.slice 3,.raw,.raw,.raw,.raw,.raw,.raw,.raw,.raw,.raw]] 167 Tryz.f167 1 1 3 alL alL [] .nil
def aq9:Pc:=pJ 3 6 5 8796092956688 yl [xN yk,xR Ad]
def aGI:ax:=⟨[eP 2 3,eS 44 3,eI 45,eI 46],[ef,.row 166,.mp (.int .i64) false [.int .i64],fQ]⟩
def aGH:ax:=⟨[],[ef,.row 166,.mp (.int .i64) false [.int .i64],fQ]⟩
def aqt:Pc:=pL 3 58 4 576390383559245888 aGI [xE 0 aGH]
def aqD:Pc:=pJ 3 14 5 576451956210401344 yl [xN yk]
def aGG:ax:=⟨[eP 7 3,eP 8 4,eS 66 110,eI 67,eI 68],[ef,.row 166,.mp (.int .i64) false [.int .i64],fQ,fQ]⟩
def aGF:ax:=⟨[eB 4],[ef,.row 166,.mp (.int .i64) false [.int .i64],fQ,fQ]⟩
def aGE:ax:=⟨[],[ef,.row 166,.mp (.int .i64) false [.int .i64],fQ,fQ]⟩
def ap5:Pc:=pL 3 506 5 38685331079762954237772816 aGG [xR aGF,xE 2 aGE]
def aGD:ax:=⟨[eP 3 3,eP 7 4,eP 8 5],[ef,.row 166,.mp (.int .i64) false [.int .i64],v0,fQ,fQ]⟩
def aGC:ax:=⟨[],[ef,.row 166,.mp (.int .i64) false [.int .i64],v0,fQ,fQ]⟩
def aGB:ax:=⟨[eB 4],[ef,.row 166,.mp (.int .i64) false [.int .i64],v0,fQ,fQ]⟩
def aqc:Pc:=pJ 3 126 6 38685589334179986171495440 aGD [xN aGC,xR aGB]
def aGA:ax:=⟨[eP 2 3,eP 3 4,eI 12,eP 13 5],[ef,.row 166,.mp (.int .i64) false [.int .i64],fQ,v0,v227]⟩
def aGz:ax:=⟨[],[ef,.row 166,.mp (.int .i64) false [.int .i64],fQ,v0,v227]⟩
def aGy:ax:=⟨[eB 4],[ef,.row 166,.mp (.int .i64) false [.int .i64],fQ,v0,v227]⟩
def apo:Pc:=pJ 3 2096434 6 170141173319264429905852091742258462736 aGA [xN aGz,xR aGy]
def aGx:ax:=⟨[(11,.one (.mpr 3)),eS 128 3,eI 129,eI 130],[ef,.row 166,.mp (.int .i64) false [.int .i64],.mp (.int .i64) false [.bool]]⟩
def aGw:ax:=⟨[eB 4],[ef,.row 166,.mp (.int .i64) false [.int .i64],.mp (.int .i64) false [.bool]]⟩
def aGv:ax:=⟨[],[ef,.row 166,.mp (.int .i64) false [.int .i64],.mp (.int .i64) false [.bool]]⟩
def apk:Pc:=pL 3 16771482 4 1392435445440480192492128893610795521310736 aGx [xR aGw,xE 6 aGv]
def aGu:ax:=⟨[eP 2 3,eP 3 4,(11,.one (.mpr 5)),eS 96 112,eI 97,eI 98],[ef,.row 166,.mp (.int .i64) false [.int .i64],fQ,v0,.mp (.int .i64) false [.bool]]⟩
def aGt:ax:=⟨[eB 4],[ef,.row 166,.mp (.int .i64) false [.int .i64],fQ,v0,.mp (.int .i64) false [.bool]]⟩
def aGs:ax:=⟨[],[ef,.row 166,.mp (.int .i64) false [.int .i64],fQ,v0,.mp (.int .i64) false [.bool]]⟩
def apE:Pc:=pL 3 16378 6 89202980794122175653492816033243071848165392 aGu [xR aGt,xE 4 aGs]
noncomputable def xm:FD:=cp 103 Tryz.f103 2 1 3 Ac pn [.fn 134,.fn 73,.fn 81,.fn 188] (.pc apE<| .pc apk<| .pc apo<| .pc aqc<| .pc ap5<| .pc aqD<| .pc aqt<| .pc aq9<| .nil)
def aGr:ax:=⟨[eP 3 3],[ef,.row 166,.mp (.int .i64) false [.int .i64],v0]⟩
def aGp:ax:=⟨[],[ef,.row 166,.mp (.int .i64) false [.int .i64],v0]⟩
def aqC:Pc:=pJ 3 6 4 17179867152 aGr [xN aGp,xR alQ]
def aGo:ax:=⟨[(58,.one (cU))],[ef,.row 166,.mp (.int .i64) false [.int .i64]]⟩
def aGn:ax:=⟨[eB 76],[ef,.row 166,.mp (.int .i64) false [.int .i64]]⟩
def api:Pc:=pJ 3 16593878 3 528905046081400263933952 aGo [xN aGn]
def aGm:ax:=⟨[eP 2 3,eP 7 4,eP 8 5,(9,.one (cU))],[ef,.row 166,.mp (.int .i64) false [.int .i64],fQ,JT,fQ]⟩
def aGl:ax:=⟨[(9,.one (cU))],[ef,.row 166,.mp (.int .i64) false [.int .i64],fQ,JT,fQ]⟩
def aGj:ax:=⟨[eB 4],[ef,.row 166,.mp (.int .i64) false [.int .i64],fQ,JT,fQ]⟩
def apn:Pc:=pJ 3 518558 6 85070591730234615865555421481790341648 aGm [(.normal,[.nF (λenv M=>5) 4 3],aGl),xR aGj]
def aGi:ax:=⟨[eP 2 3,(5,.one (.mpr 4)),eS 44 115,eI 45,eI 46],[ef,.row 166,.mp (.int .i64) false [.int .i64],fQ,.mp (.int .u8) false [.int .i64]]⟩
def aGh:ax:=⟨[eB 4],[ef,.row 166,.mp (.int .i64) false [.int .i64],fQ,.mp (.int .u8) false [.int .i64]]⟩
def aGg:ax:=⟨[],[ef,.row 166,.mp (.int .i64) false [.int .i64],fQ,.mp (.int .u8) false [.int .i64]]⟩
def apL:Pc:=pL 3 506 5 11150372599265311570767859136253812008813456 aGi [xR aGh,xE 0 aGg]
def aGf:ax:=⟨[(5,.one (.mpr 3)),eI 10],[ef,.row 166,.mp (.int .i64) false [.int .i64],.mp (.int .u8) false [.int .i64]]⟩
def aGe:ax:=⟨[eI 10],[ef,.row 166,.mp (.int .i64) false [.int .i64],.mp (.int .u8) false [.int .i64]]⟩
def apR:Pc:=pJ 3 510 4 1382646202308898634775214532904198413370786816 aGf [xN aGe]
noncomputable def D1:FD:=cp 104 Tryz.f104 2 1 3 Ac pn [.fn 134,.fn 190,.fn 171,.fn 172,.fn 183,.fn 177] (.pc apR<| .pc apL<| .pc apn<| .pc api<| .pc aqC<| .nil)
def aGd:ax:=⟨[eS 0 3],[]⟩
noncomputable def at7:FD:=cp 169 Tryz.f169 1 1 0 aGd Gc [] .nil
noncomputable def arB:FD:=nw [.mk 0 3] 169 Tryz.f169 1 1 0 amf Gc [] .nil
noncomputable def arA:FD:=cp 169 Tryz.f169 1 1 0 ame Gc [] .nil
noncomputable def aAl:FD:=cp 107 Tryz.f107 2 1 0 RN Gc [.Q9 3 192 193 194] .nil
def aNd:List ez:=[.ptr 0 0 0,cI,cS 3,cS 3,.aA 3,cS 3,cS 3,cB,cB,cB,cI,cI]
def aGc:ax:=⟨[eA 0 aNd],[ef,.row 166,.mp (.int .i64) false [.int .i64],.row 3]⟩
noncomputable def aqZ:FD:=cp 105 Tryz.f105 2 1 3 QR aGc [.fn 191,.fn 188] .nil
def aNc:List ez:=[.ptr 0 0 0,cI,cS 3,cS 3,cS 3,.aA 3,cS 3,cB,cB,cB,cI,cI]
def aGb:ax:=⟨[eA 0 aNc],[ef,.row 166,.mp (.int .i64) false [.int .i64],.row 3]⟩
noncomputable def atg:FD:=cp 106 Tryz.f106 2 1 3 QR aGb [.fn 191,.fn 188] .nil
def aGa:ax:=⟨[eA 0 h6,eP 1 0],[pj,ph,.row 166,.mp (.int .i64) false [.int .i64]]⟩
noncomputable def atd:FD:=cp 109 Tryz.f109 2 1 4 aGa Ab [.fn 134] .nil
def aF9:ax:=⟨[eS 0 41,(1,.one (.cl 109 [(0,0,0)])),eI 7,eI 8],[pj,ph,.row 166,.mp (.int .i64) false [.int .i64]]⟩
def aos:Pc:=pL 4 26 4 524080 aF9 [xR ZS,xE 0 QQ]
def alK:ax:=⟨[eS 0 41,(1,.one (.cl 109 [(0,0,0)]))],[pj,ph,.row 166,.mp (.int .i64) false [.int .i64]]⟩
noncomputable def aa2:FD:=cp 170 Tryz.f170 2 1 4 alK ZR [.fn 198] (.pc aos<| .nil)
noncomputable def aoy:FD:=cp 108 Tryz.f108 2 1 4 alK Ab [.fn 197] .nil
def aq5:Pc:=pJ 3 14 5 8796092989456 yl [xN yk,xR Ad]
def aq4:Pc:=pJ 3 62 5 44601490397061246283071436545155985523605616 yl [(.normal,[.nF (λenv M=>3) 2 3,.nF (λenv M=>3) 3 3,.nF (λenv M=>3) 6 3],yk),xR Ad]
noncomputable def Uy:FD:=cp 44 Tryz.f44 2 1 3 Ac pn [.fn 134,.fc 134 [.iV 0 [.raw,.raw,.raw,.raw,.slice 3,.raw,.raw,.raw,.raw,.raw,.raw,.raw]],.fc 134 [.iV 0 [.raw,.raw,.raw,.raw,.raw,.slice 3,.raw,.raw,.raw,.raw,.raw,.raw]],.fn 135,.fn 149,.fn 151,.fn 187,.fn 189,.fn 190,.fn 195,.fn 191,.fn 196] (.pc aq4<| .pc aq5<| .nil)
def ayE:Pc:=pJ 0 6 1 288230376151580676 Dd [xN ⟨[],[v12]⟩,xR vt]
def aF8:ax:=⟨[eS 59 57,eI 60,eI 61],[]⟩
def axN:Pc:=pL 0 58 0 1237940036979537265685430292 aF8 [xR s30,xE 0 ⟨[],[]⟩]
def axV:Pc:=pJ 0 14 1 1237940038997149898747412500 Dd [xN ⟨[],[v12]⟩,xR vt]
def aF7:ax:=⟨[eP 9 0],[z7]⟩
def atG:Pc:=pJ 0 130354 1 85065399433376081038215121361612832772 aF7 [xN amr,xR amq]
def aF6:ax:=⟨[eP 1 0,eP 9 1,eS 127 54,eI 128,eI 129],[v12,z7]⟩
def ato:Pc:=pL 0 521422 2 2923003273981241102565492738505816824448328677380 aF6 [xR amp,xE 4 amo]
def aF5:ax:=⟨[eP 1 0,eS 106 67,eI 107,eI 108],[v12]⟩
def avI:Pc:=pL 0 1018 1 5846006549323611348296185672438405295467709610500 aF5 [xR vt,xE 2 ⟨[],[v12]⟩]
def aw5:Pc:=pJ 0 254 1 5846006549323611632249920123561791230729227614724 Dd [xN ⟨[],[v12]⟩,xR vt]
def QJ:fu:=bV [cS 120,cI,cS 120,cI,cS 57,cS 67,.aA 2,cI,.mpr 1]
def aF4:ax:=⟨[eP 7 0,eS 163 57,eI 164,eI 165],[QJ,.mp (.int .i64) false [.int .i64],.row 166]⟩
def alJ:ax:=⟨[eB 2],[QJ,.mp (.int .i64) false [.int .i64],.row 166]⟩
def alI:ax:=⟨[],[QJ,.mp (.int .i64) false [.int .i64],.row 166]⟩
def avH:Pc:=pL 0 2042 2 383077117164077625696204238872930374848055790704574468 aF4 [xR alJ,xE 6 alI]
def aF3:ax:=⟨[eP 7 0,eI 180,eI 181],[QJ,.mp (.int .i64) false [.int .i64],.row 166]⟩
def avG:Pc:=pL 0 4090 2 100430562775105160443655914077268362039270449633180185067524 aF3 [xR alJ,xE 8 alI]
noncomputable def vZ:FD:=cp 13 Tryz.f13 1 1 0 Db ew [.fn 72,.fn 77,.fn 82,.fn 98,.fn 128,.fc 134 [.iV 0 [.raw,.raw,.slice 3,.slice 3,.slice 3,.slice 3,.slice 3,.raw,.raw,.raw,.raw,.raw]]] (.pc avG<| .pc avH<| .pc aw5<| .pc avI<| .pc ato<| .pc atG<| .pc axV<| .pc axN<| .pc ayE<| .nil)
def aF2:ax:=⟨[(0,.one (.cl 89 [(0,0,0)]))],[v0]⟩
noncomputable def aza:FD:=cp 36 Tryz.f36 1 1 0 s7 aF2 [] .nil
noncomputable def BB:List Cl:=[.fn 200,.fn 201]
noncomputable def D3:YF:=yU CX Tryz.f35 yNo .nil 0 30
def yg:fu:=bV [.cl 35 [(0,0,0),(1,0,0)]]
def aF1:ax:=⟨[(0,.one (.ik 3)),eS 12 110,eI 13,eI 14],[bV [.aA 4],yg,.gone,.loop 0 [eP 2 1] none,.row 41]⟩
def QO:ax:=⟨[],[bV [.aA 4],yg,.gone,.loop 0 [eP 2 1] none,.row 41]⟩
def abG:Pc:=pL 3 10 4 2147467280 aF1 [xE 0 QO]
noncomputable def ab0:k8:= .pc abG k8.nil
def alH:ax:=⟨[(0,.one (.ik 3)),eP 1 4],[bV [.aA 5],yg,.gone,.loop 0 [eP 2 1] none,v0,.row 41]⟩
def alG:ax:=⟨[],[bV [.aA 5],yg,.gone,.loop 0 [eP 2 1] none,v0,.row 41]⟩
def abT:Pc:=pJ 3 2 5 2147481616 alH [xN alG]
noncomputable def abZ:k8:= .pc abT ab0
def aF0:ax:=⟨[(0,.one (.ik 3)),eS 32 41,eI 33,eI 34],[bV [.aA 4],yg,.gone,.loop 0 [eP 2 1] none,.row 41]⟩
def abF:Pc:=pL 3 26 4 8778913153088 aF0 [xE 2 QO]
noncomputable def abY:k8:= .pc abF abZ
def abS:Pc:=pJ 3 6 5 8793945538624 alH [xN alG]
noncomputable def abX:k8:= .pc abS abY
def aFZ:ax:=⟨[(0,.one (.ik 3)),eS 44 112,eI 45,eI 46],[bV [.aA 4],yg,.gone,.loop 0 [eP 2 1] none,.row 41]⟩
def abE:Pc:=pL 3 58 4 71987225293750528 aFZ [xE 4 QO]
noncomputable def abW:k8:= .pc abE abX
def aFY:ax:=⟨[(0,.one (.ik 3)),eS 57 115,eI 58,eI 59],[bV [.aA 4],yg,.gone,.loop 0 [eP 2 1] none,.row 41]⟩
def abD:Pc:=pL 3 62 4 75557287265162019996672 aFY [xE 6 QO]
noncomputable def ar0:k8:= .pc abD abW
def aFX:ax:=⟨[eA 0 h6,eP 1 0,eP 2 1],[bV [.aA 2],yg,.row 41]⟩
def aFW:ax:=⟨[],[bV [.aA 3],yg,.gone,.row 41]⟩
noncomputable def azS:FD:=cp 35 Tryz.f35 3 0 3 aFX aFW BB (.rg 30 0 [2] 89 Tryz.f89 ar0<| .nil)
def aln:fu:=bV [.cl 35 [(1,0,0),(0,0,0)]]
def aFV:ax:=⟨[eP 4 0,eS 12 57,eI 13,eI 14],[aln,bV [.aA 2],.row 41]⟩
def aFU:ax:=⟨[],[aln,bV [.aA 2],.row 41]⟩
def awN:Pc:=dY [.sR (λenv M=>(((M.getD ((az.look env 4).id) .dead).cells.getD 0 .top).fG.getD 0 .top).id) 0 41] (pL 0 506 2 8372288 aFV [xE 0 aFU])
noncomputable def afy:FD:=nw [.mk 0 41] 10 Tryz.f10 1 1 0 Db s8 [.fn 71,.fn 200] (.pc awN<| .nil)
def alF:ax:=⟨[eI 1,eP 2 0],[v12]⟩
def alE:ax:=⟨[eB 4],[v12]⟩
def atC:Pc:=pJ 0 6 1 2096656 alF [xN ⟨[],[v12]⟩,xR alE]
def aFT:ax:=⟨[eI 1,eO 5 0],[.row 41]⟩
def alD:ax:=⟨[],[.row 41]⟩
def aFS:ax:=⟨[eB 4],[.row 41]⟩
def asM:Pc:=pJ 0 30 1 8581546000 aFT [xN alD,xR aFS]
def aFR:ax:=⟨[eP 7 0,eP 8 1],[v12,v12]⟩
def aFQ:ax:=⟨[eB 4],[v12,v12]⟩
def aq3:Pc:=dY [.nF (λenv M=>(az.look env 7).id) 2 57,.nF (λenv M=>(az.look env 8).id) 2 57] (pJ 0 4094 2 2475275615660953235210895376 aFR [xN aFQ])
def alC:ax:=⟨[eA 0 iR,eI 1],[]⟩
noncomputable def jd:FD:=cp 4 Tryz.f4 2 1 0 alC ew [.fn 1,.fn 4,.fc 4 [.iV 0 [.raw,.raw,.slice 57,.raw]],.fc 199 [.iV 0 [.raw,.raw,.slice 57,.raw]],.fn 62,.fn 71,.fc 71 [.iV 0 [.raw,.raw,.slice 57,.raw]],.fc 69 [.iV 2 [.raw,.raw,.raw,.raw,.raw,.raw,.raw,.raw,.raw,.raw,.raw,.raw,.slice 54,.slice 54,.slice 118,.slice 118,.slice 3,.raw,.slice 110,.slice 112,.slice 115]],.fc 42 [.iV 1 [.raw,.raw,.raw,.raw,.raw,.raw,.raw,.raw,.raw,.raw,.raw,.raw,.slice 54,.slice 54,.slice 118,.slice 118,.slice 3,.slice 41,.slice 110,.slice 112,.slice 115]],.known 9] (.pc aq3<| .pc asM<| .pc atC<| .nil)
def aFP:ax:=⟨[eO 3 0,eI 4],[.row 41]⟩
def aFO:ax:=⟨[eB 2],[.row 41]⟩
def auo:Pc:=pL 0 122 1 134152212 aFP [xR aFO,xE 0 alD]
noncomputable def azR:FD:=cp 12 Tryz.f12 1 1 0 s7 ew [.fn 203,.fn 3] (.pc auo<| .nil)
def atB:Pc:=pJ 0 6 1 262096 alF [xN ⟨[],[v12]⟩,xR alE]
noncomputable def axy:FD:=cp 3 Tryz.f3 2 1 0 alC ew [.fn 1,.fn 4,.fn 199,.fn 62,.fn 203,.fc 71 [.iV 0 [.raw,.raw,.slice 57,.raw]],.fc 69 [.iV 2 [.raw,.raw,.raw,.raw,.raw,.raw,.raw,.raw,.raw,.raw,.raw,.raw,.slice 54,.slice 54,.slice 118,.slice 118,.slice 3,.slice 41,.slice 110,.slice 112,.slice 115]],.known 9] (.pc atB<| .nil)
end
end Go.Proofs.YtomkobcipaligaaGreatDoor
namespace Go.Proofs.YtomkobcipaligaaGreatDoor
open Go Go.az
abbrev xr:=cO azk 0
abbrev Bk:=cO ayx 0
abbrev nz:=cO Bx 0
abbrev TR:=cO avq 0
abbrev dv:=cO dD 0
abbrev MX:=cO azY 0
abbrev Mw:=cO ayw 0
abbrev uE:=cO azj 0
abbrev MF:=cO azi 0
abbrev ou:=cO ayv 0
abbrev UN:=cO ayu 0
abbrev acE:=cO axF 0
abbrev js:=cO axE 0
abbrev azh:=cO aBe 0
abbrev azg:=cO aBd 0
abbrev fk:=cO aBc 0
abbrev ba:=cO aBb 0
abbrev azf:=cO aBa 0
abbrev aF:=cO aA9 0
abbrev ov:=cO aA8 0
abbrev eT:=cO aA7 0
abbrev nA:=cO aA6 0
abbrev aze:=cO aA5 0
abbrev zp:=cO aA4 0
end Go.Proofs.YtomkobcipaligaaGreatDoor
namespace Go.Proofs.YtomkobcipaligaaGreatDoor
open Go Go.az
set_option maxRecDepth 100000
noncomputable section
def EE:List FD:=[jd,Ww,afa,EL,tH,VV,NN,aeE,qp,aeC,ag5,aCX,WU,EY,NO,aAN,aAP,aAk,EK,EI,ae8,Wb,Np,xC,zt,UU,aeG,MA,aei,MM,Wv,M6,ay8,ayk,avg,aAO,aeD,ata,aws,avf,axv,ML,xt,ae9,ayj,aeF,afx,ae7,Bv,azQ,ay7,HD,vY,axu,EJ,atb,awt,abU,jd,MK,jd,jd,agn,jd,aeH,jd,jd,jd,jd,VC,tI,vZ,HX,aek,ao3,abn,awA,rW,L6,axw,avh,aej,axA,aeI,Ec,Wd,ays,ayr,ayq,ayo,ayp,ayn,as9,aqX,aqW,aud,awy,aAT,avl,aAo,Nq,VW,jd,axx,avi,jd,jd,jd,jd,L5,aph,apd,jd,jd,jd,jd,jd,jd,jd,jd,jd,jd,jd,jd,jd,jd,S8,TG,Wc,arz,acA,ao4,abo,aym,Uy,Ij,HR,abl,axB,acB,abg,awz,abk,abd,avo,aa0,avn,abh,avm,Mf,ael,Ml,D6,avj,acT,awv,aoz,aa3,atc,aoF,aa7,asn,aww,aoT,abf,aub,awx,ay9,ao7,abq,axz,aqY,ate,aso,avk,auc,Ui,aAm,Eb,aoN,abc,atf,aAn,awu,acC,aa8,asp,xm,aua,D1,aqZ,aAl,at7,arB,arA,atg,aoy,aa2,atd,afy,azS,aza,axy,azR]
def MR:=da CX EE EL 4
def Vs:=cj CX EE EL 3
def MD:=da CX EE EL 2
def MU:=cj CX EE EL 1
def Bo:=da CX EE EL 0
def MQ:=da CX EE afa 0
def VY:=cj CX EE Ww 1
def HW:=da CX EE Ww 0
def HT:=da CX EE aeE 0
def VF:=cj CX EE NN 2
def Vj:=cj CX EE NN 1
def HL:=da CX EE NN 0
def Vq:=cj CX EE VV 1
def HF:=da CX EE VV 0
def N3:=da CX EE ag5 0
def MN:=da CX EE aeC 0
def M9:=da CX EE qp 13
def VE:=cj CX EE qp 12
def Ed:=da CX EE qp 11
def Ek:=da CX EE qp 10
def Ng:=cj CX EE qp 9
def TX:=cj CX EE qp 8
def Tq:=cj CX EE qp 7
def Th:=cj CX EE qp 6
def D2:=da CX EE qp 5
def Bi:=da CX EE qp 4
def Ej:=da CX EE qp 3
def Nf:=cj CX EE qp 2
def HE:=da CX EE qp 1
def HS:=da CX EE qp 0
def aeM:=cj CX EE WU 1
def M8:=da CX EE WU 0
def UZ:=cj CX EE NO 2
def T0:=cj CX EE NO 1
def Vo:=cj CX EE NO 0
def VJ:=cj CX EE EK 4
def U1:=cj CX EE EK 3
def U0:=cj CX EE EK 2
def UD:=cj CX EE EK 1
def UC:=cj CX EE EK 0
def Na:=da CX EE ae8 0
def Vn:=cj CX EE EI 4
def acD:=cj CX EE EI 3
def TZ:=cj CX EE EI 2
def Bd:=da CX EE EI 1
def Bm:=da CX EE EI 0
def ad3:=cj CX EE Wb 1
def Ee:=da CX EE Wb 0
def Vi:=cj CX EE EY 4
def vW:=da CX EE EY 3
def Nu:=cj CX EE EY 2
def Uz:=cj CX EE EY 1
def Tp:=cj CX EE EY 0
def U2:=cj CX EE Np 2
def Vp:=cj CX EE Np 1
def MB:=da CX EE Np 0
def TY:=cj CX EE zt 6
def Tr:=cj CX EE zt 5
def VG:=cj CX EE zt 4
def Vm:=cj CX EE zt 3
def Vl:=cj CX EE zt 2
def Vk:=cj CX EE zt 1
def UW:=cj CX EE zt 0
def VI:=cj CX EE aeG 0
def Uo:=cj CX EE UU 1
def T2:=cj CX EE UU 0
def VL:=cj CX EE Wv 1
def VK:=cj CX EE Wv 0
def adi:=cj CX EE M6 2
def acU:=cj CX EE M6 1
def Hz:=da CX EE M6 0
def Mh:=da CX EE MM 2
def Up:=cj CX EE MM 1
def Hw:=da CX EE MM 0
def MO:=da CX EE aeD 0
def Mu:=da CX EE aei 0
def Nb:=da CX EE ae9 0
def MP:=da CX EE aeF 0
def Nr:=da CX EE afx 0
def M7:=da CX EE ae7 0
def U3:=cj CX EE xt 7
def UG:=cj CX EE xt 6
def UF:=cj CX EE xt 5
def Mo:=da CX EE xt 4
def UE:=cj CX EE xt 3
def Mn:=da CX EE xt 2
def Ul:=cj CX EE xt 1
def Mg:=da CX EE xt 0
def Un:=cj CX EE ML 2
def Um:=cj CX EE ML 1
def zk:=da CX EE ML 0
def U4:=cj CX EE Bv 5
def Mv:=cj CX EE Bv 4
def Mp:=da CX EE Bv 3
def UH:=cj CX EE Bv 2
def L0:=da CX EE Bv 1
def D7:=da CX EE Bv 0
def T3:=cj CX EE HD 3
def TJ:=cj CX EE HD 2
def TH:=cj CX EE HD 1
def DW:=da CX EE HD 0
def Ti:=cj CX EE MA 2
def Ta:=cj CX EE MA 1
def S5:=cj CX EE MA 0
def VX:=cj CX EE vY 8
def MS:=cj CX EE vY 7
def xu:=da CX EE vY 6
def VD:=cj CX EE vY 5
def Nd:=cj CX EE vY 4
def HP:=cj CX EE vY 3
def Uk:=cj CX EE vY 2
def Hv:=da CX EE vY 1
def zm:=da CX EE vY 0
def VH:=cj CX EE EJ 4
def HH:=cj CX EE EJ 3
def T1:=cj CX EE EJ 2
def tx:=da CX EE EJ 1
def Bq:=cj CX EE EJ 0
def Hj:=cj CX EE abU 0
def NP:=cj CX EE xC 7
def H7:=cj CX EE xC 6
def MT:=cj CX EE xC 5
def UY:=cj CX EE xC 4
def UB:=cj CX EE xC 3
def UX:=cj CX EE xC 2
def UA:=cj CX EE xC 1
def zo:=da CX EE xC 0
def Hu:=da CX EE MK 2
def Uj:=cj CX EE MK 1
def Mm:=da CX EE MK 0
def Wz:=cj CX EE tH 10
def H5:=da CX EE tH 9
def NQ:=cj CX EE tH 8
def Vr:=cj CX EE tH 7
def Bn:=da CX EE tH 6
def Ep:=da CX EE tH 5
def Nv:=cj CX EE tH 4
def Bw:=da CX EE tH 3
def VM:=cj CX EE tH 2
def HV:=da CX EE tH 1
def HU:=da CX EE tH 0
def MC:=da CX EE aeH 0
def Ns:=da CX EE agn 0
def Nw:=cj CX EE tI 10
def Bz:=da CX EE tI 9
def We:=cj CX EE tI 8
def Nj:=cj CX EE tI 7
def Ey:=da CX EE tI 6
def NR:=cj CX EE tI 5
def Ni:=cj CX EE tI 4
def Ew:=da CX EE tI 3
def Nx:=cj CX EE tI 2
def Nh:=cj CX EE tI 1
def xv:=da CX EE tI 0
def Mq:=cj CX EE VC 1
def HG:=da CX EE VC 0
def HO:=da CX EE aek 0
def Hg:=da CX EE abn 0
def U8:=cj CX EE HX 3
def TP:=cj CX EE HX 2
def TA:=cj CX EE HX 1
def Bg:=da CX EE HX 0
def Tg:=cj CX EE L6 2
def S9:=cj CX EE L6 1
def Hk:=da CX EE L6 0
def Bp:=da CX EE aej 0
def D9:=da CX EE rW 11
def El:=da CX EE rW 10
def MW:=cj CX EE rW 9
def Te:=cj CX EE rW 8
def S1:=cj CX EE rW 7
def DV:=da CX EE rW 6
def Ba:=da CX EE rW 5
def D8:=da CX EE rW 4
def Ef:=da CX EE rW 3
def MV:=cj CX EE rW 2
def HA:=da CX EE rW 1
def HN:=da CX EE rW 0
def HM:=da CX EE aeI 0
def UJ:=cj CX EE Wd 1
def TQ:=cj CX EE Wd 0
def Vv:=cj CX EE Nq 2
def Va:=cj CX EE Nq 1
def UK:=cj CX EE Nq 0
def DR:=da CX EE S8 1
def Hh:=da CX EE S8 0
def Vu:=cj CX EE VW 1
def uD:=da CX EE VW 0
def abR:=cj CX EE TG 1
def DU:=da CX EE TG 0
def TO:=cj CX EE Ec 4
def Td:=cj CX EE Ec 3
def vU:=da CX EE Ec 2
def L9:=cj CX EE Ec 1
def S4:=cj CX EE Ec 0
def LY:=da CX EE acA 0
def LN:=da CX EE abo 0
def U7:=cj CX EE Wc 1
def Vt:=cj CX EE Wc 0
def LM:=da CX EE abl 0
def LZ:=da CX EE acB 0
def LI:=da CX EE abg 0
def LL:=da CX EE abk 0
def LG:=da CX EE abd 0
def Lz:=da CX EE aa0 0
def LJ:=da CX EE abh 0
def Ur:=cj CX EE HR 3
def T7:=cj CX EE HR 2
def T6:=cj CX EE HR 1
def UL:=cj CX EE HR 0
def Tz:=cj CX EE Ij 3
def Tc:=cj CX EE Ij 2
def U6:=cj CX EE Ij 1
def U5:=cj CX EE Ij 0
def U9:=cj CX EE ael 0
def Tu:=cj CX EE Mf 2
def Tb:=cj CX EE Mf 1
def Tk:=cj CX EE Mf 0
def DQ:=da CX EE aa3 0
def T4:=cj CX EE acT 0
def Hc:=da CX EE aa7 0
def Tw:=cj CX EE D6 4
def Tv:=cj CX EE D6 3
def A9:=cj CX EE D6 2
def S3:=cj CX EE D6 1
def LS:=cj CX EE D6 0
def LP:=da CX EE abq 0
def Hf:=da CX EE abf 0
def Tj:=cj CX EE Ui 1
def Tt:=cj CX EE Ui 0
def He:=da CX EE abc 0
def T5:=cj CX EE Eb 4
def L8:=cj CX EE Eb 3
def L1:=da CX EE Eb 2
def TM:=cj CX EE Eb 1
def DZ:=da CX EE Eb 0
def LD:=da CX EE aa8 0
def TL:=cj CX EE acC 0
def S6:=cj CX EE Ml 2
def S2:=cj CX EE Ml 1
def SZ:=cj CX EE Ml 0
def TN:=cj CX EE xm 7
def D0:=da CX EE xm 6
def Ty:=cj CX EE xm 5
def Hm:=da CX EE xm 4
def Tl:=cj CX EE xm 3
def S0:=cj CX EE xm 2
def DS:=da CX EE xm 1
def DT:=da CX EE xm 0
def Tx:=cj CX EE D1 4
def SY:=cj CX EE D1 3
def A6:=cj CX EE D1 2
def xl:=da CX EE D1 1
def LU:=cj CX EE D1 0
def LB:=da CX EE aa2 0
def Hq:=cj CX EE Uy 1
def vV:=cj CX EE Uy 0
def Wg:=cj CX EE vZ 8
def H6:=da CX EE vZ 7
def Ny:=cj CX EE vZ 6
def UM:=cj CX EE vZ 5
def Bj:=da CX EE vZ 4
def Eo:=da CX EE vZ 3
def Nk:=cj CX EE vZ 2
def En:=da CX EE vZ 1
def Em:=da CX EE vZ 0
def L3:=KJ CX EE BB Tryz.f89 D3 abG k8.nil
def Mb:=ctU CX EE BB Tryz.f89 D3 abT ab0
def L2:=KJ CX EE BB Tryz.f89 D3 abF abZ
def Ma:=ctU CX EE BB Tryz.f89 D3 abS abY
def Ho:=KJ CX EE BB Tryz.f89 D3 abE abX
def Hn:=KJ CX EE BB Tryz.f89 D3 abD abW
def Nc:=da CX EE afy 0
def UI:=cj CX EE jd 2
def Uq:=cj CX EE jd 1
def L7:=cj CX EE jd 0
abbrev aJ:Type:=Option UO
inductive Qm
 |ma(l:bp)
 |Vh(l:bp)
 |bR(l:bp)
 |nS(l:bp)
 |aw(l:bp)
 |gL(l:bp)
 |ev(l:bp)
 |bK(l:bp)
 |lZ(l:bp)
 |bI(l:bp)
 |mC(l:bp)
 |HK(l:bp)
 |cG(l:bp)
 |ae(l:bp)
 |aN(l:bp)
 |c8
 |bZ
 |Z8
 |bQ(n:Nat)
 |br(i:Int)(l:aZ)(k:Option UO)
 |aV(a b:Int)
 |ck(a b:Int)
 |dw(a b:Nat)
 |lu(a b:Nat)
 |w5(l:aZ)
 |yQ(l m:aZ)
 |aD(l:aZ)(i:Int)
 |cz(i:Int)
 |cy
instance (l:bp):CoeDep Qm (.ma l) AV:=⟨.agg (xr l)⟩
instance (l:bp):CoeDep Qm (.Vh l) AV:=⟨.agg (Bk l)⟩
instance (l:bp):CoeDep Qm (.bR l) AV:=⟨.agg (nz l)⟩
instance (l:bp):CoeDep Qm (.nS l) AV:=⟨.agg (TR l)⟩
instance (l:bp):CoeDep Qm (.aw l) AV:=⟨.agg (dv l)⟩
instance (l:bp):CoeDep Qm (.gL l) AV:=⟨.agg (MX l)⟩
instance (l:bp):CoeDep Qm (.ev l) AV:=⟨.agg (Mw l)⟩
instance (l:bp):CoeDep Qm (.bK l) AV:=⟨.agg (uE l)⟩
instance (l:bp):CoeDep Qm (.lZ l) AV:=⟨.agg (MF l)⟩
instance (l:bp):CoeDep Qm (.bI l) AV:=⟨.agg (ou l)⟩
instance (l:bp):CoeDep Qm (.mC l) AV:=⟨.agg (UN l)⟩
instance (l:bp):CoeDep Qm (.HK l) AV:=⟨.agg (acE l)⟩
instance (l:bp):CoeDep Qm (.cG l) AV:=⟨.agg (js l)⟩
instance (l:bp):CoeDep Qm (.ae l) (Option UO):=⟨some (0,l)⟩
instance (l:bp):CoeDep Qm (.aN l) (Option UO):=⟨some (1,l)⟩
instance:CoeDep Qm (.c8 ) (Option UO):=⟨some (0,[.bool true])⟩
instance:CoeDep Qm (.bZ ) (Option UO):=⟨some (0,[.bool false])⟩
instance:CoeDep Qm (.Z8 ) (Option UO):=⟨some (1,[.bool false])⟩
instance (n:Nat):CoeDep Qm (.bQ n) Bool:=⟨Nat.beq n 0⟩
instance (i:Int)(l:aZ)(k:Option UO):CoeDep Qm (.br i l k) (Option UO):=⟨aP (ib i l.length) k⟩
instance (a b:Int):CoeDep Qm (.aV a b) Bool:=⟨decide (a<b)⟩
instance (a b:Int):CoeDep Qm (.ck a b) Bool:=⟨decide (a<=b)⟩
instance (a b:Nat):CoeDep Qm (.dw a b) Bool:=⟨decide (a<b)⟩
instance (a b:Nat):CoeDep Qm (.lu a b) Bool:=⟨decide (a<=b)⟩
instance (l:aZ):CoeDep Qm (.w5 l) Bool:=⟨decide ((0+l.length)*8<=140737488355328)⟩
instance (l m:aZ):CoeDep Qm (.yQ l m) Bool:=⟨decide ((l.length+m.length)*8<=140737488355328)⟩
instance (l:aZ)(i:Int):CoeDep Qm (.aD l i) bp:=⟨gA l i.toNat⟩
instance (i:Int):CoeDep Qm (.cz i) AV:=⟨iI (bx (i+1))⟩
instance:CoeDep Qm (.cy ) aZ:=⟨[]⟩
end
end Go.Proofs.YtomkobcipaligaaGreatDoor
namespace Go.az
open Go
def aff{zs:cT}{i:Nat}{row:Row}(h:(nY zs)[i]?=some row):∃z,zs[i]?=some z∧row=[AV.int .i64 z]:=by
 unfold nY at h;rw [iH]at h;cases hz:zs[i]? with
 |none=>rw [hz]at h;cases h
 |some z=>rw [hz]at h;injection h with h;exact⟨z,rfl,h.symm⟩
def N5(zs:cT):(nY zs).length =zs.length:=by simp [nY]
def aCj{K:TypeId->dZ}{ρ:bY}{F:bT}{w:World}{z:Int}{v:Value}(h:aY K ρ F w (.int .i64 z) v):v= .int .i64 z:=by cases h;rfl
def ayF{off:Nat}{d:Array Int}{c:Array Value}{k:Nat}(hk:k<c.size):(Go.Sort.putCells (Value.int .i64) off d c)[k]?=some (if off<=k∧k<off+d.size then Value.int .i64 d[k- off]! else c[k]):=by
 unfold Go.Sort.putCells;rw [BP (I9),Array.getElem_mapIdx]
def aDb{X:Cx}{f:FuncId}{t:TypeId}(hK:X.K t=[.int .i64])
 (hC:∀(Ha off cap:Nat) (zs:cT) (w:World),Go.Sort.Holds (Value.int .i64) w Ha off zs.toArray->Ha<w.heap.size->zs.length<4611686018427387904->
   Calls X.P f #[.slice (some ⟨Ha,off,none⟩) zs.length cap] w λe w'=>e= .returned (.tuple #[])∧∃n os,w'=Go.Sort.grow (Go.Sort.putRow (Value.int .i64) (Go.Sort.ahead w n) Ha off (zs.mergeSort λx y=>decide (x<=y)).toArray) os):ZD X f t:=by
 intro zs eD aNR w0 S F ρ w vs hI hv;obtain⟨v,rfl,hr⟩:=hv.one;cases hr with
 |aA _ hd bA=>
 have jI:=hI.rep 0 _ hd rfl bA;obtain⟨ei,lU,hr⟩:=jI;rw [hK]at ei lU;have oa:hd.sz=1:=ei;rcases hr with⟨_,hx⟩|⟨g,o,c,cur,jE,hh,h4,h5,h6,h7⟩
 ·exfalso;have:=N5 zs;rw [hx]at this;exact eD (agq.1 this.symm)
 ·rw [N5]at jE h4;rw [oa]at h6 h7;have dQ:hd.eC=some g:=by simp [Hd.eC,Value.eC,jE]
  have Kb:=hI.sep 0 _ hd g rfl rfl bA dQ;have rk:∀(i:Nat) z,zs[i]?=some z->cur[o+i]?=some (Value.int .i64 z):=λi z hz=>by
   have gW:(nY zs)[i]?=some [AV.int .i64 z]:=by unfold nY;rw [iH,hz];rfl
   obtain⟨v,kr,hrv⟩:=h7 i _ gW 0 (.int .i64 z) rfl;rw [aCj hrv]at kr;simpa using kr
  have hold:Go.Sort.Holds (Value.int .i64) w g o zs.toArray:=λj hj=>by
   have hj:j<zs.length:=by simpa using hj
   have hz:zs[j]?=some zs[j]:=dz hj;refine⟨?_,?_⟩
   ·rw [show zs.toArray[j]! =zs[j]by rw [OR _ j (by simpa using hj)];simp];simp only [World.cell?,hh];exact rk j _ hz
   ·simp [World.frozen?,hh]
  have Dw:zs.length<4611686018427387904:=by omega
  have yc:=hC g o c zs w hold Kb.1 Dw;rw [show(#[hd.v]:Array Value)= #[.slice (some ⟨g,o,none⟩) zs.length c]by rw [jE]];refine yc.mono ?_;rintro e w' ⟨rfl,n,os,rfl⟩;have hlen:(nh zs).length =zs.length:=by unfold nh;exact List.length_mergeSort zs
  have Lg:g<w.heap.size:=Kb.1;have Co:∀k,k<w.heap.size->k≠g->(Go.Sort.grow (Go.Sort.putRow (Value.int .i64) (Go.Sort.ahead w n) g o (nh zs).toArray) os).heap[k]?=w.heap[k]?:=λk hk hkg=>by
   simp only [Go.Sort.grow,Go.Sort.putRow,Go.Sort.mapBlock,Go.Sort.ahead];rw [IK (I9),OQ,if_neg (λh=>hkg h.symm)]
  have jo:(Go.Sort.grow (Go.Sort.putRow (Value.int .i64) (Go.Sort.ahead w n) g o (nh zs).toArray) os).heap[g]?=some (.cells (Go.Sort.putCells (Value.int .i64) o (nh zs).toArray cur) t (0,0)):=by
   simp only [Go.Sort.grow,Go.Sort.putRow,Go.Sort.mapBlock,Go.Sort.ahead];rw [IK (by simpa using Lg),OQ,if_pos rfl,hh];rfl
  have kK:w.grownBy (Go.Sort.grow (Go.Sort.putRow (Value.int .i64) (Go.Sort.ahead w n) g o (nh zs).toArray) os) (some g):=
   ⟨rfl,rfl,rfl,by simp [Go.Sort.grow,Go.Sort.putRow,Go.Sort.mapBlock,Go.Sort.ahead],λk hk eD=>Co k hk λh=>eD (by rw [h])⟩
  have iy:∀z∈nh zs,z∈zs:=λz hz=>by unfold nh at hz;exact List.mem_mergeSort.1 hz
  have yx:jV X ρ F (Go.Sort.grow (Go.Sort.putRow (Value.int .i64) (Go.Sort.ahead w n) g o (nh zs).toArray) os) hd (.row t (nY (nh zs))):=by
   refine⟨by rw [hK];exact ei,λi row hi=> ?_,.inr ⟨g,o,c,_,by rw [N5,hlen];exact jE,jo,by rw [N5,hlen];exact h4,h5,by rw [oa];simpa [Go.Sort.putCells]using h6,λi row hi j x hx=> ?_⟩⟩
   ·obtain⟨z,hz,rfl⟩:=aff hi;obtain⟨i',dV⟩:=zA (iy z (mD hz));rw [hK];exact lU i' _ (by unfold nY;rw [iH,dV];rfl)
   ·obtain⟨z,hz,rfl⟩:=aff hi;have qP:i<(nh zs).length :=(eU.1 hz).1;cases j with
    |succ j=>exact wk
    |zero=>
     simp at hx;subst hx;refine⟨.int .i64 z,?_,.int _ _⟩;rw [oa,Nat.mul_one,xF,ayF (by omega),if_pos (eh)];rw [show o+i- o=i by omega,OR _ i (by simpa using qP)];have:=(eU.1 hz).2;simp [this]
  refine⟨.tuple #[],ρ,F,rfl,hI.write rfl rfl bA dQ kK yx,⟨λ_ h=>h,λ_ _ _ h=>h,λa ha=>Co _ (hI.fz a ha) λh=>Kb.2.2 a ha h⟩,?_⟩;exact .ep [] [] rfl (λj x v hx=>wk)
end Go.az
namespace Go.Proofs
open Go.Shelf
def Tryz.azt:Go.Shelf.Ren:=⟨fun|189=>192|125=>213|257=>212|128=>231|129=>218|294=>222|295=>223|296=>224|297=>225|298=>226|299=>227|216=>228|300=>229|301=>230|328=>236|329=>237|330=>238|331=>239|332=>240|215=>241|343=>242|n=>n,fun|28=>36|3=>3|46=>203|0=>0|51=>233|53=>236|4=>4|183=>261|182=>260|131=>264|5=>5|9=>9|218=>267|222=>169|228=>274|229=>275|n=>n,fun|n=>n⟩
theorem Tryz.aCA:Go.Proofs.Lays.n189 Tryz.prog Tryz.azt:={
 mixed:=by kernel_rfl
 f125:=Tryz.func213.trans (congrArg some (by kernel_rfl))
 f128:=Tryz.func231.trans (congrArg some (by kernel_rfl))
 f129:=Tryz.func218.trans (congrArg some (by kernel_rfl))
 f189:=Tryz.func192.trans (congrArg some (by kernel_rfl))
 f215:=Tryz.func241.trans (congrArg some (by kernel_rfl))
 f216:=Tryz.func228.trans (congrArg some (by kernel_rfl))
 f257:=Tryz.func212.trans (congrArg some (by kernel_rfl))
 f294:=Tryz.func222.trans (congrArg some (by kernel_rfl))
 f295:=Tryz.func223.trans (congrArg some (by kernel_rfl))
 f296:=Tryz.func224.trans (congrArg some (by kernel_rfl))
 f297:=Tryz.func225.trans (congrArg some (by kernel_rfl))
 f298:=Tryz.func226.trans (congrArg some (by kernel_rfl))
 f299:=Tryz.func227.trans (congrArg some (by kernel_rfl))
 f300:=Tryz.func229.trans (congrArg some (by kernel_rfl))
 f301:=Tryz.func230.trans (congrArg some (by kernel_rfl))
 f328:=Tryz.func236.trans (congrArg some (by kernel_rfl))
 f329:=Tryz.func237.trans (congrArg some (by kernel_rfl))
 f330:=Tryz.func238.trans (congrArg some (by kernel_rfl))
 f331:=Tryz.func239.trans (congrArg some (by kernel_rfl))
 f332:=Tryz.func240.trans (congrArg some (by kernel_rfl))
 f343:=Tryz.func242.trans (congrArg some (by kernel_rfl))
 t0:=Tryz.underlying0
 a0:=Tryz.isAgg0
 z0:=Tryz.sizeOf0
 v0:=Tryz.zeroValue0
 t3:=Tryz.underlying3
 a3:=Tryz.isAgg3
 z3:=Tryz.sizeOf3
 v3:=Tryz.zeroValue3
 t4:=Tryz.underlying4
 a4:=Tryz.isAgg4
 z4:=Tryz.sizeOf4
 v4:=Tryz.zeroValue4
 t5:=Tryz.underlying5
 a5:=Tryz.isAgg5
 z5:=Tryz.sizeOf5
 v5:=Tryz.zeroValue5
 t9:=Tryz.underlying9
 a9:=Tryz.isAgg9
 z9:=Tryz.sizeOf9
 v9:=Tryz.zeroValue9
 t28:=Tryz.underlying36
 a28:=Tryz.isAgg36
 z28:=Tryz.sizeOf36
 v28:=Tryz.zeroValue36
 t46:=Tryz.underlying203
 a46:=Tryz.isAgg203
 z46:=Tryz.sizeOf203
 v46:=Tryz.zeroValue203
 t51:=Tryz.underlying233
 a51:=Tryz.isAgg233
 z51:=Tryz.sizeOf233
 v51:=Tryz.zeroValue233
 t53:=Tryz.underlying236
 a53:=Tryz.isAgg236
 z53:=Tryz.sizeOf236
 v53:=Tryz.zeroValue236
 t131:=Tryz.underlying264
 a131:=Tryz.isAgg264
 z131:=Tryz.sizeOf264
 v131:=Tryz.zeroValue264
 t182:=Tryz.underlying260
 a182:=Tryz.isAgg260
 z182:=Tryz.sizeOf260
 v182:=Tryz.zeroValue260
 t183:=Tryz.underlying261
 a183:=Tryz.isAgg261
 z183:=Tryz.sizeOf261
 v183:=Tryz.zeroValue261
 t218:=Tryz.underlying267
 a218:=Tryz.isAgg267
 z218:=Tryz.sizeOf267
 v218:=Tryz.zeroValue267
 t222:=Tryz.underlying169
 a222:=Tryz.isAgg169
 z222:=Tryz.sizeOf169
 v222:=Tryz.zeroValue169
 t228:=Tryz.underlying274
 a228:=Tryz.isAgg274
 z228:=Tryz.sizeOf274
 v228:=Tryz.zeroValue274
 t229:=Tryz.underlying275
 a229:=Tryz.isAgg275
 z229:=Tryz.sizeOf275
 v229:=Tryz.zeroValue275}
end Go.Proofs
namespace Go.Proofs.YtomkobcipaligaaGreatDoor
open Go Go.az
set_option maxRecDepth 100000
noncomputable section
def kn9:RE CX (.known 9):=λ_=>aDA (X:=CX) (Y:=Cl.X) rfl (λ_=>rfl) Cl.aMx
def aEe:RE CX (.Ax 192 3):=aDb (by kernel_rfl) (λHa off cap zs w h1 h2 h3=>Any.slices_Sort_int Tryz.aCA Ha off cap zs w h1 h2 h3)
set_option maxRecDepth 1000000 in
def hE:iE (aaS CX) EE:=by repeat' first|exact trivial|exact kn9|exact⟨by kernel_rfl,by kernel_rfl,by kernel_rfl⟩|refine⟨?_,?_⟩|kernel_rfl|exact aEe
end
end Go.Proofs.YtomkobcipaligaaGreatDoor
namespace Go.az
def uX{p:Prop}(h:p:=by rw [jv (by omega) (by omega)];omega):p:=h
end Go.az
namespace Go.Proofs.YtomkobcipaligaaGreatDoor
open Go Go.az
section
variable{n:Int}{i:Nat}
def aB9(h0: -9223372036854775808<=n)(h1:n<=9223372036854775807):IntKind.wrap .i64 n=n:=by
 simp [IntKind.wrap,IntKind.bits,IntKind.signed];split<;>omega
def jv(h0: -9223372036854775808<=n)(h1:n<=9223372036854775807):bx n=n:=aB9 h0 h1
def aNL(X:Cx)(E:List FD)(N v:Nat)(l:bp):FU X E (N+1) v l=ca X E (FU X E N) N v l:=rfl
def qw{n:Nat}(h:i<n):ib (i:Int) n=true:=by simp [ib,h]
def E4(h:i<9223372036854775807):bx ((i:Int)+1)=((i+1:Nat):Int):=uX
end
end Go.Proofs.YtomkobcipaligaaGreatDoor
namespace Go.az
def Fy{p:Prop}(h:p:=by subst hc;exact h):p:=h
def Jf{p:Prop}(h:p:=by rw [hp]at h;cases h):p:=h
def aii{p:Prop}(h:p:=by
 rw [h N n (by omega) (by omega)];exact hk N n (by omega) (by omega)):p:=h
def ahM{p:Prop}(h:p:=by
 cases c
 ·exact h2 rfl
 ·exact h1 rfl):p:=h
end Go.az
namespace Go.az
def IB:=@List.any_cons
end Go.az
namespace Go.Proofs.YtomkobcipaligaaGreatDoor
open Go Go.az
section
variable{c:Bool}{α:Type}{l:List α}{i m v:Nat}{LF:Nat->Nat->Nat->Option UO}{k:Nat->Nat->Nat->bp->Option UO}{f g:Nat->Nat->Option UO}{P:Nat->Prop}{done hit o r:UO}{p:α->Bool}
def E(f:Nat->Nat->Option UO)(o:UO):Prop:=∃B,∀N n,B<=N->B<=n->f N n=some o
abbrev Ev(v:Nat)(l:bp)(o:UO):Prop:=E (λN _=>FU CX EE N v l) o
def af(h:o=r):E (λ_ _=>some o) r:=⟨0,λ_ _ _ _=>by rw [h]⟩
def aj(h:E f o)(hk:E (λN n=>k N n o.1 o.2) r):E (λN n=>bO (f N n) (k N n)) r:=by
 obtain⟨B,h⟩:=h;obtain⟨C,hk⟩:=hk;refine⟨B+C,λN n h1 h2=> ?_⟩;show bO (f N n) (k N n)=some r;exact aii
def aH(hc:c=true)(h:E f r):E (λN n=>az.aP c (f N n)) r:=Fy
def av(h1:c=true->E f r)(h2:c=false->E g r):E (λN n=>bif c then f N n else g N n) r:=ahM
def bu(hc:c=true)(h:E f r):E (λN n=>bif c then f N n else g N n) r:=Fy
def aC(hc:c=false)(h:E g r):E (λN n=>bif c then f N n else g N n) r:=Fy
def ali(he:∀N n,f N n=g N n)(h:E g r):E f r:=by
 obtain⟨B,h⟩:=h;exact⟨B,λN n h1 h2=>(he N n).trans (h N n h1 h2)⟩
def alh{l:bp}{g:Nat->Option UO}(he:∀N,ca CX EE (FU CX EE N) N v l=g N)(h:E (λN _=>g N) r):Ev v l r:=by
 obtain⟨B,h⟩:=h;refine⟨B+1,λN n h1 _=> ?_⟩;obtain⟨M,rfl⟩:∃M,N=M+1:=⟨N- 1,by omega⟩;show FU CX EE (M+1) v l=_;rw [aNL];exact(he M).trans <|h M M (by omega) (by omega)
def aC8(he:∀N n,f N (n+1)=g N n)(h:E g r):E f r:=by
 obtain⟨B,h⟩:=h;refine⟨B+1,λN n h1 h2=> ?_⟩;obtain⟨m,rfl⟩:∃m,n=m+1:=⟨n- 1,by omega⟩;exact(he N m).trans <|h N m (by omega) (by omega)
def bU(he:∀{N n},f N n=g N n)(h:E g r):E f r:=ali (λ_ _=>he) h
def bz{l:bp}{g:Nat->Option UO}(he:∀{N},ca CX EE (FU CX EE N) N v l=g N)(h:E (λN _=>g N) r):Ev v l r:=alh (λ_=>he) h
def bF(he:∀{N n},f N (n+1)=g N n)(h:E g r):E f r:=aC8 (λ_ _=>he) h
def E.diag(h:E f r):E (λN _=>f N N) r:=by
 obtain⟨B,h⟩:=h;exact⟨B,λN n h1 h2=>h N N h1 h1⟩
def aFu(he:∀N n,f N n=g N n)(h:E (λN n=>bO (g N n) (k N n)) r):E (λN n=>bO (f N n) (k N n)) r:=
 ali (λN n=>by rw [he]) h
def wM(he:∀{N n},f N n=g N n)(h:E (λN n=>bO (g N n) (k N n)) r):E (λN n=>bO (f N n) (k N n)) r:=aFu (λ_ _=>he) h
def sc(h1:c=true->E (λN n=>bO (f N n) (k N n)) r)(h2:c=false->E (λN n=>bO (g N n) (k N n)) r):E (λN n=>bO (bif c then f N n else g N n) (k N n)) r:=ahM
def ag9(hc:c=true)(h:E (λN n=>bO (f N n) (k N n)) r):E (λN n=>bO (bif c then f N n else g N n) (k N n)) r:=Fy
def Jt(hc:c=false)(h:E (λN n=>bO (g N n) (k N n)) r):E (λN n=>bO (bif c then f N n else g N n) (k N n)) r:=Fy
def mf{q:Nat}{l:bp}(h:E (λN n=>k N n q l) r):E (λN n=>bO (some (q,l)) (k N n)) r:=h
def Fm(hc:c=true)(h:E (λN n=>bO (f N n) (k N n)) r):E (λN n=>bO (az.aP c (f N n)) (k N n)) r:=Fy
def agv{k1:Nat->Nat->Nat->bp->Option UO}(h:E f o)(hk:E (λN n=>bO (k1 N n o.1 o.2) (k N n)) r):E (λN n=>bO (bO (f N n) (k1 N n)) (k N n)) r:=by
 obtain⟨B,h⟩:=h;obtain⟨C,hk⟩:=hk;refine⟨B+C,λN n h1 h2=> ?_⟩;show bO (bO (f N n) (k1 N n)) (k N n)=some r;exact aii
def E.to(h:E f o)(e:o=r):E f r:=e▸h
def E.uniq(h:E f o)(h':E f r):o=r:=by
 obtain⟨B,h⟩:=h;obtain⟨C,h'⟩:=h';have h1:=h (B+C) (B+C) (by omega) (by omega);rw [h' (B+C) (B+C) (by omega) (by omega)]at h1;exact(Option.some.inj h1).symm
def down(h0:P m)(hs:∀i,i<m->P (i+1)->P i):∀i,i<=m->P i:=by
 intro i hi;obtain⟨k,rfl⟩:∃k,m=i+k:=⟨m- i,by omega⟩;clear hi
 induction k generalizing i with
 |zero=>exact h0
 |succ k ih=>
  refine hs i (by omega) (ih (i+1) ?_ ?_)
  ·rw [show i+1+k=i+(k+1)by omega];exact h0
  ·intro j hj;exact hs j (by omega)
def fD(h0:P m)(hs:∀i,i<m->P (i+1)->P i):P 0:=down h0 hs 0 (xK _)
abbrev mx:Nat:=1048576
abbrev ints(l:cT):aZ:=l.map λn=>[iI n]
def sf{f:α->Row}(h:i<l.length):gA (l.map f) i=f l[i]:=by simp [gA,List.getD,h]
def fM{f:α->Row}(h:i<l.length):gA (l.map f) ((i:Int).toNat)=f l[i]:=sf h
def gF(h:i<l.length):l.drop i=l[i]::l.drop (i+1):=Xt h
def ix{n:Nat}(h:i<n)(hn:n<=mx):bx ((i:Int)+1)=((i+1:Nat):Int):=E4 (by simp only [mx]at hn;omega)
def dr{f:α->Row}(h:i<l.length):decide ((i:Int)<ln (l.map f))=true:=by simpa [ln]using h
def dU{f:α->Row}:decide ((l.length:Int)<ln (l.map f))=false:=by simp [ln]
def cH{f:α->Row}(h:i<l.length):ib (i:Int) (l.map f).length =true:=by simpa using qw h
def scan{hit:Nat->UO}(hd:E (LF l.length) done)
 (hs:∀(i:Nat) (h:i<l.length) (r:UO),(p l[i]=true->hit i=r)->(p l[i]=false->E (LF (i+1)) r)->E (LF i) r):
 (l.any p=false∧E (LF 0) done)∨(l.any p=true∧∃i,i<l.length∧E (LF 0) (hit i)):=by
 have h:=fD (P:=λi=>((l.drop i).any p=false∧E (LF i) done)∨((l.drop i).any p=true∧∃j,j<l.length∧E (LF i) (hit j))) (m:=l.length) (.inl ⟨by simp,hd⟩) λi hi ih=>by
  rw [gF hi,IB];cases hp:p l[i]with
  |true=>exact .inr ⟨rfl,i,hi,hs i hi _ (λ_=>rfl) (λh=>Jf)⟩
  |false=>
   rw [Ox];rcases ih with⟨h1,h2⟩|⟨h1,j,hj,h2⟩
   ·exact .inl ⟨h1,hs i hi _ (λh=>Jf) λ_=>h2⟩
   ·exact .inr ⟨h1,j,hj,hs i hi _ (λh=>Jf) λ_=>h2⟩
 simpa using h
def oY(hd:E (LF l.length) done)
 (hs:∀(i:Nat) (h:i<l.length) (r:UO),(p l[i]=true->hit=r)->(p l[i]=false->E (LF (i+1)) r)->E (LF i) r):
 E (LF 0) (bif l.any p then hit else done):=by
 rcases scan (hit:=λ_=>hit) hd hs with⟨h1,h2⟩|⟨h1,i,_,h2⟩
 ·rw [h1];exact h2
 ·rw [h1];exact h2
def uR{p:Nat->Bool}(hd:E (LF m) done)
 (hs:∀(i:Nat),i<m->∀(r:UO),(p i=true->hit=r)->(p i=false->E (LF (i+1)) r)->E (LF i) r):E (LF 0) (bif (List.range m).any p then hit else done):=by
 have:=oY (l:=List.range m) (LF:=LF) (p:=p) (hit:=hit) (done:=done) (by simpa using hd) λi hi r h1 h2=>hs i (B6) r (λh=>h1 (lJ)) λh=>h2 (lJ);exact this
def Qx{l:cT}(h:i<l.length):gI (gA (ints l) i) 0=l.getD i 0:=by rw [sf h];simp [gI,AV.toI,h]
def mh{l:cT}(h:i<l.length):gI (gA (ints l) ((i:Int).toNat)) 0=l.getD i 0:=Qx h
end
end Go.Proofs.YtomkobcipaligaaGreatDoor
namespace Go.az
def Qk{p:Prop}(h:p:=by
 cases s with
 |mk k g n e b a=>cases g;cases b;cases a;rfl):p:=h
def wm{p:Prop}(h:p:=by cases s;rfl):p:=h
def Pz{p:Prop}(h:p:=by rw [Fk];rfl):p:=h
def ah4{p:Prop}(h:p:=by
 cases s with
 |mk d u=>cases d;cases u;rfl):p:=h
def ah3{p:Prop}(h:p:=by
 cases s with
 |mk k g n e b a=>cases g;rfl):p:=h
def ahr{p:Prop}(h:p:=by
 cases s with
 |mk e b=>cases b;rfl):p:=h
end Go.az
namespace Go.Proofs.YtomkobcipaligaaGreatDoor
open Go Go.az
abbrev J:=AV.agg
abbrev ak:=AV.bool
abbrev aq:=AV.bool false
abbrev cu:=AV.bool true
abbrev bE:=AV.int .u8
abbrev cQ:=AV.ab NT
abbrev c5:=AV.ab NA
abbrev aT:=AV.ab EB
abbrev cZ:=AV.ab MG
abbrev bD:=AV.ab Nz
abbrev Br:=AV.ab aeo
abbrev bJ:=AV.ab afc
abbrev bH:=AV.ab EA
abbrev nT:=AV.ab aeP
abbrev fq:=AV.ab aeO
abbrev cD:=AV.ab abV
abbrev er:=AV.ab arD
abbrev ah:=AV.ab aen
abbrev dL:=AV.ab Ez
abbrev aa:=AV.ab tP
abbrev BF:=AV.ab aDa
abbrev og:List (Nat×AV):=[(8,.aA 2)]
abbrev pq:List (Nat×AV):=[(2,.aA 2)]
abbrev oe:List (Nat×AV):=[(2,.aA 3)]
abbrev nm:List (Nat×AV):=[(2,.aA 4)]
abbrev qD:List (Nat×AV):=[(2,.aA 0)]
abbrev mw:List (Nat×AV):=[(12,.aA 2),(13,.aA 3),(14,.aA 4),(15,.aA 5),(16,.aA 6),(17,.aA 7),(18,.aA 8),(19,.aA 9),(20,.aA 10)]
abbrev aaO:List (Nat×AV):=[(4,.aA 2)]
abbrev Gv:List (Nat×AV):=[(4,.aA 3)]
abbrev an9:List (Nat×AV):=[(9,.aA 0)]
abbrev Rz:List (Nat×AV):=[(2,.aA 1)]
abbrev pW:List (Nat×AV):=[(12,.aA 3),(13,.aA 4),(14,.aA 5),(15,.aA 6),(16,.aA 7),(17,.aA 8),(18,.aA 9),(19,.aA 10),(20,.aA 11)]
abbrev FY:List (Nat×AV):=[(12,.aA 12),(13,.aA 13),(14,.aA 14),(15,.aA 15),(16,.aA 16),(17,.aA 17),(18,.aA 18),(19,.aA 19),(20,.aA 20)]
abbrev aM:List (Nat×AV):=[(6,.aA 1),(8,.mp 2)]
abbrev bG:List (Nat×AV):=[(0,.ptr 0 0 0)]
abbrev gf:List (Nat×AV):=[(0,.ptr 1 0 0)]
abbrev fZ:List (Nat×AV):=[(6,.aA 2),(8,.mp 3)]
abbrev Zz:List (Nat×AV):=[(4,.aA 5)]
abbrev JN:List (Nat×AV):=[(4,.aA 6)]
abbrev u6:List (Nat×AV):=[(0,.ptr 2 0 0)]
abbrev u5:List (Nat×AV):=[(6,.aA 3),(8,.mp 4)]
abbrev uZ:List (Nat×AV):=[(0,.ptr 3 0 0)]
abbrev uY:List (Nat×AV):=[(6,.aA 4),(8,.mp 5)]
abbrev aFk:List (Nat×AV):=[(0,.ptr 0 0 0),(5,.aA 3)]
abbrev yf:List (Nat×AV):=[(6,.aA 2),(8,.mp 1)]
abbrev aFj:List (Nat×AV):=[(5,.aA 3)]
abbrev aFi:List (Nat×AV):=[(8,.aA 0)]
abbrev bP(f:(Nat->List AV->Option UO)->Nat->Nat->List AV->Option UO)(l:List AV)(r:UO):=E (λN m=>f (FU CX EE N) N m l) r
abbrev bM(f:(Nat->List AV->Option UO)->Nat->List AV->Option UO)(l:List AV)(r:UO):=E (λN _=>f (FU CX EE N) N l) r
def aL{o:UO}:E (λ_ _=>some o) o:=af rfl
def bj{f g:Nat->Nat->Option UO}{r:UO}{c:Bool}(h:E g r)(hc:c=false:=by rfl):E (λN n=>bif c then f N n else g N n) r:=aC hc h
def aX{f g:Nat->Nat->Option UO}{r:UO}{c:Bool}(h:E f r)(hc:c=true:=by rfl):E (λN n=>bif c then f N n else g N n) r:=bu hc h
end Go.Proofs.YtomkobcipaligaaGreatDoor
namespace Go.az
def OU:=@List.not_mem_nil
def Ix:=@List.sizeOf_lt_of_mem
end Go.az
namespace Go.Proofs.YtomkobcipaligaaGreatDoor
open Go Go.az
inductive CE where
 |mk(kind op N O off len lo hi:Int)(L:List CE)
namespace CE
def kind:CE->Int|mk k _ _ _ _ _ _ _ _=>k
def op:CE->Int|mk _ p _ _ _ _ _ _ _=>p
def N:CE->Int|mk _ _ n _ _ _ _ _ _=>n
def O:CE->Int|mk _ _ _ o _ _ _ _ _=>o
def off:CE->Int|mk _ _ _ _ f _ _ _ _=>f
def len:CE->Int|mk _ _ _ _ _ l _ _ _=>l
def lo:CE->Int|mk _ _ _ _ _ _ a _ _=>a
def hi:CE->Int|mk _ _ _ _ _ _ _ b _=>b
def L:CE->List CE|mk _ _ _ _ _ _ _ _ l=>l
end CE
def CE.eta(e:CE):e= .mk e.kind e.op e.N e.O e.off e.len e.lo e.hi e.L:=by cases e;rfl
def CE.lt{e y:CE}(h:y∈e.L):SizeOf.sizeOf y<SizeOf.sizeOf e:=by
 cases e with
 |mk _ _ _ _ _ _ _ _ l=>
  have:=Ix h;simp only [CE.L]at this;simp only [CE.mk.sizeOf_spec];omega
def CE.ind{P:CE->Prop}(h:∀e:CE,(∀y∈e.L,P y)->P e):∀e,P e:=λe=>
 h e λy hy=>CE.ind h y
termination_by e=>SizeOf.sizeOf e
decreasing_by exact CE.lt hy
mutual
def aU:CE->bp
 | .mk k p n o f l a b es=>[bE k,bE p,iI n,iI o,iI f,iI l,iI a,iI b,aT (QA es)]
def QA:List CE->aZ
 | []=>[]
 |e::es=>aU e::QA es
end
def afs:∀es,QA es=es.map aU
 | []=>rfl
 |e::es=>by simp only [QA,nf,afs es]
def Fk(e:CE):aU e=[bE e.kind,bE e.op,iI e.N,iI e.O,iI e.off,iI e.len,iI e.lo,iI e.hi,aT (e.L.map aU)]:=by
 cases e;simp only [aU,afs];rfl
def eG(e:CE):nz (aU e)=aU e:=by cases e;rfl
def tZ(e:CE):gR (aU e) 8=e.L.map aU:=Pz
structure PL where
 kind:Int
 O:Int
 off:Int
 len:Int
 E:List CE
def cX(p:PL):bp:=[bE p.kind,iI p.O,iI p.off,iI p.len,aT (p.E.map aU)]
structure dH where
 kind:Int
 N:Int
 O:Int
 T:Int
 P:Int
 entry:Int
 In:Bool
 rev:Bool
 px:Bool
 els:Bool
 pM:Bool
 mode:Int
 E:List CE
 Ins:List CE
 To:List PL
 fH:List PL
 Ts:cT
mutual
inductive CS where
 |mk(f:dH)(L:List CS)(D:List CD)(H:List CH)(A:List CA)
inductive CD where
 |mk(d u:CS)
inductive CH where
 |mk(eQ:cT)(body:CS)
inductive CA where
 |mk(kind:Int)(guard:CE)(entry:Int)(E:List CE)(body after:CS)
end
variable{s y:CS}
namespace CS
def f:CS->dH|mk f _ _ _ _=>f
def L:CS->List CS|mk _ l _ _ _=>l
def D:CS->List CD|mk _ _ d _ _=>d
def H:CS->List CH|mk _ _ _ h _=>h
def A:CS->List CA|mk _ _ _ _ a=>a
end CS
def CD.d:CD->CS|mk d _=>d
def CD.u:CD->CS|mk _ u=>u
def CH.eQ:CH->List Int|mk e _=>e
def CH.body:CH->CS|mk _ b=>b
def CA.kind:CA->Int|mk k _ _ _ _ _=>k
def CA.guard:CA->CE|mk _ g _ _ _ _=>g
def CA.entry:CA->Int|mk _ _ e _ _ _=>e
def CA.E:CA->List CE|mk _ _ _ e _ _=>e
def CA.body:CA->CS|mk _ _ _ _ b _=>b
def CA.after:CA->CS|mk _ _ _ _ _ a=>a
def CS.kids(s:CS):List CS:=s.D.flatMap (λd=>[d.d,d.u])++(s.L++(s.H.map CH.body++s.A.flatMap λa=>[a.body,a.after]))
def CS.lt(h:y∈s.kids):SizeOf.sizeOf y<SizeOf.sizeOf s:=by
 cases s with
 |mk f l d hh a=>
  simp only [CS.mk.sizeOf_spec];simp only [CS.kids,jO,E7,zD,CS.L,CS.D,CS.H,CS.A,gN,OU,or_false]at h;rcases h with⟨x,hx,h⟩|h|⟨x,hx,rfl⟩|⟨x,hx,h⟩
  ·have:=Ix hx;cases x with
   |mk p q=>
    simp only [CD.mk.sizeOf_spec]at this;rcases h with rfl|rfl<;>(try simp only [CD.d,CD.u])<;>omega
  ·have:=Ix h;omega
  ·have:=Ix hx;cases x with
   |mk p q=>
    simp only [CH.mk.sizeOf_spec]at this;simp only [CH.body];omega
  ·have:=Ix hx;cases x with
   |mk _ _ _ _ p q=>
    simp only [CA.mk.sizeOf_spec]at this;rcases h with rfl|rfl<;>(try simp only [CA.body,CA.after])<;>omega
def CS.ind{P:CS->Prop}(h:∀s:CS,(∀y∈s.kids,P y)->P s):∀s,P s:=λs=>
 h s λy hy=>CS.ind h y
termination_by s=>SizeOf.sizeOf s
decreasing_by exact CS.lt hy
def ry{d:CD}(h:d∈s.D):d.d∈s.kids∧d.u∈s.kids:=by
 simp only [CS.kids,jO,E7];exact⟨.inl ⟨d,h,by simp⟩,.inl ⟨d,h,by simp⟩⟩
def CO(h:y∈s.L):y∈s.kids:=by
 simp only [CS.kids,jO];exact .inr (.inl h)
def CP{x:CH}(h:x∈s.H):x.body∈s.kids:=by
 simp only [CS.kids,jO,zD];exact .inr (.inr (.inl ⟨x,h,rfl⟩))
def rA{x:CA}(h:x∈s.A):x.body∈s.kids∧x.after∈s.kids:=by
 simp only [CS.kids,jO,E7];exact⟨.inr (.inr (.inr ⟨x,h,by simp⟩)),.inr (.inr (.inr ⟨x,h,by simp⟩))⟩
abbrev cW(f:dH)(l d h a:aZ):bp:=[bE f.kind,iI f.N,iI f.O,iI f.T,iI f.P,iI f.entry,ak f.In,ak f.rev,ak f.px,ak f.els,ak f.pM,bE f.mode,aT (f.E.map aU),aT (f.Ins.map aU),bH (f.To.map cX),bH (f.fH.map cX),aa (ints f.Ts),bD l,c5 d,cZ h,cQ a]
mutual
def encS:CS->bp
 | .mk f l d h a=>cW f (FT l) (FW d) (FV h) (FX a)
def FT:List CS->aZ
 | []=>[]
 |s::ss=>encS s::FT ss
def cq:CD->bp
 | .mk d u=>encS d++encS u
def FW:List CD->aZ
 | []=>[]
 |s::ss=>cq s::FW ss
def cA:CH->bp
 | .mk e b=> aa (ints e)::encS b
def FV:List CH->aZ
 | []=>[]
 |s::ss=>cA s::FV ss
def cw:CA->bp
 | .mk k g n e b a=> bE k::(aU g++(iI n:: aT (e.map aU)::(encS b++encS a)))
def FX:List CA->aZ
 | []=>[]
 |s::ss=>cw s::FX ss
end
def afq:∀l,FT l=l.map encS
 | []=>rfl
 |e::es=>by simp only [FT,nf,afq es]
def aft:∀l,FW l=l.map cq
 | []=>rfl
 |e::es=>by simp only [FW,nf,aft es]
def afr:∀l,FV l=l.map cA
 | []=>rfl
 |e::es=>by simp only [FV,nf,afr es]
def afu:∀l,FX l=l.map cw
 | []=>rfl
 |e::es=>by simp only [FX,nf,afu es]
def Fj(s:CS):encS s=cW s.f (s.L.map encS) (s.D.map cq) (s.H.map cA) (s.A.map cw):=by
 cases s;simp only [encS,afq,aft,afr,afu];rfl
def fE(s:CS):dv (encS s)=encS s:=wm
def JV(s:CH):TR (cA s)=cA s:=ahr
def ZM(s:CA):xr (cw s)=cw s:=Qk
def alu(s:CD):dv (cq s)=encS s.d:=ah4
def als(s:CD):cO dD 21 (cq s)=encS s.u:=ah4
def QM(s:CH):cO dD 1 (cA s)=encS s.body:=ahr
def alv(s:CA):cO Bx 1 (cw s)=aU s.guard:=Qk
def F8(s:CA):cO dD 12 (cw s)=encS s.body:=Qk
def F9(s:CA):cO dD 33 (cw s)=encS s.after:=Qk
def aaI(s:CA):gI (cw s) 0=s.kind:=by
 cases s with
 |mk k g n e b a=>rfl
def aaH(s:CA):gI (cw s) 10=s.entry:=ah3
def an3(s:CA):gR (cw s) 11=s.E.map aU:=ah3
def Kj(s:CH):gR (cA s) 0=ints s.eQ:=wm
structure OB where
 size:Int
 lo:Int
 hi:Int
 ptr:Bool
 set:cT
def fU(o:OB):bp:=[iI o.size,iI o.lo,iI o.hi,ak o.ptr,aa (ints o.set)]
structure EN where
 ins:cT
 outs:cT
def iM(e:EN):bp:=[aa (ints e.ins),aa (ints e.outs)]
structure TK where
 prio:Int
 au:List EN
 body:CS
 dead:Int
def cE(t:TK):bp:=iI t.prio:: Br (t.au.map iM)::(encS t.body++[iI t.dead])
structure PR where
 ceil:Int
 jR:cT
 bars:List CE
def fr(q:PR):bp:=[iI q.ceil,aa (ints q.jR),aT (q.bars.map aU)]
structure PG where
 bw:List OB
 eQ:Int
 tasks:List TK
 dp:List PR
def mN(p:PG):bp:=[bJ (p.bw.map fU),iI p.eQ,fq (p.tasks.map cE),nT (p.dp.map fr)]
structure SO where
 ptr:Bool
 null:Bool
 set:cT
 lo:Int
 hi:Int
def bW(s:SO):bp:=[ak s.ptr,ak s.null,aa (ints s.set),iI s.lo,iI s.hi]
inductive CE.Ok:CE->Prop
 |mk(e:CE)(hl:e.L.length<=mx)(h:∀y∈e.L,CE.Ok y):CE.Ok e
def Gw(l:List CE):Prop:=l.length<=mx∧∀e∈l,e.Ok
def PL.Ok(p:PL):Prop:=Gw p.E
def aaQ(l:List PL):Prop:=l.length<=mx∧∀e∈l,e.Ok
structure dH.Ok(f:dH):Prop where
 E:Gw f.E
 Ins:Gw f.Ins
 To:aaQ f.To
 fH:aaQ f.fH
 Ts:f.Ts.length<=mx
 mode:0<=f.mode
structure CH.qn(x:CH):Prop where
 eQ:x.eQ.length<=mx
structure CA.qn(x:CA):Prop where
 guard:x.guard.Ok
 E:Gw x.E
inductive CS.Ok:CS->Prop
 |mk(s:CS)(hf:s.f.Ok)(hL:s.L.length<=mx)(hD:s.D.length<=mx)(hH:s.H.length<=mx)(hA:s.A.length<=mx)(h1:∀x∈s.H,x.qn)(h2:∀x∈s.A,x.qn)(hk:∀y∈s.kids,CS.Ok y):CS.Ok s
def OB.Ok(o:OB):Prop:=o.set.length<=mx
def EN.Ok(e:EN):Prop:=e.ins.length<=mx∧e.outs.length<=mx
structure TK.Ok(t:TK):Prop where
 len:t.au.length<=mx
 au:∀e∈t.au,e.Ok
 body:t.body.Ok
structure PR.Ok(q:PR):Prop where
 jR:q.jR.length<=mx
 bars:Gw q.bars
structure PG.Ok(p:PG):Prop where
 bw:p.bw.length<=mx
 obj:∀o∈p.bw,o.Ok
 tasks:p.tasks.length<=mx
 task:∀t∈p.tasks,t.Ok
 dp:p.dp.length<=mx
 gr:∀q∈p.dp,q.Ok
end Go.Proofs.YtomkobcipaligaaGreatDoor
namespace Go.Proofs.YtomkobcipaligaaGreatDoor
open Go Go.az Qm
set_option maxRecDepth 100000
noncomputable section
variable {G:Nat->bp->Option UO} {N n:Nat} {b1:Bool} {i0 i1 i2 i3:Int} {l0 l1 l2 l3 l4:bp} {r0 r1 r2 r3 r4 r5:aZ}
def ac5:MR G N (n+1) [iI i0,J l1,bD r2]=(bif aV i0 (ln (gR l1 18))then br i0 (gR l1 18)<|br i0 (gR l1 18)<|aP (lu ((r2.length+2)*272) 140737488355328)<|MR G N n [cz i0,aw l1,bD (r2++(([dv (aD (gR l1 18) i0),cO dD 21 (aD (gR l1 18) i0)]:aZ)))]else ae [aw l1,bD r2]:aJ):=by kernel_rfl
def awg:Vs G N [J l0,bD r1]=(bO (MR G N N [iI 0,aw l0,bD r1]) λ_ o1=>ae [aw (gC o1 0),bD (gR o1 1)]:aJ):=by kernel_rfl
def acN:MD G N (n+1) [iI i0,J l1,bD r2]=(bif aV i0 (ln (gR l1 19))then br i0 (gR l1 19)<|aP (lu ((r2.length+1)*272) 140737488355328)<|MD G N n [cz i0,aw l1,bD (r2++(([cO dD 1 (aD (gR l1 19) i0)]:aZ)))]else ae [aw l1,bD r2]:aJ):=by kernel_rfl
def awf:MU G N [J l0,bD r1]=(bO (MD G N N [iI 0,aw l0,bD r1]) λ_ o3=>ae [aw (gC o3 0),bD (gR o3 1)]:aJ):=by kernel_rfl
def acM:Bo G N (n+1) [iI i0,J l1,bD r2]=(bif aV i0 (ln (gR l1 20))then br i0 (gR l1 20)<|br i0 (gR l1 20)<|aP (lu ((r2.length+2)*272) 140737488355328)<|Bo G N n [cz i0,aw l1,bD (r2++(([cO dD 12 (aD (gR l1 20) i0),cO dD 33 (aD (gR l1 20) i0)]:aZ)))]else ae [aw l1,bD r2]:aJ):=by kernel_rfl
def ay2:ca CX EE G N Ie [J l0]=(bO (Vs G N [aw l0,bD cy]) λ_ o2=>aP (lu (((gR o2 1).length +(gR (gC o2 0) 17).length)*272) 140737488355328)<|bO (MU G N [aw (gC o2 0),bD ((gR o2 1)++(gR (gC o2 0) 17))]) λ_ o4=>bO (Bo G N N [iI 0,aw (gC o4 0),bD (gR o4 1)]) λ_ o5=>ae [bD (gR o5 1)]:aJ):=by kernel_rfl
def ac2:MQ G N (n+1) [iI i0,iI i1,bD r2]=(bif aV i1 (ln r2)then br i1 r2<|aP (dw (i1.toNat) (r2.length))<|bO (G NY [aw (aD r2 i1)]) λ_ o2=>MQ G N n [iI (bx (i0+gI o2 0)),cz i1,bD r2]else ae [iI i0,bD r2]:aJ):=by kernel_rfl
def azL:ca CX EE G N NY [J l0]=(bO (G Ie [aw l0]) λ_ o1=>bO (MQ G N N [iI 1,iI 0,bD (gR o1 0)]) λ_ o3=>ae [iI (gI o3 0)]:aJ):=by kernel_rfl
def aya:VY G N [J l0]=(bif aV 200 (ln (gR l0 0))then aN [cu,bK l0]else bif aV 40 (ln (gR l0 2))then aN [cu,bK l0]else bif aV 40 (ln (gR l0 3))then aN [cu,bK l0]else ae [bK l0]:aJ):=by kernel_rfl
def ac6:HW G N (n+1) [iI i0,iI i1,J l2]=(bif aV i1 (ln (gR l2 2))then br i1 (gR l2 2)<|bO (G NY [J (cO dD 2 (aD (gR l2 2) i1))]) λ_ o2=>bif aV 9000 (bx (i0+gI o2 0))then ae [cu,bK l2]else br i1 (gR l2 2)<|bif aV 20 (ln (gR (aD (gR l2 2) i1) 1))then ae [cu,bK l2]else HW G N n [iI (bx (i0+gI o2 0)),cz i1,bK l2]else aN [bK l2]:aJ):=by kernel_rfl
def Wa:ca CX EE G N Wn [J l0]=(bO (VY G N [bK l0]) λq1 o1=>bif bQ q1 then bO (HW G N N [iI 0,iI 0,bK (gC o1 0)]) λq3 o3=>bif bQ q3 then ae [ak (gB o3 0)]else bZ else ae [ak (gB o1 0)]:aJ):=by kernel_rfl
def ac1:HT G N (n+1) [aa r0,iI i1,iI i2,iI i3]=(bif aV i3 (ln r0)then br i3 r0<|bif aV (gI (aD r0 i3) 0) i1 then bZ else br i3 r0<|bif aV i2 (gI (aD r0 i3) 0)then bZ else bif aV 0 i3 then br i3 r0<|br (bx (i3- 1)) r0<|bif ck (gI (aD r0 i3) 0) (gI (aD r0 (bx (i3- 1))) 0)then bZ else HT G N n [aa r0,iI i1,iI i2,cz i3]else HT G N n [aa r0,iI i1,iI i2,cz i3]else aN []:aJ):=by kernel_rfl
def ayT:ca CX EE G N EF [aa r0,iI i1,iI i2]=(bO (HT G N N [aa r0,iI i1,iI i2,iI 0]) λq1 o1=>bif bQ q1 then ae [ak (gB o1 0)]else c8:aJ):=by kernel_rfl
def axf:VF G N [J l0]=(bif aV (gI l0 0) 1 then aN [aq,gL l0]else bif aV 16384 (gI l0 0)then aN [aq,gL l0]else ae [gL l0]:aJ):=by kernel_rfl
def av6:Vj G N [bJ r0,J l1]=(bif gI l1 0 != 1 then aN [aq,gL l1]else bif gI l1 1 != 0 then aN [aq,gL l1]else bif gI l1 2 != 0 then aN [aq,gL l1]else bO (G EF [aa (gR l1 4),iI 0,iI (bx (ln r0- 1))]) λ_ o2=>bif !(gB o2 0)then aN [aq,gL l1]else ae [gL l1]:aJ):=by kernel_rfl
def acH:HL G N (n+1) [bJ r0,iI i1,J l2]=(bif aV i1 (ln (gR l2 4))then br i1 (gR l2 4)<|br (gI (aD (gR l2 4) i1) 0) r0<|bif gB (aD r0 (gI (aD (gR l2 4) i1) 0)) 3 then ae [aq,gL l2]else br i1 (gR l2 4)<|br (gI (aD (gR l2 4) i1) 0) r0<|bif gI (aD r0 (gI (aD (gR l2 4) i1) 0)) 0 != 1 then ae [aq,gL l2]else HL G N n [bJ r0,cz i1,gL l2]else aN [gL l2]:aJ):=by kernel_rfl
def ayV:ca CX EE G N V5 [bJ r0,J l1]=(bO (VF G N [gL l1]) λq1 o1=>bif bQ q1 then bif !(gB (gC o1 0) 3)then bif ln (gR (gC o1 0) 4)==0 then bif ck (-2147483648) (gI (gC o1 0) 1)then bif ck (gI (gC o1 0) 2) 2147483647 then ae [ak (ck (gI (gC o1 0) 1) (gI (gC o1 0) 2))]else bZ else bZ else bZ else bO (Vj G N [bJ r0,gL (gC o1 0)]) λq3 o3=>bif bQ q3 then bO (HL G N N [bJ r0,iI 0,gL (gC o3 0)]) λq4 o4=>bif bQ q4 then ae [ak (gB o4 0)]else c8 else ae [ak (gB o3 0)]else ae [ak (gB o1 0)]:aJ):=by kernel_rfl
def awd:Vq G N [bJ r0]=(bif aV (ln r0) 1 then Z8 else bif aV 2048 (ln r0)then Z8 else ae []:aJ):=by kernel_rfl
def acs:HF G N (n+1) [bJ r0,iI i1,iI i2]=(bif aV i2 (ln r0)then br i2 r0<|bO (G V5 [bJ r0,gL (aD r0 i2)]) λ_ o2=>bif !(gB o2 0)then bZ else br i2 r0<|HF G N n [bJ r0,iI (bx (i1+gI (aD r0 i2) 0)),cz i2]else aN [iI i1]:aJ):=by kernel_rfl
def VB:ca CX EE G N VP [bJ r0]=(bO (Vq G N [bJ r0]) λq1 o1=>bif bQ q1 then bO (HF G N N [bJ r0,iI 0,iI 0]) λq3 o3=>bif bQ q3 then ae [ak (gB o3 0)]else ae [ak (ck (gI o3 0) 16384)]else ae [ak (gB o1 0)]:aJ):=by kernel_rfl
def aeB:N3 G N (n+1) [aa r0,iI i1,iI i2]=(bif aV i2 (ln r0)then br i2 r0<|bif gI (aD r0 i2) 0==i1 then c8 else N3 G N n [aa r0,iI i1,cz i2]else aN []:aJ):=by kernel_rfl
def aBV:ca CX EE G N qZ [aa r0,iI i1]=(bO (N3 G N N [aa r0,iI i1,iI 0]) λq1 o1=>bif bQ q1 then ae [ak (gB o1 0)]else bZ:aJ):=by kernel_rfl
def acW:MN G N (n+1) [aa r0,iI i1,iI i2,iI i3]=(bif aV i3 (ln r0)then br i3 r0<|bif aV (gI (aD r0 i3) 0) i1 then bZ else br i3 r0<|bif aV i2 (gI (aD r0 i3) 0)then bZ else aP (ck 0 i3&&ck i3 (ln r0)&&ck (ln r0) (ln r0))<|br i3 r0<|bO (G qZ [aa (r0.take i3.toNat),iI (gI (aD r0 i3) 0)]) λ_ o1=>bif gB o1 0 then bZ else MN G N n [aa r0,iI i1,iI i2,cz i3]else aN []:aJ):=by kernel_rfl
def ayQ:ca CX EE G N ED [aa r0,iI i1,iI i2]=(bO (MN G N N [aa r0,iI i1,iI i2,iI 0]) λq2 o2=>bif bQ q2 then ae [ak (gB o2 0)]else c8:aJ):=by kernel_rfl
def ado:M9 G N (n+1) [iI i0,J l1,cD r2]=(bif aV i0 (ln (gR l1 0))then aP (lu ((r2.length+1)*24) 140737488355328)<|M9 G N n [cz i0,bK l1,cD (r2++(([[iI (-1),iI (-1),iI (-1)]]:aZ)))]else ae [bK l1,cD r2]:aJ):=by kernel_rfl
def axe:VE G N [J l0,cD r1]=(bO (M9 G N N [iI 0,bK l0,cD r1]) λ_ o1=>ae [bK (gC o1 0),cD (gR o1 1)]:aJ):=by kernel_rfl
def acr:Ed G N (n+1) [iI i0,iI i1,J l2,cD r3]=(br i0 (gR l2 3)<|bif aV i1 (ln (gR (aD (gR l2 3) i0) 1))then br i0 (gR l2 3)<|br i1 (gR (aD (gR l2 3) i0) 1)<|br (gI (aD (gR (aD (gR l2 3) i0) 1) i1) 0) r3<|aP (dw ((gI (aD (gR (aD (gR l2 3) i0) 1) i1) 0).toNat) (r3.length))<|bif ck 0 (gI (aD r3 (gI (aD (gR (aD (gR l2 3) i0) 1) i1) 0)) 0)then ae [aq,bK l2,cD r3,cD cy]else br (gI (aD (gR (aD (gR l2 3) i0) 1) i1) 0) r3<|aP (dw ((gI (aD (gR (aD (gR l2 3) i0) 1) i1) 0).toNat) (r3.length))<|Ed G N n [iI i0,cz i1,bK l2,cD (r3.set ((gI (aD (gR (aD (gR l2 3) i0) 1) i1) 0).toNat) (setAt (aD r3 (gI (aD (gR (aD (gR l2 3) i0) 1) i1) 0)) 0 [iI i0]))]else aN [bK l2,cD r3]:aJ):=by kernel_rfl
def ac0:Ek G N (n+1) [iI i0,J l1,cD r2]=(bif aV i0 (ln (gR l1 3))then br i0 (gR l1 3)<|bO (G EF [aa (gR (aD (gR l1 3) i0) 1),iI 0,iI (bx (ln (gR l1 0)- 1))]) λ_ o3=>bif !(gB o3 0)then ae [aq,bK l1,cD r2,cD cy]else bO (Ed G N N [iI i0,iI 0,bK l1,cD r2]) λq4 o4=>bif bQ q4 then ae [ak (gB o4 0),bK (gC o4 1),cD (gR o4 2),cD (gR o4 3)]else Ek G N n [cz i0,bK (gC o4 0),cD (gR o4 1)]else aN [bK l1,cD r2]:aJ):=by kernel_rfl
def adx:Ng G N [J l0,cD r1]=(bO (Ek G N N [iI 0,bK l0,cD r1]) λq5 o5=>bif bQ q5 then aN [ak (gB o5 0),bK (gC o5 1),cD (gR o5 2),cD (gR o5 3)]else ae [bK (gC o5 0),cD (gR o5 1)]:aJ):=by kernel_rfl
def ar2:TX G N [J l0,J l1]=(bif aV 8 (ln (gR l1 0))then aN [aq,bK l0,J [aa (gR l1 0),aa (gR l1 1)],cD cy]else bif aV 8 (ln (gR l1 1))then aN [aq,bK l0,J [aa (gR l1 0),aa (gR l1 1)],cD cy]else bO (G ED [aa (gR l1 0),iI 0,iI (bx (ln (gR l0 0)- 1))]) λ_ o7=>bif !(gB o7 0)then aN [aq,bK l0,J [aa (gR l1 0),aa (gR l1 1)],cD cy]else bO (G ED [aa (gR l1 1),iI 0,iI (bx (ln (gR l0 0)- 1))]) λ_ o8=>bif !(gB o8 0)then aN [aq,bK l0,J [aa (gR l1 0),aa (gR l1 1)],cD cy]else ae [bK l0,J [aa (gR l1 0),aa (gR l1 1)]]:aJ):=by kernel_rfl
def aqI:Tq G N [iI i0,iI i1,iI i2,cD r3]=(br i2 r3<|aP (dw (i2.toNat) (r3.length))<|bif gI (aD r3 i2) 1==i0 then br i2 r3<|aP (dw (i2.toNat) (r3.length))<|ae [ak (gI (aD r3 i2) 2==i1),cD r3]else ae [aq,cD r3]:aJ):=by kernel_rfl
def aqf:Th G N [iI i0,ak b1,J l2,cD r3]=(br i0 (gR l2 0)<|bif gI (aD (gR l2 0) i0) 0 != 1 then aN [aq,bK l2,cD r3,cD cy]else br i0 r3<|aP (dw (i0.toNat) (r3.length))<|bif ck 0 (gI (aD r3 i0) 0)then aN [aq,bK l2,cD r3,cD cy]else br i0 r3<|aP (dw (i0.toNat) (r3.length))<|bif ck 0 (gI (aD r3 i0) 1)then bif !b1 then aN [aq,bK l2,cD r3,cD cy]else ae [bK l2,cD r3]else ae [bK l2,cD r3]:aJ):=by kernel_rfl
def ab3:D2 G N (n+1) [iI i0,iI i1,iI i2,J l3,cD r4,aa r5]=(bif aV i2 (ln r5)then br i2 r5<|aP (dw (i2.toNat) (r5.length))<|bO (Tq G N [iI i0,iI i1,iI (gI (aD r5 i2) 0),cD r4]) λ_ cL=>bO (Th G N [iI (gI (aD r5 i2) 0),ak (gB cL 0),bK l3,cD (gR cL 1)]) λqH cP=>bif bQ qH then br (gI (aD r5 i2) 0) (gR cP 1)<|aP (dw ((gI (aD r5 i2) 0).toNat) ((gR cP 1).length))<|br (gI (aD r5 i2) 0) ((gR cP 1).set ((gI (aD r5 i2) 0).toNat) (setAt (aD (gR cP 1) (gI (aD r5 i2) 0)) 1 [iI i0]))<|aP (dw ((gI (aD r5 i2) 0).toNat) (((gR cP 1).set ((gI (aD r5 i2) 0).toNat) (setAt (aD (gR cP 1) (gI (aD r5 i2) 0)) 1 [iI i0])).length))<|D2 G N n [iI i0,iI i1,cz i2,bK (gC cP 0),cD (((gR cP 1).set ((gI (aD r5 i2) 0).toNat) (setAt (aD (gR cP 1) (gI (aD r5 i2) 0)) 1 [iI i0])).set ((gI (aD r5 i2) 0).toNat) (setAt (aD ((gR cP 1).set ((gI (aD r5 i2) 0).toNat) (setAt (aD (gR cP 1) (gI (aD r5 i2) 0)) 1 [iI i0])) (gI (aD r5 i2) 0)) 2 [iI i1])),aa r5]else ae [ak (gB cP 0),bK (gC cP 1),cD (gR cP 2),aa r5,cD (gR cP 3)]else aN [bK l3,cD r4,aa r5]:aJ):=by kernel_rfl
def acq:Bi G N (n+1) [iI i0,iI i1,J l2,cD r3]=(br i0 (gR l2 2)<|bif aV i1 (ln (gR (aD (gR l2 2) i0) 1))then br i0 (gR l2 2)<|br i1 (gR (aD (gR l2 2) i0) 1)<|bO (TX G N [bK l2,J [aa (gR (aD (gR (aD (gR l2 2) i0) 1) i1) 0),aa (gR (aD (gR (aD (gR l2 2) i0) 1) i1) 1)]]) λq9 o9=>bif bQ q9 then aP (w5 (gR (gC o9 1) 0))<|aP (yQ ((([]:aZ))++(gR (gC o9 1) 0)) (gR (gC o9 1) 1))<|bO (D2 G N N [iI i0,iI i1,iI 0,bK (gC o9 0),cD r3,aa (((([]:aZ))++(gR (gC o9 1) 0))++(gR (gC o9 1) 1))]) λpz dc=>bif bQ pz then ae [ak (gB dc 0),bK (gC dc 1),cD (gR dc 2),cD (gR dc 4)]else Bi G N n [iI i0,cz i1,bK (gC dc 0),cD (gR dc 1)]else ae [ak (gB o9 0),bK (gC o9 1),cD r3,cD (gR o9 3)]else aN [bK l2,cD r3]:aJ):=by kernel_rfl
def acZ:Ej G N (n+1) [iI i0,J l1,cD r2]=(bif aV i0 (ln (gR l1 2))then bO (Bi G N N [iI i0,iI 0,bK l1,cD r2]) λyL eV=>bif bQ yL then ae [ak (gB eV 0),bK (gC eV 1),cD (gR eV 2),cD (gR eV 3)]else Ej G N n [cz i0,bK (gC eV 0),cD (gR eV 1)]else aN [bK l1,cD r2]:aJ):=by kernel_rfl
def adw:Nf G N [J l0,cD r1]=(bO (Ej G N N [iI 0,bK l0,cD r1]) λvz c7=>bif bQ vz then aN [ak (gB c7 0),bK (gC c7 1),cD (gR c7 2),cD (gR c7 3)]else ae [bK (gC c7 0),cD (gR c7 1)]:aJ):=by kernel_rfl
def acp:HE G N (n+1) [iI i0,iI i1,J l2,cD r3]=(br i0 (gR l2 0)<|bif aV i1 (ln (gR (aD (gR l2 0) i0) 4))then br i0 (gR l2 0)<|br i1 (gR (aD (gR l2 0) i0) 4)<|br (gI (aD (gR (aD (gR l2 0) i0) 4) i1) 0) r3<|aP (dw ((gI (aD (gR (aD (gR l2 0) i0) 4) i1) 0).toNat) (r3.length))<|bif ck 0 (gI (aD r3 (gI (aD (gR (aD (gR l2 0) i0) 4) i1) 0)) 0)then ae [aq,bK l2,cD r3,cD cy]else br (gI (aD (gR (aD (gR l2 0) i0) 4) i1) 0) r3<|aP (dw ((gI (aD (gR (aD (gR l2 0) i0) 4) i1) 0).toNat) (r3.length))<|bif ck 0 (gI (aD r3 (gI (aD (gR (aD (gR l2 0) i0) 4) i1) 0)) 1)then ae [aq,bK l2,cD r3,cD cy]else HE G N n [iI i0,cz i1,bK l2,cD r3]else aN [bK l2,cD r3]:aJ):=by kernel_rfl
def acY:HS G N (n+1) [iI i0,J l1,cD r2]=(bif aV i0 (ln (gR l1 0))then bO (HE G N N [iI i0,iI 0,bK l1,cD r2]) λyK fI=>bif bQ yK then ae [ak (gB fI 0),bK (gC fI 1),cD (gR fI 2),cD (gR fI 3)]else HS G N n [cz i0,bK (gC fI 0),cD (gR fI 1)]else aN [bK l1,cD r2]:aJ):=by kernel_rfl
def azG:ca CX EE G N NV [J l0]=(bO (VE G N [bK l0,cD cy]) λ_ o2=>bO (Ng G N [bK (gC o2 0),cD (gR o2 1)]) λq6 o6=>bif bQ q6 then bO (Nf G N [bK (gC o6 0),cD (gR o6 1)]) λvv dh=>bif bQ vv then bO (HS G N N [iI 0,bK (gC dh 0),cD (gR dh 1)]) λvu dj=>bif bQ vu then ae [ak (gB dj 0),cD (gR dj 3)]else ae [cu,cD (gR dj 1)]else ae [ak (gB dh 0),cD (gR dh 3)]else ae [ak (gB o6 0),cD (gR o6 3)]:aJ):=by kernel_rfl
def VT:aeM G N [iI i0,iI i1]=(bif aV i0 1 then aN [iI (-1)]else bif aV i1 1 then aN [iI (-1)]else ae []:aJ):=by kernel_rfl
def adm:M8 G N (n+1) [iI i0,iI i1,iI i2,iI i3,J l4]=(bif aV i3 (ln (gR l4 8))then br i3 (gR l4 8)<|bO (G Oc [bR (aD (gR l4 8) i3),iI (bx (i0- i2)),iI (bx (i1- 1))]) λ_ o2=>bif aV (gI o2 0) 0 then ae [iI (-1),bR l4]else M8 G N n [iI i0,iI i1,iI (bx (i2+gI o2 0)),cz i3,bR l4]else aN [iI i2,bR l4]:aJ):=by kernel_rfl
def Wu:ca CX EE G N Oc [J l0,iI i1,iI i2]=(bO (aeM G N [iI i1,iI i2]) λq1 o1=>bif bQ q1 then bO (M8 G N N [iI i1,iI i2,iI 1,iI 0,bR l0]) λq3 o3=>bif bQ q3 then ae [iI (gI o3 0)]else ae [iI (gI o3 0)]else ae [iI (gI o1 0)]:aJ):=by kernel_rfl
def auU:UZ G N [bE i0]=(bif i0==1 then c8 else bif i0==11 then c8 else ae [ak (i0==14)]:aJ):=by kernel_rfl
def ar5:T0 G N [bE i0]=(bif i0==6 then c8 else bif i0==7 then c8 else ae [ak (i0==10)]:aJ):=by kernel_rfl
def awb:Vo G N [iI i0,J l1,J l2,aT r3]=(bO (UZ G N [bE (gI l1 0)]) λ_ o1=>bif gB o1 0 then ae [iI i0,bR l1,J (sT (nA l2) [(2,iI (gI l1 2)),(8,.aA 2)]),aT r3]else bif gI l1 0==2 then ae [iI i0,bR l1,J (sT (nA l2) [(3,iI (gI l1 3)),(4,iI (gI l1 4)),(8,.aA 2)]),aT r3]else bif gI l1 0==3 then ae [iI 1,bR l1,J (sT (nA l2) [(3,iI (gI l1 3)),(4,iI (gI l1 4)),(5,iI (gI l1 5)),(8,.aA 2)]),aT r3]else bif gI l1 0==4 then ae [iI 1,bR l1,J (sT (nA l2) [(1,bE (gI l1 1)),(8,.aA 2)]),aT r3]else bif gI l1 0==5 then ae [iI 2,bR l1,J (sT (nA l2) [(1,bE (gI l1 1)),(8,.aA 2)]),aT r3]else bO (T0 G N [bE (gI l1 0)]) λ_ o2=>bif gB o2 0 then ae [iI 2,bR l1,J (sT (nA l2) og),aT r3]else bif gI l1 0==8 then ae [iI 3,bR l1,J (sT (nA l2) og),aT r3]else bif gI l1 0==9 then ae [iI 1,bR l1,J (sT (nA l2) [(6,iI (gI l1 6)),(7,iI (gI l1 7)),(8,.aA 2)]),aT r3]else bif gI l1 0==12 then ae [iI i0,bR l1,J (sT (nA l2) [(3,iI (gI l1 3)),(8,.aA 2)]),aT r3]else bif gI l1 0==13 then ae [iI 1,bR l1,J (sT (nA l2) og),aT r3]else aN [aq,bR l1,J (sT (nA l2) og),aT r3]:aJ):=by kernel_rfl
def ayX:ca CX EE G N V6 [J l0]=(bO (Vo G N [iI 0,bR l0,J [bE (gI l0 0),bE 0,iI 0,iI 0,iI 0,iI 0,iI 0,iI 0,.aA 2],aT cy]) λq3 o3=>bif bQ q3 then bif ln (gR (gC o3 1) 8)==gI o3 0 then bif gI (gC o3 1) 1==gI (gC o3 2) 1 then bif gI (gC o3 1) 2==gI (gC o3 2) 2 then bif gI (gC o3 1) 3==gI (gC o3 2) 3 then bif gI (gC o3 1) 4==gI (gC o3 2) 4 then bif gI (gC o3 1) 5==gI (gC o3 2) 5 then bif gI (gC o3 1) 6==gI (gC o3 2) 6 then ae [ak (gI (gC o3 1) 7==gI (gC o3 2) 7)]else bZ else bZ else bZ else bZ else bZ else bZ else bZ else ae [ak (gB o3 0)]:aJ):=by kernel_rfl
def aAd:ca CX EE G N Ob [bJ r0,iI i1,iI i2]=(bif ck 0 i1 then bif aV i1 (ln r0)then bif ck 0 i2 then br i1 r0<|ae [ak (aV i2 (gI (aD r0 i1) 0))]else bZ else bZ else bZ:aJ):=by kernel_rfl
end
noncomputable section
variable {G:Nat->bp->Option UO} {N n:Nat} {i0 i1 i2 i3:Int} {l0 l1 l2 l3 l4:bp} {r0 r1 r2 r3 r4 r5:aZ}
def aAh:ca CX EE G N Oe [bJ r0,iI i1,iI i2,iI i3]=(bif ck 0 i1 then bif aV i1 (ln r0)then br i1 r0<|bif !(gB (aD r0 i1) 3)then bif ck 0 i2 then bif ck 1 i3 then br i1 r0<|bif ck i2 (gI (aD r0 i1) 0)then br i1 r0<|ae [ak (ck i3 (bx (gI (aD r0 i1) 0- i2)))]else bZ else bZ else bZ else bZ else bZ else bZ:aJ):=by kernel_rfl
def azD:ca CX EE G N vX [J l0]=(bif !(gB l0 0)then bif ck 0 (gI l0 3)then ae [ak (ck (gI l0 4) 1)]else bZ else bZ:aJ):=by kernel_rfl
def axj:VJ G N [J l0,J l1]=(bif !(gB l0 0)then ae [ak (!(gB l1 0)),cG l0,cG l1]else ae [aq,cG l0,cG l1]:aJ):=by kernel_rfl
def auW:U1 G N [bE i0]=(bif i0==1 then c8 else bif i0==2 then c8 else bif i0==3 then c8 else bif i0==4 then c8 else bif i0==5 then c8 else ae [ak (i0==6)]:aJ):=by kernel_rfl
def auV:U0 G N [bE i0]=(bif i0==7 then c8 else ae [ak (i0==8)]:aJ):=by kernel_rfl
def atQ:UD G N [bE i0]=(bif i0==9 then c8 else bif i0==10 then c8 else bif i0==11 then c8 else ae [ak (i0==12)]:aJ):=by kernel_rfl
def atP:UC G N [bE i0]=(bif i0==13 then c8 else bif i0==14 then c8 else ae [ak (i0==15)]:aJ):=by kernel_rfl
def ay0:ca CX EE G N V7 [bE i0,J l1,J l2]=(bO (VJ G N [cG l1,cG l2]) λ_ o1=>bO (U1 G N [bE i0]) λ_ o2=>bif gB o2 0 then ae [J Kw,ak (gB o1 0)]else bO (U0 G N [bE i0]) λ_ o3=>bif gB o3 0 then bif gB o1 0 then ae [J sI,cu]else bif gB (gC o1 1) 0 then bif gB (gC o1 2) 0 then ae [J sI,cu]else ae [J sI,ak (gB (gC o1 2) 1)]else bif gB (gC o1 1) 1 then bif gB (gC o1 2) 0 then ae [J sI,cu]else ae [J sI,ak (gB (gC o1 2) 1)]else ae [J sI,aq]else bO (UD G N [bE i0]) λ_ o4=>bif gB o4 0 then ae [J sI,ak (gB o1 0)]else bO (UC G N [bE i0]) λ_ o5=>bif gB o5 0 then bO (G vX [cG (gC o1 1)]) λ_ o6=>bif gB o6 0 then bO (G vX [cG (gC o1 2)]) λ_ o7=>ae [J sI,ak (gB o7 0)]else ae [J sI,aq]else ae [J pw,aq]:aJ):=by kernel_rfl
def adq:Na G N (n+1) [iI i0,iI i1,aa r2]=(bif aV i1 (ln r2)then br i1 r2<|aP (dw (i1.toNat) (r2.length))<|bif gI (aD r2 i1) 0==i0 then ae [cu,aa r2]else Na G N n [iI i0,cz i1,aa r2]else aN [aa r2]:aJ):=by kernel_rfl
def azI:ca CX EE G N NX [iI i0,aa r1]=(bO (Na G N N [iI i0,iI 0,aa r1]) λq1 o1=>bif bQ q1 then ae [ak (gB o1 0),aa (gR o1 1)]else ae [aq,aa (gR o1 0)]:aJ):=by kernel_rfl
def awa:Vn G N [J l0,J l1]=(bif gB l0 0 then ae [cu,cG l0,cG l1]else ae [ak (gB l1 0),cG l0,cG l1]:aJ):=by kernel_rfl
def asS:acD G N [iI i0,J l1,er r2,aa r3]=(br i0 r2<|aP (dw (i0.toNat) (r2.length))<|bif !(gB (aD r2 i0) 0)then br i0 r2<|aP (dw (i0.toNat) (r2.length))<|bif !(gB (aD r2 i0) 1)then aN [aq,J [aq,aq,.aA 2,iI 0,iI 0],er r2,aa cy]else ae [J (sT (eT l1) pq),er r2,aa r3]else ae [J (sT (eT l1) pq),er r2,aa r3]:aJ):=by kernel_rfl
def ar4:TZ G N [iI i0,iI i1,er r2]=(br i0 r2<|aP (dw (i0.toNat) (r2.length))<|bif gB (aD r2 i0) 0 then br i0 r2<|aP (dw (i0.toNat) (r2.length))<|bif aV i1 (ln (gR (aD r2 i0) 2))then ae [er r2]else aN [er r2]else aN [er r2]:aJ):=by kernel_rfl
def TF:Bd G N (n+1) [iI i0,iI i1,J l2,er r3,aa r4]=(bO (TZ G N [iI i0,iI i1,er r3]) λq3 o3=>bif bQ q3 then br i0 (gR o3 0)<|aP (dw (i0.toNat) ((gR o3 0).length))<|br i1 (gR (aD (gR o3 0) i0) 2)<|bO (G NX [iI (gI (aD (gR (aD (gR o3 0) i0) 2) i1) 0),aa r4]) λ_ o4=>bif !(gB o4 0)then br i0 (gR o3 0)<|aP (dw (i0.toNat) ((gR o3 0).length))<|br i1 (gR (aD (gR o3 0) i0) 2)<|aP (lu (((gR o4 1).length +1)*8) 140737488355328)<|Bd G N n [iI i0,cz i1,J (sT (eT l2) pq),er (gR o3 0),aa ((gR o4 1)++(([[iI (gI (aD (gR (aD (gR o3 0) i0) 2) i1) 0)]]:aZ)))]else Bd G N n [iI i0,cz i1,J (sT (eT l2) pq),er (gR o3 0),aa (gR o4 1)]else ae [J (sT (eT l2) pq),er (gR o3 0),aa r4]:aJ):=by kernel_rfl
def acI:Bm G N (n+1) [iI i0,J l1,J l2,er r3,aa r4,aa r5]=(bif aV i0 2 then bO (acD G N [iI i0,J (sT (eT l1) pq),er r3,aa r4]) λq2 o2=>bif bQ q2 then bO (Bd G N N [iI i0,iI 0,J (sT (eT l2) pq),er (gR o2 1),aa r5]) λ_ o5=>Bm G N n [cz i0,J (sT (eT (gC o2 0)) oe),J (sT (eT (gC o5 0)) nm),er (gR o5 1),aa (gR o2 2),aa (gR o5 2)]else ae [ak (gB o2 0),J (sT (eT (gC o2 1)) oe),J (sT (eT l2) nm),er (gR o2 2),aa (gR o2 3),aa r5]else aN [J (sT (eT l1) oe),J (sT (eT l2) nm),er r3,aa r4,aa r5]:aJ):=by kernel_rfl
def aeg:ca CX EE G N NF [J l0,J l1]=(bO (Vn G N [cG l0,cG l1]) λ_ o1=>bif gB o1 0 then bO (Bm G N N [iI 0,J [aq,aq,.aA 3,iI 0,iI 0],J [cu,aq,.aA 4,iI 0,iI 0],er (([js (gC o1 1),js (gC o1 2)]:aZ)),aa cy,aa cy]) λq6 o6=>bif bQ q6 then ae [J (sT (js (gC o6 1)) [(2,aa (gR o6 4))]),ak (gB o6 0)]else ae [J (sT (js (gC o6 1)) [(2,aa (gR o6 4))]),cu]else ae [J [aq,aq,aa cy,iI (nk (gI (gC o1 1) 3) (gI (gC o1 2) 3)),iI (imax (gI (gC o1 1) 4) (gI (gC o1 2) 4))],cu]:aJ):=by kernel_rfl
def axc:ad3 G N [J l0,J l1,aa r2]=(bif !(gB l0 0)then bif !(gB l0 1)then aN [aq,cG l0,J [aq,aq,.aA 2,iI 0,iI 0],aa cy]else ae [cG l0,J (sT (eT l1) pq),aa r2]else ae [cG l0,J (sT (eT l1) pq),aa r2]:aJ):=by kernel_rfl
def acG:Ee G N (n+1) [bJ r0,iI i1,J l2,J l3,aa r4]=(bif aV i1 (ln (gR l2 2))then br i1 (gR l2 2)<|br (gI (aD (gR l2 2) i1) 0) r0<|bif i1==0 then Ee G N n [bJ r0,cz i1,cG l2,J [ak (gB l3 0),ak (gB l3 1),.aA 2,iI (nk (gI (aD r0 (gI (aD (gR l2 2) i1) 0)) 1) (gI (aD r0 (gI (aD (gR l2 2) i1) 0)) 1)),iI (imax (gI (aD r0 (gI (aD (gR l2 2) i1) 0)) 2) (gI (aD r0 (gI (aD (gR l2 2) i1) 0)) 2))],aa r4]else Ee G N n [bJ r0,cz i1,cG l2,J [ak (gB l3 0),ak (gB l3 1),.aA 2,iI (nk (gI l3 3) (gI (aD r0 (gI (aD (gR l2 2) i1) 0)) 1)),iI (imax (gI l3 4) (gI (aD r0 (gI (aD (gR l2 2) i1) 0)) 2))],aa r4]else ae [cG l2,J (sT (eT l3) pq),aa r4]:aJ):=by kernel_rfl
def ayR:ca CX EE G N V4 [bJ r0,J l1]=(bO (ad3 G N [cG l1,J [aq,aq,.aA 2,iI 0,iI 0],aa cy]) λq1 o1=>bif bQ q1 then bO (Ee G N N [bJ r0,iI 0,cG (gC o1 0),J [aq,aq,.aA 2,iI 0,iI 0],aa cy]) λ_ o2=>ae [J (sT (eT (gC o2 1)) qD),cu,aa (gR o2 2)]else ae [J (sT (eT (gC o1 2)) qD),ak (gB o1 0),aa (gR o1 3)]:aJ):=by kernel_rfl
def av5:Vi G N [iI i0,J l1,J l2,er r3,J l4]=(bif gI l2 0==10 then bif i0==1 then aP (lu ((0+(gR l1 1).length)*48) 140737488355328)<|aP (aV 0 (ln r3))<|aP (dw 0 (r3.length))<|aP (lu ((((([]:aZ))++(gR l1 1)).length +(([js (gA r3 0)]:aZ)).length)*48) 140737488355328)<|ae [mC l1,bR l2,er r3,J [bJ (gR l4 0),er (((([]:aZ))++(gR l1 1))++(([js (gA r3 0)]:aZ))),iI (gI l4 2)]]else ae [mC l1,bR l2,er r3,mC l4]else ae [mC l1,bR l2,er r3,mC l4]:aJ):=by kernel_rfl
def adl:vW G N (n+1) [iI i0,J l1,J l2,J l3,er r4,aa r5]=(bif aV i0 (ln (gR l2 8))then bO (Vi G N [iI i0,mC l1,bR l2,er r4,mC l1]) λ_ o2=>br i0 (gR (gC o2 1) 8)<|bO (G Iw [mC (gC o2 3),bR (aD (gR (gC o2 1) 8) i0)]) λ_ o3=>bif !(gB o3 1)then ae [aq,mC (gC o2 0),bR (gC o2 1),J [aq,aq,.aA 3,iI 0,iI 0],aa cy]else aP (lu (((gR o2 2).length +1)*48) 140737488355328)<|vW G N n [cz i0,mC (gC o2 0),bR (gC o2 1),J (sT (eT l3) nm),er ((gR o2 2)++(([js (gC o3 0)]:aZ))),aa r5]else aN [mC l1,bR l2,J (sT (eT l3) nm),er r4,aa r5]:aJ):=by kernel_rfl
def ax7:Nu G N [J l0,J l1,J l2,er r3,aa r4]=(bO (vW G N N [iI 0,mC l0,bR l1,J (sT (eT l2) nm),er r3,aa r4]) λq4 o4=>bif bQ q4 then aN [ak (gB o4 0),mC (gC o4 1),bR (gC o4 2),J (sT (eT (gC o4 3)) oe),aa (gR o4 4)]else ae [mC (gC o4 0),bR (gC o4 1),J (sT (eT (gC o4 2)) nm),er (gR o4 3),aa (gR o4 4)]:aJ):=by kernel_rfl
def atM:Uz G N [bE i0]=(bif i0==6 then c8 else ae [ak (i0==7)]:aJ):=by kernel_rfl
def aqH:Tp G N [J l0,J l1]=(bif ck 0 (gI l1 3)then bif aV (gI l1 3) (ln (gR l0 0))then br (gI l1 3) (gR l0 0)<|bif !(gB (aD (gR l0 0) (gI l1 3)) 3)then br (gI l1 3) (gR l0 0)<|ae [ak (gI (aD (gR l0 0) (gI l1 3)) 0==1),mC l0,bR l1]else ae [aq,mC l0,bR l1]else ae [aq,mC l0,bR l1]else ae [aq,mC l0,bR l1]:aJ):=by kernel_rfl
def Wt:ca CX EE G N Iw [J l0,J l1]=(bO (G V6 [bR l1]) λ_ o1=>bif !(gB o1 0)then ae [J pw,aq]else bO (Nu G N [mC l0,bR l1,J [aq,aq,.aA 4,iI 0,iI 0],er cy,aa cy]) λq5 o5=>bif bQ q5 then bif gI (gC o5 1) 0==1 then bif ck (-2147483648) (gI (gC o5 1) 2)then ae [J [aq,ak (gI (gC o5 1) 2==0),aa cy,iI (gI (gC o5 1) 2),iI (gI (gC o5 1) 2)],ak (ck (gI (gC o5 1) 2) 2147483647)]else ae [J [aq,ak (gI (gC o5 1) 2==0),aa cy,iI (gI (gC o5 1) 2),iI (gI (gC o5 1) 2)],aq]else bif gI (gC o5 1) 0==2 then bO (G Ob [bJ (gR (gC o5 0) 0),iI (gI (gC o5 1) 3),iI (gI (gC o5 1) 4)]) λ_ o6=>bif !(gB o6 0)then ae [J pw,aq]else br (gI (gC o5 1) 3) (gR (gC o5 0) 0)<|ae [J [ak (gB (aD (gR (gC o5 0) 0) (gI (gC o5 1) 3)) 3),aq,aa (gR (aD (gR (gC o5 0) 0) (gI (gC o5 1) 3)) 4),iI (gI (aD (gR (gC o5 0) 0) (gI (gC o5 1) 3)) 1),iI (gI (aD (gR (gC o5 0) 0) (gI (gC o5 1) 3)) 2)],cu]else bif gI (gC o5 1) 0==3 then bO (G Oe [bJ (gR (gC o5 0) 0),iI (gI (gC o5 1) 3),iI (gI (gC o5 1) 4),iI (gI (gC o5 1) 5)]) λ_ o7=>bif !(gB o7 0)then ae [J pw,aq]else br (gI (gC o5 1) 3) (gR (gC o5 0) 0)<|br (gI (gC o5 1) 3) (gR (gC o5 0) 0)<|aP (aV 0 (ln (gR o5 3)))<|aP (dw 0 ((gR o5 3).length))<|ae [J [aq,aq,aa cy,iI (gI (aD (gR (gC o5 0) 0) (gI (gC o5 1) 3)) 1),iI (gI (aD (gR (gC o5 0) 0) (gI (gC o5 1) 3)) 2)],ak (!(gB (gA (gR o5 3) 0) 0))]else bif gI (gC o5 1) 0==4 then bif gI (gC o5 1) 1==18 then aP (aV 0 (ln (gR o5 3)))<|aP (dw 0 ((gR o5 3).length))<|bO (G vX [cG (gA (gR o5 3) 0)]) λ_ o8=>ae [J sI,ak (gB o8 0)]else bif gI (gC o5 1) 1==16 then aP (aV 0 (ln (gR o5 3)))<|aP (dw 0 ((gR o5 3).length))<|ae [J Kw,ak (!(gB (gA (gR o5 3) 0) 0))]else bif gI (gC o5 1) 1==17 then aP (aV 0 (ln (gR o5 3)))<|aP (dw 0 ((gR o5 3).length))<|ae [J Kw,ak (!(gB (gA (gR o5 3) 0) 0))]else ae [J Kw,aq]else bif gI (gC o5 1) 0==5 then aP (aV 0 (ln (gR o5 3)))<|aP (dw 0 ((gR o5 3).length))<|aP (aV 1 (ln (gR o5 3)))<|aP (dw 1 ((gR o5 3).length))<|bO (G V7 [bE (gI (gC o5 1) 1),cG (gA (gR o5 3) 0),cG (gA (gR o5 3) 1)]) λ_ o9=>ae [cG (gC o9 0),ak (gB o9 1)]else bO (Uz G N [bE (gI (gC o5 1) 0)]) λ_ cL=>bif gB cL 0 then aP (aV 0 (ln (gR o5 3)))<|aP (dw 0 ((gR o5 3).length))<|bO (G vX [cG (gA (gR o5 3) 0)]) λ_ cP=>bif gB cP 0 then aP (aV 1 (ln (gR o5 3)))<|aP (dw 1 ((gR o5 3).length))<|bO (G vX [cG (gA (gR o5 3) 1)]) λ_ dc=>ae [J sI,ak (gB dc 0)]else ae [J sI,aq]else bif gI (gC o5 1) 0==8 then aP (aV 1 (ln (gR o5 3)))<|aP (dw 1 ((gR o5 3).length))<|aP (aV 2 (ln (gR o5 3)))<|aP (dw 2 ((gR o5 3).length))<|bO (G NF [cG (gA (gR o5 3) 1),cG (gA (gR o5 3) 2)]) λ_ eV=>bif gB eV 1 then aP (aV 0 (ln (gR o5 3)))<|aP (dw 0 ((gR o5 3).length))<|bO (G vX [cG (gA (gR o5 3) 0)]) λ_ c7=>ae [cG (gC eV 0),ak (gB c7 0)]else ae [cG (gC eV 0),aq]else bif gI (gC o5 1) 0==9 then bif ck (-2147483648) (gI (gC o5 1) 6)then bif ck (gI (gC o5 1) 7) 2147483647 then bif ck (gI (gC o5 1) 6) (gI (gC o5 1) 7)then aP (aV 0 (ln (gR o5 3)))<|aP (dw 0 ((gR o5 3).length))<|ae [J [aq,aq,aa cy,iI (gI (gC o5 1) 6),iI (gI (gC o5 1) 7)],ak (!(gB (gA (gR o5 3) 0) 0))]else ae [J [aq,aq,aa cy,iI (gI (gC o5 1) 6),iI (gI (gC o5 1) 7)],aq]else ae [J [aq,aq,aa cy,iI (gI (gC o5 1) 6),iI (gI (gC o5 1) 7)],aq]else ae [J [aq,aq,aa cy,iI (gI (gC o5 1) 6),iI (gI (gC o5 1) 7)],aq]else bif gI (gC o5 1) 0==10 then aP (aV 1 (ln (gR o5 3)))<|aP (dw 1 ((gR o5 3).length))<|ae [J (sT (js (gA (gR o5 3) 1)) [(1,aq)]),cu]else bif gI (gC o5 1) 0==11 then bif aV (gI (gC o5 1) 2) 0 then ae [J pw,aq]else bif ck (ln (gR (gC o5 0) 1)) (gI (gC o5 1) 2)then ae [J pw,aq]else br (bx ((bx ((ln (gR (gC o5 0) 1))- 1))- gI (gC o5 1) 2)) (gR (gC o5 0) 1)<|ae [J (sT (js (aD (gR (gC o5 0) 1) (bx ((bx ((ln (gR (gC o5 0) 1))- 1))- gI (gC o5 1) 2)))) [(1,aq)]),cu]else bif gI (gC o5 1) 0==12 then bO (Tp G N [mC (gC o5 0),bR (gC o5 1)]) λ_ dh=>ae [J [cu,aq,aa (([[iI (gI (gC dh 2) 3)]]:aZ)),iI 0,iI 0],ak (gB dh 0)]else bif gI (gC o5 1) 0==13 then aP (aV 0 (ln (gR o5 3)))<|aP (dw 0 ((gR o5 3).length))<|bO (G V4 [bJ (gR (gC o5 0) 0),cG (gA (gR o5 3) 0)]) λ_ fI=>ae [J (sT (js (gC fI 0)) [(2,aa (gR fI 2))]),ak (gB fI 1)]else bif ck 0 (gI (gC o5 1) 2)then ae [J RF,ak (aV (gI (gC o5 1) 2) (gI (gC o5 0) 2))]else ae [J RF,aq]else ae [J (sT (js (gC o5 3)) [(2,aa (gR o5 4))]),ak (gB o5 0)]:aJ):=by kernel_rfl
def agm:ca CX EE G N BX [J l0,J l1]=(bO (G Oc [bR l1,iI 256,iI 64]) λ_ o1=>bif aV (gI o1 0) 0 then ae [J pw,aq]else bO (G Iw [mC l0,bR l1]) λ_ o2=>ae [cG (gC o2 0),ak (gB o2 1)]:aJ):=by kernel_rfl
def auX:U2 G N [bE i0]=(bif i0==1 then c8 else bif i0==14 then c8 else bif i0==6 then c8 else ae [ak (i0==7)]:aJ):=by kernel_rfl
def awc:Vp G N [bJ r0,aa r1,J l2]=(bO (U2 G N [bE (gI l2 0)]) λ_ o1=>bif gB o1 0 then ae [bR l2]else bif gI l2 0==2 then bO (G qZ [aa r1,iI (gI l2 3)]) λ_ o2=>bif !(gB o2 0)then aN [aq,bR l2]else br (gI l2 3) r0<|bif gB (aD r0 (gI l2 3)) 3 then aN [aq,bR l2]else ae [bR l2]else bif gI l2 0==4 then bif gI l2 1 != 18 then aN [aq,bR l2]else ae [bR l2]else bif gI l2 0==5 then bif aV (gI l2 1) 7 then aN [aq,bR l2]else bif aV 15 (gI l2 1)then aN [aq,bR l2]else ae [bR l2]else aN [aq,bR l2]:aJ):=by kernel_rfl
def acJ:MB G N (n+1) [bJ r0,aa r1,iI i2,J l3]=(bif aV i2 (ln (gR l3 8))then br i2 (gR l3 8)<|bO (G HZ [bJ r0,aa r1,bR (aD (gR l3 8) i2)]) λ_ o4=>bif !(gB o4 0)then ae [aq,bR l3]else MB G N n [bJ r0,aa r1,cz i2,bR l3]else aN [bR l3]:aJ):=by kernel_rfl
def ad0:ca CX EE G N HZ [bJ r0,aa r1,J l2]=(bO (Vp G N [bJ r0,aa r1,bR l2]) λq3 o3=>bif bQ q3 then bO (MB G N N [bJ r0,aa r1,iI 0,bR (gC o3 0)]) λq5 o5=>bif bQ q5 then ae [ak (gB o5 0)]else c8 else ae [ak (gB o3 0)]:aJ):=by kernel_rfl
def ar3:TY G N [bE i0]=(bif i0==8 then c8 else ae [ak (i0==10)]:aJ):=by kernel_rfl
def aqJ:Tr G N [bE i0]=(bif i0==12 then c8 else ae [ak (i0==13)]:aJ):=by kernel_rfl
end
noncomputable section
variable {G:Nat->bp->Option UO} {N n:Nat} {b3:Bool} {i0 i1 i2:Int} {l0 l1 l2 l3 l4 l5:bp} {r0 r2 r3 r4 r5 r6 r7 r8 r9 ey fx fw fv fa:aZ}
def axg:VG G N [iI i0,iI i1,iI i2,ak b3,J l4,J l5,aT r6,aT r7,bH r8,bH r9,aa ey,bD fx,c5 fw,cZ fv,cQ fa]=(bif gI l4 0==1 then ae [iI i0,iI i1,iI i2,ak b3,aw l4,J (sT (fk l5) mw),aT r6,aT r7,bH r8,bH r9,aa ey,bD fx,c5 fw,cZ fv,cQ fa]else bif gI l4 0==2 then ae [iI 1,iI 1,iI i2,ak b3,aw l4,J (sT (fk l5) mw),aT r6,aT r7,bH r8,bH r9,aa ey,bD fx,c5 fw,cZ fv,cQ fa]else bif gI l4 0==3 then ae [iI i0,iI i1,iI (-1),ak b3,aw l4,J (sT (fk l5) mw),aT r6,aT r7,bH r8,bH r9,aa ey,bD fx,c5 fw,cZ fv,cQ fa]else bif gI l4 0==4 then ae [iI 1,iI i1,iI 2,ak b3,aw l4,J (sT (fk l5) mw),aT r6,aT r7,bH r8,bH r9,aa ey,bD fx,c5 fw,cZ fv,cQ fa]else bif gI l4 0==5 then ae [iI 1,iI i1,iI 1,ak b3,aw l4,J (sT (fk l5) mw),aT r6,aT r7,bH r8,bH r9,aa ey,bD fx,c5 fw,cZ fv,cQ fa]else bif gI l4 0==6 then ae [iI 2,iI i1,iI 1,ak b3,aw l4,J [bE (gI l5 0),iI (gI l5 1),iI (gI l4 2),iI (gI l5 3),iI (gI l5 4),iI (gI l5 5),ak (gB l5 6),ak (gB l4 7),ak (gB l5 8),ak (gB l5 9),ak (gB l5 10),bE (gI l5 11),.aA 2,.aA 3,.aA 4,.aA 5,.aA 6,.aA 7,.aA 8,.aA 9,.aA 10],aT r6,aT r7,bH r8,bH r9,aa ey,bD fx,c5 fw,cZ fv,cQ fa]else bif gI l4 0==7 then ae [iI i0,iI i1,iI 1,ak b3,aw l4,J (sT (fk l5) [(1,iI (gI l4 1)),(12,.aA 2),(13,.aA 3),(14,.aA 4),(15,.aA 5),(16,.aA 6),(17,.aA 7),(18,.aA 8),(19,.aA 9),(20,.aA 10)]),aT r6,aT r7,bH r8,bH r9,aa ey,bD fx,c5 fw,cZ fv,cQ fa]else bO (TY G N [bE (gI l4 0)]) λ_ o1=>bif gB o1 0 then ae [iI i0,iI i1,iI i2,ak b3,aw l4,J (sT (fk l5) [(1,iI (gI l4 1)),(12,.aA 2),(13,.aA 3),(14,.aA 4),(15,.aA 5),(16,.aA 6),(17,.aA 7),(18,.aA 8),(19,.aA 9),(20,.aA 10)]),aT r6,aT r7,bH r8,bH r9,aa ey,bD fx,c5 fw,cZ fv,cQ fa]else bif gI l4 0==9 then ae [iI i0,iI i1,iI 1,cu,aw l4,J (sT (fk l5) mw),aT r6,aT r7,bH r8,bH r9,aa ey,bD fx,c5 fw,cZ fv,cQ fa]else bif gI l4 0==11 then ae [iI 1,iI i1,iI i2,ak b3,aw l4,J (sT (fk l5) mw),aT r6,aT r7,bH r8,bH r9,aa ey,bD fx,c5 fw,cZ fv,cQ fa]else bO (Tr G N [bE (gI l4 0)]) λ_ o2=>bif gB o2 0 then ae [iI i0,iI 1,iI i2,ak b3,aw l4,J (sT (fk l5) mw),aT r6,aT r7,bH r8,bH r9,aa ey,bD fx,c5 fw,cZ fv,cQ fa]else bif gI l4 0==14 then bif gB l4 6 then ae [iI i0,iI 1,iI i2,ak b3,aw l4,J [bE (gI l5 0),iI (gI l5 1),iI (gI l5 2),iI (gI l5 3),iI (gI l4 4),iI (gI l4 5),ak (gB l4 6),ak (gB l5 7),ak (gB l5 8),ak (gB l5 9),ak (gB l5 10),bE (gI l5 11),.aA 2,.aA 3,.aA 4,.aA 5,.aA 6,.aA 7,.aA 8,.aA 9,.aA 10],aT r6,aT r7,bH r8,bH r9,aa ey,bD fx,c5 fw,cZ fv,cQ fa]else ae [iI i0,iI 1,iI i2,ak b3,aw l4,J [bE (gI l5 0),iI (gI l5 1),iI (gI l5 2),iI (gI l5 3),iI (gI l5 4),iI (gI l4 5),ak (gB l4 6),ak (gB l5 7),ak (gB l5 8),ak (gB l5 9),ak (gB l5 10),bE (gI l5 11),.aA 2,.aA 3,.aA 4,.aA 5,.aA 6,.aA 7,.aA 8,.aA 9,.aA 10],aT r6,aT r7,bH r8,bH r9,aa ey,bD fx,c5 fw,cZ fv,cQ fa]else bif gI l4 0==15 then ae [iI 1,iI i1,iI i2,ak b3,aw l4,J (sT (fk l5) [(8,ak (gB l4 8)),(12,.aA 2),(13,.aA 3),(14,.aA 4),(15,.aA 5),(16,.aA 6),(17,.aA 7),(18,.aA 8),(19,.aA 9),(20,.aA 10)]),aT r6,aT r7,bH r8,bH r9,aa ey,bD fx,c5 fw,cZ fv,cQ fa]else bif gI l4 0==16 then ae [iI (-1),iI i1,iI 2,ak b3,aw l4,J [bE (gI l5 0),iI (gI l5 1),iI (gI l5 2),iI (gI l4 3),iI (gI l5 4),iI (gI l4 5),ak (gB l5 6),ak (gB l5 7),ak (gB l5 8),ak (gB l5 9),ak (gB l5 10),bE (gI l4 11),.aA 2,.aA 3,.aA 4,.aA 5,.aA 6,.aA 7,.aA 8,.aA 9,.aA 10],aT r6,aT r7,bH r8,bH r9,aa ey,bD fx,c5 fw,cZ fv,cQ fa]else bif gI l4 0==17 then ae [iI (-1),iI i1,iI 3,ak b3,aw l4,J [bE (gI l5 0),iI (gI l5 1),iI (gI l5 2),iI (gI l5 3),iI (gI l4 4),iI (gI l4 5),ak (gB l5 6),ak (gB l5 7),ak (gB l5 8),ak (gB l5 9),ak (gB l5 10),bE (gI l4 11),.aA 2,.aA 3,.aA 4,.aA 5,.aA 6,.aA 7,.aA 8,.aA 9,.aA 10],aT r6,aT r7,bH r8,bH r9,aa ey,bD fx,c5 fw,cZ fv,cQ fa]else bif gI l4 0==18 then ae [iI i0,iI i1,iI 2,ak b3,aw l4,J (sT (fk l5) [(5,iI (gI l4 5)),(12,.aA 2),(13,.aA 3),(14,.aA 4),(15,.aA 5),(16,.aA 6),(17,.aA 7),(18,.aA 8),(19,.aA 9),(20,.aA 10)]),aT r6,aT r7,bH r8,bH r9,aa ey,bD fx,c5 fw,cZ fv,cQ fa]else bif gI l4 0==19 then ae [iI i0,iI i1,iI 1,cu,aw l4,J (sT (fk l5) [(9,ak (gB l4 9)),(12,.aA 2),(13,.aA 3),(14,.aA 4),(15,.aA 5),(16,.aA 6),(17,.aA 7),(18,.aA 8),(19,.aA 9),(20,.aA 10)]),aT r6,aT r7,bH r8,bH r9,aa ey,bD fx,c5 fw,cZ fv,cQ fa]else bif gI l4 0==20 then ae [iI i0,iI i1,iI 1,ak b3,aw l4,J (sT (fk l5) [(4,iI (gI l4 4)),(12,.aA 2),(13,.aA 3),(14,.aA 4),(15,.aA 5),(16,.aA 6),(17,.aA 7),(18,.aA 8),(19,.aA 9),(20,.aA 10)]),aT r6,aT r7,bH r8,bH r9,aa ey,bD fx,c5 fw,cZ fv,cQ fa]else bif gI l4 0==21 then ae [iI i0,iI i1,iI i2,ak b3,aw l4,J [bE (gI l5 0),iI (gI l5 1),iI (gI l5 2),iI (gI l4 3),iI (gI l5 4),iI (gI l4 5),ak (gB l5 6),ak (gB l5 7),ak (gB l5 8),ak (gB l5 9),ak (gB l4 10),bE (gI l5 11),.aA 2,.aA 3,.aA 4,.aA 5,.aA 6,.aA 7,.aA 8,.aA 9,.aA 10],aT r6,aT r7,bH r8,bH r9,aa ey,bD fx,c5 fw,cZ fv,cQ fa]else bif gI l4 0==22 then ae [iI i0,iI i1,iI i2,cu,aw l4,J (sT (fk l5) mw),aT r6,aT r7,bH r8,bH r9,aa ey,bD fx,c5 fw,cZ fv,cQ fa]else aN [aq,aw l4,J (sT (fk l5) mw),aT r6,aT r7,bH r8,bH r9,aa ey,bD fx,c5 fw,cZ fv,cQ fa]:aJ):=by kernel_rfl
def av9:Vm G N [J l0,J l1,aT r2,aT r3,bH r4,bH r5,aa r6,bD r7,c5 r8,cZ r9,cQ ey]=(bif gI l0 1 != gI l1 1 then aN [aq,aw l0,J (sT (fk l1) mw),aT r2,aT r3,bH r4,bH r5,aa r6,bD r7,c5 r8,cZ r9,cQ ey]else bif gI l0 2 != gI l1 2 then aN [aq,aw l0,J (sT (fk l1) mw),aT r2,aT r3,bH r4,bH r5,aa r6,bD r7,c5 r8,cZ r9,cQ ey]else bif gI l0 3 != gI l1 3 then aN [aq,aw l0,J (sT (fk l1) mw),aT r2,aT r3,bH r4,bH r5,aa r6,bD r7,c5 r8,cZ r9,cQ ey]else bif gI l0 4 != gI l1 4 then aN [aq,aw l0,J (sT (fk l1) mw),aT r2,aT r3,bH r4,bH r5,aa r6,bD r7,c5 r8,cZ r9,cQ ey]else bif gI l0 5 != gI l1 5 then aN [aq,aw l0,J (sT (fk l1) mw),aT r2,aT r3,bH r4,bH r5,aa r6,bD r7,c5 r8,cZ r9,cQ ey]else bif !((gB l0 6)==(gB l1 6))then aN [aq,aw l0,J (sT (fk l1) mw),aT r2,aT r3,bH r4,bH r5,aa r6,bD r7,c5 r8,cZ r9,cQ ey]else bif !((gB l0 7)==(gB l1 7))then aN [aq,aw l0,J (sT (fk l1) mw),aT r2,aT r3,bH r4,bH r5,aa r6,bD r7,c5 r8,cZ r9,cQ ey]else bif !((gB l0 8)==(gB l1 8))then aN [aq,aw l0,J (sT (fk l1) mw),aT r2,aT r3,bH r4,bH r5,aa r6,bD r7,c5 r8,cZ r9,cQ ey]else bif !((gB l0 9)==(gB l1 9))then aN [aq,aw l0,J (sT (fk l1) mw),aT r2,aT r3,bH r4,bH r5,aa r6,bD r7,c5 r8,cZ r9,cQ ey]else bif !((gB l0 10)==(gB l1 10))then aN [aq,aw l0,J (sT (fk l1) mw),aT r2,aT r3,bH r4,bH r5,aa r6,bD r7,c5 r8,cZ r9,cQ ey]else bif gI l0 11 != gI l1 11 then aN [aq,aw l0,J (sT (fk l1) mw),aT r2,aT r3,bH r4,bH r5,aa r6,bD r7,c5 r8,cZ r9,cQ ey]else ae [aw l0,J (sT (fk l1) mw),aT r2,aT r3,bH r4,bH r5,aa r6,bD r7,c5 r8,cZ r9,cQ ey]:aJ):=by kernel_rfl
def av8:Vl G N [iI i0,iI i1,iI i2,J l3]=(bif ck 0 i0 then bif ln (gR l3 12) != i0 then aN [aq,aw l3]else bif ln (gR l3 14) != i1 then aN [aq,aw l3]else bif ck 0 i2 then bif ln (gR l3 17) != i2 then aN [aq,aw l3]else ae [aw l3]else ae [aw l3]else bif ln (gR l3 14) != i1 then aN [aq,aw l3]else bif ck 0 i2 then bif ln (gR l3 17) != i2 then aN [aq,aw l3]else ae [aw l3]else ae [aw l3]:aJ):=by kernel_rfl
def av7:Vk G N [J l0]=(bif gI l0 0 != 16 then bif aV 0 (ln (gR l0 13))then aN [aq,aw l0]else bif aV 0 (ln (gR l0 15))then aN [aq,aw l0]else ae [aw l0]else ae [aw l0]:aJ):=by kernel_rfl
def auR:UW G N [J l0]=(bif gI l0 0 != 9 then bif aV 0 (ln (gR l0 18))then aN [aq,aw l0]else bif aV 0 (ln (gR l0 19))then aN [aq,aw l0]else bif gI l0 0 != 19 then bif aV 0 (ln (gR l0 20))then aN [aq,aw l0]else ae [aw l0]else ae [aw l0]else bif gI l0 0 != 19 then bif aV 0 (ln (gR l0 20))then aN [aq,aw l0]else ae [aw l0]else ae [aw l0]:aJ):=by kernel_rfl
def azH:ca CX EE G N NW [J l0]=(bO (VG G N [iI 0,iI 0,iI 0,aq,aw l0,J [bE (gI l0 0),iI 0,iI 0,iI 0,iI 0,iI 0,aq,aq,aq,aq,aq,bE 0,.aA 2,.aA 3,.aA 4,.aA 5,.aA 6,.aA 7,.aA 8,.aA 9,.aA 10],aT cy,aT cy,bH cy,bH cy,aa cy,bD cy,c5 cy,cZ cy,cQ cy]) λq3 o3=>bif bQ q3 then bO (Vm G N [aw (gC o3 4),J (sT (fk (gC o3 5)) mw),aT (gR o3 6),aT (gR o3 7),bH (gR o3 8),bH (gR o3 9),aa (gR o3 10),bD (gR o3 11),c5 (gR o3 12),cZ (gR o3 13),cQ (gR o3 14)]) λq4 o4=>bif bQ q4 then bO (Vl G N [iI (gI o3 0),iI (gI o3 1),iI (gI o3 2),aw (gC o4 0)]) λq5 o5=>bif bQ q5 then bO (Vk G N [aw (gC o5 0)]) λq6 o6=>bif bQ q6 then bO (UW G N [aw (gC o6 0)]) λq7 o7=>bif bQ q7 then bif gB o3 3 then bif gI (gC o7 0) 0 != 19 then c8 else ae [ak (ln (gR (gC o7 0) 16)==0)]else ae [ak (ln (gR (gC o7 0) 16)==0)]else ae [ak (gB o7 0)]else ae [ak (gB o6 0)]else ae [ak (gB o5 0)]else ae [ak (gB o4 0)]else ae [ak (gB o3 0)]:aJ):=by kernel_rfl
def axi:VI G N [J l0]=(bif gI l0 0==16 then aN [cu,aw l0]else bif gI l0 0==17 then aN [cu,aw l0]else bif gI l0 0==18 then aN [cu,aw l0]else bif gI l0 0==19 then aN [cu,aw l0]else bif gI l0 0==15 then aN [cu,aw l0]else bif gI l0 0==11 then aN [cu,aw l0]else bif gI l0 0==12 then aN [cu,aw l0]else bif gI l0 0==22 then aN [cu,aw l0]else bif gI l0 0==21 then aN [cu,aw l0]else ae [aw l0]:aJ):=by kernel_rfl
def ayZ:ca CX EE G N NG [J l0]=(bO (VI G N [aw l0]) λq1 o1=>bif bQ q1 then bif gI (gC o1 0) 0==9 then ae [ak (aV 0 (ln (gR (gC o1 0) 16)))]else bZ else ae [ak (gB o1 0)]:aJ):=by kernel_rfl
def asW:Uo G N [J l0,J l1]=(bif aV 0 (ln (gR l0 9))then bO (G NG [aw l1]) λ_ o1=>bif gB o1 0 then aN [aq,bI l0,aw l1]else ae [bI l0,aw l1]else ae [bI l0,aw l1]:aJ):=by kernel_rfl
def ar7:T2 G N [J l0,J l1]=(bif gB l0 11 then bif gI l1 0==18 then aN [aq,bI l0,aw l1]else bif gI l1 0==19 then aN [aq,bI l0,aw l1]else bif gI l1 0==21 then aN [aq,bI l0,aw l1]else ae [bI l0,aw l1]else bif gB l0 12 then bif gI l1 0==18 then aN [aq,bI l0,aw l1]else bif gI l1 0==19 then aN [aq,bI l0,aw l1]else bif gI l1 0==21 then aN [aq,bI l0,aw l1]else ae [bI l0,aw l1]else ae [bI l0,aw l1]:aJ):=by kernel_rfl
def au7:ca CX EE G N UP [J l0,J l1]=(bO (Uo G N [bI l0,aw l1]) λq2 o2=>bif bQ q2 then bO (T2 G N [bI (gC o2 0),aw (gC o2 1)]) λq3 o3=>bif bQ q3 then bif !(gB (gC o3 0) 12)then c8 else bO (G NG [aw (gC o3 1)]) λ_ o4=>bif !(gB o4 0)then c8 else bif gI (gC o3 1) 0==11 then c8 else ae [ak (gI (gC o3 1) 0==12)]else ae [ak (gB o3 0)]else ae [ak (gB o2 0)]:aJ):=by kernel_rfl
def axl:VL G N [iI i0,J l1,J l2,aT r3]=(bif gI l1 0==1 then ae [iI i0,ev l1,J [bE (gI l2 0),iI (gI l1 1),iI (gI l1 2),iI (gI l2 3),.aA 2],aT r3]else bif gI l1 0==2 then ae [iI 1,ev l1,J (sT (ov l1) [(0,bE (gI l2 0)),(4,.aA 2)]),aT r3]else bif gI l1 0==3 then ae [iI 1,ev l1,J (sT (ov l2) aaO),aT r3]else aN [aq,ev l1,J (sT (ov l2) Gv),aa cy,aT r3]:aJ):=by kernel_rfl
def axk:VK G N [iI i0,J l1,J l2,aT r3]=(bif ln (gR l1 4) != i0 then aN [aq,ev l1,J (sT (ov l2) Gv),aa cy,aT r3]else bif gI l1 1 != gI l2 1 then aN [aq,ev l1,J (sT (ov l2) Gv),aa cy,aT r3]else bif gI l1 2 != gI l2 2 then aN [aq,ev l1,J (sT (ov l2) Gv),aa cy,aT r3]else bif gI l1 3 != gI l2 3 then aN [aq,ev l1,J (sT (ov l2) Gv),aa cy,aT r3]else ae [ev l1,J (sT (ov l2) aaO),aT r3]:aJ):=by kernel_rfl
def azK:ca CX EE G N zr [bJ r0,J l1]=(bO (VL G N [iI 0,ev l1,J [bE (gI l1 0),iI 0,iI 0,iI 0,.aA 2],aT cy]) λq1 o1=>bif bQ q1 then bO (VK G N [iI (gI o1 0),ev (gC o1 1),J (sT (ov (gC o1 2)) aaO),aT (gR o1 3)]) λq2 o2=>bif bQ q2 then bif gI (gC o2 0) 0==1 then bO (G Ob [bJ r0,iI (gI (gC o2 0) 1),iI (gI (gC o2 0) 2)]) λ_ o3=>ae [aa (([[iI (gI (gC o2 0) 1)]]:aZ)),ak (gB o3 0)]else aP (aV 0 (ln (gR (gC o2 0) 4)))<|bO (G BX [J [bJ r0,er ([]),iI (-1)],bR (gA (gR (gC o2 0) 4) 0)]) λ_ o4=>bif gI (gC o2 0) 0==2 then bif gB o4 1 then bif !(gB (gC o4 0) 0)then bO (G Oe [bJ r0,iI (gI (gC o2 0) 1),iI (gI (gC o2 0) 2),iI (gI (gC o2 0) 3)]) λ_ o5=>ae [aa (([[iI (gI (gC o2 0) 1)]]:aZ)),ak (gB o5 0)]else ae [aa (([[iI (gI (gC o2 0) 1)]]:aZ)),aq]else ae [aa (([[iI (gI (gC o2 0) 1)]]:aZ)),aq]else bif gB o4 1 then bif gB (gC o4 0) 0 then ae [aa (gR (gC o4 0) 2),cu]else ae [aa (gR (gC o4 0) 2),ak (gB (gC o4 0) 1)]else ae [aa (gR (gC o4 0) 2),aq]else ae [aa (gR o2 3),ak (gB o2 0)]else ae [aa (gR o1 3),ak (gB o1 0)]:aJ):=by kernel_rfl
def ayc:ca CX EE G N Es [J l0,iI i1]=(br i1 (gR l0 4)<|bif ck 0 (gI (aD (gR l0 4) i1) 0)then bO (G qZ [aa (gR l0 9),iI (gI (aD (gR l0 4) i1) 0)]) λ_ o1=>ae [ak (gB o1 0)]else bif aV (gI (aD (gR l0 4) i1) 1) 0 then c8 else bif gI (aD (gR l0 4) i1) 1==gI l0 5 then bO (G qZ [aa (gR l0 8),iI (gI (aD (gR l0 4) i1) 2)]) λ_ o2=>ae [ak (gB o2 0)]else bZ:aJ):=by kernel_rfl
def auZ:adi G N [J l0,J l1]=(bif gI l1 0==2 then bO (G Es [bI l0,iI (gI l1 3)]) λ_ o1=>bif !(gB o1 0)then aN [aq,bI l0,bR l1]else ae [bI l0,bR l1]else bif gI l1 0==3 then bO (G Es [bI l0,iI (gI l1 3)]) λ_ o2=>bif !(gB o2 0)then aN [aq,bI l0,bR l1]else ae [bI l0,bR l1]else ae [bI l0,bR l1]:aJ):=by kernel_rfl
def Uf:acU G N [J l0,J l1]=(bif gI l1 0==12 then br (gI l1 3) (gR l0 4)<|bif ck 0 (gI (aD (gR l0 4) (gI l1 3)) 0)then aN [aq,bI l0,bR l1]else br (gI l1 3) (gR l0 4)<|bif ck 0 (gI (aD (gR l0 4) (gI l1 3)) 1)then aN [aq,bI l0,bR l1]else ae [bI l0,bR l1]else ae [bI l0,bR l1]:aJ):=by kernel_rfl
end
noncomputable section
variable {G:Nat->bp->Option UO} {N n:Nat} {i0 i1 i2:Int} {l0 l1 l2 l3 l4:bp} {r0 r1:aZ}
def acd:Hz G N (n+1) [iI i0,J l1,J l2]=(bif aV i0 (ln (gR l2 8))then br i0 (gR l2 8)<|bO (G uF [bI l1,bR (aD (gR l2 8) i0)]) λ_ o5=>bif !(gB o5 0)then ae [aq,bI l1,bR l2]else Hz G N n [cz i0,bI l1,bR l2]else aN [bI l1,bR l2]:aJ):=by kernel_rfl
def axo:ca CX EE G N uF [J l0,J l1]=(bO (adi G N [bI l0,bR l1]) λq3 o3=>bif bQ q3 then bO (acU G N [bI (gC o3 0),bR (gC o3 1)]) λq4 o4=>bif bQ q4 then bO (Hz G N N [iI 0,bI (gC o4 0),bR (gC o4 1)]) λq6 o6=>bif bQ q6 then ae [ak (gB o6 0)]else c8 else ae [ak (gB o4 0)]else ae [ak (gB o3 0)]:aJ):=by kernel_rfl
def ab6:Mh G N (n+1) [iI i0,J l1,J l2]=(bif aV i0 (ln (gR l2 4))then br i0 (gR l2 4)<|bO (G uF [bI l1,bR (aD (gR l2 4) i0)]) λ_ o2=>bif !(gB o2 0)then ae [aq,bI l1,ev l2,aa cy]else Mh G N n [cz i0,bI l1,ev l2]else aN [bI l1,ev l2]:aJ):=by kernel_rfl
def asX:Up G N [J l0,J l1]=(bO (Mh G N N [iI 0,bI l0,ev l1]) λq3 o3=>bif bQ q3 then aN [ak (gB o3 0),bI (gC o3 1),ev (gC o3 2),aa (gR o3 3)]else ae [bI (gC o3 0),ev (gC o3 1)]:aJ):=by kernel_rfl
def ab5:Hw G N (n+1) [aa r0,iI i1,J l2,J l3]=(bif aV i1 (ln r0)then br i1 r0<|bO (G qZ [aa (gR l2 10),iI (gI (aD r0 i1) 0)]) λ_ o5=>bif gB o5 0 then ae [aq,bI l2,ev l3,aa cy]else bif gI l3 0 != 3 then br i1 r0<|bO (G Es [bI l2,iI (gI (aD r0 i1) 0)]) λ_ o6=>bif !(gB o6 0)then ae [aq,bI l2,ev l3,aa cy]else Hw G N n [aa r0,cz i1,bI l2,ev l3]else Hw G N n [aa r0,cz i1,bI l2,ev l3]else aN [bI l2,ev l3]:aJ):=by kernel_rfl
def adg:ca CX EE G N Bs [J l0,J l1]=(bO (G zr [bJ (gR l0 0),ev l1]) λ_ o1=>bif !(gB o1 1)then ae [aa cy,aq]else bO (Up G N [bI l0,ev l1]) λq4 o4=>bif bQ q4 then bO (Hw G N N [aa (gR o1 0),iI 0,bI (gC o4 0),ev (gC o4 1)]) λq7 o7=>bif bQ q7 then ae [aa (gR o7 3),ak (gB o7 0)]else ae [aa (gR o1 0),cu]else ae [aa (gR o4 3),ak (gB o4 0)]:aJ):=by kernel_rfl
def adC:ca CX EE G N Bu [J l0,J l1]=(bO (G BX [J [bJ (gR l0 0),er ([]),iI (-1)],bR l1]) λ_ o1=>bif gB o1 1 then bO (G uF [bI l0,bR l1]) λ_ o2=>ae [cG (gC o1 0),ak (gB o2 0)]else ae [cG (gC o1 0),aq]:aJ):=by kernel_rfl
def acX:MO G N (n+1) [aa r0,aa r1,iI i2]=(bif aV i2 (ln r0)then br i2 r0<|bO (G qZ [aa r1,iI (gI (aD r0 i2) 0)]) λ_ o1=>bif !(gB o1 0)then bZ else MO G N n [aa r0,aa r1,cz i2]else aN []:aJ):=by kernel_rfl
def ayS:ca CX EE G N Ib [aa r0,aa r1]=(bO (MO G N N [aa r0,aa r1,iI 0]) λq2 o2=>bif bQ q2 then ae [ak (gB o2 0)]else c8:aJ):=by kernel_rfl
def aAg:ca CX EE G N WL [J l0,J l1]=(bif gB l0 3 then bif gB l1 1 then c8 else bif gB l1 0 then bO (G Ib [aa (gR l1 2),aa (gR l0 4)]) λ_ o1=>ae [ak (gB o1 0)]else bZ else bif !(gB l1 0)then bif ck (gI l0 1) (gI l1 3)then ae [ak (ck (gI l1 4) (gI l0 2))]else bZ else bZ:aJ):=by kernel_rfl
def at2:ca CX EE G N Bh [J l0,J l1,iI i2]=(bO (G Bu [bI l0,bR l1]) λ_ o1=>bif gB o1 1 then br i2 (gR l0 0)<|bO (G WL [gL (aD (gR l0 0) i2),cG (gC o1 0)]) λ_ o2=>ae [ak (gB o2 0)]else bZ:aJ):=by kernel_rfl
def acu:Mu G N (n+1) [aa r0,iI i1,J l2,J l3]=(bif aV i1 (ln r0)then aP (aV 0 (ln (gR l3 12)))<|br i1 r0<|bO (G Bh [bI l2,bR (gA (gR l3 12) 0),iI (gI (aD r0 i1) 0)]) λ_ o3=>bif !(gB o3 0)then ae [aq,bI l2,aw l3]else Mu G N n [aa r0,cz i1,bI l2,aw l3]else aN [bI l2,aw l3]:aJ):=by kernel_rfl
def ad1:ca CX EE G N VQ [J l0,J l1]=(aP (aV 0 (ln (gR l1 14)))<|bO (G Bs [bI l0,ev (gA (gR l1 14) 0)]) λ_ o1=>bif !(gB o1 1)then bZ else aP (aV 0 (ln (gR l1 12)))<|bO (G Bu [bI l0,bR (gA (gR l1 12) 0)]) λ_ o2=>bO (Mu G N N [aa (gR o1 0),iI 0,bI l0,aw l1]) λq4 o4=>bif bQ q4 then ae [ak (gB o4 0)]else ae [ak (gB o2 1)]:aJ):=by kernel_rfl
def ab7:ca CX EE G N Bb [J l0,J l1]=(bO (G Bu [bI l0,bR l1]) λ_ o1=>bif gB o1 1 then bO (G vX [cG (gC o1 0)]) λ_ o2=>ae [ak (gB o2 0)]else bZ:aJ):=by kernel_rfl
def acS:ca CX EE G N xq [J l0,J l1]=(bO (G Bu [bI l0,bR l1]) λ_ o1=>bif gB o1 1 then ae [ak (!(gB (gC o1 0) 0))]else bZ:aJ):=by kernel_rfl
def Ug:ca CX EE G N HB [J l0,J l1]=(bO (G Bs [bI l0,ev l1]) λ_ o1=>bif gB o1 1 then bif gI l1 0 != 3 then aP (aV 0 (ln (gR o1 0)))<|br (gI (gA (gR o1 0) 0) 0) (gR l0 0)<|ae [ak (!(gB (aD (gR l0 0) (gI (gA (gR o1 0) 0) 0)) 3))]else bZ else bZ:aJ):=by kernel_rfl
def awn:ca CX EE G N Ei [J l0,iI i1,iI i2]=(bif ck 0 i1 then bif aV i1 (ln (gR l0 2))then bif ck 0 i2 then br i1 (gR l0 2)<|ae [ak (aV i2 (ln (gR (aD (gR l0 2) i1) 1)))]else bZ else bZ else bZ:aJ):=by kernel_rfl
def axb:Nb G N (n+1) [aT r0,aT r1,iI i2]=(bif aV i2 (ln r0)then br i2 r0<|br i2 r1<|bO (G adJ [bR (aD r0 i2),bR (aD r1 i2)]) λ_ o1=>bif !(gB o1 0)then bZ else Nb G N n [aT r0,aT r1,cz i2]else aN []:aJ):=by kernel_rfl
def azJ:ca CX EE G N EP [aT r0,aT r1]=(bif ln r0 != ln r1 then bZ else bO (Nb G N N [aT r0,aT r1,iI 0]) λq2 o2=>bif bQ q2 then ae [ak (gB o2 0)]else c8:aJ):=by kernel_rfl
def av4:MP G N (n+1) [bH r0,bH r1,iI i2]=(bif aV i2 (ln r0)then br i2 r0<|br i2 r1<|bif gI (aD r0 i2) 0 != gI (aD r1 i2) 0 then bZ else br i2 r0<|br i2 r1<|bif gI (aD r0 i2) 1 != gI (aD r1 i2) 1 then bZ else br i2 r0<|br i2 r1<|bif gI (aD r0 i2) 2 != gI (aD r1 i2) 2 then bZ else br i2 r0<|br i2 r1<|bif gI (aD r0 i2) 3 != gI (aD r1 i2) 3 then bZ else br i2 r0<|br i2 r1<|bO (G EP [aT (gR (aD r0 i2) 4),aT (gR (aD r1 i2) 4)]) λ_ o1=>bif !(gB o1 0)then bZ else MP G N n [bH r0,bH r1,cz i2]else aN []:aJ):=by kernel_rfl
def ayU:ca CX EE G N ND [bH r0,bH r1]=(bif ln r0 != ln r1 then bZ else bO (MP G N N [bH r0,bH r1,iI 0]) λq2 o2=>bif bQ q2 then ae [ak (gB o2 0)]else c8:aJ):=by kernel_rfl
def ax6:Nr G N (n+1) [aa r0,aa r1,iI i2]=(bif aV i2 (ln r0)then br i2 r0<|br i2 r1<|bif gI (aD r0 i2) 0 != gI (aD r1 i2) 0 then bZ else Nr G N n [aa r0,aa r1,cz i2]else aN []:aJ):=by kernel_rfl
def aAf:ca CX EE G N Od [aa r0,aa r1]=(bif ln r0 != ln r1 then bZ else bO (Nr G N N [aa r0,aa r1,iI 0]) λq1 o1=>bif bQ q1 then ae [ak (gB o1 0)]else c8:aJ):=by kernel_rfl
def axa:M7 G N (n+1) [bD r0,bD r1,iI i2]=(bif aV i2 (ln r0)then br i2 r0<|br i2 r1<|bO (G mX [aw (aD r0 i2),aw (aD r1 i2)]) λ_ o1=>bif !(gB o1 0)then bZ else M7 G N n [bD r0,bD r1,cz i2]else aN []:aJ):=by kernel_rfl
def azE:ca CX EE G N Wm [bD r0,bD r1]=(bif ln r0 != ln r1 then bZ else bO (M7 G N N [bD r0,bD r1,iI 0]) λq2 o2=>bif bQ q2 then ae [ak (gB o2 0)]else c8:aJ):=by kernel_rfl
def auY:U3 G N [J l0,J l1]=(bif gI l0 0 != gI l1 0 then aN [aq,aw l0,aw l1]else bif gI l0 1 != gI l1 1 then aN [aq,aw l0,aw l1]else bif gI l0 2 != gI l1 2 then aN [aq,aw l0,aw l1]else bif gI l0 3 != gI l1 3 then aN [aq,aw l0,aw l1]else bif gI l0 4 != gI l1 4 then aN [aq,aw l0,aw l1]else bif gI l0 5 != gI l1 5 then aN [aq,aw l0,aw l1]else bif !((gB l0 6)==(gB l1 6))then aN [aq,aw l0,aw l1]else bif !((gB l0 7)==(gB l1 7))then aN [aq,aw l0,aw l1]else bif !((gB l0 8)==(gB l1 8))then aN [aq,aw l0,aw l1]else bif !((gB l0 9)==(gB l1 9))then aN [aq,aw l0,aw l1]else bif !((gB l0 10)==(gB l1 10))then aN [aq,aw l0,aw l1]else bif gI l0 11 != gI l1 11 then aN [aq,aw l0,aw l1]else ae [aw l0,aw l1]:aJ):=by kernel_rfl
def atU:UG G N [J l0,J l1]=(bO (G EP [aT (gR l0 12),aT (gR l1 12)]) λ_ o2=>bif !(gB o2 0)then aN [aq,aw l0,aw l1]else bO (G EP [aT (gR l0 13),aT (gR l1 13)]) λ_ o3=>bif !(gB o3 0)then aN [aq,aw l0,aw l1]else bO (G ND [bH (gR l0 14),bH (gR l1 14)]) λ_ o4=>bif !(gB o4 0)then aN [aq,aw l0,aw l1]else bO (G ND [bH (gR l0 15),bH (gR l1 15)]) λ_ o5=>bif !(gB o5 0)then aN [aq,aw l0,aw l1]else bO (G Od [aa (gR l0 16),aa (gR l1 16)]) λ_ o6=>bif !(gB o6 0)then aN [aq,aw l0,aw l1]else bO (G Wm [bD (gR l0 17),bD (gR l1 17)]) λ_ o7=>bif !(gB o7 0)then aN [aq,aw l0,aw l1]else ae [aw l0,aw l1]:aJ):=by kernel_rfl
def atT:UF G N [J l0,J l1]=(bif ln (gR l0 18) != ln (gR l1 18)then aN [aq,aw l0,aw l1]else bif ln (gR l0 19) != ln (gR l1 19)then aN [aq,aw l0,aw l1]else bif ln (gR l0 20) != ln (gR l1 20)then aN [aq,aw l0,aw l1]else ae [aw l0,aw l1]:aJ):=by kernel_rfl
def asP:Mo G N (n+1) [iI i0,J l1,J l2]=(bif aV i0 (ln (gR l1 18))then br i0 (gR l1 18)<|br i0 (gR l2 18)<|bO (G mX [aw (aD (gR l1 18) i0),aw (aD (gR l2 18) i0)]) λ_ cL=>bif !(gB cL 0)then ae [aq,aw l1,aw l2]else br i0 (gR l1 18)<|br i0 (gR l2 18)<|bO (G mX [J (cO dD 21 (aD (gR l1 18) i0)),J (cO dD 21 (aD (gR l2 18) i0))]) λ_ cP=>bif !(gB cP 0)then ae [aq,aw l1,aw l2]else Mo G N n [cz i0,aw l1,aw l2]else aN [aw l1,aw l2]:aJ):=by kernel_rfl
def atS:UE G N [J l0,J l1]=(bO (Mo G N N [iI 0,aw l0,aw l1]) λpz dc=>bif bQ pz then aN [ak (gB dc 0),aw (gC dc 1),aw (gC dc 2)]else ae [aw (gC dc 0),aw (gC dc 1)]:aJ):=by kernel_rfl
def asO:Mn G N (n+1) [iI i0,J l1,J l2]=(bif aV i0 (ln (gR l1 19))then br i0 (gR l1 19)<|br i0 (gR l2 19)<|bO (G Od [aa (gR (aD (gR l1 19) i0) 0),aa (gR (aD (gR l2 19) i0) 0)]) λ_ c7=>bif !(gB c7 0)then ae [aq,aw l1,aw l2]else br i0 (gR l1 19)<|br i0 (gR l2 19)<|bO (G mX [J (cO dD 1 (aD (gR l1 19) i0)),J (cO dD 1 (aD (gR l2 19) i0))]) λ_ dh=>bif !(gB dh 0)then ae [aq,aw l1,aw l2]else Mn G N n [cz i0,aw l1,aw l2]else aN [aw l1,aw l2]:aJ):=by kernel_rfl
def asT:Ul G N [J l0,J l1]=(bO (Mn G N N [iI 0,aw l0,aw l1]) λyK fI=>bif bQ yK then aN [ak (gB fI 0),aw (gC fI 1),aw (gC fI 2)]else ae [aw (gC fI 0),aw (gC fI 1)]:aJ):=by kernel_rfl
def ar1:Mg G N (n+1) [iI i0,J l1,J l2]=(bif aV i0 (ln (gR l1 20))then br i0 (gR l1 20)<|br i0 (gR l2 20)<|bif gI (aD (gR l1 20) i0) 0 != gI (aD (gR l2 20) i0) 0 then ae [aq,aw l1,aw l2]else bif gI (aD (gR l1 20) i0) 10 != gI (aD (gR l2 20) i0) 10 then ae [aq,aw l1,aw l2]else bO (G adJ [J (cO Bx 1 (aD (gR l1 20) i0)),J (cO Bx 1 (aD (gR l2 20) i0))]) λ_ fW=>bif !(gB fW 0)then ae [aq,aw l1,aw l2]else bO (G EP [aT (gR (aD (gR l1 20) i0) 11),aT (gR (aD (gR l2 20) i0) 11)]) λ_ gZ=>bif !(gB gZ 0)then ae [aq,aw l1,aw l2]else bO (G mX [J (cO dD 12 (aD (gR l1 20) i0)),J (cO dD 12 (aD (gR l2 20) i0))]) λ_ rG=>bif !(gB rG 0)then ae [aq,aw l1,aw l2]else bO (G mX [J (cO dD 33 (aD (gR l1 20) i0)),J (cO dD 33 (aD (gR l2 20) i0))]) λ_ iP=>bif !(gB iP 0)then ae [aq,aw l1,aw l2]else Mg G N n [cz i0,aw l1,aw l2]else aN [aw l1,aw l2]:aJ):=by kernel_rfl
def axn:ca CX EE G N mX [J l0,J l1]=(bO (U3 G N [aw l0,aw l1]) λq1 o1=>bif bQ q1 then bO (UG G N [aw (gC o1 0),aw (gC o1 1)]) λq8 o8=>bif bQ q8 then bO (UF G N [aw (gC o8 0),aw (gC o8 1)]) λq9 o9=>bif bQ q9 then bO (UE G N [aw (gC o9 0),aw (gC o9 1)]) λyL eV=>bif bQ yL then bO (Ul G N [aw (gC eV 0),aw (gC eV 1)]) λvu dj=>bif bQ vu then bO (Mg G N N [iI 0,aw (gC dj 0),aw (gC dj 1)]) λq22 vE=>bif bQ q22 then ae [ak (gB vE 0)]else c8 else ae [ak (gB dj 0)]else ae [ak (gB eV 0)]else ae [ak (gB o9 0)]else ae [ak (gB o8 0)]else ae [ak (gB o1 0)]:aJ):=by kernel_rfl
def asV:Un G N [iI i0,J l1]=(bif gI l1 11==2 then ae [iI 1,aw l1]else bif gI l1 11==3 then ae [iI 1,aw l1]else ae [iI i0,aw l1]:aJ):=by kernel_rfl
def asU:Um G N [iI i0,iI i1,J l2]=(bif aV 3 (gI l2 11)then aN [aq,aw l2]else bif ln (gR l2 12) != i1 then aN [aq,aw l2]else bif ln (gR l2 17) != i0 then aN [aq,aw l2]else ae [aw l2]:aJ):=by kernel_rfl
def ab4:zk G N (n+1) [iI i0,iI i1,J l2]=(bif aV i1 i0 then bif gI l2 11==0 then br i1 (gR l2 17)<|bO (G mX [aw (aD (gR l2 17) i1),J rD]) λ_ o4=>bif !(gB o4 0)then ae [aq,aw l2]else zk G N n [iI i0,cz i1,aw l2]else zk G N n [iI i0,cz i1,aw l2]else aN [aw l2]:aJ):=by kernel_rfl
def awl:ca CX EE G N Eg [J l0,J l1,iI i2]=(bO (Un G N [iI 0,aw l1]) λ_ o1=>bO (Um G N [iI i2,iI (gI o1 0),aw (gC o1 1)]) λq2 o2=>bif bQ q2 then bif gI o1 0==1 then aP (aV 0 (ln (gR (gC o2 0) 12)))<|bO (G xq [bI l0,bR (gA (gR (gC o2 0) 12) 0)]) λ_ o3=>bif !(gB o3 0)then bZ else bO (zk G N N [iI i2,iI (bx (i2- 2)),aw (gC o2 0)]) λq5 o5=>bif bQ q5 then ae [ak (gB o5 0)]else c8 else bO (zk G N N [iI i2,iI (bx (i2- 2)),aw (gC o2 0)]) λq6 o6=>bif bQ q6 then ae [ak (gB o6 0)]else c8 else ae [ak (gB o2 0)]:aJ):=by kernel_rfl
def ayW:ca CX EE G N Ic [J l0,J l1]=(bif gB l0 3 then bif gB l0 3 then bif gB l1 3 then bO (G Ib [aa (gR l0 4),aa (gR l1 4)]) λ_ o1=>ae [ak (gB o1 0)]else bZ else bZ else bif gB l1 3 then bif gB l0 3 then bif gB l1 3 then bO (G Ib [aa (gR l0 4),aa (gR l1 4)]) λ_ o2=>ae [ak (gB o2 0)]else bZ else bZ else bif ck (gI l1 1) (gI l0 1)then ae [ak (ck (gI l0 2) (gI l1 2))]else bZ:aJ):=by kernel_rfl
def au0:U4 G N [J l0,J l1]=(bif gI l1 3==gI l0 5 then aN [aq,bI l0,aw l1]else bO (G Ei [bI l0,iI (gI l1 3),iI (gI l1 5)]) λ_ o1=>bif !(gB o1 0)then aN [aq,bI l0,aw l1]else ae [bI l0,aw l1]:aJ):=by kernel_rfl
def atW:Mv G N [J l0,J l1]=(bif ln (gR l0 13) != ln (gR l1 0)then aN [aq,aw l0,J [aa (gR l1 0),aa (gR l1 1)]]else bif ln (gR l0 15) != ln (gR l1 1)then aN [aq,aw l0,J [aa (gR l1 0),aa (gR l1 1)]]else ae [aw l0,J [aa (gR l1 0),aa (gR l1 1)]]:aJ):=by kernel_rfl
def ace:Mp G N (n+1) [iI i0,J l1,J l2,J l3]=(bif aV i0 (ln (gR l2 13))then br i0 (gR l2 13)<|br i0 (gR l3 0)<|bO (G Bh [bI l1,bR (aD (gR l2 13) i0),iI (gI (aD (gR l3 0) i0) 0)]) λ_ o4=>bif !(gB o4 0)then ae [aq,bI l1,aw l2,J [aa (gR l3 0),aa (gR l3 1)]]else Mp G N n [cz i0,bI l1,aw l2,J [aa (gR l3 0),aa (gR l3 1)]]else aN [bI l1,aw l2,J [aa (gR l3 0),aa (gR l3 1)]]:aJ):=by kernel_rfl
def atV:UH G N [J l0,J l1,J l2]=(bO (Mp G N N [iI 0,bI l0,aw l1,J [aa (gR l2 0),aa (gR l2 1)]]) λq5 o5=>bif bQ q5 then aN [ak (gB o5 0),bI (gC o5 1),aw (gC o5 2),J [aa (gR (gC o5 3) 0),aa (gR (gC o5 3) 1)]]else ae [bI (gC o5 0),aw (gC o5 1),J [aa (gR (gC o5 2) 0),aa (gR (gC o5 2) 1)]]:aJ):=by kernel_rfl
def abI:L0 G N (n+1) [iI i0,aa r1,iI i2,J l3,J l4]=(bif aV i2 (ln r1)then br i0 (gR l4 1)<|br (gI (aD (gR l4 1) i0) 0) (gR l3 0)<|br i2 r1<|br (gI (aD r1 i2) 0) (gR l3 0)<|bO (G Ic [gL (aD (gR l3 0) (gI (aD (gR l4 1) i0) 0)),gL (aD (gR l3 0) (gI (aD r1 i2) 0))]) λ_ o8=>bif !(gB o8 0)then ae [aq,bI l3,J [aa (gR l4 0),aa (gR l4 1)]]else L0 G N n [iI i0,aa r1,cz i2,bI l3,J [aa (gR l4 0),aa (gR l4 1)]]else aN [bI l3,J [aa (gR l4 0),aa (gR l4 1)]]:aJ):=by kernel_rfl
end
noncomputable section
variable {G:Nat->bp->Option UO} {N n:Nat} {i0 i1 i2 i3 i4:Int} {l0 l1 l2 l3 l4 l5 l6:bp} {r2 r3 r4:aZ}
def TW:D7 G N (n+1) [iI i0,J l1,J l2,J l3]=(bif aV i0 (ln (gR l2 15))then br i0 (gR l2 15)<|bO (G Bs [bI l1,ev (aD (gR l2 15) i0)]) λ_ o7=>bif !(gB o7 1)then ae [aq,bI l1,aw l2,J [aa (gR l3 0),aa (gR l3 1)]]else bO (L0 G N N [iI i0,aa (gR o7 0),iI 0,bI l1,J [aa (gR l3 0),aa (gR l3 1)]]) λq9 o9=>bif bQ q9 then ae [ak (gB o9 0),bI (gC o9 1),aw l2,J [aa (gR (gC o9 2) 0),aa (gR (gC o9 2) 1)]]else D7 G N n [cz i0,bI (gC o9 0),aw l2,J [aa (gR (gC o9 1) 0),aa (gR (gC o9 1) 1)]]else aN [bI l1,aw l2,J [aa (gR l3 0),aa (gR l3 1)]]:aJ):=by kernel_rfl
def adD:ca CX EE G N M3 [J l0,J l1]=(bO (U4 G N [bI l0,aw l1]) λq2 o2=>bif bQ q2 then br (gI (gC o2 1) 3) (gR (gC o2 0) 2)<|br (gI (gC o2 1) 5) (gR (aD (gR (gC o2 0) 2) (gI (gC o2 1) 3)) 1)<|bO (Mv G N [aw (gC o2 1),J [aa (gR (aD (gR (aD (gR (gC o2 0) 2) (gI (gC o2 1) 3)) 1) (gI (gC o2 1) 5)) 0),aa (gR (aD (gR (aD (gR (gC o2 0) 2) (gI (gC o2 1) 3)) 1) (gI (gC o2 1) 5)) 1)]]) λq3 o3=>bif bQ q3 then bO (UH G N [bI (gC o2 0),aw (gC o3 0),J [aa (gR (gC o3 1) 0),aa (gR (gC o3 1) 1)]]) λq6 o6=>bif bQ q6 then bO (D7 G N N [iI 0,bI (gC o6 0),aw (gC o6 1),J [aa (gR (gC o6 2) 0),aa (gR (gC o6 2) 1)]]) λmy cL=>bif bQ my then ae [ak (gB cL 0)]else c8 else ae [ak (gB o6 0)]else ae [ak (gB o3 0)]else ae [ak (gB o2 0)]:aJ):=by kernel_rfl
def ayb:ca CX EE G N Er [J l0,iI i1]=(bO (G Ei [bI l0,iI (gI l0 5),iI i1]) λ_ o1=>bif gB o1 0 then bO (G qZ [aa (gR l0 8),iI i1]) λ_ o2=>ae [ak (!(gB o2 0))]else bZ:aJ):=by kernel_rfl
def ar8:T3 G N [J l0,J l1]=(bif aV (gI l0 14) 0 then aN [aq,bI l0,aw l1]else bO (G Ei [bI l0,iI (gI l1 3),iI (gI l1 5)]) λ_ o1=>bif !(gB o1 0)then aN [aq,bI l0,aw l1]else bif gI l1 3==gI l0 5 then bif gI l1 5==gI l0 14 then aN [aq,bI l0,aw l1]else ae [bI l0,aw l1]else ae [bI l0,aw l1]:aJ):=by kernel_rfl
def arf:TJ G N [J l0]=(bif ln (gR l0 0)==0 then bif ln (gR l0 1)==0 then aN [cu,J [aa (gR l0 0),aa (gR l0 1)]]else ae [J [aa (gR l0 0),aa (gR l0 1)]]else ae [J [aa (gR l0 0),aa (gR l0 1)]]:aJ):=by kernel_rfl
def are:TH G N [J l0,J l1]=(bif ln (gR l0 0) != ln (gR l1 0)then aN [aq,J [aa (gR l0 0),aa (gR l0 1)],J [aa (gR l1 0),aa (gR l1 1)]]else bif ln (gR l0 1) != ln (gR l1 1)then aN [aq,J [aa (gR l0 0),aa (gR l0 1)],J [aa (gR l1 0),aa (gR l1 1)]]else ae [J [aa (gR l0 0),aa (gR l0 1)],J [aa (gR l1 0),aa (gR l1 1)]]:aJ):=by kernel_rfl
def abA:DW G N (n+1) [iI i0,J l1,aa r2,aa r3]=(bif aV i0 (ln r2)then br i0 r2<|aP (dw (i0.toNat) (r2.length))<|br (gI (aD r2 i0) 0) (gR l1 0)<|br i0 r3<|aP (dw (i0.toNat) (r3.length))<|br (gI (aD r3 i0) 0) (gR l1 0)<|bO (G Ic [gL (aD (gR l1 0) (gI (aD r2 i0) 0)),gL (aD (gR l1 0) (gI (aD r3 i0) 0))]) λ_ o5=>bif !(gB o5 0)then ae [aq,bI l1,aa r2,aa r3]else br i0 r3<|aP (dw (i0.toNat) (r3.length))<|br (gI (aD r3 i0) 0) (gR l1 0)<|br i0 r2<|aP (dw (i0.toNat) (r2.length))<|br (gI (aD r2 i0) 0) (gR l1 0)<|bO (G Ic [gL (aD (gR l1 0) (gI (aD r3 i0) 0)),gL (aD (gR l1 0) (gI (aD r2 i0) 0))]) λ_ o6=>bif !(gB o6 0)then ae [aq,bI l1,aa r2,aa r3]else DW G N n [cz i0,bI l1,aa r2,aa r3]else aN [bI l1,aa r2,aa r3]:aJ):=by kernel_rfl
def acx:ca CX EE G N Us [J l0,J l1]=(bO (T3 G N [bI l0,aw l1]) λq2 o2=>bif bQ q2 then br (gI (gC o2 0) 5) (gR (gC o2 0) 2)<|br (gI (gC o2 0) 14) (gR (aD (gR (gC o2 0) 2) (gI (gC o2 0) 5)) 1)<|br (gI (gC o2 1) 3) (gR (gC o2 0) 2)<|br (gI (gC o2 1) 5) (gR (aD (gR (gC o2 0) 2) (gI (gC o2 1) 3)) 1)<|bO (TJ G N [J [aa (gR (aD (gR (aD (gR (gC o2 0) 2) (gI (gC o2 1) 3)) 1) (gI (gC o2 1) 5)) 0),aa (gR (aD (gR (aD (gR (gC o2 0) 2) (gI (gC o2 1) 3)) 1) (gI (gC o2 1) 5)) 1)]]) λq3 o3=>bif bQ q3 then bO (TH G N [J [aa (gR (aD (gR (aD (gR (gC o2 0) 2) (gI (gC o2 0) 5)) 1) (gI (gC o2 0) 14)) 0),aa (gR (aD (gR (aD (gR (gC o2 0) 2) (gI (gC o2 0) 5)) 1) (gI (gC o2 0) 14)) 1)],J [aa (gR (gC o3 0) 0),aa (gR (gC o3 0) 1)]]) λq4 o4=>bif bQ q4 then aP (w5 (gR (gC o4 0) 0))<|aP (yQ ((([]:aZ))++(gR (gC o4 0) 0)) (gR (gC o4 0) 1))<|aP (w5 (gR (gC o4 1) 0))<|aP (yQ ((([]:aZ))++(gR (gC o4 1) 0)) (gR (gC o4 1) 1))<|bO (DW G N N [iI 0,bI (gC o2 0),aa (((([]:aZ))++(gR (gC o4 0) 0))++(gR (gC o4 0) 1)),aa (((([]:aZ))++(gR (gC o4 1) 0))++(gR (gC o4 1) 1))]) λq7 o7=>bif bQ q7 then ae [ak (gB o7 0)]else c8 else ae [ak (gB o4 0)]else ae [ak (gB o3 0)]else ae [ak (gB o2 0)]:aJ):=by kernel_rfl
def aqg:Ti G N [J l0,J l1]=(bif aV (gI l1 2) 0 then aN [aq,bI l0,aw l1]else bif ck (ln (gR l0 0)) (gI l1 2)then aN [aq,bI l0,aw l1]else br (gI l1 2) (gR l0 0)<|bif gB (aD (gR l0 0) (gI l1 2)) 3 then aN [aq,bI l0,aw l1]else br (gI l1 2) (gR l0 0)<|bif gI (aD (gR l0 0) (gI l1 2)) 0 != 1 then aN [aq,bI l0,aw l1]else bO (G Es [bI l0,iI (gI l1 2)]) λ_ o4=>bif !(gB o4 0)then aN [aq,bI l0,aw l1]else bO (G qZ [aa (gR l0 10),iI (gI l1 2)]) λ_ o5=>bif gB o5 0 then aN [aq,bI l0,aw l1]else ae [bI l0,aw l1]:aJ):=by kernel_rfl
def apW:Ta G N [bE i0]=(bif i0==11 then c8 else ae [ak (i0==15)]:aJ):=by kernel_rfl
def apJ:S5 G N [bE i0]=(bif i0==12 then c8 else ae [ak (i0==13)]:aJ):=by kernel_rfl
def tw:ca CX EE G N xp [J l0,J l1]=(bif gI l1 0==2 then bO (G VQ [bI l0,aw l1]) λ_ o1=>ae [ak (gB o1 0)]else bif gI l1 0==4 then aP (aV 0 (ln (gR l1 12)))<|bO (G Bb [bI l0,bR (gA (gR l1 12) 0)]) λ_ o2=>ae [ak (gB o2 0)]else bif gI l1 0==5 then aP (aV 0 (ln (gR l1 12)))<|bO (G Bb [bI l0,bR (gA (gR l1 12) 0)]) λ_ o3=>ae [ak (gB o3 0)]else bif gI l1 0==6 then bO (Ti G N [bI l0,aw l1]) λq6 o6=>bif bQ q6 then aP (aV 0 (ln (gR (gC o6 1) 12)))<|bO (G xq [bI (gC o6 0),bR (gA (gR (gC o6 1) 12) 0)]) λ_ o7=>bif gB o7 0 then aP (aV 1 (ln (gR (gC o6 1) 12)))<|bO (G xq [bI (gC o6 0),bR (gA (gR (gC o6 1) 12) 1)]) λ_ o8=>bif gB o8 0 then aP (aV 0 (ln (gR (gC o6 1) 12)))<|bO (G Bh [bI (gC o6 0),bR (gA (gR (gC o6 1) 12) 0),iI (gI (gC o6 1) 2)]) λ_ o9=>bif gB o9 0 then aP (aV 1 (ln (gR (gC o6 1) 12)))<|bO (G Bh [bI (gC o6 0),bR (gA (gR (gC o6 1) 12) 1),iI (gI (gC o6 1) 2)]) λ_ cL=>ae [ak (gB cL 0)]else bZ else bZ else bZ else ae [ak (gB o6 0)]else bif gI l1 0==7 then bif ck 1 (gI l1 1)then bif ck (gI l1 1) 8192 then bO (G qZ [aa (gR l0 7),iI (gI l1 1)]) λ_ cP=>ae [ak (!(gB cP 0))]else bZ else bZ else bif gI l1 0==8 then bO (G qZ [aa (gR l0 6),iI (gI l1 1)]) λ_ dc=>ae [ak (gB dc 0)]else bif gI l1 0==10 then bif ck 1 (gI l1 1)then bif ck (gI l1 1) (gI l0 1)then c8 else bif gI l1 1==0 then ae [ak (gB l0 13)]else bZ else bif gI l1 1==0 then ae [ak (gB l0 13)]else bZ else bO (Ta G N [bE (gI l1 0)]) λ_ eV=>bif gB eV 0 then aP (aV 0 (ln (gR l1 12)))<|bO (G xq [bI l0,bR (gA (gR l1 12) 0)]) λ_ c7=>ae [ak (gB c7 0)]else bO (S5 G N [bE (gI l1 0)]) λ_ dh=>bif gB dh 0 then aP (aV 0 (ln (gR l1 14)))<|bO (G HB [bI l0,ev (gA (gR l1 14) 0)]) λ_ fI=>ae [ak (gB fI 0)]else bif gI l1 0==14 then bif gB l1 6 then aP (aV 0 (ln (gR l1 14)))<|bO (G HB [bI l0,ev (gA (gR l1 14) 0)]) λ_ dj=>bif gB dj 0 then bO (G qZ [aa (gR l0 9),iI (gI l1 4)]) λ_ fW=>bif gB fW 0 then bif ck 0 (gI l1 5)then br (gI l1 4) (gR l0 3)<|ae [ak (aV (gI l1 5) (ln (gR (aD (gR l0 3) (gI l1 4)) 2)))]else bZ else bZ else bZ else aP (aV 0 (ln (gR l1 14)))<|bO (G HB [bI l0,ev (gA (gR l1 14) 0)]) λ_ gZ=>bif gB gZ 0 then bO (G Ei [bI l0,iI (gI l0 5),iI (gI l1 5)]) λ_ rG=>ae [ak (gB rG 0)]else bZ else bif gI l1 0==16 then bO (G Eg [bI l0,aw l1,iI 2]) λ_ iP=>bif gB iP 0 then bO (G M3 [bI l0,aw l1]) λ_ vE=>ae [ak (gB vE 0)]else bZ else bif gI l1 0==17 then bO (G Eg [bI l0,aw l1,iI 3]) λ_ GJ=>bif gB GJ 0 then bif ck 0 (gI l1 4)then bif aV (gI l1 4) (ln (gR l0 3))then bif ck 0 (gI l1 5)then br (gI l1 4) (gR l0 3)<|ae [ak (aV (gI l1 5) (ln (gR (aD (gR l0 3) (gI l1 4)) 2)))]else bZ else bZ else bZ else bZ else bif gI l1 0==18 then bO (G Er [bI l0,iI (gI l1 5)]) λ_ jk=>ae [ak (gB jk 0)]else bif gI l1 0==20 then bif ck 0 (gI l1 4)then bif aV (gI l1 4) (ln (gR l0 3))then bO (G qZ [aa (gR l0 9),iI (gI l1 4)]) λ_ GI=>bif !(gB GI 0)then bif ln (gR l0 9)==0 then c8 else br (gI l1 4) (gR l0 3)<|ae [ak (ln (gR (aD (gR l0 3) (gI l1 4)) 2)==0)]else bZ else bZ else bZ else bif gI l1 0==21 then bO (G Us [bI l0,aw l1]) λ_ yN=>ae [ak (gB yN 0)]else bif gI l1 0==22 then bif ck 1 (ln (gR l1 16))then bif ck (ln (gR l1 16)) 32 then bO (G ED [aa (gR l1 16),iI 1,iI (bx (ln (gR l0 2)- 1))]) λ_ GH=>ae [ak (gB GH 0)]else bZ else bZ else c8:aJ):=by kernel_rfl
def awm:ca CX EE G N Eh [J l0]=(ae [J (sT (ou l0) [(6,aa cy),(13,aq),(14,iI (-1))])]:aJ):=by kernel_rfl
def ax8:VX G N [J l0,J l1]=(bif aV 256 (ln (gR l1 18))then aN [iI (-1),bI l0,aw l1]else bif aV 16 (ln (gR l1 19))then aN [iI (-1),bI l0,aw l1]else bO (G ED [aa (gR l1 16),iI (bx (gI l0 5+1)),iI (bx (ln (gR l0 2)- 1))]) λ_ o1=>bif !(gB o1 0)then aN [iI (-1),bI l0,aw l1]else ae [bI l0,aw l1]:aJ):=by kernel_rfl
def ada:MS G N [iI i0,iI i1,J l2]=(bif aV i1 (ln (gR l2 18))then bif ck 0 i0 then ae [aw l2]else aN [aw l2]else aN [aw l2]:aJ):=by kernel_rfl
def adn:xu G N (n+1) [iI i0,iI i1,J l2,J l3]=(bO (MS G N [iI i0,iI i1,aw l3]) λq3 o3=>bif bQ q3 then bO (G Eh [bI l2]) λ_ o4=>bO (G Eh [bI l2]) λ_ o5=>br i1 (gR (gC o3 0) 18)<|bO (G pO [J (sT (ou (gC o4 0)) [(11,cu)]),aw (aD (gR (gC o3 0) 18) i1),iI i0]) λ_ o6=>bif ck 0 (gI o6 0)then br i1 (gR (gC o3 0) 18)<|bO (G pO [J (sT (ou (gC o5 0)) [(12,cu)]),J (cO dD 21 (aD (gR (gC o3 0) 18) i1)),iI (gI o6 0)]) λ_ o7=>xu G N n [iI (gI o7 0),cz i1,bI l2,aw (gC o3 0)]else xu G N n [iI (gI o6 0),cz i1,bI l2,aw (gC o3 0)]else ae [iI i0,bI l2,aw (gC o3 0)]:aJ):=by kernel_rfl
def axd:VD G N [iI i0,J l1,J l2]=(bO (xu G N N [iI i0,iI 0,bI l1,aw l2]) λ_ o8=>ae [iI (gI o8 0),bI (gC o8 1),aw (gC o8 2)]:aJ):=by kernel_rfl
def adv:Nd G N [iI i0,J l1,J l2]=(bif ck 0 i0 then aP (aV 0 (ln (gR l2 17)))<|bO (G pO [bI l1,aw (gA (gR l2 17) 0),iI i0]) λ_ cL=>ae [iI (gI cL 0),bI l1,aw l2]else ae [iI i0,bI l1,aw l2]:aJ):=by kernel_rfl
def Ux:HP G N [iI i0,iI i1,J l2]=(bif aV i1 (ln (gR l2 19))then bif ck 0 i0 then ae [aw l2]else aN [aw l2]else aN [aw l2]:aJ):=by kernel_rfl
def asR:Uk G N [iI i0,J l1,J l2,J l3]=(bif ln (gR l3 0)==0 then bif i0 != bx (ln (gR l2 19)- 1)then aN [iI (-1),bI l1,aw l2,nS l3]else bO (G EF [aa (gR l3 0),iI 1,iI (gI l1 1)]) λ_ eV=>bif !(gB eV 0)then aN [iI (-1),bI l1,aw l2,nS l3]else ae [bI l1,aw l2,nS l3]else bO (G EF [aa (gR l3 0),iI 1,iI (gI l1 1)]) λ_ c7=>bif !(gB c7 0)then aN [iI (-1),bI l1,aw l2,nS l3]else ae [bI l1,aw l2,nS l3]:aJ):=by kernel_rfl
def ab2:Hv G N (n+1) [iI i0,J l1,aa r2]=(bif aV i0 (ln (gR l1 0))then br i0 (gR l1 0)<|bO (G NX [iI (gI (aD (gR l1 0) i0) 0),aa r2]) λ_ fI=>bif gB fI 0 then ae [iI (-1),nS l1]else br i0 (gR l1 0)<|aP (lu (((gR fI 1).length +1)*8) 140737488355328)<|Hv G N n [cz i0,nS l1,aa ((gR fI 1)++(([[iI (gI (aD (gR l1 0) i0) 0)]]:aZ)))]else aN [nS l1,aa r2]:aJ):=by kernel_rfl
def Uu:zm G N (n+1) [iI i0,iI i1,J l2,J l3,aa r4]=(bO (HP G N [iI i0,iI i1,aw l3]) λpz dc=>bif bQ pz then br i1 (gR (gC dc 0) 19)<|bO (Uk G N [iI i1,bI l2,aw (gC dc 0),nS (aD (gR (gC dc 0) 19) i1)]) λvv dh=>bif bQ vv then bO (Hv G N N [iI 0,nS (gC dh 2),aa r4]) λvu dj=>bif bQ vu then ae [iI (gI dj 0),bI (gC dh 0),aw (gC dh 1)]else bO (G pO [bI (gC dh 0),J (cO dD 1 (gC dj 0)),iI i0]) λ_ fW=>zm G N n [iI (gI fW 0),cz i1,bI (gC dh 0),aw (gC dh 1),aa (gR dj 1)]else ae [iI (gI dh 0),bI (gC dh 1),aw (gC dh 2)]else aN [iI i0,bI l2,aw (gC dc 0)]:aJ):=by kernel_rfl
def azF:ca CX EE G N Im [J l0,J l1,iI i2]=(bO (VX G N [bI l0,aw l1]) λq2 o2=>bif bQ q2 then bO (VD G N [iI i2,bI (gC o2 0),aw (gC o2 1)]) λ_ o9=>bO (Nd G N [iI (gI o9 0),J (sT (ou (gC o9 1)) [(14,iI (-1))]),aw (gC o9 2)]) λ_ cP=>bO (zm G N N [iI (gI cP 0),iI 0,J (sT (ou (gC cP 1)) [(13,cu)]),aw (gC cP 2),aa cy]) λDi gZ=>bif bQ Di then ae [iI (gI gZ 0)]else ae [iI (gI gZ 0)]else ae [iI (gI o2 0)]:aJ):=by kernel_rfl
def axh:VH G N [J l0]=(bif aV (ln (gR l0 20)) 1 then aN [iI (-1),aw l0]else bif aV 16 (ln (gR l0 20))then aN [iI (-1),aw l0]else bif !(gB l0 9)then aP (aV 0 (ln (gR l0 17)))<|bO (G mX [aw (gA (gR l0 17) 0),J rD]) λ_ o1=>bif !(gB o1 0)then aN [iI (-1),aw l0]else ae [aw l0]else ae [aw l0]:aJ):=by kernel_rfl
def Ue:HH G N [iI i0,iI i1,J l2]=(bif aV i1 (ln (gR l2 20))then bif ck 0 i0 then ae [aw l2]else aN [aw l2]else aN [aw l2]:aJ):=by kernel_rfl
def ar6:T1 G N [iI i0,iI i1,iI i2,J l3,J l4,J l5]=(bif gI l4 0==1 then bO (G Md [bI l3,iI (gI l4 10)]) λ_ o6=>ae [cz i0,iI i1,iI i2,bI l3,ma l4,J (sT (ou (gC o6 0)) [(8,aa (gR o6 1))])]else bif gI l4 0==4 then ae [iI i0,iI i1,cz i2,bI l3,ma l4,bI l5]else ae [iI i0,cz i1,iI i2,bI l3,ma l4,bI l5]:aJ):=by kernel_rfl
def Uv:tx G N (n+1) [iI i0,iI i1,iI i2,iI i3,iI i4,J l5,J l6]=(bO (HH G N [iI i0,iI i4,aw l6]) λq4 o4=>bif bQ q4 then br i4 (gR (gC o4 0) 20)<|bO (G LW [bI l5,ma (aD (gR (gC o4 0) 20) i4)]) λ_ o5=>bif !(gB o5 0)then ae [iI (-1),bI l5,aw (gC o4 0)]else bO (T1 G N [iI i1,iI i2,iI i3,bI l5,ma (aD (gR (gC o4 0) 20) i4),bI l5]) λ_ o7=>bO (G pO [bI (gC o7 5),J (cO dD 12 (gC o7 4)),iI i0]) λ_ o8=>bif ck 0 (gI o8 0)then bO (G pO [bI (gC o7 3),J (cO dD 33 (gC o7 4)),iI (gI o8 0)]) λ_ o9=>tx G N n [iI (gI o9 0),iI (gI o7 0),iI (gI o7 1),iI (gI o7 2),cz i4,bI (gC o7 3),aw (gC o4 0)]else tx G N n [iI (gI o8 0),iI (gI o7 0),iI (gI o7 1),iI (gI o7 2),cz i4,bI (gC o7 3),aw (gC o4 0)]else aN [iI i0,iI i1,iI i2,iI i3,bI l5,aw (gC o4 0)]:aJ):=by kernel_rfl
def Mt:Bq G N [iI i0,iI i1,iI i2,iI i3,J l4,J l5]=(bO (tx G N N [iI i0,iI i1,iI i2,iI i3,iI 0,bI l4,aw l5]) λmy cL=>bif bQ my then aN [iI (gI cL 0),bI (gC cL 1),aw (gC cL 2)]else ae [iI (gI cL 0),iI (gI cL 1),iI (gI cL 2),iI (gI cL 3),bI (gC cL 4),aw (gC cL 5)]:aJ):=by kernel_rfl
def ayY:ca CX EE G N EG [J l0,J l1,iI i2]=(bO (VH G N [aw l1]) λq2 o2=>bif bQ q2 then aP (aV 0 (ln (gR (gC o2 0) 17)))<|bO (G pO [J (sT (ou l0) [(14,iI (-1))]),aw (gA (gR (gC o2 0) 17) 0),iI i2]) λ_ o3=>bO (Bq G N [iI (gI o3 0),iI 0,iI 0,iI 0,J (sT (ou l0) [(14,iI (-1))]),aw (gC o2 0)]) λqH cP=>bif bQ qH then bif aV 0 (gI cP 2)then bif gB (gC cP 5) 9 then bif gI cP 1==0 then ae [iI (-1)]else bif aV 1 (gI cP 3)then ae [iI (-1)]else bif aV 1 (bx (2+gI cP 3))then ae [iI (-1)]else ae [iI (gI cP 0)]else bif gI cP 1==0 then ae [iI (-1)]else bif aV 1 (gI cP 3)then ae [iI (-1)]else bif aV 1 (bx (1+gI cP 3))then ae [iI (-1)]else ae [iI (gI cP 0)]else bif gB (gC cP 5) 9 then bif gI cP 1==0 then ae [iI (-1)]else bif aV 1 (gI cP 3)then ae [iI (-1)]else bif aV 1 (bx (1+gI cP 3))then ae [iI (-1)]else ae [iI (gI cP 0)]else bif gI cP 1==0 then ae [iI (-1)]else bif aV 1 (gI cP 3)then ae [iI (-1)]else bif aV 1 (bx (0+gI cP 3))then ae [iI (-1)]else ae [iI (gI cP 0)]else ae [iI (gI cP 0)]else ae [iI (gI o2 0)]:aJ):=by kernel_rfl
def asf:ca CX EE G N Md [J l0,iI i1]=(bO (G Eh [bI l0]) λ_ o1=>aP (w5 (gR l0 8))<|aP (lu ((((([]:aZ))++(gR l0 8)).length +1)*8) 140737488355328)<|ae [J (sT (azg (gC o1 0)) [(8,.aA 0),(14,iI i1)]),aa (((([]:aZ))++(gR l0 8))++(([[iI i1]]:aZ)))]:aJ):=by kernel_rfl
def au8:ca CX EE G N UQ [J l0,iI i1]=(bO (G Eh [bI l0]) λ_ o1=>aP (w5 (gR l0 9))<|aP (lu ((((([]:aZ))++(gR l0 9)).length +1)*8) 140737488355328)<|ae [J (sT (azh (gC o1 0)) an9),aa (((([]:aZ))++(gR l0 9))++(([[iI i1]]:aZ)))]:aJ):=by kernel_rfl
def apz:Hj G N [bE i0]=(bif i0==2 then c8 else ae [ak (i0==3)]:aJ):=by kernel_rfl
def aqV:ca CX EE G N LW [J l0,J l1]=(bO (G Bb [bI l0,J (cO Bx 1 l1)]) λ_ o1=>bif !(gB o1 0)then bZ else bif gI l1 0==1 then bif ln (gR l1 11)==0 then bO (G Er [bI l0,iI (gI l1 10)]) λ_ o2=>ae [ak (gB o2 0)]else bZ else bO (Hj G N [bE (gI l1 0)]) λ_ o3=>bif gB o3 0 then bif gI l1 10==0 then bif ln (gR l1 11)==1 then aP (aV 0 (ln (gR l1 11)))<|bO (G xq [bI l0,bR (gA (gR l1 11) 0)]) λ_ o4=>bif gB o4 0 then bO (G mX [J (cO dD 12 l1),J rD]) λ_ o5=>ae [ak (gB o5 0)]else bZ else bZ else bZ else bif gI l1 0==4 then bif gI l1 10==0 then bif ln (gR l1 11)==0 then bO (G mX [J (cO dD 12 l1),J rD]) λ_ o6=>bif gB o6 0 then bO (G mX [J (cO dD 33 l1),J rD]) λ_ o7=>ae [ak (gB o7 0)]else bZ else bZ else bZ else bZ:aJ):=by kernel_rfl
end
noncomputable section
variable {G:Nat->bp->Option UO} {N n:Nat} {i0 i1 i2:Int} {l0 l1 l2 l3:bp} {r0 r1 r2:aZ}
def ayM:NP G N [iI i0,J l1,J l2]=(bif aV i0 1 then aN [iI (-1),bI l1,aw l2]else bif ck 64 (gI l1 15)then aN [iI (-1),bI l1,aw l2]else bO (G NW [aw l2]) λ_ o1=>bif !(gB o1 0)then aN [iI (-1),bI l1,aw l2]else bO (G UP [bI l1,aw l2]) λ_ o2=>bif !(gB o2 0)then aN [iI (-1),bI l1,aw l2]else bO (G xp [bI l1,aw l2]) λ_ o3=>bif !(gB o3 0)then aN [iI (-1),bI l1,aw l2]else ae [bI l1,aw l2]:aJ):=by kernel_rfl
def VA:H7 G N [iI i0,J l1,J l2]=(bif gI l2 0==9 then bO (G Im [bI l1,aw l2,iI i0]) λ_ o5=>aN [iI (gI o5 0),bI l1,aw l2]else bif gI l2 0==19 then bO (G EG [bI l1,aw l2,iI i0]) λ_ o6=>aN [iI (gI o6 0),bI l1,aw l2]else bif gI l2 0==7 then aP (w5 (gR l1 6))<|aP (yQ ((([]:aZ))++(gR l1 6)) (([[iI (gI l2 1)]]:aZ)))<|aP (w5 (gR l1 7))<|aP (yQ ((([]:aZ))++(gR l1 7)) (([[iI (gI l2 1)]]:aZ)))<|ae [J (sT (ou l1) [(6,aa (((([]:aZ))++(gR l1 6))++(([[iI (gI l2 1)]]:aZ)))),(7,aa (((([]:aZ))++(gR l1 7))++(([[iI (gI l2 1)]]:aZ))))]),aw l2]else bif gI l2 0==6 then aP (w5 (gR l1 10))<|aP (yQ ((([]:aZ))++(gR l1 10)) (([[iI (gI l2 2)]]:aZ)))<|ae [J (sT (ou l1) [(10,aa (((([]:aZ))++(gR l1 10))++(([[iI (gI l2 2)]]:aZ))))]),aw l2]else ae [bI l1,aw l2]:aJ):=by kernel_rfl
def adb:MT G N [iI i0,iI i1,J l2]=(bif aV i1 (ln (gR l2 17))then bif ck 0 i0 then ae [aw l2]else aN [aw l2]else aN [aw l2]:aJ):=by kernel_rfl
def auT:UY G N [iI i0,J l1,J l2,J l3]=(bif i0==0 then bif gI l2 0==18 then bO (G Md [bI l1,iI (gI l2 5)]) λ_ o9=>ae [bI l1,aw l2,J (sT (ou (gC o9 0)) [(8,aa (gR o9 1))])]else ae [bI l1,aw l2,bI l3]else ae [bI l1,aw l2,bI l3]:aJ):=by kernel_rfl
def atO:UB G N [iI i0,J l1]=(bif i0==0 then bif gI l1 0==20 then ae [cu,aw l1]else ae [ak (gI l1 0==17),aw l1]else ae [aq,aw l1]:aJ):=by kernel_rfl
def auS:UX G N [iI i0,J l1,J l2,J l3]=(bO (UB G N [iI i0,aw l2]) λ_ cP=>bif gB cP 0 then bO (G UQ [bI l1,iI (gI (gC cP 1) 4)]) λ_ dc=>ae [bI l1,aw (gC cP 1),J (sT (ou (gC dc 0)) [(9,aa (gR dc 1))])]else ae [bI l1,aw (gC cP 1),bI l3]:aJ):=by kernel_rfl
def atN:UA G N [iI i0,J l1,J l2]=(bif gI l1 0==16 then ae [aw l1,J (sT (ou l2) [(14,iI (-1))])]else bif gI l1 0==17 then bif aV 0 i0 then ae [aw l1,J (sT (ou l2) [(14,iI (-1))])]else bif gI l1 0==18 then bif aV 0 i0 then ae [aw l1,J (sT (ou l2) [(14,iI (-1))])]else ae [aw l1,bI l2]else ae [aw l1,bI l2]else bif gI l1 0==18 then bif aV 0 i0 then ae [aw l1,J (sT (ou l2) [(14,iI (-1))])]else ae [aw l1,bI l2]else ae [aw l1,bI l2]:aJ):=by kernel_rfl
def adp:zo G N (n+1) [iI i0,iI i1,J l2,J l3]=(bO (MT G N [iI i0,iI i1,aw l3]) λq8 o8=>bif bQ q8 then bO (UY G N [iI i1,bI l2,aw (gC o8 0),bI l2]) λ_ cL=>bO (UX G N [iI i1,bI (gC cL 0),aw (gC cL 1),bI (gC cL 2)]) λ_ eV=>bO (UA G N [iI i1,aw (gC eV 1),bI (gC eV 2)]) λ_ c7=>br i1 (gR (gC c7 0) 17)<|bO (G pO [bI (gC c7 1),aw (aD (gR (gC c7 0) 17) i1),iI i0]) λ_ dh=>zo G N n [iI (gI dh 0),cz i1,bI (gC eV 0),aw (gC c7 0)]else ae [iI i0,bI l2,aw (gC o8 0)]:aJ):=by kernel_rfl
def aAe:ca CX EE G N pO [J l0,J l1,iI i2]=(bO (NP G N [iI i2,bI l0,aw l1]) λq4 o4=>bif bQ q4 then bO (H7 G N [iI (bx (i2- 1)),J (sT (ou (gC o4 0)) [(15,iI (bx (gI (gC o4 0) 15+1)))]),aw (gC o4 1)]) λq7 o7=>bif bQ q7 then bO (zo G N N [iI (bx (i2- 1)),iI 0,bI (gC o7 0),aw (gC o7 1)]) λ_ fI=>ae [iI (gI fI 0)]else ae [iI (gI o7 0)]else ae [iI (gI o4 0)]:aJ):=by kernel_rfl
def ab1:Hu G N (n+1) [iI i0,aa r1,J l2]=(bif aV i0 (ln (gR l2 16))then br i0 (gR l2 16)<|br (gI (aD (gR l2 16) i0) 0) r1<|aP (dw ((gI (aD (gR l2 16) i0) 0).toNat) (r1.length))<|br (gI (aD (gR l2 16) i0) 0) r1<|aP (dw ((gI (aD (gR l2 16) i0) 0).toNat) (r1.length))<|Hu G N n [cz i0,aa (r1.set ((gI (aD (gR l2 16) i0) 0).toNat) (setAt (aD r1 (gI (aD (gR l2 16) i0) 0)) 0 [iI (bx ((gI (aD r1 (gI (aD (gR l2 16) i0) 0)) 0)+1))])),aw l2]else ae [aa r1,aw l2]:aJ):=by kernel_rfl
def asQ:Uj G N [aa r0,J l1]=(bif gI l1 0==9 then bO (Hu G N N [iI 0,aa r0,aw l1]) λ_ o2=>ae [aa (gR o2 0),aw (gC o2 1)]else ae [aa r0,aw l1]:aJ):=by kernel_rfl
def acb:Mm G N (n+1) [iI i0,aa r1,bD r2]=(bif aV i0 (ln r2)then br i0 r2<|aP (dw (i0.toNat) (r2.length))<|bO (G MH [aw (aD r2 i0),aa r1]) λ_ o4=>Mm G N n [cz i0,aa (gR o4 0),bD r2]else ae [aa r1,bD r2]:aJ):=by kernel_rfl
def awk:ca CX EE G N MH [J l0,aa r1]=(bO (G Ie [aw l0]) λ_ o1=>bO (Uj G N [aa r1,aw l0]) λ_ o3=>bO (Mm G N N [iI 0,aa (gR o3 0),bD (gR o1 0)]) λ_ o5=>ae [aa (gR o5 0)]:aJ):=by kernel_rfl
def azC:Wz G N [J l0]=(bO (G VP [bJ (gR l0 0)]) λ_ o1=>bif !(gB o1 0)then aN [aq,bK l0]else bif aV (gI l0 1) 4 then aN [aq,bK l0]else bif aV 64 (gI l0 1)then aN [aq,bK l0]else bif aV (ln (gR l0 2)) 1 then aN [aq,bK l0]else bif aV 32 (ln (gR l0 2))then aN [aq,bK l0]else bif aV 32 (ln (gR l0 3))then aN [aq,bK l0]else ae [bK l0]:aJ):=by kernel_rfl
def adR:H5 G N (n+1) [iI i0,J l1]=(bif aV i0 (ln (gR l1 2))then br i0 (gR l1 2)<|bif aV (gI (aD (gR l1 2) i0) 0) 0 then ae [aq,bK l1]else bif aV 31 (gI (aD (gR l1 2) i0) 0)then ae [aq,bK l1]else bif aV 8 (ln (gR (aD (gR l1 2) i0) 1))then ae [aq,bK l1]else bif aV (gI (aD (gR l1 2) i0) 23) 0 then ae [aq,bK l1]else bif aV 2147483647 (gI (aD (gR l1 2) i0) 23)then ae [aq,bK l1]else H5 G N n [cz i0,bK l1]else aN [bK l1]:aJ):=by kernel_rfl
def aef:NQ G N [J l0]=(bO (H5 G N N [iI 0,bK l0]) λq3 o3=>bif bQ q3 then aN [ak (gB o3 0),bK (gC o3 1)]else ae [bK (gC o3 0)]:aJ):=by kernel_rfl
def awe:Vr G N [J l0]=(bif aV (gI l0 0) 0 then aN [aq,lZ l0]else bif aV 31 (gI l0 0)then aN [aq,lZ l0]else bif aV 8 (ln (gR l0 2))then aN [aq,lZ l0]else ae [lZ l0]:aJ):=by kernel_rfl
def acL:Bn G N (n+1) [iI i0,J l1,J l2]=(bif aV i0 (ln (gR l2 2))then br i0 (gR l2 2)<|bO (G BX [J [bJ (gR l1 0),er ([]),iI (ln (gR l2 2))],bR (aD (gR l2 2) i0)]) λ_ o7=>bif !(gB o7 1)then ae [aq,bK l1,lZ l2]else bO (G vX [cG (gC o7 0)]) λ_ o8=>bif !(gB o8 0)then ae [aq,bK l1,lZ l2]else br i0 (gR l2 2)<|bO (G HZ [bJ (gR l1 0),aa (gR l2 1),bR (aD (gR l2 2) i0)]) λ_ o9=>bif !(gB o9 0)then ae [aq,bK l1,lZ l2]else Bn G N n [cz i0,bK l1,lZ l2]else aN [bK l1,lZ l2]:aJ):=by kernel_rfl
def ads:Ep G N (n+1) [iI i0,J l1]=(bif aV i0 (ln (gR l1 3))then br i0 (gR l1 3)<|bO (Vr G N [lZ (aD (gR l1 3) i0)]) λq6 o6=>bif bQ q6 then bO (Bn G N N [iI 0,bK l1,lZ (gC o6 0)]) λmy cL=>bif bQ my then ae [ak (gB cL 0),bK (gC cL 1)]else Ep G N n [cz i0,bK (gC cL 0)]else ae [ak (gB o6 0),bK l1]else aN [bK l1]:aJ):=by kernel_rfl
def adX:Nv G N [J l0]=(bO (Ep G N N [iI 0,bK l0]) λqH cP=>bif bQ qH then aN [ak (gB cP 0),bK (gC cP 1)]else ae [bK (gC cP 0)]:aJ):=by kernel_rfl
def adr:Bw G N (n+1) [cD r0,iI i1,iI i2,J l3]=(bif aV i2 (ln (gR l3 2))then bif ck 0 i1 then br i2 (gR l3 2)<|bO (G pO [J [bJ (gR l3 0),iI (gI l3 1),fq (gR l3 2),nT (gR l3 3),cD r0,iI i2,aa cy,aa cy,aa cy,aa cy,aa cy,aq,aq,aq,iI (-1),iI 0],J (cO dD 2 (aD (gR l3 2) i2)),iI i1]) λ_ eV=>Bw G N n [cD r0,iI (gI eV 0),cz i2,bK l3]else ae [iI i1,bK l3]else ae [iI i1,bK l3]:aJ):=by kernel_rfl
def axm:VM G N [iI i0,J l1,cD r2]=(bO (Bw G N N [cD r2,iI i0,iI 0,bK l1]) λ_ c7=>ae [iI (gI c7 0),bK (gC c7 1),cD r2]:aJ):=by kernel_rfl
def ac4:HV G N (n+1) [iI i0,J l1,aa r2]=(bif aV i0 (ln (gR l1 2))then br i0 (gR l1 2)<|bO (G MH [J (cO dD 2 (aD (gR l1 2) i0)),aa r2]) λ_ fI=>HV G N n [cz i0,bK l1,aa (gR fI 0)]else ae [bK l1,aa r2]:aJ):=by kernel_rfl
def ac3:HU G N (n+1) [iI i0,J l1,aa r2]=(bif aV i0 (ln (gR l1 2))then br i0 r2<|aP (dw (i0.toNat) (r2.length))<|bif gI (aD r2 i0) 0 != 1 then ae [aq,bK l1,aa r2]else HU G N n [cz i0,bK l1,aa r2]else aN [bK l1,aa r2]:aJ):=by kernel_rfl
def afv:ca CX EE G N tG [J l0]=(bO (Wz G N [bK l0]) λq2 o2=>bif bQ q2 then aP (aV 0 (ln (gR (gC o2 0) 2)))<|bif aV 0 (ln (gR (gA (gR (gC o2 0) 2) 0) 1))then bZ else bO (NQ G N [bK (gC o2 0)]) λq4 o4=>bif bQ q4 then bO (G NV [bK (gC o4 0)]) λ_ o5=>bif !(gB o5 0)then bZ else bO (Nv G N [bK (gC o4 0)]) λpz dc=>bif bQ pz then bO (VM G N [iI 8192,bK (gC dc 0),cD (gR o5 1)]) λ_ dh=>bif aV (gI dh 0) 0 then bZ else aP (ck 0 (ln (gR (gC dh 1) 2))&&ck (ln (gR (gC dh 1) 2)) (ln (gR (gC dh 1) 2))&&ck ((ln (gR (gC dh 1) 2))*8) 140737488355328)<|bO (HV G N N [iI 0,bK (gC dh 1),aa (List.replicate ((ln (gR (gC dh 1) 2)).toNat) ([iI 0]:Row))]) λ_ dj=>bO (HU G N N [iI 1,bK (gC dj 0),aa (gR dj 1)]) λKE fW=>bif bQ KE then ae [ak (gB fW 0)]else aP (aV 0 (ln (gR fW 1)))<|aP (dw 0 ((gR fW 1).length))<|ae [ak (gI (gA (gR fW 1) 0) 0==0)]else ae [ak (gB dc 0)]else ae [ak (gB o4 0)]else ae [ak (gB o2 0)]:aJ):=by kernel_rfl
def acK:MC G N (n+1) [iI i0,bD r1,bD r2]=(bif aV i0 (ln r1)then br i0 r1<|aP (dw (i0.toNat) (r1.length))<|bO (G NH [aw (aD r1 i0),bD r2]) λ_ o2=>MC G N n [cz i0,bD r1,bD (gR o2 0)]else ae [bD r1,bD r2]:aJ):=by kernel_rfl
def ay1:ca CX EE G N NH [J l0,bD r1]=(aP (lu ((r1.length+1)*272) 140737488355328)<|bO (G Ie [aw l0]) λ_ o1=>bO (MC G N N [iI 0,bD (gR o1 0),bD (r1++(([dv l0]:aZ)))]) λ_ o3=>ae [bD (gR o3 1)]:aJ):=by kernel_rfl
def adS:Ns G N (n+1) [iI i0,J l1,bD r2]=(bif aV i0 (ln (gR l1 2))then br i0 (gR l1 2)<|bO (G NH [J (cO dD 2 (aD (gR l1 2) i0)),bD r2]) λ_ o2=>Ns G N n [cz i0,bK l1,bD (gR o2 0)]else ae [bK l1,bD r2]:aJ):=by kernel_rfl
def aAM:ca CX EE G N Xn [J l0]=(bO (G tG [bK l0]) λ_ o1=>bif !(gB o1 0)then ae [bD cy]else bO (Ns G N N [iI 0,bK l0,bD cy]) λ_ o3=>ae [bD (gR o3 1)]:aJ):=by kernel_rfl
def adY:Nw G N [iI i0,iI i1,J l2]=(bif aV i1 (ln (gR l2 18))then bif ck 0 i0 then ae [aw l2]else aN [aw l2]else aN [aw l2]:aJ):=by kernel_rfl
def adV:Bz G N (n+1) [iI i0,iI i1,J l2,J l3]=(bO (Nw G N [iI i0,iI i1,aw l2]) λq1 o1=>bif bQ q1 then br i1 (gR (gC o1 0) 18)<|bO (G xH [aw (aD (gR (gC o1 0) 18) i1),iI i0,aw l3]) λ_ o2=>br i1 (gR (gC o1 0) 18)<|bif ck 0 (gI o2 1)then bO (G xH [J (cO dD 21 (aD (gR (gC o1 0) 18) i1)),iI (gI o2 1),aw l3]) λ_ o3=>aP (lu ((0+(gR (gC o1 0) 18).length)*544) 140737488355328)<|br i1 ((([]:aZ))++(gR (gC o1 0) 18))<|aP (dw (i1.toNat) (((([]:aZ))++(gR (gC o1 0) 18)).length))<|Bz G N n [iI (gI o3 1),cz i1,J (sT (dv (gC o1 0)) [(18,c5 (((([]:aZ))++(gR (gC o1 0) 18)).set i1.toNat (setAt (aD ((([]:aZ))++(gR (gC o1 0) 18)) i1) 0 (sT (Bk (gC o2 0)) [(21,bE (gI (gC o3 0) 0)),(22,iI (gI (gC o3 0) 1)),(23,iI (gI (gC o3 0) 2)),(24,iI (gI (gC o3 0) 3)),(25,iI (gI (gC o3 0) 4)),(26,iI (gI (gC o3 0) 5)),(27,ak (gB (gC o3 0) 6)),(28,ak (gB (gC o3 0) 7)),(29,ak (gB (gC o3 0) 8)),(30,ak (gB (gC o3 0) 9)),(31,ak (gB (gC o3 0) 10)),(32,bE (gI (gC o3 0) 11)),(33,aT (gR (gC o3 0) 12)),(34,aT (gR (gC o3 0) 13)),(35,bH (gR (gC o3 0) 14)),(36,bH (gR (gC o3 0) 15)),(37,aa (gR (gC o3 0) 16)),(38,bD (gR (gC o3 0) 17)),(39,c5 (gR (gC o3 0) 18)),(40,cZ (gR (gC o3 0) 19)),(41,cQ (gR (gC o3 0) 20))]))))]),aw l3]else aP (lu ((0+(gR (gC o1 0) 18).length)*544) 140737488355328)<|br i1 ((([]:aZ))++(gR (gC o1 0) 18))<|aP (dw (i1.toNat) (((([]:aZ))++(gR (gC o1 0) 18)).length))<|Bz G N n [iI (gI o2 1),cz i1,J (sT (dv (gC o1 0)) [(18,c5 (((([]:aZ))++(gR (gC o1 0) 18)).set i1.toNat (setAt (aD ((([]:aZ))++(gR (gC o1 0) 18)) i1) 0 (sT (Bk (gC o2 0)) [(21,bE (gI (aD (gR (gC o1 0) 18) i1) 21)),(22,iI (gI (aD (gR (gC o1 0) 18) i1) 22)),(23,iI (gI (aD (gR (gC o1 0) 18) i1) 23)),(24,iI (gI (aD (gR (gC o1 0) 18) i1) 24)),(25,iI (gI (aD (gR (gC o1 0) 18) i1) 25)),(26,iI (gI (aD (gR (gC o1 0) 18) i1) 26)),(27,ak (gB (aD (gR (gC o1 0) 18) i1) 27)),(28,ak (gB (aD (gR (gC o1 0) 18) i1) 28)),(29,ak (gB (aD (gR (gC o1 0) 18) i1) 29)),(30,ak (gB (aD (gR (gC o1 0) 18) i1) 30)),(31,ak (gB (aD (gR (gC o1 0) 18) i1) 31)),(32,bE (gI (aD (gR (gC o1 0) 18) i1) 32)),(33,aT (gR (aD (gR (gC o1 0) 18) i1) 33)),(34,aT (gR (aD (gR (gC o1 0) 18) i1) 34)),(35,bH (gR (aD (gR (gC o1 0) 18) i1) 35)),(36,bH (gR (aD (gR (gC o1 0) 18) i1) 36)),(37,aa (gR (aD (gR (gC o1 0) 18) i1) 37)),(38,bD (gR (aD (gR (gC o1 0) 18) i1) 38)),(39,c5 (gR (aD (gR (gC o1 0) 18) i1) 39)),(40,cZ (gR (aD (gR (gC o1 0) 18) i1) 40)),(41,cQ (gR (aD (gR (gC o1 0) 18) i1) 41))]))))]),aw l3]else ae [iI i0,aw (gC o1 0),aw l3]:aJ):=by kernel_rfl
def ayO:We G N [iI i0,J l1,J l2]=(bO (Bz G N N [iI i0,iI 0,aw l1,aw l2]) λ_ o4=>ae [iI (gI o4 0),aw (gC o4 1),aw (gC o4 2)]:aJ):=by kernel_rfl
def adA:Nj G N [iI i0,iI i1,J l2]=(bif aV i1 (ln (gR l2 17))then bif ck 0 i0 then ae [aw l2]else aN [aw l2]else aN [aw l2]:aJ):=by kernel_rfl
def adU:Ey G N (n+1) [iI i0,iI i1,J l2,J l3]=(bO (Nj G N [iI i0,iI i1,aw l2]) λq6 o6=>bif bQ q6 then aP (lu ((0+(gR (gC o6 0) 17).length)*272) 140737488355328)<|br i1 (gR (gC o6 0) 17)<|bO (G xH [aw (aD (gR (gC o6 0) 17) i1),iI i0,aw l3]) λ_ o7=>br i1 ((([]:aZ))++(gR (gC o6 0) 17))<|aP (dw (i1.toNat) (((([]:aZ))++(gR (gC o6 0) 17)).length))<|Ey G N n [iI (gI o7 1),cz i1,J (sT (dv (gC o6 0)) [(17,bD (((([]:aZ))++(gR (gC o6 0) 17)).set i1.toNat (setAt (aD ((([]:aZ))++(gR (gC o6 0) 17)) i1) 0 (dv (gC o7 0)))))]),aw l3]else ae [iI i0,aw (gC o6 0),aw l3]:aJ):=by kernel_rfl
def ayN:NR G N [iI i0,J l1,J l2]=(bO (Ey G N N [iI i0,iI 0,aw l1,aw l2]) λ_ o8=>ae [iI (gI o8 0),aw (gC o8 1),aw (gC o8 2)]:aJ):=by kernel_rfl
def adz:Ni G N [iI i0,iI i1,J l2]=(bif aV i1 (ln (gR l2 19))then bif ck 0 i0 then ae [aw l2]else aN [aw l2]else aN [aw l2]:aJ):=by kernel_rfl
def adT:Ew G N (n+1) [iI i0,iI i1,J l2,J l3]=(bO (Ni G N [iI i0,iI i1,aw l2]) λmy cL=>bif bQ my then aP (lu ((0+(gR (gC cL 0) 19).length)*296) 140737488355328)<|br i1 (gR (gC cL 0) 19)<|bO (G xH [J (cO dD 1 (aD (gR (gC cL 0) 19) i1)),iI i0,aw l3]) λ_ cP=>br i1 ((([]:aZ))++(gR (gC cL 0) 19))<|aP (dw (i1.toNat) (((([]:aZ))++(gR (gC cL 0) 19)).length))<|Ew G N n [iI (gI cP 1),cz i1,J (sT (dv (gC cL 0)) [(19,cZ (((([]:aZ))++(gR (gC cL 0) 19)).set i1.toNat (setAt (aD ((([]:aZ))++(gR (gC cL 0) 19)) i1) 1 (dv (gC cP 0)))))]),aw l3]else ae [iI i0,aw (gC cL 0),aw l3]:aJ):=by kernel_rfl
def ax9:Nx G N [iI i0,J l1,J l2]=(bO (Ew G N N [iI i0,iI 0,aw l1,aw l2]) λ_ dc=>ae [iI (gI dc 0),aw (gC dc 1),aw (gC dc 2)]:aJ):=by kernel_rfl
def ady:Nh G N [iI i0,iI i1,J l2]=(bif aV i1 (ln (gR l2 20))then bif ck 0 i0 then ae [aw l2]else aN [aw l2]else aN [aw l2]:aJ):=by kernel_rfl
def adt:xv G N (n+1) [iI i0,iI i1,J l2,J l3]=(bO (Nh G N [iI i0,iI i1,aw l2]) λvz c7=>bif bQ vz then aP (lu ((0+(gR (gC c7 0) 20).length)*664) 140737488355328)<|br i1 (gR (gC c7 0) 20)<|bO (G xH [J (cO dD 12 (aD (gR (gC c7 0) 20) i1)),iI i0,aw l3]) λ_ dh=>br i1 ((([]:aZ))++(gR (gC c7 0) 20))<|aP (dw (i1.toNat) (((([]:aZ))++(gR (gC c7 0) 20)).length))<|bif ck 0 (gI dh 1)then br i1 (gR (gC c7 0) 20)<|bO (G xH [J (cO dD 33 (aD (gR (gC c7 0) 20) i1)),iI (gI dh 1),aw l3]) λ_ fI=>br i1 (((([]:aZ))++(gR (gC c7 0) 20)).set i1.toNat (setAt (aD ((([]:aZ))++(gR (gC c7 0) 20)) i1) 12 (dv (gC dh 0))))<|aP (dw (i1.toNat) ((((([]:aZ))++(gR (gC c7 0) 20)).set i1.toNat (setAt (aD ((([]:aZ))++(gR (gC c7 0) 20)) i1) 12 (dv (gC dh 0)))).length))<|xv G N n [iI (gI fI 1),cz i1,J (sT (dv (gC c7 0)) [(20,cQ ((((([]:aZ))++(gR (gC c7 0) 20)).set i1.toNat (setAt (aD ((([]:aZ))++(gR (gC c7 0) 20)) i1) 12 (dv (gC dh 0)))).set i1.toNat (setAt (aD (((([]:aZ))++(gR (gC c7 0) 20)).set i1.toNat (setAt (aD ((([]:aZ))++(gR (gC c7 0) 20)) i1) 12 (dv (gC dh 0)))) i1) 33 (dv (gC fI 0)))))]),aw l3]else xv G N n [iI (gI dh 1),cz i1,J (sT (dv (gC c7 0)) [(20,cQ (((([]:aZ))++(gR (gC c7 0) 20)).set i1.toNat (setAt (aD ((([]:aZ))++(gR (gC c7 0) 20)) i1) 12 (dv (gC dh 0)))))]),aw l3]else ae [iI i0,aw (gC c7 0),aw l3]:aJ):=by kernel_rfl
end
noncomputable section
variable {G:Nat->bp->Option UO} {N n:Nat} {i0 i1 i2 i3 i4 i5:Int} {l0 l1 l2 l3 l4 l5:bp} {r0 r1 r2 r3 r4 r5 r6:aZ}
def afw:ca CX EE G N xH [J l0,iI i1,J l2]=(bif i1==0 then ae [aw l2,iI (-1)]else bO (We G N [iI (bx (i1- 1)),aw l0,aw l2]) λ_ o5=>bO (NR G N [iI (gI o5 0),aw (gC o5 1),aw (gC o5 2)]) λ_ o9=>bO (Nx G N [iI (gI o9 0),aw (gC o9 1),aw (gC o9 2)]) λ_ eV=>bO (xv G N N [iI (gI eV 0),iI 0,aw (gC eV 1),aw (gC eV 2)]) λ_ dj=>ae [aw (gC dj 1),iI (gI dj 0)]:aJ):=by kernel_rfl
def acj:Mq G N [iI i0,iI i1,J l2,fq r3]=(bif aV i1 (ln r3)then bif ck 0 i0 then ae [J (sT (zp l2) Rz),fq r3]else aN [J (sT (zp l2) Rz),fq r3]else aN [J (sT (zp l2) Rz),fq r3]:aJ):=by kernel_rfl
def acv:HG G N (n+1) [iI i0,iI i1,J l2,J l3,fq r4]=(bO (Mq G N [iI i0,iI i1,J (sT (zp l2) Rz),fq r4]) λq1 o1=>bif bQ q1 then br i1 (gR o1 1)<|aP (dw (i1.toNat) ((gR o1 1).length))<|bO (G xH [J (cO dD 2 (aD (gR o1 1) i1)),iI i0,aw l3]) λ_ o2=>br i1 (gR o1 1)<|aP (dw (i1.toNat) ((gR o1 1).length))<|HG G N n [iI (gI o2 1),cz i1,J (sT (zp (gC o1 0)) pq),aw l3,fq ((gR o1 1).set i1.toNat (setAt (aD (gR o1 1) i1) 2 (dv (gC o2 0))))]else ae [J (sT (zp (gC o1 0)) pq),aw l3,fq (gR o1 1)]:aJ):=by kernel_rfl
def axp:ca CX EE G N M4 [J l0,iI i1,J l2]=(aP (lu ((0+(gR l0 2).length)*312) 140737488355328)<|bO (HG G N N [iI i1,iI 0,J (sT (zp l0) pq),aw l2,fq ((([]:aZ))++(gR l0 2))]) λ_ o3=>ae [J (sT (zp (gC o3 0)) qD),fq (gR o3 2)]:aJ):=by kernel_rfl
def acR:HO G N (n+1) [aa r0,iI i1,iI i2,aa r3,iI i4,iI i5]=(bif aV i5 i4 then br i5 r3<|bif aV (gI (aD r3 i5) 0) i1 then bZ else bif aV i2 (gI (aD r3 i5) 0)then bZ else bif aV 0 i5 then br (bx (i5- 1)) r0<|bif ck (gI (aD r3 i5) 0) (gI (aD r0 (bx (i5- 1))) 0)then bZ else HO G N n [aa r0,iI i1,iI i2,aa r3,iI i4,cz i5]else HO G N n [aa r0,iI i1,iI i2,aa r3,iI i4,cz i5]else aN []:aJ):=by kernel_rfl
def aye:ca CX EE G N Et [aa r0,iI i1,iI i2]=(bO (HO G N N [aa r0,iI i1,iI i2,aa r0,iI (ln r0),iI 0]) λq1 o1=>bif bQ q1 then ae [ak (gB o1 0)]else c8:aJ):=by kernel_rfl
def ave:ca CX EE G N US [iI i0,J l1]=(br i0 (gR l1 0)<|bif gB (aD (gR l1 0) i0) 3 then ae [cu,J [bJ (gR l1 0)]]else br i0 (gR l1 0)<|ae [ak (gI (aD (gR l1 0) i0) 0 != 1),J [bJ (gR l1 0)]]:aJ):=by kernel_rfl
def aa4:Hg G N (n+1) [aa r0,iI i1,iI i2,J l3]=(bif aV i2 i1 then br i2 r0<|bO (G US [iI (gI (aD r0 i2) 0),J [bJ (gR l3 0)]]) λ_ o1=>bif gB o1 0 then ae [iI i2,J [bJ (gR (gC o1 1) 0)]]else Hg G N n [aa r0,iI i1,cz i2,J [bJ (gR (gC o1 1) 0)]]else aN [J [bJ (gR l3 0)]]:aJ):=by kernel_rfl
def abi:ca CX EE G N SV [aa r0,J l1]=(bO (Hg G N N [aa r0,iI (ln r0),iI 0,J [bJ (gR l1 0)]]) λq2 o2=>bif bQ q2 then ae [iI (gI o2 0),J [bJ (gR (gC o2 1) 0)]]else ae [iI (-1),J [bJ (gR (gC o2 0) 0)]]:aJ):=by kernel_rfl
def aoX:ca CX EE G N SP [aa r0,J l1]=(bO (G SV [aa r0,J [bJ (gR l1 0)]]) λ_ o1=>ae [ak (ck 0 (gI o1 0)),J [bJ (gR (gC o1 1) 0)]]:aJ):=by kernel_rfl
def au4:U8 G N [J l0]=(bif aV (ln (gR l0 0)) 1 then aN [aq,J [bJ (gR l0 0)]]else bif aV 2048 (ln (gR l0 0))then aN [aq,J [bJ (gR l0 0)]]else ae [J [bJ (gR l0 0)]]:aJ):=by kernel_rfl
def arq:TP G N [J l0]=(bif aV (gI l0 0) 1 then aN [aq,gL l0]else bif aV 16384 (gI l0 0)then aN [aq,gL l0]else ae [gL l0]:aJ):=by kernel_rfl
def aqS:TA G N [J l0,J l1]=(bif gI l1 0 != 1 then aN [aq,J [bJ (gR l0 0)],gL l1]else bif gI l1 1 != 0 then aN [aq,J [bJ (gR l0 0)],gL l1]else bif gI l1 2 != 0 then aN [aq,J [bJ (gR l0 0)],gL l1]else bO (G Et [aa (gR l1 4),iI 0,iI (bx (ln (gR l0 0)- 1))]) λ_ o3=>bif !(gB o3 0)then aN [aq,J [bJ (gR l0 0)],gL l1]else ae [J [bJ (gR l0 0)],gL l1]:aJ):=by kernel_rfl
def aci:Bg G N (n+1) [iI i0,bJ r1,iI i2,iI i3,J l4]=(bif aV i3 i2 then br i3 r1<|bO (TP G N [gL (aD r1 i3)]) λq2 o2=>bif bQ q2 then bif !(gB (gC o2 0) 3)then bif aV 0 (ln (gR (gC o2 0) 4))then ae [aq,J [bJ (gR l4 0)]]else bif aV (gI (gC o2 0) 1) (-2147483648)then ae [aq,J [bJ (gR l4 0)]]else bif aV 2147483647 (gI (gC o2 0) 2)then ae [aq,J [bJ (gR l4 0)]]else bif aV (gI (gC o2 0) 2) (gI (gC o2 0) 1)then ae [aq,J [bJ (gR l4 0)]]else Bg G N n [iI (bx (i0+gI (gC o2 0) 0)),bJ r1,iI i2,cz i3,J [bJ (gR l4 0)]]else bO (TA G N [J [bJ (gR l4 0)],gL (gC o2 0)]) λq4 o4=>bif bQ q4 then bO (G SP [aa (gR (gC o4 1) 4),J [bJ (gR (gC o4 0) 0)]]) λ_ o5=>bif gB o5 0 then ae [aq,J [bJ (gR (gC o5 1) 0)]]else Bg G N n [iI (bx (i0+gI (gC o2 0) 0)),bJ r1,iI i2,cz i3,J [bJ (gR (gC o5 1) 0)]]else ae [ak (gB o4 0),J [bJ (gR (gC o4 1) 0)]]else ae [ak (gB o2 0),J [bJ (gR l4 0)]]else aN [iI i0,J [bJ (gR l4 0)]]:aJ):=by kernel_rfl
def Vf:ca CX EE G N Vx [bJ r0]=(bO (U8 G N [J [bJ r0]]) λq1 o1=>bif bQ q1 then bO (Bg G N N [iI 0,bJ (gR (gC o1 0) 0),iI (ln (gR (gC o1 0) 0)),iI 0,J [bJ (gR (gC o1 0) 0)]]) λq6 o6=>bif bQ q6 then ae [ak (gB o6 0)]else ae [ak (ck (gI o6 0) 16384)]else ae [ak (gB o1 0)]:aJ):=by kernel_rfl
def at3:ca CX EE G N Ut [.int .u64 i0,.int .u64 i1]=(ae [.int .u64 (IntKind.wrap .u64 ((IntKind.wrap .u64 ((IntKind.wrap .u64 (Int.fdiv i0 (2^32)*Int.fdiv i1 (2^32)))+(Int.fdiv (IntKind.wrap .u64 ((IntKind.wrap .u64 (Int.fdiv i0 (2^32)*(IntKind.wrap .u64 ((BitVec.ofInt 64 i1&&&BitVec.ofInt 64 4294967295).toNat :Int))))+(Int.fdiv (IntKind.wrap .u64 ((IntKind.wrap .u64 ((BitVec.ofInt 64 i0&&&BitVec.ofInt 64 4294967295).toNat :Int))*(IntKind.wrap .u64 ((BitVec.ofInt 64 i1&&&BitVec.ofInt 64 4294967295).toNat :Int)))) (2^32)))) (2^32))))+(Int.fdiv (IntKind.wrap .u64 ((IntKind.wrap .u64 ((BitVec.ofInt 64 ((IntKind.wrap .u64 ((IntKind.wrap .u64 (Int.fdiv i0 (2^32)*(IntKind.wrap .u64 ((BitVec.ofInt 64 i1&&&BitVec.ofInt 64 4294967295).toNat :Int))))+(Int.fdiv (IntKind.wrap .u64 ((IntKind.wrap .u64 ((BitVec.ofInt 64 i0&&&BitVec.ofInt 64 4294967295).toNat :Int))*(IntKind.wrap .u64 ((BitVec.ofInt 64 i1&&&BitVec.ofInt 64 4294967295).toNat :Int)))) (2^32)))))&&&BitVec.ofInt 64 4294967295).toNat :Int))+(IntKind.wrap .u64 ((IntKind.wrap .u64 ((BitVec.ofInt 64 i0&&&BitVec.ofInt 64 4294967295).toNat :Int))*Int.fdiv i1 (2^32))))) (2^32)))),.int .u64 (IntKind.wrap .u64 (i0*i1))]:aJ):=by kernel_rfl
def awo:ca CX EE G N Vc [.int .u64 i0,.int .u64 i1]=(bO (G Ut [.int .u64 i0,.int .u64 i1]) λ_ o1=>ae [.int .u64 (gI o1 0),.int .u64 (gI o1 1)]:aJ):=by kernel_rfl
def aqe:Tg G N [iI i0]=(bif aV i0 0 then none else ae []:aJ):=by kernel_rfl
def apV:S9 G N [.int .u64 i0,.int .u64 i1]=(bif aV 0 i0 then none else bif aV 9223372036854775807 i1 then none else ae []:aJ):=by kernel_rfl
def apI:Hk G N (n+1) [iI i0,ah r1]=(bif aV i0 (ln r1)then aP (ck 0 i0&&ck i0 (ln r1)&&ck (ln r1) (ln r1))<|aP (ck 0 i0&&ck i0 (ln r1))<|Hk G N n [iI (bx (i0+(((min ((r1.drop 0).take i0.toNat).length (r1.length- i0.toNat):Nat):Int)))),ah (tj r1 i0.toNat (r1.length- i0.toNat) ((r1.drop 0).take i0.toNat))]else ae [ah r1]:aJ):=by kernel_rfl
def arv:ca CX EE G N TB [ah r0,iI i1]=(bO (Tg G N [iI i1]) λ_ o1=>bO (G Vc [.int .u64 (IntKind.wrap .u64 (ln r0)),.int .u64 (IntKind.wrap .u64 i1)]) λ_ o2=>bO (S9 G N [.int .u64 (gI o2 0),.int .u64 (gI o2 1)]) λ_ o3=>aP (ck 0 (bx (gI o2 1))&&ck (bx (gI o2 1)) (bx (gI o2 1))&&ck ((bx (gI o2 1))*24) 140737488355328)<|bO (Hk G N N [iI (((min r0.length ((List.replicate ((bx (gI o2 1)).toNat) ([iI 0,iI 0,iI 0]:Row)).length):Nat):Int)),ah (tj (List.replicate ((bx (gI o2 1)).toNat) ([iI 0,iI 0,iI 0]:Row)) 0 ((List.replicate ((bx (gI o2 1)).toNat) ([iI 0,iI 0,iI 0]:Row)).length) r0)]) λ_ o4=>ae [ah (gR o4 0)]:aJ):=by kernel_rfl
def acO:Bp G N (n+1) [iI i0,iI i1,aa r2,iI i3,iI i4,.ab 0 r5]=(bif aV i4 i3 then br i4 r2<|bif aV (gI (aD r2 i4) 0) i0 then ae [aq,.ab 0 (ay (au r5))]else bif aV i1 (gI (aD r2 i4) 0)then ae [aq,.ab 0 (ay (au r5))]else match az.dM (au r5) (iI (gI (aD r2 i4) 0))with|some m1=>(bif m1.toB then ae [aq,.ab 0 (ay (au r5))]else Bp G N n [iI i0,iI i1,aa r2,iI i3,cz i4,.ab 0 (ay (az.iK (au r5) (iI (gI (aD r2 i4) 0)) (cu)))])|none=>(Bp G N n [iI i0,iI i1,aa r2,iI i3,cz i4,.ab 0 (ay (az.iK (au r5) (iI (gI (aD r2 i4) 0)) (cu)))])else aN [.ab 0 (ay (au r5))]:aJ):=by kernel_rfl
def ayd:ca CX EE G N H0 [aa r0,iI i1,iI i2]=(bO (Bp G N N [iI i1,iI i2,aa r0,iI (ln r0),iI 0,.ab 0 (ay (([]:List (AV×AV))))]) λq2 o2=>bif bQ q2 then ae [ak (gB o2 0)]else c8:aJ):=by kernel_rfl
def ach:D9 G N (n+1) [iI i0,aa r1,iI i2,iI i3,ah r4]=(bif aV i3 i2 then br i3 r1<|br (gI (aD r1 i3) 0) r4<|aP (dw ((gI (aD r1 i3) 0).toNat) (r4.length))<|bif ck 0 (gI (aD r4 (gI (aD r1 i3) 0)) 0)then ae [aq,ah r4,ah cy]else br (gI (aD r1 i3) 0) r4<|aP (dw ((gI (aD r1 i3) 0).toNat) (r4.length))<|D9 G N n [iI i0,aa r1,iI i2,cz i3,ah (r4.set ((gI (aD r1 i3) 0).toNat) (setAt (aD r4 (gI (aD r1 i3) 0)) 0 [iI i0]))]else aN [ah r4]:aJ):=by kernel_rfl
def ac7:El G N (n+1) [nT r0,iI i1,iI i2,J l3,ah r4]=(bif aV i2 i1 then br i2 r0<|bO (G Et [aa (gR (aD r0 i2) 1),iI 0,iI (bx (ln (gR l3 0)- 1))]) λ_ o2=>bif !(gB o2 0)then ae [aq,bK l3,ah r4,ah cy]else bO (D9 G N N [iI i2,aa (gR (aD r0 i2) 1),iI (ln (gR (aD r0 i2) 1)),iI 0,ah r4]) λq3 o3=>bif bQ q3 then ae [ak (gB o3 0),bK l3,ah (gR o3 1),ah (gR o3 2)]else El G N n [nT r0,iI i1,cz i2,bK l3,ah (gR o3 0)]else aN [bK l3,ah r4]:aJ):=by kernel_rfl
def adf:MW G N [J l0,ah r1]=(bO (El G N N [nT (gR l0 3),iI (ln (gR l0 3)),iI 0,bK l0,ah r1]) λq4 o4=>bif bQ q4 then aN [ak (gB o4 0),bK (gC o4 1),ah (gR o4 2),ah (gR o4 3)]else ae [bK (gC o4 0),ah (gR o4 1)]:aJ):=by kernel_rfl
def ap2:Te G N [aa r0,J l1]=(bif aV 8 (ln r0)then aN [aq,bK l1,ah cy]else bO (G H0 [aa r0,iI 0,iI (bx (ln (gR l1 0)- 1))]) λ_ o6=>bif !(gB o6 0)then aN [aq,bK l1,ah cy]else ae [bK l1]:aJ):=by kernel_rfl
def apu:S1 G N [iI i0,J l1,ah r2,J l3]=(br i0 (gR l1 0)<|bif gI (aD (gR l1 0) i0) 0 != 1 then aN [aq,bK l1,ah r2,HK l3,ah cy]else br i0 r2<|aP (dw (i0.toNat) (r2.length))<|bif !(((gI (aD r2 i0) 0)==(gI l3 0))&&(((gI (aD r2 i0) 1)==(gI l3 1))&&(((gI (aD r2 i0) 2)==(gI l3 2))&&true)))then br i0 r2<|aP (dw (i0.toNat) (r2.length))<|bif !(((gI (aD r2 i0) 0)==(-1))&&(((gI (aD r2 i0) 1)==(-1))&&(((gI (aD r2 i0) 2)==(-1))&&true)))then aN [aq,bK l1,ah r2,HK l3,ah cy]else ae [bK l1,ah r2,HK l3]else ae [bK l1,ah r2,HK l3]:aJ):=by kernel_rfl
def aby:DV G N (n+1) [iI i0,iI i1,aa r2,iI i3,iI i4,J l5,ah r6]=(bif aV i4 i3 then br i4 r2<|bO (S1 G N [iI (gI (aD r2 i4) 0),bK l5,ah r6,J [iI (-1),iI i0,iI i1]]) λq8 o8=>bif bQ q8 then br (gI (aD r2 i4) 0) (gR o8 1)<|aP (dw ((gI (aD r2 i4) 0).toNat) ((gR o8 1).length))<|DV G N n [iI i0,iI i1,aa r2,iI i3,cz i4,bK (gC o8 0),ah ((gR o8 1).set ((gI (aD r2 i4) 0).toNat) (setAt (aD (gR o8 1) (gI (aD r2 i4) 0)) 0 (acE (gC o8 2))))]else ae [ak (gB o8 0),bK (gC o8 1),ah (gR o8 2),ah (gR o8 4)]else aN [bK l5,ah r6]:aJ):=by kernel_rfl
def Tm:Ba G N (n+1) [iI i0,iI i1,iI i2,iI i3,J l4,ah r5,BF r6]=(bif aV i3 i2 then br i3 r6<|aP (dw (i3.toNat) (r6.length))<|bO (Te G N [aa (gR (aD r6 i3) 0),bK l4]) λq7 o7=>bif bQ q7 then bO (DV G N N [iI i0,iI i1,aa (gR (aD r6 i3) 0),iI (ln (gR (aD r6 i3) 0)),iI 0,bK (gC o7 0),ah r5]) λq9 o9=>bif bQ q9 then ae [ak (gB o9 0),bK (gC o9 1),ah (gR o9 2),BF r6,ah (gR o9 3)]else Ba G N n [iI i0,iI i1,iI i2,cz i3,bK (gC o9 0),ah (gR o9 1),BF r6]else ae [ak (gB o7 0),bK (gC o7 1),ah r5,BF r6,ah (gR o7 2)]else aN [bK l4,ah r5,BF r6]:aJ):=by kernel_rfl
def acg:D8 G N (n+1) [iI i0,Br r1,iI i2,iI i3,J l4,ah r5]=(bif aV i3 i2 then br i3 r1<|bO (Ba G N N [iI i0,iI i3,iI 2,iI 0,bK l4,ah r5,BF (([[aa (gR (aD r1 i3) 0)],[aa (gR (aD r1 i3) 1)]]:aZ))]) λmy cL=>bif bQ my then ae [ak (gB cL 0),bK (gC cL 1),ah (gR cL 2),ah (gR cL 4)]else D8 G N n [iI i0,Br r1,iI i2,cz i3,bK (gC cL 0),ah (gR cL 1)]else aN [bK l4,ah r5]:aJ):=by kernel_rfl
def acQ:Ef G N (n+1) [fq r0,iI i1,iI i2,J l3,ah r4]=(bif aV i2 i1 then br i2 r0<|bO (D8 G N N [iI i2,Br (gR (aD r0 i2) 1),iI (ln (gR (aD r0 i2) 1)),iI 0,bK l3,ah r4]) λqH cP=>bif bQ qH then ae [ak (gB cP 0),bK (gC cP 1),ah (gR cP 2),ah (gR cP 3)]else Ef G N n [fq r0,iI i1,cz i2,bK (gC cP 0),ah (gR cP 1)]else aN [bK l3,ah r4]:aJ):=by kernel_rfl
def ade:MV G N [J l0,ah r1]=(bO (Ef G N N [fq (gR l0 2),iI (ln (gR l0 2)),iI 0,bK l0,ah r1]) λpz dc=>bif bQ pz then aN [ak (gB dc 0),bK (gC dc 1),ah (gR dc 2),ah (gR dc 3)]else ae [bK (gC dc 0),ah (gR dc 1)]:aJ):=by kernel_rfl
def acf:HA G N (n+1) [aa r0,iI i1,iI i2,ah r3]=(bif aV i2 i1 then br i2 r0<|br (gI (aD r0 i2) 0) r3<|aP (dw ((gI (aD r0 i2) 0).toNat) (r3.length))<|bif !(((gI (aD r3 (gI (aD r0 i2) 0)) 0)==(-1))&&(((gI (aD r3 (gI (aD r0 i2) 0)) 1)==(-1))&&(((gI (aD r3 (gI (aD r0 i2) 0)) 2)==(-1))&&true)))then ae [aq,ah r3,ah cy]else HA G N n [aa r0,iI i1,cz i2,ah r3]else aN [ah r3]:aJ):=by kernel_rfl
def acP:HN G N (n+1) [bJ r0,iI i1,iI i2,ah r3]=(bif aV i2 i1 then br i2 r0<|bO (HA G N N [aa (gR (aD r0 i2) 4),iI (ln (gR (aD r0 i2) 4)),iI 0,ah r3]) λvz c7=>bif bQ vz then ae [ak (gB c7 0),ah (gR c7 1),ah (gR c7 2)]else HN G N n [bJ r0,iI i1,cz i2,ah (gR c7 0)]else aN [ah r3]:aJ):=by kernel_rfl
def ay4:ca CX EE G N NJ [J l0]=(bO (G TB [ah (([[iI (-1),iI (-1),iI (-1)]]:aZ)),iI (ln (gR l0 0))]) λ_ o1=>bO (MW G N [bK l0,ah (gR o1 0)]) λq5 o5=>bif bQ q5 then bO (MV G N [bK (gC o5 0),ah (gR o5 1)]) λyL eV=>bif bQ yL then bO (HN G N N [bJ (gR (gC eV 0) 0),iI (ln (gR (gC eV 0) 0)),iI 0,ah (gR eV 1)]) λvv dh=>bif bQ vv then ae [ak (gB dh 0),ah (gR dh 2)]else ae [cu,ah (gR dh 0)]else ae [ak (gB eV 0),ah (gR eV 3)]else ae [ak (gB o5 0),ah (gR o5 3)]:aJ):=by kernel_rfl
def Uw:HM G N (n+1) [iI i0,aT r1,iI i2,iI i3,J l4]=(bif aV i3 i2 then br i3 r1<|bO (G Ig [bR (aD r1 i3),cz i0,J [iI (gI l4 0)]]) λ_ o1=>bif !(gB o1 0)then ae [aq,J [iI (gI (gC o1 1) 0)]]else HM G N n [iI i0,aT r1,iI i2,cz i3,J [iI (gI (gC o1 1) 0)]]else aN [J [iI (gI l4 0)]]:aJ):=by kernel_rfl
def VU:ca CX EE G N Ig [J l0,iI i1,J l2]=(bif aV (bx (gI l2 0- 1)) 0 then ae [aq,J [iI (bx (gI l2 0- 1))]]else bif ck 64 i1 then ae [aq,J [iI (bx (gI l2 0- 1))]]else bO (HM G N N [iI i1,aT (gR l0 8),iI (ln (gR l0 8)),iI 0,J [iI (bx (gI l2 0- 1))]]) λq2 o2=>bif bQ q2 then ae [ak (gB o2 0),J [iI (gI (gC o2 1) 0)]]else ae [cu,J [iI (gI (gC o2 0) 0)]]:aJ):=by kernel_rfl
def axt:ca CX EE G N adM [J l0,J l1,aT r2]=(ae [bR l0,J (sT (nA l1) [(2,iI (gI l0 2)),(8,.aA 2)]),aT r2]:aJ):=by kernel_rfl
def Vg:ca CX EE G N M5 [J l0,J l1,aT r2]=(ae [bR l0,J (sT (nA l1) [(3,iI (gI l0 3)),(8,.aA 2)]),aT r2]:aJ):=by kernel_rfl
def adF:ca CX EE G N Vz [J l0,J l1,aT r2]=(ae [bR l0,J (sT (nA l1) [(4,iI (gI l0 4)),(8,.aA 2)]),aT r2]:aJ):=by kernel_rfl
def axs:ca CX EE G N adL [J l0,J l1,aT r2]=(ae [bR l0,J (sT (nA l1) [(5,iI (gI l0 5)),(8,.aA 2)]),aT r2]:aJ):=by kernel_rfl
def adE:ca CX EE G N Vy [J l0,J l1,aT r2]=(ae [bR l0,J (sT (nA l1) [(1,bE (gI l0 1)),(8,.aA 2)]),aT r2]:aJ):=by kernel_rfl
def axr:ca CX EE G N adK [J l0,J l1,aT r2]=(ae [bR l0,J (sT (nA l1) [(6,iI (gI l0 6)),(7,iI (gI l0 7)),(8,.aA 2)]),aT r2]:aJ):=by kernel_rfl
def atY:UJ G N [bE i0]=(bif i0==1 then c8 else bif i0==11 then c8 else ae [ak (i0==14)]:aJ):=by kernel_rfl
def ars:TQ G N [bE i0]=(bif i0==6 then c8 else bif i0==7 then c8 else ae [ak (i0==10)]:aJ):=by kernel_rfl
end
end Go.Proofs.YtomkobcipaligaaGreatDoor

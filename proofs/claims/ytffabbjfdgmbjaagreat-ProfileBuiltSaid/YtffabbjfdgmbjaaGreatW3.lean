/-
  Equations. Printed by a program.
-/
import Derived.Test.YtffabbjfdgmbjaaGreatW2
import Derived.RangeFuncNested
import Derived.ProofKit
import Derived.OpenShut
import Derived.Carry
import Derived.ChangeArms
import Derived.Test.YtffabbjfdgmbjaaGreatChecked
import Derived.KernelRfl
set_option linter.all false
set_option linter.deprecated false
set_option maxHeartbeats 4000000
namespace Go.ae
def JW{p:Prop}(h:p:=by
 have eu:=hs.grow g1;obtain⟨F2,ρ2,i2,s2,g2⟩:=hr (nt:=nt) (rdc:=rdc) (a:=a) i1 ⟨eu.env,eu.size,eu.defs,eu.rd,eu.kept⟩;exact⟨F2,ρ2,i2,s2,g1.trans g2⟩):p:=h
def Sb{p:Prop}(h:p:=by
 rw [sV]at eG;split at eG
 ·rename_i ej;subst ej;split at eG
  ·injection eG with eG;subst eG;rw [hk]at gb;injection gb with gb;subst gb;rfl
  ·cases eG
 ·exact pF q1 gb eG):p:=h
def ady{p:Prop}(h:p:=by
 have eu:=hs.grow g1;obtain⟨F2,ρ2,i2,s2,g2⟩:=hr (nt:=nt) (rdc:=rdc) (a:=a) i1 ⟨eu.env.Tf r1,eu.size,eu.defs,eu.rd,eu.kept⟩;exact⟨F2,ρ2,i2,s2,g1.trans g2⟩):p:=h
def sd{p:Prop}(h:p:=by exact pE hX cs h):p:=h
def Ju{p:Prop}(h:p:=by rw [hI.len];exact(cy.1 hb).1):p:=h
def Rm{p:Prop}(h:p:=by simp only [zz,bU.rows];rw [eq_of_beq h]):p:=h
def Rj{p:Prop}(h:p:=by simpa using gK q1):p:=h
def abl{p:Prop}(h:p:=by
 rw [bc]at h;simp only [vu];rw [arw h.2,ct h.1]):p:=h
def Jg{p:Prop}(h:p:=by simp [tA]at h):p:=h
def Jf{p:Prop}(h:p:=by simp [xk]at h):p:=h
def Je{p:Prop}(h:p:=by simp [zR]at h):p:=h
end Go.ae
namespace Go.ae
def Pw:=@List.headD_cons
def Pv:=@List.tail_cons
end Go.ae
namespace Go.ae
open Go
noncomputable section
variable {X:Cx} {R O:Type}
variable{x:AV}{tmps:Array Value}{S:Sc}{st:St}{w w0:World}{F:aO}{aM:cp}{ρ:aT}
inductive du where
 |cell(k:Kind)
 |aa(j:Nat)
 |ptr(j i off:Nat)
 |gG(j:Nat)
 |mpr(j:Nat)
 |gM
 |jx
 |fn(f:FuncId)
 |cl(f:FuncId)(ps:List (Nat×Nat×Nat))
 |GV(f:FuncId)(ps:List (Nat×Nat×Nat))
 |vw(j:Nat)
 |fD
 |ja
 |any
inductive Sh where
 |one(s:du)
 |agg(ss:List du)
 |dE(f:FuncId)(ss:List du)
inductive dD where
 |row(t:TypeId)
 |di(t:TypeId)
 |var(ks:dv)(ss:List du)
 |arr(ks:dv)
 |mp(k:Kind)(ag:Bool)(ks:dv)
 |loop(s:Nat)(es:List (Nat×Sh))(uZ:Option Ex)
 |gone
 |aU(t:TypeId)
def AV.eD:AV->List AV| .dE _ _ cs=>cs|_=>[]
def AV.ar2:AV->List AV| .dE _ fs _=>fs|_=>[]
def AV.id:AV->Nat| .aa id=>id| .ptr id _ _=>id| .gG id=>id| .mp id=>id| .vw id _ _=>id|_=>0
def bU.rows:bU->List Row| .row _ xs=>xs| .di _ xs=>xs| .aU _ xs _=>xs|_=>[]
def bU.cells:bU->List AV| .var _ cs=>cs|_=>[]
def bU.aq:bU->List (AV×AV)| .map _ _ _ es=>es|_=>[]
def bU.Tk:bU->List (Nat×AV)| .loop _ env _ _=>env|_=>[]
def vu:du->AV->AV
 | .cell k,x=>ld k x
 | .aa j,_=> .aa j
 | .ptr j i off,_=> .ptr j i off
 | .gG j,_=> .gG j
 | .mpr j,_=> .mp j
 | .gM,_=> .gM
 | .jx,_=> .jx
 | .fn f,_=> .dE f [] []
 | .cl f ps,_=> .dE f [] (ps.map λp=> .ptr p.1 p.2.1 p.2.2)
 | .GV f ps,_=> .dE f (ps.map λp=> .ptr p.1 p.2.1 p.2.2) []
 | .vw j,x=> .vw j x.vlo x.vn
 | .fD,_=> .fD
 | .ja,_=> .ja
 | .any,x=>x
def zQ:List (Nat×Nat×Nat)->aD->Bool
 | [],[]=>true
 |p::ps,.ptr j i off::cs=>Nat.beq j p.1&&Nat.beq i p.2.1&&Nat.beq off p.2.2&&zQ ps cs
 |_,_=>false
def arw:∀{ps:List (Nat×Nat×Nat)} {cs:aD},zQ ps cs=true->(ps.map λp=>AV.ptr p.1 p.2.1 p.2.2)=cs:=by
 intro ps cs h
 induction ps generalizing cs with
 |nil=>
  cases cs with
  |nil=>rfl
  |cons _ _=>simp [zQ]at h
 |cons p ps ih=>
  cases cs with
  |nil=>simp [zQ]at h
  |cons c cs=>
   cases c<;>simp only [zQ,jG]at h
   rw [bc,bc,bc]at h;rw [fW,ih h.2,ct h.1.1.1,ct h.1.1.2,ct h.1.2]
def Lq:du->AV->Bool
 | .cell k,x=>fj k x
 | .aa j,.aa i=>Nat.beq i j
 | .ptr j i off,.ptr j' i' u6=>Nat.beq j' j&&Nat.beq i' i&&Nat.beq u6 off
 | .gG j,.gG i=>Nat.beq i j
 | .mpr j,.mp i=>Nat.beq i j
 | .gM,.gM =>true
 | .jx,.jx =>true
 | .fn f,.dE g [] []=>Nat.beq g f
 | .cl f ps,.dE g [] cs=>Nat.beq g f&&zQ ps cs
 | .GV f ps,.dE g cs []=>Nat.beq g f&&zQ ps cs
 | .vw j,.vw i _ _=>Nat.beq i j
 | .fD,.fD =>true
 | .ja,.ja =>true
 | .any,_=>true
 |_,_=>false
def I3{s:du}(h:Lq s x=true):vu s x=x:=by
 unfold Lq at h;split at h
 ·exact yt h
 ·rw [ct h];rfl
 ·rw [bc,bc]at h;rw [ct h.1.1,ct h.1.2,ct h.2];rfl
 ·rw [ct h];rfl
 ·rw [ct h];rfl
 ·rfl
 ·rfl
 ·rw [ct h];rfl
 ·exact abl
 ·exact abl
 ·simp only [vu,AV.vlo,AV.vn];rw [ct h]
 ·rfl
 ·rfl
 ·rfl
 ·cases h
def BT:List du->aD->aD
 | [],_=>[]
 |s::ss,xs=>vu s (xs.headD .top)::BT ss xs.tail
def tA:List du->aD->Bool
 | [],[]=>true
 |s::ss,x::xs=>Lq s x&&tA ss xs
 |_,_=>false
def IG:∀{ss:List du} {xs:aD},tA ss xs=true->BT ss xs=xs
 | [],[],_=>rfl
 |s::ss,x::xs,h=>by
  simp only [tA,bc]at h;simp only [BT,Pw,Pv];rw [I3 h.1,IG h.2]
 | [],_::_,h=>Jg
 |_::_,[],h=>Jg
def F8:Sh->AV->AV
 | .one s,x=>vu s x
 | .agg ss,x=> .agg (BT ss x.cells)
 | .dE f ss,x=> .dE f [] (BT ss x.eD)
def Cs:Sh->AV->Bool
 | .one s,x=>Lq s x
 | .agg ss,.agg cs=>tA ss cs
 | .dE f ss,.dE g [] cs=>Nat.beq g f&&tA ss cs
 |_,_=>false
def QK{s:Sh}(h:Cs s x=true):F8 s x=x:=by
 unfold Cs at h;split at h
 ·exact I3 h
 ·simp only [F8,AV.cells];rw [IG h]
 ·rw [bc]at h;simp only [F8,AV.eD];rw [IG h.2,ct h.1]
 ·cases h
def Kh:List (Nat×Sh)->bA->bA
 | [],_=>[]
 |e::es,env=>(e.1,F8 e.2 (env.headD (0,.top)).2)::Kh es env.tail
def xk:List (Nat×Sh)->bA->Bool
 | [],[]=>true
 |e::es,x::env=>Nat.beq x.1 e.1&&Cs e.2 x.2&&xk es env
 |_,_=>false
def ZG:∀{es:List (Nat×Sh)} {env:bA},xk es env=true->Kh es env=env
 | [],[],_=>rfl
 |e::es,x::env,h=>by
  simp only [xk,bc]at h;simp only [Kh,Pw,Pv];rw [QK h.1.2,ZG h.2,<-ct h.1.1]
 | [],_::_,h=>Jf
 |_::_,[],h=>Jf
def Ua:Option Ex->Option Ex->Bool
 |none,none=>true
 |some .ret,some .ret =>true
 |some (.exit i),some (.exit j)=>Nat.beq i j
 |_,_=>false
def aaM{a b:Option Ex}(h:Ua a b=true):a=b:=by
 unfold Ua at h;split at h
 ·rfl
 ·rfl
 ·rw [ct h]
 ·cases h
def zz:dD->bU->bU
 | .row t,b=> .row t b.rows
 | .di t,b=> .di t b.rows
 | .var ks ss,b=> .var ks (BT ss b.cells)
 | .arr ks,b=> .var ks b.cells
 | .mp k ag ks,b=> .map k ag ks b.aq
 | .loop s es p,b=> .loop s (Kh es b.Tk) false p
 | .gone,_=> .dead
 | .aU t,b=> .aU t b.rows none
def okB:dD->bU->Bool
 | .row t,.row t' _=>t'==t
 | .di t,.di t' _=>t'==t
 | .var ks ss,.var qH cs=>qH==ks&&tA ss cs
 | .arr ks,.var qH _=>qH==ks
 | .mp k ag ks,.map k' Vm qH _=>k'==k&&Vm==ag&&qH==ks
 | .loop s es p,.loop s' env false p'=>Nat.beq s' s&&xk es env&&Ua p' p
 | .gone,.dead =>true
 | .aU t,.aU t' _ none=>t'==t
 |_,_=>false
def aqO{s:dD}{b:bU}(h:okB s b=true):zz s b=b:=by
 unfold okB at h;split at h
 ·exact Rm
 ·exact Rm
 ·rw [bc]at h;simp only [zz,bU.cells];rw [IG h.2,eq_of_beq h.1]
 ·simp only [zz,bU.cells];rw [eq_of_beq h]
 ·rw [bc,bc]at h;simp only [zz,bU.aq];rw [eq_of_beq h.1.1,eq_of_beq h.1.2,eq_of_beq h.2]
 ·rw [bc,bc]at h;simp only [zz,bU.Tk];rw [ZG h.1.2,ct h.1.1,aaM h.2]
 ·rfl
 ·exact Rm
 ·cases h
def La:List dD->ar->ar
 | [],_=>[]
 |s::ss,M=>zz s (M.headD .dead)::La ss M.tail
def zR:List dD->ar->Bool
 | [],[]=>true
 |s::ss,b::M=>okB s b&&zR ss M
 |_,_=>false
def QL:∀{ss:List dD} {M:ar},zR ss M=true->La ss M=M
 | [],[],_=>rfl
 |s::ss,x::xs,h=>by
  simp only [zR,bc]at h;simp only [La,Pw,Pv];rw [aqO h.1,QL h.2]
 | [],_::_,h=>Je
 |_::_,[],h=>Je
structure aj where
 env:List (Nat×Sh)
 mem:List dD
variable{σ:aj}
def zy(lk:Nat->AV):List (Nat×Sh)->bA
 | []=>[]
 |(t,s)::es=>(t,F8 s (lk t))::zy lk es
def Ct(lk:Nat->AV):List (Nat×Sh)->Bool
 | []=>true
 |(t,s)::es=>Cs s (lk t)&&Ct lk es
def af5(σ:aj)(lk:Nat->AV)(M:ar):St:=⟨zy lk σ.env,La σ.mem M,[],.qE⟩
def YP{lk:Nat->AV}:∀{es:List (Nat×Sh)},Ct lk es=true->∀t,look (zy lk es) t=lk t∨look (zy lk es) t= .top
 | [],_,t=> .inr rfl
 |(u,s)::es,h,t=>by
  simp only [Ct,bc]at h;simp only [zy,nf,look_nil]
  by_cases ht:t=u
  ·subst ht;simp only [wk,ng];rw [QK h.1];exact .inl rfl
  ·have:(t==u)=false:=by simpa using ht
   simp only [this,jG,ly];exact YP h.2 t
def Bt(σ:aj)(aM:cp)(st:St):St:=af5 σ (λt=>eE (idx aM) 4 (look st.env t)) (ny st.mem aM)
def sY(σ:aj)(aM:cp)(st:St):Bool:=rW st.mem aM&&Ct (λt=>eE (idx aM) 4 (look st.env t)) σ.env&&zR σ.mem (ny st.mem aM)
def H6(h:sY σ aM st=true):rW st.mem aM=true∧(Bt σ aM st).mem =ny st.mem aM∧
 ∀t,look (Bt σ aM st).env t=eE (idx aM) 4 (look st.env t)∨look (Bt σ aM st).env t= .top :=by
 unfold sY at h;rw [bc,bc]at h;exact⟨h.1.1,QL h.2,YP h.1.2⟩
def Po(hX:X.Ok)(h:sY σ aM st=true)(hI:Inv X w0 S F ρ st.mem w)(he:gX X ρ F w st.env tmps):gX X (sub m4 ρ aM) F w (Bt σ aM st).env tmps:=by
 obtain⟨h1,h2,h3⟩:=H6 h;have hs:=Yn h1;have aY:∀i∈aM,i<ρ.length:=λi hi=>by rw [hI.len];exact hs.lt i hi
 intro t;rcases h3 t with e|e
 ·rw [e];exact(he t).eE hX.kinds (Qx aY m4) 4
 ·rw [e];exact .top _
inductive Cv where
 |fp(t:Nat)(k:Kind)
 |mk(t:Nat)(ty:TypeId)
 |Cu(i:bA->ar->Nat)(c:Nat)(ty:TypeId)
 |lr(i:bA->ar->Nat)(c:Nat)(ty:TypeId)
 |K4(i:bA->ar->Nat)(t:TypeId)
 |iW(t:Nat)(ks:dv)
 |mov(t:Nat)
 |xu(i:bA->ar->Nat)(c:Nat)(ty:TypeId)
 |gh(g:Gh)
def gO(X:Cx):List Cv->St->(St->Option R)->Option R
 | [],st,k=>k st
 | .fp t kd::cs,st,k=>fp kd (look st.env t) st.mem λx M=>gO X cs {st with env:=(t,x)::st.env,mem:=M} k
 | .mk t ty::cs,st,k=>
   match look st.env t with
   | .fD =>gO X cs {st with env:=(t,.aa st.mem.length)::st.env,mem:=st.mem++[.row ty []]} k
   |_=>gO X cs st k
 | .Cu i c ty::cs,st,k=>
   match gm st.mem (i st.env st.mem)with
   |some (.var ks xs)=>
    match xs[c]?,ks[c]? with
    |some .fD,some .any =>gO X cs {st with mem:=(st.mem++[bU.row ty []]).set (i st.env st.mem) (.var ks (xs.set c (.aa st.mem.length)))} k
    |_,_=>gO X cs st k
   |_=>gO X cs st k
 | .lr i c ty::cs,st,k=>
   match gm st.mem (i st.env st.mem)with
   |some (.var ks xs)=>
    match xs[c]?,ks[c]? with
    |some .fD,some .any =>gO X cs {st with mem:=st.mem.set (i st.env st.mem) (.var ks (xs.set c (.U ty [])))} k
    |_,_=>gO X cs st k
   |_=>gO X cs st k
 | .iW t ks::cs,st,k=>
   match look st.env t with
   | .agg xs=>aB (Nat.beq xs.length ks.length) (ru ks xs st.mem λys M=>gO X cs {st with env:=(t,.agg ys)::st.env,mem:=M} k)
   |_=>gO X cs st k
 | .gh g::cs,st,k=>Fo X g st.env st.mem λM=>gO X cs {st with mem:=M} k
 | .K4 i t::cs,st,k=>fp (.slice t) (.aa (i st.env st.mem)) st.mem λ_ M=>gO X cs {st with mem:=M} k
 | .mov t::cs,st,k=>
   match look st.env t with
   | .aa id=>
     match gm st.mem id with
     |some (.row ty xs)=>gO X cs {st with env:=(t,.aa st.mem.length)::st.env,mem:=st.mem.set id .dead ++[.row ty xs]} k
     |_=>gO X cs st k
   |_=>gO X cs st k
 | .xu i c ty::cs,st,k=>
   match gm st.mem (i st.env st.mem)with
   |some (.var ks xs)=>
    match xs[c]?,ks[c]? with
    |some (.aa id),some .any =>
     match gm st.mem id with
     |some (.row t rs)=>aB (ty==t) (gO X cs {st with mem:=(st.mem.set id (.di t rs)).set (i st.env st.mem) (.var ks (xs.set c (.U t rs)))} k)
     |some (.di t rs)=>aB (ty==t) (gO X cs {st with mem:=st.mem.set (i st.env st.mem) (.var ks (xs.set c (.U t rs)))} k)
     |_=>gO X cs st k
    |_,_=>gO X cs st k
   |_=>gO X cs st k
def gX.Tf{env:bA}(h:gX X ρ F w env tmps){d:Nat}(hx:aw X.K ρ F w x (tmps.getD d undef)):gX X ρ F w ((d,x)::env) tmps:=by
 intro t;simp only [nf,look_nil]
 by_cases ht:t=d
 ·subst ht;simpa using hx
 ·have:(t==d)=false:=by simpa using ht
  simp only [this,jG,ly];exact h t
def Zx{M M1:ar}{i c id:Nat}{ks:dv}{xs:aD}{t:TypeId}{rs:aH}(hI:Inv X w0 S F ρ M w)(hb:M[i]?=some (.var ks xs))(hx:xs[c]?=some (.aa id))(hk:ks[c]?=some .any)(hM:M1[i]?=some (.var ks xs))
 (hf:fp (.slice t) (.aa id) M (λx M'=>some (x,M'))=some (.U t rs,M1)):∃F',Inv X w0 S F' ρ (M1.set i (.var ks (xs.set c (.U t rs)))) w∧bH F F' ρ ρ w w:=by
 obtain⟨x',M',e,hl,_,hd⟩:=yw (X:=X) hf;injection e with e;injection e with e1 e2;subst e1;subst e2;obtain⟨F1,i1,g1,r1⟩:=hd hI;refine⟨F1,?_,g1⟩;have aY:i<ρ.length:=Ju;have hh:ρ[i]?=some ρ[i]:=cJ aY;obtain⟨p1,p2,g0,ayS,e0,p3,p4,⟨p5,p6⟩,_⟩:=hI.rep _ _ _ hb hh;obtain⟨q1,q2,g,cur,e,q3,q4,⟨q5,q6⟩,q7⟩:=i1.rep _ _ _ hM hh;refine i1.write hM rfl hh (g:=g) (EW) ⟨rfl,rfl,rfl,dZ _,λ_ _ _=>rfl⟩ ⟨?_,by simpa using q2,g,cur,e,q3,q4,⟨by simpa using q5,λj x v eG hv=> ?_⟩,q7⟩
 ·refine En (Rj) λj k x gb eG=> ?_;exact Sb
 ·rw [sV]at eG;split at eG
  ·rename_i ej;subst ej;split at eG
   ·injection eG with eG;subst eG;have eg:g0=g:=by rw [p3]at q3;simpa using q3
    subst eg;have ec:ayS=cur:=by rw [p4]at q4;injection q4 with q4;injection q4
    subst ec;exact r1 v (p6 _ _ v hx hv)
   ·cases eG
  ·exact q6 j x v eG hv
def pE(hX:X.Ok){k:St->Option R}{r:R}:∀(cs:List Cv) {st:St},gO X cs st k=some r->∃av,k av=some r∧av.gJ=st.gJ∧av.rd=st.rd∧
 ∀{nt:Nt} {rdc:Cy} {w0:World} {S:Sc} {F:aO} {ρ:aT} {a:Act} {w:World},Inv X w0 S F ρ st.mem w->eY X nt st rdc F ρ a w->∃F' ρ',Inv X w0 S F' ρ' av.mem w∧eY X nt av rdc F' ρ' a w∧bH F F' ρ ρ' w w
 | [],st,h=>⟨st,h,rfl,rfl,λ{nt rdc w0 S F ρ a w} hI hs=>⟨F,ρ,hI,hs,bH.refl _ _ _⟩⟩
 | .fp t kd::cs,st,h=>by
   simp only [gO,cG]at h;obtain⟨x,M',h,hl,_,hd⟩:=yw (X:=X) h;obtain⟨av,h,e1,e2,hr⟩:=pE hX cs h;refine⟨av,h,e1,e2,λ{nt rdc w0 S F ρ a w} hI hs=> ?_⟩;obtain⟨F1,i1,g1,r1⟩:=hd hI;obtain⟨F2,ρ2,i2,s2,g2⟩:=hr (nt:=nt) (rdc:=rdc) (a:=a) i1 ⟨(hs.env.grow g1).Tf (r1 _ (hs.env t)),hs.size,(hs.grow g1).defs,(hs.grow g1).rd,hs.kept⟩;exact Jo
 | .iW t ks::cs,st,h=>by
   simp only [gO,cG]at h;split at h
   ·rename_i xs hx;replace h:=bG h;obtain⟨_,h⟩:=h;obtain⟨ys,M',h,hl,_,hd⟩:=DV (X:=X) _ _ _ h;obtain⟨av,h,e1,e2,hr⟩:=pE hX cs h;refine⟨av,h,e1,e2,λ{nt rdc w0 S F ρ a w} hI hs=> ?_⟩;obtain⟨F1,i1,g1,r1⟩:=hd hI;have eu:=hs.grow g1;have hv:=hs.env t;rw [hx]at hv;have jy:aw X.K ρ F1 w (.agg ys) (a.tmps.getD t undef):=by
     generalize a.tmps.getD t undef=v at hv;cases hv with
     |agg _ vs hl hr=>
      have:=r1 vs ⟨hl,hr⟩;exact .agg ys vs this.1 this.2
    obtain⟨F2,ρ2,i2,s2,g2⟩:=hr (nt:=nt) (rdc:=rdc) (a:=a) i1 ⟨eu.env.Tf jy,eu.size,eu.defs,eu.rd,eu.kept⟩;exact Jo
   ·exact sd
 | .gh g::cs,st,h=>by
   simp only [gO]at h;obtain⟨M',h,hA⟩:=XX hX.toOkb h;obtain⟨av,h,e1,e2,hr⟩:=pE hX cs h;refine⟨av,h,e1,e2,λ{nt rdc w0 S F ρ a w} hI hs=> ?_⟩;obtain⟨F1,ρ1,i1,g1⟩:=hA hI;exact JW
 | .K4 i t::cs,st,h=>by
   simp only [gO,cG]at h;obtain⟨x,M',h,hl,_,hd⟩:=yw (X:=X) h;obtain⟨av,h,e1,e2,hr⟩:=pE hX cs h;refine⟨av,h,e1,e2,λ{nt rdc w0 S F ρ a w} hI hs=> ?_⟩;obtain⟨F1,i1,g1,r1⟩:=hd hI;exact JW
 | .mov t::cs,st,h=>by
   simp only [gO,cG]at h;split at h
   ·rename_i id hv;split at h
    ·rename_i ty xs hb;obtain⟨av,h,e1,e2,hr⟩:=pE hX cs h;refine⟨av,h,e1,e2,λ{nt rdc w0 S F ρ a w} hI hs=> ?_⟩;have aY:id<ρ.length:=Ju;have hh:ρ[id]?=some ρ[id]:=cJ aY;have i0:=hI.rep _ _ _ hb hh;have g1:bH F F ρ (ρ++[ρ[id]]) w w:=⟨λ_ h=>h,λ_ _ h=>jr h,λ_ _=>rfl⟩;have i1:Inv X w0 S F (ρ++[ρ[id]]) (st.mem.set id .dead ++[.row ty xs]) w:=
      hI.move hb rfl hh (row:=none) ⟨rfl,rfl,rfl,dZ _,λ_ _ _=>rfl⟩ (.inl rfl) (λg hg=>⟨(hI.sep id _ _ g hb rfl hh hg).1,.inl hg⟩) (hI.one _ _ hh) (iN.mono (b:= .row ty xs) g1.dR g1.hF (λ_ _ _ h=>h) (λ_ _=>rfl) i0)
     have r1:aw X.K (ρ++[ρ[id]]) F w (.aa st.mem.length) (a.tmps.getD t undef):=by
      have:=hs.env t;rw [hv]at this;generalize a.tmps.getD t undef=v at this;cases this with
      |aa _ hd h2=>
       rw [hh]at h2;injection h2 with h2;rw [<-h2];exact aw.aa (K:=X.K) _ ρ[id] (wV)
     exact ady
    ·exact sd
   ·exact sd
 | .xu i c ty::cs,st,h=>by
   simp only [gO,cG]at h;split at h
   ·rename_i ks xs hb;split at h
    ·rename_i id hx hk;split at h
     ·rename_i t rs zY;replace h:=bG h;obtain⟨ht,h⟩:=h;have ht:=eq_of_beq ht;subst ht;obtain⟨av,h,e1,e2,hr⟩:=pE hX cs h;refine⟨av,h,e1,e2,λ{nt rdc w0 S F ρ a w} hI hs=> ?_⟩;have c9:id≠i st.env st.mem:=by intro e;subst e;rw [hb]at zY;cases zY
      obtain⟨F1,i1,g1⟩:=Zx hI hb hx hk (M1:=st.mem.set id (.di ty rs)) (id:=id) (t:=ty) (rs:=rs) (by rw [fP c9];exact hb) (by simp [fp,cG,zY,aB]);exact JW
     ·rename_i t rs zY;replace h:=bG h;obtain⟨ht,h⟩:=h;have ht:=eq_of_beq ht;subst ht;obtain⟨av,h,e1,e2,hr⟩:=pE hX cs h;refine⟨av,h,e1,e2,λ{nt rdc w0 S F ρ a w} hI hs=> ?_⟩;obtain⟨F1,i1,g1⟩:=Zx hI hb hx hk (M1:=st.mem) (id:=id) (t:=ty) (rs:=rs) hb (by simp [fp,cG,zY,aB]);exact JW
     ·exact sd
    ·exact sd
   ·exact sd
 | .mk t ty::cs,st,h=>by
   simp only [gO,cG]at h;split at h
   ·rename_i hn;obtain⟨av,h,e1,e2,hr⟩:=pE hX cs h;refine⟨av,h,e1,e2,λ{nt rdc w0 S F ρ a w} hI hs=> ?_⟩;have hv:a.tmps.getD t undef= .slice none 0 0:=by
     have:=hs.env t;rw [hn]at this;generalize a.tmps.getD t undef=v at this;cases this;rfl
    have i1:Inv X w0 S F (ρ++[⟨.slice none 0 0,(X.K ty).length⟩]) (st.mem++[.row ty []]) w:=hI.wT (hd:=⟨.slice none 0 0,(X.K ty).length⟩) (λg hg=>Js) rfl
     ⟨rfl,λi row h=>dB,.inl ⟨rfl,rfl⟩⟩
    have g1:bH F F ρ (ρ++[⟨.slice none 0 0,(X.K ty).length⟩]) w w:=⟨λ_ h=>h,λ_ _ h=>jr h,λ_ _=>rfl⟩;have r1:aw X.K (ρ++[⟨.slice none 0 0,(X.K ty).length⟩]) F w (.aa st.mem.length) (a.tmps.getD t undef):=by
     rw [hv];exact aw.aa (K:=X.K) _ ⟨.slice none 0 0,(X.K ty).length⟩ (wV)
    exact ady
   ·exact sd
 | .lr i c ty::cs,st,h=>by
   simp only [gO,cG]at h;split at h
   ·rename_i ks xs hb;split at h
    ·rename_i hx hk;obtain⟨av,h,e1,e2,hr⟩:=pE hX cs h;refine⟨av,h,e1,e2,λ{nt rdc w0 S F ρ a w} hI hs=> ?_⟩;have aY:i st.env st.mem<ρ.length:=Ju;have hh:ρ[i st.env st.mem]?=some ρ[i st.env st.mem]:=cJ aY;obtain⟨q1,q2,g,cur,e,q3,q4,⟨q5,q6⟩,q7⟩:=hI.rep _ _ _ hb hh;have i2:Inv X w0 S F ρ (st.mem.set (i st.env st.mem) (.var ks (xs.set c (.U ty [])))) w:=by
      refine hI.write hb rfl hh (g:=g) (EW) ⟨rfl,rfl,rfl,dZ _,λ_ _ _=>rfl⟩ ⟨?_,by simpa using q2,g,cur,e,q3,q4,⟨by simpa using q5,λj x v eG hv=> ?_⟩,q7⟩
      ·refine En (Rj) λj k x gb eG=> ?_;exact Sb
      ·rw [sV]at eG;split at eG
       ·rename_i ej;subst ej;split at eG
        ·injection eG with eG;subst eG;have:=q6 c _ v hx hv;cases this;exact .iS _
        ·cases eG
       ·exact q6 j x v eG hv
     exact hr (nt:=nt) (rdc:=rdc) (a:=a) i2 ⟨hs.env,hs.size,hs.defs,hs.rd,hs.kept⟩
    ·exact sd
   ·exact sd
 | .Cu i c ty::cs,st,h=>by
   simp only [gO,cG]at h;split at h
   ·rename_i ks xs hb;split at h
    ·rename_i hx hk;obtain⟨av,h,e1,e2,hr⟩:=pE hX cs h;refine⟨av,h,e1,e2,λ{nt rdc w0 S F ρ a w} hI hs=> ?_⟩;have i1:Inv X w0 S F (ρ++[⟨.slice none 0 0,(X.K ty).length⟩]) (st.mem++[.row ty []]) w:=hI.wT (hd:=⟨.slice none 0 0,(X.K ty).length⟩) (λg hg=>Js) rfl
      ⟨rfl,λi row h=>dB,.inl ⟨rfl,rfl⟩⟩
     have g1:bH F F ρ (ρ++[⟨.slice none 0 0,(X.K ty).length⟩]) w w:=⟨λ_ h=>h,λ_ _ h=>jr h,λ_ _=>rfl⟩;have aY:i st.env st.mem<ρ.length:=Ju;have hh:(ρ++[(⟨.slice none 0 0,(X.K ty).length⟩:Hd)])[i st.env st.mem]?=some ρ[i st.env st.mem]:=jr (cJ aY);have sH:(st.mem++[bU.row ty []])[i st.env st.mem]?=some (.var ks xs):=jr hb;obtain⟨q1,q2,g,cur,e,q3,q4,⟨q5,q6⟩,q7⟩:=i1.rep _ _ _ sH hh;have i2:Inv X w0 S F (ρ++[⟨.slice none 0 0,(X.K ty).length⟩]) ((st.mem++[bU.row ty []]).set (i st.env st.mem) (.var ks (xs.set c (.aa st.mem.length)))) w:=by
      refine i1.write sH rfl hh (g:=g) (EW) ⟨rfl,rfl,rfl,dZ _,λ_ _ _=>rfl⟩ ⟨?_,by simpa using q2,g,cur,e,q3,q4,⟨by simpa using q5,λj x v eG hv=> ?_⟩,q7⟩
      ·refine En (Rj) λj k x gb eG=> ?_;exact Sb
      ·rw [sV]at eG;split at eG
       ·rename_i ej;subst ej;split at eG
        ·injection eG with eG;subst eG;have:=q6 c _ v hx hv;cases this;exact aw.aa (K:=X.K) _ ⟨.slice none 0 0,(X.K ty).length⟩ (wV)
        ·cases eG
       ·exact q6 j x v eG hv
     have eu:=hs.grow g1;obtain⟨F2,ρ2,i2,s2,g2⟩:=hr (nt:=nt) (rdc:=rdc) (a:=a) i2 ⟨eu.env,eu.size,eu.defs,eu.rd,eu.kept⟩;exact Jo
    ·exact sd
   ·exact sd
end
noncomputable section
variable {X:Cx} {R O:Type}
def atJ(X:Cx)(nt:Nt)(c:Code)(m:Nat)(st:St)(e:Exit)(av:St):Prop:=
 ∀{rdc:Cy} {n:Nat} {w0:World} {S:Sc} {F:aO} {ρ:aT} {a:Act} {w:World} {Q:Exit->Act->World->Prop},Inv X w0 S F ρ st.mem w->eY X nt st rdc F ρ a w->
  (∀a' w' F' ρ',Inv X w0 S F' ρ' av.mem w'->eY X nt av rdc F' ρ' a' w'->oS m F F' ρ ρ' w w'->Q e a' w')->c.wpIn (jP rdc.r) n X.P Q a w
def oS.trans{m:Nat}{F F' qR:aO}{ρ ρ' qv:aT}{w w' ou:World}(h:oS m F F' ρ ρ' w w')(k:oS m F' qR ρ' qv w' ou):oS m F qR ρ qv w ou:=
 ⟨λa ha=>k.hF a (h.hF a ha),λid hd hm hh=>k.dR id hd hm (h.dR id hd hm hh),λa ha=>(k.hb a (h.hF a ha)).trans (h.hb a ha)⟩
def pre(m:Nat)(aM:cp):Bool:=(aM.take m)==List.range m
def aqc{m:Nat}{aM:cp}(h:pre m aM=true){j:Nat}(hj:j<m):aM[j]?=some j:=by
 have e:aM.take m=List.range m:=by simpa [pre]using h
 have:(aM.take m)[j]?=some j:=by rw [e,qX hj]
 rw [n8,if_pos hj]at this;exact this
def Jy(m mask:Nat)(aM:cp)(st so:St):St:=
 {env:=zh (ki m aM st.mem.length) 4 so.env++st.env.filter (λp=> !mask.testBit p.1),mem:=merge m st.mem aM so.mem,gJ:=st.gJ,rd:=st.rd}
def XO:∀(A B:bA) (t:Nat),look (A++B) t=look A t∨look (A++B) t=look B t
 | [],B,t=> .inr rfl
 |(u,x)::A,B,t=>by
  simp only [iR,nf,look_nil]
  by_cases ht:t=u
  ·subst ht;simp
  ·have:(t==u)=false:=by simpa using ht
   simp only [this,jG,ly];exact XO A B t
def Yy(mask:Nat):∀(env:bA) (t:Nat),look (env.filter (λp=> !mask.testBit p.1)) t= .top ∨(mask.testBit t=false∧look (env.filter (λp=> !mask.testBit p.1)) t=look env t)
 | [],t=> .inl rfl
 |(u,x)::env,t=>by
  have ih:=Yy mask env t;rw [List.filter_cons]
  by_cases hu:mask.testBit u=true
  ·rw [if_neg (by simp [hu])];rcases ih with h|⟨h1,h2⟩
   ·exact .inl h
   ·refine .inr ⟨h1,?_⟩;have ht:(t==u)=false:=by
     by_cases ht:t=u
     ·subst ht;rw [hu]at h1;cases h1
     ·exact EH
    simp only [nf,look_nil,ht,jG,ly];exact h2
  ·have jW:mask.testBit u=false:=by simpa using hu
   rw [if_pos (by simp [jW])];simp only [nf,look_nil]
   by_cases ht:t=u
   ·subst ht;exact .inr ⟨jW,by simp⟩
   ·have:(t==u)=false:=by simpa using ht
    simp only [this,jG,ly];exact ih
end
noncomputable section
variable {X:Cx} {R O:Type}
variable{w:World}{F:aO}{ρ:aT}{vs:eU}
def wR(X:Cx)(f:FuncId)(m:Nat)(args:aD)(M:ar)(x:AV)(M':ar):Prop:=
 ∀{w0:World} {S:Sc} {F:aO} {ρ:aT} {w:World} {vs:eU},Inv X w0 S F ρ M w->cq X.K ρ F w args vs->
  Calls X.P f vs.toArray w (λe w'=>∃v ρ' F',e= .returned v∧Inv X w0 S F' ρ' M' w'∧oS m F F' ρ ρ' w w'∧aw X.K ρ' F' w' x v)
def w9(n:Nat)(env:bA):aD:=(List.range n).map λt=>look env t
def Yt{args:aD}(h:cq X.K ρ F w args vs):gX X ρ F w (pN 0 args) vs.toArray:=by
 intro t;rw [OH,if_pos (dX _)];cases hx:args[t- 0]? with
 |none=>exact .top _
 |some y=>
  have ht:t<vs.length:=by have:=(cy.1 hx).1;have:=h.1;omega
  have hv:vs.toArray.getD t undef=vs[t]:=by simp [nS,ht]
  rw [hv];exact h.2 t y _ (EJ) (cJ ht)
def Zh{env:bA}(h:gX X ρ F w env vs.toArray):cq X.K ρ F w (w9 vs.length env) vs:=by
 refine⟨by simp [w9],λj x v hx hv=> ?_⟩;simp only [w9,gW]at hx;have hj:j<vs.length:=(cy.1 hv).1;rw [qX hj]at hx;simp only [jv,Option.some.injEq]at hx;subst hx;have:=h j;have ig:vs.toArray.getD j undef=v:=by
  rw [cJ hj]at hv;injection hv with hv;simp [nS,hj,hv]
 rw [ig]at this;exact this
end
end Go.ae
namespace Go.ae
def lX:=@List.map_append
def PC:=@Go.World.alloc_heap_new
def YX:=@List.singleton_append
end Go.ae
namespace Go.ae
open Go
noncomputable section
variable {X:Cx} {R:Type}
variable{ps:Array Tmp}{id s:Nat}{g:Operand}{r:R}{w:World}{args:aD}{F:aO}{M:ar}
def Marks.putObj{F:aO}{w:World}{db:aO}{ds:List Deferred}(h:Marks F w db ds){g:Nat}{lp:Loop}(hg:w.heap[g]?=some (.loop lp))(o:Obj):Marks F (w.putObj g o) db ds:=by
 obtain⟨h0,ms,h1,h2,h3⟩:=h;refine⟨h0,ms,h1,h2,λD hD=>⟨(h3 D hD).1,(h3 D hD).2.1,?_⟩⟩;have c9:D≠g:=by
  rintro rfl;have:=(h3 D hD).2.2;rw [hg]at this;cases this
 rw [lY c9];exact(h3 D hD).2.2
def Inv.rewrite{w0:World}{S:Sc}{ρ:aT}(hI:Inv X w0 S F ρ M w){D:Nat}(hF:F ⟨D,0,none⟩)(hD:∀a v,a.block=D->w.cell? a≠some v)(hN:∀a,S.F0 a->a.block≠D)(o:Obj):
 Inv X w0 S F ρ M (w.putObj D o):=by
 have i:=hI.H7 hF hD hN o;have back:∀{id p g},Hid (w.putObj D o) ρ M id p g->Hid w ρ M id p g:=λhh=>hh.back hI.aU hI.len (λ_ _ h _=>h) (λ_ _ h _=>h) λg _ _ h3 _=>lY (λe=>h3 _ hF e.symm);have FM:kV X w0 S F ρ M (w.putObj D o):=⟨λhh=>⟨by simpa using(hI.aU.aa (back hh)).1,(hI.aU.aa (back hh)).2⟩,λh1 h2=>hI.aU.inj (back h1) (back h2),
  λhb hh=>(i.aU.rep hb hh).mono (λ_ _ h=>h) (λ_ h=>h.1) (λ_ _ _ h=>h) (λ_ _=>rfl) (λ_ _ _ _ _ _ _ _ _ _ _ _=>rfl)⟩
 exact⟨i.os,i.tape,i.output,i.size,i.frame,i.len,λid b hd hb hh=>(i.rep id b hd hb hh).mono (λ_ _ h=>h) (λ_ h=>h.1) (λ_ _ _ h=>h) (λ_ _=>rfl),
  λid b hd g hb ck hh bM=>⟨by simpa using(hI.sep id b hd g hb ck hh bM).1,(hI.sep id b hd g hb ck hh bM).2⟩,
  i.fZ,λa ha=>by simpa using hI.fz a ha,λg=>(i.fa g).mono (λ_ _ h=>h) (λ_ h=>h.1) (λ_ _ _ h=>h),i.one,hI.dQ,hI.fin,FM⟩
def Inv.jM{w0 w:World}{S:Sc}{F:aO}{ρ:aT}{M:ar}(hI:Inv X w0 S F ρ M w){mk:Option Nat}(h1:∀D,mk=some D->D<w.heap.size∧w0.heap.size<=D)
 (h2:∀(D:Nat) (id:Nat) b hd,mk=some D->M[id]?=some b->b.fQ=false->ρ[id]?=some hd->hd.b9≠some D) (h3:∀D,mk=some D->∀id p,¬Hid w ρ M id p D):
 Inv X w0 S (λa=>F a∨∃D,mk=some D∧a.block=D) ρ M w where
 os:=hI.os
 tape:=hI.tape
 output:=hI.output
 size:=hI.size
 frame:=hI.frame
 len:=hI.len
 rep:=λid b hd hb hh=>(hI.rep id b hd hb hh).mono (λ_ _ h=>h) (λ_ h=> .inl h) (λ_ _ hF hc=>hc) (λ_ _=>rfl)
 sep:=λid b hd g hb ck hh bM=>let⟨a1,a2,a3⟩:=hI.sep id b hd g hb ck hh bM;⟨a1,a2,λa ha=>by
  rcases ha with ha|⟨D,hD,e⟩
  ·exact a3 a ha
  ·intro e';exact h2 D id b hd hD hb ck hh (by rw [bM,<-e',e])⟩
 fZ:=hI.fZ
 fz:=λa ha=>by
  rcases ha with ha|⟨D,hD,e⟩
  ·exact hI.fz a ha
  ·rw [e];exact(h1 D hD).1
 fa:=λg=>(hI.fa g).mono (λ_ _ h=>h) (λ_ h=> .inl h) (λ_ _ _ h=>h)
 one:=hI.one
 dQ:=λa ha=>by
  rcases ha with ha|⟨D,hD,e⟩
  ·exact hI.dQ a ha
  ·rw [e];exact .inr (.inr (h1 D hD).2)
 fin:=λa ha=> .inl (hI.fin a ha)
 aU:=⟨λ{id p g} hh=>by
  obtain⟨a1,a2,a3,a4⟩:=hI.aU.aa hh;refine⟨a1,a2,λa ha e=> ?_,a4⟩;rcases ha with ha|⟨D,hD,e'⟩
  ·exact a3 a ha e
  ·exact h3 D hD id p (by rw [<-e',e];exact hh),hI.aU.inj,λhb hh=>(hI.aU.rep hb hh).mono (λ_ _ h=>h) (λ_ h=> .inl h) (λ_ _ _ h=>h) (λ_ _=>rfl) (λ_ _ _ _ _ _ _ _ _ _ _ _=>rfl)⟩
def rn:cp->aD->bA->Option bA
 | [],[],env=>some env
 |p::ps,x::xs,env=>rn ps xs ((p,x)::env)
 |_,_,_=>none
def Zj{ρ:aT}{F:aO}{w:World}:∀(ps:cp) {xs:aD} {env fR:bA} {tmps:Array Value} {vs:eU},rn ps xs env=some fR->gX X ρ F w env tmps->cq X.K ρ F w xs vs->(∀p∈ps,p<tmps.size)->
 gX X ρ F w fR ((ps.zip vs).foldl (λt p=>t.setIfInBounds p.1 p.2) tmps)∧((ps.zip vs).foldl (λt p=>t.setIfInBounds p.1 p.2) tmps).size =tmps.size
 | [],[],env,fR,tmps,vs,h,he,_,_=>by
   simp only [rn,Option.some.injEq]at h;subst h;simpa using he
 |p::ps,x::xs,env,fR,tmps,[],h,he,hr,hp=>by have:=hr.1;simp at this
 |p::ps,x::xs,env,fR,tmps,v::vs,h,he,hr,hp=>by
  simp only [rn]at h;have hx:=hr.2 0 x v rfl rfl;have qd:cq X.K ρ F w xs vs:=⟨by simpa using hr.1,λj x' v' eG eN=>hr.2 (j+1) x' v' (by simpa using eG) (by simpa using eN)⟩;have:=Zj ps h (he.put (hp p (by simp)) hx) qd (λq hq=>by simpa using hp q (yH));simp only [List.zip_cons_cons,nX];exact⟨this.1,by rw [this.2];simp⟩
 | [],_::_,_,_,_,_,h,_,_,_=>by simp [rn]at h
 |_::_,[],_,_,_,_,h,_,_,_=>by simp [rn]at h
def aef(e:Ex):Option Ex:=match e with| .normal =>none| .exit i=>some (.exit i)| .ret =>some .ret
def acN(e:Ex):Bool:=match e with| .normal =>true|_=>false
def Es(X:Cx)(L:iM R)(s p:Nat)(id:Nat)(args:aD)(M:ar)(k:AV->ar->Option R):Option R:=
 match gm M id with
 |some (.loop s' env false none)=>
  aB (Nat.beq s' s&&Nat.beq (X.site s).nt L.fS.nt.n&&(X.site s).params.toList.all λt=>Nat.blt t L.fS.nt.n)
   (match rn (X.site s).params.toList args env with
    |none=>none
    |some fR=>
     lV X L (X.site s).assign (2*p) ⟨fR,M.set id .dead,[],.qE⟩ λe st1=>
      match e,st1.gJ with
      | .normal,[]=>
        lV X L (X.site s).body (2*p+1) st1 λe jO=>
         match gm jO.mem id with
         |some .dead =>k (.bool (acN e)) (jO.mem.set id (.loop s env false (aef e)))
         |_=>none
      |_,_=>none)
 |_=>none
def ana{nt:Nt}{s':Nat}{env fR:bA}(hb:M[id]?=some (.loop s' env false none))(CK:(X.site s').nt =nt.n)(GC:∀t∈(X.site s').params.toList,t<nt.n)
 (KS:rn (X.site s').params.toList args env=some fR) {e1 e2:Ex} {st1 jO:St} (GN:e1= .normal) (Sk:nZ X nt (X.site s').assign ⟨fR,M.set id .dead,[],.qE⟩ (Ex.l9 e1) st1) (xr:st1.gJ=[])
 (Sj:nZ X nt (X.site s').body st1 (Ex.l9 e2) jO) (iH:jO.mem[id]?=some .dead):I6 X id args M (.bool (acN e2)) (jO.mem.set id (.loop s' env false (aef e2))):=by
 subst GN;intro rd n w0 S F ρ w vs hd g hI hr CU hv;obtain⟨g',lp,eN,y5,CJ,z0,tS,CI,hp5,_,hp6,_,hp7,_⟩:=hI.rep _ _ _ hb CU;rw [hv]at eN;injection eN with eN;injection eN with eN;injection eN with eN;subst eN;have arP:lp.state= .ready :=hp6 rfl rfl;have ay4:lp.pending=none:=hp7;have vj:hd.b9=some g:=j8;obtain⟨q1,q2,q3⟩:=hI.sep _ _ _ _ hb rfl CU vj;have hN:∀a,S.F0 a->a.block≠g:=λa ha=>q3 a (hI.fin a ha);have hnc:=Dz y5;have hlen:args.length=(X.site s').params.toList.length :=by
  have:∀(ps:cp) (xs:aD) (env fR:bA),rn ps xs env=some fR->xs.length=ps.length:=by
   intro ps
   induction ps with
   |nil=>intro xs env fR h;cases xs with|nil=>rfl|cons _ _=>simp [rn]at h
   |cons p ps ih=>intro xs env fR h;cases xs with|nil=>simp [rn]at h|cons x xs=>simp only [rn]at h;simp [ih _ _ _ h]
  exact this _ _ _ _ KS
 refine⟨lp.fn,_,lp.assign,lp.body,run_yield y5 (by rw [CJ];simp [hr.1,hlen]),roundIn_of_wpIn trivial ?_⟩;rw [z0,tS];have i1:Inv X w0 S (λa=>F a∨a.block=g) ρ (M.set id .dead) w:=hI.freeze hb rfl CU vj rfl trivial;have g1:bH F (λa=>F a∨a.block=g) ρ ρ w w:=⟨λ_ h=> .inl h,λ_ _ h=>h,λ_ _=>rfl⟩;have Sv:(Array.foldl (λtmps (x:Nat×Value)=>tmps.setIfInBounds x.1 x.2) lp.tmps (lp.params.zip vs.toArray))=((X.site s').params.toList.zip vs).foldl (λt p=>t.setIfInBounds p.1 p.2) lp.tmps:=by
  rw [<-Ql,Array.toList_zip,CJ]
 have ad0:=Zj (X:=X) _ KS (hp5.grow g1) (hr.grow g1) (λt ht=>by rw [CI,CK];exact GC t ht);refine Sk (rdc:=⟨some g,λ_=>False,λt=>(((X.site s').params.toList.zip vs).foldl (λt p=>t.setIfInBounds p.1 p.2) lp.tmps).getD t undef⟩) (n:=n) i1
  ⟨by simp only [Sv];exact ad0.1,by simp only [Sv];rw [ad0.2,CI,CK],Marks.nil _ _ (λ_ h=>h.elim),.inr ⟨g,lp,rfl,.inr rfl,y5⟩,λt _=>by simp only [Sv]⟩ ?_
 intro a1 w1 F1 ρ1 i2 s2 g2;have nN:bH F F1 ρ ρ1 w w1:=g1.trans g2;have LR:F1 ⟨g,0,none⟩:=g2.hF _ (.inr rfl);have rJ:w1.heap[g]?=some (.loop lp):=(g2.hb ⟨g,0,none⟩ (.inr rfl)).trans y5;refine⟨_,run_beginRound rJ arP,?_⟩;have i3:=i2.rewrite LR (Dz rJ) hN (.loop {lp with state:= .busy });have KV:g<w1.heap.size:=(sS.1 rJ).1;have qe:(w1.putObj g (.loop {lp with state:= .busy })).heap[g]?=some (.loop {lp with state:= .busy }):=PD KV;have sD:bH F F1 ρ ρ1 w (w1.putObj g (.loop {lp with state:= .busy })):=⟨nN.hF,nN.dR,λa ha=>by rw [lY (q3 a ha)];exact nN.hb a ha⟩;have s3:eY X nt st1 ⟨some g,λ_=>False,λt=>(((X.site s').params.toList.zip vs).foldl (λt p=>t.setIfInBounds p.1 p.2) lp.tmps).getD t undef⟩ F1 ρ1 a1 (w1.putObj g (.loop {lp with state:= .busy })):=by
  refine⟨λt=>((s2.env t).less (Dz rJ) _).mono (λ_ _ h=>h) (λ_ h=>h.1) (λ_ _ _ h=>h),s2.size,?_,.inr ⟨g,_,rfl,LR,qe⟩,s2.kept⟩;have:=s2.defs;rw [xr]at this⊢;exact Marks.putObj this rJ _
 refine Sj (rdc:=⟨some g,λ_=>False,λt=>(((X.site s').params.toList.zip vs).foldl (λt p=>t.setIfInBounds p.1 p.2) lp.tmps).getD t undef⟩) (n:=n) i3 s3 ?_;intro a2 w3 F3 ρ3 i4 s4 g4;have LQ:F3 ⟨g,0,none⟩:=g4.hF _ LR;have UP:w3.heap[g]?=some (.loop {lp with state:= .busy }):=(g4.hb ⟨g,0,none⟩ LR).trans qe;have afN:g<w3.heap.size:=(sS.1 UP).1;have Su:bH F F3 ρ ρ3 w w3:=sD.trans g4;have ayx:ρ3[id]?=some hd:=Su.dR _ _ CU;have key:∀(jump:Option Code) (pe:Option Ex),jump=pe.bind Ex.code->jump.isNone=pe.isNone->pe≠some .normal ->∃v w',(Instr.endRound g jump).run X.P w3= .ok v w'∧∃v' ρ' F',Ending.returned v= .returned v'∧Inv X w0 S F' ρ' (jO.mem.set id (.loop s' env false pe)) w'∧bH F F' ρ ρ' w w'∧aw X.K ρ' F' w' (.bool pe.isNone) v':=by
  intro jump pe hj z5 hpe;have jI:=Dz UP;refine⟨_,_,run_endRound jump UP,_,ρ3,less F3 g,rfl,?_,Su.less q3 _,by rw [z5];exact .bool _⟩;refine(i4.H7 LQ jI hN _).aaI iH ayx vj (by simpa using afN) q2 (λa ha=>ha.2) (λid' b' bY hU lE bT jj=>(i4.sep id' b' bY g hU lE bT jj).2.2 _ LQ rfl) (λi p hp=>(i4.aU.aa (hp.back i4.aU i4.len (λ_ _ h _=>h) (λ_ _ h _=>h) λk _ _ h3 _=>lY (λe=>h3 _ LQ e.symm))).2.2.1 _ LQ rfl) ?_ rfl;have hE:gX X ρ3 (less F3 g) (w3.putObj g (.loop {lp with state:=if jump.isNone then .ready else .done,pending:=jump})) env lp.tmps:=(hp5.grow Su).less jI _;refine⟨g,_,hv,PD afN,CJ,z0,tS,CI,hE,(λh=>by cases h),λ_ h=> ?_,λ_ h=> ?_,hj,hpe⟩
  ·subst h;simp only [Option.isNone_none]at z5;simp [z5]
  ·cases pe with
   |none=>exact absurd rfl h
   |some _=>simp only [Option.isNone_some]at z5;simp [z5]
 cases e2 with
 |normal=>obtain⟨v,w',k1,k2⟩:=key none none rfl rfl (by simp);exact⟨v,w',k1,k2⟩
 |exit i=>obtain⟨v,w',k1,k2⟩:=key (some (.exit i)) (some (.exit i)) rfl rfl (by simp);exact⟨v,w',k1,k2⟩
 |ret=>obtain⟨v,w',k1,k2⟩:=key (some .ret) (some .ret) rfl rfl (by simp);exact⟨v,w',k1,k2⟩
def amG(hX:X.Okb){root:Code}{L:iM R}(hL:L.Ok X root){p:Nat}(eh:At root p (.rangeFunc g ps (X.site s).assign (X.site s).body)){k:AV->ar->Option R}
 (h:Es X L s p id args M k=some r):∃x M',I6 X id args M x M'∧k x M'=some r:=by
 unfold Es at h;simp only [cG]at h;split at h
 case h_2=>cases h
 rename_i s' env hb;replace h:=bG h;obtain⟨hc,h⟩:=h;rw [bc,bc]at hc;obtain⟨⟨bX,CK⟩,GC⟩:=hc;have bX:s'=s:=ct bX;subst bX;have CK:(X.site s').nt =L.fS.nt.n:=ct CK;have GC:∀t∈(X.site s').params.toList,t<L.fS.nt.n:=λt ht=>by have:=iQ.1 GC t ht;simpa using this
 split at h
 case h_1=>cases h
 rename_i fR KS;obtain⟨e1,st1,Sk,h⟩:=qU hX hL _ (eh.down false λl hl=>tj) h;split at h
 case h_2=>cases h
 rename_i xr;obtain⟨e2,jO,Sj,h⟩:=qU hX hL _ (eh.down true λl hl=>tj) h;split at h
 case h_2=>cases h
 rename_i iH;exact⟨_,_,ana hb CK GC KS rfl Sk xr Sj iH,h⟩
def QC(X:Cx)(T:gg R)(s:Nat)(jM:cp)(g:Operand)(st:St)(k:Ex->St->Option R):Option R:=
 match gT X st.env g,st.gJ with
 | .dE f [] eD,[]=>
   T.call f (.gG st.mem.length::eD) (st.mem++[.loop s (ir jM st.env) false none]) λ_ M2=>
    match gm M2 (st.mem.length)with
    |some (.loop _ _ false pe)=>k (pe.getD .normal) {st with mem:=M2.set st.mem.length .dead }
    |_=>none
 |_,_=>none
def aoa{rdc:Option Nat}(jo:Fs F w rdc)(fn:FuncId)(tmps:Array Value)(ps:Array Tmp)(ag bd:Code):
 ∃l mk w1 lp,(Instr.enterLoop fn tmps ps ag bd rdc).run X.P w= .ok (l,(mk:Option Nat).toList.map (λD=>({target:= .collected D,args:= #[]}:Deferred))) w1∧w.grownBy w1 none∧w1.heap[l]?=some (.loop lp)∧w.heap.size<=l∧
  (∀D,mk=some D->w.heap.size<=D∧D≠l∧w1.heap[D]?=some (.deferred (some [])))∧lp.state= .ready ∧lp.pending=none∧lp.params=ps∧lp.assign=ag∧lp.body=bd∧lp.tmps=tmps:=by
 have ga:∀(w:World) (o:Obj),w.grownBy (w.alloc o) none:=λw o=>yy w o none;rcases jo with rfl|⟨g,r,rfl,_,hg⟩
 ·refine⟨w.heap.size+1,some w.heap.size,(w.alloc (.deferred (some []))).alloc (.loop {state:= .ready,pending:=none,fn,tmps,params:=ps,assign:=ag,body:=bd,defers:=w.heap.size}),{state:= .ready,pending:=none,fn,tmps,params:=ps,assign:=ag,body:=bd,defers:=w.heap.size},run_enterLoop_outer fn tmps ps ag bd,?_,?_,by omega,(λD hD=> ?_),rfl,rfl,rfl,rfl,rfl,rfl⟩
  ·exact⟨rfl,rfl,rfl,eR,λk hk _=>by rw [(ga (w.alloc (.deferred (some []))) _).block k (eR) (by simp),(ga w _).block k hk (by simp)]⟩
  ·have:=PC (w.alloc (.deferred (some []))) (.loop {state:= .ready,pending:=none,fn,tmps,params:=ps,assign:=ag,body:=bd,defers:=w.heap.size})
   rwa [World.size_alloc]at this
  ·injection hD with hD;subst hD;refine⟨dZ _,by omega,?_⟩;rw [(ga (w.alloc (.deferred (some []))) _).block _ (by simp) (by simp)];exact PC w _
 ·exact⟨w.heap.size,none,w.alloc (.loop {state:= .ready,pending:=none,fn,tmps,params:=ps,assign:=ag,body:=bd,defers:=r.defers}),{state:= .ready,pending:=none,fn,tmps,params:=ps,assign:=ag,body:=bd,defers:=r.defers},run_enterLoop_inner hg fn tmps ps ag bd,ga _ _,PC w _,dZ _,(λD hD=>by cases hD),rfl,rfl,rfl,rfl,rfl,rfl⟩
def amH(hX:X.Okb){T:gg R}(hT:T.mw X){jM:cp}{ag bd:Code}(y4:X.site s=⟨T.nt.n,ps,ag,bd⟩){st:St}{k:Ex->St->Option R}
 (h:QC X T s jM g st k=some r):∃e av,nZ X T.nt (.rangeFunc g ps ag bd) st (Ex.l9 e) av∧k e av=some r:=by
 unfold QC at h;simp only [cG]at h;split at h
 case h_2=>cases h
 rename_i f eD hg vR;obtain⟨x,M2,⟨oF,gv⟩,h,_⟩:=hT.call h;split at h
 case h_2=>cases h
 rename_i s2 ay9 pe gw;refine⟨_,_,λ{rdc n w0 S F ρ a w Q} hI hs hq=> ?_,h⟩;have h1:=wF hI hs.env g;rw [hg]at h1;generalize hv:a.eval g=vf at h1;cases h1 with
 |dE _ _ _ v1 v2 gS kj r1 r2=>
 have mD:v1=[]:=List.length_eq_zero_iff.1 (by simpa using gS);subst mD;refine wpIn_rangeFunc λfn _=> ?_;obtain⟨l,mk,w1,lp,arS,fU,hl,ayr,CM,p1,p2,p3,p4,p5,p6⟩:=aoa (X:=X) hs.rd fn a.tmps ps ag bd;have aY:l<w1.heap.size:=(sS.1 hl).1;refine⟨l,_,w1,{target:= .fn (.func f) v2.toArray,args:= #[.func (.yield l) #[] #[]]},w1,f,#[.func (.yield l) #[] #[]]++v2.toArray,w1,arS,?_,λ_ _=>trivial,?_,λhd=>by simp [jP,Fence.wide]at hd,?_⟩
 ·simp only [resolve,hv];simp [go_sem]
 ·simp [invoke,go_sem,oF]
 have gr0:bH F F ρ ρ w w1:=⟨λ_ h=>h,λ_ _ h=>h,λa ha=>fU.block _ (hI.fz a ha) (by simp)⟩;have i1:Inv X w0 S F (ρ++[⟨.pointer (some ⟨l,0,none⟩),0⟩]) (st.mem++[.loop s (ir jM st.env) false none]) w1:=by
  refine hI.push fU (λg' ij=> ?_) rfl ?_
  ·simp only [Hd.b9,Value.b9,Option.some.injEq]at ij;subst ij;exact⟨ayr,aY⟩
  ·refine⟨l,lp,rfl,hl,by rw [p3,y4],by rw [p4,y4],by rw [p5,y4],by rw [p6,y4];exact hs.size,?_,(λh=>by cases h),λ_ _=>p1,λ_ h=>absurd rfl h,p2,by simp⟩;rw [p6];have he:gX X (ρ++[⟨.pointer (some ⟨l,0,none⟩),0⟩]) F w1 st.env a.tmps:=(hs.env.grow gr0).grow ⟨λ_ h=>h,λ_ _ h=>jr h,λ_ _=>rfl⟩;exact AT λu _=>he u
 have i2:Inv X w0 S (λa=>F a∨∃D,mk=some D∧a.block=D) (ρ++[⟨.pointer (some ⟨l,0,none⟩),0⟩]) (st.mem++[.loop s (ir jM st.env) false none]) w1:=by
  refine i1.jM (λD hD=> ?_) (λD id b hd hD hb ck hh e=> ?_) (λD hD id p hp=>by
   have h:=(hI.aU.aa ((hp.pop hI.len rfl).back hI.aU hI.len (λ_ _ h _=>h) (λ_ _ h _=>h) λk h1 _ _ _=>fU.block k h1 (by simp))).1;have:=(CM D hD).1;omega)
  ·obtain⟨m1,_,m3⟩:=CM D hD;exact⟨(sS.1 m3).1,j5 hI.size m1⟩
  ·obtain⟨m1,m2,_⟩:=CM D hD
   by_cases aA:id<st.mem.length
   ·rw [gj aA]at hb;rw [gj (by rw [hI.len];exact aA)]at hh;have:=(hI.sep id b hd D hb ck hh e).1;omega
   ·rw [jt (by rw [hI.len];omega)]at hh;have ayw:id- ρ.length=0:=by
     have:=(cy.1 hh).1;simp at this;exact this
    rw [ayw]at hh;simp only [D9,Option.some.injEq]at hh;subst hh;simp only [Hd.b9,Value.b9,Option.some.injEq]at e;exact m2 e.symm
 have g2:bH F (λa=>F a∨∃D,mk=some D∧a.block=D) ρ (ρ++[⟨.pointer (some ⟨l,0,none⟩),0⟩]) w w1:=⟨λ_ h=> .inl h,λ_ _ h=>jr h,gr0.hb⟩;have hyl:(ρ++[(⟨.pointer (some ⟨l,0,none⟩),0⟩:Hd)])[st.mem.length]?=some ⟨.pointer (some ⟨l,0,none⟩),0⟩:=wV;have tn:cq X.K (ρ++[⟨.pointer (some ⟨l,0,none⟩),0⟩]) (λa=>F a∨∃D,mk=some D∧a.block=D) w1 (.gG st.mem.length::eD) (.func (.yield l) #[] #[]::v2):=by
  refine⟨by simp [kj],λj y v hy hv=> ?_⟩;cases j with
  |zero=>simp at hy hv;subst hy;subst hv;exact .gG _ _ l hyl rfl
  |succ j=>simp at hy hv;exact(r2 j y v hy hv).grow g2
 have y6:=gv i2 tn;have dq:CallsIn Fence.wide (n- 1) X.P f (.func (.yield l) #[] #[]::v2).toArray w1 _:=PM.2 y6;have jz:CallsIn (jP rdc.r) (n- 1) X.P f (.func (.yield l) #[] #[]::v2).toArray w1 _:=dq;have e1: #[Value.func (.yield l) #[] #[]]++v2.toArray=(.func (.yield l) #[] #[]::v2).toArray :=sf;rw [e1];refine jz.mono ?_;rintro en w2 ⟨v,ρ',F',rfl,i3,g3,_⟩;have aA:ρ'[st.mem.length]?=some ⟨.pointer (some ⟨l,0,none⟩),0⟩:=g3.dR _ _ hyl;obtain⟨g',Lx,eN,qe,_,_,_,_,_,_,k1,k2,k3,k4⟩:=i3.rep _ _ _ gw aA;simp only [Value.pointer.injEq,Option.some.injEq,Addr.mk.injEq]at eN;obtain⟨rfl,_⟩:=eN;have hnb:Lx.state≠ .busy :=by
  cases pe with
  |none=>rw [k1 rfl rfl];simp
  |some _=>rw [k2 rfl (by simp)];simp
 have hFl:∀a,F a->a.block≠l:=λa ha e=>by have:=hI.fz a ha;omega
 have i4:Inv X w0 S (λa=>F' a∨a.block=l) ρ' (M2.set st.mem.length .dead) w2:=i3.freeze gw rfl aA rfl rfl trivial;have i5:=i4.H7 (D:=l) (.inr rfl) (Dz qe) (λa ha=>hFl a (hI.fin a ha)) (.loop {Lx with state:= .exhausted });have g5:bH F (less (λa=>F' a∨a.block=l) l) ρ ρ' w (w2.putObj l (.loop {Lx with state:= .exhausted })):=(g2.trans (g3.trans ⟨λ_ h=> .inl h,λ_ _ h=>h,λ_ _=>rfl⟩)).less hFl _;have Tq:eY X T.nt {st with mem:=M2.set st.mem.length .dead } rdc (less (λa=>F' a∨a.block=l) l) ρ' {a with defers:=mk.toList.map (λD=>({target:= .collected D,args:= #[]}:Deferred))++a.defers} (w2.putObj l (.loop {Lx with state:= .exhausted })):=by
  refine⟨hs.env.grow g5,hs.size,?_,hs.rd.mono g5.hF g5.hb,hs.kept⟩;have hd:=hs.defs;rw [vR]at hd;simp only [vR];obtain⟨d0,ms,d1,d2,d3⟩:=Marks.mono g5.hF g5.hb hd;refine⟨d0,mk.toList++ms,by rw [lX,d1],?_,λD hD=> ?_⟩
  ·cases mk with
   |none=>simpa using d2
   |some D=>
    simp only [Option.toList_some,YX,D6];refine⟨λhD=> ?_,d2⟩;obtain⟨_,ms',qg,_,e3⟩:=hd;have:ms=ms':=by
     have:=d1.symm.trans qg;have inj:∀(a b:cp),a.map (λD=>({target:= .collected D,args:= #[]}:Deferred))=b.map (λD=>({target:= .collected D,args:= #[]}:Deferred))->a=b:=by
      intro a
      induction a with
      |nil=>intro b hb;cases b with|nil=>rfl|cons _ _=>simp at hb
      |cons x a ih=>intro b hb;cases b with
       |nil=>simp at hb
       |cons y b=>simp only [fW,List.cons.injEq,Deferred.mk.injEq,Target.collected.injEq]at hb;rw [hb.1.1,ih b hb.2]
     exact inj _ _ this
    subst this;have:=hI.fz _ (e3 D hD).2.1;have:=(CM D rfl).1;simp at*;omega
  ·rw [jS]at hD;rcases hD with hD|hD
   ·have hD:mk=some D:=by simpa using hD
    obtain⟨m1,m2,m3⟩:=CM D hD;have Ss:w2.heap[D]?=w1.heap[D]?:=g3.hb ⟨D,0,none⟩ (.inr ⟨D,hD,rfl⟩);refine⟨λa ha e=> ?_,⟨.inl (g3.hF _ (.inr ⟨D,hD,rfl⟩)),m2⟩,?_⟩
    ·have:=hI.fz a (hd.1 a ha);omega
    ·rw [lY m2,Ss];exact m3
   ·exact d3 D hD
 refine⟨pe.bind Ex.code,_,by rw [<-k3];exact run_endLoop qe hnb,?_⟩;cases pe with
 |none=>exact hq _ _ _ _ i5 Tq g5
 |some e=>
  cases e with
  |normal=>exact absurd rfl k4
  |exit i=>exact wpIn_exit (hq _ _ _ _ i5 Tq g5)
  |ret=>exact wpIn_ret (hq _ _ _ _ i5 Tq g5)
end
end Go.ae
namespace Go.ae
def ab8{p:Prop}(h:p:=by
 rw [It];exact cC hI hs λa' w' F' ρ' c6 bX hg=>hq a' w' F' ρ' c6 bX hg):p:=h
end Go.ae
namespace Go.ae
def It:=@Go.roundsIn_succ
end Go.ae
namespace Go.ae
open Go
noncomputable section
variable {X:Cx} {R O:Type}
variable{g:FuncId}{p:Nat}{r:R}{run:aD->ar->(AV->ar->Option R)->Option R}
abbrev mS(R:Type):=St->(Ex->St->Option R)->Option R
variable{es:List (Nat×mS R)}{P:Nat×mS R->Prop}
def BA:List (Nat×mS R)->Nat->mS R
 | [],_=>λ_ _=>none
 |e::es,p=>match Nat.beq p e.1 with|true=>e.2|false=>BA es p
def Fa:List (Nat×mS R)->Nat->Option (mS R)
 | [],_=>none
 |e::es,p=>match Nat.beq p e.1 with|true=>some e.2|false=>Fa es p
def ke{α:Type}(P:α->Prop):List α->Prop
 | []=>True
 |e::es=>P e∧ke P es
def Ya(hP:ke P es){st:St}{k:Ex->St->Option R}(h:BA es p st k=some r):∃f,P (p,f)∧f st k=some r:=by
 induction es with
 |nil=>simp [BA]at h
 |cons e es ih=>
  simp only [BA]at h;cases hb:Nat.beq p e.1 with
  |true=>
   simp only [hb]at h;have:=ct hb;subst this;exact⟨e.2,hP.1,h⟩
  |false=>simp only [hb]at h;exact ih hP.2 h
def an0(hP:ke P es){f:mS R}(h:Fa es p=some f):P (p,f):=by
 induction es with
 |nil=>simp [Fa]at h
 |cons e es ih=>
  simp only [Fa]at h;split at h
  ·rename_i hb;have:=ct hb;subst this;injection h with h;subst h;exact hP.1
  ·exact ih hP.2 h
def acX(X:Cx)(root:Code)(nt:Nt)(e:Nat×mS R):Prop:=∀{c st k r},At root e.1 (.loop c)->e.2 st k=some r->∃x av,nZ X nt (.loop c) st (Ex.l9 x) av∧k x av=some r
def aar(X:Cx)(root:Code)(nt:Nt)(e:Nat×mS R):Prop:=∀{g ps a b st k r},At root e.1 (.rangeFunc g ps a b)->e.2 st k=some r->∃x av,nZ X nt (.rangeFunc g ps a b) st (Ex.l9 x) av∧k x av=some r
def aen(X:Cx)(root:Code)(nt:Nt)(e:Nat×mS R):Prop:=∀{c st k r},At root e.1 c->e.2 st k=some r->∃x av,nZ X nt c st (Ex.l9 x) av∧k x av=some r
structure CE(R:Type) where
 f:FuncId
 test:aD->ar->Bool
 wr:aD->ar->Option cp
 run:aD->ar->(AV->ar->Option R)->Option R
def BB:List (CE R)->FuncId->aD->ar->(AV->ar->Option R)->Option R
 | [],_,_,_,_=>none
 |e::es,f,args,M,k=>match Nat.beq f e.f&&e.test args M with|true=>e.run args M k|false=>BB es f args M k
def Bz:List (CE R)->FuncId->aD->ar->Option cp
 | [],_,_,_=>none
 |e::es,f,args,M=>match Nat.beq f e.f&&e.test args M with|true=>e.wr args M|false=>Bz es f args M
def rC(X:Cx)(e:CE R):Prop:=∀{args M k r},e.run args M k=some r->∃x M',qq X e.f args M x M'∧k x M'=some r∧∀ids,e.wr args M=some ids->cz ids M M'
def Yb{es:List (CE R)}(hP:ke (rC X) es){f:FuncId}{args:aD}{M:ar}{k:AV->ar->Option R}(h:BB es f args M k=some r):
 ∃x M',qq X f args M x M'∧k x M'=some r∧∀ids,Bz es f args M=some ids->cz ids M M':=by
 induction es with
 |nil=>simp [BB]at h
 |cons e es ih=>
  simp only [BB]at h;split at h
  ·rename_i hb;have hU:=hb;rw [bc]at hb;have:=ct hb.1;subst this;obtain⟨x,M',h1,h2,h3⟩:=hP.1 h;refine⟨x,M',h1,h2,λids hi=> ?_⟩;simp only [Bz,hU]at hi;exact h3 ids hi
  ·rename_i hb;obtain⟨x,M',h1,h2,h3⟩:=ih hP.2 h;refine⟨x,M',h1,h2,λids hi=> ?_⟩;simp only [Bz,hb]at hi;exact h3 ids hi
def adh(nt:Nt)(cs:List (CE R))(y:Nat->aD->ar->(AV->ar->Option R)->Option R)(ls rs ks:List (Nat×mS R)):iM R:=
 ⟨⟨nt,Bz cs,BB cs,y⟩,BA ls,BA rs,Fa ks,λ_=>([],[])⟩
def aat(g:List (Nat×(List Gh×List Gh)))(L:iM R):iM R:={L with gh:=λT6=>(g.lookup T6).getD ([],[])}
def aom{root:Code}{L:iM R}(g:List (Nat×(List Gh×List Gh)))(h:L.Ok X root):(aat g L).Ok X root:=⟨h.fS,h.loop,h.range,h.cut⟩
def Ao(X:Cx)(y:Nat->aD->ar->(AV->ar->Option R)->Option R):Prop:=∀{id args M k r},y id args M k=some r->∃x M',I6 X id args M x M'∧k x M'=some r
def Gm:Nat->aD->ar->(AV->ar->Option R)->Option R:=λ_ _ _ _=>none
def aaP:Ao X (Gm (R:=R)):=λ{_ _ _ _ _} h=>by cases h
def apt{root:Code}{nt:Nt}{cs:List (CE R)}{y:Nat->aD->ar->(AV->ar->Option R)->Option R}{ls rs ks:List (Nat×mS R)}(hc:ke (rC X) cs)(hy:Ao X y)
 (hl:ke (acX X root nt) ls) (hr:ke (aar X root nt) rs) (hk:ke (aen X root nt) ks):(adh nt cs y ls rs ks).Ok X root where
 fS:=⟨λ{f args M k r} h=>Yb hc h,λ{id args M k r} h=>hy h⟩
 loop:=λ{p c st k r} eh h=>by
  obtain⟨f,h1,h2⟩:=Ya hl h;exact h1 eh h2
 range:=λ{p g ps a b st k r} eh h=>by
  obtain⟨f,h1,h2⟩:=Ya hr h;exact h1 eh h2
 cut:=λ{p c f st k r} eh hf h=>an0 hk hf eh h
def I7(X:Cx)(L:iM R)(c:Code)(p:Nat):Nat->St->(Ex->St->Option R)->Option R
 |0,_,_=>none
 |n+1,st,k=>lV X L c p st λe av=>match e with| .normal =>I7 X L c p n av k| .exit i=>k (.exit i) av| .ret =>k .ret av
def Xq(hX:X.Okb){root c:Code}{p:Nat}{L:iM R}(hL:L.Ok X root)(eh:At root p (.loop c)):∀(fuel:Nat) {st:St} {k:Ex->St->Option R} {r:R},I7 X L c (2*p) fuel st k=some r->
 ∃e av,k e av=some r∧∀{rdc:Cy} {n:Nat} {w0:World} {S:Sc} {F:aO} {ρ:aT} {a:Act} {w:World} {Q:Exit->Act->World->Prop},Inv X w0 S F ρ st.mem w->eY X L.fS.nt st rdc F ρ a w->
  (∀a' w' F' ρ',Inv X w0 S F' ρ' av.mem w'->eY X L.fS.nt av rdc F' ρ' a' w'->bH F F' ρ ρ' w w'->Q (Ex.l9 e) a' w')->Code.roundsIn (jP rdc.r) n X.P c Q fuel a w
 |0,st,k,r,h=>by cases h
 |fuel+1,st,k,r,h=>by
  simp only [I7]at h;obtain⟨e,st1,cC,h⟩:=qU hX hL c (eh.down false λl hl=>tj) h;cases e with
  |normal=>
   obtain⟨e',av,hk,hr⟩:=Xq hX hL eh fuel h;refine⟨e',av,hk,λ{rdc n w0 S F ρ a w Q} hI hs hq=> ?_⟩;rw [It];refine cC hI hs λa' w' F' ρ' c6 bX hg=> ?_;exact hr c6 bX λAn ou qR qv zr zo FR=>hq An ou qR qv zr zo (hg.trans FR)
  |exit i=>
   refine⟨.exit i,st1,h,λ{rdc n w0 S F ρ a w Q} hI hs hq=> ?_⟩;exact ab8
  |ret=>
   refine⟨.ret,st1,h,λ{rdc n w0 S F ρ a w Q} hI hs hq=> ?_⟩;exact ab8
def inl(g:FuncId)(run:aD->ar->(AV->ar->Option R)->Option R):List (CE R):=[⟨g,λ_ _=>true,λ_ _=>none,run⟩]
def Q3(nt:Nt)(cs:List (CE R)):gg R:=⟨nt,Bz cs,BB cs,Gm⟩
def aow{nt:Nt}{cs:List (CE R)}(hc:ke (rC X) cs):(Q3 nt cs).mw X:=⟨λ{f args M k r} h=>Yb hc h,λ{_ _ _ _ _} h=>by cases h⟩
def arO(h:∀{args M k r},run args M k=some r->∃x M',qq X g args M x M'∧k x M'=some r):ke (rC X) (inl g run):=
 ⟨λ{args M k r} hr=>by
   obtain⟨x,M',h1,h2⟩:=h hr;exact⟨x,M',h1,h2,λids hi=>by cases hi⟩,trivial⟩
def aqw{test:aD->ar->Bool}(h:∀{args M k r},run args M k=some r->∃x M',qq X g args M x M'∧k x M'=some r):
 rC X ⟨g,test,λ_ M=>some (List.range M.length),λargs M k=>run args M λx M'=>aB (Nat.ble M.length M'.length) (k x M')⟩:=by
 intro args M k r hr;obtain⟨x,M',h1,h2⟩:=h hr;replace h2:=bG h2;obtain⟨hle,h2⟩:=h2;refine⟨x,M',h1,h2,λids hi=> ?_⟩;injection hi with hi;subst hi;exact⟨oL hle,λi hi hn=>absurd (wx.2 hi) hn⟩
def yG:List (Nat×TypeId)->aD->aD
 | [],xs=>xs
 |p::ps,xs=>yG ps (match xs[p.1]? with|some .fD =>xs.set p.1 (.U p.2 [])|_=>xs)
def XJ{ρ:aT}{F:aO}{w:World}{vs:eU}:∀(ps:List (Nat×TypeId)) {xs:aD},cq X.K ρ F w xs vs->cq X.K ρ F w (yG ps xs) vs
 | [],xs,h=>h
 |p::ps,xs,h=>by
  refine XJ ps ?_;split
  ·rename_i hx;refine⟨by simp [h.1],λj y v hy hv=> ?_⟩
   by_cases e:j=p.1
   ·subst e;have aY:p.1<xs.length:=(cy.1 hx).1;rw [hY aY]at hy;injection hy with hy;subst hy;have:=h.2 p.1 _ v hx hv;cases this;exact .iS _
   ·rw [fP (Ne.symm e)]at hy;exact h.2 j y v hy hv
  ·exact h
def arz{e:CE R}(h:rC X e)(ps:List (Nat×TypeId))(test:aD->ar->Bool):rC X ⟨e.f,test,λargs M=>e.wr (yG ps args) M,λargs M k=>e.run (yG ps args) M k⟩:=by
 intro args M k r hr;obtain⟨x,M',h1,h2,h3⟩:=h hr;exact⟨x,M',⟨h1.1,λ{w0 S F ρ w vs} hI hv=>h1.2 hI (XJ ps hv)⟩,h2,h3⟩
end
noncomputable section
variable {X:Cx}
variable{P:Program}
def atG:TI:=⟨false,.other,0,0,[],[]⟩
def ra:List (Nat×TI)->Nat->TI
 | [],_=>atG
 |e::es,t=>match Nat.beq t e.1 with|true=>e.2|false=>ra es t
def adU:List (Nat×Site)->Nat->Site
 | [],_=>⟨0,#[],.skip,.skip⟩
 |e::es,t=>match Nat.beq t e.1 with|true=>e.2|false=>adU es t
def Ie{l:List (Nat×TI)}(h:ke (λe=>e.2=xf P e.1∧e.2.ok=true) l)(t:Nat):((ra l t).ok =true->ra l t=xf P t)∧((ra l t).ok =false->(ra l t).ks =[]):=by
 induction l with
 |nil=>exact⟨λh=>(by cases h),λ_=>rfl⟩
 |cons e es ih=>
  simp only [ra];cases hb:Nat.beq t e.1 with
  |true=>
   have:=ct hb;subst this;exact⟨λ_=>h.1.1,λhf=>(by have:=h.1.2;rw [hf]at this;cases this)⟩
  |false=>exact ih h.2
def acD:List (Nat×Nat)->Nat->Nat->Bool
 | [],_,_=>false
 |e::es,d,t=>match Nat.beq d e.1&&Nat.beq t e.2 with|true=>true|false=>acD es d t
def wZ:cp->Nat->Bool
 | [],_=>false
 |e::es,t=>match Nat.beq t e with|true=>true|false=>wZ es t
def apz{l:cp}(h:ke (λe=>zw P e=true) l)(t:Nat)(ht:wZ l t=true):zw P t=true:=by
 induction l with
 |nil=>cases ht
 |cons e es ih=>
  simp only [wZ]at ht;cases hb:Nat.beq t e with
  |true=>
   have:=ct hb;subst this;exact h.1
  |false=>rw [hb]at ht;exact ih h.2 ht
def alike_refl(a:TI):TI.alike a a:=⟨rfl,rfl,rfl,rfl,rfl,rfl⟩
def atA{P:Program}{l:List (Nat×TI)}{s:Nat->Site}{el:cp}{gl:Nat->AV}{vw:Nat->TypeId->Bool}(hgl:∀g,gl g= .top ∨(gl g).pure =true)(hm:P.follows .mixedOrders =true)(h:ke (λe=>e.2=xf P e.1∧e.2.ok=true) l)(he:ke (λe=>zw P e=true) el):(⟨P,ra l,s,gl,wZ el,true,vw,none⟩:Cx).Ok where
 eqs:=apz he
 facts:=λ{t} ht=>anE (X:=⟨P,ra l,s,gl,wZ el,true,vw,none⟩) (by rw [show(Cx.ti ⟨P,ra l,s,gl,wZ el,true,vw,none⟩ t)=ra l t from rfl,(Ie h t).1 ht];exact alike_refl _) ht
 mixed:=hm
 bad:=λt=>(Ie h t).2
 fa:=hgl
 Jz:=λ_=>anC (X:=⟨P,ra l,s,gl,wZ el,true,vw,none⟩) (λt=>(Ie h t).1) (λt=>(Ie h t).2)
 ub:=λu h=>by cases h
 pkt:=rfl
def enters{f:FuncId}{fn:Func}{c:Code}(hf:P.funcs[f]?=some fn)(hb:fn.body=some c)(hn:(fn.name== "runtime.NumGoroutine")=false)(vs:Array Value)(w:World):(callFunc f vs).run P w= .ok (.enter f vs) w:=by
 have hp:(program).run P w= .ok P w:=rfl;have hn':fn.name≠ "runtime.NumGoroutine" :=by simpa using hn
 simp [callFunc,dO,hp,Result.andThen,hf,hn',hb]
end
end Go.ae
namespace Go.ae
def uM{p:Prop}(h:p:=by simp [DataW.TrodAll]at h):p:=h
def jg{p:Prop}(h:p:=by rw [this];rfl):p:=h
def ab3{p:Prop}(h:p:=by
 rw [jS]at hx;rcases hx with hx|hx
 ·exact a3 x hx
 ·exact b3 x hx):p:=h
def ab1{p:Prop}(h:p:=by
 have:=f.iz;rw [f.u]at hu;cases d<;>simp_all [kJ]):p:=h
def abv{p:Prop}(h:p:=by
 rw [vI];simp only [qC,Pq,Ba,YR];omega):p:=h
def abd{p:Prop}(h:p:=by
 have:=cq.append a1 b1
 rwa [<-ZK,aoV]at this):p:=h
end Go.ae
namespace Go.ae
def nk:=@List.sum_cons
def aoV:=@List.take_append_drop
def YR:=@Function.comp_def
def Py:=@Option.map_eq_some_iff
end Go.ae
namespace Go.ae
open Go Go.ChangeShapes Go.WideShapes Go.ChangeAt Go.RowKit
noncomputable section
variable {X:Cx}
variable{s:ChangeSpec}{fn:Func}{f:FuncId}{H:Type}{t tb:TypeId}{enc:TypeId×Value->H}{v:Value}{S ts:oQ}
inductive Wf(K:TypeId->dv):AV->Prop
 |int(k:IntKind)(n:Int)(h:(Lit.int k n).wf =true):Wf K (.int k n)
 |bool(b:Bool):Wf K (.bool b)
 |str(s:ByteArray)(h:s.size<=maxLen):Wf K (.str s)
 |U(t:TypeId)(xs:aH)(hl:xs.length<=maxLen)(hk:∀row∈xs,cZ (K t) row=true)(h:∀row∈xs,∀x∈row,Wf K x):Wf K (.U t xs)
def WfL(K:TypeId->dv)(row:Row):Prop:=∀x∈row,Wf K x
mutual
def Uf:AV->Nat
 | .U _ xs=>Ls xs+1
 |_=>1
def mX:aD->Nat
 | []=>0
 |x::xs=>Uf x+mX xs
def Ls:List aD->Nat
 | []=>0
 |r::rs=>mX r+Ls rs
end
mutual
def qC{H:Type}:DataW H->Nat
 | .slice e s=>uS e+uS s+1
 | .agg p=>uS p+1
 |_=>1
def uS{H:Type}:List (DataW H)->Nat
 | []=>0
 |d::r=>qC d+uS r
end
def OX:∀a b:aD,mX (a++b)=mX a+mX b
 | [],b=>by simp [mX]
 |x::a,b=>by simp only [iR,mX,OX a b];omega
def IH(d:DataW H):1<=qC d:=by cases d<;>simp [qC]
def Pq{H:Type}:∀l:List (DataW H),uS l=(l.map qC).sum
 | []=>rfl
 |d::l=>by simp only [uS,fW,nk,Pq l]
def aaN:∀{rs:List aD} {ns:cp},rs.length=ns.length->(∀(i:Nat) r n,rs[i]?=some r->ns[i]?=some n->mX r<=n)->Ls rs<=ns.sum
 | [],[],_,_=>dZ _
 |r::rs,n::ns,hl,h=>by
  have:=h 0 r n rfl rfl;have:=aaN (rs:=rs) (ns:=ns) (nv) λi r' n' h1 h2=>h (i+1) r' n' (qu) (rf);simp only [Ls,nk];omega
 | [],_::_,hl,_=>by simp at hl
 |_::_,[],hl,_=>by simp at hl
def ED(X:Cx):Nat->List (Nat×TypeId)->Nat->Bool
 |o,[],n=>o==n
 |o,f::fs,n=>f.1==o&&ED X (o+(X.ti f.2).size) fs n
def Cq(X:Cx)(S:oQ)(t:TypeId):Bool:=
 (X.ti t).ok &&match(X.ti t).u with
   | .int k=>(X.ti t).ks == [.int k]
   | .bool =>(X.ti t).ks == [.bool]
   | .str =>(X.ti t).ks == [.str]
   | .slice e=>(X.ti t).ks == [.slice e]&&S.contains e&&Nat.blt 0 (X.ti e).size
   | .struct fs=>(X.ti t).ks ==fs.flatMap (λf=>(X.ti f.2).ks)&&ED X 0 fs (X.ti t).size &&fs.all (λf=>S.contains f.2)
   | .array m e=>(X.ti t).ks ==(List.replicate m (X.ti e).ks).flatten &&S.contains e&&(m*(X.ti e).size ==(X.ti t).size)
   |_=>false
def vB(X:Cx)(S:oQ):Bool:=S.all (Cq X S)
def QZ(h:vB X S=true)(ht:S.contains t=true):Cq X S t=true:=by
 unfold vB at h;exact iQ.1 h t (EH)
def OJ:∀{ks ls:dv} {r s:Row},cZ ks r=true->cZ ls s=true->cZ (ks++ls) (r++s)=true
 | [],_,[],_,_,h=>h
 |k::ks,ls,x::r,s,h,h'=>by
  simp only [cZ,bc]at h;simp only [iR,cZ,bc];exact⟨h.1,OJ h.2 h'⟩
 | [],_,_::_,_,h,_=>yJ
 |_::_,_,[],_,h,_=>yJ
section
variable {w:World} {ρ:aT}
def there(w:World)(a:Addr):Prop:=a.block<w.heap.size
def Reads(X:Cx)(ρ:aT)(w:World)(ks:dv)(cs:eU)(row:Row):Prop:=cq X.K ρ (there w) w row cs∧cZ ks row=true∧WfL X.K row
def Xt{cs:eU}:∀(fs:List (Nat×TypeId)) (ns:cp) (o:Nat),fs.length=ns.length->o<=cs.length->ED X o fs cs.length=true->(∀f∈fs,(X.ti f.2).ks.length =(X.ti f.2).size)->
 (∀(j:Nat) f n,fs[j]?=some f->ns[j]?=some n->∃row,Reads X ρ w (X.ti f.2).ks ((cs.drop f.1).take (X.ti f.2).size) row∧mX row<=n)->∃row,Reads X ρ w (fs.flatMap λf=>(X.ti f.2).ks) (cs.drop o) row∧mX row<=ns.sum
 | [],ns,o,_,ho,h,_,_=>by
   have:o=cs.length:=by simpa [ED]using h
   subst this;exact⟨[],⟨by simp [cq],rfl,λx hx=>tc⟩,dX _⟩
 |_::_,[],_,hl,_,_,_,_=>by simp at hl
 |f::fs,n::ns,o,hl,ho,h,iB,hr=>by
  simp only [ED,bc,fJ]at h;obtain⟨h1,h2⟩:=h;obtain⟨r1,⟨a1,a2,a3⟩,an⟩:=hr 0 f n rfl rfl;rw [h1]at a1;have gS:((cs.drop o).take (X.ti f.2).size).length =(X.ti f.2).size :=by rw [a1.1,gK a2];exact iB f (by simp)
  have ho2:o+(X.ti f.2).size <=cs.length:=by simp at gS;omega
  obtain⟨r2,⟨b1,b2,b3⟩,bn⟩:=Xt fs ns (o+(X.ti f.2).size) (nv) ho2 h2 (λg hg=>iB g (by simp [hg])) (λj g m hg hm=>hr (j+1) g m (by simpa using hg) (Jb));refine⟨r1++r2,⟨?_,?_,λx hx=> ?_⟩,by rw [OX,nk];omega⟩
  ·exact abd
  ·simp only [kZ];exact OJ a2 b2
  ·exact ab3
def XN{cs:eU}{ks:dv}{sz:Nat}(iB:ks.length=sz):∀(ns:cp) (o:Nat),o+ns.length*sz=cs.length->(∀(i:Nat) n,ns[i]?=some n->∃row,Reads X ρ w ks ((cs.drop (o+i*sz)).take sz) row∧mX row<=n)->∃row,Reads X ρ w (List.replicate ns.length ks).flatten (cs.drop o) row∧mX row<=ns.sum
 | [],o,ho,_=>by
   have:o=cs.length:=by simpa using ho
   subst this;exact⟨[],⟨by simp [cq],rfl,λx hx=>tc⟩,dX _⟩
 |n::ns,o,ho,hr=>by
  obtain⟨r1,⟨a1,a2,a3⟩,an⟩:=hr 0 n rfl;simp only [Nat.zero_mul,Bb]at a1;rw [gE]at ho;have e1:(ns.length+1)*sz=ns.length*sz+sz:=Nat.succ_mul _ sz;obtain⟨r2,⟨b1,b2,b3⟩,bn⟩:=XN (cs:=cs) iB ns (o+sz) (by omega) (λi m hi=>by
   have:=hr (i+1) m (yL);have e2:(i+1)*sz=i*sz+sz:=Nat.succ_mul i sz;rw [e2,show o+(i*sz+sz)=o+sz+i*sz by omega]at this;exact this)
  refine⟨r1++r2,⟨?_,?_,λx hx=> ?_⟩,by rw [OX,nk];omega⟩
  ·exact abd
  ·simp only [gE,Im,yx];exact OJ a2 b2
  ·exact ab3
def DZ{k:Kind}{x:AV}(hr:aw X.K ρ (there w) w x v)(hk:fj k x=true)(hw:Wf X.K x):Reads X ρ w [k] [v] [x]:=
 ⟨⟨rfl,λj y u hy hu=>by
   cases j with
   |zero=>simp at hy hu;subst hy;subst hu;exact hr
   |succ j=>simp at hy⟩,by simp [cZ,hk],λy hy=>by simp at hy;subst hy;exact hw⟩
def HS(hX:X.Ok){S:oQ}(hS:vB X S=true){H:Type}{enc:TypeId×Value->H}:∀(n:Nat) {fuel:Nat} {t:TypeId} {cs:eU} {x:DataW H×List MemPlace},fuel<n->S.contains t=true->
 DataW.trod enc X.P w 0 (λ_=>true) true fuel t cs=some x->∃row,Reads X ρ w (X.ti t).ks cs row∧mX row<=qC x.1
 |0,_,_,_,_,h,_,_=>absurd h (Nat.not_lt_zero _)
 |n+1,fuel,t,cs,x,hfu,ht,hx=>by
  have h:=QZ hS ht;simp only [Cq,bc]at h;obtain⟨aQ,h⟩:=h;obtain⟨i,d,z,f⟩:=hX.facts aQ;have jI:∀t',(X.ti t').ok =true->X.P.cellsOf t'=(X.ti t').size :=λt' Tu=>by
   obtain⟨i',d',z',f'⟩:=hX.facts Tu;simp [Program.cellsOf,f'.info,f'.size]
  have hlen:∀t',(X.ti t').ok =true->(X.ti t').ks.length =(X.ti t').size :=λt' Tu=>by
   obtain⟨i',d',z',f'⟩:=hX.facts Tu;rw [f'.ks,f'.size]
  have KI:∀{t'},S.contains t'=true->(X.ti t').ok =true:=λ{t'} hm=>by
   have:=QZ hS hm;simp only [Cq,bc]at this;exact this.1
  split at h
  ·rename_i k hu;have hk:(X.ti t).ks =[.int k]:=jh;obtain⟨m,rfl,_,hwf⟩:=DataW.trod_int (f.afB hu) hx;rw [hk];exact⟨_,DZ (.int k m) (by simp [fj]) (.int k m hwf),IH x.1⟩
  ·rename_i hu;have hk:(X.ti t).ks =[.bool]:=jh;have cE:X.P.underlying t=some .bool :=ab1;obtain⟨b,rfl,_⟩:=DataW.trod_bool cE hx;rw [hk];exact⟨_,DZ (.bool b) rfl (.bool b),IH x.1⟩
  ·rename_i hu;have hk:(X.ti t).ks =[.str]:=jh;have cE:X.P.underlying t=some .string :=ab1;obtain⟨s,rfl,_,hs⟩:=DataW.trod_string cE hx;rw [hk];exact⟨_,DZ (.str s) rfl (.str s hs),IH x.1⟩
  ·rename_i e hu;simp only [bc,fJ]at h;obtain⟨⟨hk,jo⟩,mc⟩:=h;have mc:0<(X.ti e).size :=by simpa using mc
   have FL:=KI jo;rcases DataW.trod_slice (f.slice hu) hx with⟨rfl,_⟩|⟨a,len,cap,elems,rest,m,hfm,rfl,vI,_,jq,U2,hel,Sn,_,_⟩
   ·rw [hk];exact⟨_,DZ (.iS e) (by simp [fj]) (.U e [] (by simp) (λrow h=>dB) (λrow h=>dB)),IH x.1⟩
   ·rw [hk];have each:∀i,i<len->∃vs row,w.cells? 0 (a.add (i*(X.ti e).size)) (X.ti e).size =some vs∧Reads X ρ w (X.ti e).ks vs row∧∀n,(elems.map λd=>qC d.1)[i]?=some n->mX row<=n:=by
     intro i hi;have:=Sn i hi;rw [jI e FL,cJ (by omega)]at this;rw [Option.bind_eq_some_iff]at this;obtain⟨vs,h1,h2⟩:=this;obtain⟨row,h3,h4⟩:=HS hX hS n (by omega) jo h2;exact⟨vs,row,h1,h3,λm hm=>by
      rw [gW,cJ (by omega)]at hm;cases hm;exact h4⟩
    have hch:∃g:Nat->eU×Row,∀i,i<len->w.cells? 0 (a.add (i*(X.ti e).size)) (X.ti e).size =some (g i).1 ∧Reads X ρ w (X.ti e).ks (g i).1 (g i).2 ∧∀n,(elems.map λd=>qC d.1)[i]?=some n->mX (g i).2 <=n:=by
     refine⟨λi=>if hi:i<len then((each i hi).choose,(each i hi).choose_spec.choose)else([],[]),λi hi=> ?_⟩;simp only [hi,dif_pos];exact(each i hi).choose_spec.choose_spec
    obtain⟨g,hg⟩:=hch;have tU:=hlen e FL;have qK:((List.range len).map λi=>(g i).2).length =len:=by simp
    have rep:=aw.U (K:=X.K) (ρ:=ρ) (F:=there w) (w:=w) e ((List.range len).map λi=>(g i).2) a cap ((List.range len).map λi=>(g i).1) (by simp) (by simpa using jq) U2
     (λi row hi=>by
       have aY:i<len:=Fh;simp only [gW,qX aY,jv,Option.some.injEq]at hi;subst hi;exact(hg i aY).2.1.2.1)
     (λi vs hi=>by
       have aY:i<len:=Fh;simp only [gW,qX aY,jv,Option.some.injEq]at hi;subst hi;obtain⟨c1,c2,_⟩:=hg i aY;have xX:(g i).1.length =(X.K e).length :=by rw [c2.1.1,gK c2.2.1];rfl
       refine⟨xX,λj v hj=> ?_⟩;have GK:j<(X.ti e).size :=by have:=(cy.1 hj).1;rw [xX]at this;rw [<-tU];exact this
       have acM:w.cell? (a.add (i*(X.K e).length +j))=some v:=by
        have Si:=World.cells?_some c1;obtain⟨_,Si⟩:=Si;have:=Si.2 j GK;rw [hj]at this;have e2:(X.K e).length =(X.ti e).size :=tU;rw [e2]
        rwa [wI]at this
       exact⟨acM,World.block_lt_of_cell? w _ acM⟩)
     (λi row vs hi dL j y v hy hv=>by
       have aY:i<len:=Fh;simp only [gW,qX aY,jv,Option.some.injEq]at hi dL;subst hi;subst dL;exact(hg i aY).2.1.1.2 j y v hy hv)
    rw [qK]at rep;refine⟨_,DZ rep (by simp [fj]) (.U e _ (by rw [qK];omega) (λrow er=> ?_) λrow er y hy=> ?_),?_⟩
    ·obtain⟨i,hi,rfl⟩:=nV.1 er;exact(hg i (wx.1 hi)).2.1.2.1
    ·obtain⟨i,hi,rfl⟩:=nV.1 er;exact(hg i (wx.1 hi)).2.1.2.2 y hy
    ·have:=aaN (rs:=(List.range len).map λi=>(g i).2) (ns:=elems.map λd=>qC d.1) (by simp [hel]) λi r n h1 h2=>by
      have aY:i<len:=by have:=(cy.1 h1).1;simpa using this
      simp only [gW,qX aY,jv,Option.some.injEq]at h1;subst h1;exact(hg i aY).2.2 n h2
     rw [vI];simp only [qC,Pq,Ba,mX,Uf,YR];omega
  ·rename_i fs hu;simp only [bc,fJ]at h;obtain⟨⟨hk,oX⟩,iy⟩:=h;obtain⟨gs,cE,rfl⟩:=f.struct hu;obtain⟨xs,m,hfm,vI,dy,Cz,arR⟩:=DataW.trod_struct cE hx;rw [hk];rw [jI t aQ]at dy;have:=Xt (X:=X) (ρ:=ρ) (w:=w) (cs:=cs) (gs.toList.map λf=>(f.offset,f.type)) (xs.map λd=>qC d.1) 0 (by simp [Cz]) (dX _) (by rw [dy];exact oX)
    (λg hg=>hlen _ (KI (iQ.1 iy g hg))) (λj g k hg hn=>by
      have jo:=iQ.1 iy g (kY hg);rw [gW,Py]at hg;obtain⟨q,hq,rfl⟩:=hg;have oE:gs[j]?=some q:=EK;have hf:=arR j q oE;rw [jI _ (KI jo)]at hf;rw [gW,Py]at hn;obtain⟨y,hy,rfl⟩:=hn;rw [hy]at hf;exact HS hX hS n (by omega) jo hf)
   obtain⟨row,h1,h2⟩:=this;refine⟨row,qu,?_⟩;exact abv
  ·rename_i m e hu;simp only [bc,fJ]at h;obtain⟨⟨hk,jo⟩,hmul⟩:=h;have FL:=KI jo;obtain⟨xs,m',hfm,vI,dy,Cz,Sn⟩:=DataW.trod_array (f.array hu) hx;rw [hk];rw [jI t aQ]at dy;have:=XN (X:=X) (ρ:=ρ) (w:=w) (cs:=cs) (hlen e FL) (xs.map λd=>qC d.1) 0 (by rw [fI,Cz];omega) (λi k hi=>by
    rw [gW,Py]at hi;obtain⟨y,hy,rfl⟩:=hi;have hf:=Sn i (Rn);rw [jI _ FL,hy]at hf;simpa using HS hX hS n (by omega) jo hf)
   obtain⟨row,h1,h2⟩:=this;rw [fI,Cz]at h1;refine⟨row,qu,?_⟩;exact abv
  ·cases h
end
def SG(X:Cx)(t:TypeId)(x:AV):Prop:=((X.ti t).u.agg =true∧∃row,x= .agg row∧cZ (X.ti t).ks row=true∧WfL X.K row)∨((X.ti t).u.agg =false∧cZ (X.ti t).ks [x]=true∧Wf X.K x)
def Ug:AV->Nat
 | .agg row=>mX row
 |x=>Uf x
def Tg(xs:aD):Nat:=(xs.map Ug).sum
def am5(hX:X.Ok)(hS:vB X S=true){w:World}{base:Nat}{ρ:aT}{d:DataW H}{ps:List MemPlace}(jo:S.contains t=true)(h:DataW.Trod enc X.P w 0 (λ_=>true) true t v d ps)
 (aQ:Value.okWide X.P w .any base t v):∃x,(SG X t x∧Ug x<=qC d)∧aw X.K ρ (there w) w x v:=by
 obtain⟨fuel,h⟩:=h;obtain⟨row,hr,hn⟩:=HS hX hS (ρ:=ρ) (fuel+1) (by omega) jo h;have CG:=QZ hS jo;have tQ:(X.ti t).ok =true:=by
  simp only [Cq,bc]at CG;exact CG.1
 obtain⟨i,dd,z,f⟩:=hX.facts tQ;cases ei:(X.ti t).u.agg with
 |true=>
  have hv:∃cs,v= .agg cs:=by
   unfold Value.okWide at aQ;rw [f.iz]at aQ;rw [f.u]at ei;cases dd<;>simp [kJ,sL.agg]at ei
   ·obtain⟨cs,h1,_⟩:=aQ;exact⟨cs,h1⟩
   ·obtain⟨cs,h1,_⟩:=aQ;exact⟨cs,h1⟩
  obtain⟨cs,rfl⟩:=hv;have hc:(Value.agg cs).cells.toList =cs.toList:=rfl;rw [hc]at hr;refine⟨.agg row,⟨.inl ⟨ei,row,rfl,hr.2.1,hr.2.2⟩,hn⟩,?_⟩;have:=aw.agg (K:=X.K) (ρ:=ρ) (F:=there w) (w:=w) row cs.toList hr.1.1 hr.1.2;exact qo
 |false=>
  have tU:(X.ti t).ks.length =1:=by
   simp only [Cq,bc]at CG;have h2:=CG.2;split at h2
   ·rename_i k hu;have:(X.ti t).ks =[.int k]:=rf;exact jg
   ·have:(X.ti t).ks =[.bool]:=by simpa using h2
    exact jg
   ·have:(X.ti t).ks =[.str]:=by simpa using h2
    exact jg
   ·simp only [bc,fJ]at h2;rw [h2.1.1];rfl
   ·rename_i hu;rw [hu]at ei;simp [sL.agg]at ei
   ·rename_i hu;rw [hu]at ei;simp [sL.agg]at ei
   ·cases h2
  have nL:=gK hr.2.1;rw [tU]at nL;obtain⟨x,rfl⟩:=List.length_eq_one_iff.1 nL;have dy:v.cells.toList.length=1:=by rw [hr.1.1,nL]
  have hv:v.cells.toList=[v]:=by
   cases v with
   |agg cs=>
    exfalso;unfold Value.okWide at aQ;rw [f.iz]at aQ;rw [f.u]at ei;cases dd<;>simp [kJ,sL.agg]at ei<;>simp [Cell.okWide,Cell.ok,f.iz]at aQ
   |_=>rfl
  rw [hv]at hr;have hw:=hr.2.2 x (by simp);exact⟨x,⟨.inr ⟨ei,hr.2.1,hw⟩,by cases hw<;>simpa [Ug,mX]using hn⟩,hr.1.2 0 x v rfl rfl⟩
def anp{w0 w:World}{F:aO}{ρ:aT}{M:ar}{F0:aO}(hI:Inv X w0 ⟨λ_=>False,F0⟩ F ρ M w):Below w0.heap.size w0 w:=
 ⟨hI.os,hI.tape,hI.output,hI.size,λk hk=>hI.frame k hk (λh=>h)⟩
def amF{w w':World}(h:Below w.heap.size w w')(may:MemPlace->Prop):w.keptBut w' may:=by
 refine⟨h.os,h.output,λi hi=> ?_⟩;rw [h.block i hi];exact(World.keptBut_refl w may).2.2 i hi
def aoA(hX:X.Ok)(w:World)(hg:∀g,aw X.K [] (there w) w (X.fa g) (.pointer (some ⟨g,0,none⟩))):Inv X w ⟨λ_=>False,there w⟩ (there w) [] [] w where
 os:=rfl
 tape:=rfl
 output:=rfl
 size:=dZ _
 frame:=λ_ _ _=>rfl
 len:=rfl
 rep:=λid b hd hb _=>by simp at hb
 sep:=λid b hd g hb _ _ _=>by simp at hb
 fZ:=λid id' b b' hd bY g _ hb _ _ _ _ _ _=>by simp at hb
 fz:=λa ha=>ha
 fa:=hg
 one:=λid hd hh=>by simp at hh
 dQ:=λa ha=> .inl ha
 fin:=λa ha=>ha
 aU:= .none (by simp)
def Bu(X:Cx):oQ->aD->Prop
 | [],[]=>True
 |t::ts,x::xs=>SG X t x∧Bu X ts xs
 |_,_=>False
def Xg(hX:X.Ok){S:oQ}(hS:vB X S=true){w:World}{base:Nat}{ρ:aT}{H:Type}{enc:TypeId×Value->H}:∀{ts:oQ} {vs:eU} {ds:List (DataW H)} {ps:List MemPlace},(ts.all S.contains)=true->
 DataW.TrodAll enc X.P w 0 (λ_=>true) true ts vs ds ps->(∀(j:Nat) t v,ts[j]?=some t->vs[j]?=some v->Value.okWide X.P w .any base t v)->∃xs,(Bu X ts xs∧Tg xs<=uS ds)∧cq X.K ρ (there w) w xs vs
 | [],[],[],ps,_,_,_=>⟨[],⟨trivial,dZ _⟩,by simp [cq]⟩
 |t::ts,v::vs,d::ds,ps,jo,h,aQ=>by
  obtain⟨p,q,h1,h2,_⟩:=h;simp only [nm,bc]at jo;obtain⟨x,⟨hx,hn⟩,hr⟩:=am5 hX hS (ρ:=ρ) jo.1 h1 (aQ 0 t v rfl rfl);obtain⟨xs,⟨qK,iu⟩,ph⟩:=Xg hX hS (ρ:=ρ) (ts:=ts) (vs:=vs) jo.2 h2 (λj t' v' ht hv=>aQ (j+1) t' v' (EH) (by simpa using hv));refine⟨x::xs,⟨⟨hx,qK⟩,by simp only [Tg,fW,nk,uS]at iu⊢;omega⟩,by simp [ph.1],λj y u hy hu=> ?_⟩;cases j with
  |zero=>simp at hy hu;subst hy;subst hu;exact hr
  |succ j=>simp at hy hu;exact ph.2 j y u hy hu
 | [],[],_::_,_,_,h,_=>uM
 | [],_::_,_,_,_,h,_=>uM
 |_::_,[],_,_,_,h,_=>uM
 |_::_,_::_,[],_,_,h,_=>uM
def W9{P:Program}{H:Type}{enc:TypeId×Value->H}(hl:laidOutB P=true){w w':World}(hb:Below w.heap.size w w'):∀{ts:oQ} {vs:eU} {ds:List (DataW H)} {ps:List MemPlace},(ts.all λt=>P.readableRec t&&Nat.blt t P.types.size)=true->
 DataW.TrodAll enc P w 0 (λ_=>true) true ts vs ds ps->(∀x∈ps,x.block<w.heap.size)->DataW.TrodAll enc P w' 0 (λb=>decide (b<w.heap.size)) true ts vs ds ps
 | [],[],[],ps,_,h,_=>h
 |t::ts,v::vs,d::ds,ps,jo,h,aY=>by
  obtain⟨p,q,h1,h2,rfl⟩:=h;simp only [nm,bc]at jo;exact⟨p,q,Below.trod hl jo.1.1 (by simpa using jo.1.2) h1 hb (λx hx=>aY x (by simp [hx])),W9 hl hb (ts:=ts) (vs:=vs) jo.2 h2 (λx hx=>aY x (by simp [hx])),rfl⟩
 | [],[],_::_,_,_,h,_=>uM
 | [],_::_,_,_,_,h,_=>uM
 |_::_,[],_,_,_,h,_=>uM
 |_::_,_::_,[],_,_,h,_=>uM
def amD(hX:X.Ok)(hl:laidOutB X.P=true)(zW:fn.params.toList=ts)(pg:fn.resultTypes= #[tb]) (Gx:X.P.underlying tb=some .bool)
  (hS:vB X S=true) (jo:(ts.all S.contains)=true) (GA:(ts.all λt=>X.P.readableRec t&&Nat.blt t X.P.types.size)=true) (hv:s.vars=[])  
 (hs:∀ds:List (DataW H),ds.length=ts.length->s.fn H ds={results:=[.lit (.bool true)],args:=ds})
 (W:World) (hg:∀g,aw X.K [] (there W) W (X.fa g) (.pointer (some ⟨g,0,none⟩))) (base:Nat) (args:Array Value) (ds gs:List (DataW H)) (before:List MemPlace) (tG:∀(j:Nat) t v,fn.params[j]?=some t->args[j]?=some v->Value.okWide X.P W .any base t v)
 (hW:DataW.Whole enc X.P fn.params.toList s.vars false W args.toList ds gs before)
 (FO:∀xs,Bu X ts xs->Tg xs<=uS ds->∃m M',wR X f m xs [] (.bool true) M'):
 Calls X.P f args W λe W'=>∃v,e= .returned v∧s.post enc X.P fn false true false false W args v W':=by
 have hW':=hW;obtain⟨p,q,hA,hV,hpq,CV,sC⟩:=hW;rw [hv]at hV;obtain⟨rfl,rfl⟩:=trodVars_none hV;rw [mv]at hpq;have ayi:p=before:=hpq.symm;subst ayi;have hA0:=hA;rw [zW]at hA;have hlen:ds.length=ts.length:=by
  have:∀(ts:oQ) (vs:eU) (ds:List (DataW H)) (ps:List MemPlace),DataW.TrodAll enc X.P W 0 (λ_=>true) true ts vs ds ps->ds.length=ts.length:=by
   intro ts
   induction ts with
   |nil=>intro vs ds ps h;cases vs<;>cases ds<;>simp_all [DataW.TrodAll]
   |cons t ts ih=>
    intro vs ds ps h;cases vs with
    |nil=>cases ds<;>simp [DataW.TrodAll]at h
    |cons v vs=>
     cases ds with
     |nil=>exact uM
     |cons d ds=>obtain⟨_,_,_,h2,_⟩:=h;simp [ih _ _ _ h2]
  exact this _ _ _ _ hA
 obtain⟨xs,⟨qK,hnv⟩,jy⟩:=Xg hX hS (ρ:=[]) jo hA (λj t v ht hv=>tG j t v (by rw [<-zW]at ht;simpa using ht) (by simpa using hv));obtain⟨m,M',y6⟩:=FO xs qK hnv;have:=y6 (aoA hX W hg) jy;refine this.mono ?_;rintro e W' ⟨v,ρ',F',rfl,hI,_,hr⟩;refine⟨v,rfl,?_⟩;cases hr;have hb:=anp hI;have aY:∀x∈p,x.block<W.heap.size:=λx hx=>by simpa using hW'.lt x hx
 have UT:s.fn H (ds++[])={results:=[.lit (.bool true)],args:=ds}:=by rw [mv];exact hs ds hlen
 refine⟨ds,[],p,[],p,[],hW',?_,?_,?_,amF hb _,λh=>by cases h⟩
 ·rw [UT,pg];exact trodAll_mk1 (shut_bool Gx true)
 ·rw [UT];rw [zW];exact W9 hl hb GA hA aY
 ·rw [UT,hv];exact rfl
def amE(hX:X.Ok)(hl:laidOutB X.P=true)(zW:fn.params.toList=ts)(pg:fn.resultTypes= #[tb]) (Gx:X.P.underlying tb=some .bool)
  (hS:vB X S=true) (jo:(ts.all S.contains)=true) (GA:(ts.all λt=>X.P.readableRec t&&Nat.blt t X.P.types.size)=true) (hv:s.vars=[])  
 (hs:∀ds:List (DataW H),ds.length=ts.length->s.fn H ds={results:=[.lit (.bool true)],args:=ds})
 (FO:∀xs,Bu X ts xs->∃m M',wR X f m xs [] (.bool true) M')
 (W:World) (hg:∀g,aw X.K [] (there W) W (X.fa g) (.pointer (some ⟨g,0,none⟩))) (base:Nat) (args:Array Value) (ds gs:List (DataW H)) (before:List MemPlace) (tG:∀(j:Nat) t v,fn.params[j]?=some t->args[j]?=some v->Value.okWide X.P W .any base t v)
 (hW:DataW.Whole enc X.P fn.params.toList s.vars false W args.toList ds gs before):
 Calls X.P f args W λe W'=>∃v,e= .returned v∧s.post enc X.P fn false true false false W args v W':=
 amD hX hl zW pg Gx hS jo GA hv hs W hg base args ds gs before tG hW λxs h _=>FO xs h
def am9(hX:X.Ok)(hg:∀g,X.fa g= .top)(hl:laidOutB X.P=true)(zW:fn.params.toList=ts)(pg:fn.resultTypes= #[tb]) (Gx:X.P.underlying tb=some .bool)
  (hS:vB X S=true) (jo:(ts.all S.contains)=true) (GA:(ts.all λt=>X.P.readableRec t&&Nat.blt t X.P.types.size)=true) (hv:s.vars=[])  
 (hs:∀ds:List (DataW H),ds.length=ts.length->s.fn H ds={results:=[.lit (.bool true)],args:=ds})
 (FO:∀xs,Bu X ts xs->∃m M',wR X f m xs [] (.bool true) M')
 (W:World) (base:Nat) (args:Array Value) (ds gs:List (DataW H)) (before:List MemPlace) (tG:∀(j:Nat) t v,fn.params[j]?=some t->args[j]?=some v->Value.okWide X.P W .any base t v)
 (hW:DataW.Whole enc X.P fn.params.toList s.vars false W args.toList ds gs before):
 Calls X.P f args W λe W'=>∃v,e= .returned v∧s.post enc X.P fn false true false false W args v W':=
 amE hX hl zW pg Gx hS jo GA hv hs FO W (λg=>by rw [hg];exact .top _) base args ds gs before tG hW
end
noncomputable section
variable {X:Cx} {R:Type}
section
variable {w:World} {F:aO} {ρ:aT} {n:Nat}
end
section
variable {w:World} {F:aO} {ρ:aT}
end
def kce{R:Type}(f:FuncId):CE R:=⟨f,λ_ _=>true,λ_ _=>some [],λargs M k=>match args with| []=>k (.bool true) M|_=>none⟩
end
end Go.ae
namespace Go.ae
def acp{p:Prop}(h:p:=by
 cases hq:Nat.beq o.1 i with
 |false=>rfl
 |true=>have:=ct hq;omega):p:=h
def ab0{p:Prop}(h:p:=by
 intro l o ho;unfold FC at ho;rw [hlp,hc]at ho;exact hp l o ho):p:=h
def Rp{p:Prop}(h:p:=by simp only [nG,sv,AV.rows];rw [eq_of_beq h]):p:=h
def abN{p:Prop}(h:p:=by
 obtain⟨h1,h2⟩:=aai hX h;exact⟨0,x,rfl,aqH he,h1,h2⟩):p:=h
def abG{p:Prop}(h:p:=by
 obtain⟨h1,h2⟩:=aai hX h;exact⟨0,x,rfl,h1,h2⟩):p:=h
def abC{p:Prop}(h:p:=by
 rw [hb]at hr;have:=ct hb;subst this;exact he eh hr):p:=h
def abB{p:Prop}(h:p:=by
 split at h
 ·rename_i w t';exact⟨w,by rw [ct h]⟩
 ·cases h):p:=h
end Go.ae
namespace Go.ae
def da:=@cond_true
def uA:=@Bool.false_and
end Go.ae
namespace Go.ae
open Go
noncomputable section
variable {X:Cx} {R:Type}
variable{x:AV}{c root:Code}{fn:Func}{f:FuncId}{σ:aj}{m p:Nat}{r:R}{s:Sh}{st:St}{t:TypeId}{args:aD}{M:ar}
def du.qh:du->Bool| .cell _| .vw _| .any =>false|_=>true
def Sh.qh:Sh->Bool| .one s=>s.qh|_=>false
def dD.qh:dD->Bool| .gone =>true|_=>false
def ab:List du->Nat->aD->aD
 | [],_,_=>[]
 |s::ss,i,xs=>vu s (xs.getD i .top)::ab ss (i+1) xs
def xD:Sh->AV->AV
 | .one s,x=>vu s x
 | .agg ss,x=> .agg (ab ss 0 x.cells)
 | .dE f ss,x=> .dE f [] (ab ss 0 x.eD)
def Gd:List (Nat×Sh)->Nat->aD->bA
 | [],_,_=>[]
 |e::es,i,l=>match e.2.qh with|true=>(e.1,xD e.2 .top)::Gd es i l|false=>(e.1,xD e.2 (l.getD i .top))::Gd es (i+1) l
def Fy:List (Nat×Sh)->Nat->aD->bA
 | [],_,_=>[]
 |e::es,i,l=>(e.1,xD e.2 (l.getD i .top))::Fy es (i+1) l
def aq(rows:aH):List (AV×AV):=rows.map λr=>(r.getD 0 .top,r.getD 1 .top)
def au(es:List (AV×AV)):aH:=es.map λe=>[e.1,e.2]
def sv:bU->AV
 | .row t xs=> .U t xs
 | .di t xs=> .U t xs
 | .aU t xs _=> .U t xs
 | .var _ cs=> .agg cs
 | .map _ _ _ es=> .U 0 (au es)
 | .loop _ env _ _=> .agg (env.map (·.2))
 |_=> .top
def nG:dD->AV->bU
 | .row t,x=> .row t x.rows
 | .di t,x=> .di t x.rows
 | .aU t,x=> .aU t x.rows none
 | .var ks ss,x=> .var ks (ab ss 0 x.cells)
 | .arr ks,x=> .var ks x.cells
 | .mp k ag ks,x=> .map k ag ks (aq x.rows)
 | .loop s es p,x=> .loop s (Fy es 0 x.cells) false p
 | .gone,_=> .dead
def Gc:List dD->Nat->aD->ar
 | [],_,_=>[]
 |s::ss,i,l=>match s.qh with|true=>nG s .top ::Gc ss i l|false=>nG s (l.getD i .top)::Gc ss (i+1) l
def nE:List (Nat×Sh)->Nat
 | []=>0
 |e::es=>match e.2.qh with|true=>nE es|false=>nE es+1
def unpack(σ:aj)(l:aD):St:=⟨Gd σ.env 0 l,Gc σ.mem (nE σ.env) l,[],.qE⟩
def uL(lk:Nat->AV):List (Nat×Sh)->aD
 | []=>[]
 |e::es=>match e.2.qh with|true=>uL lk es|false=>lk e.1::uL lk es
def yZ:List dD->ar->aD
 |s::ss,b::M=>match s.qh with|true=>yZ ss M|false=>sv b::yZ ss M
 |_,_=>[]
def pack(σ:aj)(lk:Nat->AV)(M:ar):aD:=uL lk σ.env++yZ σ.mem M
def aav:∀{ss:List du} {ys pre:aD},tA ss ys=true->ab ss pre.length (pre++ys)=ys
 | [],[],pre,_=>rfl
 |s::ss,y::ys,pre,h=>by
  simp only [tA,bc]at h;have ih:=aav (pre:=pre++[y]) h.2;rw [mu,fC]at ih;simp only [ab];rw [show(pre++y::ys).getD pre.length .top =y by simp [List.getD]];rw [I3 h.1];exact wj (y:: ·) ih
 | [],_::_,_,h=>Jg
 |_::_,[],_,h=>Jg
def Qr{ss:List du}{ys:aD}(h:tA ss ys=true):ab ss 0 ys=ys:=aav (pre:=[]) h
def QN(h:Cs s x=true):xD s x=x:=by
 unfold Cs at h;split at h
 ·exact I3 h
 ·simp only [xD,AV.cells];rw [Qr h]
 ·rw [bc]at h;simp only [xD,AV.eD];rw [Qr h.2,ct h.1]
 ·cases h
def apQ{s:du}(h:s.qh=true)(x y:AV):vu s x=vu s y:=by cases s<;>first|rfl|cases h
def apY(h:s.qh=true)(x y:AV):xD s x=xD s y:=by
 cases s with
 |one s=>exact apQ h x y
 |agg _=>cases h
 |dE _ _=>cases h
def QP{lk:Nat->AV}:∀{es:List (Nat×Sh)} {pre post:aD},Ct lk es=true->Gd es pre.length (pre++(uL lk es++post))=zy lk es
 | [],_,_,_=>rfl
 |e::es,pre,post,h=>by
  simp only [Ct,bc]at h;simp only [Gd,uL,zy];rw [QK h.1];cases hc:e.2.qh with
  |true=>
   simp only;rw [apY hc .top (lk e.1),QN h.1,QP h.2]
  |false=>
   simp only;have ih:=QP (pre:=pre++[lk e.1]) (post:=post) h.2;rw [mu,fC]at ih;rw [show(pre++(lk e.1::uL lk es++post)).getD pre.length .top =lk e.1 by simp [List.getD],QN h.1];exact wj ((e.1,lk e.1):: ·) ih
def ZS:∀{es:List (Nat×Sh)} {env:bA} {pre:aD},xk es env=true->Fy es pre.length (pre++env.map (·.2))=env
 | [],[],_,_=>rfl
 |e::es,x::env,pre,h=>by
  simp only [xk,bc]at h;have ih:=ZS (pre:=pre++[x.2]) h.2;rw [mu,fC]at ih;simp only [Fy,fW];rw [show(pre++x.2::env.map (·.2)).getD pre.length .top =x.2 by simp [List.getD],QN h.1.2,<-ct h.1.1];exact wj (x:: ·) ih
 | [],_::_,_,h=>Jf
 |_::_,[],_,h=>Jf
def aoZ{es:List (Nat×Sh)}{env:bA}(h:xk es env=true):Fy es 0 (env.map (·.2))=env:=ZS (pre:=[]) h
def yB(es:List (AV×AV)):aq (au es)=es:=by
 unfold aq au;rw [Ba]
 induction es with
 |nil=>rfl
 |cons e es ih=>simp only [fW,ih];rfl
def aaw{s:dD}{b:bU}(h:okB s b=true):nG s (sv b)=b:=by
 unfold okB at h;split at h
 ·exact Rp
 ·exact Rp
 ·rw [bc]at h;simp only [nG,sv,AV.cells];rw [Qr h.2,eq_of_beq h.1]
 ·simp only [nG,sv,AV.cells];rw [eq_of_beq h]
 ·rw [bc,bc]at h;simp only [nG,sv,AV.rows];rw [yB,eq_of_beq h.1.1,eq_of_beq h.1.2,eq_of_beq h.2]
 ·rw [bc,bc]at h;simp only [nG,sv,AV.cells];rw [aoZ h.1.2,ct h.1.1,aaM h.2]
 ·rfl
 ·exact Rp
 ·cases h
def apZ{s:dD}(h:s.qh=true)(x y:AV):nG s x=nG s y:=by cases s<;>first|rfl|cases h
def QO:∀{ss:List dD} {M:ar} {pre:aD},zR ss M=true->Gc ss pre.length (pre++yZ ss M)=M
 | [],[],_,_=>rfl
 |s::ss,b::M,pre,h=>by
  simp only [zR,bc]at h;simp only [Gc,yZ];cases hc:s.qh with
  |true=>
   simp only;rw [apZ hc .top (sv b),aaw h.1,QO h.2]
  |false=>
   simp only;have ih:=QO (pre:=pre++[sv b]) h.2;rw [mu,fC]at ih;rw [show(pre++sv b::yZ ss M).getD pre.length .top =sv b by simp [List.getD],aaw h.1];exact wj (b:: ·) ih
 | [],_::_,_,h=>Je
 |_::_,[],_,h=>Je
def R5{lk:Nat->AV}:∀(es:List (Nat×Sh)),nE es=(uL lk es).length
 | []=>rfl
 |e::es=>by
  simp only [nE,uL];cases e.2.qh with
  |true=>exact R5 es
  |false=>simp only [gE,R5 (lk:=lk) es]
def BD(σ:aj)(aM:cp)(st:St):aD:=pack σ (λt=>eE (idx aM) 4 (look st.env t)) (ny st.mem aM)
def HW{aM:cp}(h:sY σ aM st=true):unpack σ (BD σ aM st)=Bt σ aM st:=by
 unfold sY at h;rw [bc,bc]at h;unfold unpack BD pack Bt af5;have h1:=QP (pre:=[]) (post:=yZ σ.mem (ny st.mem aM)) h.1.2;have h2:=QO (pre:=uL (λt=>eE (idx aM) 4 (look st.env t)) σ.env) h.2;rw [<-R5]at h2;rw [h2,QL h.2];exact wj (λe=>(⟨e,_,[],.qE⟩:St)) h1
structure Wy where
 cv:List Cv
 aM:St->cp
variable{w:Wy}
abbrev UO:=Nat×aD
variable{L:iM UO}{o:UO}{g:aD->Option UO}
section
variable {O:Type}
def Ad(X:Cx)(m:Nat)(w:Wy)(σ:aj)(st:St)(f:aD->Option O):Option O:=
 gO X w.cv st λst1=>aB (sY σ (w.aM st1) st1&&pre m (w.aM st1)&&st1.gJ.isEmpty) (f (BD σ (w.aM st1) st1))
def YC(hX:X.Ok){f:aD->Option O}{o:O}(h:Ad X m w σ st f=some o):
 ∃l,f l=some o∧∀{nt:Nt} {rdc:Cy} {w0:World} {S:Sc} {F:aO} {ρ:aT} {a:Act} {w:World},Inv X w0 S F ρ st.mem w->eY X nt st rdc F ρ a w->
  ∃F' ρ',Inv X w0 S F' ρ' (unpack σ l).mem w∧eY X nt (unpack σ l) rdc F' ρ' a w∧oS m F F' ρ ρ' w w:=by
 obtain⟨st1,h,e1,e2,hr⟩:=pE hX w.cv h;replace h:=bG h;obtain⟨h1,h⟩:=h;rw [bc,bc]at h1;obtain⟨⟨h1,h2⟩,h3⟩:=h1;refine⟨_,h,λ{nt rdc w0 S F ρ a w'} hI hs=> ?_⟩;obtain⟨F1,ρ1,i1,s1,g1⟩:=hr (nt:=nt) (rdc:=rdc) (a:=a) hI hs;obtain⟨aQ,iL,_⟩:=H6 h1;rw [HW h1];refine⟨F1,sub m4 ρ1 (w.aM st1),?_,⟨Po hX h1 i1 s1.env,s1.size,?_,s1.rd,s1.kept⟩,?_⟩
 ·have:=(i1.aez hX aQ m4).1;rw [<-iL]at this;exact this
 ·have:=s1.defs;have hd:st1.gJ=[]:=by simpa using h3
  rw [hd]at this;exact this
 ·refine(g1.toF m).trans ⟨λ_ h=>h,λid hd hm hh=> ?_,λ_ _=>rfl⟩;have:=aqc h2 hm;rw [IS this (cy.1 hh).1];exact hh
end
structure Ow where
 e:Ex
 w:Wy
 σ:aj
variable{xs:List Ow}
def K6:Ex->Ex->Bool
 | .normal,.normal =>true
 | .ret,.ret =>true
 | .exit i,.exit j=>Nat.beq i j
 |_,_=>false
def aqH{a b:Ex}(h:K6 a b=true):a=b:=by
 cases a<;>cases b<;>simp only [K6,jG]at h
 ·rfl
 ·rw [ct h]
 ·rfl
def fits(X:Cx)(w:Wy)(σ:aj)(st:St):Bool:=match gO X w.cv st (λst1=>some (sY σ (w.aM st1) st1))with|some b=>b|none=>false
def af6(e:Ex):List Ow->Bool
 | []=>false
 |x::xs=>match K6 x.e e with|true=>true|false=>af6 e xs
def vU(X:Cx)(m:Nat):List Ow->Nat->Ex->St->Option UO
 | [],_,_,_=>none
 |x::xs,i,e,st=>
  match K6 x.e e with
  |false=>vU X m xs (i+1) e st
  |true=>
   match af6 e xs with
   |false=>Ad X m x.w x.σ st λl=>some (i,l)
   |true=>match fits X x.w x.σ st with|true=>Ad X m x.w x.σ st λl=>some (i,l)|false=>vU X m xs (i+1) e st
def Kl(X:Cx)(m:Nat)(st:St)(σ:aj)(o:UO):Prop:=
 ∀{nt:Nt} {rdc:Cy} {w0:World} {S:Sc} {F:aO} {ρ:aT} {a:Act} {w:World},Inv X w0 S F ρ st.mem w->eY X nt st rdc F ρ a w->
  ∃F' ρ',Inv X w0 S F' ρ' (unpack σ o.2).mem w∧eY X nt (unpack σ o.2) rdc F' ρ' a w∧oS m F F' ρ ρ' w w
def aai(hX:X.Ok){i:Nat}(h:Ad X m w σ st (λl=>some (i,l))=some o):o.1=i∧Kl X m st σ o:=by
 obtain⟨l,h,hr⟩:=YC hX h;injection h with h;subst h;exact⟨rfl,hr⟩
def Pk(hX:X.Ok){m:Nat}{e:Ex}{st:St}{o:UO}:∀{xs:List Ow} {i:Nat},vU X m xs i e st=some o->∃j x,xs[j]?=some x∧x.e=e∧o.1=i+j∧Kl X m st x.σ o
 | [],i,h=>by cases h
 |x::xs,i,h=>by
  have next:vU X m xs (i+1) e st=some o->∃j y,(x::xs)[j]?=some y∧y.e=e∧o.1=i+j∧Kl X m st y.σ o:=by
   intro h;obtain⟨j,y,h1,h2,h3,h4⟩:=Pk hX h;exact⟨j+1,y,h1,h2,by omega,h4⟩
  simp only [vU]at h;split at h
  ·exact next h
  ·rename_i he;split at h
   ·exact abN
   ·split at h
    ·exact abN
    ·exact next h
def GR:List Ow->Nat->UO->(Ex->St->Option R)->Option R
 | [],_,_,_=>none
 |x::xs,i,o,k=>
  match xs with
  | []=>k x.e (unpack x.σ o.2)
  |_::_=>match Nat.beq o.1 i with|true=>k x.e (unpack x.σ o.2)|false=>GR xs (i+1) o k
def acQ{o:UO}{k:Ex->St->Option R}:∀{xs:List Ow} {i j:Nat} {x:Ow},xs[j]?=some x->o.1=i+j->GR xs i o k=k x.e (unpack x.σ o.2)
 | [],i,j,x,h,_=>dB
 |y::ys,i,0,x,h,ho=>by
  simp at h;subst h;cases ys with
  |nil=>rfl
  |cons z zs=>simp only [GR];rw [ho];simp
 |y::ys,i,j+1,x,h,ho=>by
  cases ys with
  |nil=>exact dB
  |cons z zs=>
   have hb:Nat.beq o.1 i=false:=acp;rw [GR];simp only [hb];exact acQ (jh) (by omega)
def asQ(X:Cx)(m:Nat)(bk:Wy)(σ:aj)(xs:List Ow)(LF:aD->Option UO)(e:Ex)(st:St):Option UO:=
 match e with
 | .normal =>Ad X m bk σ st LF
 | .exit i=>vU X m xs 0 (.exit i) st
 | .ret =>vU X m xs 0 .ret st
def BN(X:Cx)(L:iM UO)(c:Code)(p m:Nat)(bk:Wy)(σ:aj)(xs:List Ow):Nat->aD->Option UO
 |0,_=>none
 |n+1,l=>lV X L c (2*p) (unpack σ l) (asQ X m bk σ xs (BN X L c p m bk σ xs n))
def TR(X:Cx)(L:iM UO)(c:Code)(p m:Nat)(σ:aj)(xs:List Ow)(l:aD):Option UO:=lV X L c p (unpack σ l) (vU X m xs 0)
def TV(X:Cx)(nt:Nt)(c:Code)(m:Nat)(σ:aj)(xs:List Ow)(f:aD->Option UO):Prop:=
 ∀l o,f l=some o->∃j x,xs[j]?=some x∧o.1=j∧atJ X nt c m (unpack σ l) (Ex.l9 x.e) (unpack x.σ o.2)
def aqM(hX:X.Ok)(hL:L.Ok X root)(eh:At root p c):TV X L.fS.nt c m σ xs (TR X L c p m σ xs):=by
 intro l o h;obtain⟨e,jO,cC,hk⟩:=qU hX hL c eh h;obtain⟨j,x,h1,h2,h3,h4⟩:=Pk hX hk;refine⟨j,x,h1,by omega,λ{rdc n w0 S F ρ a w Q} hI hs hq=> ?_⟩;refine cC hI hs λa' w' F' ρ' c6 bX hg=> ?_;obtain⟨F2,ρ2,i2,s2,g2⟩:=h4 c6 bX;rw [<-h2];exact hq a' w' F2 ρ2 i2 s2 ((hg.toF m).trans g2)
def Xv(hX:X.Ok){root c:Code}{p m:Nat}{L:iM UO}(hL:L.Ok X root)(eh:At root p (.loop c)){bk:Wy}{σ:aj}{xs:List Ow}:
 ∀(fuel:Nat) {l:aD} {o:UO},BN X L c p m bk σ xs fuel l=some o->∃j x,xs[j]?=some x∧o.1=j∧∀{rdc:Cy} {n:Nat} {w0:World} {S:Sc} {F:aO} {ρ:aT} {a:Act} {w:World} {Q:Exit->Act->World->Prop},
  Inv X w0 S F ρ (unpack σ l).mem w->eY X L.fS.nt (unpack σ l) rdc F ρ a w->
  (∀a' w' F' ρ',Inv X w0 S F' ρ' (unpack x.σ o.2).mem w'->eY X L.fS.nt (unpack x.σ o.2) rdc F' ρ' a' w'->oS m F F' ρ ρ' w w'->Q (Ex.l9 x.e) a' w')->Code.roundsIn (jP rdc.r) n X.P c Q fuel a w
 |0,l,o,h=>by cases h
 |fuel+1,l,o,h=>by
  simp only [BN]at h;obtain⟨e,av,cC,h⟩:=qU hX hL c (eh.down false λl hl=>tj) h;have out:e≠ .normal ->vU X m xs 0 e av=some o->∃j x,xs[j]?=some x∧o.1=j∧∀{rdc:Cy} {n:Nat} {w0:World} {S:Sc} {F:aO} {ρ:aT} {a:Act} {w:World} {Q:Exit->Act->World->Prop},
   Inv X w0 S F ρ (unpack σ l).mem w->eY X L.fS.nt (unpack σ l) rdc F ρ a w->
   (∀a' w' F' ρ',Inv X w0 S F' ρ' (unpack x.σ o.2).mem w'->eY X L.fS.nt (unpack x.σ o.2) rdc F' ρ' a' w'->oS m F F' ρ ρ' w w'->Q (Ex.l9 x.e) a' w')->Code.roundsIn (jP rdc.r) n X.P c Q (fuel+1) a w:=by
   intro c9 hg;obtain⟨j,x,h1,h2,h3,h4⟩:=Pk hX hg;refine⟨j,x,h1,by omega,λ{rdc n w0 S F ρ a w Q} hI hs hq=> ?_⟩;rw [It];refine cC hI hs λa' w' F' ρ' c6 bX hg=> ?_;obtain⟨F2,ρ2,i2,s2,g2⟩:=h4 c6 bX;have:=hq a' w' F2 ρ2 i2 s2 ((hg.toF m).trans g2);rw [h2]at this;cases e with
   |normal=>exact absurd rfl c9
   |exit i=>exact this
   |ret=>exact this
  cases e with
  |normal=>
   obtain⟨l',h,hr⟩:=YC hX h;obtain⟨j,x,h1,h2,h3⟩:=Xv hX hL eh fuel h;refine⟨j,x,h1,h2,λ{rdc n w0 S F ρ a w Q} hI hs hq=> ?_⟩;rw [It];refine cC hI hs λa' w' F' ρ' c6 bX hg=> ?_;obtain⟨F2,ρ2,i2,s2,g2⟩:=hr c6 bX;exact h3 i2 s2 λAn ou qR qv zr zo FR=>hq An ou qR qv zr zo ((hg.toF m).trans (g2.trans FR))
  |exit i=>exact out (by simp) h
  |ret=>exact out (by simp) h
def apy(hX:X.Ok)(hL:L.Ok X root)(eh:At root p (.loop c)){bk:Wy}{fuel:Nat}:TV X L.fS.nt (.loop c) m σ xs (BN X L c p m bk σ xs fuel):=by
 intro l o h;obtain⟨j,x,h1,h2,h3⟩:=Xv hX hL eh fuel h;exact⟨j,x,h1,h2,λ{rdc n w0 S F ρ a w Q} hI hs hq=>wpIn_loop_rounds fuel (h3 hI hs hq)⟩
def Kk(X:Cx)(m mask:Nat)(w:Wy)(σ:aj)(xs:List Ow)(nt:Nt)(f:aD->Option UO)(st:St)(k:Ex->St->Option R):Option R:=
 gO X w.cv st λst1=>
  aB (sY σ (w.aM st1) st1&&Nat.beq (nt.mask&&&mask) mask&&st1.gJ.isEmpty)
   (match f (BD σ (w.aM st1) st1)with
    |none=>none
    |some o=>GR xs 0 o λe so=>aB (Be m st1.mem (w.aM st1) so.mem) (k e (Jy m mask (w.aM st1) st1 so)))
def X0(hX:X.Ok){mask:Nat}{nt:Nt}{f:aD->Option UO}(hf:TV X ⟨nt.n,mask⟩ c m σ xs f){k:Ex->St->Option R}
 (h:Kk X m mask w σ xs nt f st k=some r):∃e av,nZ X nt c st (Ex.l9 e) av∧k e av=some r:=by
 unfold Kk at h;obtain⟨st1,h,e1,e2,fy⟩:=pE hX w.cv h;replace h:=bG h;obtain⟨h1,h⟩:=h;rw [bc,bc]at h1;obtain⟨⟨h1,Sq⟩,xr⟩:=h1;have xr:st1.gJ=[]:=by simpa using xr
 have Sq:nt.mask&&&mask=mask:=ct Sq;split at h
 ·cases h
 ·rename_i o ho;obtain⟨j,x,hx,hj,cC⟩:=hf _ _ ho;rw [acQ hx (by omega)]at h;replace h:=bG h;obtain⟨hm,h⟩:=h;refine⟨_,_,λ{rdc n w0 S F ρ a w' Q} hI hs hq=> ?_,h⟩;obtain⟨F1,ρ1,i1,s1,g1⟩:=fy (nt:=nt) (rdc:=rdc) (a:=a) hI hs;obtain⟨aQ,iL,_⟩:=H6 h1;have xo:=i1.sub hX aQ m4;refine cC (rdc:=⟨rdc.r,rdc.db,λt=>a.tmps.getD t undef⟩) (n:=n) (w0:=w') (S:=hand w' ρ1 st1.mem (w.aM st1) F1) (F:=F1) (ρ:=sub m4 ρ1 (w.aM st1)) (a:=a) (w:=w')
   (by rw [HW h1,iL];exact xo)
   ⟨by rw [HW h1];exact Po hX h1 i1 s1.env,s1.size,by have:=s1.defs;rw [xr]at this;exact this,s1.rd,λ_ _=>rfl⟩ ?_
  intro a' ou F' ρ' c6 bX ij;obtain⟨i3,g3,r3⟩:=i1.merge hX aQ m4 c6 ij hm;refine hq a' ou F' _ i3 ⟨λt=> ?_,bX.size,?_,bX.rd,λt ht=> ?_⟩ (g1.trans g3)
  ·rcases XO (zh (ki m (w.aM st1) st1.mem.length) 4 (unpack x.σ o.2).env) (st1.env.filter (λp=> !mask.testBit p.1)) t with e|e
   ·simp only [Jy];rw [e];exact(bX.env.eE hX r3 4) t
   ·simp only [Jy];rw [e];rcases Yy mask st1.env t with e'|⟨hb,e'⟩
    ·rw [e'];exact .top _
    ·rw [e'];have hk:=bX.kept t hb;rw [hk];exact(s1.env t).grow g3
  ·have hd:=bX.defs;simp only [Jy];rw [xr];exact hd
  ·have hb:mask.testBit t=false:=by
    rw [<-Sq,Nat.testBit_and,ht,uA]
   have hk:=bX.kept t hb;rw [hk];exact s1.kept t ht
def dec:Nat->Nat->List Bool
 |0,_=>[]
 |n+1,p=>match Nat.ble p 1 with|true=>[]|false=>Nat.beq (p %2) 1::dec n (p/2)
def aak:∀l:List Bool,l.length<enc l
 | []=>by simp [enc]
 |b::l=>by have:=aak l;simp only [enc,gE];cases b<;>simp<;>omega
def aam:∀(l:List Bool) (n:Nat),l.length<=n->dec n (enc l)=l
 | [],0,_=>rfl
 | [],n+1,_=>rfl
 |b::l,0,h=>dB
 |b::l,n+1,h=>by
  have h1:=I0 l;have h2:Nat.ble (enc (b::l)) 1=false:=by
   cases hq:Nat.ble (enc (b::l)) 1 with
   |false=>rfl
   |true=>have:=oL hq;simp only [enc]at this;omega
  simp only [dec,h2];have ih:=aam l n (jh);have e1:enc (b::l)/2=enc l:=by simp only [enc];cases b<;>simp<;>omega
  have e2:Nat.beq (enc (b::l) %2) 1=b:=by
   cases b
   ·have:enc (false::l) %2=0:=by simp only [enc];simp
    exact jg
   ·have:enc (true::l) %2=1:=by simp only [enc,da];omega
    exact jg
  rw [e1,e2,ih]
def uc(root:Code)(p:Nat):Option Code:=yS root (dec p p)
def RQ(h:At root p c):uc root p=some c:=by
 obtain⟨l,h1,h2⟩:=h;subst h1;unfold uc;rw [aam l _ (Nat.le_of_lt (aak l)),h2]
def L2(root:Code)(p:Nat):Code:=match uc root p with|some c=>c|none=> .skip
def Al(root:Code)(p:Nat):Code:=match uc root p with|some (.loop c)=>c|_=> .skip
def Ve(root:Code)(p:Nat):Operand:=match uc root p with|some (.rangeFunc g _ _ _)=>g|_=> .func 0
def KE(root:Code)(p:Nat):Bool:=match uc root p with|some (.rangeFunc _ _ _ _)=>Nat.beq (enc (dec p p)) p|_=>false
def RX(nt:Nat)(root:Code)(p:Nat):Site:=match uc root p with|some (.rangeFunc _ ps a b)=>⟨nt,ps,a,b⟩|_=>⟨0,#[],.skip,.skip⟩
structure Pc where
 p:Nat
 lp:Bool
 m:Nat
 mask:Nat
 σ:aj
 en:Wy
 bk:Wy
 xs:List Ow
inductive jF where
 |nil
 |pc(q:Pc)(cW:jF)
 |rg(p s:Nat)(jM:cp)(f:FuncId)(fn:Func)(hR cW:jF)
 |ur(p n:Nat)(cW:jF)
 |gh(g:List (Nat×(List Gh×List Gh)))(cW:jF)
abbrev YT(R:Type):=Nat->aD->ar->(AV->ar->Option R)->Option R
def full(n:Nat):Nat:=2^n- 1
def lI(fn:Func):Code:=fn.body.getD .skip
def Lb(p:Nat)(e:mS R)(L:iM R):iM R:={L with loop:=λq=>match Nat.beq q p with|true=>e|false=>L.loop q}
def TT(p:Nat)(e:mS R)(L:iM R):iM R:={L with range:=λq=>match Nat.beq q p with|true=>e|false=>L.range q}
def TU(p:Nat)(e:mS R)(L:iM R):iM R:={L with cut:=λq=>match Nat.beq q p with|true=>some e|false=>L.cut q}
def Fq(s:Nat)(e y:YT R):YT R:=λid args M k=>
 match gm M id with
 |some (.loop s' _ _ _)=>(match Nat.beq s' s with|true=>e id args M k|false=>y id args M k)
 |_=>none
def aap{root:Code}{p:Nat}{e:mS R}{L:iM R}(h:L.Ok X root)(he:acX X root L.fS.nt (p,e)):(Lb p e L).Ok X root where
 fS:=h.fS
 range:=h.range
 cut:=h.cut
 loop:=λ{q c st k r} eh hr=>by
  simp only [Lb]at hr;cases hb:Nat.beq q p with
  |true=>
   exact abC
  |false=>rw [hb]at hr;exact h.loop eh hr
def aqU{root:Code}{p:Nat}{e:mS R}{L:iM R}(h:L.Ok X root)(he:aar X root L.fS.nt (p,e)):(TT p e L).Ok X root where
 fS:=h.fS
 loop:=h.loop
 cut:=h.cut
 range:=λ{q g ps a b st k r} eh hr=>by
  simp only [TT]at hr;cases hb:Nat.beq q p with
  |true=>
   exact abC
  |false=>rw [hb]at hr;exact h.range eh hr
def aqV{root:Code}{p:Nat}{e:mS R}{L:iM R}(h:L.Ok X root)(he:aen X root L.fS.nt (p,e)):(TU p e L).Ok X root where
 fS:=h.fS
 loop:=h.loop
 range:=h.range
 cut:=λ{q c f st k r} eh hf hr=>by
  simp only [TU]at hf;split at hf
  ·rename_i hb;have:=ct hb;subst this;injection hf with hf;subst hf;exact he eh hr
  ·exact h.cut eh hf hr
def apO{s:Nat}{e y:YT R}(he:Ao X e)(hy:Ao X y):Ao X (Fq s e y):=by
 intro id args M k r h;unfold Fq at h;rw [cG]at h;split at h
 ·split at h
  ·exact he h
  ·exact hy h
 ·cases h
def FC(X:Cx)(root:Code)(q:Pc)(L:iM UO)(N:Nat)(l:aD):Option UO:=
 match q.lp with
 |true=>BN X L (Al root q.p) q.p q.m q.bk q.σ q.xs N l
 |false=>TR X L (L2 root q.p) q.p q.m q.σ q.xs l
def lj(X:Cx)(N:Nat)(cs:(R:Type)->List (CE R)):Func->((R:Type)->YT R)->jF->Nat->(R:Type)->iM R
 |fn,y,.nil,mask,R=>adh ⟨fn.ntmps,mask⟩ (cs R) (y R) [] [] []
 |fn,y,.pc q cW,mask,R=>
  match q.lp with
  |true=>Lb q.p (Kk X q.m q.mask q.en q.σ q.xs ⟨fn.ntmps,mask⟩ (FC X (lI fn) q (lj X N cs fn y cW q.mask UO) N)) (lj X N cs fn y cW mask R)
  |false=>TU q.p (Kk X q.m q.mask q.en q.σ q.xs ⟨fn.ntmps,mask⟩ (FC X (lI fn) q (lj X N cs fn y cW q.mask UO) N)) (lj X N cs fn y cW mask R)
 |fn,y,.ur p n cW,mask,R=>Lb p (I7 X (lj X N cs fn y cW mask R) (Al (lI fn) p) (2*p) n) (lj X N cs fn y cW mask R)
 |fn,y,.gh g cW,mask,R=>aat g (lj X N cs fn y cW mask R)
 |fn,y,.rg p s jM f gn hR cW,mask,R=>
  TT p (QC X (Q3 ⟨fn.ntmps,mask⟩ (inl f (FZ X (lj X N cs gn (λR=>Fq s (Es X (lj X N cs fn y cW (full fn.ntmps) R) s p) (y R)) hR (full gn.ntmps) R) (lI gn) gn.results.toList))) s jM (Ve (lI fn) p)) (lj X N cs fn y cW mask R)
structure yW(X:Cx)(f:FuncId)(fn:Func):Prop where
 at_:X.P.funcs[f]?=some fn
 body:fn.body.isSome=true
 name:(fn.name== "runtime.NumGoroutine")=false
def yW.cd(h:yW X f fn):fn.body=some (lI fn):=by
 have:=h.body;unfold lI;cases hb:fn.body with
 |none=>rw [hb]at this;cases this
 |some c=>rfl
def yW.call(h:yW X f fn)(vs:Array Value)(w:World):(callFunc f vs).run X.P w= .ok (.enter f vs) w:=enters h.at_ h.cd h.name vs w
def xa(X:Cx):Func->jF->Prop
 |_,.nil =>True
 |fn,.pc _ cW=>xa X fn cW
 |fn,.ur _ _ cW=>xa X fn cW
 |fn,.gh _ cW=>xa X fn cW
 |fn,.rg p s _ f gn hR cW=>(X.site s=RX fn.ntmps (lI fn) p∧KE (lI fn) p=true∧yW X f gn∧xa X gn hR)∧xa X fn cW
def ql{N:Nat}{cs:(R:Type)->List (CE R)}:∀(cW:jF) (fn:Func) (y:(R:Type)->YT R) (mask:Nat) (R:Type),(lj X N cs fn y cW mask R).fS.nt =⟨fn.ntmps,mask⟩
 | .nil,_,_,_,_=>rfl
 | .pc q cW,fn,y,mask,R=>by
   simp only [lj];split
   ·exact ql cW fn y mask R
   ·exact ql cW fn y mask R
 | .ur _ _ cW,fn,y,mask,R=>ql cW fn y mask R
 | .gh _ cW,fn,y,mask,R=>ql cW fn y mask R
 | .rg _ _ _ _ _ _ cW,fn,y,mask,R=>ql cW fn y mask R
def ap9(h:KE root p=true):∃g ps a b,uc root p=some (.rangeFunc g ps a b)∧At root p (.rangeFunc g ps a b):=by
 unfold KE at h;split at h
 ·rename_i g ps a b hc;exact⟨g,ps,a,b,hc,dec p p,ct h,hc⟩
 ·cases h
def wB(hX:X.Ok){N:Nat}{cs:(R:Type)->List (CE R)}(iC:∀R,ke (rC X) (cs R)):
 ∀(cW:jF) {fn:Func} {y:(R:Type)->YT R} (_:∀R,Ao X (y R)) (_:xa X fn cW) (mask:Nat) (R:Type),(lj X N cs fn y cW mask R).Ok X (lI fn)
 | .nil,fn,y,hy,_,mask,R=>apt (iC R) (hy R) trivial trivial trivial
 | .gh g cW,fn,y,hy,h,mask,R=>aom g (wB (N:=N) hX iC cW hy h mask R)
 | .ur p n cW,fn,y,hy,h,mask,R=>by
   have hi:=wB (N:=N) hX iC cW hy h mask R;refine aap hi ?_;intro c st k r eh hr;have hc:Al (lI fn) p=c:=by unfold Al;rw [RQ eh]
   simp only at hr;rw [hc]at hr;obtain⟨e,av,hk,hr⟩:=Xq hX hi eh n hr;exact⟨e,av,λ{rdc n w0 S F ρ a w Q} hI hs hq=>wpIn_loop_rounds _ (hr hI hs hq),hk⟩
 | .pc q cW,fn,y,hy,h,mask,R=>by
   have hi:=wB (N:=N) hX iC cW hy h mask R;have hq:=wB (N:=N) hX iC cW hy h q.mask UO;simp only [lj];split
   ·rename_i hlp;refine aap hi ?_;intro c st k r eh hr;have hc:Al (lI fn) q.p=c:=by unfold Al;rw [RQ eh]
    have hp:=apy (m:=q.m) (bk:=q.bk) (σ:=q.σ) (xs:=q.xs) (fuel:=N) hX hq eh;rw [ql]at hp;rw [ql];refine X0 hX (f:=FC X (lI fn) q (lj X N cs fn y cW q.mask UO) N) (c:= .loop c) ?_ hr;exact ab0
   ·rename_i hlp;refine aqV hi ?_;intro c st k r eh hr;have hc:L2 (lI fn) q.p=c:=by unfold L2;rw [RQ eh]
    have hp:=aqM (m:=q.m) (σ:=q.σ) (xs:=q.xs) hX hq eh;rw [ql]at hp;rw [ql];refine X0 hX (f:=FC X (lI fn) q (lj X N cs fn y cW q.mask UO) N) (c:=c) ?_ hr;exact ab0
 | .rg p s jM f gn hR cW,fn,y,hy,h,mask,R=>by
   have hi:=λmask R=>wB (N:=N) hX iC cW hy h.2 mask R;obtain⟨⟨hs,LI,sE,ayt⟩,_⟩:=h;obtain⟨g,ps,a,b,hc,eh⟩:=ap9 LI;have y4:X.site s=⟨fn.ntmps,ps,a,b⟩:=by rw [hs];unfold RX;rw [hc]
   have hyk:∀R,Ao X (Fq s (Es X (lj X N cs fn y cW (full fn.ntmps) R) s p) (y R)):=by
    intro R;refine apO ?_ (hy R);intro id args M k r hr;refine amG hX (hi (full fn.ntmps) R) (g:=g) (ps:=ps) ?_ hr;rw [y4];exact eh
   have hk:=wB (N:=N) hX iC hR hyk ayt (full gn.ntmps) R;refine aqU (hi mask R) ?_;intro g' mC a' b' st k r ayC hr;have:=ayC.det (dec p p) (ct (by unfold KE at LI;rw [hc]at LI;exact LI));unfold uc at hc;rw [hc]at this;injection this with this;injection this with e1 e2 e3 e4;subst e1;subst e2;subst e3;subst e4;have hg:Ve (lI fn) p=g:=by unfold Ve uc;rw [hc]
   rw [ql];simp only [hg]at hr;refine amH hX (T:=Q3 ⟨fn.ntmps,mask⟩ _) (aow (arO (g:=f) λ{args M k r} h=> ?_)) y4 hr;exact O6 hX hk sE.at_ sE.cd (by rw [ql]) sE.call rfl h
structure Rw where
 w:Wy
 σ:aj
def Te(j:Nat):List (Nat×Nat×Nat)->Nat->aD->Option Nat
 | [],_,_=>none
 |p::ps,k,xs=>match Nat.beq p.1 j with|true=>some (xs.getD k .top).id |false=>Te j ps (k+1) xs
def afq(j:Nat)(s:du)(x:AV):Option Nat:=
 match s with
 | .aa i| .ptr i _ _| .gG i| .mpr i| .vw i=>match Nat.beq i j with|true=>some x.id|false=>none
 | .cl _ ps=>Te j ps 0 x.eD
 | .GV _ ps=>Te j ps 0 x.ar2
 |_=>none
def KF(j:Nat):List du->Nat->aD->Option Nat
 | [],_,_=>none
 |s::ss,k,xs=>match afq j s (xs.getD k .top)with|some i=>some i|none=>KF j ss (k+1) xs
def afm(j:Nat)(s:Sh)(x:AV):Option Nat:=
 match s with
 | .one s=>afq j s x
 | .agg ss=>KF j ss 0 x.cells
 | .dE _ ss=>KF j ss 0 x.eD
def afo(j:Nat)(st:St):List (Nat×Sh)->Option Nat
 | []=>none
 |e::es=>match afm j e.2 (look st.env e.1)with|some i=>some i|none=>afo j st es
def afn(j:Nat):List (Nat×Sh)->Nat->bA->Option Nat
 | [],_,_=>none
 |e::es,k,l=>match afm j e.2 (l.getD k (0,.top)).2 with|some i=>some i|none=>afn j es (k+1) l
def afp(j:Nat)(st:St):List dD->cp->Option Nat
 |b::bs,i::is=>
  match(match b with| .var _ ss=>KF j ss 0 (st.mem.getD i .dead).cells | .loop _ es _=>afn j es 0 (st.mem.getD i .dead).Tk |_=>none)with
  |some n=>some n
  |none=>afp j st bs is
 |_,_=>none
def aeB(m:Nat)(σ:aj)(st:St):Nat->cp->cp
 |0,acc=>acc
 |n+1,acc=>aeB m σ st n (acc++[match Nat.blt acc.length m with|true=>acc.length|false=>match afo acc.length st σ.env with|some i=>i|none=>(afp acc.length st σ.mem acc).getD 0])
def wS(m:Nat)(σ:aj)(st:St):cp:=aeB m σ st σ.mem.length []
inductive Cl where
 |fn(v:Nat)
 |fc(v:Nat)(c:List Cv)
 |KL(v:Nat)(ps:List (Nat×TypeId))
 |inl(f:FuncId)(fn:Func)(cW:jF)
 |known(f:FuncId)
 |Th(t:TypeId)(v vn ve:Nat)
 |Ci(f:FuncId)(t:TypeId)
structure FD where
 f:FuncId
 fn:Func
 na:Nat
 nr:Nat
 m:Nat
 σ:aj
 outs:List Rw
 calls:List Cl
 cW:jF
variable{d:FD}
def xi(nr:Nat)(env:bA):AV:=match nr with|1=>look env 0|n=> .dc (w9 n env)
def GP(X:Cx)(m:Nat):List Rw->Nat->St->Option UO
 | [],_,_=>none
 |x::xs,i,st=>
  match xs with
  | []=>Ad X m x.w x.σ st λl=>some (i,l)
  |_::_=>match fits X x.w x.σ st with|true=>Ad X m x.w x.σ st λl=>some (i,l)|false=>GP X m xs (i+1) st
def Tc(X:Cx)(m nr:Nat)(outs:List Rw)(x:AV)(M:ar):Option UO:=
 match nr with
 |1=>GP X m outs 0 ⟨[(0,x)],M,[],.qE⟩
 |n=>match x with| .dc xs=>aB (Nat.beq xs.length n) (GP X m outs 0 ⟨pN 0 xs,M,[],.qE⟩)|_=>none
def Pl(hX:X.Ok){m:Nat}{st:St}{o:UO}:∀{xs:List Rw} {i:Nat},GP X m xs i st=some o->∃j x,xs[j]?=some x∧o.1=i+j∧Kl X m st x.σ o
 | [],i,h=>by cases h
 | [x],i,h=>abG
 |x::y::xs,i,h=>by
  rw [GP]at h;split at h
  ·exact abG
  ·obtain⟨j,z,h1,h2,h3⟩:=Pl hX h;exact⟨j+1,z,h1,by omega,h3⟩
def xx(X:Cx)(d:FD)(g:aD->Option UO):Prop:=
 ∀l o,g l=some o->∃j x,d.outs[j]?=some x∧o.1=j∧wR X d.f d.m (w9 d.na (unpack d.σ l).env) (unpack d.σ l).mem (xi d.nr (unpack x.σ o.2).env) (unpack x.σ o.2).mem
def anY(hX:X.Ok){nr:Nat}{outs:List Rw}{M1:ar}(hc:qq X f args M x M1)(h:Tc X m nr outs x M1=some o):
 ∃j y,outs[j]?=some y∧o.1=j∧wR X f m args M (xi nr (unpack y.σ o.2).env) (unpack y.σ o.2).mem :=by
 unfold Tc at h;split at h
 ·obtain⟨j,y,h1,h2,hr⟩:=Pl hX h;refine⟨j,y,h1,by omega,λ{w0 S F ρ w vs} hI tn=> ?_⟩;refine(hc.2 hI tn).mono ?_;rintro e w' ⟨v,ρ',F',rfl,c6,hg,hx⟩;obtain⟨F2,ρ2,i2,s2,g2⟩:=hr (nt:=⟨1,0⟩) (rdc:=⟨none,λ_=>False,λt=>(#[v]:Array Value).getD t undef⟩) (a:={tmps:= #[v],defers:=[]}) c6 ⟨λt=>by
   simp only [nf,look_nil]
   by_cases ht:t=0
   ·subst ht;simpa using hx
   ·have:(t==0)=false:=by simpa using ht
    simp only [this,jG,ly];exact .top _,rfl,Marks.nil _ _ (λ_ h=>h.elim),.inl rfl,λ_ _=>rfl⟩
  exact⟨v,ρ2,F2,rfl,i2,(hg.toF m).trans g2,s2.env 0⟩
 ·rename_i hn1;split at h
  ·rename_i xs;replace h:=bG h;obtain⟨hn,h⟩:=h;have hn:xs.length=nr:=ct hn;obtain⟨j,y,h1,h2,hr⟩:=Pl hX h;refine⟨j,y,h1,by omega,λ{w0 S F ρ w vs} hI tn=> ?_⟩;refine(hc.2 hI tn).mono ?_;rintro e w' ⟨v,ρ',F',rfl,c6,hg,hx⟩;cases hx with
   |dc cs us hl jX=>
    obtain⟨F2,ρ2,i2,s2,g2⟩:=hr (nt:=⟨us.length,0⟩) (rdc:=⟨none,λ_=>False,λt=>us.toArray.getD t undef⟩) (a:={tmps:=us.toArray,defers:=[]}) c6 ⟨Yt ⟨hl,jX⟩,by simp,Marks.nil _ _ (λ_ h=>h.elim),.inl rfl,λ_ _=>rfl⟩;refine⟨.tuple us.toArray,ρ2,F2,rfl,i2,(hg.toF m).trans g2,?_⟩;have UA:=Zh s2.env;rw [hl,hn]at UA;have e:xi nr (unpack y.σ o.2).env = .dc (w9 nr (unpack y.σ o.2).env):=by
     unfold xi;split
     ·exact absurd rfl hn1
     ·rfl
    rw [e];exact .dc _ us UA.1 UA.2
  ·cases h
def C1(nr:Nat):List Rw->Nat->UO->(AV->ar->Option R)->Option R
 | [],_,_,_=>none
 |x::xs,i,o,k=>
  match xs with
  | []=>k (xi nr (unpack x.σ o.2).env) (unpack x.σ o.2).mem
  |_::_=>match Nat.beq o.1 i with|true=>k (xi nr (unpack x.σ o.2).env) (unpack x.σ o.2).mem |false=>C1 nr xs (i+1) o k
def acR{nr:Nat}{o:UO}{k:AV->ar->Option R}:∀{xs:List Rw} {i j:Nat} {x:Rw},xs[j]?=some x->o.1=i+j->C1 nr xs i o k=k (xi nr (unpack x.σ o.2).env) (unpack x.σ o.2).mem
 | [],i,j,x,h,_=>dB
 |y::ys,i,0,x,h,ho=>by
  simp at h;subst h;cases ys with
  |nil=>rfl
  |cons z zs=>simp only [C1];rw [ho];simp
 |y::ys,i,j+1,x,h,ho=>by
  cases ys with
  |nil=>exact dB
  |cons z zs=>
   have hb:Nat.beq o.1 i=false:=acp;rw [C1];simp only [hb];exact acR (jh) (by omega)
def Ki(X:Cx)(d:FD)(w:Wy)(g:aD->Option UO)(args:aD)(M:ar)(k:AV->ar->Option R):Option R:=
 aB (Nat.beq args.length d.na) (gO X w.cv ⟨pN 0 args,M,[],.qE⟩ λst1=>
  aB (sY d.σ (w.aM st1) st1)
   (match g (BD d.σ (w.aM st1) st1)with
    |none=>none
    |some o=>C1 d.nr d.outs 0 o λx Mc=>aB (Be d.m st1.mem (w.aM st1) Mc) (k (eE (ki d.m (w.aM st1) st1.mem.length) 4 x) (merge d.m st1.mem (w.aM st1) Mc))))
def anT(hX:X.Ok)(hg:xx X d g)(hc:∀(vs:Array Value) (w:World),(callFunc d.f vs).run X.P w= .ok (.enter d.f vs) w)
   {k:AV->ar->Option R}  (h:Ki X d w g args M k=some r):∃x M',qq X d.f args M x M'∧k x M'=some r∧(w.cv=[]->cz (w.aM ⟨pN 0 args,M,[],.qE⟩) M M'):=by
 unfold Ki at h;replace h:=bG h;obtain⟨UF,h⟩:=h;have UF:args.length=d.na:=ct UF;have ayf:∃st1,(aB (sY d.σ (w.aM st1) st1) (match g (BD d.σ (w.aM st1) st1)with|none=>none|some o=>C1 d.nr d.outs 0 o λx Mc=>aB (Be d.m st1.mem (w.aM st1) Mc) (k (eE (ki d.m (w.aM st1) st1.mem.length) 4 x) (merge d.m st1.mem (w.aM st1) Mc))))=some r∧(w.cv=[]->st1=⟨pN 0 args,M,[],.qE⟩)∧
  ∀{nt:Nt} {rdc:Cy} {w0:World} {S:Sc} {F:aO} {ρ:aT} {a:Act} {w:World},Inv X w0 S F ρ M w->eY X nt ⟨pN 0 args,M,[],.qE⟩ rdc F ρ a w->∃F' ρ',Inv X w0 S F' ρ' st1.mem w∧eY X nt st1 rdc F' ρ' a w∧bH F F' ρ ρ' w w:=by
  cases fy:w.cv with
  |nil=>rw [fy]at h;exact⟨_,h,λ_=>rfl,λ{nt rdc w0 S F ρ a w} hI hs=>⟨F,ρ,hI,hs,bH.refl _ _ _⟩⟩
  |cons c cs=>
   rw [fy]at h;obtain⟨st1,h,_,_,fy⟩:=pE hX (c::cs) h;exact⟨st1,h,(λe=>by cases e),fy⟩
 clear h;obtain⟨st1,h,ayk,fy⟩:=ayf;replace h:=bG h;obtain⟨h1,h⟩:=h;split at h
 ·cases h
 ·rename_i o ho;obtain⟨j,y,hy,hj,hf⟩:=hg _ _ ho;rw [acR hy (by omega)]at h;replace h:=bG h;obtain⟨hm,h⟩:=h;refine⟨_,_,⟨hc,λ{w0 S F ρ w' vs} hI hr=> ?_⟩,h,λe=>by rw [ayk e];exact anz⟩;obtain⟨F1,ρ1,i1,s1,g1⟩:=fy (nt:=⟨vs.length,0⟩) (rdc:=⟨none,λ_=>False,λt=>vs.toArray.getD t undef⟩) (a:={tmps:=vs.toArray,defers:=[]}) hI ⟨Yt hr,by simp,Marks.nil _ _ (λ_ h=>h.elim),.inl rfl,λ_ _=>rfl⟩;obtain⟨aQ,iL,_⟩:=H6 h1;have xo:=i1.sub hX aQ m4;have FT:=Po hX h1 i1 s1.env;have tn:=Zh FT;have hl:vs.length=d.na:=by rw [hr.1];exact UF
  rw [hl]at tn;rw [HW h1]at hf;have y6:=hf (w0:=w') (S:=hand w' ρ1 st1.mem (w.aM st1) F1) (F:=F1) (ρ:=sub m4 ρ1 (w.aM st1)) (w:=w') (vs:=vs) (by rw [iL];exact xo) tn;refine y6.mono ?_;rintro e ou ⟨v,ρ',F',rfl,c6,ij,hx⟩;obtain⟨i3,g3,r3⟩:=i1.merge hX aQ m4 c6 ij hm;exact⟨v,_,F',rfl,i3,g1.trans g3,hx.eE hX.kinds r3 4⟩
def kC(cv:List Cv)(M:ar)(k:AV->ar->Option R)(x:AV)(M':ar):Option R:=match cv with| []=>k x M'|_::_=>aB (Nat.ble M.length M'.length) (k x M')
def wC(w:Wy)(args:aD)(M:ar):Option cp:=match w.cv with| []=>some (w.aM ⟨pN 0 args,M,[],.qE⟩)|_::_=>some (List.range M.length)
def F7(X:Cx)(d:FD)(w:Wy)(g:aD->Option UO)(R:Type):CE R:=
 ⟨d.f,λargs M=>fits X w d.σ ⟨pN 0 args,M,[],.qE⟩,wC w,λargs M k=>Ki X d w g args M (kC w.cv M k)⟩
def I2(hX:X.Ok)(hg:xx X d g)(hc:∀(vs:Array Value) (w:World),(callFunc d.f vs).run X.P w= .ok (.enter d.f vs) w):rC X (F7 X d w g R):=by
 intro args M k r h;have h':Ki X d w g args M (kC w.cv M k)=some r:=h;obtain⟨x,M',h1,h2,h3⟩:=anT hX hg hc h';cases fy:w.cv with
 |nil=>
  rw [fy]at h2;refine⟨x,M',h1,h2,λids hi=> ?_⟩;have hi:wC w args M=some ids:=hi;unfold wC at hi;rw [fy]at hi;injection hi with hi;subst hi;exact h3 fy
 |cons c cs=>
  rw [fy]at h2;obtain⟨hle,h2⟩:=bG (show aB _ _=some r from h2);refine⟨x,M',h1,h2,λids hi=> ?_⟩;have hi:wC w args M=some ids:=hi;unfold wC at hi;rw [fy]at hi;injection hi with hi;subst hi;exact⟨oL hle,λi hi hn=>absurd (wx.2 hi) hn⟩
def tC(t:TypeId):Option UO->Bool
 |some (0,[.U t' []])=>Nat.beq t' t
 |_=>false
def aaf{o:Option UO}(h:tC t o=true):o=some (0,[.U t []]):=by
 unfold tC at h;split at h
 ·rw [ct h]
 ·cases h
def FI(t:TypeId)(gn ge g:aD->Option UO)(l:aD):Option UO:=
 match(l.getD 0 .top).rows with
 | []=>bif tC t (gn [])&&tC t (ge [])then some (0,[.U t []])else none
 |_::_=>g l
def EB(t:TypeId):List Rw->Bool
 | [⟨_,⟨[(0,.one (.aa 0))],[.row t']⟩⟩]=>Nat.beq t' t
 |_=>false
def uF(t:TypeId)(b:Nat):aj->Bool
 |⟨[(0,.one (.cell (.slice t')))],[]⟩=>Nat.beq b 0&&Nat.beq t' t
 |⟨[(0,.one .fD)],[]⟩=>Nat.beq b 1
 |⟨[(0,.one .ja)],[]⟩=>Nat.beq b 2
 |_=>false
def Q5(t:TypeId)(d dn de:FD):Bool:=
 Nat.beq dn.f d.f&&Nat.beq de.f d.f&&Nat.beq d.na 1&&Nat.beq dn.na 1&&Nat.beq de.na 1&&Nat.beq d.nr 1&&Nat.beq dn.nr 1&&Nat.beq de.nr 1&&Nat.beq d.m 0&&Nat.beq dn.m 0&&Nat.beq de.m 0&&
  uF t 0 d.σ&&uF t 1 dn.σ&&uF t 2 de.σ&&EB t d.outs&&EB t dn.outs&&EB t de.outs
def Pg{xs:List Rw}(h:EB t xs=true):∃w,xs=[⟨w,⟨[(0,.one (.aa 0))],[.row t]⟩⟩]:=by
 unfold EB at h;exact abB
def aqk(h:uF t 0 σ=true):σ=⟨[(0,.one (.cell (.slice t)))],[]⟩:=by
 unfold uF at h;split at h
 ·rw [bc]at h;rw [ct h.2]
 ·cases h
 ·cases h
 ·cases h
def aqj(h:uF t 1 σ=true):σ=⟨[(0,.one .fD)],[]⟩:=by
 unfold uF at h;split at h
 ·cases h
 ·rfl
 ·cases h
 ·cases h
def aqi(h:uF t 2 σ=true):σ=⟨[(0,.one .ja)],[]⟩:=by
 unfold uF at h;split at h
 ·cases h
 ·cases h
 ·rfl
 ·cases h
def aqm{dn de:FD}{gn ge:aD->Option UO}(hq:Q5 t d dn de=true)(h:xx X d g)(hn:xx X dn gn)(he:xx X de ge):xx X d (FI t gn ge g):=by
 simp only [Q5,bc]at hq;obtain⟨⟨⟨⟨⟨⟨⟨⟨⟨⟨⟨⟨⟨⟨⟨⟨q1,q2⟩,q3⟩,q4⟩,q5⟩,q6⟩,q7⟩,q8⟩,q9⟩,vC⟩,zP⟩,T9⟩,zO⟩,Gj⟩,sr⟩,T8⟩,T7⟩:=hq;intro l o ho;unfold FI at ho;split at ho
 ·rename_i hl;have ht:(tC t (gn [])&&tC t (ge []))=true∧o=(0,[.U t []]):=by
   cases hc:(tC t (gn [])&&tC t (ge []))with
   |false=>rw [hc]at ho;cases ho
   |true=>rw [hc]at ho;exact⟨rfl,by injection ho with ho;exact ho.symm⟩
  obtain⟨ht,rfl⟩:=ht;rw [bc]at ht;have h1:=hn _ _ (aaf ht.1);have h2:=he _ _ (aaf ht.2);obtain⟨w,e⟩:=Pg sr;obtain⟨wn,en⟩:=Pg T8;obtain⟨we,ee⟩:=Pg T7;refine⟨0,_,by rw [e];rfl,rfl,?_⟩;rw [aqk T9,ct q3,ct q6,ct q9];obtain⟨jn,xn,LC,z5,lT⟩:=h1;obtain⟨je,xe,vI,hje,hce⟩:=h2;subst z5;subst hje;rw [en]at LC;rw [ee]at vI;injection LC with LC;injection vI with vI;subst LC;subst vI;rw [aqj zO,ct q4,ct q7,ct vC,ct q1]at lT;rw [aqi Gj,ct q5,ct q8,ct zP,ct q2]at hce;intro w0 S F ρ w vs hI hv;have eN:cq X.K ρ F w [.U t (l.getD 0 .top).rows] vs:=hv;rw [hl]at eN;obtain⟨hlen,jy⟩:=eN
  match vs,hlen with
  | [v],_=>
    have hr:=jy 0 _ v rfl rfl;have one:∀{x:AV},aw X.K ρ F w x v->cq X.K ρ F w [x] [v]:=λhx=>⟨rfl,λj y u hy hu=>by
     cases j with
     |zero=>simp at hy hu;subst hy;subst hu;exact hx
     |succ j=>simp at hy⟩
    cases hr with
    |iS=>exact lT hI (one .fD)
    |U _ _ a cap vss kj=>exact hce hI (one (.ja a cap))
 ·exact h l o ho
def JA:aH->Option bW
 | []=>some []
 |r::rs=>match r with
  | [.int .i64 n]=>(match JA rs with|some l=>some (n::l)|none=>none)
  |_=>none
def JP(l:bW):aH:=l.map λn=>[AV.int .i64 n]
def ac7(l:bW):bW:=l.mergeSort λx y=>decide (x<=y)
def YB:∀{rs:aH} {l:bW},JA rs=some l->rs=JP l
 | [],l,h=>by injection h with h;subst h;rfl
 |r::rs,l,h=>by
  unfold JA at h;split at h
  ·rename_i n;split at h
   ·rename_i l' hl;injection h with h;subst h;rw [YB hl];rfl
   ·cases h
  ·cases h
def aeA(t:TypeId):aD->Option UO
 | [.U _ (x::xs)]=>match JA (x::xs)with|some zs=>aB (Nat.ble zs.length 4611686018427387903) (some (0,[.U t (JP (ac7 zs))]))|none=>none
 |_=>none
def RV(t:TypeId):aj->Bool
 |⟨[(0,.one (.aa 0))],[.row t']⟩=>Nat.beq t' t
 |_=>false
def QT(t:TypeId):List Rw->Bool
 | [⟨_,⟨[],[.row t']⟩⟩]=>Nat.beq t' t
 |_=>false
def FB(d:FD)(l:aD):Option UO:=
 match d.calls with
 | .Ci f t::_=>(match Nat.beq d.f f&&Nat.beq d.na 1&&Nat.beq d.nr 0&&Nat.beq d.m 1&&RV t d.σ&&QT t d.outs with|true=>aeA t l|false=>none)
 |_=>none
def aek(X:Cx)(f:FuncId)(t:TypeId):Prop:=∀zs:bW,zs≠ []->zs.length<=4611686018427387903->wR X f 1 [.aa 0] [.row t (JP zs)] (.dc []) [.row t (JP (ac7 zs))]
def ao3(h:RV t σ=true):σ=⟨[(0,.one (.aa 0))],[.row t]⟩:=by
 unfold RV at h;split at h
 ·rw [ct h]
 ·cases h
def aor{xs:List Rw}(h:QT t xs=true):∃w,xs=[⟨w,⟨[],[.row t]⟩⟩]:=by
 unfold QT at h;exact abB
def ap1{cl:List Cl}(hc:d.calls= .Ci f t::cl)(hs:aek X f t){l:aD}(h:FB d l=some o):
 ∃j x,d.outs[j]?=some x∧o.1=j∧wR X d.f d.m (w9 d.na (unpack d.σ l).env) (unpack d.σ l).mem (xi d.nr (unpack x.σ o.2).env) (unpack x.σ o.2).mem :=by
 unfold FB at h;rw [hc]at h;simp only at h;split at h
 ·rename_i hq;simp only [bc]at hq;obtain⟨⟨⟨⟨⟨q1,q2⟩,q3⟩,q4⟩,q5⟩,q6⟩:=hq;unfold aeA at h;split at h
  ·rename_i u x xs;split at h
   ·rename_i zs hz;replace h:=bG h;obtain⟨hlen,h⟩:=h;injection h with h;subst h;have hx:=YB hz;obtain⟨w,e⟩:=aor q6;refine⟨0,_,by rw [e];rfl,rfl,?_⟩;rw [ao3 q5,ct q1,ct q2,ct q3,ct q4];have c9:zs≠ []:=by intro e0;rw [e0]at hx;cases hx
    have key:= @hs zs c9 (oL hlen);rw [<-hx]at key;exact @key
   ·cases h
  ·cases h
 ·cases h
def zn(R:Type):CE R:=⟨0,λ_ _=>false,λ_ _=>none,λ_ _ _=>none⟩
def Bd:rC X (zn R):=by intro args M k r h;cases h
def atC(e:CE R)(ps:List (Nat×TypeId)):CE R:=⟨e.f,λargs M=>e.test (yG ps args) M,λargs M=>e.wr (yG ps args) M,λargs M k=>e.run (yG ps args) M k⟩
def atD(X:Cx)(L:iM R)(f:FuncId)(fn:Func):CE R:=
 ⟨f,λ_ _=>true,λ_ M=>some (List.range M.length),λargs M k=>FZ X L (lI fn) fn.results.toList args M λx M'=>aB (Nat.ble M.length M'.length) (k x M')⟩
def qi(X:Cx)(N:Nat)(E:List FD)(G:Nat->aD->Option UO):List Cl->(R:Type)->List (CE R)
 | [],_=>[]
 | .fn v::cl,R=>(match E[v]? with|none=>zn R|some d=>F7 X d ⟨[],wS 0 d.σ⟩ (G v) R)::qi X N E G cl R
 | .fc v c::cl,R=>(match E[v]? with|none=>zn R|some d=>F7 X d ⟨c,wS 0 d.σ⟩ (G v) R)::qi X N E G cl R
 | .KL v ps::cl,R=>(match E[v]? with|none=>zn R|some d=>atC (F7 X d ⟨[],wS 0 d.σ⟩ (G v) R) ps)::qi X N E G cl R
 | .inl f fn cW::cl,R=>atD X (lj X N (qi X N E G cl) fn (λ_=>Gm) cW (full fn.ntmps) R) f fn::qi X N E G cl R
 | .known f::cl,R=>kce f::qi X N E G cl R
 | .Ci _ _::cl,R=>zn R::qi X N E G cl R
 | .Th t v vn ve::cl,R=>(match E[v]?,E[vn]?,E[ve]? with|some d,some dn,some de=>(match Q5 t d dn de with|true=>F7 X d ⟨[],wS 0 d.σ⟩ (FI t (G vn) (G ve) (G v)) R|false=>zn R)|_,_,_=>zn R)::qi X N E G cl R
def bC(X:Cx)(E:List FD)(G:Nat->aD->Option UO)(N v:Nat)(l:aD):Option UO:=
 match E[v]? with
 |none=>none
 |some d=>match FB d l with
  |some o=>some o
  |none=>FZ X (lj X N (qi X N E G d.calls) d.fn (λ_=>Gm) d.cW (full d.fn.ntmps) UO) (lI d.fn) d.fn.results.toList (w9 d.na (unpack d.σ l).env) (unpack d.σ l).mem (Tc X d.m d.nr d.outs)
def FU(X:Cx)(E:List FD):Nat->Nat->aD->Option UO
 |0,_,_=>none
 |N+1,v,l=>bC X E (FU X E N) N v l
def aga(X:Cx):Cl->Prop
 | .inl f fn cW=>yW X f fn∧xa X fn cW
 | .known f=>∀R,rC X (kce (R:=R) f)
 | .Ci f t=>aek X f t
 |_=>True
def TW(X:Cx)(d:FD):Prop:=yW X d.f d.fn∧xa X d.fn d.cW∧ke (aga X) d.calls
def ke.at{α:Type}{P:α->Prop}:∀{l:List α} {i:Nat} {a:α},ke P l->l[i]?=some a->P a
 | [],i,a,_,h=>dB
 |b::l,0,a,h,hi=>by simp at hi;subst hi;exact h.1
 |b::l,i+1,a,h,hi=>ke.at h.2 (yL)
def uJ(hX:X.Ok){N:Nat}{E:List FD}(hE:ke (TW X) E){G:Nat->aD->Option UO}(hG:∀v d,E[v]?=some d->xx X d (G v)):∀{cl:List Cl},ke (aga X) cl->∀R,ke (rC X) (qi X N E G cl R)
 | [],_,R=>trivial
 | .fn v::cl,h,R=>⟨by
    split
    ·exact Bd
    ·rename_i d hd;exact I2 hX (hG v d hd) (hE.at hd).1.call,uJ hX hE hG h.2 R⟩
 | .fc v c::cl,h,R=>⟨by
    split
    ·exact Bd
    ·rename_i d hd;exact I2 hX (hG v d hd) (hE.at hd).1.call,uJ hX hE hG h.2 R⟩
 | .KL v ps::cl,h,R=>⟨by
    split
    ·exact Bd
    ·rename_i d hd;exact arz (I2 hX (hG v d hd) (hE.at hd).1.call) ps _,uJ hX hE hG h.2 R⟩
 | .inl f fn cW::cl,h,R=>by
   obtain⟨⟨sE,rr⟩,dy⟩:=h;refine⟨aqw λ{args M k r} hr=> ?_,uJ hX hE hG dy R⟩;exact O6 hX (wB hX (uJ hX hE hG dy) cW (λ_=>aaP) rr (full fn.ntmps) R) sE.at_ sE.cd (by rw [ql]) sE.call rfl hr
 | .known f::cl,h,R=>⟨h.1 R,uJ hX hE hG h.2 R⟩
 | .Ci _ _::cl,h,R=>⟨Bd,uJ hX hE hG h.2 R⟩
 | .Th t v vn ve::cl,h,R=>⟨by
    split
    ·rename_i d dn de hd hdn hde;split
     ·rename_i hq;exact I2 hX (aqm hq (hG v d hd) (hG vn dn hdn) (hG ve de hde)) (hE.at hd).1.call
     ·exact Bd
    ·exact Bd,uJ hX hE hG h.2 R⟩
def aem(hX:X.Ok){E:List FD}(hE:ke (TW X) E):∀N v d,E[v]?=some d->xx X d (FU X E N v)
 |0,v,d,hd=>by intro l o h;cases h
 |N+1,v,d,hd=>by
  intro l o h;simp only [FU,bC,hd]at h;obtain⟨sE,rr,dy⟩:=hE.at hd;split at h
  ·rename_i o' ho;injection h with h;subst h;cases hc:d.calls with
   |nil=>unfold FB at ho;rw [hc]at ho;cases ho
   |cons c cl=>
    cases c with
    |Ci f t=>
     rw [hc]at dy;exact ap1 hc dy.1 ho
    |_=>unfold FB at ho;rw [hc]at ho;cases ho
  obtain⟨x,M',h1,h2⟩:=O6 hX (wB hX (uJ hX hE (aem hX hE N) dy) d.cW (λ_=>aaP) rr (full d.fn.ntmps) UO) sE.at_ sE.cd (by rw [ql]) sE.call rfl h;exact anY hX h1 h2
abbrev gV(l:aD)(j:Nat):AV:=l.getD j .top
abbrev gI(l:aD)(j:Nat):Int:=(l.getD j .top).toI
abbrev gB(l:aD)(j:Nat):Bool:=(l.getD j .top).toB
abbrev gR(l:aD)(j:Nat):aH:=(l.getD j .top).rows
abbrev gC(l:aD)(j:Nat):aD:=(l.getD j .top).cells
abbrev iI(n:Int):AV:= .int .i64 n
abbrev bo(n:Int):Int:=IntKind.wrap .i64 n
abbrev ln(xs:aH):Int:=(xs.length:Int)
def ib(i:Int)(n:Nat):Bool:=decide (0<=i)&&decide (i<n)
abbrev gA(xs:aH)(j:Nat):Row:=xs.getD j []
def sT(l:aD):bA->aD
 | []=>l
 |e::es=>sT (l.set e.1 e.2) es
def bO(t:Option UO)(f:Nat->aD->Option R):Option R:=match t with|none=>none|some o=>f o.1 o.2
abbrev YF:=Nat->((R:Type)->List (CE R))->(R:Type)->YT R
def TY:YF:=λ_ _ _=>Gm
def yU(X:Cx)(fn:Func)(y:YF)(cW:jF)(s p:Nat):YF:=λN cs R=>Fq s (Es X (lj X N cs fn (y N cs) cW (full fn.ntmps) R) s p) (y N cs R)
def Gp(X:Cx)(E:List FD)(cl:List Cl)(fn:Func)(y:YF)(q:Pc)(cW:jF)(G:Nat->aD->Option UO)(N n:Nat)(l:aD):Option UO:=
 BN X (lj X N (qi X N E G cl) fn (y N (qi X N E G cl)) cW q.mask UO) (Al (lI fn) q.p) q.p q.m q.bk q.σ q.xs n l
def Vk(X:Cx)(E:List FD)(cl:List Cl)(fn:Func)(y:YF)(q:Pc)(cW:jF)(G:Nat->aD->Option UO)(N:Nat)(l:aD):Option UO:=
 TR X (lj X N (qi X N E G cl) fn (y N (qi X N E G cl)) cW q.mask UO) (L2 (lI fn) q.p) q.p q.m q.σ q.xs l
def cI:du:= .cell (.int .i64)
def cU:du:= .cell (.int .u8)
def cB:du:= .cell .bool
def cS(t:TypeId):du:= .cell (.slice t)
def eI(t:Nat):Nat×Sh:=(t,.one cI)
def eB(t:Nat):Nat×Sh:=(t,.one cB)
def eS(t e:Nat):Nat×Sh:=(t,.one (cS e))
def eO(t j:Nat):Nat×Sh:=(t,.one (.aa j))
def eP(t j:Nat):Nat×Sh:=(t,.one (.ptr j 0 0))
def eA(t:Nat)(h:List du):Nat×Sh:=(t,.agg h)
def kdO:du->Kind
 | .cell (.slice _)=> .any
 | .cell k=>k
 |_=> .any
def bV(h:List du):dD:= .var (h.map kdO) h
def cK(t c:Nat)(ty:TypeId):Cv:= .Cu (λenv _=>(look env t).id) c ty
def xN(σ:aj):Ex×List Cv×aj:=(.normal,[],σ)
def xR(σ:aj):Ex×List Cv×aj:=(.ret,[],σ)
def xE(k:Nat)(σ:aj):Ex×List Cv×aj:=(.exit k,[],σ)
def pP(lp:Bool)(q p m mask:Nat)(σ:aj)(xs:List (Ex×List Cv×aj)):Pc:=⟨p,lp,m,mask,σ,⟨[],wS q σ⟩,⟨[],match lp with|true=>wS m σ|false=>λ_=>[]⟩,xs.map λx=>⟨x.1,⟨x.2.1,wS m x.2.2⟩,x.2.2⟩⟩
def pJ:=pP false
def pL:=pP true
def nP(c:List Cv)(q:Pc):Pc:={q with en:=⟨c,q.en.aM⟩}
def oG(c:List Cv)(f:FuncId)(fn:Func)(na nr m:Nat)(σ o:aj)(cl:List Cl)(cW:jF):FD:=⟨f,fn,na,nr,m,σ,[⟨⟨c,wS m o⟩,o⟩],cl,cW⟩
def bQ:=oG []
def xH:Nat->jF->jF
 |0,i=>i
 |k+1,.pc _ i=>xH k i
 |k+1,.rg _ _ _ _ _ _ i=>xH k i
 |k+1,.ur _ _ i=>xH k i
 |k+1,.gh _ i=>xH k i
 |_,.nil => .nil
def hdI:jF->Pc
 | .pc q _=>q
 |_=>⟨0,false,0,0,⟨[],[]⟩,⟨[],λ_=>[]⟩,⟨[],λ_=>[]⟩,[]⟩
def df(X:Cx)(E:List FD)(d:FD)(k:Nat):=Gp X E d.calls d.fn TY (hdI (xH k d.cW)) (xH (k+1) d.cW)
def cN(X:Cx)(E:List FD)(d:FD)(k:Nat):=Vk X E d.calls d.fn TY (hdI (xH k d.cW)) (xH (k+1) d.cW)
end
end Go.ae
namespace Go.Proofs.YtffabbjfdgmbjaaGreat
open Go Go.ae
set_option maxRecDepth 100000
noncomputable section
noncomputable def asv:List (Nat×Site):=[(0,RX 13 (lI Tryz.f69) 58)]
noncomputable def tiL:List (Nat×TI):=[0,1,2,3,4,5,9,22,23,24,25,27,29,31,33,34,35,37,39,41,43,46,47,49,52,53,54,55,56,57,58,59,61,63,65,71,72,74,78,81,84,91,92,94,96,97,99,100,102,104,108,110,131,134,140,145,146,148,150,151,153,155,156,159,173,190,202,213,214,216,217,218,226,237,239].map λt=>(t,xf Tryz.prog t)
def rdL:oQ:=[2,3,5,22,23,25,27]
def LV:Nat->AV:=λg=>match g with|_=> .top
def arU:∀g,LV g= .top ∨(LV g).pure =true:=λg=>by unfold LV;split<;>first|exact .inl rfl|exact .inr rfl
def vwL:List (Nat×Nat):=[(15,100),(28,23),(41,145),(44,145),(56,23)]
noncomputable def CX:Cx:=⟨Tryz.prog,ra tiL,adU asv,LV,wZ [43,190],true,λd t=>acD vwL d t,none⟩
def hX:CX.Ok:=atA arU (el:=[43,190]) (by kernel_rfl) (by repeat' first|exact trivial|refine⟨?_,?_⟩|rfl|kernel_rfl) ⟨(by show zw Tryz.prog _=true;kernel_rfl),(by show zw Tryz.prog _=true;kernel_rfl),trivial⟩
abbrev ak:Nat:=3
abbrev oM:Nat:=5
abbrev ay:Nat:=23
abbrev fH:Nat:=27
abbrev dY:Nat:=41
abbrev az:Nat:=43
abbrev aZ:Nat:=61
abbrev cT:Nat:=63
abbrev dM:Nat:=65
abbrev ax:Nat:=74
abbrev bK:Nat:=78
abbrev bD:Nat:=81
abbrev bE:Nat:=84
abbrev fO:Nat:=94
abbrev bz:Nat:=96
abbrev dN:Nat:=104
abbrev aL:Nat:=110
abbrev bP:Nat:=134
abbrev pD:Nat:=140
abbrev gi:Nat:=155
abbrev ai:Nat:=190
abbrev zz0:aD:=[.int .u8 1,iI 0,iI 0,iI 0,iI 0,iI 0,.bool false,.bool false,.bool false,.bool false,.bool false,.int .u8 0,.U ax ([]),.U ax ([]),.U aL ([]),.U aL ([]),.U ak ([]),.U aZ ([]),.U bD ([]),.U bK ([]),.U bP ([])]
abbrev TX:aD:=[iI 1,iI 0,iI 9,.bool false,.U ak ([])]
abbrev Ga:aD:=[iI 1,iI 0,iI 2147483647,.bool false,.U ak ([])]
abbrev xA:aD:=[.bool false,.bool false,.U ak ([]),iI 0,iI 0]
abbrev zz4:aD:=[.bool false,.bool false,.U ak ([]),iI ((-2147483648)),iI 2147483647]
abbrev zz5:aD:=[.bool false,.bool false,.U ak ([]),iI 0,iI 32]
abbrev sn:aD:=[iI 0,.U pD ([]),.int .u8 0,iI 0,iI 0,iI 0,iI 0,iI 0,.bool false,.bool false,.bool false,.bool false,.bool false,.int .u8 0,.U ax ([]),.U ax ([]),.U aL ([]),.U aL ([]),.U ak ([]),.U aZ ([]),.U bD ([]),.U bK ([]),.U bP ([]),iI 0]
def NK:Nat:=0
def v8:Nat:=1
def uy:Nat:=2
def yv:Nat:=3
def oK:Nat:=4
def sU:Nat:=5
def wu:Nat:=6
def wg:Nat:=7
def v9:Nat:=8
def vX:Nat:=9
def HT:Nat:=10
def um:Nat:=11
def Oi:Nat:=12
def Ou:Nat:=13
def agW:Nat:=14
def OM:Nat:=16
def Nl:Nat:=17
def N8:Nat:=18
def NQ:Nat:=19
def HY:Nat:=20
def HM:Nat:=21
def DQ:Nat:=22
def Dw:Nat:=23
def ON:Nat:=24
def Xl:Nat:=25
def HU:Nat:=26
def Ol:Nat:=27
def Xk:Nat:=28
def Oj:Nat:=29
def Xj:Nat:=30
def Dv:Nat:=31
def H8:Nat:=32
def Ox:Nat:=33
def HK:Nat:=34
def pC:Nat:=35
def OL:Nat:=36
def HN:Nat:=37
def G8:Nat:=38
def NJ:Nat:=39
def G7:Nat:=40
def Mu:Nat:=41
def Mr:Nat:=42
def Mi:Nat:=43
def Mt:Nat:=44
def Ny:Nat:=45
def HZ:Nat:=46
def NL:Nat:=47
def NM:Nat:=48
def AF:Nat:=49
def HJ:Nat:=50
def Dx:Nat:=51
def sO:Nat:=52
def WQ:Nat:=53
def Mf:Nat:=54
def Ml:Nat:=55
def Nw:Nat:=56
def Mg:Nat:=57
def Mp:Nat:=58
def Nm:Nat:=59
def Dy:Nat:=60
def Mm:Nat:=61
def Ms:Nat:=62
def NN:Nat:=63
def NY:Nat:=64
def Hj:Nat:=65
def Dr:Nat:=66
def NO:Nat:=67
def Du:Nat:=68
def Hz:Nat:=69
def AQ:Nat:=70
def HB:Nat:=71
def Au:Nat:=72
def As:Nat:=73
def G0:Nat:=74
def Mk:Nat:=75
def Nx:Nat:=76
def HL:Nat:=77
def ug:Nat:=78
def vW:Nat:=79
def qT:Nat:=80
def Ov:Nat:=81
def yj:Nat:=82
def Mb:Nat:=83
def Mh:Nat:=84
def WX:Nat:=85
def Dh:Nat:=86
def L7:Nat:=87
def L8:Nat:=88
def V1:Nat:=89
def Aw:Nat:=90
def Av:Nat:=91
def Hg:Nat:=92
def Hn:Nat:=93
def Hh:Nat:=94
def Ha:Nat:=95
def Hi:Nat:=96
def GZ:Nat:=97
def MO:Nat:=98
def C6:Nat:=99
def Ma:Nat:=100
def He:Nat:=101
def L9:Nat:=102
def Me:Nat:=103
def MN:Nat:=104
def Hb:Nat:=105
def Hm:Nat:=106
def G1:Nat:=107
def MR:Nat:=108
def DE:Nat:=109
def Ot:Nat:=111
def MD:Nat:=112
def MS:Nat:=113
def NX:Nat:=115
def N6:Nat:=116
def N7:Nat:=117
def qk:Nat:=118
def O0:Nat:=119
def O2:Nat:=120
def js:List du:=[.cell (.int .u8),.cell (.int .u8),.cell (.int .i64),.cell (.int .i64),.cell (.int .i64),.cell (.int .i64),.cell (.int .i64),.cell (.int .i64),.cell (.slice 74)]
def dw:List du:=[.cell (.int .u8),.cell (.int .i64),.cell (.int .i64),.cell (.int .i64),.cell (.int .i64),.cell (.int .i64),.cell .bool,.cell .bool,.cell .bool,.cell .bool,.cell .bool,.cell (.int .u8),.cell (.slice 74),.cell (.slice 74),.cell (.slice 110),.cell (.slice 110),.cell (.slice 3),.cell (.slice 61),.cell (.slice 81),.cell (.slice 78),.cell (.slice 134)]
def am6:List du:=[.cell (.int .u8),.cell (.int .i64),.cell (.int .i64),.cell (.int .i64),.cell (.int .i64),.cell (.int .i64),.cell .bool,.cell .bool,.cell .bool,.cell .bool,.cell .bool,.cell (.int .u8),.cell (.slice 74),.cell (.slice 74),.cell (.slice 110),.cell (.slice 110),.cell (.slice 3),.cell (.slice 61),.cell (.slice 81),.cell (.slice 78),.cell (.slice 134),.cell (.int .u8),.cell (.int .i64),.cell (.int .i64),.cell (.int .i64),.cell (.int .i64),.cell (.int .i64),.cell .bool,.cell .bool,.cell .bool,.cell .bool,.cell .bool,.cell (.int .u8),.cell (.slice 74),.cell (.slice 74),.cell (.slice 110),.cell (.slice 110),.cell (.slice 3),.cell (.slice 61),.cell (.slice 81),.cell (.slice 78),.cell (.slice 134)]
def OT:List du:=[.cell (.int .i64),.cell (.int .i64),.cell (.int .i64),.cell .bool,.cell (.slice 3)]
def OD:List du:=[.cell (.slice 84),.cell (.int .i64),.cell (.slice 63),.cell (.slice 104)]
def amw:List du:=[.cell (.int .i64),.cell (.int .i64),.cell (.int .i64)]
def anr:List du:=[.cell (.int .i64),.cell (.slice 3),.cell (.slice 74)]
def uu:List du:=[.cell (.int .u8),.cell (.int .u8),.cell (.int .i64),.cell (.int .i64),.cell (.int .i64),.cell (.int .i64),.cell (.int .i64),.cell (.int .i64),.cell .any]
def wo:List du:=[.cell .bool,.cell .bool,.cell .any,.cell (.int .i64),.cell (.int .i64)]
def yk:List du:=[.cell .bool,.cell .bool,.cell (.slice 3),.cell (.int .i64),.cell (.int .i64)]
def aI:List du:=[.cell (.slice 84),.cell (.int .i64),.cell (.slice 84),.cell (.int .i64),.cell (.slice 63),.cell (.slice 104),.cell .any,.cell (.int .i64),.cell .any]
def bh:List du:=[.cell .any,.cell (.int .i64),.cell (.slice 3),.cell (.slice 3),.cell (.slice 3),.cell (.slice 3),.cell (.slice 3),.cell .bool,.cell .bool,.cell .bool,.cell (.int .i64),.cell (.int .i64)]
def jd:List du:=[.cell (.int .u8),.cell (.int .i64),.cell (.int .i64),.cell (.int .i64),.cell (.int .i64),.cell (.int .i64),.cell .bool,.cell .bool,.cell .bool,.cell .bool,.cell .bool,.cell (.int .u8),.cell .any,.cell .any,.cell .any,.cell .any,.cell .any,.cell .any,.cell .any,.cell .any,.cell .any]
def Xr:List du:=[.cell (.int .u8),.cell (.int .i64),.cell (.int .i64),.cell (.int .i64),.cell (.slice 74)]
def uv:List du:=[.cell (.int .u8),.cell (.int .i64),.cell (.int .i64),.cell (.int .i64),.cell .any]
def ao2:List du:=[.cell .any,.cell (.int .i64),.cell (.slice 3),.cell (.slice 3),.cell (.slice 3),.cell .any,.cell (.slice 3),.cell .bool,.cell .bool,.cell .bool,.cell (.int .i64),.cell (.int .i64)]
def alH:List du:=[.cell (.slice 3),.cell (.int .u8),.cell (.int .i64),.cell (.int .i64),.cell (.int .i64),.cell (.int .i64),.cell (.int .i64),.cell .bool,.cell .bool,.cell .bool,.cell .bool,.cell .bool,.cell (.int .u8),.cell (.slice 74),.cell (.slice 74),.cell (.slice 110),.cell (.slice 110),.cell (.slice 3),.cell (.slice 61),.cell (.slice 81),.cell (.slice 78),.cell (.slice 134)]
def pB:List du:=[.cell (.int .u8),.cell (.int .i64),.cell (.int .i64),.cell (.int .i64),.cell (.int .i64),.cell (.int .i64),.cell .bool,.cell .bool,.cell .bool,.cell .bool,.cell .bool,.cell (.int .u8),.cell (.slice 74),.cell (.slice 74),.cell (.slice 110),.cell (.slice 110),.cell (.slice 3),.cell (.slice 61),.cell (.slice 81),.cell (.slice 78),.cell (.slice 134),.cell (.int .i64)]
def kE:List du:=[.cell (.int .u8),.cell (.int .i64),.cell (.int .i64),.cell (.int .i64),.cell (.int .i64),.cell (.int .i64),.cell .bool,.cell .bool,.cell .bool,.cell .bool,.cell .bool,.cell (.int .u8),.cell (.slice 74),.cell (.slice 74),.cell (.slice 110),.cell (.slice 110),.cell (.slice 3),.cell (.slice 61),.cell (.slice 81),.cell (.slice 78),.cell (.slice 134),.cell (.int .i64),.cell .any,.cell .bool,.cell .bool]
def PS:List du:=[.cell (.int .u8),.cell (.int .i64),.cell (.int .i64),.cell (.int .i64),.cell (.int .i64),.cell (.int .i64),.cell .bool,.cell .bool,.cell .bool,.cell .bool,.cell .bool,.cell (.int .u8),.cell .any,.cell .any,.cell .any,.cell .any,.cell .any,.cell .any,.cell .any,.cell .any,.cell .any,.cell (.int .i64),.cell .any,.cell .bool,.cell .bool]
def bm:List du:=[.cell (.slice 84),.cell (.int .i64),.cell (.slice 63),.cell (.slice 104),.cell (.int .i64),.cell (.int .i64),.cell (.int .u8),.cell (.int .i64),.cell (.int .i64),.cell (.int .i64),.cell (.int .i64),.cell (.int .i64),.cell .bool,.cell .bool,.cell .bool,.cell .bool,.cell .bool,.cell (.int .u8),.cell (.slice 74),.cell (.slice 74),.cell (.slice 110),.cell (.slice 110),.cell (.slice 3),.cell (.slice 61),.cell (.slice 81),.cell (.slice 78),.cell (.slice 134),.cell (.int .i64),.cell (.slice 96),.cell .bool,.cell .bool,.cell (.int .u8),.cell (.int .i64),.cell (.int .i64),.cell (.int .i64),.cell (.int .i64),.cell (.int .i64),.cell .bool,.cell .bool,.cell .bool,.cell .bool,.cell .bool,.cell (.int .u8),.cell (.slice 74),.cell (.slice 74),.cell (.slice 110),.cell (.slice 110),.cell (.slice 3),.cell (.slice 61),.cell (.slice 81),.cell (.slice 78),.cell (.slice 134),.cell (.int .i64),.cell (.slice 96),.cell (.int .i64),.cell (.int .i64),.cell (.int .i64),.cell (.int .i64),.cell (.int .i64),.cell (.int .i64),.cell (.int .i64),.cell .any,.cell .any]
def XI:List du:=[.cell (.int .i64),.cell (.slice 140),.cell (.int .u8),.cell (.int .i64),.cell (.int .i64),.cell (.int .i64),.cell (.int .i64),.cell (.int .i64),.cell .bool,.cell .bool,.cell .bool,.cell .bool,.cell .bool,.cell (.int .u8),.cell (.slice 74),.cell (.slice 74),.cell (.slice 110),.cell (.slice 110),.cell (.slice 3),.cell (.slice 61),.cell (.slice 81),.cell (.slice 78),.cell (.slice 134),.cell (.int .i64)]
def NH:List du:=[.cell (.slice 84),.cell (.int .i64),.cell (.slice 63),.cell (.slice 104),.cell (.int .i64),.cell (.int .i64),.cell (.int .u8),.cell (.int .i64),.cell (.int .i64),.cell (.int .i64),.cell (.int .i64),.cell (.int .i64),.cell .bool,.cell .bool,.cell .bool,.cell .bool,.cell .bool,.cell (.int .u8),.cell (.slice 74),.cell (.slice 74),.cell (.slice 110),.cell (.slice 110),.cell (.slice 3),.cell (.slice 61),.cell (.slice 81),.cell (.slice 78),.cell (.slice 134),.cell (.int .i64),.cell (.slice 96),.cell .bool,.cell .bool,.cell (.int .u8),.cell (.int .i64),.cell (.int .i64),.cell (.int .i64),.cell (.int .i64),.cell (.int .i64),.cell .bool,.cell .bool,.cell .bool,.cell .bool,.cell .bool,.cell (.int .u8),.cell (.slice 74),.cell (.slice 74),.cell (.slice 110),.cell (.slice 110),.cell (.slice 3),.cell (.slice 61),.cell (.slice 81),.cell (.slice 78),.cell (.slice 134),.cell (.int .i64),.cell (.slice 96),.cell (.int .i64),.cell (.int .i64),.cell (.int .i64),.cell (.int .i64),.cell (.int .i64),.cell (.int .i64),.cell (.int .i64),.cell (.slice 43),.cell (.slice 23)]
def DL:List du:=[.cell (.int .i64),.cell (.int .i64),.cell (.int .i64),.cell (.int .i64),.cell (.int .i64),.cell (.int .i64),.cell (.slice 43)]
def Og:List du:=[.cell (.int .i64),.cell (.int .i64),.cell (.int .i64),.cell (.int .i64),.cell (.slice 5),.cell (.int .u8)]
end
noncomputable section
def s0:aj:=⟨[eI 0],[]⟩
def h1:List du:=[cU,cU,cI,cI,cI,cI,cI,cI,cS 74]
def s2:aj:=⟨[eA 0 h1],[]⟩
noncomputable def aoJ:FD:=oG [.iW 0 [.raw,.raw,.raw,.raw,.raw,.raw,.raw,.raw,.slice 74]] 29 Tryz.f29 1 1 0 s0 s2 [] .nil
noncomputable def apK:FD:=oG [.iW 0 [.raw,.raw,.raw,.raw,.raw,.raw,.raw,.raw,.slice 74]] 19 Tryz.f19 1 1 0 s0 s2 [] .nil
def s3:aj:=⟨[eI 0,eA 1 h1],[]⟩
def h4:List du:=[cU,cI,cI,cI,cI,cI,cB,cB,cB,cB,cB,cU,.aa 0,cS 74,.aa 1,cS 110,cS 3,cS 61,cS 81,cS 78,cS 134]
def s5:aj:=⟨[eA 0 h4],[.row 74,.row 110]⟩
noncomputable def apH:FD:=oG [.iW 0 [.raw,.raw,.raw,.raw,.raw,.raw,.raw,.raw,.raw,.raw,.raw,.raw,.raw,.slice 74,.raw,.slice 110,.slice 3,.slice 61,.slice 81,.slice 78,.slice 134]] 21 Tryz.f21 2 1 0 s3 s5 [] .nil
def s6:aj:=⟨[eS 0 61],[]⟩
def h7:List du:=[cU,cI,cI,cI,cI,cI,cB,cB,cB,cB,cB,cU,cS 74,cS 74,cS 110,cS 110,cS 3,cS 61,cS 81,cS 78,cS 134]
def s8:aj:=⟨[eA 0 h7],[]⟩
noncomputable def apI:FD:=oG [.iW 0 [.raw,.raw,.raw,.raw,.raw,.raw,.raw,.raw,.raw,.raw,.raw,.raw,.slice 74,.slice 74,.slice 110,.slice 110,.slice 3,.raw,.slice 81,.slice 78,.slice 134]] 24 Tryz.f24 1 1 0 s6 s8 [] .nil
noncomputable def aoK:FD:=oG [.iW 0 [.raw,.raw,.raw,.raw,.raw,.raw,.raw,.raw,.raw,.raw,.raw,.raw,.slice 74,.slice 74,.slice 110,.slice 110,.slice 3,.slice 61,.slice 81,.slice 78,.slice 134]] 17 Tryz.f17 0 1 0 ⟨[],[]⟩ s8 [] .nil
def s9:aj:=⟨[eA 0 h7,eA 1 h7,eS 2 3],[]⟩
def sI:List du:=[cU,cI,cI,cI,cI,cI,cB,cB,cB,cB,cB,cU,cS 74,cS 74,cS 110,cS 110,cS 3,.aa 0,cS 81,cS 78,cS 134]
def s11:aj:=⟨[eA 0 sI],[.row 61]⟩
noncomputable def aoe:FD:=oG [.iW 0 [.raw,.raw,.raw,.raw,.raw,.raw,.raw,.raw,.raw,.raw,.raw,.raw,.slice 74,.slice 74,.slice 110,.slice 110,.raw,.raw,.raw,.slice 78,.slice 134],.iW 0 [.raw,.raw,.raw,.raw,.raw,.raw,.raw,.raw,.raw,.raw,.raw,.raw,.slice 74,.slice 74,.slice 110,.slice 110,.raw,.raw,.slice 81,.slice 78,.slice 134]] 49 Tryz.f49 3 1 0 s9 s11 [.fn 7] .nil
def CY:List du:=[.aa 0,cI,.aa 1,.aa 2]
def Ln:aj:=⟨[eA 0 CY],[.row 84,.row 63,.row 104]⟩
noncomputable def apJ:FD:=bQ 15 Tryz.f15 0 1 0 ⟨[],[]⟩ Ln [.fn 7,.fn 4,.fn 5,.fc 5 [.iW 1 [.raw,.raw,.raw,.raw,.raw,.raw,.raw,.raw,.slice 74]],.fc 6 [.fp 0 (.slice 61)],.fn 3,.fn 8,.fc 8 [.iW 0 [.raw,.raw,.raw,.raw,.raw,.raw,.raw,.raw,.raw,.raw,.raw,.raw,.slice 74,.raw,.slice 110,.raw,.raw,.raw,.raw,.raw,.raw],.iW 1 [.raw,.raw,.raw,.raw,.raw,.raw,.raw,.raw,.raw,.raw,.raw,.raw,.raw,.slice 74,.slice 110,.slice 110,.slice 3,.raw,.slice 81,.slice 78,.slice 134],.fp 2 (.slice 3)]] .nil
def s14:aj:=⟨[eS 0 3,eI 1,eI 2,eS 9 3,eI 10,eI 11],[]⟩
def s15:aj:=⟨[eB 6],[]⟩
def alh:Pc:=pL 0 26 0 274877905344 s14 [xR s15,xE 0 ⟨[],[]⟩]
def s16:aj:=⟨[eS 0 3,eI 1,eI 2],[]⟩
def jk:aj:=⟨[eB 0],[]⟩
noncomputable def XD:FD:=bQ 127 Tryz.f127 3 1 0 s16 jk [] (.pc alh<| .nil)
def s18:aj:=⟨[eS 0 3,(1,.one (.cl 129 [(0,0,0)])),eI 7,eI 8],[bV [cS 84]]⟩
def s19:aj:=⟨[],[bV [cS 84]]⟩
def agU:Pc:=pL 0 26 1 524080 s18 [xE 0 s19]
def s20:aj:=⟨[eS 0 3,(1,.one (.cl 129 [(0,0,0)]))],[bV [cS 84]]⟩
def s21:aj:=⟨[eI 0],[bV [cS 84]]⟩
noncomputable def ag3:FD:=bQ 161 Tryz.f161 2 1 1 s20 s21 [] (.pc agU<| .nil)
def s22:aj:=⟨[eB 0],[bV [cS 84]]⟩
noncomputable def ag0:FD:=bQ 128 Tryz.f128 2 1 1 s20 s22 [.fn 15] .nil
def s23:aj:=⟨[eP 1 0],[bV [cS 84]]⟩
def s24:aj:=⟨[eB 2],[bV [cS 84]]⟩
def alk:Pc:=pJ 0 6 1 16324 s23 [xN s19,xR s24]
def Ch:dD:=bV [cI,cI,cI,cB,cS 3]
def s26:aj:=⟨[eP 5 0],[Ch]⟩
def s27:aj:=⟨[eB 2],[Ch]⟩
def ajH:Pc:=pJ 0 15666 1 267386884 s26 [xN ⟨[],[Ch]⟩,xR s27]
def s28:aj:=⟨[eP 1 0,eP 5 1],[bV [cS 84],Ch]⟩
def s29:aj:=⟨[],[bV [cS 84],Ch]⟩
def s30:aj:=⟨[eB 2],[bV [cS 84],Ch]⟩
def ajb:Pc:=pJ 0 125342 2 302231382846063255748612 s28 [xN s29,xR s30]
def s31:aj:=⟨[eP 1 0,eI 3,eS 14 84,eI 15,eI 16],[bV [cS 84]]⟩
def s32:aj:=⟨[eI 3],[bV [cS 84]]⟩
def akw:Pc:=pL 0 122 1 9671406556917033397583916 s31 [xR s24,xE 0 s32]
def s33:aj:=⟨[eS 0 84],[]⟩
noncomputable def DJ:FD:=bQ 83 Tryz.f83 1 1 0 s33 jk [.fn 13,.fn 14] (.pc akw<| .pc ajb<| .pc ajH<| .pc alk<| .nil)
def Lm:aj:=⟨[(0,.one (.cell (.int .u64))),(1,.one (.cell (.int .u64)))],[]⟩
noncomputable def alC:FD:=bQ 194 Tryz.f194 2 2 0 Lm Lm [] .nil
noncomputable def ams:FD:=bQ 162 Tryz.f162 2 2 0 Lm Lm [.fn 19] .nil
def s35:aj:=⟨[eI 1],[]⟩
def aiG:Pc:=pJ 0 6 0 3584 s35 [xN ⟨[],[]⟩]
def s36:aj:=⟨[(5,.one (.cell (.int .u64))),(6,.one (.cell (.int .u64)))],[]⟩
def ail:Pc:=pJ 0 30 0 266338304 s36 [xN ⟨[],[]⟩]
def s37:aj:=⟨[eO 7 0,eI 8],[.row 190]⟩
def Ll:aj:=⟨[],[.row 190]⟩
def ah2:Pc:=pL 0 508 1 140720308486400 s37 [xE 0 Ll]
def s39:aj:=⟨[eS 0 190,eI 1],[]⟩
def s40:aj:=⟨[eO 0 0],[.row 190]⟩
noncomputable def Hv:FD:=bQ 130 Tryz.f130 2 1 0 s39 s40 [.fn 18] (.pc ah2<| .pc ail<| .pc aiG<| .nil)
def s41:aj:=⟨[eI 1,eI 2,(7,.one (.mpr 0)),eS 11 3,eI 12,eI 13],[.mp (.int .i64) false [.bool]]⟩
def s42:aj:=⟨[eB 6],[.mp (.int .i64) false [.bool]]⟩
def s43:aj:=⟨[],[.mp (.int .i64) false [.bool]]⟩
def ale:Pc:=pL 0 58 1 8589926976 s41 [xR s42,xE 0 s43]
noncomputable def XC:FD:=bQ 131 Tryz.f131 3 1 0 s16 jk [] (.pc ale<| .nil)
def s44:aj:=⟨[eO 4 0,eI 5,eS 45 3,eI 46,eI 47],[.row 190]⟩
def T3:aj:=⟨[eO 2 1,eB 3],[.row 190,.row 190]⟩
def akv:Pc:=pL 0 29902 1 9223231299366420748 s44 [(.ret,[.mk 2 190],T3),xE 2 Ll]
def iX:dD:=bV [cS 84,cI,cS 63,cS 104]
def s47:aj:=⟨[eP 1 0,eO 4 1,eS 29 104,eI 30,eI 31],[iX,.row 190]⟩
def Co:aj:=⟨[eO 2 2,eB 3],[iX,.row 190,.row 190]⟩
def Cn:aj:=⟨[],[iX,.row 190]⟩
def alK:Pc:=pL 0 58 2 18446744071562068332 s47 [(.ret,[.mk 2 190],Co),xE 0 Cn]
def s50:aj:=⟨[eP 1 0,eO 4 1],[iX,.row 190]⟩
def alQ:Pc:=pJ 0 14 2 18446744073441116524 s50 [xN Cn,xR Co]
def s51:aj:=⟨[eP 1 0,eS 14 3],[iX]⟩
def s52:aj:=⟨[eO 2 1,eB 3],[iX,.row 190]⟩
def aiq:Pc:=pJ 0 1026765618 1 5069364460873632225711913697292 s51 [xN ⟨[],[iX]⟩,(.ret,[.mk 2 190],s52)]
def T0:dD:=bV [cI,cI,cI]
def s54:aj:=⟨[eP 1 0,eO 4 1,eI 16,eP 17 2],[iX,.row 190,T0]⟩
def s55:aj:=⟨[],[iX,.row 190,T0]⟩
def s56:aj:=⟨[eO 2 3,eB 3],[iX,.row 190,T0,.row 190]⟩
def ahB:Pc:=pJ 0 1051407994470 3 21778068886791632394242160610385000923148 s54 [xN s55,(.ret,[.mk 2 190],s56)]
def s57:aj:=⟨[eP 1 0,eO 4 1,eI 9,eI 11,eS 102 3,eI 103,eI 104],[iX,.row 190]⟩
def aik:Pc:=pL 0 4107062478 2 696898287433799563569339525596314045972492 s57 [xR Co,xE 10 Cn]
def s58:aj:=⟨[eP 1 0,eO 4 1,eI 9,eI 11,eO 84 2,eI 85,eI 86],[iX,.row 190,.row 23]⟩
def s59:aj:=⟨[eO 2 3,eB 3],[iX,.row 190,.row 23,.row 190]⟩
def s60:aj:=⟨[],[iX,.row 190,.row 23]⟩
def ajx:Pc:=pL 0 8021606 3 1393796574908163868974729936704255413141516 s58 [xR s59,xE 8 s60]
def s61:aj:=⟨[eP 1 0,eO 4 1,eI 9,eS 73 140,eI 74,eI 75],[iX,.row 190]⟩
def aku:Pc:=pL 0 31334 2 2787593149816327892654185852218088026757132 s61 [xR Co,xE 6 Cn]
def Cm:aj:=⟨[eP 1 0,eO 4 1,eS 65 63,eI 66,eI 67],[iX,.row 190]⟩
def alg:Pc:=pL 0 122 2 5575186299632655785383781994209500700302860 Cm [xR Co,xE 4 Cn]
def alP:Pc:=pJ 0 30 2 5575186299632655785383911121418016667164172 s50 [xN Cn,xR Co]
def s63:aj:=⟨[eO 4 0,eS 150 3,eI 151,eI 152],[.row 190]⟩
def akt:Pc:=pL 0 64102 1 11686304107876399506105245517852466176701931454476 s63 [(.ret,[.mk 2 190],T3),xE 14 Ll]
def s64:aj:=⟨[eO 4 0,eS 143 84,eI 144,eI 145],[.row 190]⟩
def alf:Pc:=pL 0 250 1 23383981595804049630012674252023983017771911348236 s64 [xR T3,xE 12 Ll]
def h65:List du:=[cS 84,cI,cS 63,cS 104]
def Gi:aj:=⟨[eA 0 h65],[]⟩
def s67:aj:=⟨[eO 0 0,eB 1],[.row 190]⟩
noncomputable def sQ:FD:=bQ 84 Tryz.f84 1 2 0 Gi s67 [.fn 13,.fc 17 [.fp 0 (.slice 190)],.fn 20] (.pc alf<| .pc akt<| .pc alP<| .pc alg<| .pc aku<| .pc ajx<| .pc aik<| .pc ahB<| .pc aiq<| .pc alQ<| .pc alK<| .pc akv<| .nil)
def s68:aj:=⟨[eI 1,eP 2 0,eS 23 74,eI 24,eI 25],[bV [cI]]⟩
def s69:aj:=⟨[eB 6],[bV [cI]]⟩
def s70:aj:=⟨[],[bV [cI]]⟩
def ald:Pc:=pL 0 122 1 68685922624 s68 [xR s69,xE 0 s70]
def s71:aj:=⟨[eA 0 h1,eI 1,eP 2 0],[bV [cI]]⟩
def s72:aj:=⟨[eB 0],[bV [cI]]⟩
noncomputable def XZ:FD:=bQ 132 Tryz.f132 3 1 1 s71 s72 [.fn 22] (.pc ald<| .nil)
def jV:dD:=bV [cU,cU,cI,cI,cI,cI,cI,cI,cS 74]
def v74:dD:=bV [cU,cU,cI,cI,cI,cI,cI,cI,.aa 2]
def Ck:aj:=⟨[eP 0 0,eP 1 1],[jV,v74,.row 74]⟩
def Cj:aj:=⟨[],[jV,v74,.row 74]⟩
noncomputable def am4:FD:=bQ 196 Tryz.f196 2 0 3 Ck Cj [] .nil
noncomputable def am3:FD:=bQ 197 Tryz.f197 2 0 3 Ck Cj [] .nil
noncomputable def am2:FD:=bQ 198 Tryz.f198 2 0 3 Ck Cj [] .nil
noncomputable def am0:FD:=bQ 200 Tryz.f200 2 0 3 Ck Cj [] .nil
noncomputable def am1:FD:=bQ 199 Tryz.f199 2 0 3 Ck Cj [] .nil
noncomputable def amZ:FD:=bQ 201 Tryz.f201 2 0 3 Ck Cj [] .nil
noncomputable def anS:List Cl:=[.fc 25 [cK 1 8 74],.fc 26 [cK 1 8 74],.fn 27,.fc 29 [cK 1 8 74],.fn 28,.fc 30 [cK 1 8 74]]
noncomputable def akT:jF:= .ur 26 4 jF.nil
noncomputable def ano:List Cl:= .inl 195 Tryz.f195 akT::anS
def s77:aj:=⟨[(19,.one (cU))],[]⟩
def s78:aj:=⟨[eB 20],[]⟩
def akP:Pc:=pJ 0 4084 0 15728640 s77 [xN s78]
def s79:aj:=⟨[eB 65],[]⟩
def ajI:Pc:=pJ 0 4184062 0 553402322211286548480 s77 [xN s79]
def s80:aj:=⟨[eA 0 h1,eI 1],[]⟩
noncomputable def OP:FD:=oG [.iW 0 [.raw,.raw,.raw,.raw,.raw,.raw,.raw,.raw,.slice 74]] 163 Tryz.f163 1 2 0 s2 s80 ano (.pc ajI<| .pc akP<| .nil)
def s81:aj:=⟨[eA 0 [cS 84,cI],eI 1,eI 2],[]⟩
noncomputable def alb:FD:=bQ 165 Tryz.f165 3 1 0 s81 jk [] .nil
def CW:List du:=[cB,cB,cS 3,cI,cI]
def s83:aj:=⟨[eA 0 CW],[]⟩
noncomputable def aoh:FD:=oG [.iW 0 [.raw,.raw,.slice 3,.raw,.raw]] 168 Tryz.f168 0 1 0 ⟨[],[]⟩ s83 [] .nil
def pa:dD:=bV [cB,cB,cS 3,cI,cI]
def s85:aj:=⟨[eP 4 0,eP 5 1],[pa,pa]⟩
def s86:aj:=⟨[eB 8],[pa,pa]⟩
def alR:Pc:=pJ 0 6 2 130816 s85 [xN s86]
def s87:aj:=⟨[(0,.one (cU))],[]⟩
def s88:aj:=⟨[eB 17],[]⟩
def aln:Pc:=pJ 0 56 0 16646144 s87 [xN s88]
def s89:aj:=⟨[eB 26],[]⟩
def akQ:Pc:=pJ 0 230 0 8522825728 s87 [xN s89]
def s90:aj:=⟨[(0,.one (cU)),eA 1 CW,eA 2 CW],[]⟩
def T2:aj:=⟨[eA 0 CW,eB 1],[]⟩
noncomputable def H0:FD:=oG [.iW 0 [.raw,.raw,.slice 3,.raw,.raw]] 169 Tryz.f169 3 2 0 s90 T2 [.fn 32] (.pc akQ<| .pc aln<| .pc alR<| .nil)
def Lh:dD:=bV [cB,cB,.aa 3,cI,cI]
def s93:aj:=⟨[eP 4 0,eP 6 1,eP 8 2,eI 9],[jV,Lh,jV,.row 3]⟩
def s94:aj:=⟨[],[jV,Lh,jV,.row 3]⟩
def s95:aj:=⟨[eB 7],[jV,Lh,jV,.row 3]⟩
def ajG:Pc:=nP [cK 6 2 3] (pJ 0 14 3 1208925819614629141151872 s93 [xN s94,(.ret,[.Cu (λenv M=>1) 2 3],s95)])
def s96:aj:=⟨[eS 2 155,eP 4 0,eO 10 1,eI 11,eS 13 155],[jV,.row 155]⟩
def s97:aj:=⟨[eS 13 155],[jV,.row 155]⟩
def aip:Pc:=pJ 0 64102 2 10140585831806192521836176089088 s96 [xN s97]
def Lg:dD:=bV [cS 84,cI]
def TZ:dD:=bV [cB,cB,.aa 4,cI,cI]
def axE:aj:=⟨[eS 2 155,eP 3 0,eP 4 1,eP 6 2,eO 10 3,eS 81 74,eI 82,eI 83],[Lg,jV,TZ,.row 155,.row 3]⟩
def afk:aj:=⟨[eB 7],[Lg,jV,Lh,.row 3]⟩
def afj:aj:=⟨[eO 10 3],[Lg,jV,TZ,.row 155,.row 3]⟩
def ai0:Pc:=pL 0 250 3 332306998936557561669034731672501376 axE [(.ret,[.Cu (λenv M=>2) 2 3],afk),xE 0 afj]
def axD:aj:=⟨[eS 2 155,eP 3 0,eP 4 1,eP 6 2,eO 10 3],[Lg,jV,TZ,.row 155,.row 3]⟩
def ajF:Pc:=nP [.mk 10 155] (pJ 0 62 3 332306998945020042406337135895444608 axD [xN afj,xR afk])
def axC:aj:=⟨[(119,.one (cU))],[]⟩
def axB:aj:=⟨[eB 235],[]⟩
def ahR:Pc:=pJ 0 1038334 0 386497795420271572096346328287513425337262102441541647089101356532760576 axC [xN axB]
def axA:aj:=⟨[eA 0 [cS 84,cI],eA 1 h1,eS 2 155],[]⟩
noncomputable def AG:FD:=oG [.iW 0 [.raw,.raw,.slice 3,.raw,.raw]] 133 Tryz.f133 3 2 0 axA T2 [.fn 23,.fn 24,.fn 31,.fn 32,.fn 33] (.pc ahR<| .pc ajF<| .pc ai0<| .pc aip<| .pc ajG<| .nil)
def axz:aj:=⟨[eA 0 [cS 84,cI],eA 1 h1],[]⟩
noncomputable def amt:FD:=oG [.iW 0 [.raw,.raw,.slice 3,.raw,.raw]] 85 Tryz.f85 2 2 0 axz T2 [.fn 22,.KL 23 [(2,155)]] .nil
noncomputable def alE:FD:=bQ 86 Tryz.f86 1 1 0 s83 jk [] .nil
def axy:aj:=⟨[eS 1 74,(2,.one (.fn 205)),eS 15 74,eI 16,eI 17],[]⟩
def agP:Pc:=pL 0 58 0 4294837184 axy [xE 0 ⟨[],[]⟩]
def axx:aj:=⟨[eS 0 74,eS 1 74,(2,.one (.fn 205))],[]⟩
noncomputable def VR:FD:=bQ 204 Tryz.f204 3 1 0 axx jk [] (.pc agP<| .nil)
def axw:aj:=⟨[eS 0 3,eS 1 3,eI 12,eI 13],[]⟩
def xh:aj:=⟨[eB 4],[]⟩
def aiV:Pc:=pL 0 58 0 67100720 axw [xR xh,xE 0 ⟨[],[]⟩]
def axv:aj:=⟨[eS 0 3,eS 1 3],[]⟩
noncomputable def WT:FD:=bQ 206 Tryz.f206 2 1 0 axv jk [] (.pc aiV<| .nil)
def axu:aj:=⟨[eS 1 110,(2,.one (.fn 208)),eS 15 110,eI 16,eI 17],[]⟩
def agH:Pc:=pL 0 58 0 4294837184 axu [xE 0 ⟨[],[]⟩]
def axt:aj:=⟨[eS 0 110,eS 1 110,(2,.one (.fn 208))],[]⟩
noncomputable def VO:FD:=bQ 207 Tryz.f207 3 1 0 axt jk [] (.pc agH<| .nil)
def axs:aj:=⟨[eS 1 61,(2,.one (.fn 172)),eS 15 61,eI 16,eI 17],[]⟩
def agO:Pc:=pL 0 58 0 4294837184 axs [xR s15,xE 0 ⟨[],[]⟩]
def axr:aj:=⟨[eS 0 61,eS 1 61,(2,.one (.fn 172))],[]⟩
noncomputable def VQ:FD:=bQ 209 Tryz.f209 3 1 0 axr jk [.fn 37] (.pc agO<| .nil)
def axq:aj:=⟨[eS 1 81,(2,.one (.fn 210)),eS 15 81,eI 16,eI 17],[]⟩
def agC:Pc:=pL 0 58 0 4294837184 axq [xE 0 ⟨[],[]⟩]
def axp:aj:=⟨[eS 0 81,eS 1 81,(2,.one (.fn 210))],[]⟩
noncomputable def VM:FD:=bQ 213 Tryz.f213 3 1 0 axp jk [] (.pc agC<| .nil)
def axo:aj:=⟨[eS 1 78,(2,.one (.fn 211)),eS 15 78,eI 16,eI 17],[]⟩
def ago:Pc:=pL 0 58 0 4294837184 axo [xE 0 ⟨[],[]⟩]
def axn:aj:=⟨[eS 0 78,eS 1 78,(2,.one (.fn 211))],[]⟩
noncomputable def VI:FD:=bQ 214 Tryz.f214 3 1 0 axn jk [] (.pc ago<| .nil)
def axm:aj:=⟨[eS 1 134,(2,.one (.fn 212)),eS 15 134,eI 16,eI 17],[]⟩
def agI:Pc:=pL 0 58 0 4294837184 axm [xE 0 ⟨[],[]⟩]
def axl:aj:=⟨[eS 0 134,eS 1 134,(2,.one (.fn 212))],[]⟩
noncomputable def VP:FD:=bQ 215 Tryz.f215 3 1 0 axl jk [] (.pc agI<| .nil)
def ic:dD:=bV [cU,cI,cI,cI,cI,cI,cB,cB,cB,cB,cB,cU,cS 74,cS 74,cS 110,cS 110,cS 3,cS 61,cS 81,cS 78,cS 134]
def KB:aj:=⟨[eP 2 0,eP 3 1],[ic,ic]⟩
def axk:aj:=⟨[eB 8],[ic,ic]⟩
def akx:Pc:=pJ 0 24 2 72057594037927680 KB [xN axk]
def axj:aj:=⟨[eB 56],[ic,ic]⟩
def akc:Pc:=pJ 0 102 2 1237940039213322680861196288 KB [xN axj]
def axi:aj:=⟨[eB 90],[ic,ic]⟩
def akb:Pc:=pJ 0 414 2 10384592479129615971680717759315968 KB [xN axi]
def axh:aj:=⟨[],[ic,ic]⟩
def axg:aj:=⟨[eB 4],[ic,ic]⟩
def akR:Pc:=pJ 0 6 2 87112285931760246646623899502532662132496 KB [xN axh,xR axg]
def axf:aj:=⟨[eA 0 h7,eA 1 h7],[]⟩
noncomputable def DG:FD:=bQ 172 Tryz.f172 2 1 0 axf jk [.fn 38,.fn 39,.fn 40,.fn 41,.fn 42,.fn 43,.fn 44] (.pc akR<| .pc akb<| .pc akc<| .pc akx<| .nil)
def afi:aj:=⟨[(24,.one (cU))],[]⟩
def axe:aj:=⟨[eB 51],[]⟩
def aja:Pc:=pJ 0 33390590 0 15762598695796736 afi [xN axe]
def axd:aj:=⟨[eB 63],[]⟩
def aio:Pc:=pJ 0 2136997886 0 64563604257983430656 afi [xN axd]
def BW:dD:=bV [cU,cI,cI,cI,cI,cI,cB,cB,cB,cB,cB,cU,.aa 3,.aa 4,.aa 5,.aa 6,.aa 7,.aa 8,.aa 9,.aa 10,.aa 11]
def axc:aj:=⟨[eP 1 0,eP 4 1,eI 5,eI 6,eI 7,(8,.one (.mpr 2))],[ic,BW,.mp (.str) false [.bool],.row 74,.row 74,.row 110,.row 110,.row 3,.row 61,.row 81,.row 78,.row 134]⟩
def axb:aj:=⟨[eI 5,eI 6,eI 7],[ic,BW,.mp (.str) false [.bool],.row 74,.row 74,.row 110,.row 110,.row 3,.row 61,.row 81,.row 78,.row 134]⟩
def axa:aj:=⟨[eB 2],[ic,BW,.mp (.str) false [.bool],.row 74,.row 74,.row 110,.row 110,.row 3,.row 61,.row 81,.row 78,.row 134]⟩
def alj:Pc:=nP [cK 4 12 74,cK 4 13 74,cK 4 14 110,cK 4 15 110,cK 4 16 3,cK 4 17 61,cK 4 18 81,cK 4 19 78,cK 4 20 134] (pJ 0 254 3 11150372599265311570767859136324180744601828 axc [xN axb,xR axa])
def SS:dD:=bV [cU,cI,cI,cI,cI,cI,cB,cB,cB,cB,cB,cU,.aa 12,.aa 13,.aa 14,.aa 15,.aa 16,.aa 17,.aa 18,.aa 19,.aa 20]
def aw9:aj:=⟨[eP 1 0,eP 3 1,eP 4 2,eI 5,eI 6,eI 7],[ic,BW,SS,.row 74,.row 74,.row 110,.row 110,.row 3,.row 61,.row 81,.row 78,.row 134,.row 74,.row 74,.row 110,.row 110,.row 3,.row 61,.row 81,.row 78,.row 134]⟩
def aw8:aj:=⟨[],[ic,BW,SS,.di 74,.di 74,.di 110,.di 110,.di 3,.di 61,.di 81,.di 78,.di 134,.di 74,.di 74,.di 110,.di 110,.di 3,.di 61,.di 81,.di 78,.di 134]⟩
def aw7:aj:=⟨[eB 2],[ic,BW,SS,.di 74,.di 74,.di 110,.di 110,.di 3,.di 61,.di 81,.di 78,.di 134,.di 74,.di 74,.di 110,.di 110,.di 3,.di 61,.di 81,.di 78,.di 134]⟩
def ali:Pc:=nP [cK 3 12 74,cK 3 13 74,cK 3 14 110,cK 3 15 110,cK 3 16 3,cK 3 17 61,cK 3 18 81,cK 3 19 78,cK 3 20 134] (pJ 0 510 3 374144408006338547794831746407509316707737978011652 aw9 [xN aw8,xR aw7])
noncomputable def DS:FD:=bQ 135 Tryz.f135 1 1 0 s8 jk [.fc 37 [.iW 0 [.raw,.raw,.raw,.raw,.raw,.raw,.raw,.raw,.raw,.raw,.raw,.raw,.slice 74,.slice 74,.slice 110,.slice 110,.slice 3,.slice 61,.slice 81,.slice 78,.slice 134],.iW 1 [.raw,.raw,.raw,.raw,.raw,.raw,.raw,.raw,.raw,.raw,.raw,.raw,.slice 74,.slice 74,.slice 110,.slice 110,.slice 3,.slice 61,.slice 81,.slice 78,.slice 134]]] (.pc ali<| .pc alj<| .pc aio<| .pc aja<| .nil)
def aw6:aj:=⟨[(4,.one (cU))],[]⟩
def aw5:aj:=⟨[eB 5],[]⟩
def alm:Pc:=pJ 0 52 0 32736 aw6 [xN aw5]
noncomputable def XG:FD:=bQ 173 Tryz.f173 1 1 0 s8 jk [] (.pc alm<| .nil)
def e7:dD:=bV [cS 84,cI,cS 84,cI,cS 63,cS 104,.aa 1,cI,.mpr 2]
def iv:dD:=bV [.ptr 0 0 0,cI,cS 3,cS 3,cS 3,cS 3,cS 3,cB,cB,cB,cI,cI]
def zf:aj:=⟨[eP 2 3,eP 3 4],[e7,.row 190,.mp (.int .i64) false [.int .i64],iv,ic]⟩
def ze:aj:=⟨[],[e7,.row 190,.mp (.int .i64) false [.int .i64],iv,ic]⟩
def B2:aj:=⟨[eB 4],[e7,.row 190,.mp (.int .i64) false [.int .i64],iv,ic]⟩
def ai6:Pc:=pJ 3 6 5 8176 zf [xN ze,xR B2]
def aw4:aj:=⟨[(14,.one (cU))],[e7,.row 190,.mp (.int .i64) false [.int .i64]]⟩
def aw3:aj:=⟨[eB 15],[e7,.row 190,.mp (.int .i64) false [.int .i64]]⟩
def aim:Pc:=pJ 3 116 3 491520 aw4 [xN aw3]
def aiI:Pc:=pJ 3 14 5 1073733648 zf [xN ze,xR B2]
def Cb:List du:=[.ptr 0 0 0,cI,cS 3,cS 3,cS 3,cS 3,cS 3,cB,cB,cB,cI,cI]
def KA:aj:=⟨[eA 0 Cb,eA 1 h7],[e7,.row 190,.mp (.int .i64) false [.int .i64]]⟩
def uW:aj:=⟨[eB 0],[e7,.row 190,.mp (.int .i64) false [.int .i64]]⟩
noncomputable def HA:FD:=bQ 136 Tryz.f136 2 1 3 KA uW [.fn 46] (.pc aiI<| .pc aim<| .pc ai6<| .nil)
def aw2:aj:=⟨[eS 0 3,eI 1,eI 7,eI 8],[]⟩
def afh:aj:=⟨[eI 4],[]⟩
def aiU:Pc:=pL 0 26 0 524080 aw2 [xR afh,xE 0 ⟨[],[]⟩]
def Tb:aj:=⟨[eS 0 3,eI 1],[]⟩
noncomputable def WS:FD:=bQ 150 Tryz.f150 2 1 0 Tb s0 [] (.pc aiU<| .nil)
noncomputable def ajW:FD:=bQ 103 Tryz.f103 2 1 0 Tb jk [.fn 53] .nil
def afg:aj:=⟨[eA 0 Cb,eI 1],[e7,.row 190,.mp (.int .i64) false [.int .i64]]⟩
noncomputable def al8:FD:=bQ 177 Tryz.f177 2 1 3 afg uW [.fn 52] .nil
def qx:dD:=bV [.ptr 1 0 0,cI,cS 3,cS 3,cS 3,cS 3,cS 3,cB,cB,cB,cI,cI]
def qw:dD:=bV [cS 84,cI,cS 84,cI,cS 63,cS 104,.aa 2,cI,.mpr 3]
def aw1:aj:=⟨[eA 0 h1,eP 1 0],[qx,qw,.row 190,.mp (.int .i64) false [.int .i64]]⟩
def B1:aj:=⟨[eB 0],[qx,qw,.row 190,.mp (.int .i64) false [.int .i64]]⟩
noncomputable def akK:FD:=bQ 239 Tryz.f239 2 1 4 aw1 B1 [.fn 50] .nil
def aw0:aj:=⟨[eS 0 74,(1,.one (.cl 239 [(0,0,0)])),eI 7,eI 8],[qx,qw,.row 190,.mp (.int .i64) false [.int .i64]]⟩
def Ta:aj:=⟨[eI 4],[qx,qw,.row 190,.mp (.int .i64) false [.int .i64]]⟩
def S9:aj:=⟨[],[qx,qw,.row 190,.mp (.int .i64) false [.int .i64]]⟩
def agt:Pc:=pL 4 26 4 524080 aw0 [xR Ta,xE 0 S9]
def aff:aj:=⟨[eS 0 74,(1,.one (.cl 239 [(0,0,0)]))],[qx,qw,.row 190,.mp (.int .i64) false [.int .i64]]⟩
def S8:aj:=⟨[eI 0],[qx,qw,.row 190,.mp (.int .i64) false [.int .i64]]⟩
noncomputable def VK:FD:=bQ 147 Tryz.f147 2 1 4 aff S8 [.fn 56] (.pc agt<| .nil)
noncomputable def agB:FD:=bQ 92 Tryz.f92 2 1 4 aff B1 [.fn 55] .nil
def awZ:aj:=⟨[eP 2 3,eP 3 4],[e7,.row 190,.mp (.int .i64) false [.int .i64],iv,jV]⟩
def awY:aj:=⟨[],[e7,.row 190,.mp (.int .i64) false [.int .i64],iv,jV]⟩
def awX:aj:=⟨[eB 4],[e7,.row 190,.mp (.int .i64) false [.int .i64],iv,jV]⟩
def aka:Pc:=pJ 3 6 5 268435440 awZ [xN awY,xR awX]
def Kz:aj:=⟨[eA 0 Cb,eA 1 h1],[e7,.row 190,.mp (.int .i64) false [.int .i64]]⟩
noncomputable def W4:FD:=bQ 226 Tryz.f226 2 1 3 Kz uW [.fn 54,.fn 51] (.pc aka<| .nil)
def awW:aj:=⟨[eA 0 CW,eB 1],[e7,.row 190,.mp (.int .i64) false [.int .i64]]⟩
noncomputable def alD:FD:=bQ 216 Tryz.f216 2 2 3 Kz awW [.fn 21,.fn 50] .nil
def awV:aj:=⟨[eI 0,eP 1 0],[qx,qw,.row 190,.mp (.int .i64) false [.int .i64]]⟩
noncomputable def ako:FD:=bQ 217 Tryz.f217 2 1 4 awV B1 [.fn 52] .nil
def awU:aj:=⟨[eS 0 3,(1,.one (.cl 217 [(0,0,0)])),eI 7,eI 8],[qx,qw,.row 190,.mp (.int .i64) false [.int .i64]]⟩
def agy:Pc:=pL 4 26 4 524080 awU [xR Ta,xE 0 S9]
def afe:aj:=⟨[eS 0 3,(1,.one (.cl 217 [(0,0,0)]))],[qx,qw,.row 190,.mp (.int .i64) false [.int .i64]]⟩
noncomputable def VL:FD:=bQ 161 Tryz.f161 2 1 4 afe S8 [.fn 59] (.pc agy<| .nil)
noncomputable def agF:FD:=bQ 128 Tryz.f128 2 1 4 afe B1 [.fn 58] .nil
def uT:dD:=bV [cU,cI,cI,cI,cS 74]
def SR:dD:=bV [cU,cI,cI,cI,.aa 5]
def afd:aj:=⟨[eP 3 3,eP 6 4,eI 7],[e7,.row 190,.mp (.int .i64) false [.int .i64],uT,SR,.row 74]⟩
def awT:aj:=⟨[eI 7],[e7,.row 190,.mp (.int .i64) false [.int .i64],uT,SR,.row 74]⟩
def atQ:dD:=bV [cU,cI,cI,cI,.aa 6]
def afc:aj:=⟨[eO 4 5,eB 5],[e7,.row 190,.mp (.int .i64) false [.int .i64],uT,atQ,.row 3,.row 74]⟩
def ai8:Pc:=nP [cK 6 4 74] (pJ 3 30 5 137438937264 afd [xN awT,(.ret,[.mk 4 3],afc)])
def awS:aj:=⟨[],[e7,.row 190,.mp (.int .i64) false [.int .i64],uT,SR,.row 74]⟩
def ai7:Pc:=pJ 3 62 5 9223371899415822384 afd [xN awS,(.ret,[.mk 4 3],afc)]
def atP:dD:=bV [cB,cB,.aa 6,cI,cI]
def awR:aj:=⟨[eP 2 3,eP 3 4,eI 7,eP 8 5],[e7,.row 190,.mp (.int .i64) false [.int .i64],iv,uT,atP,.row 3]⟩
def awQ:aj:=⟨[],[e7,.row 190,.mp (.int .i64) false [.int .i64],iv,uT,pa]⟩
def S7:aj:=⟨[eO 4 6,eB 5],[e7,.row 190,.mp (.int .i64) false [.int .i64],iv,uT,pa,.row 3]⟩
def aiJ:Pc:=nP [cK 8 2 3] (pJ 3 254 6 75548640353877468643888 awR [(.normal,[.xu (λenv M=>5) 2 3],awQ),(.ret,[.mk 4 3],S7)])
def afb:aj:=⟨[eP 2 3,eP 3 4,eP 8 5],[e7,.row 190,.mp (.int .i64) false [.int .i64],iv,uT,pa]⟩
def ahQ:Pc:=pJ 3 130908 6 174224561478926776223592541944072665825328 afb [(.ret,[.mk 4 3],S7)]
def awP:aj:=⟨[eS 10 3],[e7,.row 190,.mp (.int .i64) false [.int .i64],iv,uT,pa]⟩
def ain:Pc:=pJ 3 1022 6 1393796574908163946270424528314608270705712 afb [(.normal,[.fp 10 (.slice 3)],awP),(.ret,[.mk 4 3],S7)]
def afZ:List du:=[cU,cI,cI,cI,cS 74]
def awO:aj:=⟨[eA 0 Cb,eA 1 afZ],[e7,.row 190,.mp (.int .i64) false [.int .i64]]⟩
def awN:aj:=⟨[eS 0 3,eB 1],[e7,.row 190,.mp (.int .i64) false [.int .i64]]⟩
noncomputable def AD:FD:=oG [.fp 0 (.slice 3)] 174 Tryz.f174 2 2 3 awO awN [.fn 57,.fn 31,.fn 51,.fn 49] (.pc ain<| .pc ahQ<| .pc aiJ<| .pc ai7<| .pc ai8<| .nil)
def afY:List du:=[cI,cI,cI,cB,cS 3]
def awM:aj:=⟨[eA 0 CW,eA 1 afY],[]⟩
noncomputable def ama:FD:=bQ 219 Tryz.f219 2 1 0 awM jk [] .nil
def zb:dD:=bV [.ptr 2 0 0,cI,cS 3,cS 3,cS 3,cS 3,cS 3,cB,cB,cB,cI,cI]
def za:dD:=bV [cS 84,cI,cS 84,cI,cS 63,cS 104,.aa 3,cI,.mpr 4]
def awL:aj:=⟨[eI 0,eP 1 0,eP 2 1],[pa,zb,za,.row 190,.mp (.int .i64) false [.int .i64]]⟩
def afa:aj:=⟨[eB 0],[pa,zb,za,.row 190,.mp (.int .i64) false [.int .i64]]⟩
noncomputable def ala:FD:=bQ 218 Tryz.f218 3 1 5 awL afa [.fn 64] .nil
def awK:aj:=⟨[eS 0 3,(1,.one (.cl 218 [(0,0,0),(1,0,0)])),eI 7,eI 8],[pa,zb,za,.row 190,.mp (.int .i64) false [.int .i64]]⟩
def awJ:aj:=⟨[eI 4],[pa,zb,za,.row 190,.mp (.int .i64) false [.int .i64]]⟩
def awI:aj:=⟨[],[pa,zb,za,.row 190,.mp (.int .i64) false [.int .i64]]⟩
def agG:Pc:=pL 5 26 5 524080 awK [xR awJ,xE 0 awI]
def ae9:aj:=⟨[eS 0 3,(1,.one (.cl 218 [(0,0,0),(1,0,0)]))],[pa,zb,za,.row 190,.mp (.int .i64) false [.int .i64]]⟩
def awH:aj:=⟨[eI 0],[pa,zb,za,.row 190,.mp (.int .i64) false [.int .i64]]⟩
noncomputable def VN:FD:=bQ 161 Tryz.f161 2 1 5 ae9 awH [.fn 63] (.pc agG<| .nil)
noncomputable def agT:FD:=bQ 128 Tryz.f128 2 1 5 ae9 afa [.fn 62] .nil
def awG:aj:=⟨[eA 0 Cb,eA 1 h1,eS 2 3],[e7,.row 190,.mp (.int .i64) false [.int .i64]]⟩
noncomputable def al9:FD:=bQ 175 Tryz.f175 3 1 3 awG uW [.fn 61,.fn 49] .nil
noncomputable def ajv:FD:=bQ 176 Tryz.f176 2 1 3 Kz uW [.fn 34,.fn 49] .nil
noncomputable def akM:FD:=bQ 178 Tryz.f178 2 1 3 Kz uW [.fn 49] .nil
def ah6:Pc:=pJ 3 13820 5 316912650057057068899199090704 zf [xN ze,xR B2]
def ae8:aj:=⟨[(8,.one (cU))],[e7,.row 190,.mp (.int .i64) false [.int .i64]]⟩
def awF:aj:=⟨[eB 184],[e7,.row 190,.mp (.int .i64) false [.int .i64]]⟩
def ahP:Pc:=pJ 3 884734 3 171639500576979552136134867040834628565298781684563443712 ae8 [xN awF]
def awE:aj:=⟨[eB 193],[e7,.row 190,.mp (.int .i64) false [.int .i64]]⟩
def ahz:Pc:=pJ 3 3538942 3 87879424295413530693701051924907329825432976222496483180544 ae8 [xN awE]
noncomputable def HD:FD:=bQ 137 Tryz.f137 2 1 3 KA uW [.fn 52,.fn 20,.fn 31,.fn 48,.fn 60,.fn 65,.fn 51,.fn 66] (.pc ahz<| .pc ahP<| .pc ah6<| .nil)
def ae7:aj:=⟨[eA 0 Cb],[e7,.row 190,.mp (.int .i64) false [.int .i64]]⟩
noncomputable def ak9:FD:=oG [.iW 0 [.raw,.raw,.slice 3,.raw,.raw,.raw,.raw,.raw,.raw,.raw,.raw,.raw]] 186 Tryz.f186 1 1 3 ae7 ae7 [] .nil
def ajE:Pc:=pJ 3 6 5 8796092956688 zf [xN ze,xR B2]
def awD:aj:=⟨[eP 2 3,eS 44 3,eI 45,eI 46],[e7,.row 190,.mp (.int .i64) false [.int .i64],iv]⟩
def awC:aj:=⟨[],[e7,.row 190,.mp (.int .i64) false [.int .i64],iv]⟩
def aiZ:Pc:=pL 3 58 4 576390383559245888 awD [xE 0 awC]
def ai9:Pc:=pJ 3 14 5 576451956210401344 zf [xN ze]
def awB:aj:=⟨[eP 7 3,eP 8 4,eS 66 81,eI 67,eI 68],[e7,.row 190,.mp (.int .i64) false [.int .i64],iv,iv]⟩
def awA:aj:=⟨[eB 4],[e7,.row 190,.mp (.int .i64) false [.int .i64],iv,iv]⟩
def awz:aj:=⟨[],[e7,.row 190,.mp (.int .i64) false [.int .i64],iv,iv]⟩
def aiF:Pc:=pL 3 506 5 38685331079762954237772816 awB [xR awA,xE 2 awz]
def awy:aj:=⟨[eP 3 3,eP 7 4,eP 8 5],[e7,.row 190,.mp (.int .i64) false [.int .i64],ic,iv,iv]⟩
def awx:aj:=⟨[],[e7,.row 190,.mp (.int .i64) false [.int .i64],ic,iv,iv]⟩
def aww:aj:=⟨[eB 4],[e7,.row 190,.mp (.int .i64) false [.int .i64],ic,iv,iv]⟩
def aiK:Pc:=pJ 3 126 6 38685589334179986171495440 awy [xN awx,xR aww]
def SN:dD:=bV [cS 3,cU,cI,cI,cI,cI,cI,cB,cB,cB,cB,cB,cU,cS 74,cS 74,cS 110,cS 110,cS 3,cS 61,cS 81,cS 78,cS 134]
def awv:aj:=⟨[eP 2 3,eP 3 4,eI 12,eP 13 5],[e7,.row 190,.mp (.int .i64) false [.int .i64],iv,ic,SN]⟩
def awu:aj:=⟨[],[e7,.row 190,.mp (.int .i64) false [.int .i64],iv,ic,SN]⟩
def awt:aj:=⟨[eB 4],[e7,.row 190,.mp (.int .i64) false [.int .i64],iv,ic,SN]⟩
def ahA:Pc:=pJ 3 2096434 6 170141173319264429905852091742258462736 awv [xN awu,xR awt]
def aws:aj:=⟨[(11,.one (.mpr 3)),eS 128 3,eI 129,eI 130],[e7,.row 190,.mp (.int .i64) false [.int .i64],.mp (.int .i64) false [.bool]]⟩
def awr:aj:=⟨[eB 4],[e7,.row 190,.mp (.int .i64) false [.int .i64],.mp (.int .i64) false [.bool]]⟩
def awq:aj:=⟨[],[e7,.row 190,.mp (.int .i64) false [.int .i64],.mp (.int .i64) false [.bool]]⟩
def ahl:Pc:=pL 3 16771482 4 1392435445440480192492128893610795521310736 aws [xR awr,xE 6 awq]
def awp:aj:=⟨[eP 2 3,eP 3 4,(11,.one (.mpr 5)),eS 96 78,eI 97,eI 98],[e7,.row 190,.mp (.int .i64) false [.int .i64],iv,ic,.mp (.int .i64) false [.bool]]⟩
def awo:aj:=⟨[eB 4],[e7,.row 190,.mp (.int .i64) false [.int .i64],iv,ic,.mp (.int .i64) false [.bool]]⟩
def awn:aj:=⟨[],[e7,.row 190,.mp (.int .i64) false [.int .i64],iv,ic,.mp (.int .i64) false [.bool]]⟩
def ah3:Pc:=pL 3 16378 6 89202980794122175653492816033243071848165392 awp [xR awo,xE 4 awn]
noncomputable def ui:FD:=bQ 138 Tryz.f138 2 1 3 KA uW [.fn 35,.fn 13,.fn 20,.fn 68] (.pc ah3<| .pc ahl<| .pc ahA<| .pc aiK<| .pc aiF<| .pc ai9<| .pc aiZ<| .pc ajE<| .nil)
def awm:aj:=⟨[eS 0 3],[]⟩
def Ky:aj:=⟨[eO 0 0],[.row 3]⟩
noncomputable def ak8:FD:=bQ 188 Tryz.f188 1 1 0 awm Ky [] .nil
def awl:aj:=⟨[(0,.one (.fD))],[]⟩
noncomputable def ajY:FD:=oG [.mk 0 3] 188 Tryz.f188 1 1 0 awl Ky [] .nil
def awk:aj:=⟨[(0,.one (.ja))],[]⟩
noncomputable def ajX:FD:=bQ 188 Tryz.f188 1 1 0 awk Ky [] .nil
noncomputable def aog:FD:=bQ 142 Tryz.f142 2 1 0 Tb Ky [.Th 3 71 72 73] .nil
def ayG:List du:=[.ptr 0 0 0,cI,cS 3,cS 3,cS 3,.aa 3,cS 3,cB,cB,cB,cI,cI]
def awj:aj:=⟨[eA 0 ayG],[e7,.row 190,.mp (.int .i64) false [.int .i64],.row 3]⟩
noncomputable def akN:FD:=bQ 141 Tryz.f141 2 1 3 afg awj [.fn 70,.fn 68] .nil
def awi:aj:=⟨[eA 0 h7,eP 1 0],[qx,qw,.row 190,.mp (.int .i64) false [.int .i64]]⟩
noncomputable def akL:FD:=bQ 144 Tryz.f144 2 1 4 awi B1 [.fn 35] .nil
def awh:aj:=⟨[eS 0 61,(1,.one (.cl 144 [(0,0,0)])),eI 7,eI 8],[qx,qw,.row 190,.mp (.int .i64) false [.int .i64]]⟩
def ags:Pc:=pL 4 26 4 524080 awh [xR Ta,xE 0 S9]
def ae6:aj:=⟨[eS 0 61,(1,.one (.cl 144 [(0,0,0)]))],[qx,qw,.row 190,.mp (.int .i64) false [.int .i64]]⟩
noncomputable def VJ:FD:=bQ 189 Tryz.f189 2 1 4 ae6 S8 [.fn 76] (.pc ags<| .nil)
noncomputable def agA:FD:=bQ 143 Tryz.f143 2 1 4 ae6 B1 [.fn 75] .nil
def ajD:Pc:=pJ 3 14 5 8796092989456 zf [xN ze,xR B2]
def ajC:Pc:=pJ 3 62 5 44601490397061246283071436545155985523605616 zf [(.normal,[.xu (λenv M=>3) 2 3,.xu (λenv M=>3) 3 3,.xu (λenv M=>3) 6 3],ze),xR B2]
noncomputable def NS:FD:=bQ 88 Tryz.f88 2 1 3 KA uW [.fn 35,.fc 35 [.iW 0 [.raw,.raw,.raw,.raw,.raw,.slice 3,.raw,.raw,.raw,.raw,.raw,.raw]],.fn 36,.fn 45,.fn 47,.fn 67,.fn 69,.fn 70,.fn 74] (.pc ajC<| .pc ajD<| .nil)
def S6:aj:=⟨[eP 1 0],[iX]⟩
def Kx:aj:=⟨[eB 2],[iX]⟩
def am7:Pc:=pJ 0 6 1 288230376151580676 S6 [xN ⟨[],[iX]⟩,xR Kx]
def awg:aj:=⟨[eS 59 63,eI 60,eI 61],[]⟩
def awf:aj:=⟨[eB 2],[]⟩
def amy:Pc:=pL 0 58 0 1237940036979537265685430292 awg [xR awf,xE 0 ⟨[],[]⟩]
def amA:Pc:=pJ 0 14 1 1237940038997149898747412500 S6 [xN ⟨[],[iX]⟩,xR Kx]
def BV:dD:=bV [cI,cS 3,cS 74]
def awe:aj:=⟨[eP 9 0],[BV]⟩
def awd:aj:=⟨[],[BV]⟩
def awc:aj:=⟨[eB 2],[BV]⟩
def akS:Pc:=pJ 0 130354 1 85065399433376081038215121361612832772 awe [xN awd,xR awc]
def awb:aj:=⟨[eP 1 0,eP 9 1,eS 127 74,eI 128,eI 129],[iX,BV]⟩
def awa:aj:=⟨[eB 2],[iX,BV]⟩
def av9:aj:=⟨[],[iX,BV]⟩
def akO:Pc:=pL 0 521422 2 2923003273981241102565492738505816824448328677380 awb [xR awa,xE 4 av9]
def av8:aj:=⟨[eP 1 0,eS 106 104,eI 107,eI 108],[iX]⟩
def alN:Pc:=pL 0 1018 1 5846006549323611348296185672438405295467709610500 av8 [xR Kx,xE 2 ⟨[],[iX]⟩]
def amg:Pc:=pJ 0 254 1 5846006549323611632249920123561791230729227614724 S6 [xN ⟨[],[iX]⟩,xR Kx]
def Ko:dD:=bV [cS 84,cI,cS 84,cI,cS 63,cS 104,.aa 2,cI,.mpr 1]
def av7:aj:=⟨[eP 7 0,eS 163 63,eI 164,eI 165],[Ko,.mp (.int .i64) false [.int .i64],.row 190]⟩
def ae5:aj:=⟨[eB 2],[Ko,.mp (.int .i64) false [.int .i64],.row 190]⟩
def ae4:aj:=⟨[],[Ko,.mp (.int .i64) false [.int .i64],.row 190]⟩
def alM:Pc:=pL 0 2042 2 383077117164077625696204238872930374848055790704574468 av7 [xR ae5,xE 6 ae4]
def av6:aj:=⟨[eP 7 0,eI 180,eI 181],[Ko,.mp (.int .i64) false [.int .i64],.row 190]⟩
def alL:Pc:=pL 0 4090 2 100430562775105160443655914077268362039270449633180185067524 av6 [xR ae5,xE 8 ae4]
noncomputable def sR:FD:=bQ 59 Tryz.f59 1 1 0 Gi jk [.fn 12,.fn 16,.fn 21,.fn 34,.fc 35 [.iW 0 [.raw,.raw,.slice 3,.slice 3,.slice 3,.slice 3,.slice 3,.raw,.raw,.raw,.raw,.raw]]] (.pc alL<| .pc alM<| .pc amg<| .pc alN<| .pc akO<| .pc akS<| .pc amA<| .pc amy<| .pc am7<| .nil)
def av5:aj:=⟨[(0,.one (.cl 151 [(0,0,0)]))],[ic]⟩
noncomputable def anm:FD:=bQ 105 Tryz.f105 1 1 0 s8 av5 [] .nil
noncomputable def yn:List Cl:=[.fn 80,.fn 81]
noncomputable def Ay:YF:=yU CX Tryz.f69 TY .nil 0 58
def av4:aj:=⟨[(0,.one (.gG 0)),eS 12 81,eI 13,eI 14],[.loop 0 [eP 3 1] none,bV [cI]]⟩
def Kw:aj:=⟨[],[.loop 0 [eP 3 1] none,bV [cI]]⟩
def Wc:Pc:=pL 0 10 2 2147467280 av4 [xE 0 Kw]
noncomputable def WB:jF:= .pc Wc jF.nil
def ae3:aj:=⟨[(0,.one (.gG 0)),eP 1 1],[.loop 0 [eP 3 2] none,ic,bV [cI]]⟩
def ae2:aj:=⟨[],[.loop 0 [eP 3 2] none,ic,bV [cI]]⟩
def Wn:Pc:=pJ 0 2 3 2147481616 ae3 [xN ae2]
noncomputable def WA:jF:= .pc Wn WB
def av3:aj:=⟨[(0,.one (.gG 0)),eS 32 61,eI 33,eI 34],[.loop 0 [eP 3 1] none,bV [cI]]⟩
def Wb:Pc:=pL 0 26 2 8778913153088 av3 [xE 2 Kw]
noncomputable def Wz:jF:= .pc Wb WA
def Wm:Pc:=pJ 0 6 3 8793945538624 ae3 [xN ae2]
noncomputable def Wx:jF:= .pc Wm Wz
def av2:aj:=⟨[(0,.one (.gG 0)),eS 44 78,eI 45,eI 46],[.loop 0 [eP 3 1] none,bV [cI]]⟩
def Wa:Pc:=pL 0 58 2 71987225293750528 av2 [xE 4 Kw]
noncomputable def Ww:jF:= .pc Wa Wx
def av1:aj:=⟨[(0,.one (.gG 0)),eS 57 134,eI 58,eI 59],[.loop 0 [eP 3 1] none,bV [cI]]⟩
def V9:Pc:=pL 0 62 2 75557287265162019996672 av1 [xE 6 Kw]
noncomputable def ajJ:jF:= .pc V9 Ww
noncomputable def anQ:FD:=bQ 69 Tryz.f69 1 1 0 s8 s0 yn (.rg 58 0 [3] 151 Tryz.f151 ajJ<| .nil)
def av0:aj:=⟨[eA 0 h7,eP 1 0,eP 2 1],[bV [.aa 2],bV [cI],.row 96]⟩
def avZ:aj:=⟨[],[bV [.aa 3],bV [cI],.gone,.row 96]⟩
noncomputable def ahZ:FD:=bQ 145 Tryz.f145 3 0 3 av0 avZ [.fn 80] .nil
def avY:aj:=⟨[(4,.one (.cl 145 [(0,0,0),(1,0,0)])),eS 19 81,eI 20,eI 21],[bV [.aa 2],bV [cI],.row 96]⟩
def Kv:aj:=⟨[],[bV [.aa 2],bV [cI],.row 96]⟩
def ahf:Pc:=pL 0 122 2 17177772096 avY [xE 0 Kv]
def tw:dD:=bV [cU,cI,cI,cI,cI,cI,cB,cB,cB,cB,cB,cU,cS 74,cS 74,cS 110,cS 110,cS 3,cS 61,cS 81,cS 78,cS 134,cI]
def ae1:aj:=⟨[eP 1 0,(4,.one (.cl 145 [(1,0,0),(2,0,0)]))],[tw,bV [.aa 3],bV [cI],.row 96]⟩
def ae0:aj:=⟨[],[tw,bV [.aa 3],bV [cI],.row 96]⟩
def aho:Pc:=nP [.Cu (λenv M=>((ae.look env 4).eD.getD 0 .top).id) 0 96] (pJ 0 30 3 17179738176 ae1 [xN ae0])
def avX:aj:=⟨[(4,.one (.cl 145 [(0,0,0),(1,0,0)])),eS 36 61,eI 37,eI 38],[bV [.aa 2],bV [cI],.row 96]⟩
def ahe:Pc:=pL 0 250 2 70093866270976 avX [xE 2 Kv]
def ahn:Pc:=pJ 0 62 3 70351564308736 ae1 [xN ae0]
def avW:aj:=⟨[(4,.one (.cl 145 [(0,0,0),(1,0,0)])),eS 48 78,eI 49,eI 50],[bV [.aa 2],bV [cI],.row 96]⟩
def ahd:Pc:=pL 0 506 2 575334852396581888 avW [xE 4 Kv]
def avV:aj:=⟨[(4,.one (.cl 145 [(0,0,0),(1,0,0)])),eS 61 134,eI 62,eI 63],[bV [.aa 2],bV [cI],.row 96]⟩
def ag8:Pc:=pL 0 1018 2 75548640353877468647424 avV [xE 6 Kv]
def zt:List du:=[cU,cI,cI,cI,cI,cI,cB,cB,cB,cB,cB,cU,cS 74,cS 74,cS 110,cS 110,cS 3,cS 61,cS 81,cS 78,cS 134,cI]
def avU:aj:=⟨[eA 0 zt],[]⟩
def avT:aj:=⟨[eO 0 0],[.row 96]⟩
noncomputable def yd:FD:=bQ 89 Tryz.f89 1 1 0 avU avT [.fn 79] (.pc ag8<| .pc ahd<| .pc ahn<| .pc ahe<| .pc aho<| .pc ahf<| .nil)
def Fw:dD:=bV [cU,cI,cI,cI,cI,cI,cB,cB,cB,cB,cB,cU,cS 74,cS 74,cS 110,cS 110,cS 3,cS 61,cS 81,cS 78,cS 134,cI,.aa 1,cB,cB]
def aeZ:aj:=⟨[eP 5 0],[Fw,.row 96]⟩
def S5:aj:=⟨[],[Fw,.row 96]⟩
def ai3:Pc:=pJ 0 1812 1 8585740288 aeZ [xN S5]
def avS:aj:=⟨[eB 1,eP 5 0,eS 6 96],[Fw,.row 96]⟩
def avR:aj:=⟨[eB 85],[Fw,.row 96]⟩
def ai2:Pc:=pJ 0 1814 1 633786614487887032614761005056 avS [xN avR]
def ai1:Pc:=pJ 0 3626 1 17583596109824 aeZ [xN S5]
def avQ:aj:=⟨[eP 5 0,eS 6 96,eS 52 81,eI 53,eI 54],[Fw,.row 96]⟩
def aiD:Pc:=pL 0 58042 1 604462891792916077871872 avQ [xE 3 S5]
def atO:dD:=bV [cU,cI,cI,cI,cI,cI,cB,cB,cB,cB,cB,cU,.aa 2,.aa 3,.aa 4,.aa 5,.aa 6,.aa 7,.aa 8,.aa 9,.aa 10,cI,.aa 11,cB,cB]
def atN:dD:=bV [cU,cI,cI,cI,cI,cI,cB,cB,cB,cB,cB,cU,cS 74,cS 74,cS 110,cS 110,cS 3,cS 61,cS 81,cS 78,cS 134,cI,.aa 12,cB,cB]
def avP:aj:=⟨[eB 1,eP 4 0,eP 5 1],[atO,atN,.row 74,.row 74,.row 110,.row 110,.row 3,.row 61,.row 81,.row 78,.row 134,.row 96,.row 96]⟩
def aer:dD:=bV [cU,cI,cI,cI,cI,cI,cB,cB,cB,cB,cB,cU,cS 74,cS 74,cS 110,cS 110,cS 3,cS 61,cS 81,cS 78,cS 134,cI,.aa 2,cB,cB]
def avO:aj:=⟨[],[aer,aer,.row 96]⟩
def aj3:Pc:=nP [cK 4 12 74,cK 4 13 74,cK 4 14 110,cK 4 15 110,cK 4 16 3,cK 4 17 61,cK 4 18 81,cK 4 19 78,cK 4 20 134,cK 4 22 96,cK 5 22 96] (pL 0 14 2 41538374868278621028243970633757632 avP [xR avO])
def aeY:aj:=⟨[eA 0 zt,eB 1],[]⟩
def ayF:List du:=[cU,cI,cI,cI,cI,cI,cB,cB,cB,cB,cB,cU,cS 74,cS 74,cS 110,cS 110,cS 3,cS 61,cS 81,cS 78,cS 134,cI,.aa 0,cB,cB]
def avN:aj:=⟨[eA 0 ayF],[.row 96]⟩
noncomputable def AI:FD:=bQ 60 Tryz.f60 2 1 0 aeY avN [.fn 78] (.pc aj3<| .pc aiD<| .pc ai1<| .pc ai2<| .pc ai3<| .gh [(2,([],[.fp 6 96]))]<| .nil)
noncomputable def ahI:FD:=bQ 93 Tryz.f93 1 1 0 s2 jk [] .nil
def avM:aj:=⟨[eS 0 74,(1,.one (.fn 93)),eI 7,eI 8],[]⟩
def agb:Pc:=pL 0 26 0 524080 avM [xR afh,xE 0 ⟨[],[]⟩]
def aeX:aj:=⟨[eS 0 74,(1,.one (.fn 93))],[]⟩
noncomputable def Vs:FD:=bQ 147 Tryz.f147 2 1 0 aeX s0 [.fn 89] (.pc agb<| .nil)
noncomputable def agd:FD:=bQ 92 Tryz.f92 2 1 0 aeX jk [.fn 88] .nil
def avL:aj:=⟨[(7,.one (cU))],[]⟩
def avK:aj:=⟨[eB 8],[]⟩
def ahh:Pc:=pJ 0 52 0 130816 avL [xN avK]
def avJ:aj:=⟨[eB 1,eP 2 0],[tw]⟩
def avI:aj:=⟨[],[tw]⟩
def avH:aj:=⟨[eB 4],[tw]⟩
def ahm:Pc:=pJ 0 6 1 8589934576 avJ [xN avI,xR avH]
noncomputable def MJ:FD:=bQ 62 Tryz.f62 2 1 0 aeY jk [.fc 82 [.fp 0 (.slice 96)],.fn 78,.fn 87] (.pc ahm<| .pc ahh<| .nil)
def avG:aj:=⟨[eA 0 zt,eP 1 0],[bV [cB]]⟩
def aeW:aj:=⟨[eB 0],[bV [cB]]⟩
noncomputable def alA:FD:=bQ 91 Tryz.f91 2 1 1 avG aeW [.fn 86] .nil
def avF:aj:=⟨[eS 0 96,(1,.one (.cl 91 [(0,0,0)])),eI 7,eI 8],[bV [cB]]⟩
def avE:aj:=⟨[eI 4],[bV [cB]]⟩
def avD:aj:=⟨[],[bV [cB]]⟩
def agn:Pc:=pL 0 26 1 524080 avF [xR avE,xE 0 avD]
def aeV:aj:=⟨[eS 0 96,(1,.one (.cl 91 [(0,0,0)]))],[bV [cB]]⟩
def avC:aj:=⟨[eI 0],[bV [cB]]⟩
noncomputable def VH:FD:=bQ 146 Tryz.f146 2 1 1 aeV avC [.fn 85] (.pc agn<| .nil)
noncomputable def agx:FD:=bQ 90 Tryz.f90 2 1 1 aeV aeW [.fn 84] .nil
def avB:aj:=⟨[eS 0 96,eB 1],[]⟩
noncomputable def amr:FD:=bQ 61 Tryz.f61 2 1 0 avB jk [.fn 83] .nil
def jJ:dD:=bV [cS 84,cI,cS 63,cS 104,cI,cI,cU,cI,cI,cI,cI,cI,cB,cB,cB,cB,cB,cU,cS 74,cS 74,cS 110,cS 110,cS 3,cS 61,cS 81,cS 78,cS 134,cI,cS 96,cB,cB,cU,cI,cI,cI,cI,cI,cB,cB,cB,cB,cB,cU,cS 74,cS 74,cS 110,cS 110,cS 3,cS 61,cS 81,cS 78,cS 134,cI,cS 96,cI,cI,cI,cI,cI,cI,cI,.aa 1,.aa 2]
def avA:aj:=⟨[eP 0 0,eA 1 h1],[jJ,.row 43,.row 23]⟩
def uV:aj:=⟨[eB 0],[jJ,.row 43,.row 23]⟩
noncomputable def ajZ:FD:=bQ 94 Tryz.f94 2 1 3 avA uV [] .nil
def SM:dD:=bV [cI,cS 140,cU,cI,cI,cI,cI,cI,cB,cB,cB,cB,cB,cU,cS 74,cS 74,cS 110,cS 110,cS 3,cS 61,cS 81,cS 78,cS 134,cI]
def avz:aj:=⟨[eP 0 0,eP 3 3,eP 4 4],[jJ,.row 43,.row 23,SM,tw]⟩
def avy:aj:=⟨[],[jJ,.row 43,.row 23,SM,tw]⟩
def avx:aj:=⟨[eB 2],[jJ,.row 43,.row 23,SM,tw]⟩
def ah5:Pc:=nP [.xu (λenv M=>0) 28 96] (pJ 3 62 5 1237940039285380257719255044 avz [xN avy,xR avx])
def S4:aj:=⟨[eO 5 3],[jJ,.row 43,.row 23,.row 96]⟩
def ahO:Pc:=pJ 3 254 3 5065650640755776084887216324640 S4 [xN S4]
def avw:aj:=⟨[],[jJ,.row 43,.row 23,.di 96]⟩
def avv:aj:=⟨[eB 2],[jJ,.row 43,.row 23,.di 96]⟩
def ahN:Pc:=pJ 3 510 4 170141178389866830818769697729071284228 S4 [xN avw,xR avv]
def B0:aj:=⟨[eP 0 0],[jJ,.row 43,.row 23]⟩
noncomputable def Hp:FD:=bQ 63 Tryz.f63 1 1 3 B0 uV [.fn 77,.fn 82,.fn 78,.fn 91] (.pc ahN<| .pc ahO<| .pc ah5<| .gh [(9,([.fp 5 96],[])),(11,([.fp 5 96],[]))]<| .nil)
def avu:aj:=⟨[eP 0 0,eA 1 h7],[jJ,.row 43,.row 23]⟩
noncomputable def aj0:FD:=bQ 95 Tryz.f95 2 1 3 avu uV [] .nil
def aeU:aj:=⟨[eP 6 3],[jJ,.row 43,.row 23,jV]⟩
def S3:aj:=⟨[],[jJ,.row 43,.row 23,jV]⟩
def aha:Pc:=pJ 3 29902 4 34091302912 aeU [xN S3]
def ag9:Pc:=pJ 3 59806 4 8761733283840 aeU [xN S3,xE 1 S3]
def avt:aj:=⟨[eP 0 0,eP 7 3,eP 8 4],[jJ,.row 43,.row 23,jV,jV]⟩
def avs:aj:=⟨[eB 68],[jJ,.row 43,.row 23,jV,jV]⟩
def ag6:Pc:=pJ 3 478462 5 590223752764667723776 avt [xN avs]
def avr:aj:=⟨[eP 0 0,eI 3,eS 12 96,eI 13,eI 14],[jJ,.row 43,.row 23]⟩
def avq:aj:=⟨[eI 3],[jJ,.row 43,.row 23]⟩
def ahv:Pc:=pL 3 58 3 302231454903657293660648 avr [xE 0 avq]
noncomputable def Dk:FD:=bQ 64 Tryz.f64 1 1 3 B0 uV [.fn 91,.fn 93] (.pc ahv<| .pc ag6<| .pc ag9<| .pc aha<| .nil)
def tu:dD:=bV [.ptr 2 0 0]
def si:dD:=bV [cS 84,cI,cS 63,cS 104,cI,cI,cU,cI,cI,cI,cI,cI,cB,cB,cB,cB,cB,cU,cS 74,cS 74,cS 110,cS 110,cS 3,cS 61,cS 81,cS 78,cS 134,cI,cS 96,cB,cB,cU,cI,cI,cI,cI,cI,cB,cB,cB,cB,cB,cU,cS 74,cS 74,cS 110,cS 110,cS 3,cS 61,cS 81,cS 78,cS 134,cI,cS 96,cI,cI,cI,cI,cI,cI,cI,.aa 3,.aa 4]
def avp:aj:=⟨[eA 0 h7,eP 1 0,eP 2 1],[tu,bV [cI],si,.row 43,.row 23]⟩
def S2:aj:=⟨[],[tu,bV [cI],si,.row 43,.row 23]⟩
noncomputable def aif:FD:=bQ 96 Tryz.f96 3 0 5 avp S2 [.fn 93] .nil
def Kn:dD:=bV [.ptr 0 0 0]
def avo:aj:=⟨[(4,.one (.cl 96 [(3,0,0),(4,0,0)])),eS 30 61,eI 31,eI 32],[jJ,.row 43,.row 23,Kn,bV [cI]]⟩
def S1:aj:=⟨[],[jJ,.row 43,.row 23,Kn,bV [cI]]⟩
def ag4:Pc:=pL 3 250682 5 1095216660736 avo [xE 2 S1]
def avn:aj:=⟨[(4,.one (.cl 96 [(3,0,0),(4,0,0)])),eS 14 96,eI 15,eI 16],[jJ,.row 43,.row 23,Kn,bV [cI]]⟩
def ahj:Pc:=pL 3 122 5 2199023190336 avn [xE 0 S1]
noncomputable def MT:FD:=bQ 65 Tryz.f65 1 1 3 B0 uV [.fn 95] (.pc ahj<| .pc ag4<| .nil)
def avm:aj:=⟨[eP 0 0,eA 1 afZ],[jJ,.row 43,.row 23]⟩
noncomputable def aiA:FD:=bQ 100 Tryz.f100 2 1 3 avm uV [] .nil
def avl:aj:=⟨[eS 0 110,(1,.one (.GV 100 [(0,0,0)])),eI 7,eI 8],[jJ,.row 43,.row 23]⟩
def avk:aj:=⟨[eI 4],[jJ,.row 43,.row 23]⟩
def avj:aj:=⟨[],[jJ,.row 43,.row 23]⟩
def age:Pc:=pL 3 26 3 524080 avl [xR avk,xE 0 avj]
def aeT:aj:=⟨[eS 0 110,(1,.one (.GV 100 [(0,0,0)]))],[jJ,.row 43,.row 23]⟩
def avi:aj:=⟨[eI 0],[jJ,.row 43,.row 23]⟩
noncomputable def Vx:FD:=bQ 148 Tryz.f148 2 1 3 aeT avi [.fn 101] (.pc age<| .nil)
noncomputable def agi:FD:=bQ 99 Tryz.f99 2 1 3 aeT uV [.fn 100] .nil
def avh:aj:=⟨[eP 1 0,eP 3 5],[tu,bV [cI],si,.row 43,.row 23,tw]⟩
def avg:aj:=⟨[eB 4],[tu,bV [cI],si,.row 43,.row 23,tw]⟩
def ahw:Pc:=pJ 5 6 6 8589934576 avh [xN avg]
def avf:aj:=⟨[eA 0 zt,eP 1 0,eP 2 1],[tu,bV [cI],si,.row 43,.row 23]⟩
noncomputable def V8:FD:=bQ 98 Tryz.f98 3 0 5 avf S2 [.fn 99,.fn 101] (.pc ahw<| .nil)
def ave:aj:=⟨[(1,.one (.cl 98 [(0,0,0),(1,0,0)])),eO 10 5,eI 11,eI 12],[tu,bV [cI],si,.row 43,.row 23,.row 96]⟩
def avd:aj:=⟨[],[tu,bV [cI],si,.row 43,.row 23,.row 96]⟩
def agh:Pc:=pL 5 30 6 1044512 ave [xE 0 avd]
def avc:aj:=⟨[eA 0 zt,(1,.one (.cl 98 [(0,0,0),(1,0,0)]))],[tu,bV [cI],si,.row 43,.row 23]⟩
noncomputable def VB:FD:=bQ 97 Tryz.f97 2 0 5 avc S2 [.fn 78,.fn 97,.fn 98] (.pc agh<| .nil)
def y9:dD:=bV [.ptr 1 0 0]
def y8:dD:=bV [cS 84,cI,cS 63,cS 104,cI,cI,cU,cI,cI,cI,cI,cI,cB,cB,cB,cB,cB,cU,cS 74,cS 74,cS 110,cS 110,cS 3,cS 61,cS 81,cS 78,cS 134,cI,cS 96,cB,cB,cU,cI,cI,cI,cI,cI,cB,cB,cB,cB,cB,cU,cS 74,cS 74,cS 110,cS 110,cS 3,cS 61,cS 81,cS 78,cS 134,cI,cS 96,cI,cI,cI,cI,cI,cI,cI,.aa 2,.aa 3]
def avb:aj:=⟨[eA 0 afY,eP 1 0],[y9,y8,.row 43,.row 23]⟩
def aeS:aj:=⟨[eB 0],[y9,y8,.row 43,.row 23]⟩
noncomputable def aiB:FD:=bQ 102 Tryz.f102 2 1 4 avb aeS [.fn 52] .nil
def ava:aj:=⟨[eS 0 84,(1,.one (.cl 102 [(0,0,0)])),eI 7,eI 8],[y9,y8,.row 43,.row 23]⟩
def au9:aj:=⟨[eI 4],[y9,y8,.row 43,.row 23]⟩
def au8:aj:=⟨[],[y9,y8,.row 43,.row 23]⟩
def agj:Pc:=pL 4 26 4 524080 ava [xR au9,xE 0 au8]
def aeR:aj:=⟨[eS 0 84,(1,.one (.cl 102 [(0,0,0)]))],[y9,y8,.row 43,.row 23]⟩
def au7:aj:=⟨[eI 0],[y9,y8,.row 43,.row 23]⟩
noncomputable def VD:FD:=bQ 149 Tryz.f149 2 1 4 aeR au7 [.fn 104] (.pc agj<| .nil)
noncomputable def agm:FD:=bQ 101 Tryz.f101 2 1 4 aeR aeS [.fn 103] .nil
def au6:aj:=⟨[eP 1 3,eP 3 4,eS 10 63,eI 11,eI 12],[jJ,.row 43,.row 23,Kn,bV [cI]]⟩
def ahM:Pc:=pL 3 58 5 4190240 au6 [xE 0 S1]
noncomputable def Wu:FD:=bQ 66 Tryz.f66 1 1 3 B0 uV [.fn 97,.fn 102] (.pc ahM<| .nil)
noncomputable def aih:FD:=bQ 67 Tryz.f67 1 1 3 B0 uV [] .nil
def Fv:dD:=bV [.ptr 4 0 0]
def xd:dD:=bV [cS 84,cI,cS 63,cS 104,cI,cI,cU,cI,cI,cI,cI,cI,cB,cB,cB,cB,cB,cU,cS 74,cS 74,cS 110,cS 110,cS 3,cS 61,cS 81,cS 78,cS 134,cI,cS 96,cB,cB,cU,cI,cI,cI,cI,cI,cB,cB,cB,cB,cB,cU,cS 74,cS 74,cS 110,cS 110,cS 3,cS 61,cS 81,cS 78,cS 134,cI,cS 96,cI,cI,cI,cI,cI,cI,cI,.aa 5,.aa 6]
def au5:aj:=⟨[eA 0 zt,eP 1 0,eP 2 1,eP 3 2],[bV [.aa 3],bV [cB],Fv,.aU 23,xd,.row 43,.row 23]⟩
def aeQ:aj:=⟨[],[bV [.aa 3],bV [cB],Fv,.aU 23,xd,.row 43,.row 23]⟩
noncomputable def aiS:FD:=bQ 104 Tryz.f104 4 0 7 au5 aeQ [] (.gh [(2,([.afs (.cell 1 0) 4 4 0],[.close (.cell 1 0)]))]<| .nil)
def au4:aj:=⟨[(1,.one (.cl 104 [(0,0,0),(1,0,0),(2,0,0)])),eO 10 7,eI 11,eI 12],[bV [.aa 3],bV [cB],Fv,.aU 23,xd,.row 43,.row 23,.row 96]⟩
def au3:aj:=⟨[],[bV [.aa 3],bV [cB],Fv,.aU 23,xd,.row 43,.row 23,.row 96]⟩
def agk:Pc:=pL 7 30 8 1044512 au4 [xE 0 au3]
def au2:aj:=⟨[eA 0 zt,(1,.one (.cl 104 [(0,0,0),(1,0,0),(2,0,0)]))],[bV [.aa 3],bV [cB],Fv,.aU 23,xd,.row 43,.row 23]⟩
noncomputable def VE:FD:=bQ 97 Tryz.f97 2 0 7 au2 aeQ [.fn 78,.fn 107,.fn 108] (.pc agk<| .nil)
def SL:dD:=bV [.ptr 3 0 0]
def au1:aj:=⟨[eP 1 0,eP 3 1,eP 4 2,eS 19 96,eI 20,eI 21],[SL,bV [.aa 4],bV [cB],xd,.aU 23,.row 43,.row 23]⟩
def aeP:aj:=⟨[],[SL,bV [.aa 4],bV [cB],xd,.aU 23,.row 43,.row 23]⟩
def ahL:Pc:=pL 0 122 4 534773824 au1 [xE 0 aeP]
def au0:aj:=⟨[eP 1 0,eP 3 1,eP 4 2],[SL,bV [.aa 4],bV [cB],xd,.aU 23,.row 43,.row 23]⟩
def ah4:Pc:=pJ 0 30 4 536805440 au0 [xN aeP]
def auZ:aj:=⟨[eP 1 0,eO 29 1,eI 30,eI 31],[tu,.row 23,si,.row 43,.row 23]⟩
def auY:aj:=⟨[],[tu,.row 23,si,.row 43,.row 23]⟩
def ahK:Pc:=pL 0 250 3 9223372034707292544 auZ [xE 2 auY]
def auX:aj:=⟨[eB 0],[si,.gone,.gone,.row 43,.row 23]⟩
noncomputable def Ho:FD:=bQ 68 Tryz.f68 1 1 3 B0 auX [.fn 107] (.pc ahK<| .pc ah4<| .pc ahL<| .gh [(8,([.flat (.cell 3 0)],[]))]<| .nil)
def auW:aj:=⟨[eP 1 0,eO 5 1,eI 6,eS 43 63,eI 44,eI 45],[iX,.row 94]⟩
def auV:aj:=⟨[eO 2 1,eI 3],[iX,.row 94]⟩
def auU:aj:=⟨[eO 5 1],[iX,.row 94]⟩
def aj4:Pc:=nP [.mk 5 94] (pL 0 1018 1 1237940039285345090527039468 auW [(.ret,[.mk 2 94],auV),xE 0 auU])
def auT:aj:=⟨[eO 0 0,eI 1],[.row 94]⟩
noncomputable def Xp:FD:=oG [.mk 0 94] 48 Tryz.f48 1 2 0 Gi auT [.fn 11,.fn 77,.fc 82 [.fp 0 (.slice 96)],.fn 86,.fc 90 [.lr (λenv M=>(ae.look env 0).id) 18 74,.lr (λenv M=>(ae.look env 0).id) 19 74,.lr (λenv M=>(ae.look env 0).id) 20 110,.lr (λenv M=>(ae.look env 0).id) 21 110,.lr (λenv M=>(ae.look env 0).id) 22 3,.lr (λenv M=>(ae.look env 0).id) 23 61,.lr (λenv M=>(ae.look env 0).id) 24 81,.lr (λenv M=>(ae.look env 0).id) 25 78,.lr (λenv M=>(ae.look env 0).id) 26 134,.lr (λenv M=>(ae.look env 0).id) 28 96,.lr (λenv M=>(ae.look env 0).id) 43 74,.lr (λenv M=>(ae.look env 0).id) 44 74,.lr (λenv M=>(ae.look env 0).id) 45 110,.lr (λenv M=>(ae.look env 0).id) 46 110,.lr (λenv M=>(ae.look env 0).id) 47 3,.lr (λenv M=>(ae.look env 0).id) 48 61,.lr (λenv M=>(ae.look env 0).id) 49 81,.lr (λenv M=>(ae.look env 0).id) 50 78,.lr (λenv M=>(ae.look env 0).id) 51 134,.lr (λenv M=>(ae.look env 0).id) 53 96,cK 0 61 43,cK 0 62 23],.fn 92,.fn 94,.fn 96,.fn 105,.fn 106,.fn 80] (.pc aj4<| .ur 16685402 6<| .gh [(22,([.LW 9 102],[]))]<| .nil)
def auS:aj:=⟨[eO 6 1,eO 14 0,eI 15,eI 16],[.row 94,.row 41]⟩
def auR:aj:=⟨[eO 6 1],[.row 94,.row 41]⟩
def aj6:Pc:=nP [.mk 6 41] (pL 0 122 1 268370240 auS [xE 0 auR])
def auQ:aj:=⟨[eO 0 0,eI 1],[.row 41]⟩
noncomputable def Xf:FD:=bQ 8 Tryz.f8 1 2 0 Gi auQ [.fn 10] (.pc aj6<| .gh [(6,([.C2 8 102],[]))]<| .nil)
def auP:aj:=⟨[eO 6 0,(8,.one (.any)),eS 39 23,eI 40,eI 41],[.row 65]⟩
def auO:aj:=⟨[eO 6 0],[.row 65]⟩
def aiX:Pc:=pL 0 62670 0 144112989052601920 auP [xE 2 auO]
def auN:aj:=⟨[eO 6 1,eO 16 0,eI 17,eI 18],[.row 94,.row 65]⟩
def auM:aj:=⟨[eO 6 1],[.row 94,.row 65]⟩
def aj5:Pc:=nP [.mk 6 65] (pL 0 122 1 288230376151451456 auN [xE 0 auM])
def auL:aj:=⟨[eO 0 0,eI 1],[.row 65]⟩
noncomputable def Ob:FD:=bQ 11 Tryz.f11 1 2 0 Gi auL [.fn 10] (.pc aj5<| .pc aiX<| .gh [(6,([.C2 8 102],[])),(10,([.C2 8 102],[]))]<| .nil)
def aeO:aj:=⟨[eO 0 0],[.row 61]⟩
noncomputable def anl:FD:=bQ 44 Tryz.f44 1 1 0 s6 aeO [.fn 4,.fn 5] .nil
def auK:aj:=⟨[eA 0 CY,(1,.one (.fn 44))],[.row 84,.row 63,.row 104]⟩
noncomputable def ah0:FD:=bQ 33 Tryz.f33 2 1 3 auK Ln [.fc 6 [.fp 0 (.slice 61)],.fc 111 [.fp 0 (.slice 61)]] .nil
def auJ:aj:=⟨[eO 0 1],[.gone,.row 61]⟩
noncomputable def al7:FD:=bQ 45 Tryz.f45 1 1 1 aeO auJ [.fn 4] .nil
def auI:aj:=⟨[eA 0 CY,(1,.one (.fn 45))],[.row 84,.row 63,.row 104]⟩
noncomputable def aiT:FD:=bQ 33 Tryz.f33 2 1 3 auI Ln [.fc 6 [.fp 0 (.slice 61)],.fn 115] .nil
def pV:dD:=bV [cI,cI,cI,cI,cI,cI,cS 43]
def auH:aj:=⟨[eP 6 0,eP 7 1],[pV,pV]⟩
def aeN:aj:=⟨[],[pV,pV]⟩
def aeM:aj:=⟨[eB 4],[pV,pV]⟩
def ajy:Pc:=pJ 0 3730 2 151115727451828378402832 auH [xN aeN,xR aeM]
def auG:aj:=⟨[eP 6 0,eP 7 1,eI 8],[pV,pV]⟩
def aiW:Pc:=pL 0 14926 2 39613930141404716968125137168 auG [xR aeM,xE 2 aeN]
def auF:aj:=⟨[eS 0 41,eS 1 41,eI 5],[]⟩
def akr:Pc:=pL 0 58 0 39614081257132168796771959280 auF [xR xh,xE 0 ⟨[],[]⟩]
def auE:aj:=⟨[eS 0 41,eS 1 41],[]⟩
noncomputable def HO:FD:=bQ 46 Tryz.f46 2 1 0 auE jk [] (.pc akr<| .pc aiW<| .pc ajy<| .nil)
def aeL:aj:=⟨[eS 0 65,eS 1 65,eI 5],[]⟩
def ajz:Pc:=pJ 0 1864 0 144115188075593744 aeL [xN ⟨[],[]⟩,xR xh]
def auD:aj:=⟨[eS 0 65,eS 1 65,eI 5,eI 6],[]⟩
def ajw:Pc:=pL 0 7462 0 19342812969718878719443024 auD [xR xh,xE 2 ⟨[],[]⟩]
def aks:Pc:=pL 0 58 0 19342813113834066795294832 aeL [xR xh,xE 0 ⟨[],[]⟩]
def auC:aj:=⟨[eS 0 65,eS 1 65],[]⟩
noncomputable def HP:FD:=bQ 47 Tryz.f47 2 1 0 auC jk [] (.pc aks<| .pc ajw<| .pc ajz<| .nil)
def auB:aj:=⟨[eA 0 h65,eI 1],[]⟩
noncomputable def aof:FD:=bQ 42 Tryz.f42 2 1 0 auB jk [.fn 9,.fn 109] .nil
def auA:aj:=⟨[eO 1 0,eI 2,eO 3 1,eI 4],[.row 41,.row 65]⟩
def auz:aj:=⟨[eB 10],[.di 41,.di 65]⟩
def alO:Pc:=pJ 0 510 2 9223370937343149056 auA [(.normal,[.K4 (λenv M=>1) 65,.K4 (λenv M=>0) 41],auz)]
noncomputable def Yl:FD:=bQ 6 Tryz.f6 0 1 0 ⟨[],[]⟩ jk [.fc 9 [.iW 0 [.slice 84,.raw,.slice 63,.slice 104]],.fc 109 [.iW 0 [.slice 84,.raw,.slice 63,.slice 104]],.fn 2,.fn 112,.fn 113,.fc 118 [.iW 0 [.slice 84,.raw,.slice 63,.slice 104]],.fc 116 [.fp 0 (.slice 41),.fp 1 (.slice 41)],.fc 117 [.fp 0 (.slice 65),.fp 1 (.slice 65)]] (.pc alO<| .nil)
def oh:dD:=bV [cI,cI,cI,cI,cS 5,cU]
def auy:aj:=⟨[eS 1 3,eP 2 0,eS 8 5,eI 9,eI 10],[oh]⟩
def aeK:aj:=⟨[eB 4],[oh]⟩
def aeJ:aj:=⟨[],[oh]⟩
def amd:Pc:=pL 0 26 1 536869968 auy [xR aeK,xE 0 aeJ]
def auw:aj:=⟨[eS 1 3,eP 2 0],[oh]⟩
def amz:Pc:=pJ 0 6 1 536870864 auw [xN aeJ,xR aeK]
def ayE:List du:=[cI,cI,cI,cI,cS 5,cU]
def auv:aj:=⟨[eA 0 ayE,eS 1 3],[]⟩
noncomputable def Pa:FD:=bQ 7 Tryz.f7 2 1 0 auv jk [] (.pc amz<| .pc amd<| .nil)
def SK:dD:=bV [.aa 1,cI,.aa 2,.aa 3]
def auu:aj:=⟨[eP 5 0,eS 20 3,eI 21,eI 22],[SK,.row 84,.row 63,.row 104]⟩
def aeI:aj:=⟨[],[SK,.row 84,.row 63,.row 104]⟩
def ame:Pc:=pL 0 58 1 8796088828096 auu [xE 0 aeI]
def aut:aj:=⟨[eS 1 3,eP 5 0],[SK,.row 84,.row 63,.row 104]⟩
def amf:Pc:=nP [cK 5 0 84,cK 5 2 63,cK 5 3 104] (pJ 0 14 1 8796091973824 aut [xN aeI])
def aus:aj:=⟨[eO 13 0,eS 80 5,eI 81,eI 82],[.row 61]⟩
def aur:aj:=⟨[eO 13 0],[.row 61]⟩
def aj7:Pc:=pL 0 8342778 0 316907814353778891857477017600 aus [xE 4 aur]
def aeH:aj:=⟨[eP 11 0,eO 13 1],[oh,.row 61]⟩
def aeG:aj:=⟨[eO 13 1],[oh,.row 61]⟩
def aj9:Pc:=pJ 0 2085694 1 316912045594147543059588489216 aeH [xN aeG]
def aj8:Pc:=pJ 0 4171390 1 2595831516617356756914873988816896 aeH [xN aeG]
def auq:aj:=⟨[eP 11 0,eI 12,eP 16 1],[oh,jV]⟩
def aup:aj:=⟨[],[oh,jV]⟩
def ajA:Pc:=pJ 0 16685566 2 680232426842930697958523263098466336768 auq [(.normal,[.xu (λenv M=>1) 8 74],aup)]
def aeq:dD:=bV [.aa 2,cI,.aa 3,.aa 4]
def auo:aj:=⟨[eP 5 0,eI 8,eO 9 1,eS 48 27,eI 49,eI 50],[aeq,.row 3,.row 84,.row 63,.row 104]⟩
def aun:aj:=⟨[eO 9 1],[aeq,.row 3,.row 84,.row 63,.row 104]⟩
def alc:Pc:=nP [.mk 9 3] (pL 0 1018 1 23945242826029513411849172299223580992916898877783552 auo [xE 2 aun])
def S0:aj:=⟨[eS 0 27,eS 1 3],[]⟩
noncomputable def wa:FD:=bQ 9 Tryz.f9 2 1 0 S0 Ln [.fn 7,.fn 4,.fn 5,.fc 5 [.iW 1 [.raw,.raw,.raw,.raw,.raw,.raw,.raw,.raw,.slice 74]],.fn 6,.fc 6 [.fp 0 (.slice 61)],.fn 3,.fn 8,.KL 8 [(2,3)],.fc 8 [.iW 0 [.raw,.raw,.raw,.raw,.raw,.raw,.raw,.raw,.raw,.raw,.raw,.raw,.slice 74,.raw,.slice 110,.raw,.raw,.raw,.raw,.raw,.raw],.iW 1 [.raw,.raw,.raw,.raw,.raw,.raw,.raw,.raw,.raw,.raw,.raw,.raw,.slice 74,.slice 74,.slice 110,.slice 110,.slice 3,.slice 61,.slice 81,.slice 78,.slice 134],.fp 2 (.slice 3)]] (.pc alc<| .pc ajA<| .pc aj8<| .pc aj9<| .pc aj7<| .pc amf<| .pc ame<| .gh [(24,([.fp 13 61],[])),(35,([.fp 9 3],[]))]<| .nil)
def ajB:Pc:=pJ 0 6 0 1071644688 S0 [xN ⟨[],[]⟩,xR xh]
def aum:aj:=⟨[eS 30 3,eI 31,eI 32],[]⟩
def aiY:Pc:=pL 0 58 0 17587891077200 aum [xR xh,xE 0 ⟨[],[]⟩]
def aul:aj:=⟨[eS 1 3],[]⟩
def ai5:Pc:=pJ 0 14 0 17591112302672 aul [xN ⟨[],[]⟩,xR xh]
def auk:aj:=⟨[eS 1 3,eO 7 0,eS 44 27,eI 45,eI 46],[.row 27]⟩
def aeF:aj:=⟨[eO 7 0],[.row 27]⟩
def aiE:Pc:=pL 0 250 0 288160007407534720 auk [xE 2 aeF]
def auj:aj:=⟨[eS 0 27,eS 1 3,eO 7 0],[.row 27]⟩
def ai4:Pc:=nP [.mk 7 27] (pJ 0 62 0 288212783965667968 auj [xN aeF])
def aui:aj:=⟨[eS 7 27,eO 10 0,eI 11],[.row 41]⟩
def aeE:aj:=⟨[],[.row 41]⟩
def aeD:aj:=⟨[eB 4],[.row 41]⟩
def aiH:Pc:=nP [.fp 7 (.slice 27)] (pJ 0 510 1 301641159093298588024848 aui [xN aeE,xR aeD])
def auh:aj:=⟨[eP 13 0,eI 15],[oh]⟩
def aug:aj:=⟨[eI 15],[oh]⟩
def ahy:Pc:=pJ 0 2094286 1 37138201178561408246973759488 auh [xN aug]
def auf:aj:=⟨[eI 12,eP 13 0,eP 14 1,eI 15],[oh,pV]⟩
def aue:aj:=⟨[],[oh,pV]⟩
def aud:aj:=⟨[eB 4],[oh,pV]⟩
def ahx:Pc:=pJ 0 4188574 2 5444517870695401334156861550111519408144 auf [xN aue,xR aud]
def auc:aj:=⟨[eO 16 0,eI 17,eS 138 5,eI 139,eI 140],[.row 43]⟩
def aub:aj:=⟨[eO 16 0],[.row 43]⟩
def ag5:Pc:=pL 0 17156405862 0 22834569286720449932986229528799881659530412032 auc [xE 8 aub]
def aua:aj:=⟨[eP 13 0,eO 16 1,eI 133,eI 134],[oh,.row 43]⟩
def aeC:aj:=⟨[eO 16 1],[oh,.row 43]⟩
def ahk:Pc:=pL 0 67017210 1 45671904388519233253803489366408968731083079680 aua [xE 6 aeC]
def at9:aj:=⟨[eS 1 3,eP 13 0,eO 16 1],[oh,.row 43]⟩
def ahp:Pc:=nP [.mk 16 43] (pJ 0 16754302 1 45671920722072845458849735608390125455957229568 at9 [xN aeC])
def at8:aj:=⟨[eP 14 0,eO 16 1,eI 162,eI 163],[pV,.row 43]⟩
def at7:aj:=⟨[eB 4],[pV,.row 43]⟩
def at6:aj:=⟨[],[pV,.row 43]⟩
def ahg:Pc:=pL 0 134034430 2 191550250595137460071447748915126917688185142813655056 at8 [xR at7,xE 10 at6]
def at5:aj:=⟨[eS 1 3,eO 10 0,eS 78 27,eI 79,eI 80],[.row 41]⟩
def aij:Pc:=pL 0 4090 1 383123885216472214589586756786368370085070151373025296 at5 [xR aeD,xE 4 aeE]
noncomputable def nc:FD:=bQ 3 Tryz.f3 2 1 0 S0 jk [.fn 1,.fn 119,.fc 9 [.iW 0 [.slice 84,.raw,.slice 63,.slice 104]],.fc 120 [.fp 0 (.slice 27)]] (.pc aij<| .pc ahg<| .pc ahp<| .pc ahk<| .pc ag5<| .pc ahx<| .pc ahy<| .pc aiH<| .pc ai4<| .pc aiE<| .pc ai5<| .pc aiY<| .pc ajB<| .nil)
end
noncomputable section
def EE:List FD:=[nc,Yl,apJ,aoJ,apK,apH,apI,aoK,aoe,Xf,Xp,sR,DJ,XD,ag0,ag3,sQ,Hv,ams,alC,XC,amt,XZ,AG,OP,am4,am3,am2,am0,am1,amZ,alb,aoh,H0,alE,NS,DS,DG,VR,WT,VO,VQ,VM,VI,VP,HA,XG,HD,AD,alD,W4,al8,ajW,WS,agB,VK,akK,agF,VL,ako,al9,agT,VN,ala,ama,ajv,akM,ui,ak9,akN,aog,ak8,ajY,ajX,agA,VJ,akL,AI,yd,ahZ,anQ,anm,amr,agx,VH,alA,MJ,agd,Vs,ahI,Hp,ajZ,Dk,aj0,MT,aif,Wu,VB,V8,agi,Vx,aiA,agm,VD,aiB,aih,Ho,VE,aiS,Ob,nc,anl,ah0,aiT,nc,al7,HO,HP,aof,Pa,wa]
def DD:=df CX EE XD 0
def N2:=cN CX EE DJ 3
def Nu:=cN CX EE DJ 2
def aj1:=cN CX EE DJ 1
def AE:=df CX EE DJ 0
def M3:=cN CX EE Hv 2
def MU:=cN CX EE Hv 1
def Dj:=df CX EE Hv 0
def yi:=df CX EE XC 0
def HI:=df CX EE sQ 11
def DH:=df CX EE sQ 10
def Oe:=cN CX EE sQ 9
def akq:=df CX EE sQ 5
def HH:=df CX EE sQ 4
def DC:=df CX EE sQ 3
def Od:=cN CX EE sQ 2
def HG:=df CX EE sQ 1
def DB:=df CX EE sQ 0
def DA:=df CX EE XZ 0
def NU:=cN CX EE OP 1
def Nv:=cN CX EE OP 0
def Of:=cN CX EE H0 2
def N4:=cN CX EE H0 1
def alG:=cN CX EE H0 0
def Hy:=cN CX EE AG 4
def MY:=cN CX EE AG 3
def Hu:=df CX EE AG 2
def Ns:=cN CX EE AG 1
def V6:=cN CX EE AG 0
def Mq:=df CX EE VR 0
def Hr:=df CX EE WT 0
def Mn:=df CX EE VO 0
def G6:=df CX EE VQ 0
def Mj:=df CX EE VM 0
def Md:=df CX EE VI 0
def Mo:=df CX EE VP 0
def NP:=cN CX EE DG 3
def NG:=cN CX EE DG 2
def NF:=cN CX EE DG 1
def NV:=cN CX EE DG 0
def Ni:=cN CX EE DS 3
def MX:=cN CX EE DS 2
def N1:=cN CX EE DS 1
def N0:=cN CX EE DS 0
def N3:=cN CX EE XG 0
def Nd:=cN CX EE HA 2
def MV:=cN CX EE HA 1
def M4:=cN CX EE HA 0
def Hq:=df CX EE WS 0
def G3:=df CX EE VK 0
def ND:=cN CX EE W4 0
def G4:=df CX EE VL 0
def Ng:=cN CX EE AD 4
def Nf:=cN CX EE AD 3
def M5:=cN CX EE AD 2
def aii:=cN CX EE AD 1
def MW:=cN CX EE AD 0
def G5:=df CX EE VN 0
def aiC:=cN CX EE HD 2
def MM:=cN CX EE HD 1
def MI:=cN CX EE HD 0
def Nr:=cN CX EE ui 7
def Ax:=df CX EE ui 6
def Nh:=cN CX EE ui 5
def Dn:=df CX EE ui 4
def M6:=cN CX EE ui 3
def ah1:=cN CX EE ui 2
def ahJ:=df CX EE ui 1
def Hf:=df CX EE ui 0
def G2:=df CX EE VJ 0
def Hx:=cN CX EE NS 1
def yg:=cN CX EE NS 0
def OR:=cN CX EE sR 8
def H2:=df CX EE sR 7
def OA:=cN CX EE sR 6
def NW:=cN CX EE sR 5
def NT:=df CX EE sR 4
def HQ:=df CX EE sR 3
def On:=cN CX EE sR 2
def DI:=df CX EE sR 1
def AJ:=df CX EE sR 0
def Hl:=Gp CX EE yn Tryz.f151 Ay Wc jF.nil
def Nk:=Vk CX EE yn Tryz.f151 Ay Wn WB
def Hk:=Gp CX EE yn Tryz.f151 Ay Wb WA
def Nj:=Vk CX EE yn Tryz.f151 Ay Wm Wz
def Dq:=Gp CX EE yn Tryz.f151 Ay Wa Wx
def Dp:=Gp CX EE yn Tryz.f151 Ay V9 Ww
def De:=df CX EE yd 5
def MB:=cN CX EE yd 4
def Dd:=df CX EE yd 3
def MA:=cN CX EE yd 2
def Aq:=df CX EE yd 1
def Ap:=df CX EE yd 0
def Na:=cN CX EE AI 4
def M9:=cN CX EE AI 3
def M8:=cN CX EE AI 2
def ye:=df CX EE AI 1
def Ds:=df CX EE AI 0
def C5:=df CX EE Vs 0
def My:=cN CX EE MJ 1
def Mz:=cN CX EE MJ 0
def C9:=df CX EE VH 0
def MQ:=cN CX EE Hp 2
def ML:=cN CX EE Hp 1
def MK:=cN CX EE Hp 0
def Mw:=cN CX EE Dk 3
def Mv:=cN CX EE Dk 2
def Dc:=cN CX EE Dk 1
def rN:=df CX EE Dk 0
def Da:=df CX EE MT 1
def Dg:=df CX EE MT 0
def C7:=df CX EE Vx 0
def MF:=cN CX EE V8 0
def GX:=df CX EE VB 0
def C8:=df CX EE VD 0
def Hc:=df CX EE Wu 0
def GY:=df CX EE VE 0
def Di:=df CX EE Ho 2
def MP:=cN CX EE Ho 1
def Ar:=df CX EE Ho 0
def uh:=df CX EE Xp 0
def AB:=df CX EE Xf 0
def yf:=df CX EE Ob 1
def AA:=df CX EE Ob 0
def Nn:=cN CX EE HO 2
def Hs:=df CX EE HO 1
def HE:=df CX EE HO 0
def No:=cN CX EE HP 2
def Hw:=df CX EE HP 1
def HF:=df CX EE HP 0
def Oc:=cN CX EE Yl 0
def HV:=df CX EE Pa 1
def Oz:=cN CX EE Pa 0
def DK:=df CX EE wa 6
def Om:=cN CX EE wa 5
def Dt:=df CX EE wa 4
def NC:=cN CX EE wa 3
def NA:=cN CX EE wa 2
def Np:=cN CX EE wa 1
def yh:=df CX EE wa 0
def Nq:=cN CX EE nc 12
def Ht:=df CX EE nc 11
def Nc:=cN CX EE nc 10
def Dm:=df CX EE nc 9
def Nb:=cN CX EE nc 8
def Wv:=cN CX EE nc 7
def MH:=cN CX EE nc 6
def MG:=cN CX EE nc 5
def Db:=df CX EE nc 4
def G9:=df CX EE nc 3
def MC:=cN CX EE nc 2
def Df:=df CX EE nc 1
def Dl:=df CX EE nc 0
abbrev aF:Type:=Option UO
inductive Qm
 |bN(l:aD)
 |WU(l:aD)
 |bf(l:aD)
 |v5(l:aD)
 |jb(l:aD)
 |dz(l:aD)
 |sP(l:aD)
 |fV(l:aD)
 |rP(l:aD)
 |gU(l:aD)
 |fq(l:aD)
 |amb(l:aD)
 |fA(l:aD)
 |af(l:aD)
 |br(l:aD)
 |dr
 |cQ
 |KG
 |cH(n:Nat)
 |bI(i:Int)(l:aH)(k:Option UO)
 |aW(a b:Int)
 |cj(a b:Int)
 |gH(a b:Nat)
 |jm(a b:Nat)
 |l8Q(l:aH)
 |ba(l:aH)(i:Int)
 |cm(i:Int)
 |bF
instance (l:aD):CoeDep Qm (.bN l) AV:=⟨.agg (ab js 0 l)⟩
instance (l:aD):CoeDep Qm (.WU l) AV:=⟨.agg (ab alH 0 l)⟩
instance (l:aD):CoeDep Qm (.bf l) AV:=⟨.agg (ab dw 0 l)⟩
instance (l:aD):CoeDep Qm (.v5 l) AV:=⟨.agg (ab OT 0 l)⟩
instance (l:aD):CoeDep Qm (.jb l) AV:=⟨.agg (ab Xr 0 l)⟩
instance (l:aD):CoeDep Qm (.dz l) AV:=⟨.agg (ab OD 0 l)⟩
instance (l:aD):CoeDep Qm (.sP l) AV:=⟨.agg (ab anr 0 l)⟩
instance (l:aD):CoeDep Qm (.fV l) AV:=⟨.agg (ab DL 0 l)⟩
instance (l:aD):CoeDep Qm (.rP l) AV:=⟨.agg (ab XI 0 l)⟩
instance (l:aD):CoeDep Qm (.gU l) AV:=⟨.agg (ab Og 0 l)⟩
instance (l:aD):CoeDep Qm (.fq l) AV:=⟨.agg (ab pB 0 l)⟩
instance (l:aD):CoeDep Qm (.amb l) AV:=⟨.agg (ab amw 0 l)⟩
instance (l:aD):CoeDep Qm (.fA l) AV:=⟨.agg (ab yk 0 l)⟩
instance (l:aD):CoeDep Qm (.af l) (Option UO):=⟨some (0,l)⟩
instance (l:aD):CoeDep Qm (.br l) (Option UO):=⟨some (1,l)⟩
instance:CoeDep Qm (.dr ) (Option UO):=⟨some (0,[.bool true])⟩
instance:CoeDep Qm (.cQ ) (Option UO):=⟨some (0,[.bool false])⟩
instance:CoeDep Qm (.KG ) (Option UO):=⟨some (1,[.bool false])⟩
instance (n:Nat):CoeDep Qm (.cH n) Bool:=⟨Nat.beq n 0⟩
instance (i:Int)(l:aH)(k:Option UO):CoeDep Qm (.bI i l k) (Option UO):=⟨aB (ib i l.length) k⟩
instance (a b:Int):CoeDep Qm (.aW a b) Bool:=⟨decide (a<b)⟩
instance (a b:Int):CoeDep Qm (.cj a b) Bool:=⟨decide (a<=b)⟩
instance (a b:Nat):CoeDep Qm (.gH a b) Bool:=⟨decide (a<b)⟩
instance (a b:Nat):CoeDep Qm (.jm a b) Bool:=⟨decide (a<=b)⟩
instance (l:aH):CoeDep Qm (.l8Q l) Bool:=⟨decide ((0+l.length)*8<=140737488355328)⟩
instance (l:aH)(i:Int):CoeDep Qm (.ba l i) aD:=⟨gA l i.toNat⟩
instance (i:Int):CoeDep Qm (.cm i) AV:=⟨iI (bo (i+1))⟩
instance:CoeDep Qm (.bF ) aH:=⟨[]⟩
end
end Go.Proofs.YtffabbjfdgmbjaaGreat
namespace Go.ae
def BI{p:Prop}(h:p:=by rw [pI (by omega) (by omega)];omega):p:=h
end Go.ae
namespace Go.Proofs.YtffabbjfdgmbjaaGreat
open Go Go.ae
section
variable{n:Int}{i:Nat}
def apV(h0: -9223372036854775808<=n)(h1:n<=9223372036854775807):IntKind.wrap .i64 n=n:=by
 simp [IntKind.wrap,IntKind.bits,IntKind.signed];split<;>omega
def pI(h0: -9223372036854775808<=n)(h1:n<=9223372036854775807):bo n=n:=apV h0 h1
def ay2(X:Cx)(E:List FD)(N v:Nat)(l:aD):FU X E (N+1) v l=bC X E (FU X E N) N v l:=rfl
def oc{n:Nat}(h:i<n):ib (i:Int) n=true:=by simp [ib,h]
def Y4(h:i<9223372036854775807):bo ((i:Int)+1)=((i+1:Nat):Int):=BI
end
end Go.Proofs.YtffabbjfdgmbjaaGreat
namespace Go.ae
def ET{p:Prop}(h:p:=by rw [hp]at h;cases h):p:=h
end Go.ae
namespace Go.ae
def Qi:=@List.any_cons
end Go.ae
namespace Go.Proofs.YtffabbjfdgmbjaaGreat
open Go Go.ae
section
variable{c:Bool}{α:Type}{l:List α}{i m v:Nat}{LF:Nat->Nat->Nat->Option UO}{f g:Nat->Nat->Option UO}{P:Nat->Prop}{done hit o r:UO}{p:α->Bool}
def E(f:Nat->Nat->Option UO)(o:UO):Prop:=∃B,∀N n,B<=N->B<=n->f N n=some o
abbrev Ev(v:Nat)(l:aD)(o:UO):Prop:=E (λN _=>FU CX EE N v l) o
def ah(h:o=r):E (λ_ _=>some o) r:=⟨0,λ_ _ _ _=>by rw [h]⟩
def ao{k:Nat->Nat->Nat->aD->Option UO}(h:E f o)(hk:E (λN n=>k N n o.1 o.2) r):E (λN n=>bO (f N n) (k N n)) r:=by
 obtain⟨B,h⟩:=h;obtain⟨C,hk⟩:=hk;refine⟨B+C,λN n h1 h2=> ?_⟩;show bO (f N n) (k N n)=some r;rw [h N n (by omega) (by omega)];exact hk N n (by omega) (by omega)
def aV(hc:c=true)(h:E f r):E (λN n=>ae.aB c (f N n)) r:=by
 subst hc;exact h
def aJ(h1:c=true->E f r)(h2:c=false->E g r):E (λN n=>bif c then f N n else g N n) r:=by
 cases c
 ·exact h2 rfl
 ·exact h1 rfl
def bj(hc:c=true)(h:E f r):E (λN n=>bif c then f N n else g N n) r:=by
 subst hc;exact h
def aC(hc:c=false)(h:E g r):E (λN n=>bif c then f N n else g N n) r:=by
 subst hc;exact h
def atL(he:∀N n,f N n=g N n)(h:E g r):E f r:=by
 obtain⟨B,h⟩:=h;exact⟨B,λN n h1 h2=>(he N n).trans (h N n h1 h2)⟩
def atK{l:aD}{g:Nat->Option UO}(he:∀N,bC CX EE (FU CX EE N) N v l=g N)(h:E (λN _=>g N) r):Ev v l r:=by
 obtain⟨B,h⟩:=h;refine⟨B+1,λN n h1 _=> ?_⟩;obtain⟨M,rfl⟩:∃M,N=M+1:=⟨N- 1,by omega⟩;show FU CX EE (M+1) v l=_;rw [ay2];exact(he M).trans <|h M M (by omega) (by omega)
def aqX(he:∀N n,f N (n+1)=g N n)(h:E g r):E f r:=by
 obtain⟨B,h⟩:=h;refine⟨B+1,λN n h1 h2=> ?_⟩;obtain⟨m,rfl⟩:∃m,n=m+1:=⟨n- 1,by omega⟩;exact(he N m).trans <|h N m (by omega) (by omega)
def cP(he:∀{N n},f N n=g N n)(h:E g r):E f r:=atL (λ_ _=>he) h
def bu{l:aD}{g:Nat->Option UO}(he:∀{N},bC CX EE (FU CX EE N) N v l=g N)(h:E (λN _=>g N) r):Ev v l r:=atK (λ_=>he) h
def bx(he:∀{N n},f N (n+1)=g N n)(h:E g r):E f r:=aqX (λ_ _=>he) h
def E.diag(h:E f r):E (λN _=>f N N) r:=by
 obtain⟨B,h⟩:=h;exact⟨B,λN n h1 h2=>h N N h1 h1⟩
def E.to(h:E f o)(e:o=r):E f r:=e▸h
def down(h0:P m)(hs:∀i,i<m->P (i+1)->P i):∀i,i<=m->P i:=by
 intro i hi;obtain⟨k,rfl⟩:∃k,m=i+k:=⟨m- i,by omega⟩;clear hi
 induction k generalizing i with
 |zero=>exact h0
 |succ k ih=>
  refine hs i (by omega) (ih (i+1) ?_ ?_)
  ·rw [show i+1+k=i+(k+1)by omega];exact h0
  ·intro j hj;exact hs j (by omega)
def gy(h0:P m)(hs:∀i,i<m->P (i+1)->P i):P 0:=down h0 hs 0 (dX _)
abbrev mx:Nat:=1048576
abbrev ints(l:bW):aH:=l.map λn=>[iI n]
def Br{f:α->Row}(h:i<l.length):gA (l.map f) i=f l[i]:=by simp [gA,List.getD,h]
def eT{f:α->Row}(h:i<l.length):gA (l.map f) ((i:Int).toNat)=f l[i]:=Br h
def kG(h:i<l.length):l.drop i=l[i]::l.drop (i+1):=Qj h
def ix{n:Nat}(h:i<n)(hn:n<=mx):bo ((i:Int)+1)=((i+1:Nat):Int):=Y4 (by simp only [mx]at hn;omega)
def ew{f:α->Row}(h:i<l.length):decide ((i:Int)<ln (l.map f))=true:=by simpa [ln]using h
def eJ{f:α->Row}:decide ((l.length:Int)<ln (l.map f))=false:=by simp [ln]
def ey{f:α->Row}(h:i<l.length):ib (i:Int) (l.map f).length =true:=by simpa using oc h
def scan{hit:Nat->UO}(hd:E (LF l.length) done)
 (hs:∀(i:Nat) (h:i<l.length) (r:UO),(p l[i]=true->hit i=r)->(p l[i]=false->E (LF (i+1)) r)->E (LF i) r):
 (l.any p=false∧E (LF 0) done)∨(l.any p=true∧∃i,i<l.length∧E (LF 0) (hit i)):=by
 have h:=gy (P:=λi=>((l.drop i).any p=false∧E (LF i) done)∨((l.drop i).any p=true∧∃j,j<l.length∧E (LF i) (hit j))) (m:=l.length) (.inl ⟨by simp,hd⟩) λi hi ih=>by
  rw [kG hi,Qi];cases hp:p l[i]with
  |true=>exact .inr ⟨rfl,i,hi,hs i hi _ (λ_=>rfl) (λh=>ET)⟩
  |false=>
   rw [IK];rcases ih with⟨h1,h2⟩|⟨h1,j,hj,h2⟩
   ·exact .inl ⟨h1,hs i hi _ (λh=>ET) λ_=>h2⟩
   ·exact .inr ⟨h1,j,hj,hs i hi _ (λh=>ET) λ_=>h2⟩
 simpa using h
def JN(hd:E (LF l.length) done)
 (hs:∀(i:Nat) (h:i<l.length) (r:UO),(p l[i]=true->hit=r)->(p l[i]=false->E (LF (i+1)) r)->E (LF i) r):
 E (LF 0) (bif l.any p then hit else done):=by
 rcases scan (hit:=λ_=>hit) hd hs with⟨h1,h2⟩|⟨h1,i,_,h2⟩
 ·rw [h1];exact h2
 ·rw [h1];exact h2
def asy{p:Nat->Bool}(hd:E (LF m) done)
 (hs:∀(i:Nat),i<m->∀(r:UO),(p i=true->hit=r)->(p i=false->E (LF (i+1)) r)->E (LF i) r):E (LF 0) (bif (List.range m).any p then hit else done):=by
 have:=JN (l:=List.range m) (LF:=LF) (p:=p) (hit:=hit) (done:=done) (by simpa using hd) λi hi r h1 h2=>hs i (yL) r (λh=>h1 (jh)) λh=>h2 (jh);exact this
def atf{l:bW}(h:i<l.length):gI (gA (ints l) i) 0=l.getD i 0:=by rw [Br h];simp [gI,AV.toI,h]
def EZ{l:bW}(h:i<l.length):gI (gA (ints l) ((i:Int).toNat)) 0=l.getD i 0:=atf h
end
end Go.Proofs.YtffabbjfdgmbjaaGreat
namespace Go.ae
def wO{p:Prop}(h:p:=by rw [I1];rfl):p:=h
def abU{p:Prop}(h:p:=by
 cases s with
 |mk k g n e b a=>cases g;cases b;cases a;rfl):p:=h
def abc{p:Prop}(h:p:=by
 cases s with
 |mk d u=>cases d;cases u;rfl):p:=h
end Go.ae
namespace Go.ae
def Qf:=@List.not_mem_nil
def D4:=@List.sizeOf_lt_of_mem
end Go.ae
namespace Go.Proofs.YtffabbjfdgmbjaaGreat
open Go Go.ae
inductive CE where
 |mk(kind op N O off len lo hi:Int)(L:List CE)
namespace CE
def kind:CE->Int|mk k _ _ _ _ _ _ _ _=>k
def op:CE->Int|mk _ p _ _ _ _ _ _ _=>p
def N:CE->Int|mk _ _ n _ _ _ _ _ _=>n
def O:CE->Int|mk _ _ _ o _ _ _ _ _=>o
def off:CE->Int|mk _ _ _ _ f _ _ _ _=>f
def len:CE->Int|mk _ _ _ _ _ l _ _ _=>l
def lo:CE->Int|mk _ _ _ _ _ _ a _ _=>a
def hi:CE->Int|mk _ _ _ _ _ _ _ b _=>b
def L:CE->List CE|mk _ _ _ _ _ _ _ _ l=>l
end CE
def CE.lt{e y:CE}(h:y∈e.L):SizeOf.sizeOf y<SizeOf.sizeOf e:=by
 cases e with
 |mk _ _ _ _ _ _ _ _ l=>
  have:=D4 h;simp only [CE.L]at this;simp only [CE.mk.sizeOf_spec];omega
def CE.ind{P:CE->Prop}(h:∀e:CE,(∀y∈e.L,P y)->P e):∀e,P e:=λe=>
 h e λy hy=>CE.ind h y
termination_by e=>SizeOf.sizeOf e
decreasing_by exact CE.lt hy
mutual
def bq:CE->aD
 | .mk k p n o f l a b es=>[.int .u8 k,.int .u8 p,iI n,iI o,iI f,iI l,iI a,iI b,.U ax (Ka es)]
def Ka:List CE->aH
 | []=>[]
 |e::es=>bq e::Ka es
end
def YJ:∀es,Ka es=es.map bq
 | []=>rfl
 |e::es=>by simp only [Ka,fW,YJ es]
def I1(e:CE):bq e=[.int .u8 e.kind,.int .u8 e.op,iI e.N,iI e.O,iI e.off,iI e.len,iI e.lo,iI e.hi,.U ax (e.L.map bq)]:=by
 cases e;simp only [bq,YJ];rfl
def dx(e:CE):ab js 0 (bq e)=bq e:=by cases e;rfl
def xt(e:CE):gR (bq e) 8=e.L.map bq:=wO
structure PL where
 kind:Int
 O:Int
 off:Int
 len:Int
 E:List CE
def eM(p:PL):aD:=[.int .u8 p.kind,iI p.O,iI p.off,iI p.len,.U ax (p.E.map bq)]
def aet(p:PL):ab Xr 0 (eM p)=eM p:=rfl
structure dW where
 kind:Int
 N:Int
 O:Int
 T:Int
 P:Int
 entry:Int
 In:Bool
 rev:Bool
 ow:Bool
 qO:Bool
 qQ:Bool
 mode:Int
 E:List CE
 oI:List CE
 To:List PL
 mi:List PL
 Ts:bW
mutual
inductive CS where
 |mk(f:dW)(L:List CS)(D:List CD)(H:List CH)(A:List CA)
inductive CD where
 |mk(d u:CS)
inductive CH where
 |mk(ry:bW)(body:CS)
inductive CA where
 |mk(kind:Int)(guard:CE)(entry:Int)(E:List CE)(body after:CS)
end
variable{s y:CS}
namespace CS
def f:CS->dW|mk f _ _ _ _=>f
def L:CS->List CS|mk _ l _ _ _=>l
def D:CS->List CD|mk _ _ d _ _=>d
def H:CS->List CH|mk _ _ _ h _=>h
def A:CS->List CA|mk _ _ _ _ a=>a
end CS
def CD.d:CD->CS|mk d _=>d
def CD.u:CD->CS|mk _ u=>u
def CH.ry:CH->List Int|mk e _=>e
def CH.body:CH->CS|mk _ b=>b
def CA.guard:CA->CE|mk _ g _ _ _ _=>g
def CA.E:CA->List CE|mk _ _ _ e _ _=>e
def CA.body:CA->CS|mk _ _ _ _ b _=>b
def CA.after:CA->CS|mk _ _ _ _ _ a=>a
def CS.kids(s:CS):List CS:=s.D.flatMap (λd=>[d.d,d.u])++(s.L++(s.H.map CH.body++s.A.flatMap λa=>[a.body,a.after]))
def CS.lt(h:y∈s.kids):SizeOf.sizeOf y<SizeOf.sizeOf s:=by
 cases s with
 |mk f l d hh a=>
  simp only [CS.mk.sizeOf_spec];simp only [CS.kids,jS,A8,nV,CS.L,CS.D,CS.H,CS.A,dA,Qf,or_false]at h;rcases h with⟨x,hx,h⟩|h|⟨x,hx,rfl⟩|⟨x,hx,h⟩
  ·have:=D4 hx;cases x with
   |mk p q=>
    simp only [CD.mk.sizeOf_spec]at this;rcases h with rfl|rfl<;>(try simp only [CD.d,CD.u])<;>omega
  ·have:=D4 h;omega
  ·have:=D4 hx;cases x with
   |mk p q=>
    simp only [CH.mk.sizeOf_spec]at this;simp only [CH.body];omega
  ·have:=D4 hx;cases x with
   |mk _ _ _ _ p q=>
    simp only [CA.mk.sizeOf_spec]at this;rcases h with rfl|rfl<;>(try simp only [CA.body,CA.after])<;>omega
def CS.ind{P:CS->Prop}(h:∀s:CS,(∀y∈s.kids,P y)->P s):∀s,P s:=λs=>
 h s λy hy=>CS.ind h y
termination_by s=>SizeOf.sizeOf s
decreasing_by exact CS.lt hy
def B5{d:CD}(h:d∈s.D):d.d∈s.kids∧d.u∈s.kids:=by
 simp only [CS.kids,jS,A8];exact⟨.inl ⟨d,h,by simp⟩,.inl ⟨d,h,by simp⟩⟩
def KP(h:y∈s.L):y∈s.kids:=by
 simp only [CS.kids,jS];exact .inr (.inl h)
def Tl{x:CH}(h:x∈s.H):x.body∈s.kids:=by
 simp only [CS.kids,jS,nV];exact .inr (.inr (.inl ⟨x,h,rfl⟩))
def B6{x:CA}(h:x∈s.A):x.body∈s.kids∧x.after∈s.kids:=by
 simp only [CS.kids,jS,A8];exact⟨.inr (.inr (.inr ⟨x,h,by simp⟩)),.inr (.inr (.inr ⟨x,h,by simp⟩))⟩
abbrev oq(f:dW)(l d h a:aH):aD:=[.int .u8 f.kind,iI f.N,iI f.O,iI f.T,iI f.P,iI f.entry,.bool f.In,.bool f.rev,.bool f.ow,.bool f.qO,.bool f.qQ,.int .u8 f.mode,.U ax (f.E.map bq),.U ax (f.oI.map bq),.U aL (f.To.map eM),.U aL (f.mi.map eM),.U ak (ints f.Ts),.U aZ l,.U bD d,.U bK h,.U bP a]
mutual
def aX:CS->aD
 | .mk f l d h a=>oq f (J8 l) (Kb d) (J9 h) (Kc a)
def J8:List CS->aH
 | []=>[]
 |s::ss=>aX s::J8 ss
def ed:CD->aD
 | .mk d u=>aX d++aX u
def Kb:List CD->aH
 | []=>[]
 |s::ss=>ed s::Kb ss
def mR:CH->aD
 | .mk e b=> .U ak (ints e)::aX b
def J9:List CH->aH
 | []=>[]
 |s::ss=>mR s::J9 ss
def mh:CA->aD
 | .mk k g n e b a=> .int .u8 k::(bq g++(iI n:: .U ax (e.map bq)::(aX b++aX a)))
def Kc:List CA->aH
 | []=>[]
 |s::ss=>mh s::Kc ss
end
def YH:∀l,J8 l=l.map aX
 | []=>rfl
 |e::es=>by simp only [J8,fW,YH es]
def YK:∀l,Kb l=l.map ed
 | []=>rfl
 |e::es=>by simp only [Kb,fW,YK es]
def YI:∀l,J9 l=l.map mR
 | []=>rfl
 |e::es=>by simp only [J9,fW,YI es]
def YL:∀l,Kc l=l.map mh
 | []=>rfl
 |e::es=>by simp only [Kc,fW,YL es]
def QI(s:CS):aX s=oq s.f (s.L.map aX) (s.D.map ed) (s.H.map mR) (s.A.map mh):=by
 cases s;simp only [aX,YH,YK,YI,YL];rfl
def iT(s:CS):ab dw 0 (aX s)=aX s:=by cases s;rfl
def SV(s:CD):ab dw 0 (ed s)=aX s.d:=abc
def SU(s:CD):ab dw 21 (ed s)=aX s.u:=abc
def aev(s:CH):ab dw 1 (mR s)=aX s.body:=by
 cases s with
 |mk e b=>cases b;rfl
def aew(s:CA):ab dw 12 (mh s)=aX s.body:=abU
def aex(s:CA):ab dw 33 (mh s)=aX s.after:=abU
structure OB where
 size:Int
 lo:Int
 hi:Int
 ptr:Bool
 set:bW
def fM(o:OB):aD:=[iI o.size,iI o.lo,iI o.hi,.bool o.ptr,.U ak (ints o.set)]
structure EN where
 ins:bW
 outs:bW
def F6(e:EN):aD:=[.U ak (ints e.ins),.U ak (ints e.outs)]
structure TK where
 prio:Int
 aq:List EN
 body:CS
 dead:Int
def bL(t:TK):aD:=iI t.prio:: .U pD (t.aq.map F6)::(aX t.body++[iI t.dead])
structure PR where
 ceil:Int
 Ke:bW
 bars:List CE
def ie(q:PR):aD:=[iI q.ceil,.U ak (ints q.Ke),.U ax (q.bars.map bq)]
structure PG where
 bZ:List OB
 ry:Int
 tasks:List TK
 bS:List PR
def fG(p:PG):aD:=[.U bE (p.bZ.map fM),iI p.ry,.U cT (p.tasks.map bL),.U dN (p.bS.map ie)]
structure SO where
 ptr:Bool
 null:Bool
 set:bW
 lo:Int
 hi:Int
def gF(s:SO):aD:=[.bool s.ptr,.bool s.null,.U ak (ints s.set),iI s.lo,iI s.hi]
inductive CE.Ok:CE->Prop
 |mk(e:CE)(hl:e.L.length<=mx)(h:∀y∈e.L,CE.Ok y):CE.Ok e
def xy(l:List CE):Prop:=l.length<=mx∧∀e∈l,e.Ok
def PL.Ok(p:PL):Prop:=xy p.E
def Le(l:List PL):Prop:=l.length<=mx∧∀e∈l,e.Ok
structure dW.Ok(f:dW):Prop where
 E:xy f.E
 oI:xy f.oI
 To:Le f.To
 mi:Le f.mi
 Ts:f.Ts.length<=mx
 mode:0<=f.mode
structure CH.Vn(x:CH):Prop where
 ry:x.ry.length<=mx
structure CA.Vn(x:CA):Prop where
 guard:x.guard.Ok
 E:xy x.E
inductive CS.Ok:CS->Prop
 |mk(s:CS)(hf:s.f.Ok)(hL:s.L.length<=mx)(hD:s.D.length<=mx)(hH:s.H.length<=mx)(hA:s.A.length<=mx)(h1:∀x∈s.H,x.Vn)(h2:∀x∈s.A,x.Vn)(hk:∀y∈s.kids,CS.Ok y):CS.Ok s
def OB.Ok(o:OB):Prop:=o.set.length<=mx
def EN.Ok(e:EN):Prop:=e.ins.length<=mx∧e.outs.length<=mx
structure TK.Ok(t:TK):Prop where
 len:t.aq.length<=mx
 aq:∀e∈t.aq,e.Ok
 body:t.body.Ok
structure PR.Ok(q:PR):Prop where
 Ke:q.Ke.length<=mx
 bars:xy q.bars
structure PG.Ok(p:PG):Prop where
 bZ:p.bZ.length<=mx
 obj:∀o∈p.bZ,o.Ok
 tasks:p.tasks.length<=mx
 task:∀t∈p.tasks,t.Ok
 bS:p.bS.length<=mx
 B3:∀q∈p.bS,q.Ok
end Go.Proofs.YtffabbjfdgmbjaaGreat
namespace Go.Proofs.YtffabbjfdgmbjaaGreat
open Go Go.ae Qm
set_option maxRecDepth 100000
noncomputable section
variable {G:Nat->aD->Option UO} {N n:Nat} {i0 i1 i2 i3 i4 i5:Int} {l0 l1 l2 l3 l4 l5:aD} {r0 r1 r2 r3 r4 r5 r6:aH}
def aob:bC CX EE G N yv [iI i0]=(af [.agg [.int .u8 2,.int .u8 0,iI 0,iI i0,iI 0,iI 0,iI 0,iI 0,.U ax ([])]]:aF):=by kernel_rfl
def aoI:bC CX EE G N oK [iI i0]=(af [.agg [.int .u8 1,.int .u8 0,iI i0,iI 0,iI 0,iI 0,iI 0,iI 0,.U ax ([])]]:aF):=by kernel_rfl
def aoF:bC CX EE G N sU [iI i0,.agg l1]=(af [.agg [.int .u8 2,iI 0,iI 0,iI 0,iI 0,iI 0,.bool false,.bool false,.bool false,.bool false,.bool false,.int .u8 0,.aa 0,.U ax ([]),.aa 1,.U aL ([]),.U ak bF,.U aZ ([]),.U bD ([]),.U bK ([]),.U bP ([])],.U ax (([ab js 0 l1]:aH)),.U aL (([[.int .u8 1,iI i0,iI 0,iI 0,.U ax ([])]]:aH))]:aF):=by kernel_rfl
def aoG:bC CX EE G N wu [.U aZ r0]=(af [.agg [.int .u8 3,iI 0,iI 0,iI 0,iI 0,iI 0,.bool false,.bool false,.bool false,.bool false,.bool false,.int .u8 0,.U ax ([]),.U ax ([]),.U aL ([]),.U aL ([]),.U ak bF,.U aZ r0,.U bD ([]),.U bK ([]),.U bP ([])]]:aF):=by kernel_rfl
def aoc:bC CX EE G N wg []=(af [.agg zz0]:aF):=by kernel_rfl
def XY:bC CX EE G N v9 [.agg l0,.agg l1,.U ak r2]=(bif gI l0 0 != 1 then bO (G wg []) λ_ o1=>af [.agg [.int .u8 9,iI 0,iI 0,iI 0,iI 0,iI 0,.bool false,.bool false,.bool false,.bool false,.bool false,.int .u8 0,.U ax ([]),.U ax ([]),.U aL ([]),.U aL ([]),.U ak r2,.aa 0,.U bD (([sT (ab am6 0 l0) [(21,.int .u8 (gI (gC o1 0) 0)),(22,iI (gI (gC o1 0) 1)),(23,iI (gI (gC o1 0) 2)),(24,iI (gI (gC o1 0) 3)),(25,iI (gI (gC o1 0) 4)),(26,iI (gI (gC o1 0) 5)),(27,.bool (gB (gC o1 0) 6)),(28,.bool (gB (gC o1 0) 7)),(29,.bool (gB (gC o1 0) 8)),(30,.bool (gB (gC o1 0) 9)),(31,.bool (gB (gC o1 0) 10)),(32,.int .u8 (gI (gC o1 0) 11)),(33,.U ax (gR (gC o1 0) 12)),(34,.U ax (gR (gC o1 0) 13)),(35,.U aL (gR (gC o1 0) 14)),(36,.U aL (gR (gC o1 0) 15)),(37,.U ak (gR (gC o1 0) 16)),(38,.U aZ (gR (gC o1 0) 17)),(39,.U bD (gR (gC o1 0) 18)),(40,.U bK (gR (gC o1 0) 19)),(41,.U bP (gR (gC o1 0) 20))]]:aH)),.U bK ([]),.U bP ([])],.U aZ (([ab dw 0 l1]:aH))]else af [.agg [.int .u8 9,iI 0,iI 0,iI 0,iI 0,iI 0,.bool false,.bool false,.bool false,.bool false,.bool false,.int .u8 0,.U ax ([]),.U ax ([]),.U aL ([]),.U aL ([]),.U ak r2,.aa 0,.U bD ([]),.U bK ([]),.U bP ([])],.U aZ (([ab dw 0 l1]:aH))]:aF):=by kernel_rfl
def aoH:bC CX EE G N uy []=(bO (G yv [iI 1]) λ_ o1=>bO (G oK [iI 3]) λ_ o2=>bO (G sU [iI 0,bN (gC o2 0)]) λ_ o3=>bO (G yv [iI 1]) λ_ o4=>bO (G oK [iI 20]) λ_ o5=>bO (G sU [iI 1,.agg [.int .u8 9,.int .u8 0,iI 0,iI 0,iI 0,iI 0,iI 0,iI 2147483647,.U ax (([[.int .u8 5,.int .u8 1,iI 0,iI 0,iI 0,iI 0,iI 0,iI 0,.U ax (([ab js 0 (gC o4 0),ab js 0 (gC o5 0)]:aH))]]:aH))]]) λ_ o6=>bO (G wu [.U aZ (([[.int .u8 15,iI 0,iI 0,iI 0,iI 0,iI 0,.bool false,.bool false,.bool true,.bool false,.bool false,.int .u8 0,.U ax (([ab js 0 (gC o1 0)]:aH)),.U ax ([]),.U aL ([]),.U aL ([]),.U ak bF,.U aZ ([]),.U bD ([]),.U bK ([]),.U bP ([])],[.int .u8 20,iI 0,iI 0,iI 0,iI 0,iI 0,.bool false,.bool false,.bool false,.bool false,.bool false,.int .u8 0,.U ax ([]),.U ax ([]),.U aL ([]),.U aL ([]),.U ak bF,.U aZ (([sT (ab dw 0 (gC o3 0)) [(12,.U ax (gR o3 1)),(14,.U aL (gR o3 2))]]:aH)),.U bD ([]),.U bK ([]),.U bP ([])],sT (ab dw 0 (gC o6 0)) [(12,.U ax (gR o6 1)),(14,.U aL (gR o6 2))]]:aH))]) λ_ o7=>bO (G oK [iI 1]) λ_ o8=>bO (G wg []) λ_ o9=>bO (G wg []) λ_ cx=>bO (G v9 [bf (gC o9 0),bf (gC cx 0),.U ak (([[iI 1]]:aH))]) λ_ cr=>bO (G oK [iI 10]) λ_ dV=>bO (G sU [iI 1,bN (gC dV 0)]) λ_ gP=>bO (G v9 [.agg (sT (ab dw 0 (gC gP 0)) [(12,.U ax (gR gP 1)),(14,.U aL (gR gP 2))]),.agg [.int .u8 5,iI 0,iI 0,iI 0,iI 0,iI 0,.bool false,.bool false,.bool false,.bool false,.bool false,.int .u8 0,.U ax (([ab js 0 (gC o8 0)]:aH)),.U ax ([]),.U aL ([]),.U aL ([]),.U ak bF,.U aZ (([ab dw 0 (gC o7 0)]:aH)),.U bD ([]),.U bK ([]),.U bP ([])],.U ak bF]) λ_ eX=>af [.agg [.aa 0,iI 4,.aa 1,.aa 2],.U bE (([TX,Ga]:aH)),.U cT (([[iI 0,.U pD ([]),.int .u8 (gI (gC cr 0) 0),iI (gI (gC cr 0) 1),iI (gI (gC cr 0) 2),iI (gI (gC cr 0) 3),iI (gI (gC cr 0) 4),iI (gI (gC cr 0) 5),.bool (gB (gC cr 0) 6),.bool (gB (gC cr 0) 7),.bool (gB (gC cr 0) 8),.bool (gB (gC cr 0) 9),.bool (gB (gC cr 0) 10),.int .u8 (gI (gC cr 0) 11),.U ax (gR (gC cr 0) 12),.U ax (gR (gC cr 0) 13),.U aL (gR (gC cr 0) 14),.U aL (gR (gC cr 0) 15),.U ak (gR (gC cr 0) 16),.U aZ (gR cr 1),.U bD (gR (gC cr 0) 18),.U bK (gR (gC cr 0) 19),.U bP (gR (gC cr 0) 20),iI 0],[iI 4,.U pD ([]),.int .u8 (gI (gC eX 0) 0),iI (gI (gC eX 0) 1),iI (gI (gC eX 0) 2),iI (gI (gC eX 0) 3),iI (gI (gC eX 0) 4),iI (gI (gC eX 0) 5),.bool (gB (gC eX 0) 6),.bool (gB (gC eX 0) 7),.bool (gB (gC eX 0) 8),.bool (gB (gC eX 0) 9),.bool (gB (gC eX 0) 10),.int .u8 (gI (gC eX 0) 11),.U ax (gR (gC eX 0) 12),.U ax (gR (gC eX 0) 13),.U aL (gR (gC eX 0) 14),.U aL (gR (gC eX 0) 15),.U ak (gR (gC eX 0) 16),.U aZ (gR eX 1),.U bD (gR (gC eX 0) 18),.U bK (gR (gC eX 0) 19),.U bP (gR (gC eX 0) 20),iI 0]]:aH)),.U dN (([[iI 5,.U ak (([[iI 0]]:aH)),.U ax ([])]]:aH))]:aF):=by kernel_rfl
def W2:DD G N (n+1) [.U ak r0,iI i1,iI i2,.U ak r3,iI i4,iI i5]=(bif aW i5 i4 then bI i5 r3<|bif aW (gI (ba r3 i5) 0) i1 then cQ else bif aW i2 (gI (ba r3 i5) 0)then cQ else bif aW 0 i5 then bI (bo (i5- 1)) r0<|bif cj (gI (ba r3 i5) 0) (gI (ba r0 (bo (i5- 1))) 0)then cQ else DD G N n [.U ak r0,iI i1,iI i2,.U ak r3,iI i4,cm i5]else DD G N n [.U ak r0,iI i1,iI i2,.U ak r3,iI i4,cm i5]else br []:aF):=by kernel_rfl
def amU:bC CX EE G N Ou [.U ak r0,iI i1,iI i2]=(bO (DD G N N [.U ak r0,iI i1,iI i2,.U ak r0,iI (ln r0),iI 0]) λq1 o1=>bif cH q1 then af [.bool (gB o1 0)]else dr:aF):=by kernel_rfl
def alr:N2 G N [.agg l0]=(bif aW (ln (gR l0 0)) 1 then br [.bool false,.agg [.U bE (gR l0 0)]]else bif aW 2048 (ln (gR l0 0))then br [.bool false,.agg [.U bE (gR l0 0)]]else af [.agg [.U bE (gR l0 0)]]:aF):=by kernel_rfl
def ajS:Nu G N [.agg l0]=(bif aW (gI l0 0) 1 then br [.bool false,v5 l0]else bif aW 16384 (gI l0 0)then br [.bool false,v5 l0]else af [v5 l0]:aF):=by kernel_rfl
def WN:AE G N (n+1) [iI i0,.U bE r1,iI i2,iI i3,.agg l4]=(bif aW i3 i2 then bI i3 r1<|bO (Nu G N [v5 (ba r1 i3)]) λq2 o2=>bif cH q2 then bif !(gB (gC o2 0) 3)then bif aW 0 (ln (gR (gC o2 0) 4))then af [.bool false,.agg [.U bE (gR l4 0)]]else bif aW (gI (gC o2 0) 1) (-2147483648)then af [.bool false,.agg [.U bE (gR l4 0)]]else bif aW 2147483647 (gI (gC o2 0) 2)then af [.bool false,.agg [.U bE (gR l4 0)]]else bif aW (gI (gC o2 0) 2) (gI (gC o2 0) 1)then af [.bool false,.agg [.U bE (gR l4 0)]]else AE G N n [iI (bo (i0+gI (gC o2 0) 0)),.U bE r1,iI i2,cm i3,.agg [.U bE (gR l4 0)]]else bO (aj1 G N [.agg [.U bE (gR l4 0)],v5 (gC o2 0)]) λq4 o4=>bif cH q4 then bO (G agW [.U ak (gR (gC o4 1) 4),.agg [.U bE (gR (gC o4 0) 0)]]) λ_ o5=>bif gB o5 0 then af [.bool false,.agg [.U bE (gR (gC o5 1) 0)]]else AE G N n [iI (bo (i0+gI (gC o2 0) 0)),.U bE r1,iI i2,cm i3,.agg [.U bE (gR (gC o5 1) 0)]]else af [.bool (gB o4 0),.agg [.U bE (gR (gC o4 1) 0)]]else af [.bool (gB o2 0),.agg [.U bE (gR l4 0)]]else br [iI i0,.agg [.U bE (gR l4 0)]]:aF):=by kernel_rfl
def amn:bC CX EE G N Oi [.U bE r0]=(bO (N2 G N [.agg [.U bE r0]]) λq1 o1=>bif cH q1 then bO (AE G N N [iI 0,.U bE (gR (gC o1 0) 0),iI (ln (gR (gC o1 0) 0)),iI 0,.agg [.U bE (gR (gC o1 0) 0)]]) λq6 o6=>bif cH q6 then af [.bool (gB o6 0)]else af [.bool (cj (gI o6 0) 16384)]else af [.bool (gB o1 0)]:aF):=by kernel_rfl
def ak3:bC CX EE G N NQ [.int .u64 i0,.int .u64 i1]=(af [.int .u64 (IntKind.wrap .u64 ((IntKind.wrap .u64 ((IntKind.wrap .u64 (Int.fdiv i0 (2^32)*Int.fdiv i1 (2^32)))+(Int.fdiv (IntKind.wrap .u64 ((IntKind.wrap .u64 (Int.fdiv i0 (2^32)*(IntKind.wrap .u64 ((BitVec.ofInt 64 i1&&&BitVec.ofInt 64 4294967295).toNat :Int))))+(Int.fdiv (IntKind.wrap .u64 ((IntKind.wrap .u64 ((BitVec.ofInt 64 i0&&&BitVec.ofInt 64 4294967295).toNat :Int))*(IntKind.wrap .u64 ((BitVec.ofInt 64 i1&&&BitVec.ofInt 64 4294967295).toNat :Int)))) (2^32)))) (2^32))))+(Int.fdiv (IntKind.wrap .u64 ((IntKind.wrap .u64 ((BitVec.ofInt 64 ((IntKind.wrap .u64 ((IntKind.wrap .u64 (Int.fdiv i0 (2^32)*(IntKind.wrap .u64 ((BitVec.ofInt 64 i1&&&BitVec.ofInt 64 4294967295).toNat :Int))))+(Int.fdiv (IntKind.wrap .u64 ((IntKind.wrap .u64 ((BitVec.ofInt 64 i0&&&BitVec.ofInt 64 4294967295).toNat :Int))*(IntKind.wrap .u64 ((BitVec.ofInt 64 i1&&&BitVec.ofInt 64 4294967295).toNat :Int)))) (2^32)))))&&&BitVec.ofInt 64 4294967295).toNat :Int))+(IntKind.wrap .u64 ((IntKind.wrap .u64 ((BitVec.ofInt 64 i0&&&BitVec.ofInt 64 4294967295).toNat :Int))*Int.fdiv i1 (2^32))))) (2^32)))),.int .u64 (IntKind.wrap .u64 (i0*i1))]:aF):=by kernel_rfl
def al4:bC CX EE G N N8 [.int .u64 i0,.int .u64 i1]=(bO (G NQ [.int .u64 i0,.int .u64 i1]) λ_ o1=>af [.int .u64 (gI o1 0),.int .u64 (gI o1 1)]:aF):=by kernel_rfl
def aiL:M3 G N [iI i0]=(bif aW i0 0 then none else af []:aF):=by kernel_rfl
def air:MU G N [.int .u64 i0,.int .u64 i1]=(bif aW 0 i0 then none else bif aW 9223372036854775807 i1 then none else af []:aF):=by kernel_rfl
def ah7:Dj G N (n+1) [iI i0,.U ai r1]=(bif aW i0 (ln r1)then aB (cj 0 i0&&cj i0 (ln r1)&&cj (ln r1) (ln r1))<|aB (cj 0 i0&&cj i0 (ln r1))<|Dj G N n [iI (bo (i0+(((min ((r1.drop 0).take i0.toNat).length (r1.length- i0.toNat):Nat):Int)))),.U ai (qP r1 i0.toNat (r1.length- i0.toNat) ((r1.drop 0).take i0.toNat))]else af [.U ai r1]:aF):=by kernel_rfl
def ajU:bC CX EE G N Nl [.U ai r0,iI i1]=(bO (M3 G N [iI i1]) λ_ o1=>bO (G N8 [.int .u64 (IntKind.wrap .u64 (ln r0)),.int .u64 (IntKind.wrap .u64 i1)]) λ_ o2=>bO (MU G N [.int .u64 (gI o2 0),.int .u64 (gI o2 1)]) λ_ o3=>aB (cj 0 (bo (gI o2 1))&&cj (bo (gI o2 1)) (bo (gI o2 1))&&cj ((bo (gI o2 1))*24) 140737488355328)<|bO (Dj G N N [iI (((min r0.length ((List.replicate ((bo (gI o2 1)).toNat) ([iI 0,iI 0,iI 0]:Row)).length):Nat):Int)),.U ai (qP (List.replicate ((bo (gI o2 1)).toNat) ([iI 0,iI 0,iI 0]:Row)) 0 ((List.replicate ((bo (gI o2 1)).toNat) ([iI 0,iI 0,iI 0]:Row)).length) r0)]) λ_ o4=>af [.U ai (gR o4 0)]:aF):=by kernel_rfl
def WZ:yi G N (n+1) [iI i0,iI i1,.U ak r2,iI i3,iI i4,.U 0 r5]=(bif aW i4 i3 then bI i4 r2<|bif aW (gI (ba r2 i4) 0) i0 then af [.bool false,.U 0 (au (aq r5))]else bif aW i1 (gI (ba r2 i4) 0)then af [.bool false,.U 0 (au (aq r5))]else match ae.dm (aq r5) (iI (gI (ba r2 i4) 0))with|some m1=>(bif m1.toB then af [.bool false,.U 0 (au (aq r5))]else yi G N n [iI i0,iI i1,.U ak r2,iI i3,cm i4,.U 0 (au (ae.jK (aq r5) (iI (gI (ba r2 i4) 0)) (.bool true)))])|none=>(yi G N n [iI i0,iI i1,.U ak r2,iI i3,cm i4,.U 0 (au (ae.jK (aq r5) (iI (gI (ba r2 i4) 0)) (.bool true)))])else br [.U 0 (au (aq r5))]:aF):=by kernel_rfl
def amT:bC CX EE G N HY [.U ak r0,iI i1,iI i2]=(bO (yi G N N [iI i1,iI i2,.U ak r0,iI (ln r0),iI 0,.U 0 (au (([]:List (AV×AV))))]) λq2 o2=>bif cH q2 then af [.bool (gB o2 0)]else dr:aF):=by kernel_rfl
def WM:HI G N (n+1) [iI i0,.U ak r1,iI i2,iI i3,.U ai r4]=(bif aW i3 i2 then bI i3 r1<|bI (gI (ba r1 i3) 0) r4<|aB (gH ((gI (ba r1 i3) 0).toNat) (r4.length))<|bif cj 0 (gI (ba r4 (gI (ba r1 i3) 0)) 0)then af [.bool false,.U ai r4,.U ai bF]else bI (gI (ba r1 i3) 0) r4<|aB (gH ((gI (ba r1 i3) 0).toNat) (r4.length))<|HI G N n [iI i0,.U ak r1,iI i2,cm i3,.U ai (r4.set ((gI (ba r1 i3) 0).toNat) (setAt (ba r4 (gI (ba r1 i3) 0)) 0 [iI i0]))]else br [.U ai r4]:aF):=by kernel_rfl
def W6:DH G N (n+1) [.U dN r0,iI i1,iI i2,.agg l3,.U ai r4]=(bif aW i2 i1 then bI i2 r0<|bO (G Ou [.U ak (gR (ba r0 i2) 1),iI 0,iI (bo (ln (gR l3 0)- 1))]) λ_ o2=>bif !(gB o2 0)then af [.bool false,dz l3,.U ai r4,.U ai bF]else bO (HI G N N [iI i2,.U ak (gR (ba r0 i2) 1),iI (ln (gR (ba r0 i2) 1)),iI 0,.U ai r4]) λq3 o3=>bif cH q3 then af [.bool (gB o3 0),dz l3,.U ai (gR o3 1),.U ai (gR o3 2)]else DH G N n [.U dN r0,iI i1,cm i2,dz l3,.U ai (gR o3 0)]else br [dz l3,.U ai r4]:aF):=by kernel_rfl
def alX:Oe G N [.agg l0,.U ai r1]=(bO (DH G N N [.U dN (gR l0 3),iI (ln (gR l0 3)),iI 0,dz l0,.U ai r1]) λq4 o4=>bif cH q4 then br [.bool (gB o4 0),dz (gC o4 1),.U ai (gR o4 2),.U ai (gR o4 3)]else af [dz (gC o4 0),.U ai (gR o4 1)]:aF):=by kernel_rfl
def akA:HH G N (n+1) [iI i0,.U pD r1,iI i2,iI i3,.agg l4,.U ai r5]=(bif aW i3 i2 then bI i3 r1<|bO (akq G N N [iI i0,iI i3,iI 2,iI 0,dz l4,.U ai r5,.U ay (([[.U ak (gR (ba r1 i3) 0)],[.U ak (gR (ba r1 i3) 1)]]:aH))]) λvC cx=>bif cH vC then af [.bool (gB cx 0),dz (gC cx 1),.U ai (gR cx 2),.U ai (gR cx 4)]else HH G N n [iI i0,.U pD r1,iI i2,cm i3,dz (gC cx 0),.U ai (gR cx 1)]else br [dz l4,.U ai r5]:aF):=by kernel_rfl
def W1:DC G N (n+1) [.U cT r0,iI i1,iI i2,.agg l3,.U ai r4]=(bif aW i2 i1 then bI i2 r0<|bO (HH G N N [iI i2,.U pD (gR (ba r0 i2) 1),iI (ln (gR (ba r0 i2) 1)),iI 0,dz l3,.U ai r4]) λzP cr=>bif cH zP then af [.bool (gB cr 0),dz (gC cr 1),.U ai (gR cr 2),.U ai (gR cr 3)]else DC G N n [.U cT r0,iI i1,cm i2,dz (gC cr 0),.U ai (gR cr 1)]else br [dz l3,.U ai r4]:aF):=by kernel_rfl
def alW:Od G N [.agg l0,.U ai r1]=(bO (DC G N N [.U cT (gR l0 2),iI (ln (gR l0 2)),iI 0,dz l0,.U ai r1]) λT9 dV=>bif cH T9 then br [.bool (gB dV 0),dz (gC dV 1),.U ai (gR dV 2),.U ai (gR dV 3)]else af [dz (gC dV 0),.U ai (gR dV 1)]:aF):=by kernel_rfl
def akz:HG G N (n+1) [.U ak r0,iI i1,iI i2,.U ai r3]=(bif aW i2 i1 then bI i2 r0<|bI (gI (ba r0 i2) 0) r3<|aB (gH ((gI (ba r0 i2) 0).toNat) (r3.length))<|bif !(((gI (ba r3 (gI (ba r0 i2) 0)) 0)==(-1))&&(((gI (ba r3 (gI (ba r0 i2) 0)) 1)==(-1))&&(((gI (ba r3 (gI (ba r0 i2) 0)) 2)==(-1))&&true)))then af [.bool false,.U ai r3,.U ai bF]else HG G N n [.U ak r0,iI i1,cm i2,.U ai r3]else br [.U ai r3]:aF):=by kernel_rfl
def W0:DB G N (n+1) [.U bE r0,iI i1,iI i2,.U ai r3]=(bif aW i2 i1 then bI i2 r0<|bO (HG G N N [.U ak (gR (ba r0 i2) 4),iI (ln (gR (ba r0 i2) 4)),iI 0,.U ai r3]) λGj eX=>bif cH Gj then af [.bool (gB eX 0),.U ai (gR eX 1),.U ai (gR eX 2)]else DB G N n [.U bE r0,iI i1,cm i2,.U ai (gR eX 0)]else br [.U ai r3]:aF):=by kernel_rfl
def ani:bC CX EE G N OM [.agg l0]=(bO (G Nl [.U ai (([[iI (-1),iI (-1),iI (-1)]]:aH)),iI (ln (gR l0 0))]) λ_ o1=>bO (Oe G N [dz l0,.U ai (gR o1 0)]) λq5 o5=>bif cH q5 then bO (Od G N [dz (gC o5 0),.U ai (gR o5 1)]) λzO gP=>bif cH zO then bO (DB G N N [.U bE (gR (gC gP 0) 0),iI (ln (gR (gC gP 0) 0)),iI 0,.U ai (gR gP 1)]) λsr dG=>bif cH sr then af [.bool (gB dG 0),.U ai (gR dG 2)]else af [.bool true,.U ai (gR dG 0)]else af [.bool (gB gP 0),.U ai (gR gP 3)]else af [.bool (gB o5 0),.U ai (gR o5 3)]:aF):=by kernel_rfl
def NR:DA G N (n+1) [iI i0,.U ax r1,iI i2,iI i3,.agg l4]=(bif aW i3 i2 then bI i3 r1<|bO (G DQ [bN (ba r1 i3),cm i0,.agg [iI (gI l4 0)]]) λ_ o1=>bif !(gB o1 0)then af [.bool false,.agg [iI (gI (gC o1 1) 0)]]else DA G N n [iI i0,.U ax r1,iI i2,cm i3,.agg [iI (gI (gC o1 1) 0)]]else br [.agg [iI (gI l4 0)]]:aF):=by kernel_rfl
def Oy:bC CX EE G N DQ [.agg l0,iI i1,.agg l2]=(bif aW (bo (gI l2 0- 1)) 0 then af [.bool false,.agg [iI (bo (gI l2 0- 1))]]else bif cj 64 i1 then af [.bool false,.agg [iI (bo (gI l2 0- 1))]]else bO (DA G N N [iI i1,.U ax (gR l0 8),iI (ln (gR l0 8)),iI 0,.agg [iI (bo (gI l2 0- 1))]]) λq2 o2=>bif cH q2 then af [.bool (gB o2 0),.agg [iI (gI (gC o2 1) 0)]]else af [.bool true,.agg [iI (gI (gC o2 0) 0)]]:aF):=by kernel_rfl
def amq:bC CX EE G N Xl [.agg l0,.agg l1,.U ax r2]=(af [bN l0,.agg (sT (ab uu 0 l1) [(2,iI (gI l0 2)),(8,.aa 2)]),.U ax r2]:aF):=by kernel_rfl
end
noncomputable section
variable {G:Nat->aD->Option UO} {N n:Nat} {i0 i1 i2 i3:Int} {l0 l1 l2 l3 l4 l5 l6:aD} {r0 r1 r2 r4 r5 r7 r8:aH}
def Oa:bC CX EE G N HU [.agg l0,.agg l1,.U ax r2]=(af [bN l0,.agg (sT (ab uu 0 l1) [(3,iI (gI l0 3)),(8,.aa 2)]),.U ax r2]:aF):=by kernel_rfl
def Xe:bC CX EE G N Ol [.agg l0,.agg l1,.U ax r2]=(af [bN l0,.agg (sT (ab uu 0 l1) [(4,iI (gI l0 4)),(8,.aa 2)]),.U ax r2]:aF):=by kernel_rfl
def amp:bC CX EE G N Xk [.agg l0,.agg l1,.U ax r2]=(af [bN l0,.agg (sT (ab uu 0 l1) [(5,iI (gI l0 5)),(8,.aa 2)]),.U ax r2]:aF):=by kernel_rfl
def Xd:bC CX EE G N Oj [.agg l0,.agg l1,.U ax r2]=(af [bN l0,.agg (sT (ab uu 0 l1) [(1,.int .u8 (gI l0 1)),(8,.aa 2)]),.U ax r2]:aF):=by kernel_rfl
def amo:bC CX EE G N Xj [.agg l0,.agg l1,.U ax r2]=(af [bN l0,.agg (sT (ab uu 0 l1) [(6,iI (gI l0 6)),(7,iI (gI l0 7)),(8,.aa 2)]),.U ax r2]:aF):=by kernel_rfl
def akZ:NU G N [.int .u8 i0]=(bif i0==1 then dr else bif i0==11 then dr else af [.bool (i0==14)]:aF):=by kernel_rfl
def ajT:Nv G N [.int .u8 i0]=(bif i0==6 then dr else bif i0==7 then dr else af [.bool (i0==10)]:aF):=by kernel_rfl
def anj:bC CX EE G N ON [.agg l0]=(bO (NU G N [.int .u8 (gI l0 0)]) λ_ o1=>bif gB o1 0 then bO (G Xl [bN l0,.agg [.int .u8 (gI l0 0),.int .u8 0,iI 0,iI 0,iI 0,iI 0,iI 0,iI 0,.aa 2],.U ax bF]) λ_ o2=>af [.agg (sT (ab js 0 (gC o2 1)) [(8,.U ax (gR o2 2))]),iI 0]else bif gI l0 0==2 then bO (G HU [bN l0,.agg [.int .u8 (gI l0 0),.int .u8 0,iI 0,iI 0,iI 0,iI 0,iI 0,iI 0,.aa 2],.U ax bF]) λ_ o3=>bO (G Ol [bN (gC o3 0),.agg (sT (ab uu 0 (gC o3 1)) [(8,.aa 2)]),.U ax (gR o3 2)]) λ_ o4=>af [.agg (sT (ab js 0 (gC o4 1)) [(8,.U ax (gR o4 2))]),iI 0]else bif gI l0 0==3 then bO (G HU [bN l0,.agg [.int .u8 (gI l0 0),.int .u8 0,iI 0,iI 0,iI 0,iI 0,iI 0,iI 0,.aa 2],.U ax bF]) λ_ o5=>bO (G Ol [bN (gC o5 0),.agg (sT (ab uu 0 (gC o5 1)) [(8,.aa 2)]),.U ax (gR o5 2)]) λ_ o6=>bO (G Xk [bN (gC o6 0),.agg (sT (ab uu 0 (gC o6 1)) [(8,.aa 2)]),.U ax (gR o6 2)]) λ_ o7=>af [.agg (sT (ab js 0 (gC o7 1)) [(8,.U ax (gR o7 2))]),iI 1]else bif gI l0 0==4 then bO (G Oj [bN l0,.agg [.int .u8 (gI l0 0),.int .u8 0,iI 0,iI 0,iI 0,iI 0,iI 0,iI 0,.aa 2],.U ax bF]) λ_ o8=>af [.agg (sT (ab js 0 (gC o8 1)) [(8,.U ax (gR o8 2))]),iI 1]else bif gI l0 0==5 then bO (G Oj [bN l0,.agg [.int .u8 (gI l0 0),.int .u8 0,iI 0,iI 0,iI 0,iI 0,iI 0,iI 0,.aa 2],.U ax bF]) λ_ o9=>af [.agg (sT (ab js 0 (gC o9 1)) [(8,.U ax (gR o9 2))]),iI 2]else bO (Nv G N [.int .u8 (gI l0 0)]) λ_ cx=>bif gB cx 0 then af [.agg [.int .u8 (gI l0 0),.int .u8 0,iI 0,iI 0,iI 0,iI 0,iI 0,iI 0,.U ax ([])],iI 2]else bif gI l0 0==8 then af [.agg [.int .u8 (gI l0 0),.int .u8 0,iI 0,iI 0,iI 0,iI 0,iI 0,iI 0,.U ax ([])],iI 3]else bif gI l0 0==9 then bO (G Xj [bN l0,.agg [.int .u8 (gI l0 0),.int .u8 0,iI 0,iI 0,iI 0,iI 0,iI 0,iI 0,.aa 2],.U ax bF]) λ_ cr=>af [.agg (sT (ab js 0 (gC cr 1)) [(8,.U ax (gR cr 2))]),iI 1]else bif gI l0 0==12 then bO (G HU [bN l0,.agg [.int .u8 (gI l0 0),.int .u8 0,iI 0,iI 0,iI 0,iI 0,iI 0,iI 0,.aa 2],.U ax bF]) λ_ dV=>af [.agg (sT (ab js 0 (gC dV 1)) [(8,.U ax (gR dV 2))]),iI 0]else bif gI l0 0==13 then af [.agg [.int .u8 (gI l0 0),.int .u8 0,iI 0,iI 0,iI 0,iI 0,iI 0,iI 0,.U ax ([])],iI 1]else af [.agg [.int .u8 (gI l0 0),.int .u8 0,iI 0,iI 0,iI 0,iI 0,iI 0,iI 0,.U ax ([])],iI (-1)]:aF):=by kernel_rfl
def akJ:bC CX EE G N Dv [.agg l0,iI i1,iI i2]=(bif cj 0 i1 then bif aW i1 (ln (gR l0 0))then bif cj 0 i2 then bI i1 (gR l0 0)<|af [.bool (aW i2 (gI (ba (gR l0 0) i1) 0))]else cQ else cQ else cQ:aF):=by kernel_rfl
def anP:bC CX EE G N H8 []=(af [.agg zz4]:aF):=by kernel_rfl
def alY:Of G N [.agg l0,.agg l1]=(bif !(gB l0 0)then af [.bool (!(gB l1 0)),fA l0,fA l1]else af [.bool false,fA l0,fA l1]:aF):=by kernel_rfl
def alu:N4 G N [.int .u8 i0]=(bif cj 1 i0 then af [.bool (cj i0 6)]else cQ:aF):=by kernel_rfl
def amX:bC CX EE G N Ox [.int .u8 i0,.agg l1,.agg l2]=(bO (Of G N [fA l1,fA l2]) λ_ o1=>bO (N4 G N [.int .u8 i0]) λ_ o2=>bif gB o2 0 then bO (G H8 []) λ_ o3=>af [fA (gC o3 0),.bool (gB o1 0)]else bO (alG G N [.int .u8 i0]) λ_ o4=>bif gB o4 0 then none else bif cj 9 i0 then bif cj i0 12 then none else bif cj 13 i0 then bif cj i0 15 then none else af [.agg xA,.bool false]else af [.agg xA,.bool false]else bif cj 13 i0 then bif cj i0 15 then none else af [.agg xA,.bool false]else af [.agg xA,.bool false]:aF):=by kernel_rfl
def ajR:Hy G N [iI i0,.agg l1,.agg l2,.agg l3,.U ak r4]=(bif i0 != ln (gR l1 8)then br [.bool false,bN l1,.agg [.bool false,.bool false,.aa 3,iI 0,iI 0],bN l3,.U ak bF]else bif gI l3 2 != gI l1 2 then br [.bool false,bN l1,.agg [.bool false,.bool false,.aa 3,iI 0,iI 0],bN l3,.U ak bF]else bif gI l3 1 != gI l1 1 then br [.bool false,bN l1,.agg [.bool false,.bool false,.aa 3,iI 0,iI 0],bN l3,.U ak bF]else bif gI l3 3 != gI l1 3 then br [.bool false,bN l1,.agg [.bool false,.bool false,.aa 3,iI 0,iI 0],bN l3,.U ak bF]else bif gI l3 4 != gI l1 4 then br [.bool false,bN l1,.agg [.bool false,.bool false,.aa 3,iI 0,iI 0],bN l3,.U ak bF]else bif gI l3 5 != gI l1 5 then br [.bool false,bN l1,.agg [.bool false,.bool false,.aa 3,iI 0,iI 0],bN l3,.U ak bF]else bif gI l3 6 != gI l1 6 then br [.bool false,bN l1,.agg [.bool false,.bool false,.aa 3,iI 0,iI 0],bN l3,.U ak bF]else bif gI l3 7 != gI l1 7 then br [.bool false,bN l1,.agg [.bool false,.bool false,.aa 3,iI 0,iI 0],bN l3,.U ak bF]else af [bN l1,.agg (sT (ab wo 0 l2) [(2,.aa 3)]),bN l3,.U ak r4]:aF):=by kernel_rfl
def aiv:MY G N [.U gi r0,iI i1,.U gi r2,.agg l3,.U gi r4]=(bif gI l3 0==10 then bif i1==1 then none else af [.U gi r2,bN l3,.U gi r4]else af [.U gi r2,bN l3,.U gi r4]:aF):=by kernel_rfl
def Ws:Hu G N (n+1) [.U gi r0,.U ax r1,iI i2,iI i3,.agg l4,.agg l5,.agg l6,.U gi r7,.U ak r8]=(bif aW i3 i2 then bI i3 r1<|bO (MY G N [.U gi r0,iI i3,.U gi r0,bN l5,.U gi r7]) λ_ o3=>bO (G Dw [.agg [.U bE (gR l4 0),iI (gI l4 1)],bN (ba r1 i3),.U gi (gR o3 0)]) λ_ o4=>bif !(gB o4 1)then af [.bool false,.agg [.U bE (gR l4 0),iI (gI l4 1)],bN (gC o3 1),.agg [.bool false,.bool false,.aa 3,iI 0,iI 0],.U ak bF]else aB (jm (((gR o3 2).length +1)*48) 140737488355328)<|Hu G N n [.U gi r0,.U ax r1,iI i2,cm i3,.agg [.U bE (gR l4 0),iI (gI l4 1)],bN (gC o3 1),.agg (sT (ab wo 0 l6) [(2,.aa 4)]),.U gi ((gR o3 2)++(([ab yk 0 (gC o4 0)]:aH))),.U ak r8]else br [.agg [.U bE (gR l4 0),iI (gI l4 1)],bN l5,.agg (sT (ab wo 0 l6) [(2,.aa 4)]),.U gi r7,.U ak r8]:aF):=by kernel_rfl
def ajQ:Ns G N [.U gi r0,.agg l1,.agg l2,.agg l3,.U gi r4,.U ak r5]=(bO (Hu G N N [.U gi r0,.U ax (gR l2 8),iI (ln (gR l2 8)),iI 0,.agg [.U bE (gR l1 0),iI (gI l1 1)],bN l2,.agg (sT (ab wo 0 l3) [(2,.aa 4)]),.U gi r4,.U ak r5]) λq5 o5=>bif cH q5 then br [.bool (gB o5 0),.agg [.U bE (gR (gC o5 1) 0),iI (gI (gC o5 1) 1)],bN (gC o5 2),.agg (sT (ab wo 0 (gC o5 3)) [(2,.aa 3)]),.U ak (gR o5 4)]else af [.agg [.U bE (gR (gC o5 0) 0),iI (gI (gC o5 0) 1)],bN (gC o5 1),.agg (sT (ab wo 0 (gC o5 2)) [(2,.aa 4)]),.U gi (gR o5 3),.U ak (gR o5 4)]:aF):=by kernel_rfl
def ahV:V6 G N [.int .u8 i0]=(bif i0==6 then dr else af [.bool (i0==7)]:aF):=by kernel_rfl
def HC:bC CX EE G N Dw [.agg l0,.agg l1,.U gi r2]=(bO (G ON [bN l1]) λ_ o1=>bO (Hy G N [iI (gI o1 1),bN l1,.agg [.bool false,.bool false,.aa 3,iI 0,iI 0],bN (gC o1 0),.U ak bF]) λq2 o2=>bif cH q2 then bO (Ns G N [.U gi r2,.agg [.U bE (gR l0 0),iI (gI l0 1)],bN (gC o2 0),.agg (sT (ab wo 0 (gC o2 1)) [(2,.aa 4)]),.U gi bF,.U ak (gR o2 3)]) λq6 o6=>bif cH q6 then bif gI (gC o6 1) 0==1 then bif cj (-2147483648) (gI (gC o6 1) 2)then af [.agg [.bool false,.bool (gI (gC o6 1) 2==0),.U ak bF,iI (gI (gC o6 1) 2),iI (gI (gC o6 1) 2)],.bool (cj (gI (gC o6 1) 2) 2147483647)]else af [.agg [.bool false,.bool (gI (gC o6 1) 2==0),.U ak bF,iI (gI (gC o6 1) 2),iI (gI (gC o6 1) 2)],.bool false]else bif gI (gC o6 1) 0==2 then bO (G Dv [.agg [.U bE (gR (gC o6 0) 0),iI (gI (gC o6 0) 1)],iI (gI (gC o6 1) 3),iI (gI (gC o6 1) 4)]) λ_ o7=>bif !(gB o7 0)then af [.agg xA,.bool false]else bI (gI (gC o6 1) 3) (gR (gC o6 0) 0)<|af [.agg [.bool (gB (ba (gR (gC o6 0) 0) (gI (gC o6 1) 3)) 3),.bool false,.U ak (gR (ba (gR (gC o6 0) 0) (gI (gC o6 1) 3)) 4),iI (gI (ba (gR (gC o6 0) 0) (gI (gC o6 1) 3)) 1),iI (gI (ba (gR (gC o6 0) 0) (gI (gC o6 1) 3)) 2)],.bool true]else bif gI (gC o6 1) 0==3 then none else bif gI (gC o6 1) 0==4 then bif gI (gC o6 1) 1==18 then none else bO (G H8 []) λ_ o8=>bif gI (gC o6 1) 1==16 then aB (aW 0 (ln (gR o6 3)))<|aB (gH 0 ((gR o6 3).length))<|af [fA (gC o8 0),.bool (!(gB (gA (gR o6 3) 0) 0))]else bif gI (gC o6 1) 1==17 then aB (aW 0 (ln (gR o6 3)))<|aB (gH 0 ((gR o6 3).length))<|af [fA (gC o8 0),.bool (!(gB (gA (gR o6 3) 0) 0))]else af [fA (gC o8 0),.bool false]else bif gI (gC o6 1) 0==5 then aB (aW 0 (ln (gR o6 3)))<|aB (gH 0 ((gR o6 3).length))<|aB (aW 1 (ln (gR o6 3)))<|aB (gH 1 ((gR o6 3).length))<|bO (G Ox [.int .u8 (gI (gC o6 1) 1),fA (gA (gR o6 3) 0),fA (gA (gR o6 3) 1)]) λ_ o9=>af [fA (gC o9 0),.bool (gB o9 1)]else bO (V6 G N [.int .u8 (gI (gC o6 1) 0)]) λ_ cx=>bif gB cx 0 then none else bif gI (gC o6 1) 0==8 then aB (aW 1 (ln (gR o6 3)))<|aB (gH 1 ((gR o6 3).length))<|aB (aW 2 (ln (gR o6 3)))<|aB (gH 2 ((gR o6 3).length))<|none else bif gI (gC o6 1) 0==9 then bif cj (-2147483648) (gI (gC o6 1) 6)then bif cj (gI (gC o6 1) 7) 2147483647 then bif cj (gI (gC o6 1) 6) (gI (gC o6 1) 7)then aB (aW 0 (ln (gR o6 3)))<|aB (gH 0 ((gR o6 3).length))<|af [.agg [.bool false,.bool false,.U ak bF,iI (gI (gC o6 1) 6),iI (gI (gC o6 1) 7)],.bool (!(gB (gA (gR o6 3) 0) 0))]else af [.agg [.bool false,.bool false,.U ak bF,iI (gI (gC o6 1) 6),iI (gI (gC o6 1) 7)],.bool false]else af [.agg [.bool false,.bool false,.U ak bF,iI (gI (gC o6 1) 6),iI (gI (gC o6 1) 7)],.bool false]else af [.agg [.bool false,.bool false,.U ak bF,iI (gI (gC o6 1) 6),iI (gI (gC o6 1) 7)],.bool false]else bif gI (gC o6 1) 0==10 then aB (aW 1 (ln (gR o6 3)))<|aB (gH 1 ((gR o6 3).length))<|aB (aW 1 (ln ((gR o6 3).set 1 (setAt (gA (gR o6 3) 1) 1 [.bool false]))))<|aB (gH 1 (((gR o6 3).set 1 (setAt (gA (gR o6 3) 1) 1 [.bool false])).length))<|af [fA (gA ((gR o6 3).set 1 (setAt (gA (gR o6 3) 1) 1 [.bool false])) 1),.bool true]else bif gI (gC o6 1) 0==11 then bif aW (gI (gC o6 1) 2) 0 then af [.agg xA,.bool false]else bif cj (ln r2) (gI (gC o6 1) 2)then af [.agg xA,.bool false]else bI (bo (bo (ln r2- 1)- gI (gC o6 1) 2)) r2<|af [.agg (sT (ab yk 0 (ba r2 (bo (bo (ln r2- 1)- gI (gC o6 1) 2)))) [(1,.bool false)]),.bool true]else bif gI (gC o6 1) 0==12 then bO (G Dv [.agg [.U bE (gR (gC o6 0) 0),iI (gI (gC o6 0) 1)],iI (gI (gC o6 1) 3),iI 0]) λ_ cr=>bif gB cr 0 then bI (gI (gC o6 1) 3) (gR (gC o6 0) 0)<|bif !(gB (ba (gR (gC o6 0) 0) (gI (gC o6 1) 3)) 3)then bI (gI (gC o6 1) 3) (gR (gC o6 0) 0)<|af [.agg [.bool true,.bool false,.U ak (([[iI (gI (gC o6 1) 3)]]:aH)),iI 0,iI 0],.bool (gI (ba (gR (gC o6 0) 0) (gI (gC o6 1) 3)) 0==1)]else af [.agg [.bool true,.bool false,.U ak (([[iI (gI (gC o6 1) 3)]]:aH)),iI 0,iI 0],.bool false]else af [.agg [.bool true,.bool false,.U ak (([[iI (gI (gC o6 1) 3)]]:aH)),iI 0,iI 0],.bool false]else bif gI (gC o6 1) 0==13 then aB (aW 0 (ln (gR o6 3)))<|aB (gH 0 ((gR o6 3).length))<|none else bif cj 0 (gI (gC o6 1) 2)then af [.agg zz5,.bool (aW (gI (gC o6 1) 2) (gI (gC o6 0) 1))]else af [.agg zz5,.bool false]else af [.agg (sT (ab yk 0 (gC o6 3)) [(2,.U ak (gR o6 4))]),.bool (gB o6 0)]else af [.agg (sT (ab yk 0 (gC o2 2)) [(2,.U ak (gR o2 4))]),.bool (gB o2 0)]:aF):=by kernel_rfl
def al5:bC CX EE G N HM [.agg l0,.agg l1]=(bO (G DQ [bN l1,iI 0,.agg [iI 256]]) λ_ o1=>bif !(gB o1 0)then af [.agg xA,.bool false]else bO (G Dw [.agg [.U bE (gR l0 0),iI (gI l0 1)],bN l1,.U gi ([])]) λ_ o2=>af [fA (gC o2 0),.bool (gB o2 1)]:aF):=by kernel_rfl
def ak7:bC CX EE G N HK [.agg l0]=(bif !(gB l0 0)then bif cj 0 (gI l0 3)then af [.bool (cj (gI l0 4) 1)]else cQ else cQ:aF):=by kernel_rfl
def agR:Mq G N (n+1) [.U ax r0,.U ax r1,iI i2,iI i3]=(bif aW i3 i2 then bI i3 r1<|bI i3 r0<|none else af []:aF):=by kernel_rfl
def ag2:bC CX EE G N G8 [.U ax r0,.U ax r1]=(bif ln r0 != ln r1 then cQ else bO (Mq G N N [.U ax r1,.U ax r0,iI (ln r0),iI 0]) λ_ o1=>dr:aF):=by kernel_rfl
def ajc:Hr G N (n+1) [.U ak r0,.U ak r1,iI i2,iI i3]=(bif aW i3 i2 then bI i3 r0<|bI i3 r1<|bif gI (ba r0 i3) 0 != gI (ba r1 i3) 0 then cQ else Hr G N n [.U ak r0,.U ak r1,iI i2,cm i3]else br []:aF):=by kernel_rfl
def akC:bC CX EE G N NJ [.U ak r0,.U ak r1]=(bif ln r0 != ln r1 then cQ else bO (Hr G N N [.U ak r0,.U ak r1,iI (ln r0),iI 0]) λq1 o1=>bif cH q1 then af [.bool (gB o1 0)]else dr:aF):=by kernel_rfl
def agJ:Mn G N (n+1) [.U aL r0,.U aL r1,iI i2,iI i3]=(bif aW i3 i2 then bI i3 r1<|bI i3 r0<|none else af []:aF):=by kernel_rfl
def agY:bC CX EE G N G7 [.U aL r0,.U aL r1]=(bif ln r0 != ln r1 then cQ else bO (Mn G N N [.U aL r1,.U aL r0,iI (ln r0),iI 0]) λ_ o1=>dr:aF):=by kernel_rfl
def agQ:G6 G N (n+1) [.U aZ r0,.U aZ r1,iI i2,iI i3]=(bif aW i3 i2 then bI i3 r1<|bI i3 r0<|bO (G HN [bf (ba r1 i3),bf (ba r0 i3)]) λ_ o1=>bif !(gB o1 0)then cQ else G6 G N n [.U aZ r0,.U aZ r1,iI i2,cm i3]else br []:aF):=by kernel_rfl
def ag1:bC CX EE G N Mu [.U aZ r0,.U aZ r1]=(bif ln r0 != ln r1 then cQ else bO (G6 G N N [.U aZ r1,.U aZ r0,iI (ln r0),iI 0]) λq2 o2=>bif cH q2 then af [.bool (gB o2 0)]else dr:aF):=by kernel_rfl
def agD:Mj G N (n+1) [.U bD r0,.U bD r1,iI i2,iI i3]=(bif aW i3 i2 then bI i3 r1<|bI i3 r0<|none else af []:aF):=by kernel_rfl
def agV:bC CX EE G N Mr [.U bD r0,.U bD r1]=(bif ln r0 != ln r1 then cQ else bO (Mj G N N [.U bD r1,.U bD r0,iI (ln r0),iI 0]) λ_ o1=>dr:aF):=by kernel_rfl
def agp:Md G N (n+1) [.U bK r0,.U bK r1,iI i2,iI i3]=(bif aW i3 i2 then bI i3 r1<|bI i3 r0<|none else af []:aF):=by kernel_rfl
def agE:bC CX EE G N Mi [.U bK r0,.U bK r1]=(bif ln r0 != ln r1 then cQ else bO (Md G N N [.U bK r1,.U bK r0,iI (ln r0),iI 0]) λ_ o1=>dr:aF):=by kernel_rfl
def agK:Mo G N (n+1) [.U bP r0,.U bP r1,iI i2,iI i3]=(bif aW i3 i2 then bI i3 r1<|bI i3 r0<|none else af []:aF):=by kernel_rfl
def agZ:bC CX EE G N Mt [.U bP r0,.U bP r1]=(bif ln r0 != ln r1 then cQ else bO (Mo G N N [.U bP r1,.U bP r0,iI (ln r0),iI 0]) λ_ o1=>dr:aF):=by kernel_rfl
def akB:NP G N [.agg l0,.agg l1]=(bif gI l0 0 != gI l1 0 then af [.bool true,bf l0,bf l1]else bif gI l0 1 != gI l1 1 then af [.bool true,bf l0,bf l1]else bif gI l0 2 != gI l1 2 then af [.bool true,bf l0,bf l1]else bif gI l0 3 != gI l1 3 then af [.bool true,bf l0,bf l1]else bif gI l0 4 != gI l1 4 then af [.bool true,bf l0,bf l1]else bif gI l0 5 != gI l1 5 then af [.bool true,bf l0,bf l1]else af [.bool (gI l0 11 != gI l1 11),bf l0,bf l1]:aF):=by kernel_rfl
def aki:NG G N [.agg l0,.agg l1]=(bif !((gB l0 6)==(gB l1 6))then af [.bool true,bf l0,bf l1]else bif !((gB l0 7)==(gB l1 7))then af [.bool true,bf l0,bf l1]else bif !((gB l0 8)==(gB l1 8))then af [.bool true,bf l0,bf l1]else bif !((gB l0 9)==(gB l1 9))then af [.bool true,bf l0,bf l1]else af [.bool (!((gB l0 10)==(gB l1 10))),bf l0,bf l1]:aF):=by kernel_rfl
def akh:NF G N [.agg l0,.agg l1]=(bO (G G8 [.U ax (gR l0 12),.U ax (gR l1 12)]) λ_ o3=>bif !(gB o3 0)then af [.bool true,bf l0,bf l1]else bO (G G8 [.U ax (gR l0 13),.U ax (gR l1 13)]) λ_ o4=>bif !(gB o4 0)then af [.bool true,bf l0,bf l1]else bO (G NJ [.U ak (gR l0 16),.U ak (gR l1 16)]) λ_ o5=>af [.bool (!(gB o5 0)),bf l0,bf l1]:aF):=by kernel_rfl
def ak0:NV G N [.agg l0,.agg l1]=(bO (NP G N [bf l0,bf l1]) λ_ o1=>bif gB o1 0 then br [.bool false,bf (gC o1 1),bf (gC o1 2)]else bO (NG G N [bf (gC o1 1),bf (gC o1 2)]) λ_ o2=>bif gB o2 0 then br [.bool false,bf (gC o2 1),bf (gC o2 2)]else bO (NF G N [bf (gC o2 1),bf (gC o2 2)]) λ_ o6=>bif gB o6 0 then br [.bool false,bf (gC o6 1),bf (gC o6 2)]else bO (G G7 [.U aL (gR (gC o6 1) 14),.U aL (gR (gC o6 2) 14)]) λ_ o7=>bif !(gB o7 0)then br [.bool false,bf (gC o6 1),bf (gC o6 2)]else bO (G G7 [.U aL (gR (gC o6 1) 15),.U aL (gR (gC o6 2) 15)]) λ_ o8=>bif !(gB o8 0)then br [.bool false,bf (gC o6 1),bf (gC o6 2)]else bO (G Mu [.U aZ (gR (gC o6 1) 17),.U aZ (gR (gC o6 2) 17)]) λ_ o9=>bif !(gB o9 0)then br [.bool false,bf (gC o6 1),bf (gC o6 2)]else af [bf (gC o6 1),bf (gC o6 2)]:aF):=by kernel_rfl
def al6:bC CX EE G N HN [.agg l0,.agg l1]=(bO (NV G N [bf l0,bf l1]) λvC cx=>bif cH vC then bO (G Mr [.U bD (gR (gC cx 0) 18),.U bD (gR (gC cx 1) 18)]) λ_ cr=>bif gB cr 0 then bO (G Mi [.U bK (gR (gC cx 0) 19),.U bK (gR (gC cx 1) 19)]) λ_ dV=>bif gB dV 0 then bO (G Mt [.U bP (gR (gC cx 0) 20),.U bP (gR (gC cx 1) 20)]) λ_ gP=>af [.bool (gB gP 0)]else cQ else cQ else af [.bool (gB cx 0)]:aF):=by kernel_rfl
def ajm:Ni G N [.int .u8 i0]=(bif i0==8 then dr else af [.bool (i0==10)]:aF):=by kernel_rfl
def aiu:MX G N [.int .u8 i0]=(bif i0==12 then dr else af [.bool (i0==13)]:aF):=by kernel_rfl
end
noncomputable section
variable {G:Nat->aD->Option UO} {N n:Nat} {i0 i1 i2:Int} {l3 l4 l5:aD} {r5 r6 r7 r8 r9 g9 g8 g7 gZ iO zN zM zL zK zJ zI zH zG zF:aH}
def alq:N1 G N [iI i0,iI i1,iI i2,.agg l3,.agg l4,.U 0 r5,.U ax r6,.U ax r7,.U aL r8,.U aL r9,.U ak g9,.U aZ g8,.U bD g7,.U bK gZ,.U bP iO]=(bif gI l3 0==1 then af [iI i0,iI i1,iI i2,bf l3,.agg (sT (ab jd 0 l4) [(12,.aa 3),(13,.aa 4),(14,.aa 5),(15,.aa 6),(16,.aa 7),(17,.aa 8),(18,.aa 9),(19,.aa 10),(20,.aa 11)]),.U 0 (au (aq r5)),.U ax r6,.U ax r7,.U aL r8,.U aL r9,.U ak g9,.U aZ g8,.U bD g7,.U bK gZ,.U bP iO]else bif gI l3 0==2 then af [iI 1,iI 1,iI i2,bf l3,.agg (sT (ab jd 0 l4) [(12,.aa 3),(13,.aa 4),(14,.aa 5),(15,.aa 6),(16,.aa 7),(17,.aa 8),(18,.aa 9),(19,.aa 10),(20,.aa 11)]),.U 0 (au (aq r5)),.U ax r6,.U ax r7,.U aL r8,.U aL r9,.U ak g9,.U aZ g8,.U bD g7,.U bK gZ,.U bP iO]else bif gI l3 0==3 then af [iI i0,iI i1,iI (ln (gR l3 17)),bf l3,.agg (sT (ab jd 0 l4) [(12,.aa 3),(13,.aa 4),(14,.aa 5),(15,.aa 6),(16,.aa 7),(17,.aa 8),(18,.aa 9),(19,.aa 10),(20,.aa 11)]),.U 0 (au (aq r5)),.U ax r6,.U ax r7,.U aL r8,.U aL r9,.U ak g9,.U aZ g8,.U bD g7,.U bK gZ,.U bP iO]else bif gI l3 0==4 then af [iI 1,iI i1,iI 2,bf l3,.agg (sT (ab jd 0 l4) [(12,.aa 3),(13,.aa 4),(14,.aa 5),(15,.aa 6),(16,.aa 7),(17,.aa 8),(18,.aa 9),(19,.aa 10),(20,.aa 11)]),.U 0 (au (aq r5)),.U ax r6,.U ax r7,.U aL r8,.U aL r9,.U ak g9,.U aZ g8,.U bD g7,.U bK gZ,.U bP iO]else bif gI l3 0==5 then af [iI 1,iI i1,iI 1,bf l3,.agg (sT (ab jd 0 l4) [(12,.aa 3),(13,.aa 4),(14,.aa 5),(15,.aa 6),(16,.aa 7),(17,.aa 8),(18,.aa 9),(19,.aa 10),(20,.aa 11)]),.U 0 (au (aq r5)),.U ax r6,.U ax r7,.U aL r8,.U aL r9,.U ak g9,.U aZ g8,.U bD g7,.U bK gZ,.U bP iO]else bif gI l3 0==6 then af [iI 2,iI i1,iI 1,bf l3,.agg [.int .u8 (gI l4 0),iI (gI l4 1),iI (gI l3 2),iI (gI l4 3),iI (gI l4 4),iI (gI l4 5),.bool (gB l4 6),.bool (gB l3 7),.bool (gB l4 8),.bool (gB l4 9),.bool (gB l4 10),.int .u8 (gI l4 11),.aa 3,.aa 4,.aa 5,.aa 6,.aa 7,.aa 8,.aa 9,.aa 10,.aa 11],.U 0 (au (aq r5)),.U ax r6,.U ax r7,.U aL r8,.U aL r9,.U ak g9,.U aZ g8,.U bD g7,.U bK gZ,.U bP iO]else bif gI l3 0==7 then af [iI i0,iI i1,iI 1,bf l3,.agg (sT (ab jd 0 l4) [(1,iI (gI l3 1)),(12,.aa 3),(13,.aa 4),(14,.aa 5),(15,.aa 6),(16,.aa 7),(17,.aa 8),(18,.aa 9),(19,.aa 10),(20,.aa 11)]),.U 0 (au (aq r5)),.U ax r6,.U ax r7,.U aL r8,.U aL r9,.U ak g9,.U aZ g8,.U bD g7,.U bK gZ,.U bP iO]else bO (Ni G N [.int .u8 (gI l3 0)]) λ_ o1=>bif gB o1 0 then af [iI i0,iI i1,iI i2,bf l3,.agg (sT (ab jd 0 l4) [(1,iI (gI l3 1)),(12,.aa 3),(13,.aa 4),(14,.aa 5),(15,.aa 6),(16,.aa 7),(17,.aa 8),(18,.aa 9),(19,.aa 10),(20,.aa 11)]),.U 0 (au (aq r5)),.U ax r6,.U ax r7,.U aL r8,.U aL r9,.U ak g9,.U aZ g8,.U bD g7,.U bK gZ,.U bP iO]else bif gI l3 0==9 then af [iI i0,iI i1,iI 1,bf l3,.agg (sT (ab jd 0 l4) [(12,.aa 3),(13,.aa 4),(14,.aa 5),(15,.aa 6),(16,.aa 7),(17,.aa 8),(18,.aa 9),(19,.aa 10),(20,.aa 11)]),.U 0 (au (ae.jK (ae.jK (aq r5) (.str ((⟨#[116,115]⟩:ByteArray))) (.bool true)) (.str ((⟨#[100,101,99,108,115]⟩:ByteArray))) (.bool true))),.U ax r6,.U ax r7,.U aL r8,.U aL r9,.U ak g9,.U aZ g8,.U bD g7,.U bK gZ,.U bP iO]else bif gI l3 0==11 then af [iI 1,iI i1,iI i2,bf l3,.agg (sT (ab jd 0 l4) [(12,.aa 3),(13,.aa 4),(14,.aa 5),(15,.aa 6),(16,.aa 7),(17,.aa 8),(18,.aa 9),(19,.aa 10),(20,.aa 11)]),.U 0 (au (aq r5)),.U ax r6,.U ax r7,.U aL r8,.U aL r9,.U ak g9,.U aZ g8,.U bD g7,.U bK gZ,.U bP iO]else bO (MX G N [.int .u8 (gI l3 0)]) λ_ o2=>bif gB o2 0 then af [iI i0,iI 1,iI i2,bf l3,.agg (sT (ab jd 0 l4) [(12,.aa 3),(13,.aa 4),(14,.aa 5),(15,.aa 6),(16,.aa 7),(17,.aa 8),(18,.aa 9),(19,.aa 10),(20,.aa 11)]),.U 0 (au (aq r5)),.U ax r6,.U ax r7,.U aL r8,.U aL r9,.U ak g9,.U aZ g8,.U bD g7,.U bK gZ,.U bP iO]else bif gI l3 0==14 then bif gB l3 6 then af [iI i0,iI 1,iI i2,bf l3,.agg [.int .u8 (gI l4 0),iI (gI l4 1),iI (gI l4 2),iI (gI l4 3),iI (gI l3 4),iI (gI l3 5),.bool (gB l3 6),.bool (gB l4 7),.bool (gB l4 8),.bool (gB l4 9),.bool (gB l4 10),.int .u8 (gI l4 11),.aa 3,.aa 4,.aa 5,.aa 6,.aa 7,.aa 8,.aa 9,.aa 10,.aa 11],.U 0 (au (aq r5)),.U ax r6,.U ax r7,.U aL r8,.U aL r9,.U ak g9,.U aZ g8,.U bD g7,.U bK gZ,.U bP iO]else af [iI i0,iI 1,iI i2,bf l3,.agg [.int .u8 (gI l4 0),iI (gI l4 1),iI (gI l4 2),iI (gI l4 3),iI (gI l4 4),iI (gI l3 5),.bool (gB l3 6),.bool (gB l4 7),.bool (gB l4 8),.bool (gB l4 9),.bool (gB l4 10),.int .u8 (gI l4 11),.aa 3,.aa 4,.aa 5,.aa 6,.aa 7,.aa 8,.aa 9,.aa 10,.aa 11],.U 0 (au (aq r5)),.U ax r6,.U ax r7,.U aL r8,.U aL r9,.U ak g9,.U aZ g8,.U bD g7,.U bK gZ,.U bP iO]else bif gI l3 0==15 then af [iI 1,iI i1,iI i2,bf l3,.agg (sT (ab jd 0 l4) [(8,.bool (gB l3 8)),(12,.aa 3),(13,.aa 4),(14,.aa 5),(15,.aa 6),(16,.aa 7),(17,.aa 8),(18,.aa 9),(19,.aa 10),(20,.aa 11)]),.U 0 (au (aq r5)),.U ax r6,.U ax r7,.U aL r8,.U aL r9,.U ak g9,.U aZ g8,.U bD g7,.U bK gZ,.U bP iO]else bif gI l3 0==16 then af [iI (ln (gR l3 12)),iI i1,iI 2,bf l3,.agg [.int .u8 (gI l4 0),iI (gI l4 1),iI (gI l4 2),iI (gI l3 3),iI (gI l4 4),iI (gI l3 5),.bool (gB l4 6),.bool (gB l4 7),.bool (gB l4 8),.bool (gB l4 9),.bool (gB l4 10),.int .u8 (gI l3 11),.aa 3,.aa 4,.aa 5,.aa 6,.aa 7,.aa 8,.aa 9,.aa 10,.aa 11],.U 0 (au (ae.jK (aq r5) (.str ((⟨#[99,97,108,108]⟩:ByteArray))) (.bool true))),.U ax r6,.U ax r7,.U aL r8,.U aL r9,.U ak g9,.U aZ g8,.U bD g7,.U bK gZ,.U bP iO]else bif gI l3 0==17 then af [iI (ln (gR l3 12)),iI i1,iI 3,bf l3,.agg [.int .u8 (gI l4 0),iI (gI l4 1),iI (gI l4 2),iI (gI l4 3),iI (gI l3 4),iI (gI l3 5),.bool (gB l4 6),.bool (gB l4 7),.bool (gB l4 8),.bool (gB l4 9),.bool (gB l4 10),.int .u8 (gI l3 11),.aa 3,.aa 4,.aa 5,.aa 6,.aa 7,.aa 8,.aa 9,.aa 10,.aa 11],.U 0 (au (aq r5)),.U ax r6,.U ax r7,.U aL r8,.U aL r9,.U ak g9,.U aZ g8,.U bD g7,.U bK gZ,.U bP iO]else bif gI l3 0==18 then af [iI i0,iI i1,iI 2,bf l3,.agg (sT (ab jd 0 l4) [(5,iI (gI l3 5)),(12,.aa 3),(13,.aa 4),(14,.aa 5),(15,.aa 6),(16,.aa 7),(17,.aa 8),(18,.aa 9),(19,.aa 10),(20,.aa 11)]),.U 0 (au (aq r5)),.U ax r6,.U ax r7,.U aL r8,.U aL r9,.U ak g9,.U aZ g8,.U bD g7,.U bK gZ,.U bP iO]else bif gI l3 0==19 then af [iI i0,iI i1,iI 1,bf l3,.agg (sT (ab jd 0 l4) [(9,.bool (gB l3 9)),(12,.aa 3),(13,.aa 4),(14,.aa 5),(15,.aa 6),(16,.aa 7),(17,.aa 8),(18,.aa 9),(19,.aa 10),(20,.aa 11)]),.U 0 (au (ae.jK (aq r5) (.str ((⟨#[97,108,116,115]⟩:ByteArray))) (.bool true))),.U ax r6,.U ax r7,.U aL r8,.U aL r9,.U ak g9,.U aZ g8,.U bD g7,.U bK gZ,.U bP iO]else bif gI l3 0==20 then af [iI i0,iI i1,iI 1,bf l3,.agg (sT (ab jd 0 l4) [(4,iI (gI l3 4)),(12,.aa 3),(13,.aa 4),(14,.aa 5),(15,.aa 6),(16,.aa 7),(17,.aa 8),(18,.aa 9),(19,.aa 10),(20,.aa 11)]),.U 0 (au (aq r5)),.U ax r6,.U ax r7,.U aL r8,.U aL r9,.U ak g9,.U aZ g8,.U bD g7,.U bK gZ,.U bP iO]else bif gI l3 0==21 then af [iI i0,iI i1,iI i2,bf l3,.agg [.int .u8 (gI l4 0),iI (gI l4 1),iI (gI l4 2),iI (gI l3 3),iI (gI l4 4),iI (gI l3 5),.bool (gB l4 6),.bool (gB l4 7),.bool (gB l4 8),.bool (gB l4 9),.bool (gB l3 10),.int .u8 (gI l4 11),.aa 3,.aa 4,.aa 5,.aa 6,.aa 7,.aa 8,.aa 9,.aa 10,.aa 11],.U 0 (au (aq r5)),.U ax r6,.U ax r7,.U aL r8,.U aL r9,.U ak g9,.U aZ g8,.U bD g7,.U bK gZ,.U bP iO]else bif gI l3 0==22 then af [iI i0,iI i1,iI i2,bf l3,.agg (sT (ab jd 0 l4) [(12,.aa 3),(13,.aa 4),(14,.aa 5),(15,.aa 6),(16,.aa 7),(17,.aa 8),(18,.aa 9),(19,.aa 10),(20,.aa 11)]),.U 0 (au (ae.jK (aq r5) (.str ((⟨#[116,115]⟩:ByteArray))) (.bool true))),.U ax r6,.U ax r7,.U aL r8,.U aL r9,.U ak g9,.U aZ g8,.U bD g7,.U bK gZ,.U bP iO]else br [.bool false,bf l3,.agg (sT (ab jd 0 l4) [(12,.aa 3),(13,.aa 4),(14,.aa 5),(15,.aa 6),(16,.aa 7),(17,.aa 8),(18,.aa 9),(19,.aa 10),(20,.aa 11)]),.U 0 (au (aq r5)),.U ax r6,.U ax r7,.U aL r8,.U aL r9,.U ak g9,.U aZ g8,.U bD g7,.U bK gZ,.U bP iO]:aF):=by kernel_rfl
def alp:N0 G N [iI i0,iI i1,iI i2,.agg l3,.agg l4,.agg l5,.U ax r6,.U ax r7,.U aL r8,.U aL r9,.U ak g9,.U aZ g8,.U bD g7,.U bK gZ,.U bP iO,.U ax zN,.U ax zM,.U aL zL,.U aL zK,.U ak zJ,.U aZ zI,.U bD zH,.U bK zG,.U bP zF]=(bO (G HN [.agg (sT (ab dw 0 l4) [(12,.U ax r6),(13,.U ax r7),(14,.U aL r8),(15,.U aL r9),(16,.U ak g9),(17,.U aZ g8),(18,.U bD g7),(19,.U bK gZ),(20,.U bP iO)]),.agg (sT (ab dw 0 l5) [(12,.U ax zN),(13,.U ax zM),(14,.U aL zL),(15,.U aL zK),(16,.U ak zJ),(17,.U aZ zI),(18,.U bD zH),(19,.U bK zG),(20,.U bP zF)])]) λ_ o4=>bif !(gB o4 0)then br [.bool false,bf l3,.agg (sT (ab jd 0 l4) [(12,.aa 3),(13,.aa 4),(14,.aa 5),(15,.aa 6),(16,.aa 7),(17,.aa 8),(18,.aa 9),(19,.aa 10),(20,.aa 11)]),.agg (sT (ab jd 0 l5) [(12,.aa 12),(13,.aa 13),(14,.aa 14),(15,.aa 15),(16,.aa 16),(17,.aa 17),(18,.aa 18),(19,.aa 19),(20,.aa 20)]),.U ax r6,.U ax r7,.U aL r8,.U aL r9,.U ak g9,.U aZ g8,.U bD g7,.U bK gZ,.U bP iO,.U ax zN,.U ax zM,.U aL zL,.U aL zK,.U ak zJ,.U aZ zI,.U bD zH,.U bK zG,.U bP zF]else bif ln (gR l3 12) != i0 then br [.bool false,bf l3,.agg (sT (ab jd 0 l4) [(12,.aa 3),(13,.aa 4),(14,.aa 5),(15,.aa 6),(16,.aa 7),(17,.aa 8),(18,.aa 9),(19,.aa 10),(20,.aa 11)]),.agg (sT (ab jd 0 l5) [(12,.aa 12),(13,.aa 13),(14,.aa 14),(15,.aa 15),(16,.aa 16),(17,.aa 17),(18,.aa 18),(19,.aa 19),(20,.aa 20)]),.U ax r6,.U ax r7,.U aL r8,.U aL r9,.U ak g9,.U aZ g8,.U bD g7,.U bK gZ,.U bP iO,.U ax zN,.U ax zM,.U aL zL,.U aL zK,.U ak zJ,.U aZ zI,.U bD zH,.U bK zG,.U bP zF]else bif ln (gR l3 14) != i1 then br [.bool false,bf l3,.agg (sT (ab jd 0 l4) [(12,.aa 3),(13,.aa 4),(14,.aa 5),(15,.aa 6),(16,.aa 7),(17,.aa 8),(18,.aa 9),(19,.aa 10),(20,.aa 11)]),.agg (sT (ab jd 0 l5) [(12,.aa 12),(13,.aa 13),(14,.aa 14),(15,.aa 15),(16,.aa 16),(17,.aa 17),(18,.aa 18),(19,.aa 19),(20,.aa 20)]),.U ax r6,.U ax r7,.U aL r8,.U aL r9,.U ak g9,.U aZ g8,.U bD g7,.U bK gZ,.U bP iO,.U ax zN,.U ax zM,.U aL zL,.U aL zK,.U ak zJ,.U aZ zI,.U bD zH,.U bK zG,.U bP zF]else bif ln (gR l3 17) != i2 then br [.bool false,bf l3,.agg (sT (ab jd 0 l4) [(12,.aa 3),(13,.aa 4),(14,.aa 5),(15,.aa 6),(16,.aa 7),(17,.aa 8),(18,.aa 9),(19,.aa 10),(20,.aa 11)]),.agg (sT (ab jd 0 l5) [(12,.aa 12),(13,.aa 13),(14,.aa 14),(15,.aa 15),(16,.aa 16),(17,.aa 17),(18,.aa 18),(19,.aa 19),(20,.aa 20)]),.U ax r6,.U ax r7,.U aL r8,.U aL r9,.U ak g9,.U aZ g8,.U bD g7,.U bK gZ,.U bP iO,.U ax zN,.U ax zM,.U aL zL,.U aL zK,.U ak zJ,.U aZ zI,.U bD zH,.U bK zG,.U bP zF]else af [bf l3,.agg (sT (ab jd 0 l4) [(12,.aa 3),(13,.aa 4),(14,.aa 5),(15,.aa 6),(16,.aa 7),(17,.aa 8),(18,.aa 9),(19,.aa 10),(20,.aa 11)]),.agg (sT (ab jd 0 l5) [(12,.aa 12),(13,.aa 13),(14,.aa 14),(15,.aa 15),(16,.aa 16),(17,.aa 17),(18,.aa 18),(19,.aa 19),(20,.aa 20)]),.U ax r6,.U ax r7,.U aL r8,.U aL r9,.U ak g9,.U aZ g8,.U bD g7,.U bK gZ,.U bP iO,.U ax zN,.U ax zM,.U aL zL,.U aL zK,.U ak zJ,.U aZ zI,.U bD zH,.U bK zG,.U bP zF]:aF):=by kernel_rfl
end
noncomputable section
variable {G:Nat->aD->Option UO} {N n:Nat} {i0 i1 i2 i3:Int} {l0 l1 l2 l3 l4:aD} {r0 r1 r2 r3 r4 r5 r6:aH}
def anh:bC CX EE G N OL [.agg l0]=(bO (N1 G N [iI 0,iI 0,iI 0,bf l0,.agg [.int .u8 (gI l0 0),iI 0,iI 0,iI 0,iI 0,iI 0,.bool false,.bool false,.bool false,.bool false,.bool false,.int .u8 0,.aa 3,.aa 4,.aa 5,.aa 6,.aa 7,.aa 8,.aa 9,.aa 10,.aa 11],.U 0 (au (([]:List (AV×AV)))),.U ax bF,.U ax bF,.U aL bF,.U aL bF,.U ak bF,.U aZ bF,.U bD bF,.U bK bF,.U bP bF]) λq3 o3=>bif cH q3 then bO (N0 G N [iI (gI o3 0),iI (gI o3 1),iI (gI o3 2),bf (gC o3 3),.agg (sT (ab jd 0 l0) [(12,.aa 3),(13,.aa 4),(14,.aa 5),(15,.aa 6),(16,.aa 7),(17,.aa 8),(18,.aa 9),(19,.aa 10),(20,.aa 11)]),.agg (sT (ab jd 0 (gC o3 4)) [(12,.aa 12),(13,.aa 13),(14,.aa 14),(15,.aa 15),(16,.aa 16),(17,.aa 17),(18,.aa 18),(19,.aa 19),(20,.aa 20)]),.U ax bF,.U ax bF,.U aL bF,.U aL bF,.U ak bF,.U aZ bF,.U bD bF,.U bK bF,.U bP bF,.U ax (gR o3 6),.U ax (gR o3 7),.U aL (gR o3 8),.U aL (gR o3 9),.U ak (gR o3 10),.U aZ (gR o3 11),.U bD (gR o3 12),.U bK (gR o3 13),.U bP (gR o3 14)]) λq5 o5=>bif cH q5 then match ae.dm (aq (gR o3 5)) (.str ((⟨#[99,97,108,108]⟩:ByteArray)))with|some m6=>(bif m6.toB then match ae.dm (aq (gR o3 5)) (.str ((⟨#[116,115]⟩:ByteArray)))with|some m7=>(bif m7.toB then match ae.dm (aq (gR o3 5)) (.str ((⟨#[100,101,99,108,115]⟩:ByteArray)))with|some m8=>(bif m8.toB then match ae.dm (aq (gR o3 5)) (.str ((⟨#[97,108,116,115]⟩:ByteArray)))with|some m9=>(bif m9.toB then dr else af [.bool (ln (gR (gC o5 0) 20)==0)])|none=>(af [.bool (ln (gR (gC o5 0) 20)==0)])else bif bo ((ln (gR (gC o5 0) 18))+(ln (gR (gC o5 0) 19)))==0 then match ae.dm (aq (gR o3 5)) (.str ((⟨#[97,108,116,115]⟩:ByteArray)))with|some m10=>(bif m10.toB then dr else af [.bool (ln (gR (gC o5 0) 20)==0)])|none=>(af [.bool (ln (gR (gC o5 0) 20)==0)])else cQ)|none=>(bif bo ((ln (gR (gC o5 0) 18))+(ln (gR (gC o5 0) 19)))==0 then match ae.dm (aq (gR o3 5)) (.str ((⟨#[97,108,116,115]⟩:ByteArray)))with|some m11=>(bif m11.toB then dr else af [.bool (ln (gR (gC o5 0) 20)==0)])|none=>(af [.bool (ln (gR (gC o5 0) 20)==0)])else cQ)else bif ln (gR (gC o5 0) 16)==0 then match ae.dm (aq (gR o3 5)) (.str ((⟨#[100,101,99,108,115]⟩:ByteArray)))with|some m12=>(bif m12.toB then match ae.dm (aq (gR o3 5)) (.str ((⟨#[97,108,116,115]⟩:ByteArray)))with|some m13=>(bif m13.toB then dr else af [.bool (ln (gR (gC o5 0) 20)==0)])|none=>(af [.bool (ln (gR (gC o5 0) 20)==0)])else bif bo ((ln (gR (gC o5 0) 18))+(ln (gR (gC o5 0) 19)))==0 then match ae.dm (aq (gR o3 5)) (.str ((⟨#[97,108,116,115]⟩:ByteArray)))with|some Uj=>(bif Uj.toB then dr else af [.bool (ln (gR (gC o5 0) 20)==0)])|none=>(af [.bool (ln (gR (gC o5 0) 20)==0)])else cQ)|none=>(bif bo ((ln (gR (gC o5 0) 18))+(ln (gR (gC o5 0) 19)))==0 then match ae.dm (aq (gR o3 5)) (.str ((⟨#[97,108,116,115]⟩:ByteArray)))with|some m15=>(bif m15.toB then dr else af [.bool (ln (gR (gC o5 0) 20)==0)])|none=>(af [.bool (ln (gR (gC o5 0) 20)==0)])else cQ)else cQ)|none=>(bif ln (gR (gC o5 0) 16)==0 then match ae.dm (aq (gR o3 5)) (.str ((⟨#[100,101,99,108,115]⟩:ByteArray)))with|some m16=>(bif m16.toB then match ae.dm (aq (gR o3 5)) (.str ((⟨#[97,108,116,115]⟩:ByteArray)))with|some m17=>(bif m17.toB then dr else af [.bool (ln (gR (gC o5 0) 20)==0)])|none=>(af [.bool (ln (gR (gC o5 0) 20)==0)])else bif bo ((ln (gR (gC o5 0) 18))+(ln (gR (gC o5 0) 19)))==0 then match ae.dm (aq (gR o3 5)) (.str ((⟨#[97,108,116,115]⟩:ByteArray)))with|some m18=>(bif m18.toB then dr else af [.bool (ln (gR (gC o5 0) 20)==0)])|none=>(af [.bool (ln (gR (gC o5 0) 20)==0)])else cQ)|none=>(bif bo ((ln (gR (gC o5 0) 18))+(ln (gR (gC o5 0) 19)))==0 then match ae.dm (aq (gR o3 5)) (.str ((⟨#[97,108,116,115]⟩:ByteArray)))with|some m19=>(bif m19.toB then dr else af [.bool (ln (gR (gC o5 0) 20)==0)])|none=>(af [.bool (ln (gR (gC o5 0) 20)==0)])else cQ)else cQ)else bif bo ((ln (gR (gC o5 0) 13))+(ln (gR (gC o5 0) 15)))==0 then match ae.dm (aq (gR o3 5)) (.str ((⟨#[116,115]⟩:ByteArray)))with|some m20=>(bif m20.toB then match ae.dm (aq (gR o3 5)) (.str ((⟨#[100,101,99,108,115]⟩:ByteArray)))with|some m21=>(bif m21.toB then match ae.dm (aq (gR o3 5)) (.str ((⟨#[97,108,116,115]⟩:ByteArray)))with|some m22=>(bif m22.toB then dr else af [.bool (ln (gR (gC o5 0) 20)==0)])|none=>(af [.bool (ln (gR (gC o5 0) 20)==0)])else bif bo ((ln (gR (gC o5 0) 18))+(ln (gR (gC o5 0) 19)))==0 then match ae.dm (aq (gR o3 5)) (.str ((⟨#[97,108,116,115]⟩:ByteArray)))with|some m23=>(bif m23.toB then dr else af [.bool (ln (gR (gC o5 0) 20)==0)])|none=>(af [.bool (ln (gR (gC o5 0) 20)==0)])else cQ)|none=>(bif bo ((ln (gR (gC o5 0) 18))+(ln (gR (gC o5 0) 19)))==0 then match ae.dm (aq (gR o3 5)) (.str ((⟨#[97,108,116,115]⟩:ByteArray)))with|some m24=>(bif m24.toB then dr else af [.bool (ln (gR (gC o5 0) 20)==0)])|none=>(af [.bool (ln (gR (gC o5 0) 20)==0)])else cQ)else bif ln (gR (gC o5 0) 16)==0 then match ae.dm (aq (gR o3 5)) (.str ((⟨#[100,101,99,108,115]⟩:ByteArray)))with|some m25=>(bif m25.toB then match ae.dm (aq (gR o3 5)) (.str ((⟨#[97,108,116,115]⟩:ByteArray)))with|some m26=>(bif m26.toB then dr else af [.bool (ln (gR (gC o5 0) 20)==0)])|none=>(af [.bool (ln (gR (gC o5 0) 20)==0)])else bif bo ((ln (gR (gC o5 0) 18))+(ln (gR (gC o5 0) 19)))==0 then match ae.dm (aq (gR o3 5)) (.str ((⟨#[97,108,116,115]⟩:ByteArray)))with|some m27=>(bif m27.toB then dr else af [.bool (ln (gR (gC o5 0) 20)==0)])|none=>(af [.bool (ln (gR (gC o5 0) 20)==0)])else cQ)|none=>(bif bo ((ln (gR (gC o5 0) 18))+(ln (gR (gC o5 0) 19)))==0 then match ae.dm (aq (gR o3 5)) (.str ((⟨#[97,108,116,115]⟩:ByteArray)))with|some m28=>(bif m28.toB then dr else af [.bool (ln (gR (gC o5 0) 20)==0)])|none=>(af [.bool (ln (gR (gC o5 0) 20)==0)])else cQ)else cQ)|none=>(bif ln (gR (gC o5 0) 16)==0 then match ae.dm (aq (gR o3 5)) (.str ((⟨#[100,101,99,108,115]⟩:ByteArray)))with|some m29=>(bif m29.toB then match ae.dm (aq (gR o3 5)) (.str ((⟨#[97,108,116,115]⟩:ByteArray)))with|some m30=>(bif m30.toB then dr else af [.bool (ln (gR (gC o5 0) 20)==0)])|none=>(af [.bool (ln (gR (gC o5 0) 20)==0)])else bif bo ((ln (gR (gC o5 0) 18))+(ln (gR (gC o5 0) 19)))==0 then match ae.dm (aq (gR o3 5)) (.str ((⟨#[97,108,116,115]⟩:ByteArray)))with|some m31=>(bif m31.toB then dr else af [.bool (ln (gR (gC o5 0) 20)==0)])|none=>(af [.bool (ln (gR (gC o5 0) 20)==0)])else cQ)|none=>(bif bo ((ln (gR (gC o5 0) 18))+(ln (gR (gC o5 0) 19)))==0 then match ae.dm (aq (gR o3 5)) (.str ((⟨#[97,108,116,115]⟩:ByteArray)))with|some m32=>(bif m32.toB then dr else af [.bool (ln (gR (gC o5 0) 20)==0)])|none=>(af [.bool (ln (gR (gC o5 0) 20)==0)])else cQ)else cQ)else cQ)|none=>(bif bo ((ln (gR (gC o5 0) 13))+(ln (gR (gC o5 0) 15)))==0 then match ae.dm (aq (gR o3 5)) (.str ((⟨#[116,115]⟩:ByteArray)))with|some m33=>(bif m33.toB then match ae.dm (aq (gR o3 5)) (.str ((⟨#[100,101,99,108,115]⟩:ByteArray)))with|some m34=>(bif m34.toB then match ae.dm (aq (gR o3 5)) (.str ((⟨#[97,108,116,115]⟩:ByteArray)))with|some m35=>(bif m35.toB then dr else af [.bool (ln (gR (gC o5 0) 20)==0)])|none=>(af [.bool (ln (gR (gC o5 0) 20)==0)])else bif bo ((ln (gR (gC o5 0) 18))+(ln (gR (gC o5 0) 19)))==0 then match ae.dm (aq (gR o3 5)) (.str ((⟨#[97,108,116,115]⟩:ByteArray)))with|some m36=>(bif m36.toB then dr else af [.bool (ln (gR (gC o5 0) 20)==0)])|none=>(af [.bool (ln (gR (gC o5 0) 20)==0)])else cQ)|none=>(bif bo ((ln (gR (gC o5 0) 18))+(ln (gR (gC o5 0) 19)))==0 then match ae.dm (aq (gR o3 5)) (.str ((⟨#[97,108,116,115]⟩:ByteArray)))with|some m37=>(bif m37.toB then dr else af [.bool (ln (gR (gC o5 0) 20)==0)])|none=>(af [.bool (ln (gR (gC o5 0) 20)==0)])else cQ)else bif ln (gR (gC o5 0) 16)==0 then match ae.dm (aq (gR o3 5)) (.str ((⟨#[100,101,99,108,115]⟩:ByteArray)))with|some m38=>(bif m38.toB then match ae.dm (aq (gR o3 5)) (.str ((⟨#[97,108,116,115]⟩:ByteArray)))with|some m39=>(bif m39.toB then dr else af [.bool (ln (gR (gC o5 0) 20)==0)])|none=>(af [.bool (ln (gR (gC o5 0) 20)==0)])else bif bo ((ln (gR (gC o5 0) 18))+(ln (gR (gC o5 0) 19)))==0 then match ae.dm (aq (gR o3 5)) (.str ((⟨#[97,108,116,115]⟩:ByteArray)))with|some m40=>(bif m40.toB then dr else af [.bool (ln (gR (gC o5 0) 20)==0)])|none=>(af [.bool (ln (gR (gC o5 0) 20)==0)])else cQ)|none=>(bif bo ((ln (gR (gC o5 0) 18))+(ln (gR (gC o5 0) 19)))==0 then match ae.dm (aq (gR o3 5)) (.str ((⟨#[97,108,116,115]⟩:ByteArray)))with|some m41=>(bif m41.toB then dr else af [.bool (ln (gR (gC o5 0) 20)==0)])|none=>(af [.bool (ln (gR (gC o5 0) 20)==0)])else cQ)else cQ)|none=>(bif ln (gR (gC o5 0) 16)==0 then match ae.dm (aq (gR o3 5)) (.str ((⟨#[100,101,99,108,115]⟩:ByteArray)))with|some m42=>(bif m42.toB then match ae.dm (aq (gR o3 5)) (.str ((⟨#[97,108,116,115]⟩:ByteArray)))with|some m43=>(bif m43.toB then dr else af [.bool (ln (gR (gC o5 0) 20)==0)])|none=>(af [.bool (ln (gR (gC o5 0) 20)==0)])else bif bo ((ln (gR (gC o5 0) 18))+(ln (gR (gC o5 0) 19)))==0 then match ae.dm (aq (gR o3 5)) (.str ((⟨#[97,108,116,115]⟩:ByteArray)))with|some m44=>(bif m44.toB then dr else af [.bool (ln (gR (gC o5 0) 20)==0)])|none=>(af [.bool (ln (gR (gC o5 0) 20)==0)])else cQ)|none=>(bif bo ((ln (gR (gC o5 0) 18))+(ln (gR (gC o5 0) 19)))==0 then match ae.dm (aq (gR o3 5)) (.str ((⟨#[97,108,116,115]⟩:ByteArray)))with|some m45=>(bif m45.toB then dr else af [.bool (ln (gR (gC o5 0) 20)==0)])|none=>(af [.bool (ln (gR (gC o5 0) 20)==0)])else cQ)else cQ)else cQ)else af [.bool (gB o5 0)]else af [.bool (gB o3 0)]:aF):=by kernel_rfl
def als:N3 G N [.int .u8 i0]=(bif i0==16 then dr else bif i0==17 then dr else bif i0==18 then dr else bif i0==19 then dr else bif i0==15 then dr else bif i0==11 then dr else bif i0==12 then dr else bif i0==22 then dr else af [.bool (i0==21)]:aF):=by kernel_rfl
def amW:bC CX EE G N HZ [.agg l0]=(bO (N3 G N [.int .u8 (gI l0 0)]) λ_ o1=>bif gB o1 0 then dr else bif gI l0 0==9 then af [.bool (aW 0 (ln (gR l0 16)))]else cQ:aF):=by kernel_rfl
def aji:Nd G N [.agg l0,.U ai r1,.U 0 r2,.agg l3,.agg l4]=(bif aW 0 (ln (gR l3 5))then bO (G HZ [bf l4]) λ_ o1=>bif gB o1 0 then br [.bool false,.agg (sT (ab aI 0 l0) [(6,.aa 1),(8,.mp 2)]),.U ai r1,.U 0 (au (aq r2)),.agg (sT (ab bh 0 l3) [(0,.ptr 0 0 0)]),bf l4]else af [.agg (sT (ab aI 0 l0) [(6,.aa 1),(8,.mp 2)]),.U ai r1,.U 0 (au (aq r2)),.agg (sT (ab bh 0 l3) [(0,.ptr 0 0 0)]),bf l4]else af [.agg (sT (ab aI 0 l0) [(6,.aa 1),(8,.mp 2)]),.U ai r1,.U 0 (au (aq r2)),.agg (sT (ab bh 0 l3) [(0,.ptr 0 0 0)]),bf l4]:aF):=by kernel_rfl
def ais:MV G N [.int .u8 i0,.agg l1,.U ai r2,.U 0 r3]=(bif i0==18 then af [.bool true,.agg (sT (ab aI 0 l1) [(6,.aa 1),(8,.mp 2)]),.U ai r2,.U 0 (au (aq r3))]else bif i0==19 then af [.bool true,.agg (sT (ab aI 0 l1) [(6,.aa 1),(8,.mp 2)]),.U ai r2,.U 0 (au (aq r3))]else af [.bool (i0==21),.agg (sT (ab aI 0 l1) [(6,.aa 1),(8,.mp 2)]),.U ai r2,.U 0 (au (aq r3))]:aF):=by kernel_rfl
def aiN:M4 G N [.agg l0,.U ai r1,.U 0 r2,.agg l3,.agg l4]=(bO (MV G N [.int .u8 (gI l4 0),.agg (sT (ab aI 0 l0) [(6,.aa 1),(8,.mp 2)]),.U ai r1,.U 0 (au (aq r2))]) λ_ o3=>bif gB o3 0 then bif !(gB l3 7)then br [.bool (!(gB l3 8)),.agg (sT (ab aI 0 (gC o3 1)) [(6,.aa 1),(8,.mp 2)]),.U ai (gR o3 2),.U 0 (au (aq (gR o3 3))),.agg (sT (ab bh 0 l3) [(0,.ptr 0 0 0)]),bf l4]else br [.bool false,.agg (sT (ab aI 0 (gC o3 1)) [(6,.aa 1),(8,.mp 2)]),.U ai (gR o3 2),.U 0 (au (aq (gR o3 3))),.agg (sT (ab bh 0 l3) [(0,.ptr 0 0 0)]),bf l4]else bif gI l4 0==11 then br [.bool true,.agg (sT (ab aI 0 (gC o3 1)) [(6,.aa 1),(8,.mp 2)]),.U ai (gR o3 2),.U 0 (au (aq (gR o3 3))),.agg (sT (ab bh 0 l3) [(0,.ptr 0 0 0)]),bf l4]else bif gI l4 0==12 then br [.bool true,.agg (sT (ab aI 0 (gC o3 1)) [(6,.aa 1),(8,.mp 2)]),.U ai (gR o3 2),.U 0 (au (aq (gR o3 3))),.agg (sT (ab bh 0 l3) [(0,.ptr 0 0 0)]),bf l4]else af [.agg (sT (ab aI 0 (gC o3 1)) [(6,.aa 1),(8,.mp 2)]),.U ai (gR o3 2),.U 0 (au (aq (gR o3 3))),.agg (sT (ab bh 0 l3) [(0,.ptr 0 0 0)]),bf l4]:aF):=by kernel_rfl
def akl:bC CX EE G N Ny [.agg l0,.agg l1,.agg l2,.U ai r3,.U 0 r4]=(bO (Nd G N [.agg (sT (ab aI 0 l2) [(6,.aa 1),(8,.mp 2)]),.U ai r3,.U 0 (au (aq r4)),.agg (sT (ab bh 0 l0) [(0,.ptr 0 0 0)]),bf l1]) λq2 o2=>bif cH q2 then bO (M4 G N [.agg (sT (ab aI 0 (gC o2 0)) [(6,.aa 1),(8,.mp 2)]),.U ai (gR o2 1),.U 0 (au (aq (gR o2 2))),.agg (sT (ab bh 0 (gC o2 3)) [(0,.ptr 0 0 0)]),bf (gC o2 4)]) λq4 o4=>bif cH q4 then bif !(gB (gC o4 3) 8)then af [.bool true,.agg (sT (ab aI 0 (gC o4 0)) [(6,.aa 1),(8,.mp 2)]),.U ai (gR o4 1),.U 0 (au (aq (gR o4 2)))]else bO (G HZ [bf (gC o4 4)]) λ_ o5=>af [.bool (!(gB o5 0)),.agg (sT (ab aI 0 (gC o4 0)) [(6,.aa 1),(8,.mp 2)]),.U ai (gR o4 1),.U 0 (au (aq (gR o4 2)))]else af [.bool (gB o4 0),.agg (sT (ab aI 0 (gC o4 1)) [(6,.aa 1),(8,.mp 2)]),.U ai (gR o4 2),.U 0 (au (aq (gR o4 3)))]else af [.bool (gB o2 0),.agg (sT (ab aI 0 (gC o2 1)) [(6,.aa 1),(8,.mp 2)]),.U ai (gR o2 2),.U 0 (au (aq (gR o2 3)))]:aF):=by kernel_rfl
def Wo:Hq G N (n+1) [.U ak r0,iI i1,iI i2,iI i3]=(bif aW i3 i2 then bI i3 r0<|bif i1==gI (ba r0 i3) 0 then af [iI i3]else Hq G N n [.U ak r0,iI i1,iI i2,cm i3]else br []:aF):=by kernel_rfl
def WO:bC CX EE G N WQ [.U ak r0,iI i1]=(bO (Hq G N N [.U ak r0,iI i1,iI (ln r0),iI 0]) λq1 o1=>bif cH q1 then af [iI (gI o1 0)]else af [iI (-1)]:aF):=by kernel_rfl
def Wt:bC CX EE G N sO [.U ak r0,iI i1]=(bO (G WQ [.U ak r0,iI i1]) λ_ o1=>af [.bool (cj 0 (gI o1 0))]:aF):=by kernel_rfl
def alx:bC CX EE G N Dx [.agg l0,iI i1,.agg l2,.U ai r3,.U 0 r4]=(bI i1 r3<|aB (gH (i1.toNat) (r3.length))<|bif cj 0 (gI (ba r3 i1) 0)then bO (G sO [.U ak (gR l0 5),iI (gI (ba r3 i1) 0)]) λ_ o1=>af [.bool (gB o1 0),.agg (sT (ab aI 0 l2) [(6,.aa 1),(8,.mp 2)]),.U ai r3,.U 0 (au (aq r4))]else bif aW (gI (ba r3 i1) 1) 0 then af [.bool true,.agg (sT (ab aI 0 l2) [(6,.aa 1),(8,.mp 2)]),.U ai r3,.U 0 (au (aq r4))]else bif gI (ba r3 i1) 1==gI l0 1 then bO (G sO [.U ak (gR l0 4),iI (gI (ba r3 i1) 2)]) λ_ o2=>af [.bool (gB o2 0),.agg (sT (ab aI 0 l2) [(6,.aa 1),(8,.mp 2)]),.U ai r3,.U 0 (au (aq r4))]else af [.bool false,.agg (sT (ab aI 0 l2) [(6,.aa 1),(8,.mp 2)]),.U ai r3,.U 0 (au (aq r4))]:aF):=by kernel_rfl
def akj:bC CX EE G N Nw [.agg l0,.agg l1,.agg l2,.U ai r3,.U 0 r4]=(bO (G HJ [.agg (sT (ab bh 0 l1) [(0,.ptr 0 0 0)]),bN l0,.agg (sT (ab aI 0 l2) [(6,.aa 1),(8,.mp 2)]),.U ai r3,.U 0 (au (aq r4))]) λ_ o1=>af [.bool (!(gB o1 0)),.agg (sT (ab bh 0 l1) [(0,.ptr 1 0 0)]),.agg (sT (ab aI 0 (gC o1 1)) [(6,.aa 2),(8,.mp 3)]),.U ai (gR o1 2),.U 0 (au (aq (gR o1 3)))]:aF):=by kernel_rfl
def Vz:G3 G N (n+1) [.U ax r0,iI i1,iI i2,.agg l3,.agg l4,.U ai r5,.U 0 r6]=(bif aW i2 i1 then bI i2 r0<|bO (G Nw [bN (ba r0 i2),.agg (sT (ab bh 0 l3) [(0,.ptr 1 0 0)]),.agg (sT (ab aI 0 l4) [(6,.aa 2),(8,.mp 3)]),.U ai r5,.U 0 (au (aq r6))]) λ_ o1=>bif gB o1 0 then af [iI i2,.agg (sT (ab bh 0 (gC o1 1)) [(0,.ptr 1 0 0)]),.agg (sT (ab aI 0 (gC o1 2)) [(6,.aa 2),(8,.mp 3)]),.U ai (gR o1 3),.U 0 (au (aq (gR o1 4)))]else G3 G N n [.U ax r0,iI i1,cm i2,.agg (sT (ab bh 0 (gC o1 1)) [(0,.ptr 1 0 0)]),.agg (sT (ab aI 0 (gC o1 2)) [(6,.aa 2),(8,.mp 3)]),.U ai (gR o1 3),.U 0 (au (aq (gR o1 4)))]else br [.agg (sT (ab bh 0 l3) [(0,.ptr 1 0 0)]),.agg (sT (ab aI 0 l4) [(6,.aa 2),(8,.mp 3)]),.U ai r5,.U 0 (au (aq r6))]:aF):=by kernel_rfl
def agM:bC CX EE G N Ml [.U ax r0,.agg l1,.agg l2,.U ai r3,.U 0 r4]=(bO (G3 G N N [.U ax r0,iI (ln r0),iI 0,.agg (sT (ab bh 0 l1) [(0,.ptr 1 0 0)]),.agg (sT (ab aI 0 l2) [(6,.aa 2),(8,.mp 3)]),.U ai r3,.U 0 (au (aq r4))]) λq2 o2=>bif cH q2 then af [iI (gI o2 0),.agg (sT (ab bh 0 (gC o2 1)) [(0,.ptr 1 0 0)]),.agg (sT (ab aI 0 (gC o2 2)) [(6,.aa 2),(8,.mp 3)]),.U ai (gR o2 3),.U 0 (au (aq (gR o2 4)))]else af [iI (-1),.agg (sT (ab bh 0 (gC o2 0)) [(0,.ptr 1 0 0)]),.agg (sT (ab aI 0 (gC o2 1)) [(6,.aa 2),(8,.mp 3)]),.U ai (gR o2 2),.U 0 (au (aq (gR o2 3)))]:aF):=by kernel_rfl
def agv:bC CX EE G N Mf [.U ax r0,.agg l1,.agg l2,.U ai r3,.U 0 r4]=(bO (G Ml [.U ax r0,.agg (sT (ab bh 0 l1) [(0,.ptr 1 0 0)]),.agg (sT (ab aI 0 l2) [(6,.aa 2),(8,.mp 3)]),.U ai r3,.U 0 (au (aq r4))]) λ_ o1=>af [.bool (cj 0 (gI o1 0)),.agg (sT (ab bh 0 (gC o1 1)) [(0,.ptr 1 0 0)]),.agg (sT (ab aI 0 (gC o1 2)) [(6,.aa 2),(8,.mp 3)]),.U ai (gR o1 3),.U 0 (au (aq (gR o1 4)))]:aF):=by kernel_rfl
def akg:ND G N [.agg l0,.U ai r1,.U 0 r2,.agg l3,.agg l4]=(bif gI l4 0==2 then bO (G Dx [.agg (sT (ab bh 0 l3) [(0,.ptr 0 0 0)]),iI (gI l4 3),.agg (sT (ab aI 0 l0) [(6,.aa 1),(8,.mp 2)]),.U ai r1,.U 0 (au (aq r2))]) λ_ o1=>bif !(gB o1 0)then br [.bool false,.agg (sT (ab aI 0 (gC o1 1)) [(6,.aa 1),(8,.mp 2)]),.U ai (gR o1 2),.U 0 (au (aq (gR o1 3))),.agg (sT (ab bh 0 l3) [(0,.ptr 0 0 0)]),bN l4]else af [.agg (sT (ab aI 0 (gC o1 1)) [(6,.aa 1),(8,.mp 2)]),.U ai (gR o1 2),.U 0 (au (aq (gR o1 3))),.agg (sT (ab bh 0 l3) [(0,.ptr 0 0 0)]),bN l4]else bif gI l4 0==3 then bO (G Dx [.agg (sT (ab bh 0 l3) [(0,.ptr 0 0 0)]),iI (gI l4 3),.agg (sT (ab aI 0 l0) [(6,.aa 1),(8,.mp 2)]),.U ai r1,.U 0 (au (aq r2))]) λ_ o2=>bif !(gB o2 0)then br [.bool false,.agg (sT (ab aI 0 (gC o2 1)) [(6,.aa 1),(8,.mp 2)]),.U ai (gR o2 2),.U 0 (au (aq (gR o2 3))),.agg (sT (ab bh 0 l3) [(0,.ptr 0 0 0)]),bN l4]else af [.agg (sT (ab aI 0 (gC o2 1)) [(6,.aa 1),(8,.mp 2)]),.U ai (gR o2 2),.U 0 (au (aq (gR o2 3))),.agg (sT (ab bh 0 l3) [(0,.ptr 0 0 0)]),bN l4]else bif gI l4 0==12 then bI (gI l4 3) r1<|aB (gH ((gI l4 3).toNat) (r1.length))<|bif !(((gI (ba r1 (gI l4 3)) 0)==(-1))&&(((gI (ba r1 (gI l4 3)) 1)==(-1))&&(((gI (ba r1 (gI l4 3)) 2)==(-1))&&true)))then br [.bool false,.agg (sT (ab aI 0 l0) [(6,.aa 1),(8,.mp 2)]),.U ai r1,.U 0 (au (aq r2)),.agg (sT (ab bh 0 l3) [(0,.ptr 0 0 0)]),bN l4]else af [.agg (sT (ab aI 0 l0) [(6,.aa 1),(8,.mp 2)]),.U ai r1,.U 0 (au (aq r2)),.agg (sT (ab bh 0 l3) [(0,.ptr 0 0 0)]),bN l4]else af [.agg (sT (ab aI 0 l0) [(6,.aa 1),(8,.mp 2)]),.U ai r1,.U 0 (au (aq r2)),.agg (sT (ab bh 0 l3) [(0,.ptr 0 0 0)]),bN l4]:aF):=by kernel_rfl
def ak4:bC CX EE G N HJ [.agg l0,.agg l1,.agg l2,.U ai r3,.U 0 r4]=(bO (ND G N [.agg (sT (ab aI 0 l2) [(6,.aa 1),(8,.mp 2)]),.U ai r3,.U 0 (au (aq r4)),.agg (sT (ab bh 0 l0) [(0,.ptr 0 0 0)]),bN l1]) λq3 o3=>bif cH q3 then bO (G Mf [.U ax (gR (gC o3 4) 8),.agg (sT (ab bh 0 (gC o3 3)) [(0,.ptr 1 0 0)]),.agg (sT (ab aI 0 (gC o3 0)) [(6,.aa 2),(8,.mp 3)]),.U ai (gR o3 1),.U 0 (au (aq (gR o3 2)))]) λ_ o4=>af [.bool (!(gB o4 0)),.agg (sT (ab aI 0 (gC o4 2)) [(6,.aa 1),(8,.mp 2)]),.U ai (gR o4 3),.U 0 (au (aq (gR o4 4)))]else af [.bool (gB o3 0),.agg (sT (ab aI 0 (gC o3 1)) [(6,.aa 1),(8,.mp 2)]),.U ai (gR o3 2),.U 0 (au (aq (gR o3 3)))]:aF):=by kernel_rfl
def ak6:bC CX EE G N AF [.agg l0,.agg l1,.agg l2,.U ai r3,.U 0 r4]=(bO (G HM [.agg [.U bE (gR l2 0),iI (gI l2 1)],bN l1]) λ_ o1=>bif gB o1 1 then bO (G HJ [.agg (sT (ab bh 0 l0) [(0,.ptr 0 0 0)]),bN l1,.agg (sT (ab aI 0 l2) [(6,.aa 1),(8,.mp 2)]),.U ai r3,.U 0 (au (aq r4))]) λ_ o2=>af [fA (gC o1 0),.bool (gB o2 0),.agg (sT (ab aI 0 (gC o2 1)) [(6,.aa 1),(8,.mp 2)]),.U ai (gR o2 2),.U 0 (au (aq (gR o2 3)))]else af [fA (gC o1 0),.bool false,.agg (sT (ab aI 0 l2) [(6,.aa 1),(8,.mp 2)]),.U ai r3,.U 0 (au (aq r4))]:aF):=by kernel_rfl
def ajV:bC CX EE G N Nm [iI i0,.agg l1,.agg l2,.U ai r3,.U 0 r4]=(bO (G sO [.U ak (gR l1 6),iI i0]) λ_ o1=>af [.bool (gB o1 0),.agg (sT (ab bh 0 l1) [(0,.ptr 1 0 0)]),.agg (sT (ab aI 0 l2) [(6,.aa 2),(8,.mp 3)]),.U ai r3,.U 0 (au (aq r4))]:aF):=by kernel_rfl
def VC:G4 G N (n+1) [.U ak r0,iI i1,iI i2,.agg l3,.agg l4,.U ai r5,.U 0 r6]=(bif aW i2 i1 then bI i2 r0<|bO (G Nm [iI (gI (ba r0 i2) 0),.agg (sT (ab bh 0 l3) [(0,.ptr 1 0 0)]),.agg (sT (ab aI 0 l4) [(6,.aa 2),(8,.mp 3)]),.U ai r5,.U 0 (au (aq r6))]) λ_ o1=>bif gB o1 0 then af [iI i2,.agg (sT (ab bh 0 (gC o1 1)) [(0,.ptr 1 0 0)]),.agg (sT (ab aI 0 (gC o1 2)) [(6,.aa 2),(8,.mp 3)]),.U ai (gR o1 3),.U 0 (au (aq (gR o1 4)))]else G4 G N n [.U ak r0,iI i1,cm i2,.agg (sT (ab bh 0 (gC o1 1)) [(0,.ptr 1 0 0)]),.agg (sT (ab aI 0 (gC o1 2)) [(6,.aa 2),(8,.mp 3)]),.U ai (gR o1 3),.U 0 (au (aq (gR o1 4)))]else br [.agg (sT (ab bh 0 l3) [(0,.ptr 1 0 0)]),.agg (sT (ab aI 0 l4) [(6,.aa 2),(8,.mp 3)]),.U ai r5,.U 0 (au (aq r6))]:aF):=by kernel_rfl
end
noncomputable section
variable {G:Nat->aD->Option UO} {N n:Nat} {i0 i1 i2:Int} {l0 l1 l2 l3 l4 l5 l6:aD} {r0 r1 r2 r3 r4 r5 r6 r7:aH}
def agS:bC CX EE G N Mp [.U ak r0,.agg l1,.agg l2,.U ai r3,.U 0 r4]=(bO (G4 G N N [.U ak r0,iI (ln r0),iI 0,.agg (sT (ab bh 0 l1) [(0,.ptr 1 0 0)]),.agg (sT (ab aI 0 l2) [(6,.aa 2),(8,.mp 3)]),.U ai r3,.U 0 (au (aq r4))]) λq2 o2=>bif cH q2 then af [iI (gI o2 0),.agg (sT (ab bh 0 (gC o2 1)) [(0,.ptr 1 0 0)]),.agg (sT (ab aI 0 (gC o2 2)) [(6,.aa 2),(8,.mp 3)]),.U ai (gR o2 3),.U 0 (au (aq (gR o2 4)))]else af [iI (-1),.agg (sT (ab bh 0 (gC o2 0)) [(0,.ptr 1 0 0)]),.agg (sT (ab aI 0 (gC o2 1)) [(6,.aa 2),(8,.mp 3)]),.U ai (gR o2 2),.U 0 (au (aq (gR o2 3)))]:aF):=by kernel_rfl
def agz:bC CX EE G N Mg [.U ak r0,.agg l1,.agg l2,.U ai r3,.U 0 r4]=(bO (G Mp [.U ak r0,.agg (sT (ab bh 0 l1) [(0,.ptr 1 0 0)]),.agg (sT (ab aI 0 l2) [(6,.aa 2),(8,.mp 3)]),.U ai r3,.U 0 (au (aq r4))]) λ_ o1=>af [.bool (cj 0 (gI o1 0)),.agg (sT (ab bh 0 (gC o1 1)) [(0,.ptr 1 0 0)]),.agg (sT (ab aI 0 (gC o1 2)) [(6,.aa 2),(8,.mp 3)]),.U ai (gR o1 3),.U 0 (au (aq (gR o1 4)))]:aF):=by kernel_rfl
def ajk:Ng G N [iI i0,.agg l1,.U ai r2,.U 0 r3,.agg l4,.agg l5,.U ax r6]=(bif gI l4 0==1 then af [iI 0,.agg (sT (ab aI 0 l1) [(6,.aa 1),(8,.mp 2)]),.U ai r2,.U 0 (au (aq r3)),jb l4,.agg [.int .u8 (gI l5 0),iI (gI l4 1),iI (gI l4 2),iI (gI l5 3),.aa 5],.U ax r6]else bif gI l4 0==2 then af [iI i0,.agg (sT (ab aI 0 l1) [(6,.aa 1),(8,.mp 2)]),.U ai r2,.U 0 (au (aq r3)),jb l4,.agg (sT (ab uv 0 l4) [(0,.int .u8 (gI l5 0)),(4,.aa 5)]),.U ax r6]else bif gI l4 0==3 then af [iI i0,.agg (sT (ab aI 0 l1) [(6,.aa 1),(8,.mp 2)]),.U ai r2,.U 0 (au (aq r3)),jb l4,.agg (sT (ab uv 0 l5) [(4,.aa 5)]),.U ax r6]else br [.bool false,.agg (sT (ab aI 0 l1) [(6,.aa 1),(8,.mp 2)]),.U ai r2,.U 0 (au (aq r3)),jb l4,.agg (sT (ab uv 0 l5) [(4,.aa 6)]),.U ak bF,.U ax r6]:aF):=by kernel_rfl
def ajj:Nf G N [iI i0,.agg l1,.U ai r2,.U 0 r3,.agg l4,.agg l5,.U ax r6]=(bif gI l5 1 != gI l4 1 then br [.bool false,.agg (sT (ab aI 0 l1) [(6,.aa 1),(8,.mp 2)]),.U ai r2,.U 0 (au (aq r3)),jb l4,.agg (sT (ab uv 0 l5) [(4,.aa 6)]),.U ak bF,.U ax r6]else bif gI l5 2 != gI l4 2 then br [.bool false,.agg (sT (ab aI 0 l1) [(6,.aa 1),(8,.mp 2)]),.U ai r2,.U 0 (au (aq r3)),jb l4,.agg (sT (ab uv 0 l5) [(4,.aa 6)]),.U ak bF,.U ax r6]else bif gI l5 3 != gI l4 3 then br [.bool false,.agg (sT (ab aI 0 l1) [(6,.aa 1),(8,.mp 2)]),.U ai r2,.U 0 (au (aq r3)),jb l4,.agg (sT (ab uv 0 l5) [(4,.aa 6)]),.U ak bF,.U ax r6]else bif ln (gR l4 4) != i0 then br [.bool false,.agg (sT (ab aI 0 l1) [(6,.aa 1),(8,.mp 2)]),.U ai r2,.U 0 (au (aq r3)),jb l4,.agg (sT (ab uv 0 l5) [(4,.aa 6)]),.U ak bF,.U ax r6]else af [.agg (sT (ab aI 0 l1) [(6,.aa 1),(8,.mp 2)]),.U ai r2,.U 0 (au (aq r3)),jb l4,.agg (sT (ab uv 0 l5) [(4,.aa 5)]),.U ax r6]:aF):=by kernel_rfl
def aiO:M5 G N [iI i0,.agg l1,.U ai r2,.U 0 r3,.agg l4,.agg l5,.agg l6,.U ak r7]=(bif i0==1 then aB (aW 0 (ln (gR l5 4)))<|bO (G AF [.agg (sT (ab bh 0 l4) [(0,.ptr 0 0 0)]),bN (gA (gR l5 4) 0),.agg (sT (ab aI 0 l1) [(6,.aa 1),(8,.mp 2)]),.U ai r2,.U 0 (au (aq r3))]) λ_ o3=>bif !(gB o3 1)then br [.bool false,.agg (sT (ab aI 0 (gC o3 2)) [(6,.aa 1),(8,.mp 2)]),.U ai (gR o3 3),.U 0 (au (aq (gR o3 4))),.agg (sT (ab bh 0 l4) [(0,.ptr 0 0 0)]),jb l5,fA (gC o3 0),.U ak bF]else af [.agg (sT (ab aI 0 (gC o3 2)) [(6,.aa 1),(8,.mp 2)]),.U ai (gR o3 3),.U 0 (au (aq (gR o3 4))),.agg (sT (ab bh 0 l4) [(0,.ptr 0 0 0)]),jb l5,fA (gC o3 0)]else af [.agg (sT (ab aI 0 l1) [(6,.aa 1),(8,.mp 2)]),.U ai r2,.U 0 (au (aq r3)),.agg (sT (ab bh 0 l4) [(0,.ptr 0 0 0)]),jb l5,.agg (sT (ab yk 0 l6) [(2,.U ak r7)])]:aF):=by kernel_rfl
def ait:MW G N [.agg l0,.U ai r1,.U 0 r2,.agg l3,.agg l4,.agg l5]=(bif gI l4 0==1 then bO (G Dv [.agg [.U bE (gR l0 0),iI (gI l0 1)],iI (gI l4 1),iI (gI l4 2)]) λ_ o5=>bif !(gB o5 0)then br [.bool false,.agg (sT (ab aI 0 l0) [(6,.aa 1),(8,.mp 2)]),.U ai r1,.U 0 (au (aq r2)),.agg (sT (ab bh 0 l3) [(0,.ptr 0 0 0)]),jb l4,fA l5,.U ak bF]else bO (G Dx [.agg (sT (ab bh 0 l3) [(0,.ptr 0 0 0)]),iI (gI l4 1),.agg (sT (ab aI 0 l0) [(6,.aa 1),(8,.mp 2)]),.U ai r1,.U 0 (au (aq r2))]) λ_ o6=>bif !(gB o6 0)then br [.bool false,.agg (sT (ab aI 0 (gC o6 1)) [(6,.aa 1),(8,.mp 2)]),.U ai (gR o6 2),.U 0 (au (aq (gR o6 3))),.agg (sT (ab bh 0 l3) [(0,.ptr 0 0 0)]),jb l4,fA l5,.U ak bF]else af [.U ak (([[iI (gI l4 1)]]:aH)),.agg (sT (ab aI 0 (gC o6 1)) [(6,.aa 1),(8,.mp 2)]),.U ai (gR o6 2),.U 0 (au (aq (gR o6 3))),.agg (sT (ab bh 0 l3) [(0,.ptr 0 0 0)]),jb l4,fA l5]else bif gI l4 0==2 then bO (aii G N [.agg (sT (ab aI 0 l0) [(6,.aa 1),(8,.mp 2)]),.U ai r1,.U 0 (au (aq r2)),.agg (sT (ab bh 0 l3) [(0,.ptr 0 0 0)]),jb l4,fA l5]) λ_ o7=>br [.bool (gB o7 0),.agg (sT (ab aI 0 (gC o7 1)) [(6,.aa 1),(8,.mp 2)]),.U ai (gR o7 2),.U 0 (au (aq (gR o7 3))),.agg (sT (ab bh 0 (gC o7 4)) [(0,.ptr 0 0 0)]),jb (gC o7 5),fA (gC o7 6),.U ak (gR o7 7)]else bif !(gB l5 0)then bif !(gB l5 1)then br [.bool false,.agg (sT (ab aI 0 l0) [(6,.aa 1),(8,.mp 2)]),.U ai r1,.U 0 (au (aq r2)),.agg (sT (ab bh 0 l3) [(0,.ptr 0 0 0)]),jb l4,fA l5,.U ak bF]else af [.U ak (gR l5 2),.agg (sT (ab aI 0 l0) [(6,.aa 1),(8,.mp 2)]),.U ai r1,.U 0 (au (aq r2)),.agg (sT (ab bh 0 l3) [(0,.ptr 0 0 0)]),jb l4,fA l5]else af [.U ak (gR l5 2),.agg (sT (ab aI 0 l0) [(6,.aa 1),(8,.mp 2)]),.U ai r1,.U 0 (au (aq r2)),.agg (sT (ab bh 0 l3) [(0,.ptr 0 0 0)]),jb l4,fA l5]:aF):=by kernel_rfl
def akF:bC CX EE G N NM [.agg l0,.agg l1,.agg l2,.U ai r3,.U 0 r4]=(bO (Ng G N [iI 1,.agg (sT (ab aI 0 l2) [(6,.aa 1),(8,.mp 2)]),.U ai r3,.U 0 (au (aq r4)),jb l1,.agg [.int .u8 (gI l1 0),iI 0,iI 0,iI 0,.aa 5],.U ax bF]) λq1 o1=>bif cH q1 then bO (Nf G N [iI (gI o1 0),.agg (sT (ab aI 0 (gC o1 1)) [(6,.aa 1),(8,.mp 2)]),.U ai (gR o1 2),.U 0 (au (aq (gR o1 3))),jb (gC o1 4),.agg (sT (ab uv 0 (gC o1 5)) [(4,.aa 5)]),.U ax (gR o1 6)]) λq2 o2=>bif cH q2 then bO (M5 G N [iI (gI o1 0),.agg (sT (ab aI 0 (gC o2 0)) [(6,.aa 1),(8,.mp 2)]),.U ai (gR o2 1),.U 0 (au (aq (gR o2 2))),.agg (sT (ab bh 0 l0) [(0,.ptr 0 0 0)]),jb (gC o2 3),.agg [.bool false,.bool false,.aa 6,iI 0,iI 0],.U ak bF]) λq4 o4=>bif cH q4 then bO (MW G N [.agg (sT (ab aI 0 (gC o4 0)) [(6,.aa 1),(8,.mp 2)]),.U ai (gR o4 1),.U 0 (au (aq (gR o4 2))),.agg (sT (ab bh 0 (gC o4 3)) [(0,.ptr 0 0 0)]),jb (gC o4 4),fA (gC o4 5)]) λq8 o8=>bif cH q8 then bO (G Mg [.U ak (gR o8 0),.agg (sT (ab bh 0 (gC o8 4)) [(0,.ptr 1 0 0)]),.agg (sT (ab aI 0 (gC o8 1)) [(6,.aa 2),(8,.mp 3)]),.U ai (gR o8 2),.U 0 (au (aq (gR o8 3)))]) λ_ o9=>af [.U ak (gR o8 0),.bool (!(gB o9 0)),.agg (sT (ab aI 0 (gC o9 2)) [(6,.aa 1),(8,.mp 2)]),.U ai (gR o9 3),.U 0 (au (aq (gR o9 4)))]else af [.U ak (gR o8 7),.bool (gB o8 0),.agg (sT (ab aI 0 (gC o8 1)) [(6,.aa 1),(8,.mp 2)]),.U ai (gR o8 2),.U 0 (au (aq (gR o8 3)))]else af [.U ak (gR o4 7),.bool (gB o4 0),.agg (sT (ab aI 0 (gC o4 1)) [(6,.aa 1),(8,.mp 2)]),.U ai (gR o4 2),.U 0 (au (aq (gR o4 3)))]else af [.U ak (gR o2 6),.bool (gB o2 0),.agg (sT (ab aI 0 (gC o2 1)) [(6,.aa 1),(8,.mp 2)]),.U ai (gR o2 2),.U 0 (au (aq (gR o2 3)))]else af [.U ak (gR o1 6),.bool (gB o1 0),.agg (sT (ab aI 0 (gC o1 1)) [(6,.aa 1),(8,.mp 2)]),.U ai (gR o1 2),.U 0 (au (aq (gR o1 3)))]:aF):=by kernel_rfl
def alz:bC CX EE G N NY [.agg l0,.agg l1]=(bif gB l1 3 then bif gB l0 1 then dr else bif gB l0 0 then none else cQ else bif !(gB l0 0)then bif cj (gI l1 1) (gI l0 3)then af [.bool (cj (gI l0 4) (gI l1 2))]else cQ else cQ:aF):=by kernel_rfl
def akH:bC CX EE G N NN [iI i0,.agg l1,.agg l2,.agg l3,.U ai r4,.U 0 r5]=(bI i0 (gR l3 0)<|bO (G NY [fA l1,v5 (ba (gR l3 0) i0)]) λ_ o1=>af [.bool (!(gB o1 0)),fA l1,.agg (sT (ab bh 0 l2) [(0,.ptr 2 0 0)]),.agg (sT (ab aI 0 l3) [(6,.aa 3),(8,.mp 4)]),.U ai r4,.U 0 (au (aq r5))]:aF):=by kernel_rfl
def VG:G5 G N (n+1) [.U ak r0,iI i1,iI i2,.agg l3,.agg l4,.agg l5,.U ai r6,.U 0 r7]=(bif aW i2 i1 then bI i2 r0<|bO (G NN [iI (gI (ba r0 i2) 0),fA l3,.agg (sT (ab bh 0 l4) [(0,.ptr 2 0 0)]),.agg (sT (ab aI 0 l5) [(6,.aa 3),(8,.mp 4)]),.U ai r6,.U 0 (au (aq r7))]) λ_ o1=>bif gB o1 0 then af [iI i2,fA (gC o1 1),.agg (sT (ab bh 0 (gC o1 2)) [(0,.ptr 2 0 0)]),.agg (sT (ab aI 0 (gC o1 3)) [(6,.aa 3),(8,.mp 4)]),.U ai (gR o1 4),.U 0 (au (aq (gR o1 5)))]else G5 G N n [.U ak r0,iI i1,cm i2,fA (gC o1 1),.agg (sT (ab bh 0 (gC o1 2)) [(0,.ptr 2 0 0)]),.agg (sT (ab aI 0 (gC o1 3)) [(6,.aa 3),(8,.mp 4)]),.U ai (gR o1 4),.U 0 (au (aq (gR o1 5)))]else br [fA l3,.agg (sT (ab bh 0 l4) [(0,.ptr 2 0 0)]),.agg (sT (ab aI 0 l5) [(6,.aa 3),(8,.mp 4)]),.U ai r6,.U 0 (au (aq r7))]:aF):=by kernel_rfl
def agX:bC CX EE G N Ms [.U ak r0,.agg l1,.agg l2,.agg l3,.U ai r4,.U 0 r5]=(bO (G5 G N N [.U ak r0,iI (ln r0),iI 0,fA l1,.agg (sT (ab bh 0 l2) [(0,.ptr 2 0 0)]),.agg (sT (ab aI 0 l3) [(6,.aa 3),(8,.mp 4)]),.U ai r4,.U 0 (au (aq r5))]) λq2 o2=>bif cH q2 then af [iI (gI o2 0),fA (gC o2 1),.agg (sT (ab bh 0 (gC o2 2)) [(0,.ptr 2 0 0)]),.agg (sT (ab aI 0 (gC o2 3)) [(6,.aa 3),(8,.mp 4)]),.U ai (gR o2 4),.U 0 (au (aq (gR o2 5)))]else af [iI (-1),fA (gC o2 0),.agg (sT (ab bh 0 (gC o2 1)) [(0,.ptr 2 0 0)]),.agg (sT (ab aI 0 (gC o2 2)) [(6,.aa 3),(8,.mp 4)]),.U ai (gR o2 3),.U 0 (au (aq (gR o2 4)))]:aF):=by kernel_rfl
def agN:bC CX EE G N Mm [.U ak r0,.agg l1,.agg l2,.agg l3,.U ai r4,.U 0 r5]=(bO (G Ms [.U ak r0,fA l1,.agg (sT (ab bh 0 l2) [(0,.ptr 2 0 0)]),.agg (sT (ab aI 0 l3) [(6,.aa 3),(8,.mp 4)]),.U ai r4,.U 0 (au (aq r5))]) λ_ o1=>af [.bool (cj 0 (gI o1 0)),fA (gC o1 1),.agg (sT (ab bh 0 (gC o1 2)) [(0,.ptr 2 0 0)]),.agg (sT (ab aI 0 (gC o1 3)) [(6,.aa 3),(8,.mp 4)]),.U ai (gR o1 4),.U 0 (au (aq (gR o1 5)))]:aF):=by kernel_rfl
def aly:bC CX EE G N Dy [.agg l0,.agg l1,.U ak r2,.agg l3,.U ai r4,.U 0 r5]=(bO (G AF [.agg (sT (ab bh 0 l0) [(0,.ptr 0 0 0)]),bN l1,.agg (sT (ab aI 0 l3) [(6,.aa 1),(8,.mp 2)]),.U ai r4,.U 0 (au (aq r5))]) λ_ o1=>bif gB o1 1 then bO (G Mm [.U ak r2,fA (gC o1 0),.agg (sT (ab bh 0 l0) [(0,.ptr 2 0 0)]),.agg (sT (ab aI 0 (gC o1 2)) [(6,.aa 3),(8,.mp 4)]),.U ai (gR o1 3),.U 0 (au (aq (gR o1 4)))]) λ_ o2=>af [.bool (!(gB o2 0)),.agg (sT (ab aI 0 (gC o2 3)) [(6,.aa 1),(8,.mp 2)]),.U ai (gR o2 4),.U 0 (au (aq (gR o2 5)))]else af [.bool false,.agg (sT (ab aI 0 (gC o1 2)) [(6,.aa 1),(8,.mp 2)]),.U ai (gR o1 3),.U 0 (au (aq (gR o1 4)))]:aF):=by kernel_rfl
def aiR:bC CX EE G N Hj [.agg l0,.agg l1,.agg l2,.U ai r3,.U 0 r4]=(bO (G AF [.agg (sT (ab bh 0 l0) [(0,.ptr 0 0 0)]),bN l1,.agg (sT (ab aI 0 l2) [(6,.aa 1),(8,.mp 2)]),.U ai r3,.U 0 (au (aq r4))]) λ_ o1=>bif gB o1 1 then bO (G HK [fA (gC o1 0)]) λ_ o2=>af [.bool (gB o2 0),.agg (sT (ab aI 0 (gC o1 2)) [(6,.aa 1),(8,.mp 2)]),.U ai (gR o1 3),.U 0 (au (aq (gR o1 4)))]else af [.bool false,.agg (sT (ab aI 0 (gC o1 2)) [(6,.aa 1),(8,.mp 2)]),.U ai (gR o1 3),.U 0 (au (aq (gR o1 4)))]:aF):=by kernel_rfl
def akm:bC CX EE G N Dr [.agg l0,.agg l1,.agg l2,.U ai r3,.U 0 r4]=(bO (G AF [.agg (sT (ab bh 0 l0) [(0,.ptr 0 0 0)]),bN l1,.agg (sT (ab aI 0 l2) [(6,.aa 1),(8,.mp 2)]),.U ai r3,.U 0 (au (aq r4))]) λ_ o1=>bif gB o1 1 then af [.bool (!(gB (gC o1 0) 0)),.agg (sT (ab aI 0 (gC o1 2)) [(6,.aa 1),(8,.mp 2)]),.U ai (gR o1 3),.U 0 (au (aq (gR o1 4)))]else af [.bool false,.agg (sT (ab aI 0 (gC o1 2)) [(6,.aa 1),(8,.mp 2)]),.U ai (gR o1 3),.U 0 (au (aq (gR o1 4)))]:aF):=by kernel_rfl
def ahU:MM G N [.int .u8 i0,.agg l1,.U ai r2,.U 0 r3]=(bif i0==11 then af [.bool true,.agg (sT (ab aI 0 l1) [(6,.aa 1),(8,.mp 2)]),.U ai r2,.U 0 (au (aq r3))]else af [.bool (i0==15),.agg (sT (ab aI 0 l1) [(6,.aa 1),(8,.mp 2)]),.U ai r2,.U 0 (au (aq r3))]:aF):=by kernel_rfl
def ahF:MI G N [.int .u8 i0,.agg l1,.U ai r2,.U 0 r3]=(bif i0==12 then af [.bool true,.agg (sT (ab aI 0 l1) [(6,.aa 1),(8,.mp 2)]),.U ai r2,.U 0 (au (aq r3))]else af [.bool (i0==13),.agg (sT (ab aI 0 l1) [(6,.aa 1),(8,.mp 2)]),.U ai r2,.U 0 (au (aq r3))]:aF):=by kernel_rfl
end
end Go.Proofs.YtffabbjfdgmbjaaGreat

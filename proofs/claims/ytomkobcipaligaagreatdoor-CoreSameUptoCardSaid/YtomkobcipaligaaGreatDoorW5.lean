/-
  The form of the statements of a valid program. Printed by mksr.py.
-/
import Derived.Test.YtomkobcipaligaaGreatDoorW4
set_option linter.all false
set_option linter.deprecated false
set_option maxHeartbeats 4000000
namespace Go.aj
def abg{p:Prop}(h:p:=by simp only [sX,Ui,U,h2,h3,h4,h5,bU,cf];rfl):p:=h
def akL{p:Prop}(h:p:=by simp only [sX,Ui,U,h2,h3,h4,h5,h6,bU,cf];rfl):p:=h
end Go.aj
namespace Go.Proofs.B.C
open Go Go.aj
def uH:SO:=⟨false,false,[],0,0⟩
def Dt:SO:=⟨false,false,[],0,1⟩
def MN:SO:=⟨false,false,[],-2147483648,2147483647⟩
def Ol:Ev A4 [] (0,[J (cA Dt)]):=bh azq aH
def TV:Ev Rc [] (0,[J (cA MN)]):=bh ayV aH
def Eu(p:Int):Bool:=bif decide (1<=p)then decide (p<=6)else false
def Et(p:Int):Bool:=bif p==7 then true else p==8
def Ca(p:Int):Bool:=bif decide (9<=p)then decide (p<=12)else false
def Es(p:Int):Bool:=bif decide (13<=p)then decide (p<=15)else false
def GH(a b:SO):Bool:=bif !a.ptr then !b.ptr else false
def Ui(a b:SO):Bool:=bif GH a b then true else bif (bif a.ptr then true else a.null)then(bif b.ptr then true else b.null)else false
def NP(a b:SO):Bool:=bif wP a then wP b else false
def sX(p:Int)(a b:SO):SO×Bool:=
 bif Eu p then(MN,GH a b)else bif Et p then(Dt,Ui a b)else bif Ca p then(Dt,GH a b)else bif Es p then(Dt,NP a b)else(uH,false)
def aD4(a b:SO):cW XT [J (cA a),J (cA b)] (0,[aJ (GH a b),J (cA a),J (cA b)]):=
 cL awI (aW (c:= !a.ptr) (λh=>aq (by simp only [GH,h,bU];rfl)) λh=>aq (by simp only [GH,h,cf];rfl))
def aJ2(p:Int):cW XH [cE p] (0,[aJ (Eu p)]):=
 cL avZ (aW (λh=>aq (by simp only [Eu,h,bU])) λh=>aq (by simp only [Eu,h,cf]))
def aJ1(p:Int):cW Xu [cE p] (0,[aJ (Et p)]):=
 cL avl (aW (λh=>aq (by simp only [Et,h,bU])) λh=>aq (by simp only [Et,h,cf]))
def aLA(p:Int)(a b:SO):Ev X7 [cE p,J (cA a),J (cA b)] (0,[J (cA (sX p a b).1),aJ (sX p a b).2]):=by
 have two:∀r,(bif wP a then(0,[J (cA Dt),aJ (wP b)])else(0,[J (cA Dt),bq]))=r->E (λN n=>bO (FU CX EE N A4 []) λ_ o7=>bO (FU CX EE N u6 [J (cA a)]) λ_ o8=>bif gB o8 0 then bO (FU CX EE N u6 [J (cA b)]) λ_ o9=>some (0,[J (bg sx 0 (gC o7 0)),aJ (gB o9 0)])else some (0,[J (bg sx 0 (gC o7 0)),bq])) r:=λr hr=>
  ah Ol (ah (DP a) (aW (c:=wP a) (λh=>ah (DP b) (aq (by rw [<-hr,h];rfl))) λh=>aq (by rw [<-hr,h];rfl)))
 refine bh axT (ah (aD4 a b) (ah (aJ2 p) (aW (c:=Eu p) (λU=> ?_) λU=>ah (aJ1 p) (aW (c:=Et p) (λh2=> ?_) λh2=>aW (λh3=>aW (λh4=> ?_) λh4=> ?_) λh3=> ?_))))
 ·exact ah TV (aq (by simp only [sX,U,bU];rfl))
 ·refine ah Ol (aW (c:=GH a b) (λh3=>aq (by simp only [sX,Ui,U,h2,h3,bU,cf];rfl)) λh3=>aW (c:=a.ptr) (λh4=>aW (c:=b.ptr) (λh5=>aq (abg)) λh5=>aq (abg)) λh4=>aW (c:=a.null) (λh5=>aW (c:=b.ptr) (λh6=>aq (akL)) λh6=>aq (akL)) λh5=>aq (abg))
 ·exact ah Ol (aq (by simp only [sX,U,h2,Ca,h3,h4,bU,cf];rfl))
 ·refine aW (λh5=>aW (λh6=>two _ ?_) λh6=>aq ?_) λh5=>aq ?_
  ·simp only [sX,U,h2,Ca,h3,h4,Es,h5,h6,NP,bU,cf];cases wP a<;>rfl
  ·simp only [sX,U,h2,Ca,h3,h4,Es,h5,h6,bU,cf];rfl
  ·simp only [sX,U,h2,Ca,h3,h4,Es,h5,bU,cf];rfl
 ·refine aW (λh5=> ?_) λh5=>aq ?_
  ·exfalso;simp at h3 h5;omega
  ·simp only [sX,U,h2,Ca,h3,Es,h5,cf];rfl
def EB(l:List OB):bQ->Bool->Int->Int->Int×Int
 | [],_,lo,hi=>(lo,hi)
 |x::xs,true,_,_=>EB l xs false (yS (fp l x).lo (fp l x).lo) (imax (fp l x).hi (fp l x).hi)
 |x::xs,false,lo,hi=>EB l xs false (yS lo (fp l x).lo) (imax hi (fp l x).hi)
def Aj(l:List OB)(s:SO):SO×Bool:=bif (bif s.ptr then true else s.null)then(⟨false,false,[],(EB l s.set true 0 0).1,(EB l s.set true 0 0).2⟩,true)else(uH,false)
def zi0{i:Nat}:((i:Int)==0)=(i==0):=by
 cases i with
 |zero=>rfl
 |succ n=>exact fB
def aJR{l:List OB}{en:Int}{s:SO}(hs:s.set.length<=mx)(hi:∀x∈s.set,ib x l.length=true):
 Ev WU [J [bl (cz l),iI en],J (cA s)] (0,[J (sT (cA (Aj l s).1) UH),aJ (Aj l s).2,aM (ints (Aj l s).1.set)]):=by
 have h:=ku (m:=s.set.length) (P:=λi=>∀lo hi:Int,cq HY [aM (ints s.set),iI (ln (ints s.set)),iI (i:Int),J [bl (cz l),iI en],J [bq,bq,.au 2,iI lo,iI hi],aM []]
  (0,[J [bl (cz l),iI en],J [bq,bq,.au 2,iI (EB l (s.set.drop i) (i==0) lo hi).1,iI (EB l (s.set.drop i) (i==0) lo hi).2],aM []]))
  (λlo hi=>bF aer (az eo (aq (by rw [qw];rfl))))
  λi h ih lo ca=>bF aer<|bE (dz h)<|aA (cb h)<|by
   have hx:=hi s.set[i] (ei h);rw [dk h,ix h hs];rw [show gI [iI s.set[i]] 0=s.set[i]from rfl,show gR [bl (cz l),iI en] 0=cz l from rfl,vA hx];refine aA (by rw [zY];exact hx) ?_;rw [zi0,lY h];have e1:(i+1==0)=false:=rfl;rw [e1]at ih;cases hz:i==0 with
   |true=>exact bp (ih _ _)
   |false=>exact av (ih _ _)
 have h0:=h 0 0;rw [il]at h0;have fin:E (λN m=>bO (HY (FU CX EE N) N N [aM (gR (cA s) 2),iI (ln (gR (cA s) 2)),iI 0,J [bl (cz l),iI en],J [bq,bq,.au 2,iI 0,iI 0],aM []]) λ_ o2=>some (0,[J (sT (bg Da 0 (gC o2 1)) UH),fF,aM (gR o2 2)]))
  (0,[J (sT (cA ⟨false,false,[],(EB l s.set true 0 0).1,(EB l s.set true 0 0).2⟩) UH),fF,aM (ints [])]):=ah h0.diag aH
 refine bh atL (aEY asy (aiq (c:= !s.ptr) (λU=>aiq (c:= !s.null) (λh2=>aaj (av (aq ?_))) λh2=>aaj (bp ?_)) λU=>aaj (bp ?_)))
 ·have:(bif s.ptr then true else s.null)=false:=by cases hp:s.ptr<;>simp_all
  simp only [Aj,this,cf];rfl
 ·have:(bif s.ptr then true else s.null)=true:=by cases hp:s.ptr<;>simp_all
  simp only [Aj,this,bU];exact fin
 ·have:(bif s.ptr then true else s.null)=true:=by cases hp:s.ptr<;>simp_all
  simp only [Aj,this,bU];exact fin
end Go.Proofs.B.C
namespace Go.aj
def SJ{p:Prop}(h:p:=by simp only [mx];omega):p:=h
end Go.aj
namespace Go.Proofs.B.C
open Go Go.aj
section
variable{l:List OB}{n:Nat}{s:SO}
structure _root_.Go.Proofs.B.SO.Inv(n:Nat)(s:SO):Prop where
 nd:s.set.Nodup
 n7:∀x∈s.set,ib x n=true
def oX{x:Int}:ib x n=true ↔ 0<=x/\x<n:=by simp [ib]
def YR:∀(n:Nat) (l:bQ),l.Nodup->(∀x∈l,ib x n=true)->l.length<=n
 |0,l,_,h=>by
  cases l with
  |nil=>simp
  |cons x xs=>have:=oX.1 (h x (by simp));omega
 |n+1,l,hd,h=>by
  have hle:l.length<=(l.filter λx=>x != (n:Int)).length +1:=by
   clear h
   induction l with
   |nil=>simp
   |cons x xs ih=>
    rw [FM]at hd
    by_cases hx:x=(n:Int)
    ·subst hx;have:(xs.filter λx=>x != (n:Int))=xs:=List.filter_eq_self.2 λy hy=>by
      simp;rintro rfl;exact hd.1 hy
     rw [List.filter_cons_of_neg (by simp),this];simp
    ·rw [List.filter_cons_of_pos (MZ)];have:=ih hd.2;simp only [fk];omega
  have:=YR n (l.filter λx=>x != (n:Int)) (hd.filter _) λx hx=>by
   rw [List.mem_filter]at hx;have U:=oX.1 (h x hx.1);have h2:x≠(n:Int):=by simpa using hx.2
   exact oX.2 ⟨U.1,by omega⟩
  omega
def _root_.Go.Proofs.B.SO.Inv.len(h:s.Inv n):s.set.length<=n:=YR n _ h.nd h.n7
structure OL(l:List OB):Prop where
 len:l.length<=2048
 emp:∀o∈l,o.ptr=false->o.set=[]
 nd:∀o∈l,o.set.Nodup
 n7:∀o∈l,∀x∈o.set,ib x l.length=true
def OL.ok(h:OL l){o:OB}(ho:o∈l):o.Ok:=by
 have:=YR _ _ (h.nd o ho) (h.n7 o ho);have:=h.len;show o.set.length<=mx;exact SJ
def De{i:Int}(h:ib i l.length=true):fp l i∈l:=by
 have:=oX.1 h;have h2:i.toNat<l.length:=by omega
 simp only [fp,wA,dy h2,uh];exact ei h2
def _root_.Go.Proofs.B.SO.Inv.le(h:s.Inv n)(hn:n<=2048):s.set.length<=mx:=by have:=h.len;show s.set.length<=1048576;omega
def ZY{l:bQ}{n:Int}:gv l n=true ↔ n∈l:=by simp [gv]
def xH(h:s.set=[]):s.Inv n:=⟨by rw [h];exact Mv,λx hx=>by rw [h]at hx;simp at hx⟩
def aAl:(Aj l s).1.set =[]:=by
 unfold Aj;cases(bif s.ptr then true else s.null)<;>rfl
def D8(a b:SO):Bool:=bif !a.ptr&& !b.ptr then true else(a.ptr||a.null)&&(b.ptr||b.null)
structure UN(a b s:SO):Prop where
 ptr:s.ptr=(a.ptr||b.ptr)
 null:s.null=false
 lo:s.lo=bif a.ptr||b.ptr then 0 else yS a.lo b.lo
 hi:s.hi=bif a.ptr||b.ptr then 0 else imax a.hi b.hi
 set:∀x,x∈s.set ↔ (a.ptr=true/\x∈a.set)∨(b.ptr=true/\x∈b.set)
def UN.n7{n:Nat}{a b s:SO}(ha:a.Inv n)(hb:b.Inv n)(h:UN a b s):∀x∈s.set,ib x n=true:=λx hx=>by
 rcases(h.set x).1 hx with⟨_,h⟩|⟨_,h⟩
 ·exact ha.n7 x h
 ·exact hb.n7 x h
end
def ag1{l:bQ}{x:Int}(h:l.Nodup)(hx:x∉l):(l++[x]).Nodup :=by
 rw [List.nodup_append];exact⟨h,by simp,λa ha b hb=>by simp at hb;subst hb;rintro rfl;exact hx ha⟩
abbrev z2:ak:=[bq,bq,.au 2,iI 0,iI 0]
abbrev z3:ak:=[bq,bq,.au 3,iI 0,iI 0]
abbrev z4:ak:=[bq,bq,.au 4,iI 0,iI 0]
end Go.Proofs.B.C
namespace Go.aj
def MU{p:Prop}(h:p:=by rw [U,h2];rfl):p:=h
end Go.aj
namespace Go.Proofs.B.C
open Go Go.aj
section
variable{e:CE}{la ls xs:List SO}{i n:Nat}
theorem aDc(l:aY)(hl:l.length<=1000):E (λN _=>DZ CP (FU CX EE N Fb) (FU CX EE N Fa) (FU CX EE N Lz) [gr l]) (0,[gr l]):=by
 cases l with
 |nil=>
  obtain⟨B,U⟩:Ev Fb [] (0,[gr []]):=bh asB aH;obtain⟨C,h2⟩:Ev Fa [] (0,[gr []]):=bh asA aH;refine⟨B+C,λN n hN _=> ?_⟩;have U:FU CX EE N Fb []=_:=U N N (by omega) (by omega);have h2:FU CX EE N Fa []=_:=h2 N N (by omega) (by omega);show DZ CP (FU CX EE N Fb) (FU CX EE N Fa) (FU CX EE N Lz) [gr []]=_;show(bif xX CP (FU CX EE N Fb [])&&xX CP (FU CX EE N Fa [])then some (0,[gr []])else none)=_;exact MU
 |cons x xs=>
  have h:Ev Lz [gr (x::xs)] (0,[gr (x::xs)]):=bh auh (av (aA (by simp at hl⊢;omega) aH));exact h
theorem aDd(l:aY)(hl:l.length<=100000):E (λN _=>DZ wI (FU CX EE N H4) (FU CX EE N H3) (FU CX EE N P9) [aM l]) (0,[aM l]):=by
 cases l with
 |nil=>
  obtain⟨B,U⟩:Ev H4 [] (0,[aM []]):=bh atd aH;obtain⟨C,h2⟩:Ev H3 [] (0,[aM []]):=bh atc aH;refine⟨B+C,λN n hN _=> ?_⟩;have U:FU CX EE N H4 []=_:=U N N (by omega) (by omega);have h2:FU CX EE N H3 []=_:=h2 N N (by omega) (by omega);show(bif xX wI (FU CX EE N H4 [])&&xX wI (FU CX EE N H3 [])then some (0,[aM []])else none)=_;exact MU
 |cons x xs=>
  have h:Ev P9 [aM (x::xs)] (0,[aM (x::xs)]):=bh auG (av (aA (by simp at hl⊢;omega) aH));exact h
def pM:Prop:=∀{n:Nat},n<=2048->∀{a b:SO},a.Inv n->b.Inv n->∃s,Ev L2 [J (cA a),J (cA b)] (0,[J (sT (cA s) UH),aJ (D8 a b),aM (ints s.set)])/\(D8 a b=true->s.Inv n/\UN a b s)
abbrev qI(l:List OB)(en:Int):AV:= J [bl (cz l),iI en]
theorem adk(e:CE):gI (aZ e) 0=e.kind:=SI
theorem aK9(e:CE):gI (aZ e) 1=e.op:=SI
theorem apW(e:CE):gI (aZ e) 3=e.O:=SI
def AS(e:CE)(i:Nat)(ls xs:List SO):List SO:=bif e.kind==10 then bif (i:Int)==1 then ls++[xs.getD 0 uH]else ls else ls
theorem arC(hi:i=xs.length)(hl:ls.length<=900):cW Wl [gr (ls.map cA),iI (i:Int),gr (ls.map cA),J (aZ e),gr (xs.map cA)]
 (0,[gr ((AS e i ls xs).map cA),J (aZ e),gr (xs.map cA)]):=by
 refine cL asc ?_;rw [adk,iK];refine aW (λU=>aW (λh2=> ?_) λh2=>aq ?_) λU=>aq ?_
 ·have h3:(i:Int)=1:=by simpa using h2
  obtain⟨x,hx⟩:∃x,xs=[x]:=by
   match xs,hi with
   | [x],_=>exact⟨x,rfl⟩
   | [],h=>exact yC
   |_::_::_,h=>exact yC
  subst hx;refine ah (aDc _ (fB)) (aA rfl (aA rfl (aA ?_ (aq ?_))))
  ·rw [show gR (0,[gr (ls.map cA)]).2 0=ls.map cA from rfl,fY];simp;omega
  ·simp only [AS,U,h2,bU,tj];rfl
 ·simp only [AS,U,h2,bU,cf]
 ·simp only [AS,U,cf]
theorem al3:∀{l:List CE} {y:CE},y∈l->vX y<=wX l
 |x::xs,y,h=>by
  simp only [wX];rcases fV.1 h with rfl|h
  ·omega
  ·have:=al3 h;omega
section
variable {l:List OB} (ol:OL l) (en:Int)
theorem aDf:(AS e i ls xs).length <=ls.length+1:=by
 unfold AS;cases e.kind==10<;>cases(i:Int)==1<;>simp
inductive iQ(l:List OB):CE->Prop
 |mk(e:CE)(h:(e.kind==2||e.kind==3||e.kind==12)=true->ib e.O l.length=true)(h2:e.kind=2->qb l e.O e.off=true)(h4:e.kind=4->e.op=16∨e.op=17∨e.op=18)(h5:e.kind=5->1<=e.op/\e.op<=15)(hk:∀y∈e.L,iQ l y)(hf:sc e=true):iQ l e
def AI(n:Nat)(xs:List SO):Prop:=∀s∈xs,s.Inv n
theorem AI.snoc{s:SO}(h:AI n xs)(hs:s.Inv n):AI n (xs++[s]):=λy hy=>by
 rcases mE.1 hy with hy|hy
 ·exact h y hy
 ·rw [my.1 hy];exact hs
def abz(l:List OB)(en:Int)(e:CE):Prop:=∀la:List SO,AI l.length la->la.length+vX e<=900->∃s b,
 Ev LJ [qI l en,J (aZ e),gr (la.map cA)] (0,[J (cA s),aJ b])/\(b=true->s.Inv l.length/\iQ l e)
theorem aEQ(h:AI n la)(hx:AI n xs)(hi:i=xs.length):AI n (AS e i la xs):=by
 unfold AS;cases e.kind==10 with
 |false=>exact h
 |true=>
  cases h2:(i:Int)==1 with
  |false=>exact h
  |true=>
   have h3:(i:Int)=1:=uq;refine h.snoc (hx _ ?_);rw [wA,dy (by omega)];exact ei _
theorem elems(bB:e.Ok)(hn:e.L.length<=1000)(ih:∀y∈e.L,abz l en y)(Cp:AI l.length la)(hd:la.length+vX e<=900):
 (∃xs,AI l.length xs/\xs.length=e.L.length/\(∀y∈e.L,iQ l y)/\
   cq zv [gr (la.map cA),bR (e.L.map aZ),iI (ln (e.L.map aZ)),iI 0,qI l en,J (aZ e),J z4,gr [],aM []]
    (1,[qI l en,J (aZ e),J z4,gr (xs.map cA),aM []]))∨
 (cq zv [gr (la.map cA),bR (e.L.map aZ),iI (ln (e.L.map aZ)),iI 0,qI l en,J (aZ e),J z4,gr [],aM []]
     (0,[bq,qI l en,J (aZ e),J z3,aM []])):=by
 have h:=ku (m:=e.L.length) (P:=λi=>∀us,AI l.length us->us.length=i->
  (∃xs,AI l.length xs/\xs.length=e.L.length/\(∀y∈e.L.drop i,iQ l y)/\
    cq zv [gr (la.map cA),bR (e.L.map aZ),iI (ln (e.L.map aZ)),iI (i:Int),qI l en,J (aZ e),J z4,gr (us.map cA),aM []]
     (1,[qI l en,J (aZ e),J z4,gr (xs.map cA),aM []]))∨
  (cq zv [gr (la.map cA),bR (e.L.map aZ),iI (ln (e.L.map aZ)),iI (i:Int),qI l en,J (aZ e),J z4,gr (us.map cA),aM []]
      (0,[bq,qI l en,J (aZ e),J z3,aM []])))
  (λus Vb hu=> .inl ⟨us,Vb,hu,by rw [qw];simp,bF aeH (az eo (aq (by rw [iK];rfl)))⟩)
  λi hi mu us Vb hu=>by
   have zn:=al3 (ei hi);have oR:=Te e;have HC:=aDf (e:=e) (i:=i) (ls:=la) (xs:=us);obtain⟨s,b,U,h3⟩:=ih e.L[i] (ei hi) (AS e i la us) (aEQ Cp Vb hu.symm) (by omega);have cr:∀r,E (λN m=>bif !(gB (0,[J (cA s),aJ b]).2 1)then some (0,[bq,qI l en,J (aZ e),J z3,aM []])else zv (FU CX EE N) N m [gr (la.map cA),bR (e.L.map aZ),iI (ln (e.L.map aZ)),iI ((i+1:Nat):Int),qI l en,J (aZ e),J z4,gr ((us++[s]).map cA),aM []]) r->
    cq zv [gr (la.map cA),bR (e.L.map aZ),iI (ln (e.L.map aZ)),iI (i:Int),qI l en,J (aZ e),J z4,gr (us.map cA),aM []] r:=λr hr=>by
    refine bF aeH (bE (dz hi) (aA (cb hi) ?_));rw [iK];refine ah (arC hu.symm (by omega)) ?_;rw [Gl hi,ix hi bB.len,show gC (0,[gr ((AS e i la us).map cA),J (aZ e),gr (us.map cA)]).2 1=aZ e from rfl,iK];refine ah U ?_;rw [tj]at hr;cases b with
    |false=>exact hr
    |true=>
     refine av (aA ?_ hr);show decide (((us.map cA).length +1)*48<=140737488355328)=true;rw [fY];simp;omega
   cases b with
   |false=>exact .inr (cr _ (bp aH))
   |true=>
    obtain⟨ri,di⟩:=h3 rfl;rcases mu (us++[s]) (Vb.snoc ri) (by simp [hu])with⟨xs,q1,q2,q0,q3⟩|q1
    ·refine .inl ⟨xs,q1,q2,λy hy=> ?_,cr _ (av q3)⟩;rw [lY hi]at hy;rcases fV.1 hy with rfl|hy
     ·exact di
     ·exact q0 y hy
    ·exact .inr (cr _ (av q1))
 exact h [] (λ_ h=>aD) rfl
end
end
end Go.Proofs.B.C
namespace Go.aj
def alb{p:Prop}(h:p:=by
 unfold sc at hf;simp only [bw]at hf;exact hf.1.1.1.1.1.1.1):p:=h
end Go.aj
namespace Go.Proofs.B.C
open Go Go.aj
section
variable{e:CE}
section
variable {l:List OB} (en:Int)
theorem ahS{la xs:List SO}(hf:sc e=true){r:UO}
 (hl:cq zv [gr (la.map cA),bR (e.L.map aZ),iI (ln (e.L.map aZ)),iI 0,qI l en,J (aZ e),J z4,gr [],aM []] r):
 cW P0 [gr (la.map cA),qI l en,J (aZ e),J z4,gr [],aM []]
  (bif Nat.beq r.1 0 then(1,[aJ (gB r.2 0),J [bl (gR (gC r.2 1) 0),iI (gI (gC r.2 1) 1)],J (bg lU 0 (gC r.2 2)),J (sT (bg Da 0 (gC r.2 3)) UI),aM (gR r.2 4)])
    else(0,[J [bl (gR (gC r.2 0) 0),iI (gI (gC r.2 0) 1)],J (bg lU 0 (gC r.2 1)),J (sT (bg Da 0 (gC r.2 2)) ap3),gr (gR r.2 3),aM (gR r.2 4)])):=by
 refine cL atE ?_;rw [N8,iK];refine ah hl.diag (aW (λh=>aq (sJ)) λh=>aq (sJ))
theorem aEP(hf:sc e=true){k:Int}(hk:e.kind=k):(gx (.mk k e.op e.N e.O e.off e.len e.lo e.hi e.L)).2 =(e.L.length:Int):=by
 have U:((gx e).2 ==(e.L.length:Int))=true:=alb;rw [<-eq_of_beq U,<-hk,<-CE.eta]
end
end
end Go.Proofs.B.C
namespace Go.aj
def oq{p:Prop}(h:p:=by rw [ek];rfl):p:=h
def alv{p:Prop}(h:p:=by
 cases ha:decide (0<=o)<;>rw [ha]at hs
 ·cases hs
 cases hb:decide (o<(l.length:Int))<;>rw [hb]at hs
 ·cases hs
 exact zX ha hb):p:=h
def S7{p:Prop}(h:p:=by have:(1:Int)=(xs.length:Int):=ar;omega):p:=h
def ajI{p:Prop}(h:p:=by have:(2:Int)=(xs.length:Int):=ar;omega):p:=h
end Go.aj
namespace Go.aj
def ahK:=@decide_eq_false_iff_not
end Go.aj
namespace Go.Proofs.B.C
open Go Go.aj
section
variable{f o p:Int}{l:List OB}{xs:List SO}{n:Nat}{a b:SO}
def ajg(k:Int):cW Wc [cE k] (0,[aJ (bif k==6 then true else k==7)]):=
 cL arK (aW (λU=>aq (by simp only [U,bU])) λU=>aq (by simp only [U,cf]))
def Sx(h:AI n xs)(hl:xs.length=1):∃x,xs=[x]/\x.Inv n:=by
 match xs,hl with
 | [x],_=>exact⟨x,rfl,h x (by simp)⟩
def aao(h:AI n xs)(hl:xs.length=2):∃x y,xs=[x,y]/\x.Inv n/\y.Inv n:=by
 match xs,hl with
 | [x,y],_=>exact⟨x,y,rfl,h x (by simp),h y (by simp)⟩
def aAa(h:AI n xs)(hl:xs.length=3):∃x y z,xs=[x,y,z]/\x.Inv n/\y.Inv n/\z.Inv n:=by
 match xs,hl with
 | [x,y,z],_=>exact⟨x,y,z,rfl,h x (by simp),h y (by simp),h z (by simp)⟩
def aCc:(sX p a b).1.Inv n:=by
 refine xH ?_;unfold sX;cases Eu p<;>cases Et p<;>cases Ca p<;>cases Es p<;>rfl
def aCb(h:(sX p a b).2 =true):1<=p/\p<=15:=by
 by_cases hp:1<=p/\p<=15
 ·exact hp
 ·exfalso;have U:Eu p=false:=by unfold Eu;simp;omega
  have h2:Et p=false:=by
   unfold Et;rw [show(p==7)=false by simp;omega];exact fB
  have h3:Ca p=false:=by unfold Ca;simp;omega
  have h4:Es p=false:=by unfold Es;simp;omega
  unfold sX at h;rw [U,h2,h3,h4]at h;exact aD
def aC7(e:CE):(gx e).2 <=3:=by
 unfold gx;generalize kN e.kind=b1;generalize (e.kind==2)=b2;generalize (e.kind==3)=b3;generalize (e.kind==4)=b4;generalize (e.kind==5)=b5;generalize kT e.kind=b6;generalize (e.kind==8)=b7;generalize (e.kind==9)=b8;generalize (e.kind==12)=b9;generalize (e.kind==13)=b10;cases b1<;>simp only [bU,cf]
 ·cases b2<;>simp only [bU,cf]
  ·cases b3<;>simp only [bU,cf]
   ·cases b4<;>simp only [bU,cf]
    ·cases b5<;>simp only [bU,cf]
     ·cases b6<;>simp only [bU,cf]
      ·cases b7<;>simp only [bU,cf]
       ·cases b8<;>simp only [bU,cf]
        ·cases b9<;>simp only [bU,cf]
         ·cases b10<;>simp only [bU,cf]<;>decide
         ·exact bM
        ·exact bM
       ·exact bM
      ·exact bM
     ·exact bM
    ·exact bM
   ·exact bM
  ·exact bM
 ·exact bM
def Dh(hs:qb l o f=true):ib o l.length=true:=by
 unfold qb at hs;exact alv
def aaa{n:Int}(hs:wM l o f n=true):ib o l.length=true:=by
 unfold wM at hs;exact alv
def aDy(hE:pM)(ol:OL l)(en:Int):∀e:CE,e.Ok->abz l en e:=by
 refine CE.ind λe ih bB=> ?_;intro la Cp hd;cases hf:sc e with
 |false=>
  have hJ:=apY e z3;rw [hf]at hJ;refine⟨uH,false,bh Xh ?_,λh=>aD⟩;rw [iK];refine ah (exC e) ?_;rw [show gC (0,[J (aZ (gx e).1),iI (gx e).2]).2 0=aZ (gx e).1 from rfl,iK];exact ah hJ (av aH)
 |true=>
  have hJ:=apY e z3;rw [hf]at hJ;have hn:e.L.length<=1000:=by
   have U:((gx e).2 ==(e.L.length:Int))=true:=alb;have h2:=aC7 e;have h3:=eq_of_beq U;omega
  have qK:∀y∈e.L,abz l en y:=λy hy=>ih y hy (bB.qk hy);rcases elems en bB hn qK Cp hd with⟨xs,AJ,Ch,di,c1⟩|c1
  rotate_left
  ·refine⟨uH,false,bh Xh ?_,λh=>aD⟩
   ·rw [iK];refine ah (exC e) ?_;rw [show gC (0,[J (aZ (gx e).1),iI (gx e).2]).2 0=aZ (gx e).1 from rfl,iK];refine ah hJ (bp ?_);simp only [bU];rw [show gC (0,[J (aZ e),J (sT (bg Da 0 z3) UI),J (aZ (gx e).1),aM []]).2 0=aZ e from rfl,iK];exact ah (ahS (xs:=[]) en hf c1) (av aH)
  have hGC:cW P0 [gr (la.map cA),qI l en,J (aZ e),J z4,gr [],aM []] (0,[qI l en,J (aZ e),J z4,gr (xs.map cA),aM []]):=by
   have:=ahS (xs:=xs) en hf c1;rw [show gC (1,[qI l en,J (aZ e),J z4,gr (xs.map cA),aM []]).2 1=aZ e from rfl,iK]at this;exact this
  have ar:=λk hk=>aEP hf (k:=k) hk;rw [<-Ch]at ar;clear ih qK c1 Ch;have C:∀r:UO,_->Ev LJ [qI l en,J (aZ e),gr (la.map cA)] r:=λr h=>by
   refine bh Xh ?_;rw [iK];refine ah (exC e) ?_;rw [show gC (0,[J (aZ (gx e).1),iI (gx e).2]).2 0=aZ (gx e).1 from rfl,iK];refine ah hJ (bp ?_);simp only [bU];rw [show gC (0,[J (aZ e),J (sT (bg Da 0 z3) UI),J (aZ (gx e).1),aM []]).2 0=aZ e from rfl,iK];refine ah hGC (bp ?_);exact h
  clear hGC hJ bB;cases e with
  |mk k p n o f ln lo hi L=>
  have ar:(gx (.mk k p n o f ln lo hi L)).2 =(xs.length:Int):=ar k rfl;have I4:((k==2||k==3||k==12)=true->ib o l.length=true)->k≠2->k≠4->k≠5->iQ l (.mk k p n o f ln lo hi L):=λh n2 n4 n5=> .mk _ h (λh=>absurd h n2) (λh=>absurd h n4) (λh=>absurd h n5) di hf;have I0:(k==2||k==3||k==12)=false->k≠4->k≠5->iQ l (.mk k p n o f ln lo hi L):=λh n4 n5=>I4 (λh'=>by rw [h]at h';cases h') (λh2=>by subst h2;cases h) n4 n5;have N4:∀{j:Int},k=j->j≠4->k≠4:=λh hj h'=>hj (by rw [<-h,h']);have N5:∀{j:Int},k=j->j≠5->k≠5:=λh hj h'=>hj (by rw [<-h,h']);cases U:k==1 with
  |true=>
   have ek:=eq_of_beq U;refine⟨⟨false,n==0,[],n,n⟩,bif decide (-2147483648<=n)then decide (n<=2147483647)else false,C _ ?_,λ_=>⟨xH rfl,I0 (oq) (N4 ek (bM)) (N5 ek (bM))⟩⟩;exact bE U (aW (c:=decide (-2147483648<=n)) (λh=>aq (sJ)) λh=>aq (sJ))
  |false=>
  cases h2:k==2 with
  |true=>
   have ek:=eq_of_beq h2;have Cm:=Tb (l:=l) (en:=en) (o:=o) (off:=f);cases hs:qb l o f with
   |false=>
    rw [hs]at Cm;exact⟨uH,false,C _ (az U (bE h2 (ah Cm (bp aH)))),λh=>aD⟩
   |true=>
    rw [hs]at Cm;have hi:=Dh hs;have hm:=De hi;refine⟨⟨(fp l o).ptr,false,(fp l o).set,(fp l o).lo,(fp l o).hi⟩,true,C _ (az U (bE h2 (ah Cm (av (aA (by show ib o (cz l).length =true;rw [zY];exact hi) (aq ?_)))))),λ_=>⟨⟨ol.nd _ hm,ol.n7 _ hm⟩,.mk _ (λ_=>hi) (λ_=>hs) (λh=>absurd h (N4 ek (bM))) (λh=>absurd h (N5 ek (bM))) di hf⟩⟩;show(0,[J [aJ (gB (gA (cz l) o.toNat) 3),bq,aM (gR (gA (cz l) o.toNat) 4),iI (gI (gA (cz l) o.toNat) 1),iI (gI (gA (cz l) o.toNat) 2)],fF])=_;rw [vA hi];rfl
  |false=>
  have n2:k≠2:=uq;cases h3:k==3 with
  |true=>
   have ek:=eq_of_beq h3;subst ek;obtain⟨x,rfl,GK⟩:=Sx AJ (S7);have Cm:=aoS (l:=l) (en:=en) (o:=o) (off:=f) (n:=ln);cases hs:wM l o f ln with
   |false=>
    rw [hs]at Cm;exact⟨uH,false,C _ (az U (az h2 (bE h3 (ah Cm (bp aH))))),λh=>aD⟩
   |true=>
    rw [hs]at Cm;have hi:=aaa hs;have ca:ib o (cz l).length =true:=SN;refine⟨bif x.ptr then uH else⟨false,false,[],(fp l o).lo,(fp l o).hi⟩,!x.ptr,C _ (az U (az h2 (bE h3 (ah Cm (av (aA rfl (aA rfl (aW (c:=x.ptr) (λh=>aq (sJ)) λh=>aA ca (aA ca (aq ?_)))))))))),λh=> ?_⟩
    ·rw [h];show(0,[J [bq,bq,aM [],iI (gI (gA (cz l) o.toNat) 1),iI (gI (gA (cz l) o.toNat) 2)],fF])=_;rw [vA hi];rfl
    ·have:x.ptr=false:=by simpa using h
     rw [this];exact⟨xH rfl,I4 (λ_=>hi) n2 (bM) (bM)⟩
  |false=>
  cases h4:k==4 with
  |true=>
   have ek:=eq_of_beq h4;subst ek;obtain⟨x,rfl,GK⟩:=Sx AJ (S7);have I:(p=16∨p=17∨p=18)->iQ l (.mk 4 p n o f ln lo hi L):=λh=> .mk _ (λh'=>by cases h') (λh'=>absurd h' (by show(4:Int)≠2;decide)) (λ_=>h) (λh'=>absurd h' (by show(4:Int)≠5;decide)) di hf;cases ho:p==18 with
   |true=>exact⟨Dt,wP x,C _ (az U (az h2 (az h3 (bE h4 (bE ho (ah Ol (aA rfl (aA rfl (ah (DP x) aH))))))))),λ_=>⟨xH rfl,I (.inr (.inr (eq_of_beq ho)))⟩⟩
   |false=>
   cases hq:p==16 with
   |true=>exact⟨MN,!x.ptr,C _ (az U (az h2 (az h3 (bE h4 (az ho (ah TV (bE hq (aA rfl (aA rfl aH))))))))),λ_=>⟨xH rfl,I (.inl (eq_of_beq hq))⟩⟩
   |false=>
   cases hq2:p==17 with
   |true=>exact⟨MN,!x.ptr,C _ (az U (az h2 (az h3 (bE h4 (az ho (ah TV (az hq (bE hq2 (aA rfl (aA rfl aH)))))))))),λ_=>⟨xH rfl,I (.inr (.inl (eq_of_beq hq2)))⟩⟩
   |false=>exact⟨MN,false,C _ (az U (az h2 (az h3 (bE h4 (az ho (ah TV (az hq (az hq2 aH)))))))),λh=>aD⟩
  |false=>
  have n4:k≠4:=by simpa using h4
  cases h5:k==5 with
  |true=>
   have ek:=eq_of_beq h5;subst ek;obtain⟨x,x1,rfl,GK,aKz⟩:=aao AJ (ajI);exact⟨(sX p x x1).1,(sX p x x1).2,C _ (az U (az h2 (az h3 (az h4 (bE h5 (aA rfl (aA rfl (aA rfl (aA rfl (ah (aLA p x x1) aH)))))))))),λh=>⟨aCc,.mk _ (λh'=>by cases h') (λh'=>absurd h' (by show(5:Int)≠2;decide)) (λh'=>absurd h' (by show(5:Int)≠4;decide)) (λ_=>aCb h) di hf⟩⟩
  |false=>
  have n5:k≠5:=by simpa using h5
  cases h6:(bif k==6 then true else k==7)with
  |true=>
   have k67:k=6∨k=7:=by
    cases h66:k==6 with
    |true=>exact .inl (eq_of_beq h66)
    |false=>rw [h66]at h6;exact .inr (eq_of_beq h6)
   have hk:(gx (.mk k p n o f ln lo hi L)).2 =2:=by rcases k67 with h|h<;>subst h<;>rfl
   obtain⟨x,x1,rfl,GK,aKz⟩:=aao AJ (by rw [hk]at ar;omega);have I6:(k==2||k==3||k==12)=false:=by rcases k67 with h|h<;>subst h<;>rfl
   have xt:=ajg k;rw [h6]at xt;refine⟨Dt,NP x x1,C _ (az U (az h2 (az h3 (az h4 (az h5 (ah xt (bp (ah Ol (aA rfl (aA rfl (ah (DP x) (aW (c:=wP x) (λh=>aA rfl (aA rfl (ah (DP x1) (aq ?_)))) λh=>aq ?_)))))))))))),λ_=>⟨xH rfl,I0 I6 n4 n5⟩⟩
   ·unfold NP;rw [h];rfl
   ·unfold NP;rw [h];rfl
  |false=>
  have xt:=ajg k;rw [h6]at xt;cases h8:k==8 with
  |true=>
   have ek:=eq_of_beq h8;subst ek;obtain⟨x,x1,x2,rfl,Hp,EI,hx2⟩:=aAa AJ (by have:(3:Int)=(xs.length:Int):=ar;omega);obtain⟨s,e1,e2⟩:=hE ol.len EI hx2;refine⟨s,D8 x1 x2&&wP x,C _ (az U (az h2 (az h3 (az h4 (az h5 (ah xt (av (bE h8 (aA rfl (aA rfl (aA rfl (aA rfl (ah e1 (aW (c:=D8 x1 x2) (λh=>aA rfl (aA rfl (ah (DP x) (aq ?_)))) λh=>aq ?_)))))))))))))),λh=> ?_⟩
   ·exact sJ
   ·exact sJ
   ·rw [bw]at h;exact⟨(e2 h.1).1,I0 rfl n4 n5⟩
  |false=>
  cases h9:k==9 with
  |true=>
   have ek:=eq_of_beq h9;subst ek;obtain⟨x,rfl,GK⟩:=Sx AJ (S7);refine⟨⟨false,false,[],lo,hi⟩,bif decide (-2147483648<=lo)then bif decide (hi<=2147483647)then bif decide (lo<=hi)then !x.ptr else false else false else false,C _ (az U (az h2 (az h3 (az h4 (az h5 (ah xt (av (az h8 (bE h9 (aW (c:=decide (-2147483648<=lo)) (λa1=>aW (c:=decide (hi<=2147483647)) (λa2=>aW (c:=decide (lo<=hi)) (λa3=>aA rfl (aA rfl (aq ?_))) λa3=>aq ?_) λa2=>aq ?_) λa1=>aq ?_)))))))))),λ_=>⟨xH rfl,I0 rfl n4 n5⟩⟩
   ·rw [a1,a2,a3];rfl
   ·rw [a1,a2,a3];rfl
   ·rw [a1,a2];rfl
   ·rw [a1];rfl
  |false=>
  cases lR:k==10 with
  |true=>
   have ek:=eq_of_beq lR;subst ek;obtain⟨x,x1,rfl,Hp,EI⟩:=aao AJ (ajI);exact⟨⟨x1.ptr,false,x1.set,x1.lo,x1.hi⟩,true,C _ (az U (az h2 (az h3 (az h4 (az h5 (ah xt (av (az h8 (az h9 (bE lR (aA rfl (aA rfl (aA rfl (aA rfl aH)))))))))))))),λ_=>⟨⟨EI.nd,EI.n7⟩,I0 rfl n4 n5⟩⟩
  |false=>
  cases pA:k==11 with
  |true=>
   have e1:∀ls:List SO,decide (aj.ln (ls.map cA)<=n)=decide ((ls.length:Int)<=n):=λls=>by rw [fM]
   cases a1:decide (n<0)with
   |true=>exact⟨uH,false,C _ (az U (az h2 (az h3 (az h4 (az h5 (ah xt (av (az h8 (az h9 (az lR (bE pA (bE a1 aH)))))))))))),λh=>aD⟩
   |false=>
   cases a2:decide ((la.length:Int)<=n)with
   |true=>exact⟨uH,false,C _ (az U (az h2 (az h3 (az h4 (az h5 (ah xt (av (az h8 (az h9 (az lR (bE pA (az a1 (bE (by show decide (aj.ln (la.map cA)<=n)=true;rw [e1];exact a2) aH))))))))))))),λh=>aD⟩
   |false=>
    simp only [ahK,Int.not_lt,Int.not_le]at a1 a2;obtain⟨j,rfl⟩:∃j:Nat,n=(j:Int):=⟨n.toNat,by omega⟩;have hj:la.length- 1- j<la.length:=by omega
    have hw:bH (bH (aj.ln (la.map cA)- 1)-(j:Int))=((la.length- 1- j:Nat):Int):=by
     rw [fM,pE (n:=(la.length:Int)- 1) (by omega) (by omega),pE (by omega) (by omega)];omega
    have AM:=Cp _ (ei hj);refine⟨⟨la[la.length- 1- j].ptr,false,la[la.length- 1- j].set,la[la.length- 1- j].lo,la[la.length- 1- j].hi⟩,true,C _ (az U (az h2 (az h3 (az h4 (az h5 (ah xt (av (az h8 (az h9 (az lR (bE pA (az (c:=decide ((j:Int)<0)) (by simp) (az (c:=decide (aj.ln (la.map cA)<=(j:Int))) (by rw [e1];simp;omega) (aA (c:=ib (bH (bH (aj.ln (la.map cA)- 1)-(j:Int))) (la.map cA).length) (by rw [hw];exact cb hj) (aq ?_))))))))))))))),λ_=>⟨⟨AM.nd,AM.n7⟩,I0 (by rw [eq_of_beq pA];rfl) n4 n5⟩⟩;show(0,[J (sT (bg sx 0 (gA (la.map cA) (bH (bH (aj.ln (la.map cA)- 1)-(j:Int))).toNat)) [(1,bq)]),fF])=_;rw [hw,dk hj];rfl
  |false=>
  cases Vv:k==12 with
  |true=>
   have hb:E (λN _=>bO (FU CX EE N Ff [qI l en,iI o,iI 0]) λ_ qj=>bif gB qj 0 then bf (ib o ((cz l).length))<|bif !(gB (gA (cz l) o.toNat) 3)then bf (ib o ((cz l).length))<|some (0,[J [fF,bq,aM [[iI o]],iI 0,iI 0],aJ (gI (gA (cz l) o.toNat) 0==1)])else some (0,[J [fF,bq,aM [[iI o]],iI 0,iI 0],bq])else some (0,[J [fF,bq,aM [[iI o]],iI 0,iI 0],bq]))
    (0,[J (cA ⟨true,false,[o],0,0⟩),aJ (ib o l.length&& !(fp l o).ptr &&((fp l o).size ==1))]):=by
    have hk:=Tb (l:=l) (en:=en) (o:=o) (off:=0);refine ah hk (aW (c:=qb l o 0) (λhs=> ?_) λhs=>aq ?_)
    ·have hi:=Dh hs;have ca:ib o (cz l).length =true:=SN;rw [vA hi];exact aA ca (aW (c:= !(fp l o).ptr) (λh=>aA ca (aq (by rw [hi,h];rfl))) λh=>aq (by rw [hi,h];rfl))
    ·have:(ib o l.length&& !(fp l o).ptr &&((fp l o).size ==1))=false:=by
      cases hi:ib o l.length with
      |false=>rfl
      |true=>
       cases hz:(fp l o).size ==1 with
       |false=>simp
       |true=>
        have hz:=eq_of_beq hz;have hh:=oX.1 hi;have ha:decide (0<=o)=true:=by simpa using hh.1
        have hb:decide (o<(l.length:Int))=true:=by simpa using hh.2
        unfold qb at hs;rw [ha,hb,hz]at hs;cases hs
     exact kg
   refine⟨⟨true,false,[o],0,0⟩,ib o l.length&& !(fp l o).ptr &&((fp l o).size ==1),C _ (az U (az h2 (az h3 (az h4 (az h5 (ah xt (av (az h8 (az h9 (az lR (az pA (bE Vv hb)))))))))))),λh=> ?_⟩;rw [bw,bw]at h;exact⟨⟨by simp,λx hx=>by simp at hx;subst hx;exact h.1.1⟩,I4 (λ_=>h.1.1) n2 n4 n5⟩
  |false=>
  cases h13:k==13 with
  |true=>
   have ek:=eq_of_beq h13;subst ek;obtain⟨x,rfl,GK⟩:=Sx AJ (S7);have p1:=aJR (l:=l) (en:=en) (s:=x) (GK.le ol.len) GK.n7;exact⟨(Aj l x).1,(Aj l x).2,C _ (az U (az h2 (az h3 (az h4 (az h5 (ah xt (av (az h8 (az h9 (az lR (az pA (az Vv (bE h13 (aA rfl (aA rfl (ah p1 aH)))))))))))))))),λ_=>⟨xH aAl,I0 rfl n4 n5⟩⟩
  |false=>
   exact⟨⟨false,false,[],0,32⟩,bif decide (0<=n)then decide (n<en)else false,C _ (az U (az h2 (az h3 (az h4 (az h5 (ah xt (av (az h8 (az h9 (az lR (az pA (az Vv (az h13 (aW (c:=decide (0<=n)) (λh=>aq (sJ)) λh=>aq (sJ))))))))))))))),λ_=>⟨xH rfl,I0 (by rw [h2,h3,Vv];rfl) n4 n5⟩⟩
end
end Go.Proofs.B.C
namespace Go.aj
def aa8{p:Prop}(h:p:=by refine ah hi.diag (av (aq ?_));erw [hc];rfl):p:=h
def aa7{p:Prop}(h:p:=by refine ah hi.diag (bp (aq ?_));erw [hc];rfl):p:=h
def aa5{p:Prop}(h:p:=by have:=hw.mZ;simp only [mx];omega):p:=h
def Dn{p:Prop}(h:p:=by rw [hc];rfl):p:=h
def oW{p:Prop}(h:p:=by erw [hc];rfl):p:=h
def akg{p:Prop}(h:p:=by
 rw [show decide (0<=(i:Int))=true by simp]at this;exact this):p:=h
def aaO{p:Prop}(h:p:=by rw [fY];exact ho):p:=h
def aj1{p:Prop}(h:p:=by have:=oX.1 ho;rw [fY];simp;omega):p:=h
def ajE{p:Prop}(h:p:=by have:=hw.qS;simp only [mx];omega):p:=h
end Go.aj
namespace Go.aj
def ja:=@Bool.not_eq_false'
def ZO:=@Classical.axiomOfChoice
end Go.aj
namespace Go.Proofs.B.C
open Go Go.aj
theorem aDZ{e:CE}(h:OG e=true):vX e<=64:=by unfold OG at h;simp at h;omega
theorem ofE(hE:pM){l:List OB}(ol:OL l)(en:Int)(e:CE)(bB:e.Ok):∃s b,
 Ev Qv [qI l en,J (aZ e)] (0,[J (cA s),aJ b])/\(b=true->s.Inv l.length/\iQ l e):=by
 obtain⟨n',hw,_⟩:=aCi e bB 0 256 (by omega) (by omega) (by omega) (by omega);have e1:(decide ((uF e:Int)<=256)&&decide ((0:Int)+vX e<=64))=OG e:=by unfold OG;simp
 rw [e1]at hw;cases h:OG e with
 |false=>
  rw [h]at hw;refine⟨uH,false,bh afE ?_,λh=>aD⟩;rw [iK];exact ah hw (bp aH)
 |true=>
  rw [h]at hw;obtain⟨s,b,U,h3⟩:=aDy hE ol en e bB [] (λ_ h=>aD) (by have:=aDZ h;simp;omega);refine⟨s,b,bh afE ?_,h3⟩;rw [iK];exact ah hw (av (ah U aH))
structure WH where
 task:Int
 marks:bQ
 tq:bQ
 qS:bQ
 mZ:bQ
 loops:bQ
 uz:Bool
 tk:Bool
 MG:Bool
 rW:Int
 deep:Int
structure WH.Ok(w:WH):Prop where
 marks:w.marks.length<=1000
 tq:w.tq.length<=1000
 qS:w.qS.length<=1000
 mZ:w.mZ.length<=1000
 loops:w.loops.length<=1000
structure RO where
 ov:Int
 task:Int
 entry:Int
def BV(r:RO):ak:=[iI r.ov,iI r.task,iI r.entry]
def uI:RO:=⟨-1,-1,-1⟩
abbrev ba(l:List RO):aY:=l.map BV
def lq(l:List RO)(i:Int):RO:=l.getD i.toNat uI
theorem ab4{l:List RO}{i:Int}(h:ib i l.length=true):gA (ba l) i.toNat=BV (lq l i):=by
 have:=oX.1 h;have h2:i.toNat<l.length:=by omega
 rw [xL h2];simp [lq,h2]
def RO.Ok(r:RO):Prop:=r=uI∨0<=r.ov∨0<=r.task
abbrev bm(j:Nat)(w:WH):ak:=[.ptr j 0 0,iI w.task,aM (ints w.marks),aM (ints w.tq),aM (ints w.qS),aM (ints w.mZ),aM (ints w.loops),aJ w.uz,aJ w.tk,aJ w.MG,iI w.rW,iI w.deep]
abbrev dE(i j:Nat)(p:PG)(left:Int):ak:=[bl (cz p.aR),iI (-1),bl (cz p.aR),iI p.dP,jr (p.tasks.map dv),kq (p.c5.map gk),.au i,iI left,.mp j]
def tk0:TK:=⟨0,[],.mk ⟨0,0,0,0,0,0,false,false,false,false,false,0,[],[],[],[],[]⟩ [] [] [] [],0⟩
def qE(l:List TK)(i:Int):TK:=l.getD i.toNat tk0
structure aEX(ps ts:List TK):Prop where
 len:ts.length=ps.length
 aU:∀i,(qE ts i).aU =(qE ps i).aU
structure CT(p:PG)(ts:List TK)(ro:List RO):Prop where
 same:aEX p.tasks ts
 ok:p.Ok
 ol:OL p.aR
 len:ro.length=p.aR.length
 ro:∀r∈ro,r.Ok
 dP:p.dP<=64
 aD6:p.tasks.length<=32
 ent:∀t∈p.tasks,∀e∈t.aU,(∀x∈e.ins,ib x p.aR.length=true)/\(∀x∈e.outs,ib x p.aR.length=true)/\e.ins.length<=8/\e.outs.length<=8
section
variable {p:PG} {ts:List TK} {ro:List RO} (ct:CT p ts ro) {w:WH} (hw:w.Ok) {cn:aY} (hc:bz (aU cn)=cn) {lf:Int}
def uy(ro:List RO)(w:WH)(o:Int):Bool:=
 bif decide (0<=(lq ro o).ov)then gv w.mZ (lq ro o).ov else bif decide ((lq ro o).task <0)then true else bif (lq ro o).task ==w.task then gv w.qS (lq ro o).entry else false
include hw hc in
theorem NZ{o:Int}(ho:ib o ro.length=true):Ev Fi [J (bm 0 w),iI o,J (dE 1 2 p lf),aw (ba ro),.ae 0 cn] (0,[aJ (uy ro w o),J (dE 1 2 p lf),aw (ba ro),.ae 0 cn]):=by
 have pW:ib o (ba ro).length =true:=aaO;refine bh av2 (aA pW (aA (aj1) ?_));rw [hc,ab4 ho];refine aW (c:=decide (0<=(lq ro o).ov)) (λU=>ah (yt (lq ro o).ov (aa5)) (aq ?_)) λU=>aW (c:=decide ((lq ro o).task <0)) (λh2=>aq ?_) λh2=>aW (c:=(lq ro o).task ==w.task) (λh3=>ah (yt (lq ro o).entry (ajE)) (aq ?_)) λh3=>aq ?_
 ·simp only [uy,U,bU];rfl
 ·simp only [uy,U,h2,bU,cf];rfl
 ·simp only [uy,U,h2,h3,bU,cf];rfl
 ·simp only [uy,U,h2,h3,cf];rfl
def BX(ro:List RO)(w:WH)(e:CE):Bool:=
 bif e.kind==2 then uy ro w e.O else bif e.kind==3 then uy ro w e.O else bif e.kind==12 then((lq ro e.O).ov == -1)&&(((lq ro e.O).task == -1)&&(((lq ro e.O).entry == -1)&&true))else true
include ct hw hc in
theorem aDo:∀e:CE,e.Ok->iQ p.aR e->∃b,
 Ev Ie [J (bm 0 w),J (aZ e),J (dE 1 2 p lf),aw (ba ro),.ae 0 cn] (0,[aJ b,J (dE 1 2 p lf),aw (ba ro),.ae 0 cn]):=by
 refine CE.ind λe ih bB di=> ?_;have hr:(e.kind==2||e.kind==3||e.kind==12)=true->ib e.O ro.length=true:=λh=>by
  rw [ct.len];cases di with|mk _ U=>exact U h
 have uA:∀y∈e.L,iQ p.aR y:=by cases di with|mk _ _ _ _ _ U=>exact U
 have hJ:cW Xa [J (dE 1 2 p lf),aw (ba ro),.ae 0 cn,J (bm 0 w),J (aZ e)]
  (bif BX ro w e then(0,[J (dE 1 2 p lf),aw (ba ro),.ae 0 cn,J (bm 0 w),J (aZ e)])else(1,[bq,J (dE 1 2 p lf),aw (ba ro),.ae 0 cn,J (bm 0 w),J (aZ e)])):=by
  refine cL aue ?_;rw [hc,adk,apW,iK];refine aW (λU=> ?_) λU=>aW (λh2=> ?_) λh2=>aW (λh3=> ?_) λh3=>aq ?_
  ·refine ah (NZ hw hc (hr (by rw [U];rfl))) ?_;erw [hc];refine aW (c:= !uy ro w e.O) (λh=>aq ?_) λh=>aq ?_
   ·simp only [jF]at h;simp only [BX,U,h,bU,cf];rfl
   ·simp only [ja]at h;simp only [BX,U,h,bU];rfl
  ·refine ah (NZ hw hc (hr (by rw [h2];simp))) ?_;erw [hc];refine aW (c:= !uy ro w e.O) (λh=>aq ?_) λh=>aq ?_
   ·simp only [jF]at h;simp only [BX,U,h2,h,bU,cf];rfl
   ·simp only [ja]at h;simp only [BX,U,h2,h,bU,cf];rfl
  ·have ho:=hr (by rw [h3];simp);have pW:ib e.O (ba ro).length =true:=aaO;refine aA pW (aA (aj1) ?_);rw [ab4 ho];refine aW (c:= !(((lq ro e.O).ov == -1)&&(((lq ro e.O).task == -1)&&(((lq ro e.O).entry == -1)&&true)))) (λh=>aq ?_) λh=>aq ?_
   ·simp only [jF]at h;simp only [BX,U,h2,h3,h,bU,cf];rfl
   ·simp only [ja]at h;simp only [BX,U,h2,h3,h,bU,cf];rfl
  ·simp only [BX,U,h2,h3,bU,cf];rfl
 cases hu:BX ro w e with
 |false=>
  rw [hu]at hJ;refine⟨false,bh afc ?_⟩;rw [hc,iK];refine ah hJ (av (aq ?_));exact oW
 |true=>
  rw [hu]at hJ;have abX:∀y,∃b,y∈e.L->Ev Ie [J (bm 0 w),J (aZ y),J (dE 1 2 p lf),aw (ba ro),.ae 0 cn] (0,[aJ b,J (dE 1 2 p lf),aw (ba ro),.ae 0 cn]):=λy=>by
   by_cases hy:y∈e.L
   ·obtain⟨b,hb⟩:=ih y hy (bB.qk hy) (uA y hy);exact⟨b,λ_=>hb⟩
   ·exact⟨true,λh=>absurd h hy⟩
  have hf:=ZO abX;obtain⟨f,hf⟩:=hf;have k1:=scan (l:=e.L) (p:=λy=> !f y) (hit:=λi=>(0,[iI (i:Int),J (bm 1 w),J (dE 2 3 p lf),aw (ba ro),.ae 0 cn])) (done:=(1,[J (bm 1 w),J (dE 2 3 p lf),aw (ba ro),.ae 0 cn]))
   (LF:=λi N m=>HR (FU CX EE N) N m [bR (e.L.map aZ),iI (ln (e.L.map aZ)),iI (i:Int),J (bm 1 w),J (dE 2 3 p lf),aw (ba ro),.ae 0 cn])
   (bF adw (az eo (aq (Dn))))
   λi hi r h2 h3=>bF adw<|bE (dz hi)<|aA (cb hi)<|by
    rw [hc,Gl hi,ix hi bB.len];have q:Ev W4 [J (aZ e.L[i]),J (bm 1 w),J (dE 2 3 p lf),aw (ba ro),.ae 0 cn] (0,[aJ (!f e.L[i]),J (bm 1 w),J (dE 2 3 p lf),aw (ba ro),.ae 0 cn]):=by
     refine bh aui ?_;rw [hc,iK];refine ah (hf e.L[i] (ei hi)) (aq ?_);exact oW
    refine ah q ?_;erw [hc];exact aW (λE2=>aq (h2 E2)) h3
  have fin:∀i:Int,cq HR [bR (e.L.map aZ),iI (ln (e.L.map aZ)),iI 0,J (bm 1 w),J (dE 2 3 p lf),aw (ba ro),.ae 0 cn] (0,[iI i,J (bm 1 w),J (dE 2 3 p lf),aw (ba ro),.ae 0 cn])∨(i= -1/\cq HR [bR (e.L.map aZ),iI (ln (e.L.map aZ)),iI 0,J (bm 1 w),J (dE 2 3 p lf),aw (ba ro),.ae 0 cn] (1,[J (bm 1 w),J (dE 2 3 p lf),aw (ba ro),.ae 0 cn]))->
   Ev Ie [J (bm 0 w),J (aZ e),J (dE 1 2 p lf),aw (ba ro),.ae 0 cn] (0,[aJ (!decide (0<=i)),J (dE 1 2 p lf),aw (ba ro),.ae 0 cn]):=λi hi=>by
   have a1:Ev VO [bR (e.L.map aZ),J (bm 1 w),J (dE 2 3 p lf),aw (ba ro),.ae 0 cn] (0,[iI i,J (bm 1 w),J (dE 2 3 p lf),aw (ba ro),.ae 0 cn]):=by
    refine bh aqC ?_;rw [hc];rcases hi with hi|⟨rfl,hi⟩
    ·exact aa7
    ·exact aa8
   have a2:Ev VJ [bR (e.L.map aZ),J (bm 1 w),J (dE 2 3 p lf),aw (ba ro),.ae 0 cn] (0,[aJ (decide (0<=i)),J (bm 1 w),J (dE 2 3 p lf),aw (ba ro),.ae 0 cn]):=by
    refine bh aqp ?_;rw [hc];refine ah a1 (aq ?_);erw [hc];rfl
   refine bh afc ?_;rw [hc,iK];refine ah hJ (bp ?_);erw [hc,N8];refine ah a2 (aq ?_);erw [hc];rfl
  rcases k1 with⟨q1,q2⟩|⟨q1,i,_,q2⟩
  ·exact⟨true,fin (-1) (.inr ⟨rfl,q2⟩)⟩
  ·refine⟨false,?_⟩;have:=fin (i:Int) (.inl q2);exact akg
end
end Go.Proofs.B.C
namespace Go.aj
def Gc{p:Prop}(h:p:=by refine av (aq ?_);erw [hc];rfl):p:=h
def S9{p:Prop}(h:p:=by
 erw [hc];exact aW (λE2=>aq (q1 E2)) q2):p:=h
def akd{p:Prop}(h:p:=by
 rw [hc,iK];refine ah U (av (aq ?_));erw [hc];rfl):p:=h
end Go.aj
namespace Go.Proofs.B.C
open Go Go.aj
section
variable{s:SO}{l:bQ}
theorem NH{α:Type}{l:List α}{p:α->Bool}{LF IX CT:Nat->Nat->Option UO}{st:ak}
 (h:(l.any p=false/\E LF (1,st))∨(l.any p=true/\∃i:Nat,i<l.length/\E LF (0,iI (i:Int)::st)))
 (U:∀i:Int,E LF (0,iI i::st)->E IX (0,iI i::st)) (h2:E LF (1,st)->E IX (0,iI (-1)::st)) (h3:∀i:Int,E IX (0,iI i::st)->E CT (0,aJ (decide (0<=i))::st)):
 E CT (0,aJ (l.any p)::st):=by
 rcases h with⟨h,q⟩|⟨h,i,_,q⟩
 ·rw [h];exact h3 _ (h2 q)
 ·rw [h];have:=h3 _ (U _ q);exact akg
section
variable {p:PG} {ts:List TK} {ro:List RO} (ct:CT p ts ro) {w:WH} (hw:w.Ok) {cn:aY} (hc:bz (aU cn)=cn) {lf:Int} (hE:pM)
abbrev gW(p:PG)(ro:List RO)(lf:Int)(cn:aY):ak:=[J (dE 1 2 p lf),aw (ba ro),.ae 0 cn]
include ct hw hc hE in
theorem Gm(e:CE)(bB:e.Ok):∃s b,
 Ev CK [J (bm 0 w),J (aZ e),J (dE 1 2 p lf),aw (ba ro),.ae 0 cn] (0,J (cA s):: aJ b::gW p ro lf cn)/\(b=true->s.Inv p.aR.length/\iQ p.aR e):=by
 obtain⟨s,b,U,h3⟩:=ofE hE ct.ol (-1) e bB;cases b with
 |false=>
  refine⟨s,false,bh afd ?_,λh=>aD⟩;rw [hc,iK];exact ah U (av aH)
 |true=>
  obtain⟨ri,di⟩:=h3 rfl;obtain⟨b,u1⟩:=aDo ct hw hc (lf:=lf) e bB di;refine⟨s,b,bh afd ?_,λ_=>⟨ri,di⟩⟩;rw [hc,iK];refine ah U (bp (ah u1 (aq ?_)));exact oW
include ct hw hc hE in
theorem acb(e:CE)(bB:e.Ok):∃b,Ev Lr [J (bm 0 w),J (aZ e),J (dE 1 2 p lf),aw (ba ro),.ae 0 cn] (0,aJ b::gW p ro lf cn)/\(b=true->iQ p.aR e):=by
 obtain⟨s,b,U,h3⟩:=Gm ct hw hc (lf:=lf) hE e bB;cases b with
 |false=>
  refine⟨false,bh aeC ?_,λh=>aD⟩;exact akd
 |true=>
  refine⟨wP s,bh aeC ?_,λ_=>(h3 rfl).2⟩;rw [hc,iK];refine ah U (bp (ah (DP s) (aq ?_)));erw [hc];rfl
include ct hw hc hE in
theorem U3(e:CE)(bB:e.Ok):∃b,Ev zx [J (bm 0 w),J (aZ e),J (dE 1 2 p lf),aw (ba ro),.ae 0 cn] (0,aJ b::gW p ro lf cn)/\(b=true->iQ p.aR e):=by
 obtain⟨s,b,U,h3⟩:=Gm ct hw hc (lf:=lf) hE e bB;cases b with
 |false=>
  refine⟨false,bh aeS ?_,λh=>aD⟩;exact akd
 |true=>
  refine⟨!s.ptr,bh aeS ?_,λ_=>(h3 rfl).2⟩;rw [hc,iK];refine ah U (bp (aq ?_));erw [hc];rfl
include ct hc in
theorem aEB(hs:s.Inv p.aR.length)(hl:l.length<=mx)(hr:∀x∈l,ib x p.aR.length=true):
 Ev VP [aM (ints l),J (cA s),J (bm 2 w),J (dE 3 4 p lf),aw (ba ro),.ae 0 cn] (0,[aJ (l.any λo=> !D7 s (fp p.aR o)),J (cA s),J (bm 2 w),J (dE 3 4 p lf),aw (ba ro),.ae 0 cn]):=by
 have hsm:=hs.le ct.ol.len;refine NH (st:=[J (cA s),J (bm 2 w),J (dE 3 4 p lf),aw (ba ro),.ae 0 cn]) (LF:=λN m=>Ld (FU CX EE N) N m [aM (ints l),iI (ln (ints l)),iI 0,J (cA s),J (bm 2 w),J (dE 3 4 p lf),aw (ba ro),.ae 0 cn])
  (IX:=λN _=>FU CX EE N VW [aM (ints l),J (cA s),J (bm 2 w),J (dE 3 4 p lf),aw (ba ro),.ae 0 cn])
  (scan (LF:=λi N m=>Ld (FU CX EE N) N m [aM (ints l),iI (ln (ints l)),iI (i:Int),J (cA s),J (bm 2 w),J (dE 3 4 p lf),aw (ba ro),.ae 0 cn]) ?_ λi hi r q1 q2=> ?_) (λi hi=> ?_) (λhi=> ?_) λi hi=> ?_
 ·exact bF adC (az eo (aq (Dn)))
 ·refine bF adC (bE (dz hi) (aA (cb hi) ?_));rw [hc,dk hi,ix hi hl];have hx:=hr l[i] (ei hi);have q:Ev Xe [iI l[i],J (cA s),J (bm 2 w),J (dE 3 4 p lf),aw (ba ro),.ae 0 cn] (0,[aJ (!D7 s (fp p.aR l[i])),J (cA s),J (bm 2 w),J (dE 3 4 p lf),aw (ba ro),.ae 0 cn]):=by
   refine bh auL (aA (by show ib l[i] (cz p.aR).length =true;rw [zY];exact hx) ?_);erw [hc,vA hx];exact ah (aLd hsm (ct.ol.ok (De hx))) aH
  refine ah q ?_;exact S9
 ·refine bh adQ ?_;rw [hc];exact aa7
 ·refine bh adQ ?_;rw [hc];exact aa8
 ·refine bh aqD ?_;rw [hc];refine ah hi (aq ?_);erw [hc];rfl
def fitAll(p:PG)(s:SO)(b:Bool)(l:bQ):Bool:=b&& !(l.any λo=> !D7 s (fp p.aR o))
include ct hc in
theorem UB{e:CE}{b:Bool}(h:Ev CK [J (bm 0 w),J (aZ e),J (dE 1 2 p lf),aw (ba ro),.ae 0 cn] (0,J (cA s):: aJ b::gW p ro lf cn))(hs:b=true->s.Inv p.aR.length)(hl:l.length<=mx)(hr:∀x∈l,ib x p.aR.length=true):
 Ev CL [J (bm 0 w),J (aZ e),aM (ints l),J (dE 1 2 p lf),aw (ba ro),.ae 0 cn] (0,aJ (fitAll p s b l)::gW p ro lf cn):=by
 refine bh av3 ?_;rw [hc,iK];refine ah h ?_;cases b with
 |false=>exact Gc
 |true=>
  refine bp ?_;erw [hc];refine ah (aEB ct hc (hs rfl) hl hr) (aq ?_);erw [hc];rfl
end
end
theorem FZ(e:CE):bg lU 0 (gA ([e].map aZ) 0)=aZ e:=iK e
structure PlX(l:List OB)(q:PL)(xs:bQ):Prop where
 n7:∀x∈xs,ib x l.length=true
 len:xs.length<=mx
 one:q.kind≠3->xs=[q.O]
 sl:q.kind=1->qb l q.O q.off=true
 e:∀e∈q.E,iQ l e
section
variable {p:PG} {ts:List TK} {ro:List RO} (ct:CT p ts ro) {w:WH} (hw:w.Ok) {cn:aY} (hc:bz (aU cn)=cn) {lf:Int} (hE:pM)
include hw hc in
theorem aJX{l:bQ}(hl:l.length<=mx):
 Ev Pu [aM (ints l),J (bm 1 w),J (dE 2 3 p lf),aw (ba ro),.ae 0 cn] (0,[aJ (l.any λo=>gv w.loops o),J (bm 1 w),J (dE 2 3 p lf),aw (ba ro),.ae 0 cn]):=by
 refine NH (st:=[J (bm 1 w),J (dE 2 3 p lf),aw (ba ro),.ae 0 cn]) (LF:=λN m=>La (FU CX EE N) N m [aM (ints l),iI (ln (ints l)),iI 0,J (bm 1 w),J (dE 2 3 p lf),aw (ba ro),.ae 0 cn])
  (IX:=λN _=>FU CX EE N VS [aM (ints l),J (bm 1 w),J (dE 2 3 p lf),aw (ba ro),.ae 0 cn])
  (scan (LF:=λi N m=>La (FU CX EE N) N m [aM (ints l),iI (ln (ints l)),iI (i:Int),J (bm 1 w),J (dE 2 3 p lf),aw (ba ro),.ae 0 cn]) ?_ λi hi r q1 q2=> ?_) (λi hi=> ?_) (λhi=> ?_) λi hi=> ?_
 ·exact bF ady (az eo (aq (Dn)))
 ·refine bF ady (bE (dz hi) (aA (cb hi) ?_));rw [hc,dk hi,ix hi hl];have q:Ev WR [iI l[i],J (bm 1 w),J (dE 2 3 p lf),aw (ba ro),.ae 0 cn] (0,[aJ (gv w.loops l[i]),J (bm 1 w),J (dE 2 3 p lf),aw (ba ro),.ae 0 cn]):=by
   refine bh atJ ?_;rw [hc];exact ah (yt (l:=w.loops) l[i] (by have:=hw.loops;simp only [mx];omega)) aH
  refine ah q ?_;exact S9
 ·refine bh adF ?_;rw [hc];exact aa7
 ·refine bh adF ?_;rw [hc];exact aa8
 ·refine bh aqs ?_;rw [hc];refine ah hi (aq ?_);erw [hc];rfl
def pU(k:Int):Int:=bif k==1 then 0 else 1
abbrev K0(p:PG)(lf:Int):AV:= J (dE 1 2 p lf)
noncomputable abbrev aaA (p:PG) (ro:List RO) (w:WH) (lf:Int) (cn:aY) (q:PL) (N:Nat):Option UO:=
 bO (CB (FU CX EE N) N [iI (pU q.kind),K0 p lf,aw (ba ro),.ae 0 cn,J (bm 0 w),J (cN q),J [bq,bq,.au 6,iI 0,iI 0],aM []]) λq4 o4=>bif Nat.beq q4 0 then bO (PN (FU CX EE N) N [J (sT (bg dM 0 (gC o4 0)) eH),aw (gR o4 1),.ae 0 (bz (aU (gR o4 2))),J (sT (bg lE 0 (gC o4 3)) oO),J (bg Ir 0 (gC o4 4)),J (bg sx 0 (gC o4 5))]) λrD cV=>bif Nat.beq rD 0 then bO (FU CX EE N Pu [aM (gR cV 0),J (sT (bg lE 0 (gC cV 4)) aLu),J (sT (bg dM 0 (gC cV 1)) aLt),aw (gR cV 2),.ae 0 (bz (aU (gR cV 3)))]) λ_ dt=>some (0,[aM (gR cV 0),aJ (!(gB dt 0)),J (sT (bg dM 0 (gC dt 2)) eH),aw (gR dt 3),.ae 0 (bz (aU (gR dt 4)))])else some (0,[aM (gR cV 7),aJ (gB cV 0),J (sT (bg dM 0 (gC cV 1)) eH),aw (gR cV 2),.ae 0 (bz (aU (gR cV 3)))])else some (0,[aM (gR o4 7),aJ (gB o4 0),J (sT (bg dM 0 (gC o4 1)) eH),aw (gR o4 2),.ae 0 (bz (aU (gR o4 3)))])
def Az(q:PL):Int:=bif q.kind==3 then 0 else q.O
def Ay(q:PL):Int:=bif q.kind==3 then 0 else q.off
def Ax(q:PL):Int:=bif q.kind==2 then q.len else 0
def xd(k:Int):Bool:=bif k==1 then true else bif k==2 then true else k==3
include hc in
theorem aDT(q:PL):cW WD [iI 1,K0 p lf,aw (ba ro),.ae 0 cn,J (cN q),J [cE q.kind,iI 0,iI 0,iI 0,.au 5],bR []]
 (bif xd q.kind then(0,[iI (pU q.kind),K0 p lf,aw (ba ro),.ae 0 cn,J (cN q),J [cE q.kind,iI (Az q),iI (Ay q),iI (Ax q),.au 5],bR []])
   else(1,[bq,K0 p lf,aw (ba ro),.ae 0 cn,J (cN q),J [cE q.kind,iI 0,iI 0,iI 0,.au 6],aM [],bR []])):=by
 refine cL as7 ?_;rw [hc];refine aW (c:=q.kind==1) (λk1=>aq ?_) λk1=>aW (c:=q.kind==2) (λk2=>aq ?_) λk2=>aW (c:=q.kind==3) (λk3=>aq ?_) λk3=>aq ?_
 ·have:xd q.kind=true:=by unfold xd;rw [k1];rfl
  rw [this];unfold pU Az Ay Ax;rw [k1,eq_of_beq k1];rfl
 ·have:xd q.kind=true:=by unfold xd;rw [k1,k2];rfl
  rw [this];unfold pU Az Ay Ax;rw [k1,k2,eq_of_beq k2];rfl
 ·have:xd q.kind=true:=by unfold xd;rw [k1,k2,k3];rfl
  rw [this];unfold pU Az Ay Ax;rw [k1,k2,k3];rfl
 ·have:xd q.kind=false:=by unfold xd;rw [k1,k2,k3];rfl
  exact kg
def tM(q:PL):Bool:=(Az q==q.O)&&((Ay q==q.off)&&((Ax q==q.len)&&((q.E.length:Int)==pU q.kind)))
include hc in
theorem aDS(q:PL):cW WC [iI (pU q.kind),K0 p lf,aw (ba ro),.ae 0 cn,J (cN q),J [cE q.kind,iI (Az q),iI (Ay q),iI (Ax q),.au 5],bR []]
 (bif tM q then(0,[K0 p lf,aw (ba ro),.ae 0 cn,J (cN q),J [cE q.kind,iI (Az q),iI (Ay q),iI (Ax q),.au 5],bR []])
   else(1,[bq,K0 p lf,aw (ba ro),.ae 0 cn,J (cN q),J [cE q.kind,iI (Az q),iI (Ay q),iI (Ax q),.au 6],aM [],bR []])):=by
 refine cL as6 ?_;rw [hc];refine aW (c:=Az q != q.O) (λh=>aq ?_) λh=>aW (c:=Ay q != q.off) (λh2=>aq ?_) λh2=>aW (c:=Ax q != q.len) (λh3=>aq ?_) λh3=>aW (c:=ln (q.E.map aZ) != pU q.kind) (λh4=>aq ?_) λh4=>aq ?_
 ·have:tM q=false:=by unfold tM;rw [qg h];rfl
  exact kg
 ·have:tM q=false:=by unfold tM;rw [eU h,qg h2];rfl
  exact kg
 ·have:tM q=false:=by unfold tM;rw [eU h,eU h2,qg h3];rfl
  exact kg
 ·rw [fM]at h4;have:tM q=false:=by unfold tM;rw [eU h,eU h2,eU h3,qg h4];rfl
  exact kg
 ·rw [fM]at h4;have:tM q=true:=by unfold tM;rw [eU h,eU h2,eU h3,eU h4];rfl
  exact kg
def vM(q:PL):Bool:=xd q.kind&&tM q
include hc in
theorem Sd{q:PL}{r:UO}(h0:vM q=false->(0,aM []:: bq::gW p ro lf cn)=r)(U:vM q=true->E (λN _=>aaA p ro w lf cn q N) r):
 Ev CJ [J (bm 0 w),J (cN q),K0 p lf,aw (ba ro),.ae 0 cn] r:=by
 refine bh auJ ?_;rw [hc];refine ah (aDT (lf:=lf) hc q) ?_;cases hk:xd q.kind with
 |false=>
  refine av (aq ?_);rw [<-h0 (by unfold vM;rw [hk];rfl)];erw [hc];rfl
 |true=>
  refine bp ?_;simp only [bU];erw [hc];refine ah (aDS (lf:=lf) hc q) ?_;cases hg:tM q with
  |false=>
   refine av (aq ?_);rw [<-h0 (by unfold vM;rw [hk,hg];rfl)];erw [hc];rfl
  |true=>
   have U:=U (by unfold vM;rw [hk,hg];rfl);refine bp ?_;simp only [bU];erw [hc];exact U
end
section
variable{q:PL}{s:SO}
theorem aJW(h:vM q=true)(k1:(q.kind==1)=true):q.E=[]:=by
 unfold vM tM at h;simp only [bw]at h;have:=eq_of_beq h.2.2.2.2;rw [show pU q.kind=0 by unfold pU;rw [k1];rfl]at this;exact wE (by omega)
theorem aJV(h:vM q=true)(k1:(q.kind==1)=false):∃e,q.E=[e]:=by
 unfold vM tM at h;simp only [bw]at h;have:=eq_of_beq h.2.2.2.2;rw [show pU q.kind=1 by unfold pU;rw [k1];rfl]at this
 match hE:q.E with
 | [e]=>exact⟨e,rfl⟩
 | []=>rw [hE]at this;simp at this
 |_::_::_=>rw [hE]at this;simp at this;omega
theorem aJU(h:vM q=true)(k1:(q.kind==1)=false)(k2:(q.kind==2)=false):(q.kind==3)=true:=by
 unfold vM xd at h;rw [k1,k2]at h;simp only [cf,bw]at h;exact h.1
section
variable {p:PG} {ts:List TK} {ro:List RO} (ct:CT p ts ro) {w:WH} (hw:w.Ok) {cn:aY} (hc:bz (aU cn)=cn) {lf:Int} (hE:pM)
include hc in
theorem aBn(k1:(q.kind==1)=true):cW CB [iI (pU q.kind),K0 p lf,aw (ba ro),.ae 0 cn,J (bm 0 w),J (cN q),J [bq,bq,.au 6,iI 0,iI 0],aM []]
 (0,[K0 p lf,aw (ba ro),.ae 0 cn,J (bm 0 w),J (cN q),J (cA uH)]):=by
 rw [show pU q.kind=0 by unfold pU;rw [k1];rfl];refine cL aeB (av (aq ?_));rw [hc];rfl
include hc in
theorem aBm{e:CE}(k1:(q.kind==1)=false)(he:q.E=[e]){b:Bool}(h:Ev CK [J (bm 0 w),J (aZ e),J (dE 1 2 p lf),aw (ba ro),.ae 0 cn] (0,J (cA s):: aJ b::gW p ro lf cn)):
 cW CB [iI (pU q.kind),K0 p lf,aw (ba ro),.ae 0 cn,J (bm 0 w),J (cN q),J [bq,bq,.au 6,iI 0,iI 0],aM []]
 (bif b then(0,[K0 p lf,aw (ba ro),.ae 0 cn,J (bm 0 w),J (cN q),J (cA s)])else(1,[bq,K0 p lf,aw (ba ro),.ae 0 cn,J (bm 0 w),J (cN q),J (cA s),aM []])):=by
 rw [show pU q.kind=1 by unfold pU;rw [k1];rfl];refine cL aeB (bp ?_);rw [hc,show gR (cN q) 4=[e].map aZ by rw [<-he];rfl,FZ];refine aA rfl (ah h ?_);erw [hc];cases b with
 |false=>exact bp aH
 |true=>exact qU
def mQ(p:PG)(ro:List RO)(w:WH)(q:PL)(s:SO):Bool:=
 bif q.kind==1 then(qb p.aR q.O q.off&&uy ro w q.O)else bif q.kind==2 then(!s.ptr&&(wM p.aR q.O q.off q.len&&uy ro w q.O))else(s.ptr||s.null)
def vL(q:PL)(s:SO):bQ:=bif q.kind==1 then [q.O]else bif q.kind==2 then [q.O]else s.set
include ct hw hc in
theorem aBo(q:PL)(s:SO):cW PN [K0 p lf,aw (ba ro),.ae 0 cn,J (bm 0 w),J (cN q),J (cA s)]
 (bif mQ p ro w q s then(0,[aM (ints (vL q s)),K0 p lf,aw (ba ro),.ae 0 cn,J (bm 0 w),J (cN q),J (cA s)])
   else(1,[bq,K0 p lf,aw (ba ro),.ae 0 cn,J (bm 0 w),J (cN q),J (cA s),aM []])):=by
 have si:∀{o:Int},ib o p.aR.length=true->ib o ro.length=true:=λh=>by rw [ct.len];exact h
 refine cL ar9 ?_;rw [hc];refine aW (c:=q.kind==1) (λk1=> ?_) λk1=>aW (c:=q.kind==2) (λk2=> ?_) λk2=> ?_
 ·refine ah (Tb (l:=p.aR) (en:= -1) (o:=q.O) (off:=q.off)) (aW (c:= !qb p.aR q.O q.off) (λh=>aq ?_) λh=> ?_)
  ·simp only [jF]at h;have:mQ p ro w q s=false:=by unfold mQ;rw [k1,h];rfl
   exact kg
  ·simp only [ja]at h;refine ah (NZ hw hc (si (Dh h))) ?_;erw [hc];refine aW (c:= !uy ro w q.O) (λh'=>aq ?_) λh'=>aq ?_
   ·simp only [jF]at h';have:mQ p ro w q s=false:=by unfold mQ;rw [k1,h,h'];rfl
    exact kg
   ·simp only [ja]at h';have:mQ p ro w q s=true:=by unfold mQ;rw [k1,h,h'];rfl
    rw [this];unfold vL;rw [k1];rfl
 ·have hj:cW Wb [K0 p lf,aw (ba ro),.ae 0 cn,J (bm 0 w),J (cN q),J (cA s)]
   (bif mQ p ro w q s then(0,[K0 p lf,aw (ba ro),.ae 0 cn,J (bm 0 w),J (cN q),J (cA s)])else(1,[bq,K0 p lf,aw (ba ro),.ae 0 cn,J (bm 0 w),J (cN q),J (cA s),aM []])):=by
   refine cL arJ ?_;rw [hc];refine aW (c:=s.ptr) (λh=>aq ?_) λh=>ah (aoS (l:=p.aR) (en:= -1) (o:=q.O) (off:=q.off) (n:=q.len)) (aW (c:= !wM p.aR q.O q.off q.len) (λh2=>aq ?_) λh2=> ?_)
   ·have:mQ p ro w q s=false:=by unfold mQ;rw [k1,k2,h];rfl
    exact kg
   ·simp only [jF]at h2;have:mQ p ro w q s=false:=by unfold mQ;rw [k1,k2,h,h2];rfl
    exact kg
   ·simp only [ja]at h2;refine ah (NZ hw hc (si (aaa h2))) ?_;erw [hc];refine aW (c:= !uy ro w q.O) (λh'=>aq ?_) λh'=>aq ?_
    ·simp only [jF]at h';have:mQ p ro w q s=false:=by unfold mQ;rw [k1,k2,h,h2,h'];rfl
     exact kg
    ·simp only [ja]at h';have:mQ p ro w q s=true:=by unfold mQ;rw [k1,k2,h,h2,h'];rfl
     exact kg
  refine ah hj ?_;cases hp:mQ p ro w q s with
  |false=>exact Gc
  |true=>refine bp (aq ?_);erw [hc];unfold vL;rw [k1,k2];rfl
 ·refine aW (c:= !s.ptr) (λh=>aW (c:= !s.null) (λh2=>aq ?_) λh2=>aq ?_) λh=>aq ?_
  ·simp only [jF]at h h2;have:mQ p ro w q s=false:=by unfold mQ;rw [k1,k2,h,h2];rfl
   exact kg
  ·simp only [ja]at h2;have:mQ p ro w q s=true:=by unfold mQ;rw [k1,k2,h2];simp
   rw [this];unfold vL;rw [k1,k2];rfl
  ·simp only [ja]at h;have:mQ p ro w q s=true:=by unfold mQ;rw [k1,k2,h];simp
   rw [this];unfold vL;rw [k1,k2];rfl
include ct hw hc in
theorem aBp(hs:(vL q s).length <=mx)
 (h:cW CB [iI (pU q.kind),K0 p lf,aw (ba ro),.ae 0 cn,J (bm 0 w),J (cN q),J [bq,bq,.au 6,iI 0,iI 0],aM []] (0,[K0 p lf,aw (ba ro),.ae 0 cn,J (bm 0 w),J (cN q),J (cA s)])):
 E (λN _=>aaA p ro w lf cn q N) (bif mQ p ro w q s then(0,aM (ints (vL q s)):: aJ (!((vL q s).any λo=>gv w.loops o))::gW p ro lf cn)else(0,aM []:: bq::gW p ro lf cn)):=by
 refine ah h (bp ?_);erw [hc];refine ah (aBo ct hw hc q s) ?_;cases hp:mQ p ro w q s with
 |false=>exact Gc
 |true=>
  refine bp ?_;simp only [bU];erw [hc];refine ah (aJX hw hc hs) (aq ?_);exact oW
include hc in
theorem aBq(h:cW CB [iI (pU q.kind),K0 p lf,aw (ba ro),.ae 0 cn,J (bm 0 w),J (cN q),J [bq,bq,.au 6,iI 0,iI 0],aM []] (1,[bq,K0 p lf,aw (ba ro),.ae 0 cn,J (bm 0 w),J (cN q),J (cA s),aM []])):
 E (λN _=>aaA p ro w lf cn q N) (0,aM []:: bq::gW p ro lf cn):=by
 refine ah h (av (aq ?_));erw [hc];rfl
end
end
end Go.Proofs.B.C
namespace Go.aj
def FO{p:Prop}(h:p:=by rw [he];simp):p:=h
def SP{p:Prop}(h:p:=by rw [hF]at h;cases h):p:=h
end Go.aj
namespace Go.Proofs.B.C
open Go Go.aj
theorem one_le(x:Int): [x].length <=mx:=by show 1<=1048576;omega
structure tg(l:List OB)(q:PL):Prop where
 fl:vM q=true
 sl:q.kind=1->qb l q.O q.off=true
 e:∀e∈q.E,iQ l e
section
variable {p:PG} {ts:List TK} {ro:List RO} (ct:CT p ts ro) {w:WH} (hw:w.Ok) {cn:aY} (hc:bz (aU cn)=cn) {lf:Int} (hE:pM)
include ct hw hc hE in
theorem plE{q:PL}(hq:q.Ok):∃l b,
 Ev CJ [J (bm 0 w),J (cN q),K0 p lf,aw (ba ro),.ae 0 cn] (0,aM (ints l):: aJ b::gW p ro lf cn)/\(b=true->PlX p.aR q l/\tg p.aR q):=by
 cases hF:vM q with
 |false=>exact⟨[],false,Sd hc (λ_=>rfl) (λh=>SP),λh=>aD⟩
 |true=>
  have fin:∀s:SO,s.Inv p.aR.length->cW CB [iI (pU q.kind),K0 p lf,aw (ba ro),.ae 0 cn,J (bm 0 w),J (cN q),J [bq,bq,.au 6,iI 0,iI 0],aM []] (0,[K0 p lf,aw (ba ro),.ae 0 cn,J (bm 0 w),J (cN q),J (cA s)])->
   (mQ p ro w q s=true->PlX p.aR q (vL q s))->∃l b,
   Ev CJ [J (bm 0 w),J (cN q),K0 p lf,aw (ba ro),.ae 0 cn] (0,aM (ints l):: aJ b::gW p ro lf cn)/\(b=true->PlX p.aR q l/\tg p.aR q):=λs hs h hr=>by
   have hl:(vL q s).length <=mx:=by
    unfold vL;cases q.kind==1 with
    |true=>exact one_le _
    |false=>cases q.kind==2 with
     |true=>exact one_le _
     |false=>exact hs.le ct.ol.len
   have hC:=aBp ct hw hc (lf:=lf) hl h;cases hO:mQ p ro w q s with
   |false=>rw [hO]at hC;exact⟨[],false,Sd hc (λh=>SP) λ_=>hC,λh=>aD⟩
   |true=>
    rw [hO]at hC;exact⟨vL q s,_,Sd hc (λh=>SP) λ_=>hC,λ_=>⟨hr hO,hF,(hr hO).sl,(hr hO).e⟩⟩
  have o1:∀{x:Int},ib x p.aR.length=true->∀y∈ [x],ib y p.aR.length=true:=λh y hy=>by rw [my.1 hy];exact h
  cases k1:q.kind==1 with
  |true=>
   have hE0:=aJW hF k1;refine fin uH (xH rfl) (aBn hc k1) λhO=> ?_;unfold mQ at hO;rw [k1]at hO;simp only [bU,bw]at hO;unfold vL;rw [k1];exact⟨o1 (Dh hO.1),one_le _,λ_=>rfl,λ_=>hO.1,λe h=>by rw [hE0]at h;cases h⟩
  |false=>
   obtain⟨e,he⟩:=aJV hF k1;obtain⟨s,b,U,h3⟩:=Gm ct hw hc (lf:=lf) hE e (hq.2 e (FO));have apJ:=aBm hc k1 he U;cases b with
   |false=>exact⟨[],false,Sd hc (λh=>SP) λ_=>aBq hc apJ,λh=>aD⟩
   |true=>
    obtain⟨ri,di⟩:=h3 rfl;refine fin s ri apJ λhO=> ?_;have n1:q.kind=1->qb p.aR q.O q.off=true:=λh=>by rw [h]at k1;cases k1
    have hu:∀e'∈q.E,iQ p.aR e':=λe' h'=>by rw [he]at h';rw [my.1 h'];exact di
    unfold mQ at hO;unfold vL;rw [k1]at hO⊢;cases k2:q.kind==2 with
    |true=>
     rw [k2]at hO;simp only [bU,cf,bw]at hO;exact⟨o1 (aaa hO.2.1),one_le _,λ_=>rfl,n1,hu⟩
    |false=>exact⟨ri.n7,ri.le ct.ol.len,λh=>absurd (eq_of_beq (aJU hF k1 k2)) h,n1,hu⟩
end
section
variable{i:Int}{l:List TK}{q:PL}
theorem ND(h:ib i l.length=true):gA (l.map dv) i.toNat=dv (qE l i):=by
 have:=oX.1 h;have h2:i.toNat<l.length:=by omega
 rw [xL h2];simp [qE,h2]
theorem Zs(h:ib i l.length=true):qE l i∈l:=by
 have:=oX.1 h;have h2:i.toNat<l.length:=by omega
 simp only [qE,wA,dy h2,uh];exact ei h2
def en0:EN:=⟨[],[]⟩
def GS(l:List EN)(i:Int):EN:=l.getD i.toNat en0
theorem ab5{l:List EN}(h:ib i l.length=true):gA (l.map iH) i.toNat=iH (GS l i):=by
 have:=oX.1 h;have h2:i.toNat<l.length:=by omega
 rw [xL h2];simp [GS,h2]
theorem ZE{l:List EN}(h:ib i l.length=true):GS l i∈l:=by
 have:=oX.1 h;have h2:i.toNat<l.length:=by omega
 simp only [GS,wA,dy h2,uh];exact ei h2
def pr0:PR:=⟨0,[],[]⟩
def NW(l:List PR)(i:Int):PR:=l.getD i.toNat pr0
theorem anm{l:List PR}(h:ib i l.length=true):gA (l.map gk) i.toNat=gk (NW l i):=by
 have:=oX.1 h;have h2:i.toNat<l.length:=by omega
 rw [xL h2];simp [NW,h2]
section
variable {p:PG} {ts:List TK} {ro:List RO} (ct:CT p ts ro) {w:WH} (hw:w.Ok) {cn:aY} (hc:bz (aU cn)=cn) {lf:Int} (hE:pM)
def qf(p:PG)(t e:Int):Bool:=bif decide (0<=t)then bif decide (t<(p.tasks.length:Int))then bif decide (0<=e)then decide (e<((qE p.tasks t).aU.length :Int))else false else false else false
include hc in
theorem UG(t e:Int):Ev H9 [J (bm 0 w),iI t,iI e,J (dE 1 2 p lf),aw (ba ro),.ae 0 cn] (0,aJ (qf p t e)::gW p ro lf cn):=by
 refine bh auM ?_;rw [hc];refine aW (c:=decide (0<=t)) (λU=>aW (c:=decide (t<ln (p.tasks.map dv))) (λh2=>aW (c:=decide (0<=e)) (λh3=> ?_) λh3=>aq ?_) λh2=>aq ?_) λU=>aq ?_
 ·rw [fM]at h2;have hi:=zX U h2;refine aA (by show ib t (p.tasks.map dv).length =true;rw [fY];exact hi) (aq ?_);show(0,[aJ (decide (e<ln (gR (gA (p.tasks.map dv) t.toNat) 1))),_,_,_])=_;rw [ND hi];show(0,[aJ (decide (e<ln ((qE p.tasks t).aU.map iH))),_,_,_])=_;rw [fM];unfold qf;rw [U,h2,h3];rfl
 ·rw [fM]at h2;unfold qf;rw [U,h2,h3];rfl
 ·rw [fM]at h2;unfold qf;rw [U,h2];rfl
 ·unfold qf;rw [U];rfl
theorem Z7{t e:Int}(h:qf p t e=true):ib t p.tasks.length=true/\ib e (qE p.tasks t).aU.length =true:=by
 unfold qf at h;cases U:decide (0<=t)<;>rw [U]at h
 ·exact aD
 cases h2:decide (t<(p.tasks.length:Int))<;>rw [h2]at h
 ·exact aD
 cases h3:decide (0<=e)<;>rw [h3]at h
 ·exact aD
 exact⟨zX U h2,zX h3 h⟩
def BC(p:PG)(t e:Int):Bool:=bif decide (0<=t)then bif decide (t<(p.c5.length:Int))then bif decide (0<=e)then decide (e<((NW p.c5 t).bars.length :Int))else false else false else false
include hc in
theorem anq(t e:Int):Ev Qg [J (bm 0 w),iI t,iI e,J (dE 1 2 p lf),aw (ba ro),.ae 0 cn] (0,aJ (BC p t e)::gW p ro lf cn):=by
 refine bh avp ?_;rw [hc];refine aW (c:=decide (0<=t)) (λU=>aW (c:=decide (t<ln (p.c5.map gk))) (λh2=>aW (c:=decide (0<=e)) (λh3=> ?_) λh3=>aq ?_) λh2=>aq ?_) λU=>aq ?_
 ·rw [fM]at h2;have hi:=zX U h2;refine aA (by show ib t (p.c5.map gk).length =true;rw [fY];exact hi) (aq ?_);show(0,[aJ (decide (e<ln (gR (gA (p.c5.map gk) t.toNat) 2))),_,_,_])=_;rw [anm hi];show(0,[aJ (decide (e<ln ((NW p.c5 t).bars.map aZ))),_,_,_])=_;rw [fM];unfold BC;rw [U,h2,h3];rfl
 ·rw [fM]at h2;unfold BC;rw [U,h2,h3];rfl
 ·rw [fM]at h2;unfold BC;rw [U,h2];rfl
 ·unfold BC;rw [U];rfl
def GG(p:PG)(w:WH)(e:Int):Bool:=qf p w.task e&& !gv w.qS e
include hw hc in
theorem wR(e:Int):Ev Qo [J (bm 0 w),iI e,J (dE 1 2 p lf),aw (ba ro),.ae 0 cn] (0,aJ (GG p w e)::gW p ro lf cn):=by
 refine bh av1 ?_;rw [hc];refine ah (UG (lf:=lf) hc w.task e) ?_;erw [hc];refine aW (c:=qf p w.task e) (λh=>ah (yt (l:=w.qS) e (ajE)) (aq ?_)) λh=>aq ?_
 ·unfold GG;rw [h];rfl
 ·unfold GG;rw [h];rfl
include ct hw hc hE in
theorem amw(hq:q.Ok):∃b,Ev Lw [J (bm 0 w),J (cN q),J (dE 1 2 p lf),aw (ba ro),.ae 0 cn] (0,aJ b::gW p ro lf cn)/\(b=true->tg p.aR q):=by
 obtain⟨l,b,U,h3⟩:=plE ct hw hc (lf:=lf) hE hq;cases b with
 |false=>
  refine⟨false,bh Ww ?_,λh=>aD⟩;rw [hc];refine ah U ?_;erw [hc];exact qU
 |true=>
  obtain⟨hp,uN⟩:=h3 rfl;cases k3:q.kind != 3 with
  |false=>
   refine⟨false,bh Ww ?_,λh=>aD⟩;rw [hc];refine ah U ?_;erw [hc];exact bp (az k3 aH)
  |true=>
   have hl:=hp.one (by simpa using k3);subst hl;have hi:=hp.n7 q.O (by simp);have ca:ib q.O (cz p.aR).length =true:=SN;refine⟨!(fp p.aR q.O).ptr,bh Ww ?_,λ_=>uN⟩;rw [hc];refine ah U ?_;erw [hc];refine bp (bE k3 (aA rfl (aA ca (aq ?_))));show(0,[aJ (!(gB (gA (cz p.aR) q.O.toNat) 3)),_,_,_])=_;rw [vA hi];rfl
include ct hw hc hE in
theorem aFg(hq:q.Ok){e:CE}(he:e.Ok):∃l b1 b,
 Ev CJ [J (bm 0 w),J (cN q),K0 p lf,aw (ba ro),.ae 0 cn] (0,aM (ints l):: aJ b1::gW p ro lf cn)/\
 (b1=true->Ev CL [J (bm 0 w),J (aZ e),aM (ints l),K0 p lf,aw (ba ro),.ae 0 cn] (0,aJ b::gW p ro lf cn))/\
 ((b1&&b)=true->tg p.aR q/\iQ p.aR e):=by
 obtain⟨l,b1,U,h3⟩:=plE ct hw hc (lf:=lf) hE hq;obtain⟨s,b,g1,g3⟩:=Gm ct hw hc (lf:=lf) hE e he;cases b1 with
 |false=>exact⟨l,false,false,U,(λh=>aD),λh=>aD⟩
 |true=>
  obtain⟨hp,uN⟩:=h3 rfl;refine⟨l,true,fitAll p s b l,U,λ_=>UB ct hc g1 (λh=>(g3 h).1) hp.len hp.n7,λh=>⟨uN,?_⟩⟩;unfold fitAll at h;simp only [zD,bw]at h;exact(g3 h.1).2
end
end
end Go.Proofs.B.C
namespace Go.aj
def abj{p:Prop}(h:p:=by rw [fM,fM];cases h:a.length==b.length<;>simp at h⊢<;>omega):p:=h
def SS{p:Prop}(h:p:=by refine bp (aq ?_);erw [hc];rfl):p:=h
def M8{p:Prop}(h:p:=by rw [dk hi];rfl):p:=h
def aj2{p:Prop}(h:p:=by simpa using Ru.1 h i (Bf.2 hi)):p:=h
def ajV{p:Prop}(h:p:=by
 rw [hc];refine ah jc (av (aq ?_));erw [hc];rfl):p:=h
end Go.aj
namespace Go.aj
def IH:=@List.getElem_of_mem
end Go.aj
namespace Go.Proofs.B.C
open Go Go.aj
theorem ahx{m:Nat}{P:Nat->Bool->Prop}(h:∀i,i<m->∃b,P i b):∃f:Nat->Bool,∀i,i<m->P i (f i):=by
 have h':∀i,∃b,i<m->P i b:=λi=>by
  by_cases hi:i<m
  ·obtain⟨b,hb⟩:=h i hi;exact⟨b,λ_=>hb⟩
  ·exact⟨true,λh=>absurd h hi⟩
 obtain⟨f,hf⟩:=ZO h';exact⟨f,hf⟩
section
variable {p:PG} {ts:List TK} {ro:List RO} (ct:CT p ts ro) {w:WH} (hw:w.Ok) {cn:aY} (hc:bz (aU cn)=cn) {lf:Int} (hE:pM)
abbrev jO(x:EN):AV:= J [aM (ints x.ins),aM (ints x.outs)]
include ct hc in
theorem aDe{x:EN}{i:Nat}(hi:i<x.outs.length)(hx:ib x.outs[i] p.aR.length=true){l:bQ}(hl:l.length<=mx)(hr:∀y∈l,ib y p.aR.length=true):
 Ev VL [aM (ints l),J (bm 3 w),jO x,J [iI (i:Int)],J (dE 4 5 p lf),aw (ba ro),.ae 0 cn] (0,[aJ (l.any λo=> !xW (fp p.aR x.outs[i]) (fp p.aR o)),J (bm 3 w),jO x,J [iI (i:Int)],J (dE 4 5 p lf),aw (ba ro),.ae 0 cn]):=by
 refine NH (st:=[J (bm 3 w),jO x,J [iI (i:Int)],J (dE 4 5 p lf),aw (ba ro),.ae 0 cn]) (LF:=λN m=>Lb (FU CX EE N) N m [aM (ints l),iI (ln (ints l)),iI 0,J (bm 3 w),jO x,J [iI (i:Int)],J (dE 4 5 p lf),aw (ba ro),.ae 0 cn])
  (IX:=λN _=>FU CX EE N VT [aM (ints l),J (bm 3 w),jO x,J [iI (i:Int)],J (dE 4 5 p lf),aw (ba ro),.ae 0 cn])
  (scan (LF:=λj N m=>Lb (FU CX EE N) N m [aM (ints l),iI (ln (ints l)),iI (j:Int),J (bm 3 w),jO x,J [iI (i:Int)],J (dE 4 5 p lf),aw (ba ro),.ae 0 cn]) ?_ λj hj r q1 q2=> ?_) (λj hj=> ?_) (λhj=> ?_) λj hj=> ?_
 ·exact bF adA (az eo (aq (Dn)))
 ·refine bF adA (bE (dz hj) (aA (cb hj) ?_));rw [hc,dk hj,ix hj hl];have hy:=hr l[j] (ei hj);have q:Ev W7 [iI l[j],J (bm 3 w),jO x,J [iI (i:Int)],J (dE 4 5 p lf),aw (ba ro),.ae 0 cn] (0,[aJ (!xW (fp p.aR x.outs[i]) (fp p.aR l[j])),J (bm 3 w),jO x,J [iI (i:Int)],J (dE 4 5 p lf),aw (ba ro),.ae 0 cn]):=by
   have ea:gI (gA (ints x.outs) ((i:Int).toNat)) 0=x.outs[i]:=M8;refine bh aum (aA (cb hi) (aA (by show ib (gI (gA (ints x.outs) ((i:Int).toNat)) 0) (cz p.aR).length =true;rw [ea,zY];exact hx) (aA (by show ib l[j] (cz p.aR).length =true;rw [zY];exact hy) ?_)));rw [hc];have e1:gA (cz p.aR) (gI (gA (ints x.outs) ((i:Int).toNat)) 0).toNat =cg (fp p.aR x.outs[i]):=by rw [ea];exact vA hx
   erw [e1,vA hy];exact ah (acS (ct.ol.ok (De hx)) (ct.ol.ok (De hy))) aH
  refine ah q ?_;exact S9
 ·refine bh adK ?_;rw [hc];refine ah hj.diag (bp (aq ?_));erw [hc];rfl
 ·refine bh adK ?_;rw [hc];refine ah hj.diag (av (aq ?_));erw [hc];rfl
 ·refine bh aqx ?_;rw [hc];refine ah hj (aq ?_);erw [hc];rfl
theorem acU(f:CE->Row)(g:Int->Row)(a:List CE)(b:bQ):(ln (a.map f) != ln (b.map g))= !(a.length==b.length):=abj
theorem apc(f:PL->Row)(g:Int->Row)(a:List PL)(b:bQ):(ln (a.map f) != ln (b.map g))= !(a.length==b.length):=abj
include ct hw hc hE in
theorem acd{f:dU}(hf:f.Ok):∃b,(∀{L D H A:aY},
 Ev Qh [J (bm 0 w),J (eQ f L D H A),K0 p lf,aw (ba ro),.ae 0 cn] (0,aJ b::gW p ro lf cn))/\(b=true->(∀e∈f.Ins,iQ p.aR e)/\∀q∈f.fE,tg p.aR q):=by
 have jc:∀{L D H A:aY},cW Xb [K0 p lf,aw (ba ro),.ae 0 cn,J (bm 0 w),J (eQ f L D H A)]
  (bif !(f.T==w.task)&&qf p f.T f.entry then(0,[K0 p lf,aw (ba ro),.ae 0 cn,J (bm 0 w),J (eQ f L D H A)])else(1,[bq,K0 p lf,aw (ba ro),.ae 0 cn,J (bm 0 w),J (eQ f L D H A)])):=by
  intro L D H A;refine cL auf ?_;rw [hc];refine aW (c:=f.T==w.task) (λh=>aq (sJ)) λh=>ah (UG (lf:=lf) hc f.T f.entry) ?_;erw [hc];refine aW (c:= !qf p f.T f.entry) (λh2=>aq ?_) λh2=>aq ?_
  ·simp only [jF]at h2;rw [h,h2];rfl
  ·simp only [ja]at h2;rw [h,h2];rfl
 cases ha:(!(f.T==w.task)&&qf p f.T f.entry)with
 |false=>
  rw [ha]at jc;refine⟨false,λ{L D H A}=>bh afe ?_,λh=>aD⟩;exact ajV
 |true=>
 rw [ha]at jc;obtain⟨ht,he⟩:=Z7 (bw _ _▸ha).2;generalize hx:GS (qE p.tasks f.T).aU f.entry=x;have hgt:=ND ht;have KP:=ab5 he;rw [hx]at KP;obtain⟨di,apr,gY,ko⟩:=ct.ent _ (Zs ht) _ (ZE he);rw [hx]at di apr gY ko;have t1:ib f.T (p.tasks.map dv).length =true:=by rw [fY];exact ht
 have t2:ib f.entry ((qE p.tasks f.T).aU.map iH).length =true:=by rw [fY];exact he
 have aKp:∀{L D H A:aY},cW PZ [K0 p lf,aw (ba ro),.ae 0 cn,J (eQ f L D H A),jO x]
  (bif (f.Ins.length==x.ins.length)&&(f.fE.length==x.outs.length)then(0,[K0 p lf,aw (ba ro),.ae 0 cn,J (eQ f L D H A),jO x])else(1,[bq,K0 p lf,aw (ba ro),.ae 0 cn,J (eQ f L D H A),jO x])):=by
  intro L D H A;refine cL atC ?_;rw [hc];refine aW (c:=ln (f.Ins.map aZ) != ln (ints x.ins)) (λh=>aq ?_) λh=>aW (c:=ln (f.fE.map cN) != ln (ints x.outs)) (λh2=>aq ?_) λh2=>aq ?_
  ·rw [acU]at h;simp only [jF]at h;rw [h];rfl
  ·rw [acU]at h;rw [apc]at h2;simp only [jF,ja]at h h2;rw [h,h2];rfl
  ·rw [acU]at h;rw [apc]at h2;simp only [ja]at h h2;rw [h,h2];rfl
 have C1:∀{L D H A:aY} (r:UO),_->Ev Qh [J (bm 0 w),J (eQ f L D H A),K0 p lf,aw (ba ro),.ae 0 cn] r:=λ{L D H A} r h=>by
  refine bh afe ?_;rw [hc];refine ah jc (bp (aA t1 (aA (c:=ib f.entry ((gR (gA (p.tasks.map dv) f.T.toNat) 1).length)) (by rw [hgt];exact t2) ?_)));erw [hc];have hj:cW PZ [K0 p lf,aw (ba ro),.ae 0 cn,J (eQ f L D H A),J [aM (gR (gA (gR (gA (p.tasks.map dv) f.T.toNat) 1) f.entry.toNat) 0),aM (gR (gA (gR (gA (p.tasks.map dv) f.T.toNat) 1) f.entry.toNat) 1)]] (bif (f.Ins.length==x.ins.length)&&(f.fE.length==x.outs.length)then(0,[K0 p lf,aw (ba ro),.ae 0 cn,J (eQ f L D H A),jO x])else(1,[bq,K0 p lf,aw (ba ro),.ae 0 cn,J (eQ f L D H A),jO x])):=by
   rw [hgt,show gR (dv (qE p.tasks f.T)) 1=(qE p.tasks f.T).aU.map iH from rfl,KP];exact aKp
  refine ah hj ?_;exact h
 cases hlen:((f.Ins.length==x.ins.length)&&(f.fE.length==x.outs.length))with
 |false=>
  rw [hlen]at C1;refine⟨false,λ{L D H A}=>C1 _ (av (aq ?_)),λh=>aD⟩;exact oW
 |true=>
 rw [hlen]at C1;simp only [bw,iU]at hlen;obtain⟨Hu,hn2⟩:=hlen;obtain⟨b1,zo⟩:=ahx (m:=f.Ins.length) (P:=λi b=>∀(h:i<f.Ins.length) (h':i<x.ins.length),Ev CL [J (bm 0 w),J (aZ f.Ins[i]),aM (ints [x.ins[i]]),J (dE 1 2 p lf),aw (ba ro),.ae 0 cn] (0,aJ b::gW p ro lf cn)/\(b=true->iQ p.aR f.Ins[i])) λi hi=>by
  have ca:i<x.ins.length:=by omega
  obtain⟨s,b,g1,g3⟩:=Gm ct hw hc (lf:=lf) hE f.Ins[i] (hf.Ins.2 _ (ei hi));have ho:=di x.ins[i] (ei ca);exact⟨fitAll p s b [x.ins[i]],λ_ _=>⟨UB ct hc g1 (λh=>(g3 h).1) (one_le _) (λy hy=>by simp at hy;subst hy;exact ho),λh=>(g3 (by unfold fitAll at h;simp only [bw]at h;exact h.1)).2⟩⟩
 have k1:=Jt (m:=f.Ins.length) (p:=λi=> !b1 i) (hit:=(0,bq::(gW p ro lf cn++[J (bm 0 w),jO x]))) (done:=(1,gW p ro lf cn++[J (bm 0 w),jO x])) (LF:=λi N m=>PU (FU CX EE N) N m [bR (f.Ins.map aZ),iI (ln (f.Ins.map aZ)),iI (i:Int),K0 p lf,aw (ba ro),.ae 0 cn,J (bm 0 w),jO x])
  (bF aeF (az eo (aq (Dn))))
  λi hi r q1 q2=>bF aeF<|bE (dz hi)<|aA (cb hi)<|aA (cb (f:=λn=>[iI n]) (l:=x.ins) (by omega))<|by
   have ca:i<x.ins.length:=by omega
   rw [hc,Gl hi,ix hi hf.Ins.1];have U:=(zo i hi hi ca).1;rw [show ints [x.ins[i]]=[[iI (gI (gA (gR [aM (ints x.ins),aM (ints x.outs)] 0) ((i:Int).toNat)) 0)]]by
    rw [show gA (gR [aM (ints x.ins),aM (ints x.outs)] 0) ((i:Int).toNat)=[iI x.ins[i]]from dk ca];rfl]at U
   refine ah U ?_;exact S9
 obtain⟨b2,vS⟩:=ahx (m:=f.fE.length) (P:=λi b=>∀(h:i<f.fE.length) (h':i<x.outs.length),(b=true->tg p.aR f.fE[i])/\
  (∀r,(b=false->(0,bq::(gW p ro lf cn++[J (bm 0 w),jO x]))=r)->(b=true->cq H5 [dj (f.fE.map cN),iI (ln (f.fE.map cN)),iI ((i+1:Nat):Int),K0 p lf,aw (ba ro),.ae 0 cn,J (bm 0 w),jO x] r)->
    cq H5 [dj (f.fE.map cN),iI (ln (f.fE.map cN)),iI (i:Int),K0 p lf,aw (ba ro),.ae 0 cn,J (bm 0 w),jO x] r)) λi hi=>by
  have ca:i<x.outs.length:=by omega
  have ho:=apr x.outs[i] (ei ca);obtain⟨l,b,U,h3⟩:=plE ct hw hc (lf:=lf) hE (hf.fE.2 _ (ei hi));have amk:bg Ir 0 (gA (f.fE.map cN) ((i:Int).toNat))=cN f.fE[i]:=M8;cases b with
  |false=>
   refine⟨false,λ_ _=>⟨(λh=>aD),λr r1 _=>bF Wo (bE (dz hi) (aA (cb hi) ?_))⟩⟩;rw [hc,amk];refine ah U ?_;erw [hc];exact bp (aq (r1 rfl))
  |true=>
   obtain⟨hp,uN⟩:=h3 rfl;have fh:=aDe ct (w:=w) hc (lf:=lf) ca ho hp.len hp.n7;refine⟨!(l.any λo=> !xW (fp p.aR x.outs[i]) (fp p.aR o)),λ_ _=>⟨λ_=>uN,λr r1 r2=>bF Wo (bE (dz hi) (aA (cb hi) ?_))⟩⟩
   ·rw [hc,amk,ix hi hf.fE.1];refine ah U ?_;erw [hc];refine av (ah fh ?_);erw [hc];exact aW (c:=l.any λo=> !xW (fp p.aR x.outs[i]) (fp p.aR o)) (λh=>aq (r1 (sJ))) λh=>r2 (sJ)
 have k2:=Jt (m:=f.fE.length) (p:=λi=> !b2 i) (hit:=(0,bq::(gW p ro lf cn++[J (bm 0 w),jO x]))) (done:=(1,gW p ro lf cn++[J (bm 0 w),jO x])) (LF:=λi N m=>H5 (FU CX EE N) N m [dj (f.fE.map cN),iI (ln (f.fE.map cN)),iI (i:Int),K0 p lf,aw (ba ro),.ae 0 cn,J (bm 0 w),jO x])
  (bF Wo (az eo (aq (Dn))))
  λi hi r q1 q2=>(vS i hi hi (by omega)).2 r (λh=>q1 (sJ)) λh=>q2 (sJ)
 have fi:(List.range f.Ins.length).any (λi=> !b1 i)=false->∀e∈f.Ins,iQ p.aR e:=λh e he=>by
  obtain⟨i,hi,rfl⟩:=IH he;exact(zo i hi hi (by omega)).2 (aj2)
 have fo:(List.range f.fE.length).any (λi=> !b2 i)=false->∀q∈f.fE,tg p.aR q:=λh e he=>by
  obtain⟨i,hi,rfl⟩:=IH he;exact(vS i hi hi (by omega)).1 (aj2)
 generalize (List.range f.Ins.length).any (λi=> !b1 i)=a1 at k1 fi;generalize (List.range f.fE.length).any (λi=> !b2 i)=a2 at k2 fo;have aKo:∀{L D H A:aY},cW WY [K0 p lf,aw (ba ro),.ae 0 cn,J (bm 0 w),J (eQ f L D H A),jO x]
  (bif a1 then(1,[bq,K0 p lf,aw (ba ro),.ae 0 cn,J (bm 0 w),J (eQ f L D H A),jO x])else(0,[K0 p lf,aw (ba ro),.ae 0 cn,J (bm 0 w),J (eQ f L D H A),jO x])):=by
  intro L D H A;refine cL atB ?_;rw [hc];refine ah k1.diag ?_;cases a1 with
  |true=>exact SS
  |false=>exact Gc
 refine⟨!a1&& !a2,λ{L D H A}=>C1 _ (bp ?_),λh=>⟨fi (by cases a1<;>simp_all),fo (by cases a2<;>simp_all)⟩⟩
 ·simp only [bU];erw [hc];refine ah aKo ?_;cases a1 with
  |true=>exact Gc
  |false=>
   refine bp ?_;simp only [cf];erw [hc];refine ah k2.diag ?_;cases a2 with
   |true=>exact SS
   |false=>exact Gc
end
end Go.Proofs.B.C
namespace Go.aj
def Gg{p:Prop}(h:p:=by rw [ED]at h;simp only [jF]at h;rw [h]):p:=h
end Go.aj
namespace Go.Proofs.B.C
open Go Go.aj
section
variable{a b:Bool}{l:aY}
structure XF where
 N:Int
 O:Int
 T:Int
 P:Int
 entry:Int
 In:Bool
 rev:Bool
 lu:Bool
 els:Bool
 jT:Bool
 mode:Int
def xz:XF:=⟨0,0,0,0,0,false,false,false,false,false,0⟩
def _root_.Go.Proofs.B.dU.x(f:dU):XF:=⟨f.N,f.O,f.T,f.P,f.entry,f.In,f.rev,f.lu,f.els,f.jT,f.mode⟩
def fz(k:Int)(x:XF):dU:=⟨k,x.N,x.O,x.T,x.P,x.entry,x.In,x.rev,x.lu,x.els,x.jT,x.mode,[],[],[],[],[]⟩
abbrev flat(k:Int)(x:XF):ak:=eQ (fz k x) [] [] [] []
theorem ED:(ln l != 0)= !l.isEmpty:=by cases l<;>simp [ln];omega
theorem Hg(h:l.isEmpty=true):decide ((0:Int)<ln l)=false:=by
 have:l=[]:=qc;subst this;rfl
theorem eqE(l:aY):Ev zu [bR l,bR []] (0,[aJ l.isEmpty]):=by
 refine bh ad0 (aW (c:=ln l != 0) (λh=>aq ?_) λh=> ?_)
 ·exact Gg
 ·rw [ED]at h;simp only [ja]at h;rw [h];exact ah (E.diag (f:=λN m=>Lh (FU CX EE N) N m _) (bF VR (az (Hg h) aH))) aH
theorem eqP(l:aY):Ev HS [dj l,dj []] (0,[aJ l.isEmpty]):=by
 refine bh adR (aW (c:=ln l != 0) (λh=>aq ?_) λh=> ?_)
 ·exact Gg
 ·rw [ED]at h;simp only [ja]at h;rw [h];exact ah (E.diag (f:=λN m=>Le (FU CX EE N) N m _) (bF VM (az (Hg h) aH))) aH
theorem HK(l:aY):Ev PE [cX l,cX []] (0,[aJ l.isEmpty]):=by
 refine bh adZ (aW (c:=ln l != 0) (λh=>aq ?_) λh=> ?_)
 ·exact Gg
 ·rw [ED]at h;simp only [ja]at h;rw [h];exact ah (E.diag (f:=λN m=>Lg (FU CX EE N) N m _) (bF VQ (az (Hg h) aH))) aH
theorem eqI(l:aY):Ev AW [aM l,aM []] (0,[aJ l.isEmpty]):=by
 refine bh ae5 (aW (c:=ln l != 0) (λh=>aq ?_) λh=> ?_)
 ·exact Gg
 ·rw [ED]at h;simp only [ja]at h;rw [h];exact ah (E.diag (f:=λN m=>Lu (FU CX EE N) N m _) (bF Wn (az (Hg h) aH))) aH
theorem eqD(l:aY):Ev Pz [gN l,gN []] (0,[aJ l.isEmpty]):=by
 refine bh adL (aW (c:=ln l != 0) (λh=>aq ?_) λh=> ?_)
 ·exact Gg
 ·rw [ED]at h;simp only [ja]at h;rw [h];exact ah (E.diag (f:=λN m=>Lc (FU CX EE N) N m _) (bF VK (az (Hg h) aH))) aH
theorem eqH(l:aY):Ev Pw [gy l,gy []] (0,[aJ l.isEmpty]):=by
 refine bh adB (aW (c:=ln l != 0) (λh=>aq ?_) λh=> ?_)
 ·exact Gg
 ·rw [ED]at h;simp only [ja]at h;rw [h];exact ah (E.diag (f:=λN m=>K9 (FU CX EE N) N m _) (bF VG (az (Hg h) aH))) aH
theorem eqA(l:aY):Ev PB [eh l,eh []] (0,[aJ l.isEmpty]):=by
 refine bh adS (aW (c:=ln l != 0) (λh=>aq ?_) λh=> ?_)
 ·exact Gg
 ·rw [ED]at h;simp only [ja]at h;rw [h];exact ah (E.diag (f:=λN m=>Lf (FU CX EE N) N m _) (bF VN (az (Hg h) aH))) aH
def bb(a b:Bool):Bool:=bif a==b then true else false
def xB(k:Int)(f:XF)(k':Int)(x:XF):Bool:=
 (k==k')&&((f.N==x.N)&&((f.O==x.O)&&((f.T==x.T)&&((f.P==x.P)&&((f.entry==x.entry)&&((f.mode==x.mode)&&((f.In==x.In)&&((f.rev==x.rev)&&((f.lu==x.lu)&&((f.els==x.els)&&(f.jT==x.jT)))))))))))
def lB(f:dU)(L D H A:aY):Bool:=
 (f.E.map aZ).isEmpty &&((f.Ins.map aZ).isEmpty &&((ints f.Ts).isEmpty &&((f.To.map cN).isEmpty &&((f.fE.map cN).isEmpty &&(L.isEmpty&&(D.isEmpty&&(H.isEmpty&&A.isEmpty)))))))
def Eh(f:dU)(L D H A:aY)(k':Int)(x:XF):Bool:=xB f.kind f.x k' x&&lB f L D H A
theorem U4(h:(!(a==b))=true):(a==b)=false:=qc
theorem AE(h:(!(a==b))=false):(a==b)=true:=qc
section
variable (f:dU) (L D H A:aY) (k:Int) (x:XF)
def sY(k:Int)(f:XF)(k':Int)(x:XF):Bool:=(k==k')&&((f.N==x.N)&&((f.O==x.O)&&((f.T==x.T)&&((f.P==x.P)&&((f.entry==x.entry)&&(f.mode==x.mode))))))
def vJ(f x:XF):Bool:=(f.In==x.In)&&((f.rev==x.rev)&&((f.lu==x.lu)&&((f.els==x.els)&&(f.jT==x.jT))))
theorem aDm{k k':Int}{f x:XF}:xB k f k' x=(sY k f k' x&&vJ f x):=by unfold xB sY vJ;simp only [Bool.and_assoc]
theorem aFd:cW Qf [J (eQ f L D H A),J (flat k x)] (0,[aJ (!sY f.kind f.x k x),J (eQ f L D H A),J (flat k x)]):=by
 refine cL ae3 ?_;refine aW (c:=f.kind != k) (λh=>aq (by simp only [sY,qg h];rfl)) λh=>aW (c:=f.N != x.N) (λh2=>aq ?_) λh2=>aW (c:=f.O != x.O) (λh3=>aq ?_) λh3=>aW (c:=f.T != x.T) (λh4=>aq ?_) λh4=>aW (c:=f.P != x.P) (λh5=>aq ?_) λh5=>aW (c:=f.entry != x.entry) (λh6=>aq ?_) λh6=>aq ?_
 ·have:sY f.kind f.x k x=false:=by unfold sY dU.x;rw [eU h,qg h2];rfl
  exact kg
 ·have:sY f.kind f.x k x=false:=by unfold sY dU.x;rw [eU h,eU h2,qg h3];rfl
  exact kg
 ·have:sY f.kind f.x k x=false:=by unfold sY dU.x;rw [eU h,eU h2,eU h3,qg h4];rfl
  exact kg
 ·have:sY f.kind f.x k x=false:=by unfold sY dU.x;rw [eU h,eU h2,eU h3,eU h4,qg h5];rfl
  exact kg
 ·have:sY f.kind f.x k x=false:=by unfold sY dU.x;rw [eU h,eU h2,eU h3,eU h4,eU h5,qg h6];rfl
  exact kg
 ·have:sY f.kind f.x k x=(f.mode==x.mode):=by unfold sY dU.x;rw [eU h,eU h2,eU h3,eU h4,eU h5,eU h6];rfl
  exact kg
theorem aDE:cW P8 [J (eQ f L D H A),J (flat k x)] (0,[aJ (!vJ f.x x),J (eQ f L D H A),J (flat k x)]):=by
 refine cL aeR ?_;refine aW (c:= !(f.In==x.In)) (λh=>aq ?_) λh=>aW (c:= !(f.rev==x.rev)) (λh2=>aq ?_) λh2=>aW (c:= !(f.lu==x.lu)) (λh3=>aq ?_) λh3=>aW (c:= !(f.els==x.els)) (λh4=>aq ?_) λh4=>aq ?_
 ·have:vJ f.x x=false:=by unfold vJ dU.x;rw [U4 h];rfl
  exact kg
 ·have:vJ f.x x=false:=by unfold vJ dU.x;rw [AE h,U4 h2];rfl
  exact kg
 ·have:vJ f.x x=false:=by unfold vJ dU.x;rw [AE h,AE h2,U4 h3];rfl
  exact kg
 ·have:vJ f.x x=false:=by unfold vJ dU.x;rw [AE h,AE h2,AE h3,U4 h4];rfl
  exact kg
 ·have:vJ f.x x=(f.jT==x.jT):=by unfold vJ dU.x;rw [AE h,AE h2,AE h3,AE h4];rfl
  exact kg
theorem aDB:cW P7 [J (eQ f L D H A),J (flat k x)] (0,[aJ (!((f.E.map aZ).isEmpty &&((f.Ins.map aZ).isEmpty &&(ints f.Ts).isEmpty))),J (eQ f L D H A),J (flat k x)]):=by
 refine cL aeQ ?_;refine ah (eqE (f.E.map aZ)) (aW (c:= !(f.E.map aZ).isEmpty) (λh=>aq ?_) λh=>ah (eqE (f.Ins.map aZ)) (aW (c:= !(f.Ins.map aZ).isEmpty) (λh2=>aq ?_) λh2=>ah (eqI (ints f.Ts)) (aq ?_)))
 ·simp only [jF]at h;rw [h];rfl
 ·simp only [jF,ja]at h h2;rw [h,h2];rfl
 ·simp only [ja]at h h2;rw [h,h2];rfl
def EF(f:dU)(L:aY):Bool:=(f.To.map cN).isEmpty &&((f.fE.map cN).isEmpty &&L.isEmpty)
theorem sm6:cW Ql [J (eQ f L D H A),J (flat k x)] (bif xB f.kind f.x k x&&(((f.E.map aZ).isEmpty &&((f.Ins.map aZ).isEmpty &&(ints f.Ts).isEmpty))&&EF f L)then(0,[J (eQ f L D H A),J (flat k x)])else(1,[bq,J (eQ f L D H A),J (flat k x)])):=by
 refine cL afb ?_;rw [aDm];refine ah (aFd f L D H A k x) (aW (c:= !sY f.kind f.x k x) (λh=>aq ?_) λh=>ah (aDE f L D H A k x) (aW (c:= !vJ f.x x) (λh2=>aq ?_) λh2=>ah (aDB f L D H A k x) (aW (c:= !((f.E.map aZ).isEmpty &&((f.Ins.map aZ).isEmpty &&(ints f.Ts).isEmpty))) (λh3=>aq ?_) λh3=>ah (eqP (f.To.map cN)) (aW (c:= !(f.To.map cN).isEmpty) (λh4=>aq ?_) λh4=>ah (eqP (f.fE.map cN)) (aW (c:= !(f.fE.map cN).isEmpty) (λh5=>aq ?_) λh5=>ah (HK L) (aW (c:= !L.isEmpty) (λh6=>aq ?_) λh6=>aq ?_))))))
 ·simp only [jF]at h;rw [h];rfl
 ·simp only [jF,ja]at h h2;rw [h,h2];rfl
 ·simp only [jF,ja]at h h2 h3;rw [h,h2,h3];rfl
 ·simp only [jF,ja]at h h2 h3 h4;unfold EF;rw [h,h2,h3,h4];rfl
 ·simp only [jF,ja]at h h2 h3 h4 h5;unfold EF;rw [h,h2,h3,h4,h5];rfl
 ·simp only [jF,ja]at h h2 h3 h4 h5 h6;unfold EF;rw [h,h2,h3,h4,h5,h6];rfl
 ·simp only [ja]at h h2 h3 h4 h5 h6;unfold EF;rw [h,h2,h3,h4,h5,h6];rfl
theorem aCo:Eh f L D H A k x=((xB f.kind f.x k x&&(((f.E.map aZ).isEmpty &&((f.Ins.map aZ).isEmpty &&(ints f.Ts).isEmpty))&&EF f L))&&(D.isEmpty&&(H.isEmpty&&A.isEmpty))):=by
 unfold Eh lB EF;simp only [Bool.and_assoc]
theorem smC:Ev u9 [J (eQ f L D H A),J (flat k x)] (0,[aJ (Eh f L D H A k x)]):=by
 refine bh afF (ah (sm6 f L D H A k x) ?_);rw [aCo];cases xB f.kind f.x k x&&(((f.E.map aZ).isEmpty &&((f.Ins.map aZ).isEmpty &&(ints f.Ts).isEmpty))&&EF f L)with
 |false=>exact qU
 |true=>
  refine bp ?_;simp only [bU];refine(ah (eqD D) (aW (c:=D.isEmpty) (λh=>ah (eqH H) (aW (c:=H.isEmpty) (λh2=>ah (eqA A) (aq ?_)) λh2=>aq ?_)) λh=>aq ?_))
  ·rw [h,h2];rfl
  ·rw [h,h2];rfl
  ·exact sJ
theorem aD5:Ev yp [J (eQ f L D H A)] (0,[aJ (Eh f L D H A 1 xz)]):=
 bh ayS (ah (smC f L D H A 1 xz) aH)
end
end
end Go.Proofs.B.C
namespace Go.aj
def ala{p:Prop}(h:p:=by
 cases U:k==12 with
 |true=>exact .inl (eq_of_beq U)
 |false=>rw [U]at h;exact .inr (eq_of_beq h)):p:=h
def Jd{p:Prop}(h:p:=by rw [U]at h;cases h):p:=h
end Go.aj
namespace Go.Proofs.B.C
open Go Go.aj
section
variable{k:Int}
def eS(k:Int):Int:=bif k==2 then 1 else bif k==4 then 1 else bif k==5 then 1 else bif k==6 then 2 else bif k==11 then 1 else bif k==15 then 1 else 0
def toS(k:Int):Int:=bif k==2 then 1 else bif k==12 then 1 else bif k==13 then 1 else bif k==14 then 1 else 0
def lS(k:Int):Int:=bif k==4 then 2 else bif k==5 then 1 else bif k==6 then 1 else bif k==7 then 1 else bif k==9 then 1 else bif k==16 then 2 else bif k==17 then 3 else bif k==18 then 2 else bif k==19 then 1 else bif k==20 then 1 else 0
def eF(k:Int):Bool:=bif k==16 then true else bif k==17 then true else false
def lF(k:Int):Bool:=bif k==3 then true else false
def tR(k:Int):Nat:=bif k==9 then 1 else bif k==16 then 2 else bif k==19 then 3 else bif k==22 then 4 else 0
def lsK(k:Int):Bool:=bif k==9 then true else bif k==19 then true else bif k==22 then true else false
def Ha(k:Int):Bool:=bif k==1 then true else bif k==2 then true else bif k==3 then true else bif k==4 then true else bif k==5 then true else bif k==6 then true else bif k==7 then true else bif k==8 then true else bif k==9 then true else bif k==10 then true else bif k==11 then true else bif k==12 then true else bif k==13 then true else bif k==14 then true else bif k==15 then true else bif k==16 then true else bif k==17 then true else bif k==18 then true else bif k==19 then true else bif k==20 then true else bif k==21 then true else bif k==22 then true else false
def KZ(k e:Int):Int:=bif eF k then e else eS k
def Hj(k l:Int):Int:=bif lF k then l else lS k
def xS(f:dU)(k:Int):XF:=bif k==6 then{xz with O:=f.O,rev:=f.rev}else bif k==7 then{xz with N:=f.N}else bif k==8 then{xz with N:=f.N}else bif k==10 then{xz with N:=f.N}else bif k==14 then bif f.In then{xz with P:=f.P,entry:=f.entry,In:=f.In}else{xz with entry:=f.entry,In:=f.In}else bif k==15 then{xz with lu:=f.lu}else bif k==16 then{xz with T:=f.T,entry:=f.entry,mode:=f.mode}else bif k==17 then{xz with P:=f.P,entry:=f.entry,mode:=f.mode}else bif k==18 then{xz with entry:=f.entry}else bif k==19 then{xz with els:=f.els}else bif k==20 then{xz with P:=f.P}else bif k==21 then{xz with T:=f.T,entry:=f.entry,jT:=f.jT}else xz
abbrev kTs:AV:= .str (⟨#[116,115]⟩:ByteArray)
abbrev kDe:AV:= .str (⟨#[100,101,99,108,115]⟩:ByteArray)
abbrev kCa:AV:= .str (⟨#[99,97,108,108]⟩:ByteArray)
abbrev kAl:AV:= .str (⟨#[97,108,116,115]⟩:ByteArray)
def mpE(c:Nat):List (AV×AV):=bif c==1 then [(kTs,fF),(kDe,fF)]else bif c==2 then [(kCa,fF)]else bif c==3 then [(kAl,fF)]else bif c==4 then [(kTs,fF)]else []
abbrev rO(a:Nat)(k:Int)(x:XF):ak:=[cE k,iI x.N,iI x.O,iI x.T,iI x.P,iI x.entry,aJ x.In,aJ x.rev,aJ x.lu,aJ x.els,aJ x.jT,cE x.mode,.au a,.au (a+1),.au (a+2),.au (a+3),.au (a+4),.au (a+5),.au (a+6),.au (a+7),.au (a+8)]
abbrev e9:ak:=[bR [],bR [],dj [],dj [],aM [],cX [],gN [],gy [],eh []]
def EG(k:Int):Bool:=bif k==8 then true else k==10
def EH(k:Int):Bool:=bif k==12 then true else k==13
theorem kLC(k:Int):cW WN [cE k] (0,[aJ (EG k)]):=
 cL ata (aW (λh=>aq (by simp only [EG,h,bU])) λh=>aq (by simp only [EG,h,cf]))
theorem kGC(k:Int):cW Wk [cE k] (0,[aJ (EH k)]):=
 cL asb (aW (λh=>aq (by simp only [EH,h,bU])) λh=>aq (by simp only [EH,h,cf]))
theorem aCT(h:EG k=true):k=8∨k=10:=by
 unfold EG at h;cases U:k==8 with
 |true=>exact .inl (eq_of_beq U)
 |false=>rw [U]at h;exact .inr (eq_of_beq h)
theorem aCU(h:EH k=true):k=12∨k=13:=by
 unfold EH at h;exact ala
theorem alJ(h:EG k=false):(k==8)=false/\(k==10)=false:=by
 unfold EG at h;cases U:k==8 with
 |true=>exact Jd
 |false=>rw [U]at h;exact⟨rfl,h⟩
theorem alK(h:EH k=false):(k==12)=false/\(k==13)=false:=by
 unfold EH at h;cases U:k==12 with
 |true=>exact Jd
 |false=>rw [U]at h;exact⟨rfl,h⟩
section
variable (f:dU) (L D H A:aY)
abbrev SF:AV:= J (eQ f L D H A)
theorem aDH:E (λN _=>XC (FU CX EE N) N ([iI 0,iI 0,iI 0,SF f L D H A,J (rO 3 f.kind xz),.ae 0 (bz [])]++e9))
 (bif Ha f.kind then(0,[iI (KZ f.kind (ln (f.E.map aZ))),iI (toS f.kind),iI (Hj f.kind (ln L)),SF f L D H A,J (rO 3 f.kind (xS f f.kind)),.ae 0 (bz (mpE (tR f.kind)))]++e9)else(1,[bq,SF f L D H A,J (rO 3 f.kind xz),.ae 0 (bz [])]++e9)):=by
 refine cL avV ?_;refine aW (c:=f.kind==1) (λU=> ?_) λU=>aW (c:=f.kind==2) (λh2=> ?_) λh2=>aW (c:=f.kind==3) (λh3=> ?_) λh3=>aW (c:=f.kind==4) (λh4=> ?_) λh4=>aW (c:=f.kind==5) (λh5=> ?_) λh5=>aW (c:=f.kind==6) (λh6=> ?_) λh6=>aW (c:=f.kind==7) (λh7=> ?_) λh7=>ah (kLC f.kind) (aW (c:=EG f.kind) (λhL=> ?_) λhL=>aW (c:=f.kind==9) (λh9=> ?_) λh9=>aW (c:=f.kind==11) (λpA=> ?_) λpA=>ah (kGC f.kind) (aW (c:=EH f.kind) (λhC=> ?_) λhC=>aW (c:=f.kind==14) (λtZ=>aW (c:=f.In) (λg=> ?_) λg=> ?_) λtZ=>aW (c:=f.kind==15) (λh15=> ?_) λh15=>aW (c:=f.kind==16) (λlv=> ?_) λlv=>aW (c:=f.kind==17) (λqp=> ?_) λqp=>aW (c:=f.kind==18) (λtY=> ?_) λtY=>aW (c:=f.kind==19) (λkp=> ?_) λkp=>aW (c:=f.kind==20) (λsr=> ?_) λsr=>aW (c:=f.kind==21) (λHF=> ?_) λHF=>aW (c:=f.kind==22) (λym=> ?_) λym=> ?_))
 ·rw [eq_of_beq U];exact aH
 ·rw [eq_of_beq h2];exact aH
 ·rw [eq_of_beq h3];exact aH
 ·rw [eq_of_beq h4];exact aH
 ·rw [eq_of_beq h5];exact aH
 ·rw [eq_of_beq h6];exact aH
 ·rw [eq_of_beq h7];exact aH
 ·rcases aCT hL with h|h
  ·rw [h];exact aH
  ·rw [h];exact aH
 ·rw [eq_of_beq h9];exact aH
 ·rw [eq_of_beq pA];exact aH
 ·rcases aCU hC with h|h
  ·rw [h];exact aH
  ·rw [h];exact aH
 ·rw [eq_of_beq tZ,show xS f 14={xz with P:=f.P,entry:=f.entry,In:=f.In}by show(bif f.In then _ else _)=_;rw [g];rfl];exact aH
 ·rw [eq_of_beq tZ,show xS f 14={xz with entry:=f.entry,In:=f.In}by show(bif f.In then _ else _)=_;rw [g];rfl];exact aH
 ·rw [eq_of_beq h15];exact aH
 ·rw [eq_of_beq lv];exact aH
 ·rw [eq_of_beq qp];exact aH
 ·rw [eq_of_beq tY];exact aH
 ·rw [eq_of_beq kp];exact aH
 ·rw [eq_of_beq sr];exact aH
 ·rw [eq_of_beq HF];exact aH
 ·rw [eq_of_beq ym];exact aH
 ·rw [show Ha f.kind=false by unfold Ha;rw [U,h2,h3,h4,h5,h6,h7,(alJ hL).1,h9,(alJ hL).2,pA,(alK hC).1,(alK hC).2,tZ,h15,lv,qp,tY,kp,sr,HF,ym];rfl];exact aH
def tL(f:dU)(L:aY):Bool:=xB f.kind f.x f.kind (xS f f.kind)&&((ln (f.E.map aZ)==KZ f.kind (ln (f.E.map aZ)))&&((ln (f.To.map cN)==toS f.kind)&&(ln L==Hj f.kind (ln L))))
theorem aDG:E (λN _=>XB (FU CX EE N) N ([iI (KZ f.kind (ln (f.E.map aZ))),iI (toS f.kind),iI (Hj f.kind (ln L)),SF f L D H A,J (rO 3 f.kind f.x),J (rO 12 f.kind (xS f f.kind))]++(e9++e9)))
 (bif tL f L then(0,[SF f L D H A,J (rO 3 f.kind f.x),J (rO 12 f.kind (xS f f.kind))]++(e9++e9))else(1,[bq,SF f L D H A,J (rO 3 f.kind f.x),J (rO 12 f.kind (xS f f.kind))]++(e9++e9))):=by
 have hs:=smC (fz f.kind f.x) [] [] [] [] f.kind (xS f f.kind);rw [show Eh (fz f.kind f.x) [] [] [] [] f.kind (xS f f.kind)=xB f.kind f.x f.kind (xS f f.kind)by unfold Eh;rw [show lB (fz f.kind f.x) [] [] [] []=true from rfl,Bool.and_true];rfl]at hs;refine cL avU ?_;refine ah hs (aW (c:= !xB f.kind f.x f.kind (xS f f.kind)) (λh=>aq ?_) λh=>aW (c:=ln (f.E.map aZ) != KZ f.kind (ln (f.E.map aZ))) (λh2=>aq ?_) λh2=>aW (c:=ln (f.To.map cN) != toS f.kind) (λh3=>aq ?_) λh3=>aW (c:=ln L != Hj f.kind (ln L)) (λh4=>aq ?_) λh4=>aq ?_)
 ·have:tL f L=false:=by unfold tL;simp only [jF]at h;rw [h];rfl
  exact kg
 ·have:tL f L=false:=by unfold tL;rw [qg h2];simp
  exact kg
 ·have:tL f L=false:=by unfold tL;rw [qg h3];simp
  exact kg
 ·have:tL f L=false:=by unfold tL;rw [qg h4];simp
  exact kg
 ·have:tL f L=true:=by unfold tL;simp only [ja]at h;rw [h,eU h2,eU h3,eU h4];rfl
  exact kg
def Oy(f:dU)(D H A:aY)(c:Nat):Bool:=
 (bif c==2 then true else bH (ln (f.Ins.map aZ)+ln (f.fE.map cN))==0)&&((bif (c==1||c==4)then true else ln (ints f.Ts)==0)&&((bif c==1 then true else bH (ln D+ln H)==0)&&(bif c==3 then true else ln A==0)))
theorem aCL(k:Int):tR k=0∨tR k=1∨tR k=2∨tR k=3∨tR k=4:=by
 unfold tR;cases k==9<;>cases k==16<;>cases k==19<;>cases k==22<;>simp
theorem shC:Ev Q3 [SF f L D H A] (0,[aJ (Ha f.kind&&(tL f L&&Oy f D H A (tR f.kind)))]):=by
 refine bh ayn (ah (aDH f L D H A) ?_);cases Ha f.kind with
 |false=>exact qU
 |true=>
  refine bp ?_;simp only [bU];refine ah (aDG f L D H A) ?_;cases tL f L with
  |false=>exact qU
  |true=>
   refine bp ?_;simp only [bU,zD];unfold Oy;rcases aCL f.kind with h|h|h|h|h<;>rw [h]
   ·refine aW (c:=bH (ln (f.Ins.map aZ)+ln (f.fE.map cN))==0) (λa=>aW (c:=ln (ints f.Ts)==0) (λb=>aW (c:=bH (ln D+ln H)==0) (λc=>aq ?_) λc=>aq ?_) λb=>aq ?_) λa=>aq ?_
    ·rw [a,b,c];rfl
    ·rw [a,b,c];rfl
    ·exact zP
    ·rw [a];rfl
   ·refine aW (c:=bH (ln (f.Ins.map aZ)+ln (f.fE.map cN))==0) (λa=>bp (bp (aq ?_))) λa=>aq ?_
    ·rw [a];rfl
    ·rw [a];rfl
   ·refine bp (aW (c:=ln (ints f.Ts)==0) (λb=>aW (c:=bH (ln D+ln H)==0) (λc=>aq ?_) λc=>aq ?_) λb=>aq ?_)
    ·rw [b,c];rfl
    ·rw [b,c];rfl
    ·rw [b];rfl
   ·refine aW (c:=bH (ln (f.Ins.map aZ)+ln (f.fE.map cN))==0) (λa=>aW (c:=ln (ints f.Ts)==0) (λb=>aW (c:=bH (ln D+ln H)==0) (λc=>bp (aq ?_)) λc=>aq ?_) λb=>aq ?_) λa=>aq ?_
    ·rw [a,b,c];rfl
    ·rw [a,b,c];rfl
    ·exact zP
    ·rw [a];rfl
   ·refine aW (c:=bH (ln (f.Ins.map aZ)+ln (f.fE.map cN))==0) (λa=>bp (aW (c:=bH (ln D+ln H)==0) (λc=>aq ?_) λc=>aq ?_)) λa=>aq ?_
    ·rw [a,c];rfl
    ·rw [a,c];rfl
    ·rw [a];rfl
end
end
section
variable{a:aY}
section
variable (f:dU) (L D H A:aY)
theorem lp{l:aY}:decide (0<ln l)= !l.isEmpty:=by cases l<;>simp [ln]
theorem w2{b:aY}(ha:a.length<=mx)(hb:b.length<=mx):(bH (ln a+ln b)==0)=(a.isEmpty&&b.isEmpty):=by
 simp only [mx]at ha hb;have:bH (ln a+ln b)=ln a+ln b:=pE (by simp only [ln];omega) (by simp only [ln];omega);rw [this];cases a<;>cases b<;>simp [ln]<;>omega
theorem l0:(ln a==0)=a.isEmpty:=by cases a<;>simp [ln];omega
theorem ao2(k:Int):(tR k==2)=(k==16)/\(tR k==1)=(k==9)/\(tR k==3)=(k==19)/\(tR k==1||tR k==4)=(k==9||k==22)/\lsK k=(k==9||(k==19||k==22)):=by
 cases h9:k==9 with
 |true=>rw [eq_of_beq h9];decide
 |false=>
 cases lv:k==16 with
 |true=>rw [eq_of_beq lv];decide
 |false=>
 cases kp:k==19 with
 |true=>rw [eq_of_beq kp];decide
 |false=>
 cases ym:k==22 with
 |true=>rw [eq_of_beq ym];decide
 |false=>
  have a:tR k=0:=by unfold tR;rw [h9,lv,kp,ym];rfl
  have b:lsK k=false:=by unfold lsK;rw [h9,kp,ym];rfl
  rw [a,b];decide
def w8(f:dU)(L D H A:aY):Bool:=Ha f.kind&&(tL f L&&Oy f D H A (tR f.kind))
theorem ZT(h:w8 f L D H A=true):ln (f.E.map aZ)=KZ f.kind (ln (f.E.map aZ))/\ln (f.To.map cN)=toS f.kind/\ln L=Hj f.kind (ln L):=by
 unfold w8 tL at h;simp only [bw,iU]at h;exact⟨h.2.1.2.1,h.2.1.2.2.1,h.2.1.2.2.2⟩
end
end
section
variable (f:dU) (L D H A:aY)
def VC(k:Int):Bool:=bif k==16 then true else bif k==17 then true else bif k==18 then true else bif k==19 then true else bif k==15 then true else bif k==11 then true else bif k==12 then true else bif k==22 then true else k==21
def HN(f:dU):Bool:=bif VC f.kind then true else bif f.kind==9 then decide (0<ln (ints f.Ts))else false
theorem aLz(k:Int):cW XG [cE k] (0,[aJ (VC k)]):=by
 refine cL avY ?_;refine aW (λh=>aq ?_) λh=>aW (λh2=>aq ?_) λh2=>aW (λh3=>aq ?_) λh3=>aW (λh4=>aq ?_) λh4=>aW (λh5=>aq ?_) λh5=>aW (λh6=>aq ?_) λh6=>aW (λh7=>aq ?_) λh7=>aW (λh8=>aq ?_) λh8=>aq ?_<;>(try simp only [VC,h,bU,cf])<;>(try simp only [h2,bU,cf])<;>(try simp only [h3,bU,cf])<;>(try simp only [h4,bU,cf])<;>(try simp only [h5,bU,cf])<;>(try simp only [h6,bU,cf])<;>(try simp only [h7,bU,cf])<;>(try simp only [h8,bU,cf])
theorem blC:Ev QP [SF f L D H A] (0,[aJ (HN f)]):=by
 refine bh axS (ah (aLz f.kind) (aW (c:=VC f.kind) (λh=>aq ?_) λh=>aW (c:=f.kind==9) (λg=>aq ?_) λg=>aq ?_))
 ·unfold HN;rw [h];rfl
 ·unfold HN;rw [h,g];rfl
 ·unfold HN;rw [h,g];rfl
end
section
variable {p:PG} {ts:List TK} {ro:List RO} (ct:CT p ts ro) {w:WH} (hw:w.Ok) {cn:aY} (hc:bz (aU cn)=cn) {lf:Int} (hE:pM)
variable (f:dU) (L D H A:aY)
def E8(k:Int):Bool:=bif k==18 then true else bif k==19 then true else k==21
def Kp(w:WH)(f:dU):Bool:=bif decide (0<ln (ints w.mZ))then !HN f else true
def vK(w:WH)(f:dU):Bool:=
 Kp w f&&bif E8 f.kind then(!w.uz&& !w.tk)else bif f.kind==11 then true else bif f.kind==12 then true else bif !w.tk then true else !HN f
include hc in
theorem stC:Ev W6 [J (bm 0 w),SF f L D H A,K0 p lf,aw (ba ro),.ae 0 cn] (0,aJ (vK w f)::gW p ro lf cn):=by
 have j6:cW WB [K0 p lf,aw (ba ro),.ae 0 cn,J (bm 0 w),SF f L D H A] (bif Kp w f then(0,[K0 p lf,aw (ba ro),.ae 0 cn,J (bm 0 w),SF f L D H A])else(1,[bq,K0 p lf,aw (ba ro),.ae 0 cn,J (bm 0 w),SF f L D H A])):=by
  refine cL as5 ?_;rw [hc];refine aW (c:=decide (0<ln (ints w.mZ))) (λh=>ah (blC f L D H A) (aW (c:=HN f) (λg=>aq ?_) λg=>aq ?_)) λh=>aq ?_
  ·unfold Kp;rw [h,g];rfl
  ·unfold Kp;rw [h,g];rfl
  ·unfold Kp;rw [h];rfl
 have acX:cW Wj [cE f.kind,K0 p lf,aw (ba ro),.ae 0 cn] (0,aJ (E8 f.kind)::gW p ro lf cn):=by
  refine cL ar8 ?_;rw [hc];refine aW (c:=f.kind==18) (λh=>aq ?_) λh=>aW (c:=f.kind==19) (λh2=>aq ?_) λh2=>aq ?_
  ·unfold E8;rw [h];rfl
  ·unfold E8;rw [h,h2];rfl
  ·unfold E8;rw [h,h2];rfl
 let cY:UO:=bif E8 f.kind then(1,[aJ (!w.uz&& !w.tk),K0 p lf,aw (ba ro),.ae 0 cn,J (bm 0 w),SF f L D H A])else bif f.kind==11 then(1,[fF,K0 p lf,aw (ba ro),.ae 0 cn,J (bm 0 w),SF f L D H A])else bif f.kind==12 then(1,[fF,K0 p lf,aw (ba ro),.ae 0 cn,J (bm 0 w),SF f L D H A])else(0,[K0 p lf,aw (ba ro),.ae 0 cn,J (bm 0 w),SF f L D H A])
 have j14:cW Ws [K0 p lf,aw (ba ro),.ae 0 cn,J (bm 0 w),SF f L D H A] cY:=by
  refine cL asw ?_;rw [hc];refine ah acX ?_;erw [hc];refine aW (c:=E8 f.kind) (λh=>aW (c:= !w.uz) (λg=>aq ?_) λg=>aq ?_) λh=>aW (c:=f.kind==11) (λg=>aq ?_) λg=>aW (c:=f.kind==12) (λi=>aq ?_) λi=>aq ?_
  ·simp only [cY,h,g,bU,zD];rfl
  ·simp only [cY,h,g,bU,yu];rfl
  ·simp only [cY,h,g,bU,cf];rfl
  ·simp only [cY,h,g,i,bU,cf];rfl
  ·simp only [cY,h,g,i,cf];rfl
 refine bh auk ?_;rw [hc];refine ah j6 ?_;cases U:Kp w f with
 |false=>refine av (aq ?_);erw [hc];unfold vK;rw [U];rfl
 |true=>
  refine bp ?_;simp only [bU];erw [hc];refine ah j14 ?_;cases h2:E8 f.kind with
  |true=>
   simp only [cY,h2,bU];refine av (aq ?_);erw [hc];unfold vK;rw [U,h2];rfl
  |false=>
   cases h3:f.kind==11 with
   |true=>
    simp only [cY,h2,h3,bU,cf];refine av (aq ?_);erw [hc];unfold vK;rw [U,h2,h3];rfl
   |false=>
    cases h4:f.kind==12 with
    |true=>
     simp only [cY,h2,h3,h4,bU,cf];refine av (aq ?_);erw [hc];unfold vK;rw [U,h2,h3,h4];rfl
    |false=>
     simp only [cY,h2,h3,h4,cf];refine bp ?_;erw [hc];refine aW (c:= !w.tk) (λh=>aq ?_) λh=>ah (blC f L D H A) (aq ?_)
     ·unfold vK;rw [U,h2,h3,h4,h];rfl
     ·unfold vK;rw [U,h2,h3,h4,h];rfl
end
end Go.Proofs.B.C
namespace Go.aj
def alu{p:Prop}(h:p:=by
 obtain⟨b,h⟩:=U3 ct hw hc (lf:=lf) hE e (ok e (by simp));exact⟨b,λe' h'=>by injection h' with h';subst h';exact h⟩):p:=h
def aaL{p:Prop}(h:p:=by rw [eq_of_beq hl];rfl):p:=h
def ajZ{p:Prop}(h:p:=by simp only [cY,ht,hm,hb,bU,cf]):p:=h
end Go.aj
namespace Go.aj
def ZG:=@List.drop_eq_nil_of_le
end Go.aj
namespace Go.Proofs.B.C
open Go Go.aj
def oa(s:CS):Bool:=Eh s.f (s.L.map encS) (s.D.map fC) (s.H.map dH) (s.A.map dY) 1 xz
theorem Ga(s:CS):Ev yp [J (encS s)] (0,[aJ (oa s)]):=by rw [xI];exact aD5 _ _ _ _ _
theorem aiY(l:aY)(k j:Nat):gA (l.drop k) j=gA l (k+j):=by simp [gA,List.getD]
section
variable {p:PG} {ts:List TK} {ro:List RO} (ct:CT p ts ro) {w:WH} (hw:w.Ok) {cn:aY} (hc:bz (aU cn)=cn) {lf:Int} (hE:pM)
def K6(l:List OB)(f:dU)(X:List CS):Prop:=(f.mode=0/\f.E=[]/\∀y∈X,oa y=true)∨(f.mode=1/\f.E=[])∨((f.mode=2∨f.mode=3)/\∃e,f.E=[e]/\iQ l e)
include ct hw hc hE in
theorem ajb{f:dU}(hf:f.Ok){n:Nat}(h2:2<=n)(h3:n<=3):∀{Ls:List CS} {D H A:aY},Ls.length=n->∃b,
 Ev Fe [J (bm 0 w),SF f (Ls.map encS) D H A,K0 p lf,aw (ba ro),.ae 0 cn] (0,aJ b::gW p ro lf cn)/\(b=true->K6 p.aR f (Ls.drop (n- 2))):=by
 obtain⟨nb,Ht⟩:∃nb:Bool,∀e,f.E=[e]->Ev zx [J (bm 0 w),J (aZ e),J (dE 1 2 p lf),aw (ba ro),.ae 0 cn] (0,aJ nb::gW p ro lf cn)/\(nb=true->iQ p.aR e):=by
  have ok:=hf.E.2;generalize f.E=l at ok
  match l,ok with
  | [e],ok=>
    exact alu
  | [],_=>exact⟨false,λe h=>aD⟩
  |_::_::_,_=>exact⟨false,λe h=>aD⟩
 intro Ls D H A hn;have i0:n- 2<Ls.length:=by omega
 have i1:n- 1<Ls.length:=by omega
 let tB:Bool:=oa Ls[n- 2]&&oa Ls[n- 1]
 let tm:Bool:=bif f.mode==2 then true else f.mode==3
 have hk:bH (ln (Ls.map encS)- 2)=((n- 2:Nat):Int):=by rw [fM,hn,pE (by omega) (by omega)];omega
 have g0:bg fU 0 (gA ((Ls.map encS).drop (n- 2)) 0)=encS Ls[n- 2]:=by rw [aiY,A9,xL i0,gE]
 have g1:bg fU 0 (gA ((Ls.map encS).drop (n- 2)) 1)=encS Ls[n- 1]:=by
  rw [aiY,show n- 2+1=n- 1 by omega,xL i1,gE]
 have acX:cW Wr [cE f.mode,K0 p lf,aw (ba ro),.ae 0 cn] (0,aJ tm::gW p ro lf cn):=by
  refine cL asv ?_;rw [hc];refine aW (c:=f.mode==2) (λh=>aq ?_) λh=>aq ?_
  ·simp only [tm,h,bU];rfl
  ·simp only [tm,h,cf];rfl
 let cY:UO:=bif tm then(0,[iI 1,K0 p lf,aw (ba ro),.ae 0 cn,SF f (Ls.map encS) D H A])else bif f.mode==0 then bif tB then(0,[iI 0,K0 p lf,aw (ba ro),.ae 0 cn,SF f (Ls.map encS) D H A])else(1,[bq,K0 p lf,aw (ba ro),.ae 0 cn,SF f (Ls.map encS) D H A])else bif f.mode==1 then(0,[iI 0,K0 p lf,aw (ba ro),.ae 0 cn,SF f (Ls.map encS) D H A])else(1,[bq,K0 p lf,aw (ba ro),.ae 0 cn,SF f (Ls.map encS) D H A])
 have j14:cW WA [iI 0,K0 p lf,aw (ba ro),.ae 0 cn,SF f (Ls.map encS) D H A] cY:=by
  refine cL as4 ?_;rw [hc];refine ah acX ?_;erw [hc];refine aW (c:=tm) (λh=>aq (by simp only [cY,h,bU];rfl)) λh=>aW (c:=f.mode==0) (λg=> ?_) λg=>aW (c:=f.mode==1) (λi=>aq (by simp only [cY,h,g,i,bU,cf];rfl)) λi=>aq (by simp only [cY,h,g,i,cf];rfl)
  ·have e17:gR (eQ f (Ls.map encS) D H A) 17=Ls.map encS:=rfl;refine aA (c:=decide (0<=bH (ln (Ls.map encS)- 2))&&decide (bH (ln (Ls.map encS)- 2)<=ln (Ls.map encS))&&decide (ln (Ls.map encS)<=ln (Ls.map encS))&&decide (ln (Ls.map encS)<=ln (Ls.map encS))) (by rw [hk,fM,hn];simp<;>omega) ?_;refine aA (c:=decide (0<ln ((Ls.map encS).drop (bH (ln (Ls.map encS)- 2)).toNat))) (by rw [hk];simp [ln,hn]<;>omega) ?_;have n0:Ev yp [J (bg fU 0 (gA ((Ls.map encS).drop (bH (ln (Ls.map encS)- 2)).toNat) 0))] (0,[aJ (oa Ls[n- 2])]):=by rw [hk,pZ,g0];exact Ga _
   have n1:Ev yp [J (bg fU 0 (gA ((Ls.map encS).drop (bH (ln (Ls.map encS)- 2)).toNat) 1))] (0,[aJ (oa Ls[n- 1])]):=by rw [hk,pZ,g1];exact Ga _
   refine ah n0 (aW (c:= !oa Ls[n- 2]) (λi=>aq ?_) λi=>aA (c:=decide (1<ln ((Ls.map encS).drop (bH (ln (Ls.map encS)- 2)).toNat))) (by rw [hk];simp [ln,hn]<;>omega) (ah n1 (aW (c:= !oa Ls[n- 1]) (λj=>aq ?_) λj=>aq ?_)))
   ·simp only [jF]at i;simp only [cY,tB,h,g,i,bU,cf,yu];rfl
   ·simp only [jF,ja]at i j;simp only [cY,tB,h,g,i,j,bU,cf,zD];rfl
   ·simp only [ja]at i j;simp only [cY,tB,h,g,i,j,bU,cf,zD];rfl
 have C:∀r:UO,_->Ev Fe [J (bm 0 w),SF f (Ls.map encS) D H A,K0 p lf,aw (ba ro),.ae 0 cn] r:=λr h=>by
  refine bh auH ?_;rw [hc];refine ah j14 ?_;exact h
 have aEv:Ls.drop (n- 2)=[Ls[n- 2],Ls[n- 1]]:=by
  have e1:n- 2+1=n- 1:=by omega
  have e2:n- 1+1=n:=by omega
  rw [lY i0,e1,lY i1,e2,ZG (by omega)]
 have F0:cY=(0,[iI 0,K0 p lf,aw (ba ro),.ae 0 cn,SF f (Ls.map encS) D H A])->(f.E=[]->K6 p.aR f (Ls.drop (n- 2)))->∃b,
  Ev Fe [J (bm 0 w),SF f (Ls.map encS) D H A,K0 p lf,aw (ba ro),.ae 0 cn] (0,aJ b::gW p ro lf cn)/\(b=true->K6 p.aR f (Ls.drop (n- 2))):=λho hW=>by
  rw [ho]at C;cases hl:ln (f.E.map aZ)==0 with
  |false=>refine⟨false,C _ (bp (az hl (aq ?_))),λh=>aD⟩;erw [hc];rfl
  |true=>refine⟨true,C _ (bp (bE hl (bp (aq ?_)))),λ_=>hW (wE (by have:=eq_of_beq hl;rw [fM]at this;omega))⟩;erw [hc];rfl
 have F1:cY=(1,[bq,K0 p lf,aw (ba ro),.ae 0 cn,SF f (Ls.map encS) D H A])->∃b,
  Ev Fe [J (bm 0 w),SF f (Ls.map encS) D H A,K0 p lf,aw (ba ro),.ae 0 cn] (0,aJ b::gW p ro lf cn)/\(b=true->K6 p.aR f (Ls.drop (n- 2))):=λho=>by
  rw [ho]at C;refine⟨false,C _ (av (aq ?_)),λh=>aD⟩;erw [hc];rfl
 cases ht:tm with
 |true=>
  have ho:cY=(0,[iI 1,K0 p lf,aw (ba ro),.ae 0 cn,SF f (Ls.map encS) D H A]):=by simp only [cY,ht,bU]
  rw [ho]at C;cases hl:ln (f.E.map aZ)==1 with
  |false=>refine⟨false,C _ (bp (az hl (aq ?_))),λh=>aD⟩;erw [hc];rfl
  |true=>
   obtain⟨e,he⟩:∃e,f.E=[e]:=by
    have:=eq_of_beq hl;rw [fM]at this
    match hE':f.E,this with
    | [e],_=>exact⟨e,rfl⟩
    | [],h=>exact gU
    |_::_::_,h=>exact yC
   obtain⟨b1,b2⟩:=Ht e he;have hm:f.mode=2∨f.mode=3:=by
    simp only [tm]at ht;cases a:f.mode==2 with
    |true=>exact .inl (eq_of_beq a)
    |false=>rw [a]at ht;exact .inr (eq_of_beq ht)
   have Hx:decide (0<ln (f.E.map aZ))=true:=aaL;rw [<-FZ e,<-he]at b1;refine⟨nb,C _ (bp (bE hl (av (aA Hx ?_)))),λh=> .inr (.inr ⟨hm,e,he,b2 h⟩)⟩;erw [hc];refine ah b1 (aq ?_);exact oW
 |false=>
  cases hm:f.mode==0 with
  |true=>
   cases hb:tB with
   |false=>exact F1 (ajZ)
   |true=>
    refine F0 (ajZ) λh0=> .inl ⟨eq_of_beq hm,h0,?_⟩;simp only [tB,bw]at hb;rw [aEv];intro y hy;simp only [fV,pY,pX]at hy;rcases hy with rfl|rfl
    ·exact hb.1
    ·exact hb.2
  |false=>
   cases ET:f.mode==1 with
   |true=>exact F0 (by simp only [cY,ht,hm,ET,bU,cf]) λh0=> .inr (.inl ⟨eq_of_beq ET,h0⟩)
   |false=>exact F1 (by simp only [cY,ht,hm,ET,cf])
end
section
variable{l:bQ}
structure WH.In(p:PG)(w:WH):Prop where
 B6:w.rW<0∨qf p w.task w.rW=true
 act:∀a∈w.mZ,ib a p.c5.length=true
 task:ib w.task p.tasks.length=true
section
variable {p:PG} {ts:List TK} {ro:List RO} (ct:CT p ts ro) {w:WH} (hw:w.Ok) (hi:w.In p) {cn:aY} (hc:bz (aU cn)=cn) {lf:Int} (hE:pM)
def Pr(p:PG)(a b:Int):Bool:=xW (fp p.aR a) (fp p.aR b)&&xW (fp p.aR b) (fp p.aR a)
def akP(p:PG)(l m:bQ)(i:Nat):Bool:= !Pr p (l.getD i 0) (m.getD i 0)
def KY(p:PG)(l m:bQ):Bool:=(l.length==m.length)&& !((List.range l.length).any (akP p l m))
theorem apd(a b:bQ):(ln (ints a) != ln (ints b))= !(a.length==b.length):=abj
theorem ah9{i:Nat}(h:i<l.length):l.getD i 0∈l:=by
 rw [wA,dy h];exact ei h
include ct hc in
theorem ao3{m:bQ}(hl:l.length<=8)(U:∀x∈l,ib x p.aR.length=true)(h2:∀x∈m,ib x p.aR.length=true):
 Ev Py [aM (ints l),aM (ints m),J (bm 1 w),J (dE 2 3 p lf),aw (ba ro),.ae 0 cn] (0,[aJ (KY p l m),J (bm 1 w),J (dE 2 3 p lf),aw (ba ro),.ae 0 cn]):=by
 refine bh aqH ?_;rw [hc];refine aW (c:=ln (ints l) != ln (ints m)) (λh=>aq ?_) λh=> ?_
 ·rw [apd]at h;simp only [jF]at h;unfold KY;rw [h];rfl
 ·rw [apd]at h;simp only [ja]at h;have hlen:l.length=m.length:=qc;have k:=Jt (m:=l.length) (p:=akP p l m) (hit:=(0,[bq,J (bm 1 w),J (dE 2 3 p lf),aw (ba ro),.ae 0 cn])) (done:=(1,[J (bm 1 w),J (dE 2 3 p lf),aw (ba ro),.ae 0 cn]))
   (LF:=λi N n=>Pv (FU CX EE N) N n [aM (ints m),aM (ints l),iI (ln (ints l)),iI (i:Int),J (bm 1 w),J (dE 2 3 p lf),aw (ba ro),.ae 0 cn])
   (bF adz (az eo (aq (Dn))))
   λi hi r q1 q2=>bF adz<|bE (dz hi)<|aA (cb hi)<|aA (cb (f:=λn=>[iI n]) (l:=m) (by omega))<|by
    have ca:i<m.length:=by omega
    rw [hc,wF hi,wF ca,ix hi (SJ)];have a1:=U _ (ah9 hi);have a2:=h2 _ (ah9 ca);have b1:ib (l.getD i 0) (cz p.aR).length =true:=by rw [zY];exact a1
    have b2:ib (m.getD i 0) (cz p.aR).length =true:=by rw [zY];exact a2
    have q:Ev WT [iI (l.getD i 0),iI (m.getD i 0),J (bm 1 w),J (dE 2 3 p lf),aw (ba ro),.ae 0 cn] (0,[aJ (Pr p (l.getD i 0) (m.getD i 0)),J (bm 1 w),J (dE 2 3 p lf),aw (ba ro),.ae 0 cn]):=by
     refine bh atK (aA b1 (aA b2 ?_));rw [hc];erw [vA a1,vA a2];refine ah (acS (ct.ol.ok (De a1)) (ct.ol.ok (De a2))) (aW (c:=xW (fp p.aR (l.getD i 0)) (fp p.aR (m.getD i 0))) (λg=>aA b2 (aA b1 (ah (acS (ct.ol.ok (De a2)) (ct.ol.ok (De a1))) (aq ?_)))) λg=>aq ?_)
     ·unfold Pr;rw [g];rfl
     ·unfold Pr;rw [g];rfl
    refine ah q ?_;erw [hc];exact aW (c:= !Pr p (l.getD i 0) (m.getD i 0)) (λg=>aq (q1 g)) λg=>q2 g
  refine ah k.diag ?_;unfold KY;rw [h];cases(List.range l.length).any (akP p l m)with
  |true=>exact SS
  |false=>exact Gc
theorem w2i{a b:bQ}(ha:a.length<=8)(hb:b.length<=8):(bH (ln (ints a)+ln (ints b))==0)=(ln (ints a)==0&&ln (ints b)==0):=by
 rw [fM,fM,pE (n:=(a.length:Int)+(b.length:Int)) (by omega) (by omega)];rw [Za,bw,iU,iU,iU];omega
include ct hi hc in
theorem aKf{f:dU}:∃b,∀{L D H A:aY},
 Ev Xd [J (bm 0 w),SF f L D H A,K0 p lf,aw (ba ro),.ae 0 cn] (0,aJ b::gW p ro lf cn):=by
 let E5:Bool:= !decide (w.rW<0)&&(qf p f.T f.entry&& !((f.T==w.task)&&(f.entry==w.rW)))
 have jc:∀{L D H A:aY},cW WX [K0 p lf,aw (ba ro),.ae 0 cn,J (bm 0 w),SF f L D H A]
  (bif E5 then(0,[K0 p lf,aw (ba ro),.ae 0 cn,J (bm 0 w),SF f L D H A])else(1,[bq,K0 p lf,aw (ba ro),.ae 0 cn,J (bm 0 w),SF f L D H A])):=by
  intro L D H A;refine cL atA ?_;rw [hc];refine aW (c:=decide (w.rW<0)) (λh=>aq (by simp only [E5,h];rfl)) λh=>ah (UG (lf:=lf) hc f.T f.entry) ?_;erw [hc];refine aW (c:= !qf p f.T f.entry) (λh2=>aq ?_) λh2=>aW (c:=f.T==w.task) (λh3=>aW (c:=f.entry==w.rW) (λh4=>aq ?_) λh4=>aq ?_) λh3=>aq ?_
  ·simp only [jF]at h2;simp only [E5,h,h2];rfl
  ·simp only [ja]at h2;simp only [E5,h,h2,h3,h4];rfl
  ·simp only [ja]at h2;simp only [E5,h,h2,h3,h4];rfl
  ·simp only [ja]at h2;simp only [E5,h,h2,h3];rfl
 cases hg:E5 with
 |false=>
  rw [hg]at jc;refine⟨false,λ{L D H A}=>bh ae6 ?_⟩;exact ajV
 |true=>
 rw [hg]at jc;simp only [E5,bw]at hg;have aKI:qf p w.task w.rW=true:=by
  rcases hi.B6 with h|h
  ·have:=hg.1;simp at this;omega
  ·exact h
 obtain⟨ta,ea⟩:=Z7 aKI;obtain⟨tb,eb⟩:=Z7 hg.2.1;generalize KG:GS (qE p.tasks w.task).aU w.rW=a;generalize hxb:GS (qE p.tasks f.T).aU f.entry=b;have ga:=ND ta;have gb:=ND tb;have na:=ab5 ea;have nb:=ab5 eb;rw [KG]at na;rw [hxb]at nb;obtain⟨ai,ao,al1,al2⟩:=ct.ent _ (Zs ta) _ (ZE ea);obtain⟨bi,bo,bl1,bl2⟩:=ct.ent _ (Zs tb) _ (ZE eb);rw [KG]at ai ao al1 al2;rw [hxb]at bi bo bl1 bl2;have t1:ib w.task (p.tasks.map dv).length =true:=by rw [fY];exact ta
 have t2:ib w.rW ((gR (gA (p.tasks.map dv) w.task.toNat) 1).length)=true:=by rw [ga];show ib w.rW ((qE p.tasks w.task).aU.map iH).length =true;rw [fY];exact ea
 have t3:ib f.T (p.tasks.map dv).length =true:=by rw [fY];exact tb
 have t4:ib f.entry ((gR (gA (p.tasks.map dv) f.T.toNat) 1).length)=true:=by rw [gb];show ib f.entry ((qE p.tasks f.T).aU.map iH).length =true;rw [fY];exact eb
 have ra:gA (gR (gA (p.tasks.map dv) w.task.toNat) 1) w.rW.toNat=iH a:=by rw [ga];exact na
 have rb:gA (gR (gA (p.tasks.map dv) f.T.toNat) 1) f.entry.toNat=iH b:=by rw [gb];exact nb
 have zB:=w2i bl1 bl2;have hb:∃v,v=bif (ln (ints b.ins)==0&&ln (ints b.outs)==0)then true else(KY p a.ins b.ins&&KY p a.outs b.outs):=⟨_,rfl⟩;obtain⟨v,hv⟩:=hb;refine⟨v,λ{L D H A}=>bh ae6 ?_⟩
 ·rw [hc];refine ah jc (bp (aA t1 (aA t2 (aA t3 (aA t4 ?_)))));erw [hc,ra,rb];refine aW (c:=bH (ln (ints b.ins)+ln (ints b.outs))==0) (λh=>aq ?_) λh=> ?_
  ·rw [zB]at h;rw [hv,h];rfl
  ·rw [zB]at h;refine ah (ao3 ct hc al1 ai bi) (aW (c:=KY p a.ins b.ins) (λg=> ?_) λg=>aq ?_)
   ·erw [hc];refine ah (ao3 ct hc al2 ao bo) (aq ?_);erw [hc];rw [hv,h,g];rfl
   ·erw [hc];rw [hv,h,g];rfl
end
end
end Go.Proofs.B.C
namespace Go.aj
def aa4{p:Prop}(h:p:=by rcases k0 with h|h<;>rw [h]<;>rfl):p:=h
def Jf{p:Prop}(h:p:=by
 erw [hc];exact h):p:=h
def ajQ{p:Prop}(h:p:=by rw [hL];exact s2 ((bw _ _).mp h).1):p:=h
def ajL{p:Prop}(h:p:=by rw [he]at h';rw [my.1 h'];exact h):p:=h
def ajz{p:Prop}(h:p:=by simp only [ja]at j;unfold D6;rw [h,g,i,j,k];rfl):p:=h
end Go.aj
namespace Go.Proofs.B.C
open Go Go.aj
section
variable{f:dU}{k:Int}{Ls:List CS}{α:Type}{l:List α}{A D H:aY}
theorem zT{f:α->Row}(h:ln (l.map f)=1):∃x,l=[x]:=by
 rw [fM]at h
 match l,h with
 | [x],_=>exact⟨x,rfl⟩
 | [],h=>exact gU
 |_::_::_,h=>exact yC
theorem aDq{f:α->Row}(h:ln (l.map f)=2):∃x y,l=[x,y]:=by
 rw [fM]at h
 match l,h with
 | [x,y],_=>exact⟨x,y,rfl⟩
 | [],h=>exact gU
 | [_],h=>exact gU
 |_::_::_::_,h=>exact yC
theorem abo(q:PL):bg Ir 0 (gA ([q].map cN) 0)=cN q:=rfl
theorem aBN(e e1:CE):bg lU 0 (gA ([e,e1].map aZ) 0)=aZ e:=iK e
theorem aBM(e e1:CE):bg lU 0 (gA ([e,e1].map aZ) 1)=aZ e1:=iK e1
def Hl(k:Int):Bool:=bif k==11 then true else k==15
def GJ(k:Int):Bool:=bif k==12 then true else k==13
theorem alI(h:Hl k=true):k=11∨k=15:=by
 unfold Hl at h;cases U:k==11 with
 |true=>exact .inl (eq_of_beq U)
 |false=>rw [U]at h;exact .inr (eq_of_beq h)
theorem aiU(h:GJ k=true):k=12∨k=13:=by
 unfold GJ at h;exact ala
section
variable {p:PG} {ts:List TK} {ro:List RO} (ct:CT p ts ro) {w:WH} (hw:w.Ok) (hi:w.In p) {cn:aY} (hc:bz (aU cn)=cn) {lf:Int} (hE:pM)
include hc in
theorem rJ1(k:Int):cW Wa [cE k,K0 p lf,aw (ba ro),.ae 0 cn] (0,aJ (Hl k)::gW p ro lf cn):=by
 refine cL arI ?_;rw [hc];refine aW (c:=k==11) (λh=>aq ?_) λh=>aq ?_
 ·unfold Hl;rw [h];rfl
 ·unfold Hl;rw [h];rfl
include hc in
theorem rJ2(k:Int):cW V7 [cE k,K0 p lf,aw (ba ro),.ae 0 cn] (0,aJ (GJ k)::gW p ro lf cn):=by
 refine cL arx ?_;rw [hc];refine aW (c:=k==12) (λh=>aq ?_) λh=>aq ?_
 ·unfold GJ;rw [h];rfl
 ·unfold GJ;rw [h];rfl
def D6(p:PG)(ro:List RO)(w:WH)(o:Int):Bool:=bif qb p.aR o 0 then bif (fp p.aR o).ptr then false else bif (fp p.aR o).size != 1 then false else bif uy ro w o then !gv w.loops o else false else false
include ct hw hc in
theorem aJP{L:aY}:cW Wd [K0 p lf,aw (ba ro),.ae 0 cn,J (bm 0 w),SF f L D H A]
 (bif D6 p ro w f.O then(0,[K0 p lf,aw (ba ro),.ae 0 cn,J (bm 0 w),SF f L D H A])else(1,[bq,K0 p lf,aw (ba ro),.ae 0 cn,J (bm 0 w),SF f L D H A])):=by
 refine cL arU ?_;rw [hc];refine ah (Tb (l:=p.aR) (en:= -1) (o:=f.O) (off:=0)) (aW (c:= !qb p.aR f.O 0) (λh=>aq ?_) λh=> ?_)
 ·simp only [jF]at h;unfold D6;rw [h];rfl
 ·simp only [ja]at h;have ho:=Dh h;have pW:ib f.O (cz p.aR).length =true:=by rw [zY];exact ho
  refine aA pW ?_;erw [vA ho];refine aW (c:=(fp p.aR f.O).ptr) (λg=>aq (by unfold D6;rw [h,g];rfl)) λg=>aA pW (aW (c:=(fp p.aR f.O).size != 1) (λi=>aq (by unfold D6;rw [h,g,i];rfl)) λi=>ah (NZ hw hc (by rw [ct.len];exact ho)) ?_);erw [hc];refine aW (c:= !uy ro w f.O) (λj=>aq ?_) λj=>ah (yt (l:=w.loops) f.O (by have:=hw.loops;simp only [mx];omega)) (aW (c:=gv w.loops f.O) (λk=>aq ?_) λk=>aq ?_)
  ·simp only [jF]at j;unfold D6;rw [h,g,i,j];rfl
  ·exact ajz
  ·exact ajz
structure K8(p:PG)(w:WH)(f:dU)(Ls:List CS):Prop where
 E:f.kind≠16->f.kind≠17->∀e∈f.E,iQ p.aR e
 To:∀q∈f.To,tg p.aR q
 wm:f.kind=16∨f.kind=17->K6 p.aR f (Ls.drop (Ls.length- 2))
 io:f.kind=16->(∀e∈f.Ins,iQ p.aR e)/\∀q∈f.fE,tg p.aR q
 N:f.kind=10->0<=f.N
 OP:f.kind=18->qf p w.task f.entry=true
 kP:f.kind=17∨f.kind=20->ib f.P p.c5.length=true
theorem K8.of{p:PG}{w:WH}(h:f.kind≠10/\f.kind≠16/\f.kind≠17/\f.kind≠18/\f.kind≠20)(hE:∀e∈f.E,iQ p.aR e)(hT:∀q∈f.To,tg p.aR q):K8 p w f Ls:=
 ⟨λ_ _=>hE,hT,λk=>by omega,λk=>by omega,λk=>by omega,λk=>by omega,λk=>by omega⟩
theorem aAW{t e:Int}(h:BC p t e=true):ib t p.c5.length=true:=by
 unfold BC at h;cases a:decide (0<=t)with
 |false=>rw [a]at h;cases h
 |true=>cases b:decide (t<(p.c5.length:Int))with
  |false=>rw [a,b]at h;cases h
  |true=>exact zX a b
include ct hw hi hc hE in
theorem aCt(hf:f.Ok)(hs0:w8 f (Ls.map encS) D H A=true):∃b,
 Ev LD [J (bm 0 w),SF f (Ls.map encS) D H A,K0 p lf,aw (ba ro),.ae 0 cn] (0,aJ b::gW p ro lf cn)/\(b=true->K8 p w f Ls):=by
 obtain⟨gY,ko,EU⟩:=ZT f (Ls.map encS) D H A hs0;have kk:∀{k:Int},(f.kind==k)=true->f.kind=k:=λh=>eq_of_beq h;have C0:∀r:UO,_->Ev LD [J (bm 0 w),SF f (Ls.map encS) D H A,K0 p lf,aw (ba ro),.ae 0 cn] r:=λr h=>by
  refine bh auI ?_;rw [hc];exact h
 have z1:eF f.kind=false->eS f.kind=0->∀e∈f.E,iQ p.aR e:=λa b e he=>by
  have h:ln (f.E.map aZ)=0:=by rw [gY];unfold KZ;rw [a];exact b
  rw [fM]at h;rw [wE (l:=f.E) (by omega)]at he;cases he
 have z2:toS f.kind=0->∀q∈f.To,tg p.aR q:=λb q hq=>by
  have h:ln (f.To.map cN)=0:=by rw [ko];exact b
  rw [fM]at h;rw [wE (l:=f.To) (by omega)]at hq;cases hq
 have one:∀{e:CE},f.E=[e]->iQ p.aR e->∀e'∈f.E,iQ p.aR e':=λhe h e' h'=>ajL;have UZ:∀{q:PL},f.To=[q]->tg p.aR q->∀e'∈f.To,tg p.aR e':=λhe h e' h'=>ajL;cases h2:f.kind==2 with
 |true=>
  have ek:=kk h2;rw [ek]at gY ko;obtain⟨e,he⟩:=zT (show ln (f.E.map aZ)=1 from gY);obtain⟨q,hq⟩:=zT (show ln (f.To.map cN)=1 from ko);obtain⟨l,b1,b,s1,s2,s3⟩:=aFg ct hw hc (lf:=lf) hE (hf.To.2 q (Sz)) (hf.E.2 e (FO));have AP:decide (0<ln (f.E.map aZ))=true:=Bk;have K1:decide (0<ln (f.To.map cN))=true:=by rw [hq];rfl
  rw [<-abo q,<-hq]at s1;rw [<-FZ e,<-he]at s2;refine⟨b1&&b,C0 _ (bE h2<|aA K1 (ah s1 ?_)),λh=> .of (by omega) (one he (s3 h).2) (UZ hq (s3 h).1)⟩;erw [hc];cases b1 with
  |false=>exact qU
  |true=>
   refine bp (aA AP (ah (s2 rfl) (aq ?_)));exact oW
 |false=>
 cases h4:f.kind==4 with
 |true=>
  have ek:=kk h4;rw [ek]at gY ko;obtain⟨e,he⟩:=zT (show ln (f.E.map aZ)=1 from gY);obtain⟨b,s1,s2⟩:=acb ct hw hc (lf:=lf) hE e (hf.E.2 e (FO));have AP:decide (0<ln (f.E.map aZ))=true:=Bk;rw [<-FZ e,<-he]at s1;refine⟨b,C0 _ (az h2<|bE h4<|aA AP (ah s1 (aq ?_))),λh=> .of (by omega) (one he (s2 h)) (z2 (oq))⟩;exact oW
 |false=>
 cases h5:f.kind==5 with
 |true=>
  have ek:=kk h5;rw [ek]at gY ko;obtain⟨e,he⟩:=zT (show ln (f.E.map aZ)=1 from gY);obtain⟨b,s1,s2⟩:=acb ct hw hc (lf:=lf) hE e (hf.E.2 e (FO));have AP:decide (0<ln (f.E.map aZ))=true:=Bk;rw [<-FZ e,<-he]at s1;refine⟨b,C0 _ (az h2<|az h4<|bE h5<|aA AP (ah s1 (aq ?_))),λh=> .of (by omega) (one he (s2 h)) (z2 (oq))⟩;exact oW
 |false=>
 cases h6:f.kind==6 with
 |true=>
  have ek:=kk h6;rw [ek]at gY ko;obtain⟨e,e1,he⟩:=aDq (show ln (f.E.map aZ)=2 from gY);have o1:=hf.E.2 e (FO);have o2:=hf.E.2 e1 (FO);obtain⟨b,s1,s2⟩:=U3 ct hw hc (lf:=lf) hE e o1;obtain⟨c,u1,u2⟩:=U3 ct hw hc (lf:=lf) hE e1 o2;have jc:=aJP (f:=f) (L:=Ls.map encS) (D:=D) (H:=H) (A:=A) ct hw hc (lf:=lf);have AP:decide (0<ln (f.E.map aZ))=true:=Bk;have ap1:decide (1<ln (f.E.map aZ))=true:=Bk;cases qM:D6 p ro w f.O with
  |false=>
   rw [qM]at jc;refine⟨false,C0 _ (az h2<|az h4<|az h5<|bE h6<|ah jc (av (aq ?_))),λh=>aD⟩;exact oW
  |true=>
   rw [qM]at jc;have ho:ib f.O p.aR.length=true:=by
    unfold D6 at qM;cases hs:qb p.aR f.O 0 with
    |true=>exact Dh hs
    |false=>rw [hs]at qM;cases qM
   obtain⟨x,v,g1,g3⟩:=Gm ct hw hc (lf:=lf) hE e o1;obtain⟨x1,v1,i1,i3⟩:=Gm ct hw hc (lf:=lf) hE e1 o2;have hof:∀z∈ [f.O],ib z p.aR.length=true:=λz hz=>by simp at hz;subst hz;exact ho
   have f1:=UB ct hc g1 (λh=>(g3 h).1) (one_le f.O) hof;have f2:=UB ct hc i1 (λh=>(i3 h).1) (one_le f.O) hof;generalize fitAll p x v [f.O]=m1 at f1;generalize fitAll p x1 v1 [f.O]=m2 at f2;rw [<-aBN e e1,<-he]at s1 f1;rw [<-aBM e e1,<-he]at u1 f2;refine⟨b&&(c&&(m1&&m2)),C0 _ (az h2<|az h4<|az h5<|bE h6<|ah jc (bp (aA AP ?_))),λh=> ?_⟩
   rotate_left
   ·simp only [bw]at h;obtain⟨q1,q2,_⟩:=h;refine .of (by omega) (λe' h'=> ?_) (z2 (oq));rw [he]at h';simp only [fV,pY,pX]at h';rcases h' with rfl|rfl
    ·exact s2 q1
    ·exact u2 q2
   erw [hc];refine ah s1 ?_;erw [hc];cases b with
   |false=>exact qU
   |true=>
    refine bp (aA ap1 (ah u1 ?_));erw [hc];cases c with
    |false=>exact qU
    |true=>
     refine bp (aA AP (ah f1 ?_));erw [hc];cases m1 with
     |false=>exact qU
     |true=>
      refine bp (aA ap1 (ah f2 (aq ?_)));exact oW
 |false=>
 cases h7:f.kind==7 with
 |true=>
  have ek:=kk h7;refine⟨bif decide (1<=f.N)then bif decide (f.N<=8192)then !gv w.tq f.N else false else false,C0 _ ?_,λh=> .of (by omega) (z1 (oq) (oq)) (z2 (oq))⟩;refine az h2<|az h4<|az h5<|az h6<|bE h7<|aW (c:=decide (1<=f.N)) (λa=>aW (c:=decide (f.N<=8192)) (λb=>ah (yt (l:=w.tq) f.N (by have:=hw.tq;simp only [mx];omega)) (aq ?_)) λb=>aq ?_) λa=>aq ?_
  ·exact zP
  ·exact zP
  ·rw [a];rfl
 |false=>
 cases h8:f.kind==8 with
 |true=>
  have ek:=kk h8;exact⟨gv w.marks f.N,C0 _ (az h2<|az h4<|az h5<|az h6<|az h7<|bE h8<|ah (yt (l:=w.marks) f.N (by have:=hw.marks;simp only [mx];omega)) aH),λh=> .of (by omega) (z1 (oq) (oq)) (z2 (oq))⟩
 |false=>
 cases lR:f.kind==10 with
 |true=>
  have ek:=kk lR;refine⟨bif f.N==0 then(w.MG||(bif decide (1<=f.N)then decide (f.N<=p.dP)else false))else(bif decide (1<=f.N)then decide (f.N<=p.dP)else false),C0 _ ?_,λh=>⟨λ_ _=>z1 (oq) (oq),z2 (oq),λk=>by omega,λk=>by omega,λ_=> ?_,λk=>by omega,λk=>by omega⟩⟩
  rotate_left
  ·cases a:f.N==0 with
   |true=>have:=eq_of_beq a;omega
   |false=>
    rw [a]at h;cases c:decide (1<=f.N)with
    |false=>rw [c]at h;cases h
    |true=>have:=yy c;omega
  refine az h2<|az h4<|az h5<|az h6<|az h7<|az h8<|bE lR<|aW (c:=f.N==0) (λa=>aW (c:=w.MG) (λb=>aq ?_) λb=>aW (c:=decide (1<=f.N)) (λc=>aq ?_) λc=>aq ?_) λa=>aW (c:=decide (1<=f.N)) (λc=>aq ?_) λc=>aq ?_
  ·exact zP
  ·rw [a,b,c];rfl
  ·rw [a,b,c];rfl
  ·rw [a,c];rfl
  ·rw [a,c];rfl
 |false=>
 have j1:=rJ1 (p:=p) (ro:=ro) hc (lf:=lf) f.kind;have j2:=rJ2 (p:=p) (ro:=ro) hc (lf:=lf) f.kind;cases zp:Hl f.kind with
 |true=>
  rw [zp]at j1;have le:ln (f.E.map aZ)=1:=by rcases alI zp with h|h<;>rw [h]at gY<;>exact gY
  obtain⟨e,he⟩:=zT le;obtain⟨b,s1,s3⟩:=U3 ct hw hc (lf:=lf) hE e (hf.E.2 e (FO));have AP:decide (0<ln (f.E.map aZ))=true:=Bk;rw [<-FZ e,<-he]at s1;have k0:=alI zp;refine⟨b,C0 _ (az h2<|az h4<|az h5<|az h6<|az h7<|az h8<|az lR<|ah j1 (bp (aA AP ?_))),λh=> .of (by omega) (one he (s3 h)) (z2 (aa4))⟩;erw [hc];refine ah s1 (aq ?_);exact oW
 |false=>
 rw [zp]at j1;have k15:f.kind≠15:=λh=>by rw [h]at zp;cases zp
 have k2':f.kind≠2:=λh=>by rw [h]at h2;cases h2
 cases Cq:GJ f.kind with
 |true=>
  rw [Cq]at j2;have k0:=aiU Cq;have le:ln (f.To.map cN)=1:=by rcases aiU Cq with h|h<;>rw [h]at ko<;>exact ko
  obtain⟨q,hq⟩:=zT le;obtain⟨b,s1,s2⟩:=amw ct hw hc (lf:=lf) hE (hf.To.2 q (Sz));have K1:decide (0<ln (f.To.map cN))=true:=by rw [hq];rfl
  rw [<-abo q,<-hq]at s1;refine⟨b,C0 _ (az h2<|az h4<|az h5<|az h6<|az h7<|az h8<|az lR<|ah j1 (av ?_)),λh=> .of (by omega) (z1 (aa4) (aa4)) (UZ hq (s2 h))⟩;erw [hc];refine ah j2 (bp (aA K1 ?_));erw [hc];refine ah s1 (aq ?_);exact oW
 |false=>
 rw [Cq]at j2;have C:∀r:UO,_->Ev LD [J (bm 0 w),SF f (Ls.map encS) D H A,K0 p lf,aw (ba ro),.ae 0 cn] r:=λr h=>by
  refine C0 r (az h2<|az h4<|az h5<|az h6<|az h7<|az h8<|az lR<|ah j1 (av ?_));erw [hc];refine ah j2 (av ?_);exact Jf
 cases tZ:f.kind==14 with
 |true=>
  have ek:=kk tZ;rw [ek]at gY ko;obtain⟨q,hq⟩:=zT (show ln (f.To.map cN)=1 from ko);obtain⟨b,s1,s2⟩:=amw ct hw hc (lf:=lf) hE (hf.To.2 q (Sz));have K1:decide (0<ln (f.To.map cN))=true:=by rw [hq];rfl
  rw [<-abo q,<-hq]at s1;cases hIn:f.In with
  |true=>
   refine⟨b&&(gv w.mZ f.P&&BC p f.P f.entry),C _ (bE tZ<|bE hIn (aA K1 (ah s1 ?_))),λh=> .of (by omega) (z1 (oq) (oq)) (UZ hq (s2 ((bw _ _).mp h).1))⟩;erw [hc];cases b with
   |false=>exact qU
   |true=>
    refine bp (ah (yt (l:=w.mZ) f.P (aa5)) (aW (c:=gv w.mZ f.P) (λg=>ah (anq (lf:=lf) hc f.P f.entry) (aq ?_)) λg=>aq ?_))
    ·erw [hc];rw [g];rfl
    ·rw [g];rfl
  |false=>
   refine⟨b&&qf p w.task f.entry,C _ (bE tZ<|az hIn (aA K1 (ah s1 ?_))),λh=> .of (by omega) (z1 (oq) (oq)) (UZ hq (s2 ((bw _ _).mp h).1))⟩;erw [hc];cases b with
   |false=>exact qU
   |true=>
    refine bp (ah (UG (lf:=lf) hc w.task f.entry) (aq ?_));exact oW
 |false=>
 cases lv:f.kind==16 with
 |true=>
  have ek:=kk lv;rw [ek]at EU;have hL:Ls.length=2:=by have:ln (Ls.map encS)=2:=EU;rw [fM]at this;omega
  obtain⟨b,s1,s2⟩:=ajb ct hw hc (lf:=lf) hE hf (n:=2) (by omega) (by omega) (D:=D) (H:=H) (A:=A) hL;obtain⟨c,fh,hcr⟩:=acd ct hw hc (lf:=lf) hE hf;have u1:=fh (L:=Ls.map encS) (D:=D) (H:=H) (A:=A);refine⟨b&&c,C _ (az tZ<|bE lv<|ah s1 ?_),λh=>⟨λk=>absurd ek k,z2 (oq),λ_=>ajQ,λ_=>hcr ((bw _ _).mp h).2,λk=>by omega,λk=>by omega,λk=>by omega⟩⟩;erw [hc];cases b with
  |false=>exact qU
  |true=>
   refine bp (ah u1 (aq ?_));exact oW
 |false=>
 cases qp:f.kind==17 with
 |true=>
  have ek:=kk qp;rw [ek]at EU;have hL:Ls.length=3:=by have:ln (Ls.map encS)=3:=EU;rw [fM]at this;omega
  obtain⟨b,s1,s2⟩:=ajb ct hw hc (lf:=lf) hE hf (n:=3) (by omega) (by omega) (D:=D) (H:=H) (A:=A) hL;refine⟨b&&BC p f.P f.entry,C _ (az tZ<|az lv<|bE qp<|ah s1 ?_),λh=>⟨λ_ k=>absurd ek k,z2 (oq),λ_=>ajQ,λk=>by omega,λk=>by omega,λk=>by omega,λ_=>aAW (bw _ _▸h).2⟩⟩;erw [hc];cases b with
  |false=>exact qU
  |true=>
   refine bp (ah (anq (lf:=lf) hc f.P f.entry) (aq ?_));exact oW
 |false=>
 cases tY:f.kind==18 with
 |true=>
  have ek:=kk tY;refine⟨GG p w f.entry,C _ (az tZ<|az lv<|az qp<|bE tY<|ah (wR (lf:=lf) hw hc f.entry) (aq ?_)),λh=>⟨λ_ _=>z1 (oq) (oq),z2 (oq),λk=>by omega,λk=>by omega,λk=>by omega,λ_=>(bw _ _▸h).1,λk=>by omega⟩⟩;exact oW
 |false=>
 cases sr:f.kind==20 with
 |true=>
  have ek:=kk sr;refine⟨bif decide (0<=f.P)then bif decide (f.P<(p.c5.length:Int))then bif !gv w.mZ f.P then bif ln (ints w.mZ)==0 then true else(ln ((NW p.c5 f.P).bars.map aZ)==0)else false else false else false,C _ (az tZ<|az lv<|az qp<|az tY<|bE sr<|aW (c:=decide (0<=f.P)) (λa0=>aW (c:=decide (f.P<ln (p.c5.map gk))) (λa1=>ah (yt (l:=w.mZ) f.P (aa5)) (aW (c:= !gv w.mZ f.P) (λg=>aW (c:=ln (ints w.mZ)==0) (λi=>aq ?_) λi=> ?_) λg=>aq ?_)) λa1=>aq ?_) λa0=>aq ?_),λh=> ?_⟩
  ·rw [fM]at a1;rw [a0,a1,g,i];rfl
  ·rw [fM]at a1;have hp:=zX a0 a1;refine aA (by show ib f.P (p.c5.map gk).length =true;rw [fY];exact hp) (aq ?_);show(0,[aJ (ln (gR (gA (p.c5.map gk) f.P.toNat) 2)==0),_,_,_])=_;rw [anm hp,a0,a1,g,i];rfl
  ·rw [fM]at a1;rw [a0,a1,g];rfl
  ·rw [fM]at a1;rw [a0,a1];rfl
  ·rw [a0];rfl
  ·cases a0:decide (0<=f.P)<;>rw [a0]at h
   ·exact aD
   cases a1:decide (f.P<(p.c5.length:Int))<;>rw [a1]at h
   ·exact aD
   have hp:=zX a0 a1;exact⟨λ_ _=>z1 (oq) (oq),z2 (oq),λk=>by omega,λk=>by omega,λk=>by omega,λk=>by omega,λ_=>hp⟩
 |false=>
 have za:f.kind≠17:=λh=>by rw [h]at qp;cases qp
 have OP:f.kind≠18:=λh=>by rw [h]at tY;cases tY
 have k20:f.kind≠20:=λh=>by rw [h]at sr;cases sr
 have Cg:f.kind≠16:=λh=>by rw [h]at lv;cases lv
 have k10:f.kind≠10:=λh=>by rw [h]at lR;cases lR
 have nz:eF f.kind=false/\eS f.kind=0/\toS f.kind=0:=by
  have KM:(f.kind==11)=false/\(f.kind==15)=false:=by
   unfold Hl at zp;cases a:f.kind==11 with
   |true=>rw [a]at zp;cases zp
   |false=>rw [a]at zp;exact⟨rfl,zp⟩
  have Vi:(f.kind==12)=false/\(f.kind==13)=false:=by
   unfold GJ at Cq;cases a:f.kind==12 with
   |true=>rw [a]at Cq;cases Cq
   |false=>rw [a]at Cq;exact⟨rfl,Cq⟩
  unfold eF eS toS;rw [h2,h4,h5,h6,tZ,lv,qp,KM.1,KM.2,Vi.1,Vi.2];exact⟨rfl,rfl,rfl⟩
 have nf:K8 p w f Ls:= .of ⟨k10,Cg,za,OP,k20⟩ (z1 nz.1 nz.2.1) (z2 nz.2.2);cases HF:f.kind==21 with
 |true=>
  obtain⟨b,hm⟩:=aKf ct hi hc (lf:=lf) (f:=f);refine⟨b,C _ (az tZ<|az lv<|az qp<|az tY<|az sr<|bE HF<|ah hm (aq ?_)),λ_=>nf⟩;exact oW
 |false=>
 cases ym:f.kind==22 with
 |true=>
  refine⟨bif decide (1<=ln (ints f.Ts))then bif decide (ln (ints f.Ts)<=32)then oz f.Ts 1 (bH (ln (p.tasks.map dv)- 1))else false else false,C _ (az tZ<|az lv<|az qp<|az tY<|az sr<|az HF<|bE ym<|aW (c:=decide (1<=ln (ints f.Ts))) (λa=>aW (c:=decide (ln (ints f.Ts)<=32)) (λb=>ah (acz 1 (bH (ln (p.tasks.map dv)- 1)) hf.Ts) (aq ?_)) λb=>aq ?_) λa=>aq ?_),λ_=>nf⟩
  ·exact zP
  ·exact zP
  ·rw [a];rfl
 |false=>
 exact⟨true,C _ (az tZ<|az lv<|az qp<|az tY<|az sr<|az HF<|az ym<|aH),λ_=>nf⟩
end
end
def mr(w:WH):WH:={w with marks:=[],MG:=false,rW:= -1}
def Ar(w:WH)(e:Int):WH:={mr w with qS:=w.qS++[e],rW:=e}
def GW(w:WH)(q:Int):WH:={mr w with mZ:=w.mZ++[q]}
theorem azO(l:bQ)(e:Int):ints (l++[e])=ints l++[[iI e]]:=tj
section
variable {p:PG} {ts:List TK} {ro:List RO} {w:WH} (hw:w.Ok) {cn:aY} (hc:bz (aU cn)=cn) {lf:Int}
theorem Nr{l:bQ}(e:Int)(hl:l.length<=1000):Ev Fu [aM (ints l),iI e] (0,[aM (ints (l++[e]))]):=by
 refine bh ayR (ah (aDd (ints l) (by rw [fY];omega)) (aA ?_ (aq ?_)))
 ·show decide (((ints l).length +1)*8<=140737488355328)=true;rw [fY];simp;omega
 ·rw [azO];rfl
include hc in
theorem Us:Ev H8 [J (bm 0 w),K0 p lf,aw (ba ro),.ae 0 cn] (0,J (bm 0 (mr w))::gW p ro lf cn):=by
 refine bh auK (aq ?_);exact Dn
include hw hc in
theorem aqa(e:Int):Ev PQ [J (bm 0 w),iI e,K0 p lf,aw (ba ro),.ae 0 cn] (0,[J (sT (bm 0 (Ar w e)) aEK),K0 p lf,aw (ba ro),.ae 0 cn,aM (ints (w.qS++[e]))]):=by
 refine bh asC ?_;rw [hc];refine ah (Us (lf:=lf) hc) (ah (Nr (l:=w.qS) e hw.qS) (aq ?_));exact oW
include hw hc in
theorem ap9(q:Int):Ev P1 [J (bm 0 w),iI q,K0 p lf,aw (ba ro),.ae 0 cn] (0,[J (sT (bm 0 (GW w q)) aEJ),K0 p lf,aw (ba ro),.ae 0 cn,aM (ints (w.mZ++[q]))]):=by
 refine bh aun ?_;rw [hc];refine ah (Us (lf:=lf) hc) (ah (Nr (l:=w.mZ) q hw.mZ) (aq ?_));exact oW
end
structure WI(p:PG)(w:WH):Prop where
 gv:w.In p
 l1:(w.marks.length:Int)<=w.deep
 l2:(w.tq.length:Int)<=w.deep
 l3:(w.qS.length:Int)<=w.deep
 l4:(w.mZ.length:Int)<=w.deep
 l5:(w.loops.length:Int)<=w.deep
 d:w.deep<=64
theorem WI.ok{p:PG}{w:WH}(h:WI p w):w.Ok:=by
 obtain⟨_,U,h2,h3,h4,h5,d⟩:=h;exact⟨by omega,by omega,by omega,by omega,by omega⟩
structure ST(p:PG)(lf:Int)(cn:aY)(c:Int->Nat):Prop where
 pk:bz (aU cn)=cn
 rep:∀t,dF (aU cn) (iI t)=if c t=0 then none else some (iI (c t:Int))
 le:∀t,(c t:Int)<=8192- lf
 lo:0<=lf
 hi:lf<=8192
 n7:∀t,c t≠0->1<=t/\t<(p.tasks.length:Int)
def ox(p:PG)(ts:List TK)(ro:List RO)(F:CS->Prop)(s:CS):Prop:=∀w,WI p w->∀lf cn c,ST p lf cn c->∃b eG cy,bz (aU cy)=cy/\
 Ev mU [J (bm 0 w),J (encS s),K0 p lf,aw (ba ro),.ae 0 cn] (0,aJ b::gW p ro eG cy)/\(b=true->(∃d,ST p eG cy d)/\F s)
end Go.Proofs.B.C
namespace Go.aj
def abM{p:Prop}(h:p:=by
 rw [lY hi];refine⟨s2,λy hy=> ?_⟩;rcases fV.1 hy with rfl|hy
 ·exact f1
 ·exact f2 y hy):p:=h
def Gd{p:Prop}(h:p:=by rw [qw]at hy;cases hy):p:=h
end Go.aj
namespace Go.Proofs.B.C
open Go Go.aj
section
variable{b:Bool}{lf eG:Int}{Ls:List CS}{ctx:Nat->WH}{w:WH}{cn cy:aY}
def rq(w:WH):WH:={w with rW:= -1}
def Po(c:WH)(f:dU)(i:Int):WH:=bif i==0 then bif f.kind==18 then Ar c f.entry else c else c
def aB(f:dU)(i:Int):Bool:=bif i==0 then bif f.kind==20 then true else f.kind==17 else false
def E6(c:WH)(f:dU)(i:Int):WH:=bif aB f i then GW c f.P else Po c f i
def qB(f:dU)(i:Int):Bool:=bif f.kind==16 then true else bif f.kind==17 then decide (0<i)else bif f.kind==18 then decide (0<i)else false
def su(c:WH)(f:dU)(i:Int):WH:=bif qB f i then rq (E6 c f i)else E6 c f i
inductive CR(p:PG)(ro:List RO)(ctx:Nat->WH)(Ls:List CS):Nat->Int->aY->Bool->Int->aY->Prop
 |done(i:Nat)(h:i=Ls.length)(lf:Int)(cn:aY)(pk:bz (aU cn)=cn):CR p ro ctx Ls i lf cn true lf cn
 |no(i:Nat)(h:i<Ls.length)(lf:Int)(cn:aY)(pk:bz (aU cn)=cn)(eG:Int)(cy:aY)(n8:bz (aU cy)=cy)
   (e:Ev mU [J (bm 0 (ctx i)),J (encS Ls[i]),K0 p lf,aw (ba ro),.ae 0 cn] (0,bq::gW p ro eG cy)):CR p ro ctx Ls i lf cn false eG cy
 |yes(i:Nat)(h:i<Ls.length)(lf:Int)(cn:aY)(pk:bz (aU cn)=cn)(l1:Int)(c1:aY)(kE:bz (aU c1)=c1)
   (e:Ev mU [J (bm 0 (ctx i)),J (encS Ls[i]),K0 p lf,aw (ba ro),.ae 0 cn] (0,fF::gW p ro l1 c1)) (b:Bool) (eG:Int) (cy:aY) (t:CR p ro ctx Ls (i+1) l1 c1 b eG cy):CR p ro ctx Ls i lf cn b eG cy
section
variable {p:PG} {ts:List TK} {ro:List RO} {F:CS->Prop}
def aDV{c:WH}{f:dU}(hk:∀s∈Ls,ox p ts ro F s)(hx:∀i,i<Ls.length->WI p (su c f (i:Nat))):
 ∀lf cn cc,ST p lf cn cc->∃b eG cy,bz (aU cy)=cy/\CR p ro (λi=>su c f (i:Nat)) Ls 0 lf cn b eG cy/\(b=true->(∃d,ST p eG cy d)/\∀y∈Ls,F y):=by
 have h:=ku (m:=Ls.length) (P:=λi=>∀lf cn cc,ST p lf cn cc->∃b eG cy,bz (aU cy)=cy/\CR p ro (λi=>su c f (i:Nat)) Ls i lf cn b eG cy/\(b=true->(∃d,ST p eG cy d)/\∀y∈Ls.drop i,F y))
  (λlf cn cc st=>⟨true,lf,cn,st.pk,.done _ rfl _ _ st.pk,λ_=>⟨⟨_,st⟩,(λy hy=>Gd)⟩⟩)
  λi hi ih lf cn cc st=>by
   obtain⟨b,l1,c1,kE,e1,e3⟩:=hk Ls[i] (ei hi) _ (hx i hi) lf cn cc st;cases b with
   |false=>exact⟨false,l1,c1,kE,.no _ hi _ _ st.pk _ _ kE e1,λh=>aD⟩
   |true=>
    obtain⟨⟨d,s1⟩,f1⟩:=e3 rfl;obtain⟨b,l2,c2,lz,r1,r3⟩:=ih l1 c1 d s1;refine⟨b,l2,c2,lz,.yes _ hi _ _ st.pk _ _ kE e1 _ _ _ r1,λh=> ?_⟩;obtain⟨s2,f2⟩:=r3 h;exact abM
 intro lf cn cc st;exact h lf cn cc st
def aDb(Vm:∀i,ctx i=w)(hl:Ls.length<=mx){i:Nat}(h:CR p ro ctx Ls i lf cn b eG cy):∃j:Nat,
 cq Pt [cX (Ls.map encS),iI (ln (Ls.map encS)),iI (i:Int),J (bm 1 w),J (dE 2 3 p lf),aw (ba ro),.ae 0 cn]
  (bif b then(1,[J (bm 1 w),J (dE 2 3 p eG),aw (ba ro),.ae 0 cy])else(0,[iI (j:Int),J (bm 1 w),J (dE 2 3 p eG),aw (ba ro),.ae 0 cy])):=by
 have cm:∀{s:CS} {lf:Int} {cn:aY} (hc:bz (aU cn)=cn) {b:Bool} {l1:Int} {c1:aY} (qo:bz (aU c1)=c1),Ev mU [J (bm 0 w),J (encS s),K0 p lf,aw (ba ro),.ae 0 cn] (0,aJ b::gW p ro l1 c1)->
  Ev W5 [J (encS s),J (bm 1 w),J (dE 2 3 p lf),aw (ba ro),.ae 0 cn] (0,[aJ (!b),J (bm 1 w),J (dE 2 3 p l1),aw (ba ro),.ae 0 c1]):=λ{s lf cn} hc {b l1 c1} qo he=>by
  refine bh auj ?_;rw [hc,gE];refine ah he (aq ?_);erw [qo];rfl
 induction h with
 |done i h lf cn pk=>
  subst h;exact⟨0,bF VH (az eo (aq (by rw [pk];rfl)))⟩
 |no i h lf cn pk eG cy n8 e=>
  rw [Vm]at e;refine⟨i,bF VH (bE (dz h) (aA (cb h) ?_))⟩;rw [pk,dk h,gE];refine ah (cm pk n8 e) ?_;erw [n8];exact bp aH
 |yes i h lf cn pk l1 c1 kE e b eG cy t ih=>
  rw [Vm]at e;obtain⟨j,hj⟩:=ih;refine⟨j,bF VH (bE (dz h) (aA (cb h) ?_))⟩;rw [pk,dk h,gE,ix h hl];refine ah (cm pk kE e) ?_;erw [kE];exact av hj
def CR.pk{ctx:Nat->WH}{Ls:List CS}{i:Nat}{lf:Int}{cn:aY}{b:Bool}{eG:Int}{cy:aY}(h:CR p ro ctx Ls i lf cn b eG cy):bz (aU cn)=cn/\bz (aU cy)=cy:=by
 induction h with
 |done _ _ _ _ pk=>exact⟨pk,pk⟩
 |no _ _ _ _ pk _ _ n8 _=>exact⟨pk,n8⟩
 |yes _ _ _ _ pk _ _ _ _ _ _ _ _ ih=>exact⟨pk,ih.2⟩
def aEI(Vm:∀i,ctx i=w)(hl:Ls.length<=mx)(h:CR p ro ctx Ls 0 lf cn b eG cy):
 Ev VI [cX (Ls.map encS),J (bm 1 w),J (dE 2 3 p lf),aw (ba ro),.ae 0 cn] (0,[aJ (!b),J (bm 1 w),J (dE 2 3 p eG),aw (ba ro),.ae 0 cy]):=by
 obtain⟨j,hj⟩:=aDb Vm hl h;obtain⟨pk,n8⟩:=h.pk;cases b with
 |true=>
  have a1:Ev Px [cX (Ls.map encS),J (bm 1 w),J (dE 2 3 p lf),aw (ba ro),.ae 0 cn] (0,[iI (-1),J (bm 1 w),J (dE 2 3 p eG),aw (ba ro),.ae 0 cy]):=by
   refine bh adD ?_;rw [pk];refine ah hj.diag (av (aq ?_));erw [n8];rfl
  refine bh adx ?_;rw [pk];refine ah a1 (aq ?_);erw [n8];rfl
 |false=>
  have a1:Ev Px [cX (Ls.map encS),J (bm 1 w),J (dE 2 3 p lf),aw (ba ro),.ae 0 cn] (0,[iI (j:Int),J (bm 1 w),J (dE 2 3 p eG),aw (ba ro),.ae 0 cy]):=by
   refine bh adD ?_;rw [pk];refine ah hj.diag (bp (aq ?_));erw [n8];rfl
  refine bh adx ?_;rw [pk];refine ah a1 (aq ?_);erw [n8];show(0,[aJ (decide (0<=(j:Int))),_,_,_,_])=_;rw [show decide (0<=(j:Int))=true by simp];rfl
end
end
end Go.Proofs.B.C
namespace Go.aj
def Gf{p:Prop}(h:p:=by rw [wA,dy hi];rfl):p:=h
def amK{p:Prop}(h:p:=by
 rw [hd]at hp;cases ha:decide (l[i]<lo)with
 |true=>rw [ha]at hp;cases hp
 |false=>
  cases hb:decide (hi<l[i])with
  |true=>rw [ha,hb]at hp;cases hp
  |false=>simp at ha hb;exact⟨ha,hb⟩):p:=h
def Bl{p:Prop}(h:p:=by rw [wy]):p:=h
def akS{p:Prop}(h:p:=by
 simp only [jF]at h;rw [Ru]at h;simpa using h i (by simpa using ca)):p:=h
end Go.aj
namespace Go.Proofs.B.C
open Go Go.aj
section
variable{hi lo:Int}{l:bQ}
def ajc(h:oz l lo hi=true){i:Nat}(ca:i<l.length):w4 l lo hi i=false:=by
 unfold oz at h;exact akS
def azB(h:oz l lo hi=true):l.Nodup:=by
 have:∀n,n<=l.length->(l.take n).Nodup :=by
  intro n
  induction n with
  |zero=>intro _;simp
  |succ n ih=>
   intro hn;have hp:=ajc h (i:=n) (by omega);have hd:l.getD n 0=l[n]:=by rw [wA,dy (by omega)];rfl
   rw [FA,dy (by omega)];refine ag1 (ih (by omega)) λhm=> ?_;unfold w4 at hp;cases ha:decide (l.getD n 0<lo)with
   |true=>rw [ha]at hp;cases hp
   |false=>
    cases hb:decide (hi<l.getD n 0)with
    |true=>rw [ha,hb]at hp;cases hp
    |false=>
     rw [ha,hb,hd]at hp;have:gv (l.take n) l[n]=true:=ZY.2 hm;simp only [cf]at hp;rw [this]at hp;cases hp
 have h2:=this l.length (iZ _)
 rwa [MD]at h2
def ais(h:oz l lo hi=true):∀x∈l,lo<=x/\x<=hi:=by
 intro x hx;obtain⟨i,ca,rfl⟩:=IH hx;have hp:=ajc h ca;have hd:l.getD i 0=l[i]:=by rw [wA,dy ca];rfl
 unfold w4 at hp;exact amK
def Zw(h:qG l lo hi=true):∀x∈l,lo<=x/\x<=hi:=by
 intro x hx;obtain⟨i,ca,rfl⟩:=IH hx;unfold qG at h;simp only [jF]at h;rw [Ru]at h;have hp:yN l lo hi i=false:=by simpa using h i (by simpa using ca)
 have hd:l.getD i 0=l[i]:=by rw [wA,dy ca];rfl
 unfold yN at hp;exact amK
structure CN(cn:aY)(c:Int->Nat):Prop where
 pk:bz (aU cn)=cn
 rep:∀t,dF (aU cn) (iI t)=if c t=0 then none else some (iI (c t:Int))
section
variable {p:PG} {ts:List TK} {ro:List RO}
def aLp{w:WH}{Ts:bQ}(hT:Ts.length<=mx){lf:Int}{cn:aY}{c:Int->Nat}(h:CN cn c)(hb:∀t,c t+Ts.count t<=100000):∃cy,CN cy (λt=>c t+Ts.count t)/\
 cq H6 [aM (ints Ts),iI (ln (ints Ts)),iI 0,K0 p lf,aw (ba ro),.ae 0 cn,J (bm 0 w)] (0,[K0 p lf,aw (ba ro),.ae 0 cy,J (bm 0 w)]):=by
 have k:=ku (m:=Ts.length) (P:=λi=>∀cn,CN cn (λt=>c t+(Ts.take i).count t)->∃cy,CN cy (λt=>c t+Ts.count t)/\
  cq H6 [aM (ints Ts),iI (ln (ints Ts)),iI (i:Int),K0 p lf,aw (ba ro),.ae 0 cn,J (bm 0 w)] (0,[K0 p lf,aw (ba ro),.ae 0 cy,J (bm 0 w)]))
  (λcn h=>⟨cn,by rw [MD]at h;exact h,bF aeG (az eo (aq (by rw [h.pk];rfl)))⟩)
  λi hi ih cn h=>by
   have hd:Ts.getD i 0=Ts[i]:=Gf;have EO:∀t,(Ts.take (i+1)).count t=(Ts.take i).count t+if Ts[i]=t then 1 else 0:=λt=>by
    rw [FA,dy hi,List.count_append];simp [List.count_cons]
   have hle:∀t,(Ts.take i).count t<=Ts.count t:=λt=>List.Sublist.count_le _ (List.take_sublist _ _);have hr:=h.rep Ts[i];have zo:=hb Ts[i];have gY:=hle Ts[i]
   let v:Int:=((c Ts[i]+(Ts.take i).count Ts[i]+1:Nat):Int)
   obtain⟨cy,h',e⟩:=ih (bz (kX (aU cn) (iI Ts[i]) (iI v))) ⟨Bl,λt=>by
    rw [wy,Ft,h.rep,EO]
    by_cases ht:t=Ts[i]
    ·subst ht;simp [v];omega
    ·rw [if_neg ht];have:(if Ts[i]=t then 1 else 0:Nat)=0:=if_neg λh=>ht h.symm;rw [this,A9]⟩
   refine⟨cy,h',bF aeG (bE (dz hi) (aA (cb hi) ?_))⟩;rw [wF hi,ix hi hT,hd]
   by_cases h0:c Ts[i]+(Ts.take i).count Ts[i]=0
   ·rw [if_pos h0]at hr;rw [hr];have:v=1:=by simp only [v];omega
    rw [this]at e;exact e
   ·rw [if_neg h0]at hr;rw [hr];have:bH ((iI ((c Ts[i]+(Ts.take i).count Ts[i]:Nat):Int)).toI +1)=v:=by
     show bH (((c Ts[i]+(Ts.take i).count Ts[i]:Nat):Int)+1)=v;rw [pE (by omega) (by omega)];simp only [v];omega
    rw [<-this]at e;exact e
 exact k cn (qc)
def aDX{F:CS->Prop}{c:WH}(hd:WI p {mr c with uz:=true})(hu:WI p {mr c with tk:=true}){Ds:List CD}(hl:Ds.length<=mx)(hk:∀d∈Ds,ox p ts ro F d.d/\ox p ts ro F d.u):
 ∀lf cn cc,ST p lf cn cc->∃b eG cy,bz (aU cy)=cy/\
  cq Lt [gN (Ds.map fC),iI (ln (Ds.map fC)),iI 0,K0 p lf,aw (ba ro),.ae 0 cn,J (bm 0 {mr c with uz:=true}),J (bm 0 {mr c with tk:=true})]
   (bif b then(1,[K0 p eG,aw (ba ro),.ae 0 cy,J (bm 0 {mr c with uz:=true}),J (bm 0 {mr c with tk:=true})])else(0,[bq,K0 p eG,aw (ba ro),.ae 0 cy,J (bm 0 {mr c with uz:=true}),J (bm 0 {mr c with tk:=true})]))/\(b=true->(∃d,ST p eG cy d)/\∀d∈Ds,F d.d/\F d.u):=by
 have k:=ku (m:=Ds.length) (P:=λi=>∀lf cn cc,ST p lf cn cc->∃b eG cy,bz (aU cy)=cy/\
  cq Lt [gN (Ds.map fC),iI (ln (Ds.map fC)),iI (i:Int),K0 p lf,aw (ba ro),.ae 0 cn,J (bm 0 {mr c with uz:=true}),J (bm 0 {mr c with tk:=true})]
   (bif b then(1,[K0 p eG,aw (ba ro),.ae 0 cy,J (bm 0 {mr c with uz:=true}),J (bm 0 {mr c with tk:=true})])else(0,[bq,K0 p eG,aw (ba ro),.ae 0 cy,J (bm 0 {mr c with uz:=true}),J (bm 0 {mr c with tk:=true})]))/\(b=true->(∃d,ST p eG cy d)/\∀d∈Ds.drop i,F d.d/\F d.u))
  (λlf cn cc st=>⟨true,lf,cn,st.pk,bF PK (az eo (aq (by rw [st.pk];rfl))),λ_=>⟨⟨_,st⟩,(λy hy=>Gd)⟩⟩)
  λi hi ih lf cn cc st=>by
   obtain⟨ho,hv⟩:=hk Ds[i] (ei hi);have gd:bg fU 0 (gA (Ds.map fC) ((i:Int).toNat))=encS Ds[i].d :=by rw [dk hi,Gx]
   have gu:bg fU 21 (gA (Ds.map fC) ((i:Int).toNat))=encS Ds[i].u :=by rw [dk hi,Gw]
   obtain⟨b,l1,c1,kE,e1,e3⟩:=ho _ hd lf cn cc st;cases b with
   |false=>
    refine⟨false,l1,c1,kE,bF PK (bE (dz hi) (aA (cb hi) ?_)),λh=>aD⟩;rw [st.pk,gd];refine ah e1 ?_;erw [kE];exact bp aH
   |true=>
    obtain⟨⟨d1,cm⟩,f1⟩:=e3 rfl;obtain⟨b,l2,c2,lz,u1,u3⟩:=hv _ hu l1 c1 _ cm;cases b with
    |false=>
     refine⟨false,l2,c2,lz,bF PK (bE (dz hi) (aA (cb hi) ?_)),λh=>aD⟩;rw [st.pk,gd,gu];refine ah e1 ?_;erw [kE];refine av (ah u1 ?_);erw [lz];exact bp aH
    |true=>
     obtain⟨⟨d2,lL⟩,f2⟩:=u3 rfl;obtain⟨b,l3,c3,Er,r1,r3⟩:=ih l2 c2 _ lL;refine⟨b,l3,c3,Er,bF PK (bE (dz hi) (aA (cb hi) ?_)),λh=> ?_⟩
     ·rw [st.pk,gd,gu,ix hi hl];refine ah e1 ?_;erw [kE];refine av (ah u1 ?_);erw [lz];exact av r1
     ·obtain⟨s3,f3⟩:=r3 h;rw [lY hi];refine⟨s3,λy hy=> ?_⟩;rcases fV.1 hy with rfl|hy
      ·exact⟨f1,f2⟩
      ·exact f3 y hy
 intro lf cn cc st;exact k lf cn cc st
end
end
end Go.Proofs.B.C
namespace Go.aj
def aaF{p:Prop}(h:p:=by simp at b⊢;omega):p:=h
end Go.aj
namespace Go.Proofs.B.C
open Go Go.aj
section
variable{sm:aY}{sn:bQ}
def Bh:bQ->bQ->Option bQ
 | [],sn=>some sn
 |x::xs,sn=>bif gv sn x then none else Bh xs (sn++[x])
structure SM(sm:aY)(sn:bQ):Prop where
 pk:bz (aU sm)=sm
 rep:∀x,dF (aU sm) (iI x)=if gv sn x=true then some (fF)else none
def aAy(sn:bQ)(y x:Int):gv (sn++[y]) x=(gv sn x||y==x):=by
 unfold gv;rw [List.any_append];simp
def SM.put(h:SM sm sn)(y:Int):SM (bz (kX (aU sm) (iI y) (fF))) (sn++[y]):=
 ⟨Bl,λx=>by
   rw [wy,Ft,h.rep,aAy]
   by_cases hx:x=y
   ·subst hx;simp
   ·have:(y==x)=false:=by simpa using λh=>hx h.symm
    rw [if_neg hx,this,RJ]⟩
section
variable {p:PG} {ts:List TK} {ro:List RO}
def aDK{xs:bQ}(hx:xs.length<=mx){lf:Int}{cn:aY}(hc:bz (aU cn)=cn)(h:SM sm sn):∃rC,bz (aU rC)=rC/\(∀w7,Bh xs sn=some w7->SM rC w7)/\
 cq HU [aM (ints xs),iI (ln (ints xs)),iI 0,K0 p lf,aw (ba ro),.ae 0 cn,.ae 0 sm] (match Bh xs sn with|some _=>(1,[K0 p lf,aw (ba ro),.ae 0 cn,.ae 0 rC])|none=>(0,[bq,K0 p lf,aw (ba ro),.ae 0 cn,.ae 0 rC])):=by
 have k:=ku (m:=xs.length) (P:=λi=>∀sm sn,SM sm sn->∃rC,bz (aU rC)=rC/\(∀w7,Bh (xs.drop i) sn=some w7->SM rC w7)/\
  cq HU [aM (ints xs),iI (ln (ints xs)),iI (i:Int),K0 p lf,aw (ba ro),.ae 0 cn,.ae 0 sm] (match Bh (xs.drop i) sn with|some _=>(1,[K0 p lf,aw (ba ro),.ae 0 cn,.ae 0 rC])|none=>(0,[bq,K0 p lf,aw (ba ro),.ae 0 cn,.ae 0 rC])))
  (λsm sn h=>⟨sm,h.pk,λw7 hs=>by rw [qw]at hs;injection hs with hs;subst hs;exact h,by
    rw [qw];exact bF V5 (az eo (aq (by rw [hc,h.pk];rfl)))⟩)
  λi hi ih sm sn h=>by
   have hd:xs.getD i 0=xs[i]:=Gf;have hr:=h.rep xs[i];rw [lY hi];simp only [Bh];cases di:gv sn xs[i]with
   |true=>
    rw [di,if_pos rfl]at hr;simp only [bU];refine⟨sm,h.pk,(λw7 hs=>by cases hs),bF V5 (bE (dz hi) (aA (cb hi) ?_))⟩;rw [wF hi,hd,hr,hc,h.pk];exact bp aH
   |false=>
    rw [di,if_neg (by simp)]at hr;obtain⟨rC,q1,q2,q3⟩:=ih _ _ (h.put xs[i]);simp only [cf];refine⟨rC,q1,q2,bF V5 (bE (dz hi) (aA (cb hi) ?_))⟩;rw [wF hi,hd,hr,hc,ix hi hx];exact q3
 have:=k sm sn h;rw [il]at this;exact this
def agV:∀{xs sn w7:bQ},Bh xs sn=some w7->sn.Nodup->(∀x∈xs,1<=x/\x<=64)->(∀x∈sn,1<=x/\x<=64)->w7.Nodup/\∀x∈w7,1<=x/\x<=64
 | [],sn,w7,h,hn,_,hr=>by injection h with h;subst h;exact⟨hn,hr⟩
 |x::xs,sn,w7,h,hn,hx,hr=>by
  simp only [Bh]at h;cases hi:gv sn x with
  |true=>rw [hi]at h;cases h
  |false=>
   rw [hi]at h;refine agV h (ag1 hn λhm=>by rw [ZY.2 hm]at hi;cases hi) (λy hy=>hx y (by simp [hy])) λy hy=> ?_;rcases mE.1 hy with hy|hy
   ·exact hr y hy
   ·simp at hy;subst hy;exact hx _ (by simp)
def hB(p:PG)(n:Nat)(i:Nat)(x:CH):Bool:=(bif x.dP.length==0 then(i+1==n)else true)&&qG x.dP 1 p.dP
def aKj(l:bQ):(ln (ints l)==0)=(l.length==0):=by rw [fM];cases h:l.length==0<;>simp at h⊢<;>omega
def aDW{F:CS->Prop}(hpe:p.dP<=64){c:WH}(hw:WI p c){f:dU}{L D A:aY}{Hs:List CH}(hl:Hs.length<=mx)(hx:∀x∈Hs,x.dP.length<=mx)(hk:∀x∈Hs,ox p ts ro F x.body):
 ∀lf cn cc,ST p lf cn cc->∃b eG cy rC,bz (aU cy)=cy/\
  cq HX [gy (Hs.map dH),iI (ln (Hs.map dH)),iI 0,K0 p lf,aw (ba ro),.ae 0 cn,J (bm 0 c),J (eQ f L D (Hs.map dH) A),.ae 0 (bz [])]
   (bif b then(1,[K0 p eG,aw (ba ro),.ae 0 cy,J (bm 0 c),J (eQ f L D (Hs.map dH) A),.ae 0 rC])else(0,[bq,K0 p eG,aw (ba ro),.ae 0 cy,J (bm 0 c),J (eQ f L D (Hs.map dH) A),.ae 0 rC]))/\(b=true->(∃d,ST p eG cy d)/\∀x∈Hs,F x.body):=by
 have k:=ku (m:=Hs.length) (P:=λi=>∀lf cn cc,ST p lf cn cc->∀sm sn,SM sm sn->sn.Nodup->(∀y∈sn,1<=y/\y<=64)->∃b eG cy rC,bz (aU cy)=cy/\
  cq HX [gy (Hs.map dH),iI (ln (Hs.map dH)),iI (i:Int),K0 p lf,aw (ba ro),.ae 0 cn,J (bm 0 c),J (eQ f L D (Hs.map dH) A),.ae 0 sm]
   (bif b then(1,[K0 p eG,aw (ba ro),.ae 0 cy,J (bm 0 c),J (eQ f L D (Hs.map dH) A),.ae 0 rC])else(0,[bq,K0 p eG,aw (ba ro),.ae 0 cy,J (bm 0 c),J (eQ f L D (Hs.map dH) A),.ae 0 rC]))/\
  (b=true->(∃d,ST p eG cy d)/\∀x∈Hs.drop i,F x.body))
  (λlf cn cc st sm sn hs _ _=>⟨true,lf,cn,sm,st.pk,bF aeq (az eo (aq (by rw [st.pk,hs.pk];rfl))),λ_=>⟨⟨_,st⟩,(λy hy=>Gd)⟩⟩)
  λi hi ih lf cn cc st sm sn hs hn hr=>by
   have gH:bg Xw 0 (gA (Hs.map dH) ((i:Int).toNat))=dH Hs[i]:=by rw [dk hi,T3]
   have Ho:=hx _ (ei hi);have OT:bH (ln (Hs.map dH)- 1)=(Hs.length:Int)- 1:=by rw [fM,pE (SV) (SV)]
   have jc:cW V8 [iI (i:Int),K0 p lf,aw (ba ro),.ae 0 cn,J (bm 0 c),J (eQ f L D (Hs.map dH) A),J (dH Hs[i])]
    (bif hB p Hs.length i Hs[i]then(0,[K0 p lf,aw (ba ro),.ae 0 cn,J (bm 0 c),J (eQ f L D (Hs.map dH) A),J (dH Hs[i])])else(1,[bq,K0 p lf,aw (ba ro),.ae 0 cn,J (bm 0 c),J (eQ f L D (Hs.map dH) A),J (dH Hs[i])])):=by
    refine cL arz ?_;rw [st.pk,Kc,T3,aKj];refine aW (λa=>aW (c:=decide ((i:Int)<bH (ln (Hs.map dH)- 1))) (λb=>aq ?_) λb=>ah (Uc 1 p.dP Ho) (aW (c:= !qG Hs[i].dP 1 p.dP) (λd=>aq ?_) λd=>aq ?_)) λa=>ah (Uc 1 p.dP Ho) (aW (c:= !qG Hs[i].dP 1 p.dP) (λd=>aq ?_) λd=>aq ?_)
    ·rw [OT]at b;have:(i+1==Hs.length)=false:=aaF;unfold hB;rw [a,this];rfl
    ·rw [OT]at b;have:(i+1==Hs.length)=true:=aaF;simp only [jF]at d;unfold hB;rw [a,this,d];rfl
    ·rw [OT]at b;have:(i+1==Hs.length)=true:=aaF;simp only [ja]at d;unfold hB;rw [a,this,d];rfl
    ·simp only [jF]at d;unfold hB;rw [a,d];rfl
    ·simp only [ja]at d;unfold hB;rw [a,d];rfl
   have C:∀r:UO,_->cq HX [gy (Hs.map dH),iI (ln (Hs.map dH)),iI (i:Int),K0 p lf,aw (ba ro),.ae 0 cn,J (bm 0 c),J (eQ f L D (Hs.map dH) A),.ae 0 sm] r:=λr h=>by
    refine bF aeq (bE (dz hi) (aA (cb hi) ?_));rw [st.pk,hs.pk,gH];refine ah jc ?_;exact h
   cases hb:hB p Hs.length i Hs[i]with
   |false=>
    rw [hb]at C;exact⟨false,lf,cn,sm,st.pk,C _ (av (aq (by erw [st.pk];rfl))),λh=>aD⟩
   |true=>
    rw [hb]at C;simp only [bU]at C;have vS:=(bw _ _).mp hb;have vO:∀y∈Hs[i].dP,1<=y/\y<=64:=λy hy=>by have:=Zw vS.2 y hy;omega
    obtain⟨sm1,kE,s1,s2⟩:=aDK (p:=p) (ro:=ro) Ho (lf:=lf) st.pk hs (xs:=Hs[i].dP);have ge:ints Hs[i].dP =gR (dH Hs[i]) 0:=(Kc _).symm;rw [ge]at s2;cases du:Bh Hs[i].dP sn with
    |none=>
     rw [du]at s2;refine⟨false,lf,cn,sm1,st.pk,C _ (bp ?_),λh=>aD⟩;erw [st.pk];refine ah s2.diag (bp (aq ?_));erw [st.pk,kE];rfl
    |some sn1=>
     rw [du]at s2;have sm2:=s1 sn1 du;obtain⟨b,l1,c1,pc1,e1,e3⟩:=hk _ (ei hi) c hw lf cn cc st;have gb:encS Hs[i].body =bg fU 1 (dH Hs[i]):=(Gv _).symm;rw [gb]at e1;cases b with
     |false=>
      refine⟨false,l1,c1,sm1,pc1,C _ (bp ?_),λh=>aD⟩;erw [st.pk];refine ah s2.diag (av ?_);erw [st.pk];refine ah e1 ?_;erw [pc1,kE];exact bp aH
     |true=>
      obtain⟨⟨d1,cm⟩,f1⟩:=e3 rfl;obtain⟨Hu,xp⟩:=agV du hn vO hr;obtain⟨b,l2,c2,sm3,pc2,u1,u3⟩:=ih l1 c1 _ cm sm1 sn1 sm2 Hu xp;refine⟨b,l2,c2,sm3,pc2,C _ (bp ?_),λh=> ?_⟩
      ·erw [st.pk];refine ah s2.diag (av ?_);erw [st.pk];refine ah e1 ?_;erw [pc1,kE,ix hi hl];exact av u1
      ·obtain⟨s2,f2⟩:=u3 h;exact abM
 intro lf cn cc st;exact k lf cn cc st (bz []) [] ⟨Bl,λx=>by simp [wy,dF,gv]⟩ Mv (by simp)
end
end
end Go.Proofs.B.C
namespace Go.aj
def Dv{p:Prop}(h:p:=by show(-1:Int)<0;omega):p:=h
end Go.aj
namespace Go.Proofs.B.C
open Go Go.aj
section
variable{f:dU}{lf:Int}{A cn:aY}
section
variable {p:PG} {ts:List TK} {ro:List RO}
def GZ(p:PG)(c:WH)(f:dU)(D H:aY):Bool:=bif decide (256<ln D)then false else bif decide (16<ln H)then false else oz f.Ts (bH (c.task+1)) (bH (ln (p.tasks.map dv)- 1))
variable (ct:CT p ts ro) {c:WH} (hw:WI p c)
include ct in
theorem scC(hf:f.Ok){L D H:aY}(hc:bz (aU cn)=cn):
 cW WZ [K0 p lf,aw (ba ro),.ae 0 cn,J (bm 0 c),SF f L D H A]
  (bif GZ p c f D H then(0,[K0 p lf,aw (ba ro),.ae 0 cn,J (bm 0 c),SF f L D H A])else(1,[bq,K0 p lf,aw (ba ro),.ae 0 cn,J (bm 0 c),SF f L D H A])):=by
 refine cL atD ?_;rw [hc];refine aW (c:=decide (256<ln D)) (λa=>aq (by unfold GZ;rw [a];rfl)) λa=>aW (c:=decide (16<ln H)) (λb=>aq (by unfold GZ;rw [a,b];rfl)) λb=>ah (acz (bH (c.task+1)) (bH (ln (p.tasks.map dv)- 1)) hf.Ts) (aW (c:= !oz f.Ts (bH (c.task+1)) (bH (ln (p.tasks.map dv)- 1))) (λd=>aq ?_) λd=>aq ?_)
 ·simp only [jF]at d;unfold GZ;rw [a,b,d];rfl
 ·simp only [ja]at d;unfold GZ;rw [a,b,d];rfl
theorem WI.of{w w':WH}(h:WI p w)(U:w'.task=w.task)(h2:w'.rW<0∨w'.rW=w.rW)(h3:w'.mZ=w.mZ)(m:(w'.marks.length:Int)<=w.deep)(a:(w'.tq.length:Int)<=w.deep)(b:(w'.qS.length:Int)<=w.deep)(l:(w'.loops.length:Int)<=w.deep)(d:w'.deep=w.deep):WI p w':=
 ⟨⟨by rcases h2 with h2|h2
      ·exact .inl h2
      ·rw [U,h2];exact h.gv.B6,by rw [h3];exact h.gv.act,by rw [U];exact h.gv.task⟩,by rw [d];exact m,by rw [d];exact a,by rw [d];exact b,by rw [d,h3];exact h.l4,by rw [d];exact l,by rw [d];exact h.d⟩
theorem Y8:∀{l:bQ},l.Nodup->∀t,l.count t<=1
 | [],_,_=>by simp
 |x::l,h,t=>by
  have ⟨U,h2⟩:=FM.1 h;rw [List.count_cons]
  by_cases e:x=t
  ·subst e;have:=List.count_eq_zero.2 U;simp;omega
  ·simp [e];exact Y8 h2 t
include ct hw in
theorem aLy{F:CS->Prop}(hf:f.Ok){s0:CS}{Ds:List CD}{Hs:List CH}(hD:Ds.length<=mx)(hH:Hs.length<=mx)(sk:0<=c.deep)(hx:∀x∈Hs,x.dP.length<=mx)
 (k0:ox p ts ro F s0) (kD:∀d∈Ds,ox p ts ro F d.d/\ox p ts ro F d.u) (kH:∀x∈Hs,ox p ts ro F x.body)   {cc:Int->Nat} (st:ST p lf cn cc) (hs:∀t,(cc t:Int)+1<=8192- lf):∃b eG cy,bz (aU cy)=cy/\
 Ev LG [J (bm 0 c),SF f [encS s0] (Ds.map fC) (Hs.map dH) A,K0 p lf,aw (ba ro),.ae 0 cn] (0,aJ b::gW p ro eG cy)/\(b=true->(∃d,ST p eG cy d)/\F s0/\(∀d∈Ds,F d.d/\F d.u)/\∀x∈Hs,F x.body):=by
 have a1:=scC ct (c:=c) hf (L:=[encS s0]) (D:=Ds.map fC) (H:=Hs.map dH) (A:=A) (lf:=lf) st.pk;have C:∀r:UO,_->Ev LG [J (bm 0 c),SF f [encS s0] (Ds.map fC) (Hs.map dH) A,K0 p lf,aw (ba ro),.ae 0 cn] r:=λr h=>by
  refine bh auN ?_;rw [st.pk];refine ah a1 ?_;exact h
 cases hb:GZ p c f (Ds.map fC) (Hs.map dH)with
 |false=>
  rw [hb]at C;refine⟨false,lf,cn,st.pk,C _ (av (aq ?_)),λh=>aD⟩;erw [st.pk];rfl
 |true=>
  rw [hb]at C;simp only [bU]at C;have OV:oz f.Ts (bH (c.task+1)) (bH (ln (p.tasks.map dv)- 1))=true:=by
   unfold GZ at hb;cases h:decide (256<ln (Ds.map fC))with
   |true=>rw [h]at hb;cases hb
   |false=>
    cases h2:decide (16<ln (Hs.map dH))with
    |true=>rw [h,h2]at hb;cases hb
    |false=>rw [h,h2]at hb;exact hb
  have ES:=azB OV;obtain⟨VA,U,e1⟩:=aLp (p:=p) (ro:=ro) (w:=c) hf.Ts (lf:=lf) ⟨st.pk,st.rep⟩ (c:=cc) λt=>by
   have:=Y8 ES t;have:=hs t;have:=st.lo;omega
  have trg:∀t∈f.Ts,1<=t/\t<(p.tasks.length:Int):=λt ht=>by
   have U:=ais OV t ht;have h2:=oX.1 hw.gv.task;have h3:=ct.aD6;rw [fM,pE (by omega) (by omega),pE (by omega) (by omega)]at U;omega
  have cm:ST p lf VA λt=>cc t+f.Ts.count t:=⟨U.pk,U.rep,λt=>by
   have:=Y8 ES t;have:=hs t;omega,st.lo,st.hi,λt ht=>by
    by_cases h0:cc t=0
    ·exact trg t (List.count_pos_iff.1 (by omega))
    ·exact st.n7 t h0⟩
  have a14:cW WL [K0 p lf,aw (ba ro),.ae 0 cn,J (bm 0 c),SF f [encS s0] (Ds.map fC) (Hs.map dH) A] (0,[K0 p lf,aw (ba ro),.ae 0 VA,J (bm 0 c),SF f [encS s0] (Ds.map fC) (Hs.map dH) A]):=by
   refine cL as9 ?_;rw [st.pk];refine ah e1.diag (aq ?_);erw [U.pk];rfl
  have l0:∀(w:WH),(([]:bQ).length :Int)<=c.deep:=λ_=>by simpa using sk
  have wd:WI p {mr c with uz:=true}:=hw.of rfl (.inl (Dv)) rfl (l0 c) hw.l2 hw.l3 hw.l5 rfl;have wu:WI p {mr c with tk:=true}:=hw.of rfl (.inl (Dv)) rfl (l0 c) hw.l2 hw.l3 hw.l5 rfl;obtain⟨b,l2,c2,lz,e2,g2⟩:=aDX (c:=c) wd wu hD kD lf VA _ cm;have C2:∀r:UO,_->Ev LG [J (bm 0 c),SF f [encS s0] (Ds.map fC) (Hs.map dH) A,K0 p lf,aw (ba ro),.ae 0 cn] r:=λr h=>by
   refine C r (bp ?_);erw [st.pk];refine ah a14 ?_;erw [U.pk];refine ah (Us (w:=c) U.pk) ?_;erw [U.pk];refine ah (Us (w:=c) U.pk) ?_;erw [U.pk];have aKq:cW Wt [K0 p lf,aw (ba ro),.ae 0 VA,SF f [encS s0] (Ds.map fC) (Hs.map dH) A,J (bm 0 {mr c with uz:=true}),J (bm 0 {mr c with tk:=true})]
    (bif b then(0,[K0 p l2,aw (ba ro),.ae 0 c2,SF f [encS s0] (Ds.map fC) (Hs.map dH) A,J (bm 0 {mr c with uz:=true}),J (bm 0 {mr c with tk:=true})])else(1,[bq,K0 p l2,aw (ba ro),.ae 0 c2,SF f [encS s0] (Ds.map fC) (Hs.map dH) A,J (bm 0 {mr c with uz:=true}),J (bm 0 {mr c with tk:=true})])):=by
    refine cL asx ?_;rw [U.pk];refine ah e2.diag ?_;cases b with
    |false=>refine bp (aq ?_);erw [lz];rfl
    |true=>refine av (aq ?_);erw [lz];rfl
   refine ah aKq ?_;exact h
  have wq:WI p (rq c):=hw.of rfl (.inl (Dv)) rfl hw.l1 hw.l2 hw.l3 hw.l5 rfl;have wh:WI p {rq c with MG:=true}:=hw.of rfl (.inl (Dv)) rfl hw.l1 hw.l2 hw.l3 hw.l5 rfl;cases b with
  |false=>
   refine⟨false,l2,c2,lz,C2 _ (av (aq ?_)),λh=>aD⟩;erw [lz];rfl
  |true=>
   obtain⟨⟨d2,lL⟩,fD⟩:=g2 rfl;obtain⟨b,l3,c3,Er,e3,g3⟩:=k0 (rq c) wq l2 c2 _ lL;have u0:bg fU 0 (gA [encS s0] 0)=encS s0:=gE s0;have e3':Ev mU [J (bm 0 (rq c)),J (bg fU 0 (gA [encS s0] 0)),K0 p l2,aw (ba ro),.ae 0 c2] (0,aJ b::gW p ro l3 c3):=by rw [u0];exact e3
   cases b with
   |false=>
    refine⟨false,l3,c3,Er,C2 _ (bp (aA rfl ?_)),λh=>aD⟩;erw [lz];refine ah e3' (bp (aq ?_));erw [Er];rfl
   |true=>
    obtain⟨⟨d3,st3⟩,f0⟩:=g3 rfl;obtain⟨b,l4,c4,sm,pk4,e4,g4⟩:=aDW (p:=p) (ts:=ts) (ro:=ro) ct.dP wh (f:=f) (L:=[encS s0]) (D:=Ds.map fC) (A:=A) hH hx kH l3 c3 _ st3;refine⟨b,l4,c4,pk4,C2 _ (bp (aA rfl ?_)),λh=> ?_⟩
    ·erw [lz];refine ah e3' (av ?_);erw [Er];refine ah e4.diag ?_;cases b with
     |false=>refine bp (aq ?_);erw [pk4];rfl
     |true=>refine av (aq ?_);erw [pk4];rfl
    ·obtain⟨s4,fH⟩:=g4 h;exact⟨s4,f0,fD,fH⟩
end
end
end Go.Proofs.B.C
namespace Go.aj
def ajA{p:Prop}(h:p:=by show(!(x.entry==0))=false;rw [h3];rfl):p:=h
def ajv{p:Prop}(h:p:=by show(!(x.entry==0))=true;rw [h3];rfl):p:=h
end Go.aj
namespace Go.Proofs.B.C
open Go Go.aj
section
variable{l:List CE}{a e t:Nat}{mm:aY}
def KD(k:Int):Bool:=bif k==2 then true else k==3
def kk(k:Int):Int:=bif KD k then 2 else k
def dA(c:WH)(x:CA):WH:=bif x.kind==1 then Ar c x.entry else c
def na(k:Int)(a:Nat):Nat:=if k=1 then a+1 else a
def ne'(k:Int)(e:Nat):Nat:=if k=4 then e+1 else e
def nt(k:Int)(t:Nat):Nat:=if k=1∨k=4 then t else t+1
def cur(k:Int)(a t e:Nat):Nat:=if k=1 then a else if k=4 then e else t
structure CM(mm:aY)(a t e:Nat):Prop where
 pk:bz (aU mm)=mm
 f1:dF (aU mm) (cE 1)=if a=0 then none else some (iI (a:Int))
 f2:dF (aU mm) (cE 2)=if t=0 then none else some (iI (t:Int))
 f4:dF (aU mm) (cE 4)=if e=0 then none else some (iI (e:Int))
theorem CM.look(h:CM mm a t e){k:Int}(hk:k=1∨k=2∨k=3∨k=4):dF (aU mm) (cE (kk k))=if cur k a t e=0 then none else some (iI (cur k a t e:Int)):=by
 rcases hk with rfl|rfl|rfl|rfl
 ·exact h.f1
 ·exact h.f2
 ·exact h.f2
 ·exact h.f4
theorem CM.put(h:CM mm a t e){k:Int}(hk:k=1∨k=2∨k=3∨k=4):CM (bz (kX (aU mm) (cE (kk k)) (iI ((cur k a t e+1:Nat):Int)))) (na k a) (nt k t) (ne' k e):=by
 rcases hk with rfl|rfl|rfl|rfl
 ·refine⟨Bl,?_,?_,?_⟩<;>rw [wy,Ft]<;>first|exact h.f2|exact h.f4|rfl
 ·refine⟨Bl,?_,?_,?_⟩<;>rw [wy,Ft]<;>first|exact h.f1|exact h.f4|rfl
 ·refine⟨Bl,?_,?_,?_⟩<;>rw [wy,Ft]<;>first|exact h.f1|exact h.f4|rfl
 ·refine⟨Bl,?_,?_,?_⟩<;>rw [wy,Ft]<;>first|exact h.f1|exact h.f2|rfl
section
variable {p:PG} {ts:List TK} {ro:List RO} (ct:CT p ts ro) {c:WH} (hw:c.Ok) {cn:aY} (hc:bz (aU cn)=cn) {lf:Int} (hE:pM)
theorem pn:(ln (l.map aZ) != 1)= !(ln (l.map aZ)==1):=rfl
theorem gt0:decide (0<ln (l.map aZ))= !(ln (l.map aZ)==0):=by rw [fM];cases l<;>simp;omega
abbrev A0(x:CA):AV:= J (dY x)
include ct hw hc hE in
theorem aKc(l:List CE)(ok:∀e∈l,e.Ok):∃nb:Bool,∀e,l=[e]->Ev zx [J (bm 0 c),J (aZ e),J (dE 1 2 p lf),aw (ba ro),.ae 0 cn] (0,aJ nb::gW p ro lf cn)/\(nb=true->iQ p.aR e):=by
 match l,ok with
 | [e],ok=>
   exact alu
 | [],_=>exact⟨false,λe h=>aD⟩
 |_::_::_,_=>exact⟨false,λe h=>aD⟩
def Ec(l:List OB)(x:CA):Prop:=(x.kind=1/\x.E=[])∨((x.kind=2∨x.kind=3)/\x.entry=0/\∃e,x.E=[e]/\iQ l e/\oa x.body=true)∨(x.kind=4/\x.entry=0/\x.E=[]/\oa x.body=true/\oa x.after=true)
theorem Ec.k{l:List OB}{x:CA}(h:Ec l x):x.kind=1∨x.kind=2∨x.kind=3∨x.kind=4:=by
 rcases h with⟨h,_⟩|⟨h|h,_⟩|⟨h,_⟩
 ·exact .inl h
 ·exact .inr (.inl h)
 ·exact .inr (.inr (.inl h))
 ·exact .inr (.inr (.inr h))
include ct hw hc hE in
theorem aLC(x:CA)(hx:x.og){nb:Bool}(Ht:∀e,x.E=[e]->Ev zx [J (bm 0 c),J (aZ e),J (dE 1 2 p lf),aw (ba ro),.ae 0 cn] (0,aJ nb::gW p ro lf cn)/\(nb=true->iQ p.aR e)):∃b,
 cW HV [cE x.kind,K0 p lf,aw (ba ro),.ae 0 cn,J (bm 0 c),A0 x,J (bm 0 c)]
  (bif b then(0,[cE (kk x.kind),K0 p lf,aw (ba ro),.ae 0 cn,J (bm 0 c),A0 x,J (bm 0 (dA c x))])else(1,[bq,K0 p lf,aw (ba ro),.ae 0 cn,J (bm 0 c),A0 x,J (bm 0 c)]))/\
 (b=true->Ec p.aR x/\(x.kind=1->qf p c.task x.entry=true)):=by
 have j9:cW V6 [cE x.kind,K0 p lf,aw (ba ro),.ae 0 cn] (0,aJ (KD x.kind)::gW p ro lf cn):=by
  refine cL arl ?_;rw [hc];refine aW (c:=x.kind==2) (λh=>aq ?_) λh=>aq ?_
  ·unfold KD;rw [h];rfl
  ·unfold KD;rw [h];rfl
 have C:∀r:UO,_->cW HV [cE x.kind,K0 p lf,aw (ba ro),.ae 0 cn,J (bm 0 c),A0 x,J (bm 0 c)] r:=λr h=>by
  refine cL ary ?_;rw [hc,N9,Ob,NO,DN,DO,pn,gt0];exact h
 have E0:(ln (x.E.map aZ)==0)=true->x.E=[]:=λh=>wE (by have:=eq_of_beq h;rw [fM]at this;omega)
 by_cases U:(x.kind==1)=true
 ·cases hl:ln (x.E.map aZ)==0 with
  |false=>
   rw [hl]at C;exact⟨false,C _ (bE U (bp aH)),λh=>aD⟩
  |true=>
   rw [hl]at C;refine⟨GG p c x.entry,C _ (bE U (av (ah (wR (lf:=lf) hw hc x.entry) ?_))),λh=>⟨.inl ⟨eq_of_beq U,E0 hl⟩,λ_=>by unfold GG at h;rw [bw]at h;exact h.1⟩⟩;erw [hc];cases ho:GG p c x.entry with
   |false=>exact bp aH
   |true=>
    refine av (ah (aqa (lf:=lf) hw hc x.entry) (aq ?_));erw [hc];have hd:dA c x=Ar c x.entry:=by unfold dA;rw [U];rfl
    have oQ:kk x.kind=x.kind:=by rw [eq_of_beq U];rfl
    rw [hd,oQ];rfl
 ·have U:(x.kind==1)=false:=by simpa using U
  have hd:dA c x=c:=by unfold dA;rw [U];rfl
  cases h2:KD x.kind with
  |true=>
   rw [h2]at j9;have oQ:kk x.kind=2:=by unfold kk;rw [h2];rfl
   have C2:∀r:UO,_->cW HV [cE x.kind,K0 p lf,aw (ba ro),.ae 0 cn,J (bm 0 c),A0 x,J (bm 0 c)] r:=λr h=>by
    refine C r (az U (ah j9 (bp ?_)));exact Jf
   cases h3:x.entry==0 with
   |false=>
    refine⟨false,C2 _ (bE (c:=x.entry != 0) (ajv) aH),λh=>aD⟩
   |true=>
    have E3:(x.entry != 0)=false:=ajA;cases hl:ln (x.E.map aZ)==1 with
    |false=>
     rw [hl]at C2;refine⟨false,C2 _ (az E3 (bp aH)),λh=>aD⟩
    |true=>
     rw [hl]at C2;obtain⟨e,he⟩:=zT (eq_of_beq hl);have hg:decide (0<ln (x.E.map aZ))=true:=aaL;have lQ:(!(ln (x.E.map aZ)==0))=true:=aaL;obtain⟨b1,b2⟩:=Ht e he;rw [<-FZ e,<-he]at b1;cases nb with
     |false=>
      refine⟨false,C2 _ (az E3 (av (aA lQ (ah b1 (bp (aq ?_)))))),λh=>aD⟩;exact oW
     |true=>
      refine⟨oa x.body,C2 _ (az E3 (av (aA lQ (ah b1 (av (ah (Ga x.body) ?_)))))),λhb=>⟨.inr (.inl ⟨?_,eq_of_beq h3,e,he,b2 rfl,hb⟩),λh=>by rw [h]at U;cases U⟩⟩
      ·cases oa x.body with
       |false=>exact SS
       |true=>refine av (aq ?_);erw [hc];rw [oQ,hd];rfl
      ·unfold KD at h2;cases h:x.kind==2 with
       |true=>exact .inl (eq_of_beq h)
       |false=>rw [h]at h2;exact .inr (eq_of_beq h2)
  |false=>
   rw [h2]at j9;have oQ:kk x.kind=x.kind:=by unfold kk;rw [h2];rfl
   have C2:∀r:UO,_->cW HV [cE x.kind,K0 p lf,aw (ba ro),.ae 0 cn,J (bm 0 c),A0 x,J (bm 0 c)] r:=λr h=>by
    refine C r (az U (ah j9 (av ?_)));exact Jf
   cases h4:x.kind==4 with
   |false=>exact⟨false,C2 _ (az h4 aH),λh=>aD⟩
   |true=>
    cases h3:x.entry==0 with
    |false=>
     refine⟨false,C2 _ (bE h4 (bE (c:=x.entry != 0) (ajv) aH)),λh=>aD⟩
    |true=>
     have E3:(x.entry != 0)=false:=ajA;cases hl:ln (x.E.map aZ)==0 with
     |false=>
      rw [hl]at C2;refine⟨false,C2 _ (bE h4 (az E3 (bp aH))),λh=>aD⟩
     |true=>
      rw [hl]at C2;cases hb:oa x.body with
      |false=>
       have n1:=Ga x.body;rw [hb]at n1;exact⟨false,C2 _ (bE h4 (az E3 (av (ah n1 (bp aH))))),λh=>aD⟩
      |true=>
       have n1:=Ga x.body;rw [hb]at n1;refine⟨oa x.after,C2 _ (bE h4 (az E3 (av (ah n1 (av (ah (Ga x.after) ?_)))))),λha=>⟨.inr (.inr ⟨eq_of_beq h4,eq_of_beq h3,E0 hl,hb,ha⟩),λh=>by rw [h]at U;cases U⟩⟩;cases oa x.after with
       |false=>exact bp aH
       |true=>refine av (aq ?_);rw [oQ,hd];rfl
end
end
end Go.Proofs.B.C
namespace Go.aj
def SL{p:Prop}(h:p:=by rw [wy];rfl):p:=h
end Go.aj
namespace Go.Proofs.B.C
open Go Go.aj
section
variable{As:List CA}{i:Nat}
section
variable {p:PG} {ts:List TK} {ro:List RO}
def aan(h:i<As.length):bg CQ 0 (gA (As.map dY) ((i:Int).toNat))=dY As[i]:=by rw [dk h,NO]
def aBa(h:i<As.length):bg lU 1 (gA (As.map dY) ((i:Int).toNat))=aZ As[i].guard :=by rw [dk h,JT]
def alU(h:i<As.length):gI (gA (As.map dY) ((i:Int).toNat)) 0=As[i].kind :=by rw [dk h,Oa]
def aDY{F:CS->Prop}(ct:CT p ts ro)(hE:pM){c:WH}(hw:WI p c)(h3:(c.qS.length:Int)+1<=c.deep)(hl:As.length<=mx)(hx:∀x∈As,x.og)(hk:∀x∈As,ox p ts ro F x.body/\ox p ts ro F x.after):
 ∀lf cn cc,ST p lf cn cc->∃b eG cy y7,bz (aU cy)=cy/\bz (aU y7)=y7/\
  cq AU [eh (As.map dY),iI (ln (As.map dY)),iI 0,K0 p lf,aw (ba ro),.ae 0 cn,J (bm 0 c),.ae 0 (bz [])]
   (bif b then(1,[K0 p eG,aw (ba ro),.ae 0 cy,J (bm 0 c),.ae 0 y7])else(0,[bq,K0 p eG,aw (ba ro),.ae 0 cy,J (bm 0 c),.ae 0 y7]))/\(b=true->(∃d,ST p eG cy d)/\(∃a t e,CM y7 a t e/\a+t+e<=mx)/\∀x∈As,F x.body/\F x.after/\iQ p.aR x.guard/\Ec p.aR x):=by
 have hwo:=hw.ok;have k:=ku (m:=As.length) (P:=λi=>∀lf cn cc,ST p lf cn cc->∀mm (a t e:Nat),CM mm a t e->a+t+e=i->∃b eG cy y7,bz (aU cy)=cy/\bz (aU y7)=y7/\
  cq AU [eh (As.map dY),iI (ln (As.map dY)),iI (i:Int),K0 p lf,aw (ba ro),.ae 0 cn,J (bm 0 c),.ae 0 mm]
   (bif b then(1,[K0 p eG,aw (ba ro),.ae 0 cy,J (bm 0 c),.ae 0 y7])else(0,[bq,K0 p eG,aw (ba ro),.ae 0 cy,J (bm 0 c),.ae 0 y7]))/\(b=true->(∃d,ST p eG cy d)/\(∃a t e,CM y7 a t e/\a+t+e<=mx)/\∀x∈As.drop i,F x.body/\F x.after/\iQ p.aR x.guard/\Ec p.aR x))
  (λlf cn cc st mm a t e hm hs=>⟨true,lf,cn,mm,st.pk,hm.pk,bF aew (az eo (aq (by rw [st.pk,hm.pk];rfl))),λ_=>⟨⟨_,st⟩,⟨a,t,e,hm,by omega⟩,λy hy=>Gd⟩⟩)
  λi hi ih lf cn cc st mm a t e hm hs=>by
   have kl:=ei hi;have eA:A0 As[i]= J (bg CQ 0 (gA (As.map dY) ((i:Int).toNat))):=by rw [aan hi]
   obtain⟨bc,q1,q2⟩:=acb ct hwo st.pk (lf:=lf) hE As[i].guard (hx _ kl).guard;obtain⟨nb,Ht⟩:=aKc ct hwo st.pk (lf:=lf) hE As[i].E (hx _ kl).E.2;obtain⟨b,a1,a3⟩:=aLC ct hwo st.pk (lf:=lf) hE As[i] (hx _ kl) Ht;rw [<-aBa hi]at q1;have C:∀r:UO,_->cq AU [eh (As.map dY),iI (ln (As.map dY)),iI (i:Int),K0 p lf,aw (ba ro),.ae 0 cn,J (bm 0 c),.ae 0 mm] r:=λr h=>by
    refine bF aew (bE (dz hi) (aA (cb hi) ?_));rw [st.pk,hm.pk];refine ah q1 ?_;exact h
   cases bc with
   |false=>
    refine⟨false,lf,cn,mm,st.pk,hm.pk,C _ (bp (aq ?_)),λh=>aD⟩;erw [st.pk];rfl
   |true=>
    rw [eA,<-alU hi]at a1;cases b with
    |false=>
     refine⟨false,lf,cn,mm,st.pk,hm.pk,C _ (av ?_),λh=>aD⟩;erw [st.pk];refine ah a1 (av (aq ?_));erw [st.pk];rfl
    |true=>
     obtain⟨HC,aKX⟩:=a3 rfl;have qL:=HC.k;have hm2:=hm.put qL;have hcu:=hm.look qL;have apl:na As[i].kind a+nt As[i].kind t+ne' As[i].kind e=i+1:=by
      unfold na nt ne';rcases qL with h|h|h|h<;>rw [h]<;>simp<;>omega
     have wd:WI p (dA c As[i]):=by
      unfold dA;cases U:As[i].kind ==1 with
      |false=>exact hw
      |true=>
       have sk:(0:Int)<=c.deep:=by have:=hw.l1;omega
       refine⟨⟨.inr (aKX (eq_of_beq U)),hw.gv.act,hw.gv.task⟩,?_,hw.l2,?_,hw.l4,hw.l5,hw.d⟩
       ·simpa [Ar,mr]using sk
       ·simpa [Ar,mr]using h3
     obtain⟨ho,hv⟩:=hk _ kl;obtain⟨b,l1,c1,kE,e1,g1⟩:=ho _ wd lf cn cc st;have ub:encS As[i].body =bg fU 12 (bg CQ 0 (gA (As.map dY) ((i:Int).toNat))):=by rw [aan hi,DN]
     have ua:encS As[i].after =bg fU 33 (bg CQ 0 (gA (As.map dY) ((i:Int).toNat))):=by rw [aan hi,DO]
     rw [ub]at e1;have jX:∃EC:aY,CM EC (na As[i].kind a) (nt As[i].kind t) (ne' As[i].kind e)/\(∀r:UO,E (λN m=>bO (FU CX EE N mU [J (bm 0 (dA c As[i])),J (bg fU 12 (bg CQ 0 (gA (As.map dY) ((i:Int).toNat)))),K0 p lf,aw (ba ro),.ae 0 cn]) λ_ cY=>bif !(gB cY 0)then some (0,[bq,J (sT (bg dM 0 (gC cY 1)) eH),aw (gR cY 2),.ae 0 (bz (aU (gR cY 3))),J (bm 0 c),.ae 0 EC])else bO (FU CX EE N mU [J (bm 0 c),J (bg fU 33 (bg CQ 0 (gA (As.map dY) ((i:Int).toNat)))),J (sT (bg dM 0 (gC cY 1)) eH),aw (gR cY 2),.ae 0 (bz (aU (gR cY 3)))]) λ_ eW=>bif !(gB eW 0)then some (0,[bq,J (sT (bg dM 0 (gC eW 1)) eH),aw (gR eW 2),.ae 0 (bz (aU (gR eW 3))),J (bm 0 c),.ae 0 EC])else AU (FU CX EE N) N m [eh (As.map dY),iI (ln (As.map dY)),iI (bH ((i:Int)+1)),J (sT (bg dM 0 (gC eW 1)) eH),aw (gR eW 2),.ae 0 (bz (aU (gR eW 3))),J (bm 0 c),.ae 0 EC]) r->
      cq AU [eh (As.map dY),iI (ln (As.map dY)),iI (i:Int),K0 p lf,aw (ba ro),.ae 0 cn,J (bm 0 c),.ae 0 mm] r):=by
      refine⟨_,hm2,λr h=>C r (av ?_)⟩;erw [st.pk];refine ah a1 (bp ?_);show E (λN m=>match dF (aU mm) (cE (kk (gI (gA (As.map dY) ((i:Int).toNat)) 0)))with|some m13=>_|none=>_) r;rw [alU hi,hcu]
      by_cases h0:cur As[i].kind a t e=0
      ·rw [if_pos h0];rw [h0]at h;erw [st.pk];exact h
      ·rw [if_neg h0];have fh:cur As[i].kind a t e<=mx:=by
        unfold cur;split
        ·omega
        ·split<;>omega
       have:bH ((iI ((cur As[i].kind a t e:Nat):Int)).toI +1)=((cur As[i].kind a t e+1:Nat):Int):=by
        show bH (((cur As[i].kind a t e:Nat):Int)+1)=_;simp only [mx]at fh;exact Dz
       rw [<-this]at h;erw [st.pk];exact h
     obtain⟨EC,Pe,CC⟩:=jX;rw [ix hi hl]at CC;cases b with
     |false=>
      refine⟨false,l1,c1,EC,kE,Pe.pk,CC _ (ah e1 (bp (aq ?_))),λh=>aD⟩;erw [kE];rfl
     |true=>
      obtain⟨⟨_,cm⟩,F1⟩:=g1 rfl;obtain⟨b,l2,c2,lz,e2,g2⟩:=hv _ hw l1 c1 _ cm;rw [ua]at e2;cases b with
      |false=>
       refine⟨false,l2,c2,EC,lz,Pe.pk,CC _ (ah e1 (av ?_)),λh=>aD⟩;erw [kE];refine ah e2 (bp (aq ?_));erw [lz];rfl
      |true=>
       obtain⟨⟨_,lL⟩,F2⟩:=g2 rfl;obtain⟨b,l3,c3,m3,Er,pm3,u1,u4⟩:=ih l2 c2 _ lL EC _ _ _ Pe apl;refine⟨b,l3,c3,m3,Er,pm3,CC _ (ah e1 (av ?_)),λh=>⟨(u4 h).1,(u4 h).2.1,λy hy=> ?_⟩⟩
       ·erw [kE];refine ah e2 (av ?_);erw [lz];exact u1
       ·rw [lY hi]at hy;rcases fV.1 hy with rfl|hy
        ·exact⟨F1,F2,q2 rfl,HC⟩
        ·exact(u4 h).2.2 y hy
 intro lf cn cc st;exact k lf cn cc st (bz []) 0 0 0 ⟨Bl,SL,SL,SL⟩ rfl
end
end
end Go.Proofs.B.C
namespace Go.aj
def aaH{p:Prop}(h:p:=by
 refine ah e1 ?_;exact h):p:=h
end Go.aj
namespace Go.aj
def MC:=@Int.add_zero
end Go.aj
namespace Go.Proofs.B.C
open Go Go.aj
section
variable{s0:CS}{f:dU}{lf x:Int}{a e t:Nat}{A D H cn mm:aY}
section
variable {p:PG} {ts:List TK} {ro:List RO}
def Cu(f:dU)(s0:CS)(A:aY):Bool:=bif decide (ln A<1)then false else bif decide (16<ln A)then false else bif !f.els then oa s0 else true
def chC(hc:bz (aU cn)=cn):
 cW WK [K0 p lf,aw (ba ro),.ae 0 cn,SF f [encS s0] D H A]
  (bif Cu f s0 A then(0,[K0 p lf,aw (ba ro),.ae 0 cn,SF f [encS s0] D H A])else(1,[bq,K0 p lf,aw (ba ro),.ae 0 cn,SF f [encS s0] D H A])):=by
 have u0:bg fU 0 (gA [encS s0] 0)=encS s0:=gE s0;have n0:=Ga s0;rw [<-u0]at n0;refine cL as8 ?_;rw [hc];refine aW (c:=decide (ln A<1)) (λa=>aq (by unfold Cu;rw [a];rfl)) λa=>aW (c:=decide (16<ln A)) (λb=>aq (by unfold Cu;rw [a,b];rfl)) λb=>aW (c:= !f.els) (λd=>aA rfl (ah n0 (aW (c:= !oa s0) (λg=>aq ?_) λg=>aq ?_))) λd=>aq ?_
 ·simp only [jF]at g;unfold Cu;rw [a,b,d,g];rfl
 ·simp only [ja]at g;unfold Cu;rw [a,b,d,g];rfl
 ·unfold Cu;rw [a,b,d];rfl
def tb(t:Nat):Int:=if t=0 then 0 else 1
def Ky(els:Bool)(a t e:Nat):Bool:=decide (0<a)&&decide ((e:Int)+tb t+(bif els then 1 else 0)<=1)
def aDs(t:Nat):0<=tb t/\tb t<=1:=by unfold tb;split<;>omega
def aph(h0:0<=x)(U:x<=mx)(hc:bz (aU cn)=cn)(hm:CM mm a t e):
 cW PO [iI x,K0 p lf,aw (ba ro),.ae 0 cn,.ae 0 mm] (0,[iI (x+tb t),K0 p lf,aw (ba ro),.ae 0 cn,.ae 0 mm]):=by
 refine cL asa ?_;rw [hc,hm.pk,hm.f2];have hx:bH (x+1)=x+1:=by simp only [mx]at U;rw [pE (by omega) (by omega)]
 unfold tb
 by_cases h:t=0
 ·rw [if_pos h,if_pos h,MC];exact aH
 ·rw [if_neg h,if_neg h];refine bE (c:=decide (0<(iI (t:Int)).toI)) ?_ (aq (by rw [hx];rfl));show decide (0<(t:Int))=true;exact fB
def apZ{els:Bool}(hc:bz (aU cn)=cn)(hm:CM mm a t e)(hx:x=(e:Int)+tb t)(h0:e<=mx):
 E (λ_ _=>bif els then match dF (aU mm) (cE 1)with|some m22=>(bif decide (0<m22.toI)then some (0,[aJ (decide (bH (x+1)<=1)),K0 p lf,aw (ba ro),.ae 0 cn])else some (0,[bq,K0 p lf,aw (ba ro),.ae 0 cn]))|none=>(some (0,[bq,K0 p lf,aw (ba ro),.ae 0 cn]))else match dF (aU mm) (cE 1)with|some m23=>(bif decide (0<m23.toI)then some (0,[aJ (decide (x<=1)),K0 p lf,aw (ba ro),.ae 0 cn])else some (0,[bq,K0 p lf,aw (ba ro),.ae 0 cn]))|none=>(some (0,[bq,K0 p lf,aw (ba ro),.ae 0 cn])))
  (0,aJ (Ky els a t e)::gW p ro lf cn):=by
 have ht:=aDs t;rw [hm.f1]
 by_cases h:a=0
 ·rw [if_pos h];have:Ky els a t e=false:=by unfold Ky;rw [h];rfl
  rw [this];cases els<;>exact aH
 ·rw [if_neg h];have hd:decide (0<(iI (a:Int)).toI)=true:=by
   show decide (0<(a:Int))=true;exact fB
  have ha:decide (0<a)=true:=fB;simp only [mx]at h0;cases els with
  |true=>
   refine bp (bE hd (aq ?_));have hw:bH (x+1)=(e:Int)+tb t+1:=by rw [pE (by omega) (by omega),hx]
   unfold Ky;rw [ha,hw];rfl
  |false=>
   refine av (bE hd (aq ?_));unfold Ky;rw [ha,hx,cf,MC];rfl
def aB8(h:Cu f s0 A=true)(he:f.els=false):oa s0=true:=by
 unfold Cu at h;rw [he]at h;cases a:decide (ln A<1)with
 |true=>rw [a]at h;cases h
 |false=>
  cases b:decide (16<ln A)with
  |true=>rw [a,b]at h;cases h
  |false=>rw [a,b]at h;exact h
def chE{F:CS->Prop}(ct:CT p ts ro)(hE:pM){c:WH}(hw:WI p c)(h3:(c.qS.length:Int)+1<=c.deep){As:List CA}(hl:As.length<=mx)(hx:∀x∈As,x.og)(k0:ox p ts ro F s0)(hk:∀x∈As,ox p ts ro F x.body/\ox p ts ro F x.after){cc:Int->Nat}(st:ST p lf cn cc):∃b eG cy,bz (aU cy)=cy/\
 Ev LA [J (bm 0 c),SF f [encS s0] D H (As.map dY),K0 p lf,aw (ba ro),.ae 0 cn] (0,aJ b::gW p ro eG cy)/\(b=true->(∃d,ST p eG cy d)/\F s0/\(∀x∈As,F x.body/\F x.after/\iQ p.aR x.guard/\Ec p.aR x)/\(f.els=false->oa s0=true)):=by
 have u0:bg fU 0 (gA [encS s0] 0)=encS s0:=gE s0;have a1:=chC (p:=p) (ro:=ro) (f:=f) (s0:=s0) (D:=D) (H:=H) (A:=As.map dY) (lf:=lf) st.pk;have C:∀r:UO,_->Ev LA [J (bm 0 c),SF f [encS s0] D H (As.map dY),K0 p lf,aw (ba ro),.ae 0 cn] r:=λr h=>by
  refine bh aul ?_;rw [st.pk];refine ah a1 ?_;exact h
 cases hb:Cu f s0 (As.map dY)with
 |false=>
  rw [hb]at C;refine⟨false,lf,cn,st.pk,C _ (av (aq ?_)),λh=>aD⟩;erw [st.pk];rfl
 |true=>
  rw [hb]at C;simp only [bU]at C;have wq:WI p (rq c):=hw.of rfl (.inl (Dv)) rfl hw.l1 hw.l2 hw.l3 hw.l5 rfl;obtain⟨b,l1,c1,kE,e1,g1⟩:=k0 (rq c) wq lf cn cc st;rw [<-u0]at e1;have C2:∀r:UO,_->Ev LA [J (bm 0 c),SF f [encS s0] D H (As.map dY),K0 p lf,aw (ba ro),.ae 0 cn] r:=λr h=>by
   refine C r (bp (aA rfl ?_));erw [st.pk];exact aaH
  cases b with
  |false=>
   refine⟨false,l1,c1,kE,C2 _ (bp (aq ?_)),λh=>aD⟩;erw [kE];rfl
  |true=>
   obtain⟨⟨_,cm⟩,F0⟩:=g1 rfl;obtain⟨b,l2,c2,mm,lz,pm2,e2,g2⟩:=aDY ct hE (c:=rq c) wq h3 hl hx hk l1 c1 _ cm;cases b with
   |false=>
    refine⟨false,l2,c2,lz,C2 _ (av ?_),λh=>aD⟩
    ·erw [kE];refine ah e2.diag (bp (aq ?_));erw [lz];rfl
   |true=>
    obtain⟨s3,⟨a,t,e,hm,apl⟩,F1⟩:=g2 rfl;refine⟨Ky f.els a t e,l2,c2,lz,C2 _ (av ?_),λ_=>⟨s3,F0,F1,aB8 hb⟩⟩;erw [kE];refine ah e2.diag (av ?_);have Hv:e<=mx:=by omega
    show E (λN m=>match dF (aU mm) (cE 4)with|some m13=>_|none=>_) _;rw [hm.f4]
    by_cases h0:e=0
    ·rw [if_pos h0];have j:=aph (p:=p) (ro:=ro) (x:=0) (by omega) (SJ) (lf:=l2) lz hm;erw [lz,hm.pk];refine ah j ?_;erw [lz];exact apZ (els:=f.els) lz hm (x:=0+tb t) (by rw [h0];rfl) Hv
    ·rw [if_neg h0];have j:=aph (p:=p) (ro:=ro) (x:=(e:Int)) (by omega) (by simp only [mx]at Hv⊢;omega) (lf:=l2) lz hm;erw [lz,hm.pk];refine ah j ?_;erw [lz];exact apZ (els:=f.els) lz hm (x:=(e:Int)+tb t) rfl Hv
end
end
section
variable{b:Bool}{f:dU}{lf eG:Int}{Ls:List CS}{i:Nat}{ctx:Nat->WH}{c:WH}{cn cy:aY}
section
variable {p:PG} {ts:List TK} {ro:List RO}
def YN(hf:f.Ok){L D H A:aY}(hD:D.length<=mx)(hH:H.length<=mx)(h:w8 f L D H A=true):(f.kind≠9->D=[]/\H=[])/\(f.kind≠19->A=[]):=by
 unfold w8 at h;simp only [bw]at h;have ht:=h.2.2;obtain⟨_,m2,m3,_,_⟩:=ao2 f.kind;unfold Oy at ht;rw [m2,m3,w2 hD hH,l0 (a:=A)]at ht;simp only [bw]at ht;refine⟨λk=> ?_,λk=> ?_⟩
 ·have:=ht.2.2.1;rw [show(f.kind==9)=false by simpa using k]at this;exact sI
 ·have:=ht.2.2.2;rw [show(f.kind==19)=false by simpa using k]at this;exact sI
structure WJ(p:PG)(c:WH):Prop where
 wi:WI p c
 l1:(c.marks.length:Int)+1<=c.deep
 l2:(c.tq.length:Int)+1<=c.deep
 l3:(c.qS.length:Int)+1<=c.deep
 l4:(c.mZ.length:Int)+1<=c.deep
 l5:(c.loops.length:Int)+1<=c.deep
def vW(w:WH):WH:={w with deep:=bH (w.deep+1)}
def WI.aDa{w:WH}(h:WI p w)(hd:w.deep<64):WJ p (vW w):=by
 have U:=h.l1;have h2:=h.l2;have h3:=h.l3;have h4:=h.l4;have h5:=h.l5;have e:(vW w).deep =w.deep+1:=by show bH (w.deep+1)=_;rw [pE (by omega) (by omega)]
 have m:(vW w).marks =w.marks:=rfl;have a:(vW w).tq =w.tq:=rfl;have b:(vW w).qS =w.qS:=rfl;have d:(vW w).mZ =w.mZ:=rfl;have l:(vW w).loops =w.loops:=rfl;refine⟨⟨⟨h.gv.B6,h.gv.act,h.gv.task⟩,?_,?_,?_,?_,?_,?_⟩,?_,?_,?_,?_,?_⟩<;>(try rw [m])<;>(try rw [a])<;>(try rw [b])<;>(try rw [d])<;>(try rw [l])<;>rw [e]<;>omega
def cJ(c:WH)(f:dU):WH:=bif f.kind==7 then{c with marks:=c.marks++[f.N],tq:=c.tq++[f.N]}else bif f.kind==6 then{c with loops:=c.loops++[f.O]}else c
def cK(c:WH)(f:dU):WH:=bif f.kind==16 then rq c else cJ c f
def UK(h7:f.kind≠7)(h6:f.kind≠6):cJ c f=c:=by
 have a:(f.kind==7)=false:=by simpa using h7
 have b:(f.kind==6)=false:=by simpa using h6
 unfold cJ;rw [a,b];rfl
def WI.rq{w:WH}(h:WI p w):WI p (rq w):=h.of rfl (.inl (Dv)) rfl h.l1 h.l2 h.l3 h.l5 rfl
def WJ.cJ{c:WH}(h:WJ p c)(f:dU):WI p (cJ c f):=by
 unfold B.C.cJ;cases h7:f.kind==7 with
 |true=>
  refine h.wi.of rfl (.inr rfl) rfl ?_ ?_ h.wi.l3 h.wi.l5 rfl
  ·have:=h.l1;show((c.marks++[f.N]).length :Int)<=c.deep;simp;omega
  ·have:=h.l2;show((c.tq++[f.N]).length :Int)<=c.deep;simp;omega
 |false=>
  cases h6:f.kind==6 with
  |true=>
   refine h.wi.of rfl (.inr rfl) rfl h.wi.l1 h.wi.l2 h.wi.l3 ?_ rfl;have:=h.l5;show((c.loops++[f.O]).length :Int)<=c.deep;simp;omega
  |false=>exact h.wi
def WJ.acc(h:WJ p c){e:Int}(he:qf p c.task e=true):WI p (Ar c e):=by
 have sk:(0:Int)<=c.deep:=by have:=h.l1;omega
 refine⟨⟨.inr he,h.wi.gv.act,h.wi.gv.task⟩,?_,h.wi.l2,?_,h.wi.l4,h.wi.l5,h.wi.d⟩
 ·simpa [Ar,mr]using sk
 ·simpa [Ar,mr]using h.l3
def WJ.act{c:WH}(h:WJ p c){q:Int}(hq:ib q p.c5.length=true):WI p (GW c q):=by
 have sk:(0:Int)<=c.deep:=by have:=h.l1;omega
 refine⟨⟨.inl (Dv),?_,h.wi.gv.task⟩,?_,h.wi.l2,h.wi.l3,?_,h.wi.l5,h.wi.d⟩
 ·intro a ha;rcases mE.1 (show a∈c.mZ++[q]from ha)with ha|ha
  ·exact h.wi.gv.act a ha
  ·simp at ha;subst ha;exact hq
 ·simpa [GW,mr]using sk
 ·simpa [GW,mr]using h.l4
def wiD(h:WJ p c)(ha:f.kind=18->qf p c.task f.entry=true)(hp:f.kind=17∨f.kind=20->ib f.P p.c5.length=true)(i:Nat):WI p (su (B.C.cJ c f) f (i:Nat)):=by
 have U:WI p (E6 (B.C.cJ c f) f (i:Nat)):=by
  unfold E6;cases hb:aB f (i:Nat)with
  |true=>
   have hk:f.kind=17∨f.kind=20:=by
    unfold aB at hb;cases h0:((i:Nat):Int)==0 with
    |false=>rw [h0]at hb;cases hb
    |true=>
     rw [h0]at hb;cases sr:f.kind==20 with
     |true=>exact .inr (eq_of_beq sr)
     |false=>rw [sr]at hb;exact .inl (eq_of_beq hb)
   rw [UK (by rcases hk with h|h<;>omega) (by rcases hk with h|h<;>omega)];exact h.act (hp hk)
  |false=>
   show WI p (Po (B.C.cJ c f) f (i:Nat));unfold Po;cases h0:((i:Nat):Int)==0 with
   |false=>exact h.cJ f
   |true=>
    cases tY:f.kind==18 with
    |false=>exact h.cJ f
    |true=>
     have hk:=eq_of_beq tY;rw [UK (by omega) (by omega)];exact h.acc (ha hk)
 unfold su;cases qB f (i:Nat)with
 |true=>exact U.rq
 |false=>exact U
def aEG(h7:f.kind≠17)(h8:f.kind≠18)(sr:f.kind≠20)(i:Int):su (B.C.cJ c f) f i=cK c f:=by
 have a:(f.kind==17)=false:=by simpa using h7
 have b:(f.kind==18)=false:=by simpa using h8
 have d:(f.kind==20)=false:=by simpa using sr
 unfold su qB E6 aB Po cK;rw [a,b,d];cases lv:f.kind==16 with
 |true=>
  have hk:=eq_of_beq lv;rw [UK (by omega) (by omega)];cases i==0<;>rfl
 |false=>cases i==0<;>rfl
def CR.inv(h:CR p ro ctx Ls i lf cn b eG cy)(hi:i<Ls.length):
 (b=false/\Ev mU [J (bm 0 (ctx i)),J (encS Ls[i]),K0 p lf,aw (ba ro),.ae 0 cn] (0,bq::gW p ro eG cy))∨
 ∃l1 c1,bz (aU c1)=c1/\Ev mU [J (bm 0 (ctx i)),J (encS Ls[i]),K0 p lf,aw (ba ro),.ae 0 cn] (0,fF::gW p ro l1 c1)/\CR p ro ctx Ls (i+1) l1 c1 b eG cy:=by
 cases h with
 |done _ h=>omega
 |no _ h _ _ pk _ _ n8 e=>exact .inl ⟨rfl,e⟩
 |yes _ h _ _ pk l1 c1 kE e _ _ _ t=>exact .inr ⟨l1,c1,kE,e,t⟩
def CR.stop(h:CR p ro ctx Ls i lf cn b eG cy)(hi:i=Ls.length):b=true/\eG=lf/\cy=cn:=by
 cases h with
 |done _ h=>exact⟨rfl,rfl,rfl⟩
 |no _ h=>omega
 |yes _ h=>omega
end
structure Fact(p:PG)(s:CS):Prop where
 sh:w8 s.f (s.L.map encS) (s.D.map fC) (s.H.map dH) (s.A.map dY)=true
 rt:∃w,K8 p w s.f s.L
 al:s.f.kind=19->(∀x∈s.A,iQ p.aR x.guard/\Ec p.aR x)/\(s.f.els=false->∀y∈s.L,oa y=true)
inductive vI(p:PG):CS->Prop
 |mk(s:CS)(h:Fact p s)(hk:∀y∈s.kids,vI p y):vI p s
end
end Go.Proofs.B.C
namespace Go.aj
def xJ{p:Prop}(h:p:=by rw [hk];rfl):p:=h
def Jn{p:Prop}(h:p:=by rw [fM];simp;omega):p:=h
def S4{p:Prop}(h:p:=by unfold su qB E6 aB Po;rw [hk];rfl):p:=h
def S3{p:Prop}(h:p:=by
 refine ah e (aq ?_);erw [n8];rfl):p:=h
def akY{p:Prop}(h:p:=by
 rw [x0,ul 0 g0]at e;refine C1 _ (ah e (av (aq ?_)));erw [n8];rfl):p:=h
def ajx{p:Prop}(h:p:=by
 refine C1 _ (ah e (aq ?_));erw [n8];rfl):p:=h
end Go.aj
namespace Go.Proofs.B.C
open Go Go.aj
section
variable{f:dU}{lf:Int}{Ls:List CS}{c:WH}{A D H cn:aY}
section
variable {p:PG} {ts:List TK} {ro:List RO}
def am9{k l:Int}(h:l=Hj k l):(k=9->l=1)/\(k=19->l=1)/\(k=18->l=2)/\(k=20->l=1)/\(k=17->l=3):=by
 refine⟨?_,?_,?_,?_,?_⟩<;>(rintro rfl;exact h)
def aFa(ct:CT p ts ro)(hE:pM){w:WH}(hw:WI p w)(hf:f.Ok)(hD:D.length<=mx)(hH:H.length<=mx){l1:Int}(ko:(l1<0 ↔ lf<1))(hc:bz (aU cn)=cn):∃b,
 cW Ly [K0 p l1,aw (ba ro),.ae 0 cn,J (bm 0 w),SF f (Ls.map encS) D H A] (bif b then(0,[K0 p l1,aw (ba ro),.ae 0 cn,J (bm 0 w),SF f (Ls.map encS) D H A])else(1,[bq,K0 p l1,aw (ba ro),.ae 0 cn,J (bm 0 w),SF f (Ls.map encS) D H A]))/\
 (b=true->1<=lf/\w.deep<64/\w8 f (Ls.map encS) D H A=true/\K8 p w f Ls):=by
 have C:∀r:UO,_->cW Ly [K0 p l1,aw (ba ro),.ae 0 cn,J (bm 0 w),SF f (Ls.map encS) D H A] r:=λr h=>by
  refine cL atz ?_;rw [hc];exact h
 cases h0:decide (lf<1)with
 |true=>
  have KU:decide (l1<0)=true:=by simp at h0⊢;exact ko.2 h0
  exact⟨false,C _ (bE (c:=decide (l1<0)) KU aH),λh=>aD⟩
 |false=>
  have KU:decide (l1<0)=false:=by simp at h0⊢;omega
  cases hd:decide (64<=w.deep)with
  |true=>exact⟨false,C _ (az (c:=decide (l1<0)) KU (bE hd aH)),λh=>aD⟩
  |false=>
   have s1:Ev Q3 [SF f (Ls.map encS) D H A] (0,[aJ (w8 f (Ls.map encS) D H A)]):=shC f (Ls.map encS) D H A;cases hs:w8 f (Ls.map encS) D H A with
   |false=>
    rw [hs]at s1;exact⟨false,C _ (az (c:=decide (l1<0)) KU (az hd (ah s1 (bp aH)))),λh=>aD⟩
   |true=>
    rw [hs]at s1;have t1:=stC (p:=p) (ro:=ro) (w:=w) (f:=f) (L:=Ls.map encS) (D:=D) (H:=H) (A:=A) (lf:=l1) hc;cases ht:vK w f with
    |false=>
     rw [ht]at t1;refine⟨false,C _ (az (c:=decide (l1<0)) KU (az hd (ah s1 (av (ah t1 (bp (aq ?_))))))),λh=>aD⟩;exact oW
    |true=>
     rw [ht]at t1;obtain⟨b,r1,q⟩:=aCt ct hw.ok hw.gv hc (lf:=l1) hE hf hs;have C2:∀r:UO,_->cW Ly [K0 p l1,aw (ba ro),.ae 0 cn,J (bm 0 w),SF f (Ls.map encS) D H A] r:=λr h=>by
      refine C r (az (c:=decide (l1<0)) KU (az hd (ah s1 (av (ah t1 (av ?_))))));erw [hc];refine ah r1 ?_;exact h
     cases b with
     |false=>refine⟨false,C2 _ (bp (aq ?_)),λh=>aD⟩;erw [hc];rfl
     |true=>
      refine⟨true,C2 _ (av (aq ?_)),λ_=>⟨by simp at h0;omega,by simp at hd;omega,rfl,q rfl⟩⟩;exact oW
def aFk(hw:c.Ok){L:aY}(hc:bz (aU cn)=cn)(h9:f.kind≠9)(kp:f.kind≠19)(qp:f.kind≠17)(tY:f.kind≠18)(sr:f.kind≠20):
 cW zw [K0 p lf,aw (ba ro),.ae 0 cn,J (bm 0 c),SF f L D H A] (0,[K0 p lf,aw (ba ro),.ae 0 cn,J (bm 0 (cK c f)),SF f L D H A]):=by
 have a9:(f.kind==9)=false:=by simpa using h9
 have a19:(f.kind==19)=false:=by simpa using kp
 have a17:(f.kind==17)=false:=by simpa using qp
 have a18:(f.kind==18)=false:=by simpa using tY
 have a20:(f.kind==20)=false:=by simpa using sr
 refine cL PS ?_;rw [hc];refine az a9 (az a19 (az a18 (az a20 (az a17 (aW (c:=f.kind==16) (λh=>aq ?_) λh=>aW (c:=f.kind==7) (λg=>ah (Nr (l:=c.marks) f.N hw.marks) (ah (Nr (l:=c.tq) f.N hw.tq) (aq ?_))) λg=>aW (c:=f.kind==6) (λi=>ah (Nr (l:=c.loops) f.O hw.loops) (aq ?_)) λi=>aq ?_)))))
 ·unfold cK;rw [h];rfl
 ·unfold cK cJ;rw [h,g];rfl
 ·unfold cK cJ;rw [h,g,i];rfl
 ·unfold cK cJ;rw [h,g,i];rfl
def aFj(hw:c.Ok)(hk:f.kind=17∨f.kind=18∨f.kind=20)(EU:ln (Ls.map encS)=Hj f.kind (ln (Ls.map encS))){b:Bool}{eG:Int}{cy:aY}(h:CR p ro (λi=>su c f (i:Nat)) Ls 0 lf cn b eG cy):
 cW zw [K0 p lf,aw (ba ro),.ae 0 cn,J (bm 0 c),SF f (Ls.map encS) D H A] (1,[aJ b,K0 p eG,aw (ba ro),.ae 0 cy,J (bm 0 c),SF f (Ls.map encS) D H A]):=by
 obtain⟨hc,n8⟩:=h.pk;obtain⟨_,_,OP,k20,za⟩:=am9 EU;have C:∀r:UO,_->cW zw [K0 p lf,aw (ba ro),.ae 0 cn,J (bm 0 c),SF f (Ls.map encS) D H A] r:=λr h=>by
  refine cL PS ?_;rw [hc];exact h
 have ul:∀(i:Nat) (hi:i<Ls.length),encS Ls[i]=bg fU 0 (gA (Ls.map encS) i):=λi hi=>by rw [xL hi,gE]
 rcases hk with hk|hk|hk
 ·have hL:=za hk;rw [fM]at hL;have g0:0<Ls.length:=by omega
  have g1:1<Ls.length:=by omega
  have g2:2<Ls.length:=by omega
  have dl:∀n:Int,n<3->decide (n<ln (Ls.map encS))=true:=λn hn=>Jn;have x0:su c f ((0:Nat):Int)=GW c f.P:=by unfold su qB E6 aB;rw [hk];rfl
  have x1:su c f ((1:Nat):Int)=rq c:=S4;have x2:su c f ((2:Nat):Int)=rq c:=S4;have C1:∀r:UO,_->cW zw [K0 p lf,aw (ba ro),.ae 0 cn,J (bm 0 c),SF f (Ls.map encS) D H A] r:=λr h=>by
   refine C r (az (c:=f.kind==9) (xJ) (az (c:=f.kind==19) (xJ) (az (c:=f.kind==18) (xJ) (az (c:=f.kind==20) (xJ) (bE (c:=f.kind==17) (xJ) (ah (ap9 (lf:=lf) hw hc f.P) (aA (dl 0 (bM)) ?_)))))));exact Jf
  rcases h.inv g0 with⟨rfl,e⟩|⟨l1,c1,kE,e,t⟩
  ·exact akY
  ·rw [x0,ul 0 g0]at e;refine C1 _ (ah e (bp (aA (dl 1 (bM)) ?_)));erw [kE];rcases t.inv g1 with⟨rfl,e⟩|⟨l2,c2,lz,e,t⟩
   ·rw [x1,ul 1 g1]at e;refine ah e (av (aq ?_));erw [n8];rfl
   ·rw [x1,ul 1 g1]at e;refine ah e (bp (aA (dl 2 (bM)) ?_));erw [lz];rcases t.inv g2 with⟨rfl,e⟩|⟨l3,c3,Er,e,t⟩
    ·rw [x2,ul 2 g2]at e;exact S3
    ·rw [x2,ul 2 g2]at e;obtain⟨rfl,rfl,rfl⟩:=t.stop (by omega);exact S3
 ·have hL:=OP hk;rw [fM]at hL;have g0:0<Ls.length:=by omega
  have g1:1<Ls.length:=by omega
  have dl:∀n:Int,n<2->decide (n<ln (Ls.map encS))=true:=λn hn=>Jn;have x0:su c f ((0:Nat):Int)=Ar c f.entry:=S4;have x1:su c f ((1:Nat):Int)=rq c:=S4;have C1:∀r:UO,_->cW zw [K0 p lf,aw (ba ro),.ae 0 cn,J (bm 0 c),SF f (Ls.map encS) D H A] r:=λr h=>by
   refine C r (az (c:=f.kind==9) (xJ) (az (c:=f.kind==19) (xJ) (bE (c:=f.kind==18) (xJ) (ah (aqa (lf:=lf) hw hc f.entry) (aA (dl 0 (bM)) ?_)))));exact Jf
  rcases h.inv g0 with⟨rfl,e⟩|⟨l1,c1,kE,e,t⟩
  ·exact akY
  ·rw [x0,ul 0 g0]at e;refine C1 _ (ah e (bp (aA (dl 1 (bM)) ?_)));erw [kE];rcases t.inv g1 with⟨rfl,e⟩|⟨l2,c2,lz,e,t⟩
   ·rw [x1,ul 1 g1]at e;exact S3
   ·rw [x1,ul 1 g1]at e;obtain⟨rfl,rfl,rfl⟩:=t.stop (by omega);exact S3
 ·have hL:=k20 hk;rw [fM]at hL;have g0:0<Ls.length:=by omega
  have dl:∀n:Int,n<1->decide (n<ln (Ls.map encS))=true:=λn hn=>Jn;have x0:su c f ((0:Nat):Int)=GW c f.P:=by unfold su qB E6 aB;rw [hk];rfl
  have C1:∀r:UO,_->cW zw [K0 p lf,aw (ba ro),.ae 0 cn,J (bm 0 c),SF f (Ls.map encS) D H A] r:=λr h=>by
   refine C r (az (c:=f.kind==9) (xJ) (az (c:=f.kind==19) (xJ) (az (c:=f.kind==18) (xJ) (bE (c:=f.kind==20) (xJ) (ah (ap9 (lf:=lf) hw hc f.P) (aA (dl 0 (bM)) ?_))))));exact Jf
  rcases h.inv g0 with⟨rfl,e⟩|⟨l1,c1,kE,e,t⟩
  ·rw [x0,ul 0 g0]at e;exact ajx
  ·rw [x0,ul 0 g0]at e;obtain⟨rfl,rfl,rfl⟩:=t.stop (by omega);exact ajx
end
end
end Go.Proofs.B.C
namespace Go.aj
def aa9{p:Prop}(h:p:=by
 refine ah j (av (aq ?_));erw [n8];rfl):p:=h
def aaQ{p:Prop}(h:p:=by rw [fY];exact hD):p:=h
def aaP{p:Prop}(h:p:=by rw [fY];exact hH):p:=h
end Go.aj
namespace Go.Proofs.B.C
open Go Go.aj
section
variable {p:PG} {ts:List TK} {ro:List RO}
def stE(ct:CT p ts ro)(hE:pM):∀s:CS,s.Ok->ox p ts ro (vI p) s:=by
 refine CS.ind λs ih bB=> ?_;have aLR:=bB;obtain⟨_,hf,hL,hD,hH,hA,U,h2,uA⟩:=bB;have kL:∀y∈s.L,ox p ts ro (vI p) y:=λy hy=>ih y (yR hy) (uA y (yR hy));have kD:∀d∈s.D,ox p ts ro (vI p) d.d/\ox p ts ro (vI p) d.u:=λd hd=>⟨ih _ (wU hd).1 (uA _ (wU hd).1),ih _ (wU hd).2 (uA _ (wU hd).2)⟩;have kH:∀x∈s.H,ox p ts ro (vI p) x.body:=λx hx=>ih _ (GI hx) (uA _ (GI hx));have kA:∀x∈s.A,ox p ts ro (vI p) x.body/\ox p ts ro (vI p) x.after:=λx hx=>⟨ih _ (wV hx).1 (uA _ (wV hx).1),ih _ (wV hx).2 (uA _ (wV hx).2)⟩;intro w hw lf cn cc st;have OU:bH (lf- 1)=lf- 1:=by have:=st.lo;have:=st.hi;rw [pE (by omega) (by omega)]
 have ko:(bH (lf- 1)<0 ↔ lf<1):=by rw [OU];omega
 have lD:(s.D.map fC).length <=mx:=aaQ;have lH:(s.H.map dH).length <=mx:=aaP;obtain⟨b,e1,q1⟩:=aFa ct hE hw hf (Ls:=s.L) (D:=s.D.map fC) (H:=s.H.map dH) (A:=s.A.map dY) lD lH (lf:=lf) ko st.pk;have es:=xI s;have C:∀r:UO,_->Ev mU [J (bm 0 w),J (encS s),K0 p lf,aw (ba ro),.ae 0 cn] r:=λr h=>by
  rw [es];refine bh avo ?_;rw [st.pk];exact aaH
 cases b with
 |false=>
  refine⟨false,bH (lf- 1),cn,st.pk,C _ (av (aq ?_)),λh=>aD⟩;erw [st.pk];rfl
 |true=>
  obtain⟨q2,q3,q4,q5⟩:=q1 rfl;obtain⟨n9,py⟩:=YN hf lD lH q4;have fkd:s.f.kind≠9->s.D=[]/\s.H=[]:=λk=>by
   obtain⟨a,b⟩:=n9 k;exact⟨e8.1 a,e8.1 b⟩
  have fka:s.f.kind≠19->s.A=[]:=λk=>e8.1 (py k);have fac:s.f.kind≠19->Fact p s:=λk=>⟨q4,⟨w,q5⟩,λh=>absurd h k⟩;have hlen:=ZT s.f (s.L.map encS) (s.D.map fC) (s.H.map dH) (s.A.map dY) q4;obtain⟨l9,U7,_⟩:=am9 hlen.2.2;have hj:=hw.aDa q3;have Va:=hj.wi;have cm:ST p (bH (lf- 1)) cn cc:=⟨st.pk,st.rep,λt=>by have:=st.le t;omega,by omega,by have:=st.hi;omega,st.n7⟩
  by_cases k9:s.f.kind=9
  ·obtain⟨s0,h0⟩:=zT (l9 k9);have Vu:=fka (by omega);have hL0:s.L.map encS=[encS s0]:=by rw [h0];rfl
   rw [hL0]at C;obtain⟨b,l',c',n8,a1,a3⟩:=aLy ct Va hf (A:=s.A.map dY) hD hH (by have:=hj.l1;omega) (λx hx=>(U x hx).dP) (kL s0 (by rw [h0];simp)) kD kH cm (λt=>by have:=st.le t;omega);refine⟨b,l',c',n8,C _ (bp ?_),λh=> ?_⟩
   ·erw [st.pk];have j:cW zw [K0 p (bH (lf- 1)),aw (ba ro),.ae 0 cn,J (bm 0 (vW w)),SF s.f [encS s0] (s.D.map fC) (s.H.map dH) (s.A.map dY)] (1,[aJ b,K0 p l',aw (ba ro),.ae 0 c',J (bm 0 (vW w)),SF s.f [encS s0] (s.D.map fC) (s.H.map dH) (s.A.map dY)]):=by
     refine cL PS ?_;rw [st.pk];refine bE (c:=s.f.kind==9) (by rw [k9];rfl) (ah a1 (aq ?_));erw [n8];rfl
    exact aa9
   ·obtain⟨sd,f0,fD,fH⟩:=a3 h;refine⟨sd,.mk s (fac (by omega)) λy hy=> ?_⟩;simp only [CS.kids,mE,zG,xA,fV,pY,pX,h0,Vu]at hy;rcases hy with⟨d,hd,rfl|rfl⟩|rfl|⟨x,hx,rfl⟩|⟨a,ha,_⟩
    ·exact(fD d hd).1
    ·exact(fD d hd).2
    ·exact f0
    ·exact fH x hx
    ·cases ha
  ·obtain⟨hD0,hH0⟩:=fkd k9
   by_cases ql:s.f.kind=19
   ·obtain⟨s0,h0⟩:=zT (U7 ql);have hL0:s.L.map encS=[encS s0]:=by rw [h0];rfl
    rw [hL0]at C;obtain⟨b,l',c',n8,a1,a3⟩:=chE ct hE Va hj.l3 (f:=s.f) (D:=s.D.map fC) (H:=s.H.map dH) hA h2 (kL s0 (by rw [h0];simp)) kA cm;refine⟨b,l',c',n8,C _ (bp ?_),λh=>⟨(a3 h).1,.mk s ⟨q4,⟨w,q5⟩,λ_=>⟨λx hx=>((a3 h).2.2.1 x hx).2.2,λhe y hy=>by rw [h0]at hy;rw [my.1 hy];exact(a3 h).2.2.2 he⟩⟩ λy hy=> ?_⟩⟩
    ·erw [st.pk];have j:cW zw [K0 p (bH (lf- 1)),aw (ba ro),.ae 0 cn,J (bm 0 (vW w)),SF s.f [encS s0] (s.D.map fC) (s.H.map dH) (s.A.map dY)] (1,[aJ b,K0 p l',aw (ba ro),.ae 0 c',J (bm 0 (vW w)),SF s.f [encS s0] (s.D.map fC) (s.H.map dH) (s.A.map dY)]):=by
      refine cL PS ?_;rw [st.pk];refine az (c:=s.f.kind==9) (by rw [ql];rfl) (bE (c:=s.f.kind==19) (by rw [ql];rfl) (ah a1 (aq ?_)));erw [n8];rfl
     exact aa9
    ·obtain⟨_,f0,fA,_⟩:=a3 h;simp only [CS.kids,mE,zG,xA,fV,pY,pX,h0,hD0,hH0]at hy;rcases hy with⟨d,hd,_⟩|rfl|⟨x,hx,_⟩|⟨a,ha,rfl|rfl⟩
     ·cases hd
     ·exact f0
     ·cases hx
     ·exact(fA a ha).1
     ·exact(fA a ha).2.1
   ·have Vu:=fka ql;have hx:∀i,i<s.L.length->WI p (su (cJ (vW w) s.f) s.f (i:Nat)):=λi _=>wiD hj q5.OP q5.kP i;obtain⟨b,l',c',n8,cr,a3⟩:=aDV (c:=cJ (vW w) s.f) (f:=s.f) kL hx (bH (lf- 1)) cn cc cm;refine⟨b,l',c',n8,C _ (bp ?_),λh=> ?_⟩
    ·erw [st.pk]
     by_cases hk:s.f.kind=17∨s.f.kind=18∨s.f.kind=20
     ·rw [UK (by omega) (by omega)]at cr;have j:=aFj (p:=p) (ro:=ro) Va.ok (D:=s.D.map fC) (H:=s.H.map dH) (A:=s.A.map dY) hk hlen.2.2 cr;exact aa9
     ·have j:=aFk (p:=p) (ro:=ro) Va.ok (f:=s.f) (L:=s.L.map encS) (D:=s.D.map fC) (H:=s.H.map dH) (A:=s.A.map dY) (lf:=bH (lf- 1)) st.pk k9 ql (by omega) (by omega) (by omega);refine ah j (bp ?_);erw [st.pk];refine ah (aEI (w:=cK (vW w) s.f) (λi=>aEG (by omega) (by omega) (by omega) _) hL cr) (aq ?_);erw [n8];cases b<;>rfl
    ·obtain⟨sd,fL⟩:=a3 h;refine⟨sd,.mk s (fac ql) λy hy=> ?_⟩;simp only [CS.kids,mE,zG,xA,fV,pY,pX,Vu,hD0,hH0]at hy;rcases hy with⟨d,hd,_⟩|hy|⟨x,hx,_⟩|⟨a,ha,_⟩
     ·cases hd
     ·exact fL y hy
     ·cases hx
     ·cases ha
end
end Go.Proofs.B.C
namespace Go.aj
def Mq:=@List.pairwise_iff_getElem
end Go.aj
namespace Go.Proofs.B.C
open Go Go.aj
section
variable{lo x:Int}{o:OB}
theorem aBe{l:bQ}{hi:Int}(h:qG l lo hi=true){i:Nat}(ca:i<l.length):yN l lo hi i=false:=by
 unfold qG at h;exact akS
theorem azc{l:bQ}{up:Int}(h:qG l lo up=true):l.Nodup:=by
 have hd:∀{i:Nat} (hi:i<l.length),l.getD i 0=l[i]:=λhi=>Gf;have step:∀(i:Nat) (hi:i+1<l.length),l[i]<l[i+1]:=λi hi=>by
  have hp:=aBe h hi;unfold yN at hp;rw [hd hi]at hp;cases ha:decide (l[i+1]<lo)with
  |true=>rw [ha]at hp;cases hp
  |false=>
   cases hb:decide (up<l[i+1])with
   |true=>rw [ha,hb]at hp;cases hp
   |false=>
    rw [ha,hb,show decide (0<i+1)=true by simp]at hp;rw [show i+1- 1=i from rfl,hd (by omega)]at hp;simpa using hp
 have lt:∀(j i:Nat) (hj:j<l.length) (tW:i<j),l[i]'(by omega)<l[j]:=by
  intro j
  induction j with
  |zero=>intro i _ h;omega
  |succ j ih=>
   intro i hj tW;have s:=step j hj
   by_cases e:i=j
   ·subst e;exact s
   ·have:=ih i (by omega) (by omega);omega
 refine Mq.2 λi j hi hj tW e=> ?_;have:=lt j i hj tW;omega
def Kz(o:OB):Bool:=bif decide (o.size<1)then false else !decide (16384<o.size)
def AB(o:OB):Bool:=bif decide (0<ln (ints o.set))then false else bif decide (o.lo< -2147483648)then false else bif decide (2147483647<o.hi)then false else !decide (o.hi<o.lo)
def xf(l:List OB)(o:OB):Bool:=bif o.size != 1 then false else bif o.lo != 0 then false else bif o.hi != 0 then false else qG o.set 0 (bH (ln (cz l)- 1))
def Cc(l:List OB)(x:Int):Bool:=bif (fp l x).ptr then true else(fp l x).size != 1
def tQ(l:List OB)(o:OB):Bool:=Kz o&&bif !o.ptr then AB o else xf l o&& !o.set.any (Cc l)
def JV:Int->List OB->Int
 |s,[]=>s
 |s,o::os=>JV (bH (s+o.size)) os
def yO(l:List OB):Bool:=bif decide (ln (cz l)<1)then false else bif decide (2048<ln (cz l))then false else bif l.all (tQ l)then decide (JV 0 l<=16384)else false
section
variable {l:List OB} (hl:l.length<=mx) (ho:∀o∈l,o.Ok)
theorem amv(hl:l.length<=mx)(h:xf l o=true):∀x∈o.set,ib x l.length=true:=by
 intro x hx;unfold xf at h;cases U:o.size != 1 with
 |true=>exact Jd
 |false=>
  cases h2:o.lo != 0 with
  |true=>rw [U,h2]at h;cases h
  |false=>
   cases h3:o.hi != 0 with
   |true=>rw [U,h2,h3]at h;cases h
   |false=>
    rw [U,h2,h3]at h;have:=Zw (show qG o.set 0 (bH (ln (cz l)- 1))=true from h) x hx;simp only [mx]at hl;rw [fM,pE (by omega) (by omega)]at this;exact oX.2 (by omega)
theorem eW(o:OB):cW W1 [J (cg o)] (bif Kz o then(0,[J (cg o)])else(1,[bq,J (cg o)])):=by
 refine cL atG (aW (c:=decide (o.size<1)) (λh=>aq ?_) λh=>aW (c:=decide (16384<o.size)) (λg=>aq ?_) λg=>aq ?_)
 ·unfold Kz;rw [h];rfl
 ·unfold Kz;rw [h,g];rfl
 ·unfold Kz;rw [h,g];rfl
theorem aJ8(hk:o.Ok):cW WO [J [bl (cz l)],J (cg o)] (bif xf l o then(0,[J [bl (cz l)],J (cg o)])else(1,[bq,J [bl (cz l)],J (cg o)])):=by
 refine cL atb (aW (c:=o.size != 1) (λh=>aq ?_) λh=>aW (c:=o.lo != 0) (λg=>aq ?_) λg=>aW (c:=o.hi != 0) (λi=>aq ?_) λi=>ah (Uc 0 (bH (ln (cz l)- 1)) hk) (aW (c:= !qG o.set 0 (bH (ln (cz l)- 1))) (λj=>aq ?_) λj=>aq ?_))
 ·unfold xf;rw [h];rfl
 ·unfold xf;rw [h,g];rfl
 ·unfold xf;rw [h,g,i];rfl
 ·simp only [jF]at j;unfold xf;rw [h,g,i,j];rfl
 ·simp only [ja]at j;unfold xf;rw [h,g,i,j];rfl
theorem ab3(hx:ib x l.length=true):gB (gA (cz l) x.toNat) 3=(fp l x).ptr /\gI (gA (cz l) x.toNat) 0=(fp l x).size :=by rw [vA hx];exact⟨rfl,rfl⟩
theorem aD0(hx:ib x l.length=true):Ev Xy [iI x,J [bl (cz l)]] (0,[aJ (Cc l x),J [bl (cz l)]]):=by
 have iY:ib x (cz l).length =true:=by rw [fY];exact hx
 obtain⟨g1,g2⟩:=ab3 hx;refine bh av7 (aA iY ?_);show E (λ_ _=>bif gB (gA (cz l) x.toNat) 3 then _ else bf _ (some (0,[aJ (gI (gA (cz l) x.toNat) 0 != 1),_]))) _;rw [g1,g2];refine aW (c:=(fp l x).ptr) (λh=>aq ?_) λh=>aA iY (aq ?_)
 ·unfold Cc;rw [h];rfl
 ·unfold Cc;rw [h];rfl
theorem oset(hk:o.Ok)(hr:∀x∈o.set,ib x l.length=true):Ev VU [aM (ints o.set),J [bl (cz l)]] (0,[aJ (o.set.any (Cc l)),J [bl (cz l)]]):=by
 refine NH (l:=o.set) (p:=Cc l) (LF:=λN m=>Li (FU CX EE N) N m [aM (ints o.set),iI (ln (ints o.set)),iI 0,J [bl (cz l)]]) (IX:=λN _=>FU CX EE N VX [aM (ints o.set),J [bl (cz l)]]) (st:=[J [bl (cz l)]]) ?_ ?_ ?_ ?_
 ·refine scan (l:=o.set) (p:=Cc l) (hit:=λi=>(0,[iI (i:Int),J [bl (cz l)]])) (LF:=λi N m=>Li (FU CX EE N) N m [aM (ints o.set),iI (ln (ints o.set)),iI (i:Int),J [bl (cz l)]])
   (bF adI (az eo aH))
   λi hi r h2 h3=>bF adI<|bE (dz hi)<|aA (cb hi)<|by
    have hd:o.set.getD i 0=o.set[i]:=Gf;rw [wF hi,ix hi hk,hd];exact ah (aD0 (hr _ (ei hi))) (aW (λhc=>aq (h2 hc)) h3)
 ·exact λi h=>bh ad5 (ah h.diag (bp aH))
 ·exact λh=>bh ad5 (ah h.diag (av aH))
 ·exact λi h=>bh aqM (ah h aH)
include hl ho in
theorem aD2:cq Fg [iI 0,bl (cz l),iI (ln (cz l)),iI 0,J [bl (cz l)]] (bif l.all (tQ l)then(1,[iI (JV 0 l),J [bl (cz l)]])else(0,[bq,J [bl (cz l)]])):=by
 have k:=ku (m:=l.length) (P:=λi=>∀s,cq Fg [iI s,bl (cz l),iI (ln (cz l)),iI (i:Int),J [bl (cz l)]] (bif (l.drop i).all (tQ l)then(1,[iI (JV s (l.drop i)),J [bl (cz l)]])else(0,[bq,J [bl (cz l)]])))
  (λs=>by
    rw [qw];exact bF ae1 (az eo aH))
  λi hi ih s=>by
   have hk:=ho _ (ei hi);have gO:bg Q9 0 (gA (cz l) ((i:Int).toNat))=cg l[i]:=by rw [dk hi,aE6]
   rw [lY hi,Dg,JV];have C:∀r:UO,_->cq Fg [iI s,bl (cz l),iI (ln (cz l)),iI (i:Int),J [bl (cz l)]] r:=λr h=>by
    refine bF ae1 (bE (dz hi) (aA (cb hi) ?_));rw [gO];refine ah (eW (l[i]'hi)) ?_;exact h
   cases U:Kz l[i]with
   |false=>
    rw [U]at C;have e:tQ l l[i]=false:=by unfold tQ;rw [U];rfl
    rw [e];exact C _ (av aH)
   |true=>
    rw [U]at C;refine C _ (bp (aW (c:= !l[i].ptr) (λhp=> ?_) λhp=> ?_))
    ·have e:tQ l l[i]=AB l[i]:=by unfold tQ;rw [U,hp];rfl
     rw [e];refine aW (c:=decide (0<ln (ints l[i].set))) (λa=>aq ?_) λa=>aW (c:=decide (l[i].lo < -2147483648)) (λb=>aq ?_) λb=>aW (c:=decide (2147483647<l[i].hi)) (λc=>aq ?_) λc=>aW (c:=decide (l[i].hi <l[i].lo)) (λd=>aq ?_) λd=> ?_
     ·unfold AB;rw [a];rfl
     ·unfold AB;rw [a,b];rfl
     ·unfold AB;rw [a,b,c];rfl
     ·unfold AB;rw [a,b,c,d];rfl
     ·have e2:AB l[i]=true:=by unfold AB;rw [a,b,c,d];rfl
      rw [e2,zD];have:=ih (bH (s+l[i].size));rw [<-ix hi hl]at this;exact this
    ·have e:tQ l l[i]=(xf l l[i]&& !l[i].set.any (Cc l)):=by unfold tQ;rw [U,hp];rfl
     rw [e];refine ah (aJ8 (l:=l) hk) ?_;cases h3:xf l l[i]with
     |false=>exact qU
     |true=>
      refine bp (ah (oset hk (amv hl h3)) ?_);cases l[i].set.any (Cc l)with
      |true=>exact bp aH
      |false=>
       have:=ih (bH (s+l[i].size));rw [<-ix hi hl]at this;exact av this
 have:=k 0;rw [il]at this;exact this
include hl ho in
theorem aJ5:Ev XX [bl (cz l)] (0,[aJ (yO l)]):=by
 have a6:cW XE [J [bl (cz l)]] (bif (bif decide (ln (cz l)<1)then true else decide (2048<ln (cz l)))then(1,[bq,J [bl (cz l)]])else(0,[J [bl (cz l)]])):=by
  refine cL avX (aW (c:=decide (ln (cz l)<1)) (λa=>aq (by rw [a];rfl)) λa=>aW (c:=decide (2048<ln (cz l))) (λb=>aq (zP)) λb=>aq (zP))
 have e:yO l=bif (bif decide (ln (cz l)<1)then true else decide (2048<ln (cz l)))then false else bif l.all (tQ l)then decide (JV 0 l<=16384)else false:=by
  unfold yO;cases decide (ln (cz l)<1)<;>rfl
 rw [e];have c1:=aD2 hl ho;cases hx:(bif decide (ln (cz l)<1)then true else decide (2048<ln (cz l)))with
 |true=>
  rw [hx]at a6;exact bh XM (ah a6 (av aH))
 |false=>
  rw [hx]at a6;cases ha:l.all (tQ l)with
  |true=>
   rw [ha]at c1;exact bh XM (ah a6 (bp (ah c1.diag (av aH))))
  |false=>
   rw [ha]at c1;exact bh XM (ah a6 (bp (ah c1.diag (bp aH))))
include hl in
theorem aBu(h:yO l=true):OL l:=by
 unfold yO at h;cases U:decide (ln (cz l)<1)with
 |true=>exact Jd
 |false=>
  cases h2:decide (2048<ln (cz l))with
  |true=>rw [U,h2]at h;cases h
  |false=>
   cases h3:l.all (tQ l)with
   |false=>rw [U,h2,h3]at h;cases h
   |true=>
    rw [mz]at h3;have hp:∀o∈l,(o.ptr=false->o.set=[])/\o.set.Nodup/\∀x∈o.set,ib x l.length=true:=λo hm=>by
     have:=h3 o hm;unfold tQ at this;rw [bw]at this;cases hq:o.ptr with
     |false=>
      rw [hq]at this;have h2:=this.2;have hs:o.set=[]:=by
       simp only [RQ,bU]at h2;unfold AB at h2;cases hz:decide (0<ln (ints o.set))with
       |true=>rw [hz]at h2;cases h2
       |false=>
        rw [fM]at hz;cases hs:o.set with
        |nil=>rfl
        |cons a b=>rw [hs]at hz;simp at hz
      refine⟨λ_=>hs,by rw [hs];exact Mv,by rw [hs];simp⟩
     |true=>
      rw [hq]at this;have h2:=this.2;simp only [RC,cf,bw]at h2;refine⟨λh=>(aD),?_,amv hl h2.1⟩;have h3:=h2.1;unfold xf at h3;cases y1:o.size != 1 with
      |true=>rw [y1]at h3;cases h3
      |false=>
       cases y2:o.lo != 0 with
       |true=>rw [y1,y2]at h3;cases h3
       |false=>
        cases y3:o.hi != 0 with
        |true=>rw [y1,y2,y3]at h3;cases h3
        |false=>
         rw [y1,y2,y3]at h3;exact azc (show qG o.set 0 (bH (ln (cz l)- 1))=true from h3)
    refine⟨?_,λo hm=>(hp o hm).1,λo hm=>(hp o hm).2.1,λo hm=>(hp o hm).2.2⟩;rw [fM]at h2;simp at h2;omega
end
end
section
variable {l:List OB} {cs:bQ}
abbrev aO(l:List OB):AV:= J [bl (cz l)]
abbrev aI(cs:bQ):AV:= J [aM (ints cs)]
def Hm(k:Int):Bool:=bif k==1 then true else bif k==14 then true else bif k==6 then true else k==7
def B9(l:List OB)(cs:bQ)(e:CE):Bool:=bif Hm e.kind then true else bif e.kind==2 then bif gv cs e.O then !(fp l e.O).ptr else false else bif e.kind==4 then e.op==18 else bif e.kind==5 then bif decide (7<=e.op)then decide (e.op<=15)else false else false
def aDU(k:Int):cW XD [cE k] (0,[aJ (Hm k)]):=by
 refine cL avW (aW (c:=k==1) (λa=>aq ?_) λa=>aW (c:=k==14) (λb=>aq ?_) λb=>aW (c:=k==6) (λc=>aq ?_) λc=>aq ?_)
 ·unfold Hm;rw [a];rfl
 ·unfold Hm;rw [a,b];rfl
 ·unfold Hm;rw [a,b,c];rfl
 ·unfold Hm;rw [a,b,c];rfl
def aJY(hc:cs.length<=mx)(hr:∀x∈cs,ib x l.length=true)(e:CE):cW XR [bq,aO l,aI cs,J (aZ e)] (0,[aJ (B9 l cs e),aO l,aI cs,J (aZ e)]):=by
 refine cL awG ?_;rw [adk,apW,aK9,iK];refine ah (aDU e.kind) (aW (c:=Hm e.kind) (λa=>aq ?_) λa=>aW (c:=e.kind==2) (λb=>ah (yt e.O hc) (aW (c:=gv cs e.O) (λc=> ?_) λc=>aq ?_)) λb=>aW (c:=e.kind==4) (λc=>aq ?_) λc=>aW (c:=e.kind==5) (λd=>aW (c:=decide (7<=e.op)) (λg=>aq ?_) λg=>aq ?_) λd=>aq ?_)
 ·unfold B9;rw [a];rfl
 ·have hx:=hr _ (ZY.1 c);refine aA (by show ib e.O (cz l).length =true;rw [fY];exact hx) (aq ?_);rw [show gB (gA (gR [bl (cz l)] 0) e.O.toNat) 3=(fp l e.O).ptr from(ab3 hx).1];unfold B9;rw [a,b,c];rfl
 ·unfold B9;rw [a,b,c];rfl
 ·unfold B9;rw [a,b,c];rfl
 ·unfold B9;rw [a,b,c,d,g];rfl
 ·unfold B9;rw [a,b,c,d,g];rfl
 ·unfold B9;rw [a,b,c,d];rfl
def aCC(hc:cs.length<=mx)(hr:∀x∈cs,ib x l.length=true):∀e:CE,e.Ok->∃b,Ev Ma [bl (cz l),aM (ints cs),J (aZ e)] (0,[aJ b]):=by
 refine CE.ind λe ih bB=> ?_;have j:=aJY hc hr e;cases hh:B9 l cs e with
 |false=>
  rw [hh]at j;refine⟨false,bh agn ?_⟩;rw [iK];exact ah j (av aH)
 |true=>
  rw [hh]at j;have abX:∀y,∃b,y∈e.L->Ev Ma [bl (cz l),aM (ints cs),J (aZ y)] (0,[aJ b]):=λy=>by
   by_cases hy:y∈e.L
   ·obtain⟨b,hb⟩:=ih y hy (bB.qk hy);exact⟨b,λ_=>hb⟩
   ·exact⟨true,λh=>absurd h hy⟩
  obtain⟨f,hf⟩:=ZO abX;have k1:=scan (l:=e.L) (p:=λy=> !f y) (hit:=λi=>(0,[iI (i:Int),aO l,aI cs])) (done:=(1,[aO l,aI cs]))
   (LF:=λi N m=>PA (FU CX EE N) N m [bR (e.L.map aZ),iI (ln (e.L.map aZ)),iI (i:Int),aO l,aI cs])
   (bF adJ (az eo aH))
   λi hi r h2 h3=>bF adJ<|bE (dz hi)<|aA (cb hi)<|by
    rw [Gl hi,ix hi bB.len];have q:Ev XW [J (aZ e.L[i]),aO l,aI cs] (0,[aJ (!f e.L[i]),aO l,aI cs]):=by
     refine bh axf ?_;rw [iK];exact ah (hf e.L[i] (ei hi)) aH
    exact ah q (aW (λE2=>aq (h2 E2)) h3)
  have k3:=NH (l:=e.L) (p:=λy=> !f y) (IX:=λN _=>FU CX EE N VY [bR (e.L.map aZ),aO l,aI cs]) (CT:=λN _=>FU CX EE N VV [bR (e.L.map aZ),aO l,aI cs]) (st:=[aO l,aI cs]) k1
   (λi h=>bh ad6 (ah h.diag (bp aH)))
   (λh=>bh ad6 (ah h.diag (av aH)))
   (λi h=>bh aqN (ah h aH))
  refine⟨!e.L.any λy=> !f y,bh agn ?_⟩;rw [iK];refine ah j (bp ?_);rw [<-N8]at k3;exact ah k3 aH
end
end Go.Proofs.B.C
namespace Go.aj
def aaJ{p:Prop}(h:p:=by rw [od];simp;omega):p:=h
end Go.aj
namespace Go.aj
def ZH:=@List.take_append_of_le_length
end Go.aj
namespace Go.Proofs.B.C
open Go Go.aj
section
variable{n:Nat}
def amd{n:Int}(h0:0<=n)(U:n<18446744073709551616):IntKind.wrap .u64 n=n:=akv
def aER(h:n<4294967296):((BitVec.ofInt 64 (n:Int)&&&BitVec.ofInt 64 4294967295).toNat :Int)=n:=by
 rw [BitVec.toNat_and];have U:(BitVec.ofInt 64 (n:Int)).toNat =n:=by
  rw [BitVec.toNat_ofInt];omega
 have h2:(BitVec.ofInt 64 4294967295).toNat =2^32- 1:=by rfl
 rw [U,h2,Nat.and_two_pow_sub_one_eq_mod,ZI (by omega)]
def azh{n:Int}(h0:0<=n)(h:n<4294967296):Int.fdiv n (2^32)=0:=by
 rw [Int.fdiv_eq_ediv_of_nonneg _ (bM)];exact Int.ediv_eq_zero_of_lt h0 h
def aKd(h:n<4294967296):Ev XJ [.int .u64 1,.int .u64 (n:Int)] (0,[.int .u64 0,.int .u64 (n:Int)]):=by
 have U:((BitVec.ofInt 64 1&&&BitVec.ofInt 64 4294967295).toNat :Int)=1:=by rfl
 have w0:IntKind.wrap .u64 0=0:=by rfl
 have w1:IntKind.wrap .u64 1=1:=by rfl
 have wn:IntKind.wrap .u64 (n:Int)=n:=amd (by omega) (by omega);have f1:Int.fdiv 1 (2^32)=0:=by rfl
 have f0:Int.fdiv 0 (2^32)=0:=by rfl
 have fn:Int.fdiv (n:Int) (2^32)=0:=azh (by omega) (by omega);have a0:((BitVec.ofInt 64 0&&&BitVec.ofInt 64 4294967295).toNat :Int)=0:=by rfl
 have m:Ev Xk [.int .u64 1,.int .u64 (n:Int)] (0,[.int .u64 0,.int .u64 (n:Int)]):=by
  refine bh avn (aq ?_);rw [U,aER h,f1,fn,Int.zero_mul,Int.zero_mul,w0,wn,w1,Int.one_mul,wn,fn,MC,w0,f0,MC,w0,a0,w0,Int.one_mul,w0,MC,w0,f0];rfl
 exact bh awK (ah m aH)
abbrev GD:Row:=[iI (-1),iI (-1),iI (-1)]
abbrev NK:Row:=[iI 0,iI 0,iI 0]
def rz(k m:Nat):aY:=List.replicate k GD++List.replicate m NK
def aji(k m:Nat):(rz k m).length =k+m:=by simp [rz]
def ajf{k m d:Nat}(h:d<=m):w5 (rz k m) k (List.replicate d GD)=rz (k+d) (m- d):=by
 unfold w5 rz;rw [ZH (by simp),FE (by simp),wD,List.drop_append,ZG (by simp),nO,List.drop_replicate,wD,Nat.add_sub_cancel_left,<-ain]
def aJN:∀(m k:Nat),1<=k->k+m<=2048->cq Ln [iI (k:Int),aw (rz k m)] (0,[aw (rz (k+m) 0)]):=by
 intro m
 induction m using Nat.strongRecOn with
 |ind m ih=>
  intro k hk hb;have od:ln (rz k m)=((k+m:Nat):Int):=by show(((rz k m).length :Nat):Int)=_;rw [aji]
  refine bF arT ?_
  by_cases h0:m=0
  ·subst h0;exact az (by rw [od];simp) aH
  ·refine bE (aaJ) (aA (aaJ) (aA (aaJ) ?_));rw [pZ,il,aji,show k+m- k=m by omega];have ht:(rz k m).take k=List.replicate k GD:=by
    unfold rz;rw [ZH (by simp),FE (by simp)]
   have hd:xu (rz k m) k m (List.replicate k GD)=rz (k+min k m) (m- min k m):=by
    unfold xu;rw [List.take_replicate,Nat.min_comm m k];exact ajf (by omega)
   rw [ht,hd,wD];have hw:bH ((k:Int)+((min k m:Nat):Int))=((k+min k m:Nat):Int):=Dz;rw [hw];have:=ih (m- min k m) (by omega) (k+min k m) (by omega) (by omega);rw [show k+min k m+(m- min k m)=k+m by omega]at this;exact this
def aCr(n:Nat):rz n 0=ba (List.replicate n uI):=by
 unfold rz;show _=(List.replicate n uI).map BV;rw [List.map_replicate];exact rV _
def Ue(U:1<=n)(h2:n<=2048):Ev WQ [aw [GD],iI (n:Int)] (0,[aw (ba (List.replicate n uI))]):=by
 have j6:cW Wp [iI (n:Int)] (0,[]):=cL asu (az (by simp) aH);have j30:cW Wi [.int .u64 0,.int .u64 (n:Int)] (0,[]):=cL ar7 (av (az (fB) aH));have wn:IntKind.wrap .u64 (n:Int)=n:=amd (by omega) (by omega);have w6:bH (n:Int)=n:=pE (by omega) (by omega);refine bh atI (ah j6 ?_);rw [wn];refine ah (aKd (n:=n) (by omega)) (ah j30 ?_);show E (λN _=>bf (decide (0<=bH (n:Int))&&decide (bH (n:Int)<=bH (n:Int))&&decide ((bH (n:Int))*24<=140737488355328))<|bO (Ln (FU CX EE N) N N [iI (((min 1 ((List.replicate ((bH (n:Int)).toNat) NK).length):Nat):Int)),aw (xu (List.replicate ((bH (n:Int)).toNat) NK) 0 ((List.replicate ((bH (n:Int)).toNat) NK).length) [GD])]) λ_ o4=>some (0,[aw (gR o4 0)])) _;rw [w6,pZ,wD];have hc:xu (List.replicate n NK) 0 n [GD]=rz 1 (n- 1):=by
  unfold xu;rw [FE (xO)];have:=ajf (k:=0) (m:=n) (d:=1) U;simpa [rz]using this
 rw [hc,show min 1 n=1 by omega];refine aA (fB) (ah (aJN (n- 1) 1 (by omega) (by omega)).diag (aq ?_));show(0,[aw (rz (1+(n- 1)) 0)])=_;rw [aCr,show 1+(n- 1)=n by omega]
end
section
variable{o:Int}{ro:List RO}{n:Nat}
abbrev aG(p:PG):AV:= J (km p)
abbrev cR(l:List RO):AV:= aw (ba l)
theorem anV(p:PG):bg Yg 0 (km p)=km p:=rfl
def BZ(q:Int)(ro:List RO)(o:Int):List RO:=ro.set o.toNat {lq ro o with ov:=q}
def wL(q:Int):bQ->List RO->Option (List RO)
 | [],ro=>some ro
 |o::os,ro=>bif decide (0<=(lq ro o).ov)then none else wL q os (BZ q ro o)
def AA(up:Int):Int->List PR->List RO->Option (List RO)
 |_,[],ro=>some ro
 |q,x::xs,ro=>bif qG x.kV 0 up then(wL q x.kV ro).bind (AA up (q+1) xs)else none
theorem aiz(h:ib o ro.length=true)(r:RO):(ba ro).set o.toNat (BV r)=ba (ro.set o.toNat r):=by
 show(ro.map BV).set o.toNat (BV r)=(ro.set o.toNat r).map BV;rw [List.map_set]
theorem TF(h:ib o ro.length=true):gA (ba ro) o.toNat=BV (lq ro o):=ab4 h
theorem toN_lt(h:ib o n=true):decide (o.toNat<n)=true:=by have:=oX.1 h;simp;omega
theorem Y1{q:Int}:∀{os:bQ} {ro fg:List RO},wL q os ro=some fg->fg.length=ro.length
 | [],ro,fg,h=>by injection h with h;rw [h]
 |o::os,ro,fg,h=>by
  simp only [wL]at h;cases hd:decide (0<=(lq ro o).ov)with
  |true=>rw [hd]at h;cases h
  |false=>
   rw [hd]at h;have:=Y1 (show wL q os (BZ q ro o)=some fg from h);rw [this];simp [BZ]
section
variable {p:PG}
theorem aJM{q:Int}{os:bQ}(hl:os.length<=mx):∀ro:List RO,(∀x∈os,ib x ro.length=true)->∃x:aY,
 cq Ic [iI q,aM (ints os),iI (ln (ints os)),iI 0,cR ro] (match wL q os ro with|some fg=>(1,[cR fg])|none=>(0,[bq,aw x,aw []])):=by
 have k:=ku (m:=os.length) (P:=λi=>∀ro:List RO,(∀x∈os,ib x ro.length=true)->∃x:aY,
  cq Ic [iI q,aM (ints os),iI (ln (ints os)),iI (i:Int),cR ro] (match wL q (os.drop i) ro with|some fg=>(1,[cR fg])|none=>(0,[bq,aw x,aw []])))
  (λro _=>⟨[],by rw [qw];exact bF ae0 (az eo aH)⟩)
  λi hi ih ro hr=>by
   have hd:os.getD i 0=os[i]:=Gf;have ho:=hr _ (ei hi);have pW:ib os[i] (ba ro).length =true:=aaO;have C:∀r:UO,_->cq Ic [iI q,aM (ints os),iI (ln (ints os)),iI (i:Int),cR ro] r:=λr h=>by
    refine bF ae0 (bE (dz hi) (aA (cb hi) ?_));rw [wF hi,hd,TF ho];refine aA pW (aA (toN_lt pW) ?_);exact h
   rw [lY hi];simp only [wL];cases hp:decide (0<=(lq ro os[i]).ov)with
   |true=>exact⟨_,C _ (bE hp aH)⟩
   |false=>
    have hse:(ba ro).set os[i].toNat (setAt (BV (lq ro os[i])) 0 [iI q])=ba (BZ q ro os[i]):=aiz ho {lq ro os[i]with ov:=q};obtain⟨x,hx⟩:=ih (BZ q ro os[i]) (λy hy=>by rw [show(BZ q ro os[i]).length =ro.length by simp [BZ]];exact hr y hy);refine⟨x,C _ (az hp (aA pW (aA (toN_lt pW) ?_)))⟩;rw [hse,ix hi hl];exact hx
 intro ro hr;have:=k ro hr;rw [il]at this;exact this
theorem amj(h:n<=mx){l:bQ}(hr:qG l 0 (bH ((n:Int)- 1))=true):∀x∈l,ib x n=true:=λx hx=>by
 have:=Zw hr x hx;simp only [mx]at h;rw [pE (by omega) (by omega)]at this;exact oX.2 (by omega)
abbrev wZ(p:PG):Int:=bH (ln (cz p.aR)- 1)
variable (hp:p.Ok)
include hp in
theorem aJL:∀ro:List RO,ro.length=p.aR.length->∃x y:aY,
 cq Ik [kq (p.c5.map gk),iI (ln (p.c5.map gk)),iI 0,aG p,cR ro] (match AA (wZ p) 0 p.c5 ro with|some fg=>(1,[aG p,cR fg])|none=>(0,[bq,aG p,aw x,aw y])):=by
 have k:=ku (m:=p.c5.length) (P:=λi=>∀ro:List RO,ro.length=p.aR.length->∃x y:aY,
  cq Ik [kq (p.c5.map gk),iI (ln (p.c5.map gk)),iI (i:Int),aG p,cR ro] (match AA (wZ p) (i:Int) (p.c5.drop i) ro with|some fg=>(1,[aG p,cR fg])|none=>(0,[bq,aG p,aw x,aw y])))
  (λro _=>⟨[],[],by rw [qw];exact bF afx (az eo aH)⟩)
  λi hi ih ro hr=>by
   have hk:=hp.ov _ (ei hi);have hg:gR (gA (p.c5.map gk) ((i:Int).toNat)) 1=ints p.c5[i].kV :=M8;have C:∀r:UO,_->cq Ik [kq (p.c5.map gk),iI (ln (p.c5.map gk)),iI (i:Int),aG p,cR ro] r:=λr h=>by
    refine bF afx (bE (dz hi) (aA (cb hi) ?_));rw [hg];refine ah (Uc 0 (wZ p) hk.kV) ?_;exact h
   rw [lY hi];simp only [AA];cases hb:qG p.c5[i].kV 0 (wZ p)with
   |false=>
    rw [hb]at C;exact⟨_,_,C _ (bp aH)⟩
   |true=>
    rw [hb]at C;have vO:∀x∈p.c5[i].kV,ib x ro.length=true:=by
     rw [hr];refine amj hp.aR ?_;rw [<-fM cg p.aR];exact hb
    obtain⟨x,hx⟩:=aJM (q:=(i:Int)) hk.kV ro vO;simp only [bU];cases hf:wL (i:Int) p.c5[i].kV ro with
    |none=>
     rw [hf]at hx;exact⟨_,_,C _ (av (ah hx.diag (bp aH)))⟩
    |some fg=>
     rw [hf]at hx;obtain⟨x',y',iY⟩:=ih fg (by rw [Y1 hf,hr]);refine⟨x',y',C _ (av (ah hx.diag (av ?_)))⟩;rw [ix hi hp.c5];exact iY
 intro ro hr;have:=k ro hr;rw [il]at this;exact this
end
end
end Go.Proofs.B.C
namespace Go.aj
def aip:=@List.mem_or_eq_of_mem_set
end Go.aj
namespace Go.Proofs.B.C
open Go Go.aj
section
variable{e o t:Int}{ro:List RO}{m:bQ}
def OR(r:RO)(a b c:Int):Bool:=(r.ov==a)&&((r.task==b)&&((r.entry==c)&&true))
def Cb(p:PG)(t e:Int)(ro:List RO)(o:Int):Bool:=bif (fp p.aR o).size != 1 then false else bif OR (lq ro o) (-1) t e then true else OR (lq ro o) (-1) (-1) (-1)
def Ef(t e:Int)(ro:List RO)(o:Int):List RO:=ro.set o.toNat ⟨-1,t,e⟩
def sa(p:PG)(t e:Int):bQ->List RO->Option (List RO)
 | [],ro=>some ro
 |o::os,ro=>bif Cb p t e ro o then sa p t e os (Ef t e ro o)else none
def aht(p:PG)(t e:Int):∀(a b:bQ) (ro:List RO),sa p t e (a++b) ro=(sa p t e a ro).bind (sa p t e b)
 | [],b,ro=>rfl
 |o::a,b,ro=>by
  simp only [hY,sa];cases Cb p t e ro o with
  |true=>exact aht p t e a b _
  |false=>rfl
def R2(ro:List RO):Prop:=∀r∈ro,r=uI∨(0<=r.ov/\r.task= -1/\r.entry= -1)∨(r.ov= -1/\0<=r.task)
def R2.set(h:R2 ro)(ht:0<=t)(o:Int):R2 (Ef t e ro o):=λr hr=>by
 rcases aip hr with hr|rfl
 ·exact h r hr
 ·exact .inr (.inr ⟨rfl,ht⟩)
def Y0{p:PG}{t e:Int}(ht:0<=t):∀{os:bQ} {ro fg:List RO},sa p t e os ro=some fg->R2 ro->fg.length=ro.length/\R2 fg
 | [],ro,fg,h,hr=>by injection h with h;subst h;exact⟨rfl,hr⟩
 |o::os,ro,fg,h,hr=>by
  simp only [sa]at h;cases hd:Cb p t e ro o with
  |false=>rw [hd]at h;cases h
  |true=>
   rw [hd]at h;have:=Y0 ht (show sa p t e os (Ef t e ro o)=some fg from h) (hr.set ht o);exact⟨by rw [this.1];simp [Ef],this.2⟩
section
variable {p:PG}
def pR(p:PG)(m:bQ):Bool:=bif decide (8<ln (ints m))then false else oz m 0 (wZ p)
def Sm(hp:p.aR.length<=mx)(h:pR p m=true):m.length<=8/\∀x∈m,ib x p.aR.length=true:=by
 unfold pR at h;cases h8:decide (8<ln (ints m))with
 |true=>rw [h8]at h;cases h
 |false=>
  rw [h8]at h;rw [fM]at h8;refine⟨by simp at h8;omega,λx hx=> ?_⟩;have:=ais (show oz m 0 (wZ p)=true from h) x hx;simp only [mx]at hp;have hu:wZ p=(p.aR.length:Int)- 1:=by
   show bH (ln (p.aR.map cg)- 1)=_;rw [fM,pE (by omega) (by omega)]
  rw [hu]at this;exact oX.2 (by omega)
def ap5(hm:m.length<=mx):cW Wm [aM (ints m),aG p] (bif pR p m then(0,[aG p])else(1,[bq,aG p,aw []])):=by
 refine cL ase (aW (c:=decide (8<ln (ints m))) (λa=>aq ?_) λa=>ah (acz 0 (wZ p) hm) (aW (c:= !oz m 0 (wZ p)) (λb=>aq ?_) λb=>aq ?_))
 ·unfold pR;rw [a];rfl
 ·simp only [jF]at b;unfold pR;rw [a,b];rfl
 ·simp only [ja]at b;unfold pR;rw [a,b];rfl
def aD3(h:ib o p.aR.length=true):gI (gA (gR (km p) 0) o.toNat) 0=(fp p.aR o).size :=(ab3 h).2
def aJ3(hr:ro.length=p.aR.length)(ho:ib o p.aR.length=true):∃x:ak,cW V9 [iI o,aG p,cR ro,J [iI (-1),iI t,iI e]]
 (bif Cb p t e ro o then(0,[aG p,cR ro,J [iI (-1),iI t,iI e]])else(1,[bq,aG p,cR ro,J [iI (-1),iI t,iI e],aw []])):=by
 have pW:ib o (ba ro).length =true:=by rw [fY,hr];exact ho
 have vQ:ib o ro.length=true:=by rw [hr];exact ho
 have O3:ib o (gR (km p) 0).length =true:=by show ib o (p.aR.map cg).length =true;rw [fY];exact ho
 refine⟨[],cL arA (aA O3 ?_)⟩;rw [aD3 ho,TF vQ];refine aW (c:=(fp p.aR o).size != 1) (λa=>aq ?_) λa=>aA pW (aA (toN_lt pW) (aW (c:= !OR (lq ro o) (-1) t e) (λb=>aA pW (aA (toN_lt pW) (aW (c:= !OR (lq ro o) (-1) (-1) (-1)) (λc=>aq ?_) λc=>aq ?_))) λb=>aq ?_))
 ·unfold Cb;rw [a];rfl
 ·simp only [jF]at b c;unfold Cb;rw [a,b,c];rfl
 ·simp only [jF,ja]at b c;unfold Cb;rw [a,b,c];rfl
 ·simp only [ja]at b;unfold Cb;rw [a,b];rfl
def aoT{os:bQ}(hl:os.length<=mx)(ht:0<=t)(vO:∀x∈os,ib x p.aR.length=true):∀ro:List RO,ro.length=p.aR.length->R2 ro->∃x y:aY,
 cq H0 [iI t,iI e,aM (ints os),iI (ln (ints os)),iI 0,aG p,cR ro] (match sa p t e os ro with|some fg=>(1,[aG p,cR fg])|none=>(0,[bq,aG p,aw x,aw y])):=by
 have k:=ku (m:=os.length) (P:=λi=>∀ro:List RO,ro.length=p.aR.length->R2 ro->∃x y:aY,
  cq H0 [iI t,iI e,aM (ints os),iI (ln (ints os)),iI (i:Int),aG p,cR ro] (match sa p t e (os.drop i) ro with|some fg=>(1,[aG p,cR fg])|none=>(0,[bq,aG p,aw x,aw y])))
  (λro _ _=>⟨[],[],by rw [qw];exact bF aex (az eo aH)⟩)
  λi hi ih ro hr h2=>by
   have hd:os.getD i 0=os[i]:=Gf;have ho:=vO _ (ei hi);have vQ:ib os[i] ro.length=true:=by rw [hr];exact ho
   have pW:ib os[i] (ba ro).length =true:=by rw [fY];exact vQ
   obtain⟨_,j⟩:=aJ3 (p:=p) (t:=t) (e:=e) hr ho;have C:∀r:UO,_->cq H0 [iI t,iI e,aM (ints os),iI (ln (ints os)),iI (i:Int),aG p,cR ro] r:=λr h=>by
    refine bF aex (bE (dz hi) (aA (cb hi) ?_));rw [wF hi,hd];refine ah j ?_;exact h
   rw [lY hi];simp only [sa];cases hb:Cb p t e ro os[i]with
   |false=>
    rw [hb]at C;exact⟨_,_,C _ (av aH)⟩
   |true=>
    rw [hb]at C;have hse:(ba ro).set os[i].toNat (setAt (gA (ba ro) os[i].toNat) 0 [iI (-1),iI t,iI e])=ba (Ef t e ro os[i]):=by
     rw [TF vQ];exact aiz vQ ⟨-1,t,e⟩
    obtain⟨x,y,hx⟩:=ih (Ef t e ro os[i]) (by rw [<-hr];simp [Ef]) (h2.set ht _);refine⟨x,y,C _ (bp (aA pW (aA (toN_lt pW) ?_)))⟩;rw [ix hi hl];rw [show cR (Ef t e ro (os[i]'hi))=aw ((ba ro).set (os[i]'hi).toNat (setAt (gA (ba ro) (os[i]'hi).toNat) 0 [iI (-1),iI t,iI e]))from xC (AV.ae Yf) hse.symm]at hx;exact hx
 intro ro hr h2;have:=k ro hr h2;rw [il]at this;exact this
end
end
end Go.Proofs.B.C
namespace Go.aj
def abf{p:Prop}(h:p:=by injection h with h;subst h;exact⟨rfl,hr,by simp⟩):p:=h
def aln{p:Prop}(h:p:=by
 refine⟨by rw [i1,j1],i2,λz hz=> ?_⟩;rcases fV.1 hz with rfl|hz
 ·exact j3
 ·exact i3 z hz):p:=h
def ajB{p:Prop}(h:p:=by
 rw [g1];refine ah hx.diag ?_;exact h):p:=h
end Go.aj
namespace Go.aj
def aio:=@List.any_eq_not_all_not
def ZL:=@Bool.not_not
end Go.aj
namespace Go.Proofs.B.C
open Go Go.aj
section
variable{y:EN}{e t:Int}{ro:List RO}
def HL(p:PG)(t e:Int)(y:EN)(ro:List RO):Option (List RO):=bif pR p y.ins&&pR p y.outs then sa p t e (y.ins++y.outs) ro else none
def Ao(p:PG)(t:Int):Int->List EN->List RO->Option (List RO)
 |_,[],ro=>some ro
 |e,y::ys,ro=>(HL p t e y ro).bind (Ao p t (e+1) ys)
def Af(p:PG):Int->List TK->List RO->Option (List RO)
 |_,[],ro=>some ro
 |t,x::xs,ro=>(Ao p t 0 x.aU ro).bind (Af p (t+1) xs)
def BB(ro:List RO)(x:Int):Bool:=OR (lq ro x) (-1) (-1) (-1)
def T5(p:PG)(ro:List RO):Bool:=p.aR.all λo=>o.set.all (BB ro)
def MO(p:PG):Option (List RO):=(AA (wZ p) 0 p.c5 (List.replicate p.aR.length uI)).bind λr=>(Af p 0 p.tasks r).bind λr=>bif T5 p r then some r else none
def R1(ro:List RO):Prop:=∀r∈ro,r=uI∨(0<=r.ov/\r.task= -1/\r.entry= -1)
section
variable {p:PG}
def aie{q:Int}(hq:0<=q):∀{os:bQ} {ro fg:List RO},wL q os ro=some fg->R1 ro->R1 fg
 | [],ro,fg,h,hr=>by injection h with h;subst h;exact hr
 |o::os,ro,fg,h,hr=>by
  simp only [wL]at h;cases hd:decide (0<=(lq ro o).ov)with
  |true=>rw [hd]at h;cases h
  |false=>
   rw [hd]at h;refine aie hq (show wL q os (BZ q ro o)=some fg from h) λr hm=> ?_;unfold BZ at hm
   by_cases ho:o.toNat<ro.length
   ·rcases aip hm with hm|rfl
    ·exact hr r hm
    ·have fX:lq ro o∈ro:=by
      simp only [lq,wA,dy ho,uh];exact ei ho
     have h0:lq ro o=uI:=by
      rcases hr _ fX with U|⟨U,_⟩
      ·exact U
      ·simp at hd;omega
     rw [h0];exact .inr ⟨hq,rfl,rfl⟩
   ·rw [List.set_eq_of_length_le (by omega)]at hm;exact hr r hm
def ZU{up:Int}:∀{xs:List PR} {q:Int} {ro fg:List RO},0<=q->AA up q xs ro=some fg->R1 ro->fg.length=ro.length/\R1 fg/\∀x∈xs,qG x.kV 0 up=true
 | [],q,ro,fg,_,h,hr=>abf
 |x::xs,q,ro,fg,hq,h,hr=>by
  simp only [AA]at h;cases hb:qG x.kV 0 up with
  |false=>rw [hb]at h;cases h
  |true=>
   rw [hb]at h;cases hf:wL q x.kV ro with
   |none=>rw [hf]at h;cases h
   |some r1=>
    rw [hf]at h;obtain⟨i1,i2,i3⟩:=ZU (by omega) (show AA up (q+1) xs r1=some fg from h) (aie hq hf hr);refine⟨by rw [i1,Y1 hf],i2,λy hy=> ?_⟩;rcases fV.1 hy with rfl|hy
    ·exact hb
    ·exact i3 y hy
def ai7(ht:0<=t){fg:List RO}(h:HL p t e y ro=some fg)(hr:R2 ro):fg.length=ro.length/\R2 fg/\pR p y.ins=true/\pR p y.outs=true:=by
 unfold HL at h;cases U:pR p y.ins with
 |false=>exact Jd
 |true=>
  cases h2:pR p y.outs with
  |false=>rw [U,h2]at h;cases h
  |true=>
   rw [U,h2]at h;have:=Y0 ht (show sa p t e (y.ins++y.outs) ro=some fg from h) hr;exact⟨this.1,this.2,rfl,rfl⟩
def ZD{t:Int}(ht:0<=t):∀{ys:List EN} {e:Int} {ro fg:List RO},Ao p t e ys ro=some fg->R2 ro->fg.length=ro.length/\R2 fg/\∀y∈ys,pR p y.ins=true/\pR p y.outs=true
 | [],e,ro,fg,h,hr=>abf
 |y::ys,e,ro,fg,h,hr=>by
  simp only [Ao]at h;cases hf:HL p t e y ro with
  |none=>rw [hf]at h;cases h
  |some r1=>
   rw [hf]at h;obtain⟨j1,j2,j3⟩:=ai7 ht hf hr;obtain⟨i1,i2,i3⟩:=ZD ht (show Ao p t (e+1) ys r1=some fg from h) j2;exact aln
def Zr:∀{xs:List TK} {t:Int} {ro fg:List RO},0<=t->Af p t xs ro=some fg->R2 ro->fg.length=ro.length/\R2 fg/\∀x∈xs,∀y∈x.aU,pR p y.ins=true/\pR p y.outs=true
 | [],t,ro,fg,_,h,hr=>abf
 |x::xs,t,ro,fg,ht,h,hr=>by
  simp only [Af]at h;cases hf:Ao p t 0 x.aU ro with
  |none=>rw [hf]at h;cases h
  |some r1=>
   rw [hf]at h;obtain⟨j1,j2,j3⟩:=ZD ht hf hr;obtain⟨i1,i2,i3⟩:=Zr (by omega) (show Af p (t+1) xs r1=some fg from h) j2;exact aln
def al8(n:Nat):R1 (List.replicate n uI):=λr hr=> .inl (ZM hr)
def R1.to(h:R1 ro):R2 ro:=λr hr=>by
 rcases h r hr with h|h
 ·exact .inl h
 ·exact .inr (.inl h)
def azb(h:MO p=some ro):ro.length=p.aR.length/\R2 ro/\(∀x∈p.c5,qG x.kV 0 (wZ p)=true)/\∀x∈p.tasks,∀y∈x.aU,pR p y.ins=true/\pR p y.outs=true:=by
 unfold MO at h;cases U:AA (wZ p) 0 p.c5 (List.replicate p.aR.length uI)with
 |none=>exact Jd
 |some r1=>
  rw [U]at h;obtain⟨i1,i2,i3⟩:=ZU (by omega) U (al8 _);cases h2:Af p 0 p.tasks r1 with
  |none=>rw [FG,h2]at h;cases h
  |some r2=>
   rw [FG,h2]at h;obtain⟨j1,j2,j3⟩:=Zr (by omega) h2 i2.to;rw [FG]at h;cases h3:T5 p r2 with
   |false=>rw [h3]at h;cases h
   |true=>
    rw [h3]at h;injection h with h;subst h;exact⟨by rw [j1,i1];simp,j2,i3,j3⟩
abbrev Hh(y:EN):AV:= Fv [[aM (ints y.ins)],[aM (ints y.outs)]]
def aEC(hp:p.aR.length<=mx)(ht:0<=t)(hy:y.Ok)(hr:ro.length=p.aR.length)(h2:R2 ro):∃x z:aY,
 cq Fc [iI t,iI e,iI 2,iI 0,aG p,cR ro,Hh y] (match HL p t e y ro with|some fg=>(1,[aG p,cR fg,Hh y])|none=>(0,[bq,aG p,aw x,Hh y,aw z])):=by
 have done:∀ro:List RO,cq Fc [iI t,iI e,iI 2,iI 2,aG p,cR ro,Hh y] (1,[aG p,cR ro,Hh y]):=λro=>
  bF Wv (av aH)
 have c1:=ap5 (p:=p) hy.1;have c2:=ap5 (p:=p) hy.2;have C1:∀(ro:List RO) (r:UO),_->cq Fc [iI t,iI e,iI 2,iI 0,aG p,cR ro,Hh y] r:=λro r h=>by
  refine bF Wv (bp (aA rfl (aA rfl (ah c1 ?_))));exact h
 have C2:∀(ro:List RO) (r:UO),_->cq Fc [iI t,iI e,iI 2,iI 1,aG p,cR ro,Hh y] r:=λro r h=>by
  refine bF Wv (bp (aA rfl (aA rfl (ah c2 ?_))));exact h
 unfold HL;cases U:pR p y.ins with
 |false=>
  rw [U]at C1;exact⟨_,_,C1 ro _ (av aH)⟩
 |true=>
  rw [U]at C1;obtain⟨l8,vO⟩:=Sm hp U;obtain⟨x,z,hx⟩:=aoT (p:=p) (e:=e) hy.1 ht vO ro hr h2;have Vq:=aht p t e y.ins y.outs ro;cases hf:sa p t e y.ins ro with
  |none=>
   rw [hf]at hx Vq;have:(bif true&&pR p y.outs then sa p t e (y.ins++y.outs) ro else none)=none:=by rw [Vq];cases pR p y.outs<;>rfl
   rw [this];exact⟨_,_,C1 ro _ (bp (ah hx.diag (bp aH)))⟩
  |some r1=>
   rw [hf]at hx Vq;obtain⟨k1,k2⟩:=Y0 ht hf h2;cases h3:pR p y.outs with
   |false=>
    rw [h3]at C2;exact⟨_,_,C1 ro _ (bp (ah hx.diag (av (C2 r1 _ (av aH)))))⟩
   |true=>
    rw [h3]at C2;obtain⟨l8',aKH⟩:=Sm hp h3;obtain⟨x',z',iY⟩:=aoT (p:=p) (e:=e) hy.2 ht aKH r1 (by rw [k1,hr]) k2;have:(bif true&&true then sa p t e (y.ins++y.outs) ro else none)=sa p t e y.outs r1:=Vq;rw [this];cases hg:sa p t e y.outs r1 with
    |none=>
     rw [hg]at iY;exact⟨_,_,C1 ro _ (bp (ah hx.diag (av (C2 r1 _ (bp (ah iY.diag (bp aH)))))))⟩
    |some r2=>
     rw [hg]at iY;exact⟨[],[],C1 ro _ (bp (ah hx.diag (av (C2 r1 _ (bp (ah iY.diag (av (done r2))))))))⟩
def aED(hp:p.aR.length<=mx)(ht:0<=t){ys:List EN}(hl:ys.length<=mx)(hy:∀y∈ys,y.Ok):∀ro:List RO,ro.length=p.aR.length->R2 ro->∃x z:aY,
 cq Ib [iI t,oh (ys.map iH),iI (ln (ys.map iH)),iI 0,aG p,cR ro] (match Ao p t 0 ys ro with|some fg=>(1,[aG p,cR fg])|none=>(0,[bq,aG p,aw x,aw z])):=by
 have k:=ku (m:=ys.length) (P:=λi=>∀ro:List RO,ro.length=p.aR.length->R2 ro->∃x z:aY,
  cq Ib [iI t,oh (ys.map iH),iI (ln (ys.map iH)),iI (i:Int),aG p,cR ro] (match Ao p t (i:Int) (ys.drop i) ro with|some fg=>(1,[aG p,cR fg])|none=>(0,[bq,aG p,aw x,aw z])))
  (λro _ _=>⟨[],[],by rw [qw];exact bF aeZ (az eo aH)⟩)
  λi hi ih ro hr h2=>by
   obtain⟨x,z,hx⟩:=aEC hp (e:=(i:Int)) ht (hy _ (ei hi)) hr h2;have g1:gA (ys.map iH) ((i:Int).toNat)=iH ys[i]:=dk hi;have C:∀r:UO,_->cq Ib [iI t,oh (ys.map iH),iI (ln (ys.map iH)),iI (i:Int),aG p,cR ro] r:=λr h=>by
    refine bF aeZ (bE (dz hi) (aA (cb hi) ?_));exact ajB
   rw [lY hi];simp only [Ao];cases hf:HL p t (i:Int) ys[i] ro with
   |none=>
    rw [hf]at C;exact⟨_,_,C _ (bp aH)⟩
   |some r1=>
    rw [hf]at C;obtain⟨j1,j2,_⟩:=ai7 ht hf h2;obtain⟨x',z',iY⟩:=ih r1 (by rw [j1,hr]) j2;refine⟨x',z',C _ (av ?_)⟩;rw [ix hi hl];exact iY
 intro ro hr h2;have:=k ro hr h2;rw [il]at this;exact this
def aE7(hp:p.Ok):∀ro:List RO,ro.length=p.aR.length->R2 ro->∃x z:aY,
 cq Ii [jr (p.tasks.map dv),iI (ln (p.tasks.map dv)),iI 0,aG p,cR ro] (match Af p 0 p.tasks ro with|some fg=>(1,[aG p,cR fg])|none=>(0,[bq,aG p,aw x,aw z])):=by
 have k:=ku (m:=p.tasks.length) (P:=λi=>∀ro:List RO,ro.length=p.aR.length->R2 ro->∃x z:aY,
  cq Ii [jr (p.tasks.map dv),iI (ln (p.tasks.map dv)),iI (i:Int),aG p,cR ro] (match Af p (i:Int) (p.tasks.drop i) ro with|some fg=>(1,[aG p,cR fg])|none=>(0,[bq,aG p,aw x,aw z])))
  (λro _ _=>⟨[],[],by rw [qw];exact bF afp (az eo aH)⟩)
  λi hi ih ro hr h2=>by
   have hk:=hp.task _ (ei hi);obtain⟨x,z,hx⟩:=aED hp.aR (t:=(i:Int)) (by omega) hk.len hk.aU ro hr h2;have g1:gR (gA (p.tasks.map dv) ((i:Int).toNat)) 1=p.tasks[i].aU.map iH:=M8;have C:∀r:UO,_->cq Ii [jr (p.tasks.map dv),iI (ln (p.tasks.map dv)),iI (i:Int),aG p,cR ro] r:=λr h=>by
    refine bF afp (bE (dz hi) (aA (cb hi) ?_));exact ajB
   rw [lY hi];simp only [Af];cases hf:Ao p (i:Int) 0 p.tasks[i].aU ro with
   |none=>
    rw [hf]at C;exact⟨_,_,C _ (bp aH)⟩
   |some r1=>
    rw [hf]at C;obtain⟨j1,j2,_⟩:=ZD (by omega) hf h2;obtain⟨x',z',iY⟩:=ih r1 (by rw [j1,hr]) j2;refine⟨x',z',C _ (av ?_)⟩;rw [ix hi hp.tasks];exact iY
 intro ro hr h2;have:=k ro hr h2;rw [il]at this;exact this
def aFh(hr:ro.length=p.aR.length){s:bQ}(hs:s.length<=mx)(vO:∀x∈s,ib x p.aR.length=true):cq LI [aM (ints s),iI (ln (ints s)),iI 0,cR ro] (bif s.any (λx=> !BB ro x)then(0,[bq,cR ro,aw []])else(1,[cR ro])):=by
 refine Tm (l:=s) (p:=λx=> !BB ro x) (LF:=λi N m=>LI (FU CX EE N) N m [aM (ints s),iI (ln (ints s)),iI (i:Int),cR ro])
  (bF aeY (az eo aH))
  λi hi r a b=>bF aeY (bE (dz hi) (aA (cb hi) ?_))
 have hd:s.getD i 0=s[i]:=Gf;have ho:=vO _ (ei hi);have vQ:ib s[i] ro.length=true:=by rw [hr];exact ho
 have pW:ib s[i] (ba ro).length =true:=by rw [fY];exact vQ
 rw [wF hi,hd,TF vQ,ix hi hs];exact aA pW (aA (toN_lt pW) (aW (c:= !BB ro s[i]) (λc=>aq (a c)) b))
def aDI(hr:ro.length=p.aR.length)(ol:OL p.aR)(hp:p.Ok):cq LP [bl (cz p.aR),iI (ln (cz p.aR)),iI 0,cR ro] (bif p.aR.any (λo=>o.set.any λx=> !BB ro x)then(0,[bq,cR ro,aw []])else(1,[cR ro])):=by
 refine Tm (l:=p.aR) (p:=λo=>o.set.any λx=> !BB ro x) (LF:=λi N m=>LP (FU CX EE N) N m [bl (cz p.aR),iI (ln (cz p.aR)),iI (i:Int),cR ro])
  (bF afo (az eo aH))
  λi hi r a b=>bF afo (bE (dz hi) (aA (cb hi) ?_))
 have hm:=ei hi;have g1:gR (gA (cz p.aR) ((i:Int).toNat)) 4=ints p.aR[i].set :=M8;have j:=aFh (p:=p) hr (hp.obj _ hm) (ol.n7 _ hm);rw [g1,ix hi hp.aR];refine ah j.diag ?_;cases hb:p.aR[i].set.any λx=> !BB ro x with
 |true=>exact bp (aq (a hb))
 |false=>exact av (b hb)
def aAg(ro:List RO):T5 p ro= !(p.aR.any λo=>o.set.any λx=> !BB ro x):=by
 unfold T5;rw [aio,ZL]
 congr 1;funext o
 rw [aio,ZL]
 congr 1;funext x
 rw [ZL]
def aCs(hp:p.Ok)(ol:OL p.aR)(U:1<=p.aR.length):∃x:aY,Ev Q4 [aG p] (0,match MO p with|some ro=>[fF,cR ro]|none=>[bq,aw x]):=by
 have rp:=Ue U ol.len;have od:ln (gR (km p) 0)=(p.aR.length:Int):=fM cg p.aR;obtain⟨x1,z1,e1⟩:=aJL hp (List.replicate p.aR.length uI) (by simp);have C:∀r:UO,_->Ev Q4 [aG p] r:=λr h=>by
  refine bh ayo ?_;rw [od];refine ah rp ?_;exact h
 unfold MO;cases hf:AA (wZ p) 0 p.c5 (List.replicate p.aR.length uI)with
 |none=>
  rw [hf]at e1;have j:cW QC [aG p,cR (List.replicate p.aR.length uI)] (1,[bq,aG p,aw x1,aw z1]):=
   cL afD (ah e1.diag (bp aH))
  exact⟨_,C _ (ah j (av aH))⟩
 |some r1=>
  rw [hf]at e1;obtain⟨i1,i2,_⟩:=ZU (by omega) hf (al8 _);have xp:r1.length=p.aR.length:=by rw [i1];simp
  have j:cW QC [aG p,cR (List.replicate p.aR.length uI)] (0,[aG p,cR r1]):=
   cL afD (ah e1.diag (av aH))
  obtain⟨x2,z2,e2⟩:=aE7 hp r1 xp i2.to;rw [FG];cases hg:Af p 0 p.tasks r1 with
  |none=>
   rw [hg]at e2;have j2:cW QB [aG p,cR r1] (1,[bq,aG p,aw x2,aw z2]):=
    cL afC (ah e2.diag (bp aH))
   exact⟨_,C _ (ah j (bp (ah j2 (av aH))))⟩
  |some r2=>
   rw [hg]at e2;obtain⟨j1',j2',_⟩:=Zr (by omega) hg i2.to;have j2:cW QB [aG p,cR r1] (0,[aG p,cR r2]):=
    cL afC (ah e2.diag (av aH))
   have e3:=aDI (by rw [j1',xp]) ol hp (ro:=r2);rw [FG,aAg];cases hs:p.aR.any λo=>o.set.any λx=> !BB r2 x with
   |true=>
    rw [hs]at e3;exact⟨_,C _ (ah j (bp (ah j2 (bp (ah e3.diag (bp aH))))))⟩
   |false=>
    rw [hs]at e3;exact⟨[],C _ (ah j (bp (ah j2 (bp (ah e3.diag (av aH))))))⟩
end
end
end Go.Proofs.B.C
namespace Go.aj
def alq{p:Prop}(h:p:=by rw [gE];exact ah this.diag (aq (by show(0,[J (bg fU 0 (encS s)),_])=_;rw [gE];rfl))):p:=h
def M6{p:Prop}(h:p:=by rw [xI];rfl):p:=h
end Go.aj
namespace Go.Proofs.B.C
open Go Go.aj
section
variable{pre:List CS}
theorem aK8(s:CS):gR (encS s) 17=s.L.map encS:=M6
theorem apR(s:CS):gR (encS s) 18=s.D.map fC:=M6
theorem apQ(s:CS):gR (encS s) 19=s.H.map dH:=M6
theorem apS(s:CS):gR (encS s) 20=s.A.map dY:=M6
abbrev aS(s:CS):AV:= J (encS s)
abbrev sf(l:List CS):AV:= cX (l.map encS)
abbrev dK(D:List CD):List CS:=D.flatMap λd=>[d.d,d.u]
abbrev aK(A:List CA):List CS:=A.flatMap λa=>[a.body,a.after]
section
variable {s:CS} (bB:s.Ok)
include bB in
theorem aKv:cW XQ [aS s,cX []] (0,[aS s,sf (dK s.D)]):=by
 cases bB with|mk _ hf hL hD hH hA U h2 hk=>
 have k:=ku (m:=s.D.length) (P:=λi=>∀acc:List CS,acc.length<=2*i->cq Qy [iI (i:Int),aS s,sf acc] (0,[aS s,sf (acc++dK (s.D.drop i))]))
  (λacc _=>by
    rw [qw];refine bF afw ?_;rw [apR,gE];exact az eo (aq (by simp)))
  λi hi ih acc ha=>by
   have gd:bg fU 0 (gA (s.D.map fC) ((i:Int).toNat))=encS s.D[i].d :=by rw [dk hi,Gx]
   have gu:bg fU 21 (gA (s.D.map fC) ((i:Int).toNat))=encS s.D[i].u :=by rw [dk hi,Gw]
   have he:sf (acc++[s.D[i].d,s.D[i].u])= cX (acc.map encS++[encS s.D[i].d,encS s.D[i].u]):=by
    show cX ((acc++[s.D[i].d,s.D[i].u]).map encS)=_;rw [tj];rfl
   have e2:acc++dK (s.D.drop i)=(acc++[s.D[i].d,s.D[i].u])++dK (s.D.drop (i+1)):=by
    rw [lY hi];simp only [dK,zF,fy]
   refine bF afw ?_;rw [apR,gE,gd,gu];refine bE (dz hi) (aA (cb hi) (aA (cb hi) (aA ?_ ?_)))
   ·rw [fY];simp only [mx]at hD;simp;omega
   ·rw [ix hi hD,e2];have:=ih (acc++[s.D[i].d,s.D[i].u]) (fB);rw [he]at this;exact this
 have:=k [] (by simp);exact cL awF (alq)
include bB in
theorem aKu(hp:pre.length<=4000000):cW QA [aS s,sf pre] (0,[aS s,sf (pre++s.H.map CH.body)]):=by
 cases bB with|mk _ hf hL hD hH hA U h2 hk=>
 have k:=ku (m:=s.H.length) (P:=λi=>∀acc:List CS,acc.length<=4000000+i->cq Qs [iI (i:Int),aS s,sf acc] (0,[aS s,sf (acc++(s.H.drop i).map CH.body)]))
  (λacc _=>by
    rw [qw];refine bF afm ?_;rw [apQ,gE];exact az eo (aq (by simp)))
  λi hi ih acc ha=>by
   have gd:bg fU 1 (gA (s.H.map dH) ((i:Int).toNat))=encS s.H[i].body :=by rw [dk hi,Gv]
   have he:sf (acc++[s.H[i].body])= cX (acc.map encS++[encS s.H[i].body]):=by
    show cX ((acc++[s.H[i].body]).map encS)=_;rw [tj];rfl
   have e2:acc++(s.H.drop i).map CH.body=(acc++[s.H[i].body])++(s.H.drop (i+1)).map CH.body:=by
    rw [lY hi,jG,fy];rfl
   refine bF afm ?_;rw [apQ,gE,gd];refine bE (dz hi) (aA (cb hi) (aA ?_ ?_))
   ·rw [fY];simp only [mx]at hH;simp;omega
   ·rw [ix hi hH,e2];have:=ih (acc++[s.H[i].body]) (fB);rw [he]at this;exact this
 have:=k pre (by omega);exact cL awE (alq)
include bB in
theorem aKw(hp:pre.length<=8000000):cq Fj [iI 0,aS s,sf pre] (0,[aS s,sf (pre++aK s.A)]):=by
 cases bB with|mk _ hf hL hD hH hA U h2 hk=>
 have k:=ku (m:=s.A.length) (P:=λi=>∀acc:List CS,acc.length<=8000000+2*i->cq Fj [iI (i:Int),aS s,sf acc] (0,[aS s,sf (acc++aK (s.A.drop i))]))
  (λacc _=>by
    rw [qw];refine bF afl ?_;rw [apS,gE];exact az eo (aq (by simp)))
  λi hi ih acc ha=>by
   have gd:bg fU 12 (gA (s.A.map dY) ((i:Int).toNat))=encS s.A[i].body :=by rw [dk hi,DN]
   have gu:bg fU 33 (gA (s.A.map dY) ((i:Int).toNat))=encS s.A[i].after :=by rw [dk hi,DO]
   have he:sf (acc++[s.A[i].body,s.A[i].after])= cX (acc.map encS++[encS s.A[i].body,encS s.A[i].after]):=by
    show cX ((acc++[s.A[i].body,s.A[i].after]).map encS)=_;rw [tj];rfl
   have e2:acc++aK (s.A.drop i)=(acc++[s.A[i].body,s.A[i].after])++aK (s.A.drop (i+1)):=by
    rw [lY hi];simp only [aK,zF,fy]
   refine bF afl ?_;rw [apS,gE,gd,gu];refine bE (dz hi) (aA (cb hi) (aA (cb hi) (aA ?_ ?_)))
   ·rw [fY];simp only [mx]at hA;simp;omega
   ·rw [ix hi hA,e2];have:=ih (acc++[s.A[i].body,s.A[i].after]) (fB);rw [he]at this;exact this
 exact k pre (by omega)
theorem al5(D:List CD):(dK D).length =2*D.length:=by
 induction D with
 |nil=>rfl
 |cons d D ih=>simp only [dK,zF,cw,fk,gD]at ih⊢;omega
theorem aDj(D:List CA):(aK D).length =2*D.length:=by
 induction D with
 |nil=>rfl
 |cons d D ih=>simp only [aK,zF,cw,fk,gD]at ih⊢;omega
include bB in
theorem ah6:s.kids.length<=8000000:=by
 cases bB with|mk _ hf hL hD hH hA U h2 hk=>
 have a:=al5 s.D;have b:=aDj s.A;simp only [dK,aK]at a b;simp only [CS.kids,cw,fY];simp only [mx]at hL hD hH hA;omega
include bB in
theorem aKt:Ev Yn [aS s] (0,[sf s.kids]):=by
 have hk:=ah6 bB;have hd:=aKv bB;obtain⟨hL,hD,hH⟩:s.L.length<=mx/\s.D.length<=mx/\s.H.length<=mx:=by cases bB with|mk _ hf hL hD hH hA U h2 hk=>exact⟨hL,hD,hH⟩
 have a:=al5 s.D;simp only [mx]at hL hD hH;have hh:=aKu bB (pre:=dK s.D++s.L) (Jl);have ha:=aKw bB (pre:=(dK s.D++s.L)++s.H.map CH.body) (by rw [cw,cw,fY];omega);have e1:sf (dK s.D++s.L)= cX ((dK s.D).map encS++s.L.map encS):=by
  show cX ((dK s.D++s.L).map encS)=_;rw [tj]
 refine bh ayl ?_;rw [gE];refine ah hd ?_;show E (λN _=>bf (decide ((((dK s.D).map encS).length +(gR (encS s) 17).length)*272<=140737488355328))<|bO (QA (FU CX EE N) N [J (bg fU 0 (encS s)),cX ((dK s.D).map encS++(gR (encS s) 17))]) λ_ o4=>bO (Fj (FU CX EE N) N N [iI 0,J (bg fU 0 (gC o4 0)),cX (gR o4 1)]) λ_ o5=>some (0,[cX (gR o5 1)])) _;rw [aK8,gE,<-e1];refine aA (by rw [fY,fY,a];simp;omega) (ah hh ?_);show E (λN _=>bO (Fj (FU CX EE N) N N [iI 0,J (bg fU 0 (encS s)),sf ((dK s.D++s.L)++s.H.map CH.body)]) λ_ o5=>some (0,[cX (gR o5 1)])) _;rw [gE];refine ah ha.diag (aq ?_);show(0,[sf (((dK s.D++s.L)++s.H.map CH.body)++aK s.A)])=_;simp only [CS.kids,fy]
end
end
end Go.Proofs.B.C
namespace Go.aj
def ajS{p:Prop}(h:p:=by
 cases t with
 |mk a b c d=>cases c;rfl):p:=h
end Go.aj
namespace Go.Proofs.B.C
open Go Go.aj
theorem apO(t:TK):gI (dv t) 23=t.dead:=ajS
theorem apM(t:TK):gI (dv t) 0=t.prio:=rfl
theorem apN(t:TK):gR (dv t) 1=t.aU.map iH:=rfl
theorem anT(t:TK):bg fU 2 (dv t)=encS t.body:=ajS
theorem aE5(q:PR):bg QZ 0 (gk q)=gk q:=rfl
abbrev aQ(q:PR):AV:= J (gk q)
def BY(t:TK):Bool:=bif decide (t.prio<0)then false else bif decide (31<t.prio)then false else bif decide (8<ln (t.aU.map iH))then false else bif decide (t.dead<0)then false else !decide (2147483647<t.dead)
def Ku(q:PR):Bool:=bif decide (q.ceil<0)then false else bif decide (31<q.ceil)then false else !decide (8<ln (q.bars.map aZ))
section
variable {p:PG} (hp:p.Ok)
include hp in
theorem mtC:cq L4 [jr (p.tasks.map dv),iI (ln (p.tasks.map dv)),iI 0] (bif p.tasks.any (λt=> !BY t)then(0,[bq])else(1,[])):=by
 refine Tm (l:=p.tasks) (p:=λt=> !BY t) (LF:=λi N m=>L4 (FU CX EE N) N m [jr (p.tasks.map dv),iI (ln (p.tasks.map dv)),iI (i:Int)])
  (bF af3 (az eo aH))
  λi hi r a b=>bF af3 (bE (dz hi) (aA (cb hi) ?_))
 rw [dk hi,apM,apN,apO,ix hi hp.tasks];refine aW (c:=decide (p.tasks[i].prio <0)) (λc=>aq (a ?_)) λc=>aW (c:=decide (31<p.tasks[i].prio)) (λd=>aq (a ?_)) λd=>aW (c:=decide (8<ln (p.tasks[i].aU.map iH))) (λe=>aq (a ?_)) λe=>aW (c:=decide (p.tasks[i].dead <0)) (λf=>aq (a ?_)) λf=>aW (c:=decide (2147483647<p.tasks[i].dead)) (λg=>aq (a ?_)) λg=>b ?_
 ·unfold BY;rw [c];rfl
 ·unfold BY;rw [c,d];rfl
 ·unfold BY;rw [c,d,e];rfl
 ·unfold BY;rw [c,d,e,f];rfl
 ·unfold BY;rw [c,d,e,f,g];rfl
 ·unfold BY;rw [c,d,e,f,g];rfl
theorem aKe(q:PR):cW Xv [aQ q] (bif Ku q then(0,[aQ q])else(1,[bq,aQ q])):=by
 refine cL avm (aW (c:=decide (q.ceil<0)) (λc=>aq ?_) λc=>aW (c:=decide (31<q.ceil)) (λd=>aq ?_) λd=>aW (c:=decide (8<ln (q.bars.map aZ))) (λe=>aq ?_) λe=>aq ?_)
 ·unfold Ku;rw [c];rfl
 ·unfold Ku;rw [c,d];rfl
 ·unfold Ku;rw [c,d,e];rfl
 ·unfold Ku;rw [c,d,e];rfl
theorem aEN(hE:pM)(ol:OL p.aR){q:PR}(hq:q.Ok)(hr:∀x∈q.kV,ib x p.aR.length=true):∃b,
 cq Fh [bR (q.bars.map aZ),iI (ln (q.bars.map aZ)),iI 0,aG p,aQ q] (bif b then(1,[aG p,aQ q])else(0,[bq,aG p,aQ q]))/\(b=true->∀e∈q.bars,iQ p.aR e):=by
 have k:=ku (m:=q.bars.length) (P:=λi=>∃b,
  cq Fh [bR (q.bars.map aZ),iI (ln (q.bars.map aZ)),iI (i:Int),aG p,aQ q] (bif b then(1,[aG p,aQ q])else(0,[bq,aG p,aQ q]))/\(b=true->∀e∈q.bars.drop i,iQ p.aR e))
  ⟨true,bF afa (az eo aH),λ_ y hy=>Gd⟩
  λi hi ih=>by
   have hm:=ei hi;have he:=hq.bars.2 _ hm;obtain⟨s,b,o1,o3⟩:=ofE hE ol (ln (q.bars.map aZ)) q.bars[i] he;have C:∀r:UO,_->cq Fh [bR (q.bars.map aZ),iI (ln (q.bars.map aZ)),iI (i:Int),aG p,aQ q] r:=λr h=>by
    refine bF afa (bE (dz hi) (aA (cb hi) ?_));rw [Gl hi];refine ah o1 ?_;exact h
   cases b with
   |false=>exact⟨false,C _ (bp aH),λh=>aD⟩
   |true=>
    have c2:=DP s;cases hb:wP s with
    |false=>
     rw [hb]at c2;exact⟨false,C _ (av (ah c2 (bp aH))),λh=>aD⟩
    |true=>
     rw [hb]at c2;obtain⟨b,p1⟩:=aCC hq.kV hr q.bars[i] he;have C2:∀r:UO,_->cq Fh [bR (q.bars.map aZ),iI (ln (q.bars.map aZ)),iI (i:Int),aG p,aQ q] r:=λr h=>by
      refine C r (av (ah c2 (av (ah p1 ?_))));exact h
     cases b with
     |false=>exact⟨false,C2 _ (bp aH),λh=>aD⟩
     |true=>
      obtain⟨b,ih,ir⟩:=ih;rw [<-ix hi hq.bars.1]at ih;refine⟨b,C2 _ (av ih),λhb y h=> ?_⟩;rw [lY hi]at h;rcases fV.1 h with rfl|h
      ·exact(o3 rfl).2
      ·exact ir hb _ h
 exact k
include hp in
theorem aCz(hE:pM)(ol:OL p.aR)(hr:∀q∈p.c5,∀x∈q.kV,ib x p.aR.length=true):∃b,
 cq Ip [kq (p.c5.map gk),iI (ln (p.c5.map gk)),iI 0,aG p] (bif b then(1,[aG p])else(0,[bq,aG p]))/\(b=true->∀q∈p.c5,∀e∈q.bars,iQ p.aR e):=by
 have k:=ku (m:=p.c5.length) (P:=λi=>∃b,
  cq Ip [kq (p.c5.map gk),iI (ln (p.c5.map gk)),iI (i:Int),aG p] (bif b then(1,[aG p])else(0,[bq,aG p]))/\(b=true->∀q∈p.c5.drop i,∀e∈q.bars,iQ p.aR e))
  ⟨true,bF afB (az eo aH),λ_ y hy=>Gd⟩
  λi hi ih=>by
   have hm:=ei hi;have gq:bg QZ 0 (gA (p.c5.map gk) ((i:Int).toNat))=gk p.c5[i]:=by rw [dk hi,aE5]
   have c1:=aKe p.c5[i];have C:∀r:UO,_->cq Ip [kq (p.c5.map gk),iI (ln (p.c5.map gk)),iI (i:Int),aG p] r:=λr h=>by
    refine bF afB (bE (dz hi) (aA (cb hi) ?_));rw [gq];refine ah c1 ?_;exact h
   cases hb:Ku p.c5[i]with
   |false=>
    rw [hb]at C;exact⟨false,C _ (av aH),λh=>aD⟩
   |true=>
    rw [hb]at C;obtain⟨b,bb,br⟩:=aEN hE ol (hp.ov _ hm) (hr _ hm);cases b with
    |false=>exact⟨false,C _ (bp (ah bb.diag (bp aH))),λh=>aD⟩
    |true=>
     obtain⟨b,ih,ir⟩:=ih;rw [<-ix hi hp.c5]at ih;refine⟨b,C _ (bp (ah bb.diag (av ih))),λhb y h=> ?_⟩;rw [lY hi]at h;rcases fV.1 h with rfl|h
     ·exact br rfl
     ·exact ir hb _ h
 exact k
end
end Go.Proofs.B.C
namespace Go.aj
def amA{p:Prop}(h:p:=by
 unfold yO at U;cases z:decide (ln (cz p.aR)<1)with
 |true=>rw [z]at U;cases U
 |false=>rw [fM]at z;simp at z;omega):p:=h
end Go.aj
namespace Go.Proofs.B.C
open Go Go.aj
def w0(t:Int):WH:=⟨t,[],[],[],[],[],false,false,false,-1,0⟩
section
variable {p:PG} {ro:List RO}
def aDn{i:Nat}(hi:i<p.tasks.length):WI p (w0 i):=
 ⟨⟨.inl (Dv),(by intro a h;cases h),FX hi⟩,A6 _,A6 _,A6 _,A6 _,A6 _,by show(0:Int)<=64;omega⟩
abbrev K2(p:PG)(lf:Int):AV:= J (dE 2 1 p lf)
def aJC(ct:CT p p.tasks ro)(hE:pM):∀lf cn cc,ST p lf cn cc->∃b eG cy,bz (aU cy)=cy/\
 cq Io [jr (p.tasks.map dv),iI (ln (p.tasks.map dv)),iI 0,K2 p lf,.ae 0 cn,cR ro] (bif b then(1,[K2 p eG,.ae 0 cy,cR ro])else(0,[bq,K2 p eG,.ae 0 cy,cR ro]))/\(b=true->(∃d,ST p eG cy d)/\∀t∈p.tasks,vI p t.body):=by
 have k:=ku (m:=p.tasks.length) (P:=λi=>∀lf cn cc,ST p lf cn cc->∃b eG cy,bz (aU cy)=cy/\
  cq Io [jr (p.tasks.map dv),iI (ln (p.tasks.map dv)),iI (i:Int),K2 p lf,.ae 0 cn,cR ro] (bif b then(1,[K2 p eG,.ae 0 cy,cR ro])else(0,[bq,K2 p eG,.ae 0 cy,cR ro]))/\(b=true->(∃d,ST p eG cy d)/\∀t∈p.tasks.drop i,vI p t.body))
  (λlf cn cc st=>⟨true,lf,cn,st.pk,bF afA (az eo (aq (by rw [st.pk];rfl))),λ_=>⟨⟨_,st⟩,(λy hy=>Gd)⟩⟩)
  λi hi ih lf cn cc st=>by
   have hk:=ct.ok.task _ (ei hi);obtain⟨b,l1,c1,kE,e1,g1⟩:=stE ct hE p.tasks[i].body hk.body (w0 i) (aDn hi) lf cn cc st;have gb:bg fU 2 (gA (p.tasks.map dv) ((i:Int).toNat))=encS p.tasks[i].body :=by rw [dk hi,anT]
   have C:∀r:UO,_->cq Io [jr (p.tasks.map dv),iI (ln (p.tasks.map dv)),iI (i:Int),K2 p lf,.ae 0 cn,cR ro] r:=λr h=>by
    refine bF afA (bE (dz hi) (aA (cb hi) ?_));rw [gb,st.pk];exact aaH
   rw [ix hi ct.ok.tasks]at C;cases b with
   |false=>
    refine⟨false,l1,c1,kE,C _ (bp (aq ?_)),λh=>aD⟩;erw [kE];rfl
   |true=>
    obtain⟨⟨d1,s1⟩,f1⟩:=g1 rfl;obtain⟨b,l2,c2,lz,e2,g2⟩:=ih l1 c1 _ s1;refine⟨b,l2,c2,lz,C _ (av ?_),λh=> ?_⟩
    ·erw [kE];exact e2
    ·obtain⟨s2,f2⟩:=g2 h;exact abM
 intro lf cn cc st;exact k lf cn cc st
def ao0(n:Nat)(c:Int->Nat):Bool:=(List.range (n- 1)).any λi=>(c ((i+1:Nat):Int):Int) != 1
def aLq{lf:Int}{cn:aY}{c:Int->Nat}(st:ST p lf cn c)(U:1<=p.tasks.length)(hl:p.tasks.length<=32):
 cq Im [iI (ln (p.tasks.map dv)),iI 0,K2 p lf,.ae 0 cn,cR ro] (bif ao0 p.tasks.length c then(0,[bq,K2 p lf,.ae 0 cn,cR ro])else(1,[K2 p lf,.ae 0 cn,cR ro])):=by
 rw [fM];have k:=Jt (m:=p.tasks.length- 1) (p:=λi=>(c ((i+1:Nat):Int):Int) != 1) (hit:=(0,[bq,K2 p lf,.ae 0 cn,cR ro])) (done:=(1,[K2 p lf,.ae 0 cn,cR ro]))
  (LF:=λi N m=>Im (FU CX EE N) N m [iI (p.tasks.length:Int),iI ((i+1:Nat):Int),K2 p lf,.ae 0 cn,cR ro])
  (bF Xz (az (by simp<;>omega) (aq (by rw [st.pk];rfl))))
  λi hi r a b=>bF Xz (bE (by simp<;>omega) (bE (by simp<;>omega) ?_))
 ·refine bF Xz (bE (fB) (av ?_));rw [st.pk];exact k
 ·rw [st.pk,st.rep]
  by_cases h0:c ((i+1:Nat):Int)=0
  ·rw [if_pos h0];exact aq (a (by rw [h0];rfl))
  ·rw [if_neg h0];refine aW (c:=((c ((i+1:Nat):Int):Int) != 1)) (λd=>aq (a d)) λd=> ?_;have:=b d;rw [Zq (by omega)];exact this
def vR(p:PG):Bool:=bif !yO p.aR then false else bif decide (p.dP<4)then false else bif decide (64<p.dP)then false else bif decide (ln (p.tasks.map dv)<1)then false else bif decide (32<ln (p.tasks.map dv))then false else !decide (32<ln (p.c5.map gk))
def e0B(p:PG):Bool:=decide (0<ln ((qE p.tasks 0).aU.map iH))
def Z1(h:vR p=true):yO p.aR=true/\4<=p.dP/\p.dP<=64/\1<=p.tasks.length/\p.tasks.length<=32:=by
 unfold vR at h;cases a:yO p.aR with
 |false=>rw [a]at h;cases h
 |true=>
  cases b:decide (p.dP<4)with
  |true=>rw [a,b]at h;cases h
  |false=>
   cases c:decide (64<p.dP)with
   |true=>rw [a,b,c]at h;cases h
   |false=>
    cases d:decide (ln (p.tasks.map dv)<1)with
    |true=>rw [a,b,c,d]at h;cases h
    |false=>
     cases e:decide (32<ln (p.tasks.map dv))with
     |true=>rw [a,b,c,d,e]at h;cases h
     |false=>
      rw [fM]at d e;simp at b c d e;exact⟨rfl,by omega,by omega,by omega,by omega⟩
def g0t(h:1<=p.tasks.length):gR (gA (p.tasks.map dv) 0) 1=(qE p.tasks 0).aU.map iH:=by
 have:=ND (l:=p.tasks) (i:=0) (FX (i:=0) (by omega));rw [show(0:Int).toNat =0 from rfl]at this;exact kg
def aD9(hp:p.Ok):cW Yu [aG p] (bif vR p&& !e0B p then(0,[aG p])else(1,[bq,aG p])):=by
 refine cL ayj (ah (aJ5 hp.aR hp.obj) (aW (c:= !yO p.aR) (λa=>aq ?_) λa=>aW (c:=decide (p.dP<4)) (λb=>aq ?_) λb=>aW (c:=decide (64<p.dP)) (λc=>aq ?_) λc=>aW (c:=decide (ln (p.tasks.map dv)<1)) (λd=>aq ?_) λd=>aW (c:=decide (32<ln (p.tasks.map dv))) (λe=>aq ?_) λe=>aW (c:=decide (32<ln (p.c5.map gk))) (λf=>aq ?_) λf=>aA ?_ ?_))
 ·unfold vR;rw [a];rfl
 ·unfold vR;rw [a,b];rfl
 ·unfold vR;rw [a,b,c];rfl
 ·unfold vR;rw [a,b,c,d];rfl
 ·unfold vR;rw [a,b,c,d,e];rfl
 ·unfold vR;rw [a,b,c,d,e,f];rfl
 ·show decide (0<ln (p.tasks.map dv))=true;rw [fM]at d⊢;simp at d⊢;omega
 ·have U:1<=p.tasks.length:=by rw [fM]at d;simp at d;omega
  have hh:vR p=true:=by unfold vR;rw [a,b,c,d,e,f];rfl
  rw [show gR (gA (gR (km p) 2) 0) 1=(qE p.tasks 0).aU.map iH from g0t U];refine aW (c:=e0B p) (λg=>aq ?_) λg=>aq ?_
  ·rw [hh,g];rfl
  ·rw [hh,g];rfl
structure MP(p:PG):Prop where
 hd:vR p=true
 Pq:∀q∈p.c5,∀e∈q.bars,iQ p.aR e
 all:∀t∈p.tasks,vI p t.body
def aKg(hp:p.Ok)(hE:pM):∃b,Ev yr [aG p] (0,[aJ b])/\(b=true->MP p):=by
 have c6:=aD9 hp;cases hh:vR p with
 |false=>
  rw [hh]at c6;exact⟨false,bh Mk (ah c6 (av aH)),λh=>aD⟩
 |true=>
  rw [hh]at c6;simp only [zD]at c6;obtain⟨U,h2,h3,h4,h5⟩:=Z1 hh;have ol:=aBu hp.aR U;cases he:e0B p with
  |true=>
   rw [he]at c6;exact⟨false,bh Mk (ah c6 (av aH)),λh=>aD⟩
  |false=>
   rw [he]at c6;have mc:=mtC hp;cases ht:p.tasks.any (λt=> !BY t)with
   |true=>
    rw [ht]at mc;have j:cW QX [aG p] (1,[bq,aG p]):=cL af4 (ah mc.diag (bp aH));exact⟨false,bh Mk (ah c6 (bp (ah j (av aH)))),λh=>aD⟩
   |false=>
    rw [ht]at mc;have j:cW QX [aG p] (0,[aG p]):=cL af4 (ah mc.diag (av aH));have hol:1<=p.aR.length:=amA;obtain⟨x,rc⟩:=aCs hp ol hol;cases hf:MO p with
    |none=>
     rw [hf]at rc;exact⟨false,bh Mk (ah c6 (bp (ah j (bp (ah rc (bp aH)))))),λh=>aD⟩
    |some ro=>
     rw [hf]at rc;obtain⟨i1,i2,i3,i4⟩:=azb hf;have aEx:∀q∈p.c5,∀x∈q.kV,ib x p.aR.length=true:=λq hq=>by
      refine amj hp.aR ?_;have:=i3 q hq;rw [<-fM cg p.aR];exact this
     have ct:CT p p.tasks ro:=⟨⟨rfl,λ_=>rfl⟩,hp,ol,i1,λr hr=>by
      rcases i2 r hr with h|⟨h,_⟩|⟨_,h⟩
      ·exact .inl h
      ·exact .inr (.inl h)
      ·exact .inr (.inr h),h3,h5,λt ht e he=>by
       obtain⟨a,b⟩:=i4 t ht e he;obtain⟨a1,a2⟩:=Sm hp.aR a;obtain⟨b1,b2⟩:=Sm hp.aR b;exact⟨a2,b2,a1,b1⟩⟩
     obtain⟨b,p1,pr⟩:=aCz hp hE ol aEx;have C1:∀r:UO,_->Ev yr [aG p] r:=λr h=>by
      refine bh Mk (ah c6 (bp (ah j (bp (ah rc (av ?_))))));exact h
     cases b with
     |false=>
      have k:cW QL [aG p] (1,[bq,aG p]):=cL afO (ah p1.diag (bp aH));exact⟨false,C1 _ (ah k (av aH)),λh=>aD⟩
     |true=>
      have k:cW QL [aG p] (0,[aG p]):=cL afO (ah p1.diag (av aH));have tK:ST p 8192 (bz []) λ_=>0:=⟨Bl,λt=>SL,λt=>by simp,by omega,by omega,λt h=>absurd rfl h⟩;obtain⟨b,lf,cn,pk,u1,u3⟩:=aJC ct hE 8192 (bz []) _ tK;have C2:∀r:UO,_->Ev yr [aG p] r:=λr h=>by
       refine C1 r (ah k (bp (ah u1.diag ?_)));exact h
      cases b with
      |false=>exact⟨false,C2 _ (bp aH),λh=>aD⟩
      |true=>
       obtain⟨⟨c,st⟩,jP⟩:=u3 rfl;have q1:=aLq (ro:=ro) st h4 h5;have C3:∀r:UO,_->Ev yr [aG p] r:=λr h=>by
        refine C2 r (av ?_);erw [pk];refine ah q1.diag ?_;exact h
       cases ho:ao0 p.tasks.length c with
       |true=>
        rw [ho]at C3;exact⟨false,C3 _ (bp aH),λh=>aD⟩
       |false=>
        rw [ho]at C3;exact⟨true,C3 _ (av aH),λ_=>⟨hh,pr rfl,jP⟩⟩
end
end Go.Proofs.B.C
namespace Go.aj
def ajR{p:Prop}(h:p:=by rw [il];simp only [cw];omega):p:=h
def ajD{p:Prop}(h:p:=by rw [il,cw,cw];omega):p:=h
end Go.aj
namespace Go.Proofs.B
open Go Go.aj T
section
variable{z:Int->Int}{O l:List OB}{i:Nat}{o:OB}{p:PG}
def Si{j:Nat}(h:j<=mx):cQ (j:Int)=true:=by
 simp only [mx]at h;simp only [cQ,bw,gG];omega
def nj(n:Nat)(l:List (List UInt8)):List UInt8:=ind n++(l.flatten++[10])
def yw(n:Nat)(l:List (List UInt8)):(nj n l).length =2*n+l.flatten.length+1:=by
 simp only [nj,cw,uj,fk,gD];omega
def GA{O:aY}{l:List (List UInt8)}{t:List UInt8}(n:Nat)(hl:l.length<=mx)(h:t.length+(nj n l).length <=mT)(k:Nat):Ev sw [iI (n:Int),e7 (kQ l),bA k O,aX (rB t)] (0,[bA 2 O,aX (rB (t++nj n l))]):=
 zR hl (by rw [yw]at h;omega) k
structure VF(o:OB):Prop where
 z:cQ o.size=true
 a:cQ o.lo=true
 b:cQ o.hi=true
 s:(∀n∈o.set,cQ n=true)/\o.set.length<=mx
abbrev OI(i:Int)(o:OB):List (List UInt8):=[[111,98,106,32],Lib.itoa i,[32],Lib.itoa o.size,[32,112,116,114],dL o.set]
abbrev OH(i:Int)(o:OB):List (List UInt8):=[[111,98,106,32],Lib.itoa i,[32],Lib.itoa o.size,[32],Lib.itoa o.lo,[32],Lib.itoa o.hi]
def Tp(h:o.ptr=true):lr i (o::l)=nj 0 (OI i o)++lr (i+1) l:=by
 simp [lr,h,ind,nj]
def Tq(h:o.ptr=false):lr i (o::l)=nj 0 (OH i o)++lr (i+1) l:=by
 simp [lr,h,ind,nj]
def lpO(hl:l.length<=mx)(hr:∀o∈l,VF o):∀j,j<=l.length->∀t k,t.length+(lr j (l.drop j)).length <=mT->
 cq Il [bl (l.map cg),iI (ln (l.map cg)),iI (j:Int),bA k (l.map cg),aX (rB t)] (0,[bA 1 (l.map cg),aX (rB (t++lr j (l.drop j)))]):=
 down (λt k _=>bF afz (az eo (aq (by rw [qw];simp only [lr,rV];rfl))))
  λj hj ih t k hL=>bF afz<|bE (dz hj)<|aA (cb hj)<|by
   rw [dk hj,ix hj hl];obtain⟨r1,r2,r3,r4,r5⟩:=hr _ (ei hj);have yf:cQ (j:Int)=true:=Si (by omega);rw [lY hj]at hL⊢;cases hp:l[j].ptr with
   |true=>
    rw [Tp hp,cw]at hL;rw [Tp hp,<-fy];exact bE hp (ah (jW yf) (ah (jW r1) (ah (DF r5 r4) (ah (GA (l:=OI j l[j]) 0 (qY) (by omega) 1) (ih _ 1 (Jl))))))
   |false=>
    rw [Tq hp,cw]at hL;rw [Tq hp,<-fy];exact az hp (ah (jW yf) (ah (jW r1) (ah (Aq r2) (ah (Aq r3) (ah (GA (l:=OH j l[j]) 0 (qY) (by omega) 1) (ih _ 1 (Jl)))))))
def aJ6(hl:p.aR.length<=mx)(h0:0<p.aR.length)(hr:∀o∈p.aR,VF o)(hL:(lr 0 p.aR).length <=mT):
 cW X0 [J (km p),J [.jh,.au 2,bl (p.aR.map cg)],aX (rB [])] (0,[J (km p),J [.ptr 1 0 0,.au 2,bl (p.aR.map cg)],aX (rB (lr 0 p.aR))]):=by
 refine cL aw9 ?_;have hd:p.aR=p.aR[0]::p.aR.drop 1:=by
  have:=lY h0
  rwa [il]at this
 have U:decide (0<ln (p.aR.map cg))=true:=dz (i:=0) h0;have g0:gA (p.aR.map cg) 0=cg p.aR[0]:=xL h0;obtain⟨r1,r2,r3,r4,r5⟩:=hr _ (ei h0);have Vk:cQ 0=true:=rfl;rw [show gR (km p) 0=p.aR.map cg from rfl,g0];refine bE U (aA U ?_);have k1:1<=p.aR.length:=h0;have EP:∀l:List (List UInt8),(nj 0 l).length <=mT->([]:List UInt8).length +(2*0+l.flatten.length+1)<=mT:=λl h=>by rw [yw]at h;simp only [gD];omega
 cases hp:p.aR[0].ptr with
 |true=>
  have e:lr 0 p.aR=nj 0 (OI 0 p.aR[0])++lr 1 (p.aR.drop 1):=by
   conv=>lhs;rw [hd]
   exact Tp hp
  rw [e,cw]at hL;rw [e];refine bE hp (ah (jW Vk) (ah (jW r1) (ah (DF r5 r4) (ah (amr (l:=OI 0 p.aR[0]) (n:=0) (t:=[]) (qY) (EP _ (by omega)) 1) (ah (lpO hl hr 1 k1 _ 1 (by show([]++nj 0 (OI 0 p.aR[0])).length +_<=mT;rw [nO];omega)).diag (aq ?_))))));rfl
 |false=>
  have e:lr 0 p.aR=nj 0 (OH 0 p.aR[0])++lr 1 (p.aR.drop 1):=by
   conv=>lhs;rw [hd]
   exact Tq hp
  rw [e,cw]at hL;rw [e];refine az hp (ah (jW Vk) (ah (jW r1) (ah (Aq r2) (ah (Aq r3) (ah (amr (l:=OH 0 p.aR[0]) (n:=0) (t:=[]) (qY) (EP _ (by omega)) 1) (ah (lpO hl hr 1 k1 _ 1 (by show([]++nj 0 (OH 0 p.aR[0])).length +_<=mT;rw [nO];omega)).diag (aq ?_)))))));rfl
def aby{e:CE}{l:List CE}:sb z (e::l)=nj 1 [[119,104,101,110,32],bj z e]++sb z l:=by simp [sb,ind,nj]
def lpB{l:List CE}(hl:l.length<=mx)(hr:∀e∈l,WE (zO O) e/\RE O.length e):∀j,j<=l.length->∀t k,t.length+(sb (zO O) (l.drop j)).length <=mT->
 cq Qe [bR (l.map aZ),iI (ln (l.map aZ)),iI (j:Int),bA k (O.map cg),aX (rB t)] (0,[bA 1 (O.map cg),aX (rB (t++sb (zO O) (l.drop j)))]):=
 down (λt k _=>bF ae2 (az eo (aq (by rw [qw];simp only [sb,rV];rfl))))
  λj hj ih t k hL=>bF ae2<|bE (dz hj)<|aA (cb hj)<|by
   rw [dk hj,ix hj hl];obtain⟨w,r⟩:=hr _ (ei hj);rw [lY hj,aby,cw]at hL;rw [lY hj,aby,<-fy];have hx:(bj (zO O) l[j]).length <=mT:=by
    rw [yw]at hL;simp only [mY,wB,cw,fk,gD]at hL;omega
   exact ah (uZ w r hx 1) (ah (GA (l:=[[119,104,101,110,32],bj (zO O) l[j]]) 1 (qY) (by omega) 1) (ih _ 1 (Jl)))
structure RQ1(O:List OB)(q:PR):Prop where
 c:cQ q.ceil=true
 s:(∀n∈q.kV,cQ n=true)/\q.kV.length<=mx
 b:q.bars.length<=mx/\∀e∈q.bars,WE (zO O) e/\RE O.length e
abbrev prA(i:Int)(q:PR):List (List UInt8):=[[112,114,111,116,32],Lib.itoa i,[32],Lib.itoa q.ceil,dL q.kV]
def abG{q:PR}{l:List PR}:pj z i (q::l)=nj 0 (prA i q)++(sb z q.bars++pj z (i+1) l):=by simp [pj,ind,nj]
def lpP{l:List PR}(hl:l.length<=mx)(hr:∀q∈l,RQ1 O q):∀j,j<=l.length->∀t k,t.length+(pj (zO O) j (l.drop j)).length <=mT->
 cq Qz [kq (l.map gk),iI (ln (l.map gk)),iI (j:Int),bA k (O.map cg),aX (rB t)] (0,[bA 1 (O.map cg),aX (rB (t++pj (zO O) j (l.drop j)))]):=
 down (λt k _=>bF afy (az eo (aq (by rw [qw];simp only [pj,rV];rfl))))
  λj hj ih t k hL=>bF afy<|bE (dz hj)<|aA (cb hj)<|by
   rw [dk hj,ix hj hl];obtain⟨r1,⟨r2,r3⟩,r4,r5⟩:=hr _ (ei hj);rw [lY hj,abG,cw,cw]at hL;rw [lY hj,abG,<-fy,<-fy];refine ah (jW (Si (by omega))) (ah (jW r1) (ah (DF r3 r2) (ah (GA (l:=prA j l[j]) 0 (qY) (by omega) 1) (ah (lpB r4 r5 0 (qy _) _ 1 (by rw [cw,il];omega)).diag ?_))));exact ih _ 1 (ajD)
abbrev enA(e:EN):List (List UInt8):=[[101,110,116,114,121],dL e.ins,[32,45,62],dL e.outs]
def aca{e:EN}{l:List EN}:tE (e::l)=nj 1 (enA e)++tE l:=by simp [tE,ind,nj]
structure RN1(e:EN):Prop where
 i:(∀n∈e.ins,cQ n=true)/\e.ins.length<=mx
 o:(∀n∈e.outs,cQ n=true)/\e.outs.length<=mx
def lpN{O:aY}{l:List EN}(hl:l.length<=mx)(hr:∀e∈l,RN1 e):∀j,j<=l.length->∀t k,t.length+(tE (l.drop j)).length <=mT->
 cq P6 [oh (l.map iH),iI (ln (l.map iH)),iI (j:Int),bA k O,aX (rB t)] (0,[bA 1 O,aX (rB (t++tE (l.drop j)))]):=
 down (λt k _=>bF aeP (az eo (aq (by rw [qw];simp only [tE,rV];rfl))))
  λj hj ih t k hL=>bF aeP<|bE (dz hj)<|aA (cb hj)<|by
   rw [dk hj,ix hj hl];obtain⟨⟨r1,r2⟩,r3,r4⟩:=hr _ (ei hj);rw [lY hj,aca,cw]at hL;rw [lY hj,aca,<-fy];exact ah (DF r2 r1) (ah (DF r4 r3) (ah (GA (l:=enA l[j]) 1 (qY) (by omega) 1) (ih _ 1 (Jl))))
structure RT1(O:List OB)(t:TK):Prop where
 a:cQ t.prio=true
 d:cQ t.dead=true
 e:t.aU.length<=mx/\∀e∈t.aU,RN1 e
 w:WS (zO O) t.body
 r:RS O.length t.body
abbrev tkA(i:Int)(t:TK):List (List UInt8):=[[116,97,115,107,32],Lib.itoa i,[32],Lib.itoa t.prio,[32],Lib.itoa t.dead]
def abA{t:TK}{l:List TK}:pN z i (t::l)=nj 0 (tkA i t)++(tE t.aU++(cM z 1 t.body++pN z (i+1) l)):=by simp [pN,ind,nj]
def lpT{l:List TK}(hl:l.length<=mx)(hr:∀q∈l,RT1 O q):∀j,j<=l.length->∀t k,t.length+(pN (zO O) j (l.drop j)).length <=mT->
 cq Qt [jr (l.map dv),iI (ln (l.map dv)),iI (j:Int),bA k (O.map cg),aX (rB t)] (0,[bA 1 (O.map cg),aX (rB (t++pN (zO O) j (l.drop j)))]):=
 down (λt k _=>bF afr (az eo (aq (by rw [qw];simp only [pN,rV];rfl))))
  λj hj ih t k hL=>bF afr<|bE (dz hj)<|aA (cb hj)<|by
   rw [dk hj,ix hj hl,C.anT,C.apO,C.apM,C.apN];obtain⟨r1,r2,⟨r3,r4⟩,r5,r6⟩:=hr _ (ei hj);rw [lY hj,abA,cw,cw,cw]at hL;rw [lY hj,abA,<-fy,<-fy,<-fy];refine ah (jW (Si (by omega))) (ah (jW r1) (ah (Aq r2) (ah (GA (l:=tkA j l[j]) 0 (qY) (by omega) 1) (ah (lpN r3 r4 0 (qy _) _ 1 (by rw [cw,il];omega)).diag (ah (aDv _ r5 r6 1 _ 1 (ajD)) ?_)))));exact ih _ 1 (by rw [il,cw,cw,cw];omega)
def byt:∀t:List UInt8,bytesOf t.length (rB t)=some t
 | []=>rfl
 |b::t=>by
  show(match aj.byteOf [cE b.toNat]with|some c=>(match bytesOf t.length (rB t)with|some l=>some (c::l)|none=>none)|none=>none)=_;rw [byt t];have:aj.byteOf [cE b.toNat]=some b:=by
   show(match Nat.blt b.toNat 256 with|true=>some (UInt8.ofNat b.toNat)|false=>none)=_;have hb:Nat.blt b.toNat 256=true:=by rw [Nat.blt_eq];exact b.toNat_lt
   rw [hb];simp
  rw [this]
structure RG(p:PG):Prop where
 ol:p.aR.length<=mx
 o:∀o∈p.aR,VF o
 x:cQ p.dP=true
 pl:p.c5.length<=mx
 q:∀q∈p.c5,RQ1 p.aR q
 tl:p.tasks.length<=mx
 t:∀t∈p.tasks,RT1 p.aR t
def aDr(hm:Ev yr [J (km p)] (0,[fF]))(h0:0<p.aR.length)(hr:RG p)(hL:(px p).length <=mT):Ev CV [J (km p)] (0,[.str (bs (px p)),iI 0]):=by
 obtain⟨ol,ro,rx,pl,rp,tl,rt⟩:=hr;have e:px p=lr 0 p.aR++nj 0 [[101,120,99,115,32],Lib.itoa p.dP]++pj (zO p.aR) 0 p.c5++pN (zO p.aR) 0 p.tasks:=by simp [px,ind,nj]
 have ne:0<(px p).length :=by rw [e];simp only [cw,yw];omega
 rw [e]at hL;simp only [cw]at hL;refine bh agM ?_;rw [C.anV];refine ah hm (av (ah (aJ6 ol h0 ro (by omega)) (ah (jW rx) (ah (GA (l:=[[101,120,99,115,32],Lib.itoa p.dP]) 0 (qY) (by rw [yw]at hL⊢;omega) 1) (ah (o:=(0,[J (km p),J [.ptr 1 0 0,.au 2,bl (p.aR.map cg)],aX (rB (lr 0 p.aR++nj 0 [[101,120,99,115,32],Lib.itoa p.dP]++pj (zO p.aR) 0 p.c5))])) (cL awJ ?_) ?_)))))
 ·exact ah (lpP pl rp 0 (qy _) _ 1 (ajR)).diag aH
 ·refine ah (lpT tl rt 0 (qy _) _ 1 (ajR)).diag (ah (o:=(0,[.str (bs (px p)),bA 1 (p.aR.map cg)])) (bh arV ?_) aH);show E (λN _=>bf (decide (0<(rB (lr 0 p.aR++nj 0 [[101,120,99,115,32],Lib.itoa p.dP]++pj (zO p.aR) 0 p.c5++pN (zO p.aR) 0 p.tasks)).length))<|bf (decide (0<ln (rB (lr 0 p.aR++nj 0 [[101,120,99,115,32],Lib.itoa p.dP]++pj (zO p.aR) 0 p.c5++pN (zO p.aR) 0 p.tasks))))<|ado (ln (rB (lr 0 p.aR++nj 0 [[101,120,99,115,32],Lib.itoa p.dP]++pj (zO p.aR) 0 p.c5++pN (zO p.aR) 0 p.tasks))).toNat (rB (lr 0 p.aR++nj 0 [[101,120,99,115,32],Lib.itoa p.dP]++pj (zO p.aR) 0 p.c5++pN (zO p.aR) 0 p.tasks)) λb1=>some (0,[.str (an0 b1),bA 1 (p.aR.map cg)])) _;rw [<-e];have hn:(rB (px p)).length =(px p).length :=Sw _;refine aA (by rw [hn];exact vq ne) (aA (by unfold ln;rw [hn];exact vq (by omega)) ?_);rw [show(ln (rB (px p))).toNat =(px p).length by unfold ln;rw [hn,pZ]];unfold ado;rw [byt];exact aH
end
open Go Go.aj T C
section
variable{e:CE}{l:List OB}{q:PL}{α:Type}
inductive IE:CE->Prop
 |mk(e:CE)(n:cQ e.N=true)(o:cQ e.O=true)(f:cQ e.off=true)(l:cQ e.len=true)(a:cQ e.lo=true)(b:cQ e.hi=true)(h:∀y∈e.L,IE y):IE e
def ai0(h:sc e=true):(gx e).2 =e.L.length/\(gx e).1.N =e.N/\(gx e).1.op =e.op/\(gx e).1.O =e.O/\(gx e).1.off =e.off/\(gx e).1.len =e.len/\(gx e).1.lo =e.lo/\(gx e).1.hi =e.hi:=by
 unfold sc at h;simp only [bw,iU]at h;obtain⟨⟨⟨⟨⟨⟨⟨a,b⟩,c⟩,d⟩,e⟩,f⟩,g⟩,h⟩:=h;exact⟨a,b,c,d,e,f,g,h⟩
def ie{l:List α}(h:(0:Int)=l.length):l=[]:=wE (by omega)
def pn{l:List α}(h:(1:Int)=l.length):∃a,l=[a]:=by
 match l,h with
 | [a],_=>exact⟨a,rfl⟩
 | [],h=>exact gU
 |_::_::_,h=>exact yC
def D1{l:List α}(h:(2:Int)=l.length):∃a b,l=[a,b]:=by
 match l,h with
 | [a,b],_=>exact⟨a,b,rfl⟩
 | [],h=>exact gU
 | [_],h=>exact gU
 |_::_::_::_,h=>exact yC
def ape{l:List α}(h:(3:Int)=l.length):∃a b c,l=[a,b,c]:=by
 match l,h with
 | [a,b,c],_=>exact⟨a,b,c,rfl⟩
 | [],h=>exact gU
 | [_],h=>exact gU
 | [_,_],h=>exact gU
 |_::_::_::_::_,h=>exact yC
def ajh{o f:Int}(h:qb l o f=true)(hz:zO l o=1):f=0:=by
 have hi:=Dh h;have hb:=oX.1 hi;unfold qb at h;rw [show decide (0<=o)=true by simpa using hb.1,show decide (o<(l.length:Int))=true by simpa using hb.2]at h;have hk:o.toNat<l.length:=by omega
 have e:(fp l o).size =zO l o:=by simp [fp,zO,hk]
 cases a:decide (0<=f)with
 |false=>rw [a]at h;cases h
 |true=>
  rw [a]at h;have h2:f<(fp l o).size :=yy h;rw [e,hz]at h2;have:=yy a;omega
def aBG(h:sc e=true):1<=e.kind/\e.kind<=14:=by
 have h0:=(ai0 h).1
 by_cases hk:1<=e.kind/\e.kind<=14
 ·exact hk
 ·exfalso;have e1:(gx e).2 = -1:=by
   have ne:∀c:Int,1<=c->c<=14->(e.kind==c)=false:=λc U h2=>fB;unfold gx kN kT;rw [ne 1 (by omega) (by omega),ne 11 (by omega) (by omega),ne 14 (by omega) (by omega),ne 2 (by omega) (by omega),ne 3 (by omega) (by omega),ne 4 (by omega) (by omega),ne 5 (by omega) (by omega),ne 6 (by omega) (by omega),ne 7 (by omega) (by omega),ne 10 (by omega) (by omega),ne 8 (by omega) (by omega),ne 9 (by omega) (by omega),ne 12 (by omega) (by omega),ne 13 (by omega) (by omega)];rfl
  omega
def Br:∀e:CE,iQ l e->WE (zO l) e:=by
 refine CE.ind λe ih h=> ?_;obtain⟨_,U,h2,h4,h5,hk,hf⟩:=h;obtain⟨k1,k2⟩:=aBG hf;obtain⟨e0,eN,ep,eO,ef,el,ea,eb⟩:=ai0 hf;have kd:∀y∈e.L,WE (zO l) y:=λy hy=>ih y hy (hk y hy);clear ih hk U hf;obtain⟨k,p,n,o,f,ln,lo,hi,L⟩:=e;simp only [CE.kind,CE.op,CE.N,CE.O,CE.off,CE.len,CE.lo,CE.hi,CE.L]at h2 h4 h5 k1 k2 e0 eN ep eO ef el ea eb kd;have hk:k=1∨k=2∨k=3∨k=4∨k=5∨k=6∨k=7∨k=8∨k=9∨k=10∨k=11∨k=12∨k=13∨k=14:=by omega
 rcases hk with rfl|rfl|rfl|rfl|rfl|rfl|rfl|rfl|rfl|rfl|rfl|rfl|rfl|rfl
 ·obtain rfl:=ie (show(0:Int)=_ from e0);obtain rfl:=show(0:Int)=p from ep;obtain rfl:=show(0:Int)=o from eO;obtain rfl:=show(0:Int)=f from ef;obtain rfl:=show(0:Int)=ln from el;obtain rfl:=show(0:Int)=lo from ea;obtain rfl:=show(0:Int)=hi from eb;exact .num n
 ·obtain rfl:=ie (show(0:Int)=_ from e0);obtain rfl:=show(0:Int)=p from ep;obtain rfl:=show(0:Int)=n from eN;obtain rfl:=show(0:Int)=ln from el;obtain rfl:=show(0:Int)=lo from ea;obtain rfl:=show(0:Int)=hi from eb;exact .slot o f (ajh (h2 rfl))
 ·obtain⟨a,rfl⟩:=pn (show(1:Int)=_ from e0);obtain rfl:=show(0:Int)=p from ep;obtain rfl:=show(0:Int)=n from eN;obtain rfl:=show(0:Int)=lo from ea;obtain rfl:=show(0:Int)=hi from eb;exact .elem o f ln a (kd a (by simp))
 ·obtain⟨a,rfl⟩:=pn (show(1:Int)=_ from e0);obtain rfl:=show(0:Int)=n from eN;obtain rfl:=show(0:Int)=o from eO;obtain rfl:=show(0:Int)=f from ef;obtain rfl:=show(0:Int)=ln from el;obtain rfl:=show(0:Int)=lo from ea;obtain rfl:=show(0:Int)=hi from eb;exact .un p a (h4 rfl) (kd a (by simp))
 ·obtain⟨a,b,rfl⟩:=D1 (show(2:Int)=_ from e0);obtain rfl:=show(0:Int)=n from eN;obtain rfl:=show(0:Int)=o from eO;obtain rfl:=show(0:Int)=f from ef;obtain rfl:=show(0:Int)=ln from el;obtain rfl:=show(0:Int)=lo from ea;obtain rfl:=show(0:Int)=hi from eb;exact .bin p a b (h5 rfl) (kd a (by simp)) (kd b (by simp))
 ·obtain⟨a,b,rfl⟩:=D1 (show(2:Int)=_ from e0);obtain rfl:=show(0:Int)=p from ep;obtain rfl:=show(0:Int)=n from eN;obtain rfl:=show(0:Int)=o from eO;obtain rfl:=show(0:Int)=f from ef;obtain rfl:=show(0:Int)=ln from el;obtain rfl:=show(0:Int)=lo from ea;obtain rfl:=show(0:Int)=hi from eb;exact .Oz a b (kd a (by simp)) (kd b (by simp))
 ·obtain⟨a,b,rfl⟩:=D1 (show(2:Int)=_ from e0);obtain rfl:=show(0:Int)=p from ep;obtain rfl:=show(0:Int)=n from eN;obtain rfl:=show(0:Int)=o from eO;obtain rfl:=show(0:Int)=f from ef;obtain rfl:=show(0:Int)=ln from el;obtain rfl:=show(0:Int)=lo from ea;obtain rfl:=show(0:Int)=hi from eb;exact .els a b (kd a (by simp)) (kd b (by simp))
 ·obtain⟨a,b,c,rfl⟩:=ape (show(3:Int)=_ from e0);obtain rfl:=show(0:Int)=p from ep;obtain rfl:=show(0:Int)=n from eN;obtain rfl:=show(0:Int)=o from eO;obtain rfl:=show(0:Int)=f from ef;obtain rfl:=show(0:Int)=ln from el;obtain rfl:=show(0:Int)=lo from ea;obtain rfl:=show(0:Int)=hi from eb;exact .ite a b c (kd a (by simp)) (kd b (by simp)) (kd c (by simp))
 ·obtain⟨a,rfl⟩:=pn (show(1:Int)=_ from e0);obtain rfl:=show(0:Int)=p from ep;obtain rfl:=show(0:Int)=n from eN;obtain rfl:=show(0:Int)=o from eO;obtain rfl:=show(0:Int)=f from ef;obtain rfl:=show(0:Int)=ln from el;exact .n7 lo hi a (kd a (by simp))
 ·obtain⟨a,b,rfl⟩:=D1 (show(2:Int)=_ from e0);obtain rfl:=show(0:Int)=p from ep;obtain rfl:=show(0:Int)=n from eN;obtain rfl:=show(0:Int)=o from eO;obtain rfl:=show(0:Int)=f from ef;obtain rfl:=show(0:Int)=ln from el;obtain rfl:=show(0:Int)=lo from ea;obtain rfl:=show(0:Int)=hi from eb;exact .lt a b (kd a (by simp)) (kd b (by simp))
 ·obtain rfl:=ie (show(0:Int)=_ from e0);obtain rfl:=show(0:Int)=p from ep;obtain rfl:=show(0:Int)=o from eO;obtain rfl:=show(0:Int)=f from ef;obtain rfl:=show(0:Int)=ln from el;obtain rfl:=show(0:Int)=lo from ea;obtain rfl:=show(0:Int)=hi from eb;exact .loc n
 ·obtain rfl:=ie (show(0:Int)=_ from e0);obtain rfl:=show(0:Int)=p from ep;obtain rfl:=show(0:Int)=n from eN;obtain rfl:=show(0:Int)=f from ef;obtain rfl:=show(0:Int)=ln from el;obtain rfl:=show(0:Int)=lo from ea;obtain rfl:=show(0:Int)=hi from eb;exact .Ps o
 ·obtain⟨a,rfl⟩:=pn (show(1:Int)=_ from e0);obtain rfl:=show(0:Int)=p from ep;obtain rfl:=show(0:Int)=n from eN;obtain rfl:=show(0:Int)=o from eO;obtain rfl:=show(0:Int)=f from ef;obtain rfl:=show(0:Int)=ln from el;obtain rfl:=show(0:Int)=lo from ea;obtain rfl:=show(0:Int)=hi from eb;exact .zr a (kd a (by simp))
 ·obtain rfl:=ie (show(0:Int)=_ from e0);obtain rfl:=show(0:Int)=p from ep;obtain rfl:=show(0:Int)=o from eO;obtain rfl:=show(0:Int)=f from ef;obtain rfl:=show(0:Int)=ln from el;obtain rfl:=show(0:Int)=lo from ea;obtain rfl:=show(0:Int)=hi from eb;exact .Pp n
def Jv:∀e:CE,iQ l e->IE e->RE l.length e:=by
 refine CE.ind λe ih h hi=> ?_;obtain⟨_,U,_,_,_,hk,_⟩:=h;obtain⟨_,n,o,f,ll,a,b,hy⟩:=hi;exact .mk e n o f ll a b (λk=>oX.1 (U (by rw [k];rfl))) λy hy'=>ih y hy' (hk y hy') (hy y hy')
structure IP(p:PL):Prop where
 o:cQ p.O=true
 f:cQ p.off=true
 l:cQ p.len=true
 e:∀x∈p.E,IE x
def amg(h:tg l q):WP (zO l) q:=by
 obtain⟨hf,hs,he⟩:=h;have we:∀e∈q.E,WE (zO l) e:=λe h=>Br e (he e h);obtain⟨k,o,f,n,E1⟩:=q;unfold vM xd tM pU Az Ay Ax at hf;simp only at hf hs we
 by_cases k1:k=1
 ·subst k1;simp only [vj,bU,bw,iU]at hf;obtain⟨_,_,_,h3,h4⟩:=hf;obtain rfl:=ie h4.symm;obtain rfl:=show(0:Int)=n from h3;exact .slot o f (ajh (hs rfl))
 ·have n1:(k==1)=false:=by simpa using k1
  rw [n1]at hf
  by_cases k2:k=2
  ·subst k2;simp only [vj,bU,cf,bw,iU]at hf;obtain⟨_,_,_,_,h4⟩:=hf;obtain⟨a,rfl⟩:=pn h4.symm;exact .elem o f n a (we a (by simp))
  ·have n2:(k==2)=false:=by simpa using k2
   rw [n2]at hf;simp only [cf,bw,iU]at hf;obtain⟨h0,U,h2,h3,h4⟩:=hf;subst h0;obtain⟨a,rfl⟩:=pn h4.symm;obtain rfl:=show(0:Int)=o from U;obtain rfl:=show(0:Int)=f from h2;obtain rfl:=show(0:Int)=n from h3;exact .zr a (we a (by simp))
def amq(h:tg l q)(hi:IP q):RP l.length q:=
 ⟨hi.o,hi.f,hi.l,λk=>oX.1 (Dh (h.sl k)),λx hx=>Jv x (h.e x hx) (hi.e x hx)⟩
end
section
variable{s:CS}{f:dU}{l:List OB}{p:PG}{A D H L:aY}
structure IF(f:dU):Prop where
 N:cQ f.N=true
 O:cQ f.O=true
 T:cQ f.T=true
 P:cQ f.P=true
 y:cQ f.entry=true
 S:∀n∈f.Ts,cQ n=true
 E:∀e∈f.E,IE e
 I:∀e∈f.Ins,IE e
 To:∀p∈f.To,IP p
 Out:∀p∈f.fE,IP p
inductive IS:CS->Prop
 |mk(s:CS)(f:IF s.f)(x:∀h∈s.H,∀n∈h.dP,cQ n=true)(q:∀x∈s.A,IE x.guard/\cQ x.entry=true/\∀e∈x.E,IE e)(h:∀y∈s.kids,IS y):IS s
def yQ{α:Type}{f:α->Row}{l:List α}(h:(l.map f).isEmpty =true):l=[]:=by cases l<;>simp_all
def Ny(h:oa s=true):s=jB:=by
 unfold oa Eh xB lB at h;simp only [bw,iU]at h;obtain⟨⟨h0,U,h2,h3,h4,h5,h6,h7,h8,h9,lR,pA⟩,g0,g1,g2,g3,g4,g5,g6,g7,g8⟩:=h;obtain⟨⟨k,N,O,T,P,y,In,rev,lu,els,jT,mode,E1,Ins,To,fE,Ts⟩,L,D,H,A⟩:=s;obtain rfl:=yQ g0;obtain rfl:=yQ g1;obtain rfl:=yQ g2;obtain rfl:=yQ g3;obtain rfl:=yQ g4;obtain rfl:=yQ g5;obtain rfl:=yQ g6;obtain rfl:=yQ g7;obtain rfl:=yQ g8;obtain rfl:=show k=1 from h0;obtain rfl:=show N=0 from U;obtain rfl:=show O=0 from h2;obtain rfl:=show T=0 from h3;obtain rfl:=show P=0 from h4;obtain rfl:=show y=0 from h5;obtain rfl:=show mode=0 from h6;obtain rfl:=show In=false from h7;obtain rfl:=show rev=false from h8;obtain rfl:=show lu=false from h9;obtain rfl:=show els=false from lR;obtain rfl:=show jT=false from pA;rfl
def aFf(h:w8 f L D H A=true):(1<=f.kind/\f.kind<=22)/\f.x=xS f f.kind:=by
 unfold w8 tL at h;simp only [bw]at h;obtain⟨hk,⟨hx,_⟩,_⟩:=h;refine⟨?_,?_⟩
 ·simp only [Ha,Bool.cond_eq_ite,Bool.if_true_left,A8,gG,iU,RJ]at hk;omega
 ·unfold xB at hx;simp only [bw,iU]at hx;obtain⟨_,U,h2,h3,h4,h5,h6,h7,h8,h9,lR,pA⟩:=hx;generalize xS f f.kind=z at U h2 h3 h4 h5 h6 h7 h8 h9 lR pA⊢;generalize f.x=u at U h2 h3 h4 h5 h6 h7 h8 h9 lR pA⊢;cases u;cases z;simp only at U h2 h3 h4 h5 h6 h7 h8 h9 lR pA;subst U;subst h2;subst h3;subst h4;subst h5;subst h6;subst h7;subst h8;subst h9;subst lR;subst pA;rfl
def an2(hf:f.Ok)(h:w8 f L D H A=true):(f.kind≠16->f.Ins=[]/\f.fE=[])/\(f.kind≠9->f.kind≠22->f.Ts=[]):=by
 unfold w8 at h;simp only [bw]at h;have ht:=h.2.2;obtain⟨m1,_,_,m4,_⟩:=ao2 f.kind;unfold Oy at ht;rw [m1,m4,w2 (by rw [fY];exact hf.Ins.1) (by rw [fY];exact hf.fE.1)]at ht;simp only [bw]at ht;refine⟨λk=> ?_,λk k'=> ?_⟩
 ·have:=ht.1;rw [show(f.kind==16)=false by simpa using k]at this;simp only [cf,bw]at this;exact⟨yQ this.1,yQ this.2⟩
 ·have:=ht.2.1;rw [show(f.kind==9)=false by simpa using k,show(f.kind==22)=false by simpa using k']at this;simp only [Bool.or_self,cf,iU]at this;rw [fM]at this;exact wE (by omega)
structure FF(p:PG)(f:dU):Prop where
 e:∀e∈f.E,iQ p.aR e
 i:∀e∈f.Ins,iQ p.aR e
 t:∀q∈f.To,tg p.aR q
 o:∀q∈f.fE,tg p.aR q
def ann(hf:s.f.Ok)(h:Fact p s):FF p s.f:=by
 obtain⟨hs,⟨w,r⟩,_⟩:=h;obtain⟨l1,_⟩:=an2 hf hs;refine⟨λe he=> ?_,λe he=> ?_,r.To,λq hq=> ?_⟩
 ·by_cases k:s.f.kind=16∨s.f.kind=17
  ·rcases r.wm k with⟨_,h,_⟩|⟨_,h⟩|⟨_,e',h,hi⟩
   ·rw [h]at he;cases he
   ·rw [h]at he;cases he
   ·rw [h]at he;rw [my.1 he];exact hi
  ·exact r.E (λh=>k (.inl h)) (λh=>k (.inr h)) e he
 ·by_cases k:s.f.kind=16
  ·exact(r.io k).1 e he
  ·rw [(l1 k).1]at he;cases he
 ·by_cases k:s.f.kind=16
  ·exact(r.io k).2 q hq
  ·rw [(l1 k).2]at hq;cases hq
def aDM:∀s:CS,vI p s->s.Ok->IS s->RS p.aR.length s:=by
 refine CS.ind λs ih h bB hi=> ?_;obtain⟨_,hF,hk⟩:=h;obtain⟨_,hf,hL,hD,hH,hA,U,h2,uA⟩:=bB;obtain⟨_,⟨iN,iO,iT,iP,iy,iS,iE,iI,iTo,aKy⟩,ix,iq,ik⟩:=hi;obtain⟨fe,fi,ft,fo⟩:=ann hf hF;refine .mk s ⟨iN,iO,iT,iP,iy,⟨iS,hf.Ts⟩,λe he=>Jv e (fe e he) (iE e he),⟨λe he=>Jv e (fi e he) (iI e he),hf.Ins.1⟩,λq hq=>amq (ft q hq) (iTo q hq),⟨λq hq=>amq (fo q hq) (aKy q hq),hf.fE.1⟩⟩
  hL hD hH hA (λx hx=>⟨ix x hx,(U x hx).dP⟩) (λx hx=> ?_) λy hy=>ih y hy (hk y hy) (uA y hy) (ik y hy)
 by_cases ql:s.f.kind=19
 ·obtain⟨hg,HC⟩:=(hF.al ql).1 x hx;obtain⟨q1,q2,q3⟩:=iq x hx;refine⟨Jv _ hg q1,q2,λe he=> ?_⟩;rcases HC with⟨_,h⟩|⟨_,_,e',h,hi,_⟩|⟨_,_,h,_⟩
  ·rw [h]at he;cases he
  ·have q3:=q3 e he;rw [h]at he;rw [my.1 he]at q3⊢;exact Jv e' hi q3
  ·rw [h]at he;cases he
 ·have:=(YN hf (aaQ) (aaP) hF.sh).2 ql;rw [e8.1 this]at hx;cases hx
def amh{X:List CS}(h:K6 l f X):WM (zO l) f.mode f.E/\(f.mode=0->∀y∈X,y=jB):=by
 rcases h with⟨U,h2,h3⟩|⟨U,h2⟩|⟨U,e,h2,h3⟩
 ·rw [U,h2];exact⟨.smp,λ_ y hy=>Ny (h3 y hy)⟩
 ·rw [U,h2];exact⟨.els,λh=>gU⟩
 ·rcases U with U|U
  ·rw [U,h2];exact⟨.tmd e (Br e h3),λh=>gU⟩
  ·rw [U,h2];exact⟨.unt e (Br e h3),λh=>gU⟩
def aEW{x:CA}(hg:iQ l x.guard)(h:Ec l x):WE (zO l) x.guard/\((∃n,x= .mk 1 x.guard n [] x.body x.after)∨(∃q e,(q=2∨q=3)/\WE (zO l) e/\x= .mk q x.guard 0 [e] jB x.after)∨x= .mk 4 x.guard 0 [] jB jB):=by
 refine⟨Br _ hg,?_⟩;obtain⟨q,g,n,E1,b,a⟩:=x;rcases h with⟨U,h2⟩|⟨U,h2,e,h3,h4,h5⟩|⟨U,h2,h3,h4,h5⟩
 ·obtain rfl:=show q=1 from U;obtain rfl:=show E1=[]from h2;exact .inl ⟨n,rfl⟩
 ·obtain rfl:=show n=0 from h2;obtain rfl:=show E1=[e]from h3;obtain rfl:=Ny (show oa b=true from h5);exact .inr (.inl ⟨q,e,U,Br e h4,rfl⟩)
 ·obtain rfl:=show q=4 from U;obtain rfl:=show n=0 from h2;obtain rfl:=show E1=[]from h3;obtain rfl:=Ny (show oa b=true from h4);obtain rfl:=Ny (show oa a=true from h5);exact .inr (.inr rfl)
def ame:∀s:CS,vI p s->s.Ok->WS (zO p.aR) s:=by
 refine CS.ind λs ih h bB=> ?_;obtain⟨_,hF,hk⟩:=h;obtain⟨_,hf,hL,hD,hH,hA,_,_,uA⟩:=bB;have kd:∀y∈s.kids,WS (zO p.aR) y:=λy hy=>ih y hy (hk y hy) (uA y hy);clear ih hk uA;obtain⟨fe,fi,ft,fo⟩:=ann hf hF;have we:∀e∈s.f.E,WE (zO p.aR) e:=λe h=>Br e (fe e h);have wi:∀e∈s.f.Ins,WE (zO p.aR) e:=λe h=>Br e (fi e h);have wp:∀q∈s.f.To,WP (zO p.aR) q:=λq h=>amg (ft q h);have wo:∀q∈s.f.fE,WP (zO p.aR) q:=λq h=>amg (fo q h);have kL:∀y∈s.L,WS (zO p.aR) y:=λy hy=>kd y (yR hy);have kD:∀d∈s.D,WS (zO p.aR) d.d/\WS (zO p.aR) d.u:=λd hd=>⟨kd _ (wU hd).1,kd _ (wU hd).2⟩;have kH:∀x∈s.H,WS (zO p.aR) x.body:=λx hx=>kd _ (GI hx);have kA:∀x∈s.A,WS (zO p.aR) x.body/\WS (zO p.aR) x.after:=λx hx=>⟨kd _ (wV hx).1,kd _ (wV hx).2⟩;obtain⟨hs,⟨wh,r⟩,HC⟩:=hF;obtain⟨⟨k1,k2⟩,hx⟩:=aFf hs;obtain⟨l1,l2⟩:=an2 hf hs;obtain⟨n9,py⟩:=YN hf (aaQ) (aaP) hs;obtain⟨g1,g2,g3⟩:=ZT _ _ _ _ _ hs;have hN:=r.N;have hwm:=r.wm;clear kd hs r fe fi ft fo hf hD hH hA hL;obtain⟨⟨k,N,O,T,P,y,In,rev,lu,els,jT,mode,E1,Ins,To,fE,Ts⟩,L,D,H,A⟩:=s;simp only [CS.f,CS.L,CS.D,CS.H,CS.A]at*;rw [fM]at g1 g3;rw [fM]at g2;have hk:k=1∨k=2∨k=3∨k=4∨k=5∨k=6∨k=7∨k=8∨k=9∨k=10∨k=11∨k=12∨k=13∨k=14∨k=15∨k=16∨k=17∨k=18∨k=19∨k=20∨k=21∨k=22:=by omega
 rcases hk with rfl|rfl|rfl|rfl|rfl|rfl|rfl|rfl|rfl|rfl|rfl|rfl|rfl|rfl|rfl|rfl|rfl|rfl|rfl|rfl|rfl|rfl
 ·obtain rfl:=ie (show(0:Int)=_ from(g1).symm);obtain rfl:=ie (show(0:Int)=_ from(g2).symm);obtain rfl:=ie (show(0:Int)=_ from(g3).symm);obtain⟨rfl,rfl⟩:=l1 (bM);obtain rfl:=l2 (bM) (bM);obtain⟨nD,nH⟩:=n9 (bM);obtain rfl:=e8.1 nD;obtain rfl:=e8.1 nH;obtain rfl:=e8.1 (py (bM));obtain⟨eN,eO,eT,eP,ey,jv,jk,jj,jl,jm,js⟩:=XF.mk.inj hx;subst eN;subst eO;subst eT;subst eP;subst ey;subst jv;subst jk;subst jj;subst jl;subst jm;subst js;exact .null
 ·obtain⟨e,rfl⟩:=pn (show(1:Int)=_ from(g1).symm);obtain⟨q,rfl⟩:=pn (show(1:Int)=_ from(g2).symm);obtain rfl:=ie (show(0:Int)=_ from(g3).symm);obtain⟨rfl,rfl⟩:=l1 (bM);obtain rfl:=l2 (bM) (bM);obtain⟨nD,nH⟩:=n9 (bM);obtain rfl:=e8.1 nD;obtain rfl:=e8.1 nH;obtain rfl:=e8.1 (py (bM));obtain⟨eN,eO,eT,eP,ey,jv,jk,jj,jl,jm,js⟩:=XF.mk.inj hx;subst eN;subst eO;subst eT;subst eP;subst ey;subst jv;subst jk;subst jj;subst jl;subst jm;subst js;exact .set q e (wp q (by simp)) (we e (by simp))
 ·obtain rfl:=ie (show(0:Int)=_ from(g1).symm);obtain rfl:=ie (show(0:Int)=_ from(g2).symm);obtain⟨rfl,rfl⟩:=l1 (bM);obtain rfl:=l2 (bM) (bM);obtain⟨nD,nH⟩:=n9 (bM);obtain rfl:=e8.1 nD;obtain rfl:=e8.1 nH;obtain rfl:=e8.1 (py (bM));obtain⟨eN,eO,eT,eP,ey,jv,jk,jj,jl,jm,js⟩:=XF.mk.inj hx;subst eN;subst eO;subst eT;subst eP;subst ey;subst jv;subst jk;subst jj;subst jl;subst jm;subst js;exact .seq L λs hs=>kL s hs
 ·obtain⟨e,rfl⟩:=pn (show(1:Int)=_ from(g1).symm);obtain rfl:=ie (show(0:Int)=_ from(g2).symm);obtain⟨a,b,rfl⟩:=D1 (show(2:Int)=_ from(g3).symm);obtain⟨rfl,rfl⟩:=l1 (bM);obtain rfl:=l2 (bM) (bM);obtain⟨nD,nH⟩:=n9 (bM);obtain rfl:=e8.1 nD;obtain rfl:=e8.1 nH;obtain rfl:=e8.1 (py (bM));obtain⟨eN,eO,eT,eP,ey,jv,jk,jj,jl,jm,js⟩:=XF.mk.inj hx;subst eN;subst eO;subst eT;subst eP;subst ey;subst jv;subst jk;subst jj;subst jl;subst jm;subst js;exact .ite e a b (we e (by simp)) (kL a (by simp)) (kL b (by simp))
 ·obtain⟨e,rfl⟩:=pn (show(1:Int)=_ from(g1).symm);obtain rfl:=ie (show(0:Int)=_ from(g2).symm);obtain⟨a,rfl⟩:=pn (show(1:Int)=_ from(g3).symm);obtain⟨rfl,rfl⟩:=l1 (bM);obtain rfl:=l2 (bM) (bM);obtain⟨nD,nH⟩:=n9 (bM);obtain rfl:=e8.1 nD;obtain rfl:=e8.1 nH;obtain rfl:=e8.1 (py (bM));obtain⟨eN,eO,eT,eP,ey,jv,jk,jj,jl,jm,js⟩:=XF.mk.inj hx;subst eN;subst eO;subst eT;subst eP;subst ey;subst jv;subst jk;subst jj;subst jl;subst jm;subst js;exact .Kj e a (we e (by simp)) (kL a (by simp))
 ·obtain⟨e,d,rfl⟩:=D1 (show(2:Int)=_ from(g1).symm);obtain rfl:=ie (show(0:Int)=_ from(g2).symm);obtain⟨a,rfl⟩:=pn (show(1:Int)=_ from(g3).symm);obtain⟨rfl,rfl⟩:=l1 (bM);obtain rfl:=l2 (bM) (bM);obtain⟨nD,nH⟩:=n9 (bM);obtain rfl:=e8.1 nD;obtain rfl:=e8.1 nH;obtain rfl:=e8.1 (py (bM));obtain⟨eN,eO,eT,eP,ey,jv,jk,jj,jl,jm,js⟩:=XF.mk.inj hx;subst eN;subst eT;subst eP;subst ey;subst jv;subst jj;subst jl;subst jm;subst js;exact .fr O rev e d a (we e (by simp)) (we d (by simp)) (kL a (by simp))
 ·obtain rfl:=ie (show(0:Int)=_ from(g1).symm);obtain rfl:=ie (show(0:Int)=_ from(g2).symm);obtain⟨a,rfl⟩:=pn (show(1:Int)=_ from(g3).symm);obtain⟨rfl,rfl⟩:=l1 (bM);obtain rfl:=l2 (bM) (bM);obtain⟨nD,nH⟩:=n9 (bM);obtain rfl:=e8.1 nD;obtain rfl:=e8.1 nH;obtain rfl:=e8.1 (py (bM));obtain⟨eN,eO,eT,eP,ey,jv,jk,jj,jl,jm,js⟩:=XF.mk.inj hx;subst eO;subst eT;subst eP;subst ey;subst jv;subst jk;subst jj;subst jl;subst jm;subst js;exact .mark N a (kL a (by simp))
 ·obtain rfl:=ie (show(0:Int)=_ from(g1).symm);obtain rfl:=ie (show(0:Int)=_ from(g2).symm);obtain rfl:=ie (show(0:Int)=_ from(g3).symm);obtain⟨rfl,rfl⟩:=l1 (bM);obtain rfl:=l2 (bM) (bM);obtain⟨nD,nH⟩:=n9 (bM);obtain rfl:=e8.1 nD;obtain rfl:=e8.1 nH;obtain rfl:=e8.1 (py (bM));obtain⟨eN,eO,eT,eP,ey,jv,jk,jj,jl,jm,js⟩:=XF.mk.inj hx;subst eO;subst eT;subst eP;subst ey;subst jv;subst jk;subst jj;subst jl;subst jm;subst js;exact .leave N
 ·obtain rfl:=ie (show(0:Int)=_ from(g1).symm);obtain rfl:=ie (show(0:Int)=_ from(g2).symm);obtain⟨a,rfl⟩:=pn (show(1:Int)=_ from(g3).symm);obtain⟨rfl,rfl⟩:=l1 (bM);obtain rfl:=e8.1 (py (bM));obtain⟨eN,eO,eT,eP,ey,jv,jk,jj,jl,jm,js⟩:=XF.mk.inj hx;subst eN;subst eO;subst eT;subst eP;subst ey;subst jv;subst jk;subst jj;subst jl;subst jm;subst js;exact .scope Ts a D H (kL a (by simp)) (λd hd=>(kD d hd).1) (λd hd=>(kD d hd).2) kH
 ·obtain rfl:=ie (show(0:Int)=_ from(g1).symm);obtain rfl:=ie (show(0:Int)=_ from(g2).symm);obtain rfl:=ie (show(0:Int)=_ from(g3).symm);obtain⟨rfl,rfl⟩:=l1 (bM);obtain rfl:=l2 (bM) (bM);obtain⟨nD,nH⟩:=n9 (bM);obtain rfl:=e8.1 nD;obtain rfl:=e8.1 nH;obtain rfl:=e8.1 (py (bM));obtain⟨eN,eO,eT,eP,ey,jv,jk,jj,jl,jm,js⟩:=XF.mk.inj hx;subst eO;subst eT;subst eP;subst ey;subst jv;subst jk;subst jj;subst jl;subst jm;subst js;exact .raise N (hN rfl)
 ·obtain⟨e,rfl⟩:=pn (show(1:Int)=_ from(g1).symm);obtain rfl:=ie (show(0:Int)=_ from(g2).symm);obtain rfl:=ie (show(0:Int)=_ from(g3).symm);obtain⟨rfl,rfl⟩:=l1 (bM);obtain rfl:=l2 (bM) (bM);obtain⟨nD,nH⟩:=n9 (bM);obtain rfl:=e8.1 nD;obtain rfl:=e8.1 nH;obtain rfl:=e8.1 (py (bM));obtain⟨eN,eO,eT,eP,ey,jv,jk,jj,jl,jm,js⟩:=XF.mk.inj hx;subst eN;subst eO;subst eT;subst eP;subst ey;subst jv;subst jk;subst jj;subst jl;subst jm;subst js;exact .put e (we e (by simp))
 ·obtain rfl:=ie (show(0:Int)=_ from(g1).symm);obtain⟨q,rfl⟩:=pn (show(1:Int)=_ from(g2).symm);obtain rfl:=ie (show(0:Int)=_ from(g3).symm);obtain⟨rfl,rfl⟩:=l1 (bM);obtain rfl:=l2 (bM) (bM);obtain⟨nD,nH⟩:=n9 (bM);obtain rfl:=e8.1 nD;obtain rfl:=e8.1 nH;obtain rfl:=e8.1 (py (bM));obtain⟨eN,eO,eT,eP,ey,jv,jk,jj,jl,jm,js⟩:=XF.mk.inj hx;subst eN;subst eO;subst eT;subst eP;subst ey;subst jv;subst jk;subst jj;subst jl;subst jm;subst js;exact .get q (wp q (by simp))
 ·obtain rfl:=ie (show(0:Int)=_ from(g1).symm);obtain⟨q,rfl⟩:=pn (show(1:Int)=_ from(g2).symm);obtain rfl:=ie (show(0:Int)=_ from(g3).symm);obtain⟨rfl,rfl⟩:=l1 (bM);obtain rfl:=l2 (bM) (bM);obtain⟨nD,nH⟩:=n9 (bM);obtain rfl:=e8.1 nD;obtain rfl:=e8.1 nH;obtain rfl:=e8.1 (py (bM));obtain⟨eN,eO,eT,eP,ey,jv,jk,jj,jl,jm,js⟩:=XF.mk.inj hx;subst eN;subst eO;subst eT;subst eP;subst ey;subst jv;subst jk;subst jj;subst jl;subst jm;subst js;exact .clock q (wp q (by simp))
 ·obtain rfl:=ie (show(0:Int)=_ from(g1).symm);obtain⟨q,rfl⟩:=pn (show(1:Int)=_ from(g2).symm);obtain rfl:=ie (show(0:Int)=_ from(g3).symm);obtain⟨rfl,rfl⟩:=l1 (bM);obtain rfl:=l2 (bM) (bM);obtain⟨nD,nH⟩:=n9 (bM);obtain rfl:=e8.1 nD;obtain rfl:=e8.1 nH;obtain rfl:=e8.1 (py (bM));cases In with
   |true=>
    obtain⟨eN,eO,eT,eP,ey,jv,jk,jj,jl,jm,js⟩:=XF.mk.inj hx;subst eN;subst eO;subst eT;subst jk;subst jj;subst jl;subst jm;subst js;exact .count q y P true (wp q (by simp)) (λh=>aD)
   |false=>
    obtain⟨eN,eO,eT,eP,ey,jv,jk,jj,jl,jm,js⟩:=XF.mk.inj hx;subst eN;subst eO;subst eT;subst eP;subst jk;subst jj;subst jl;subst jm;subst js;exact .count q y 0 false (wp q (by simp)) (λ_=>rfl)
 ·obtain⟨e,rfl⟩:=pn (show(1:Int)=_ from(g1).symm);obtain rfl:=ie (show(0:Int)=_ from(g2).symm);obtain rfl:=ie (show(0:Int)=_ from(g3).symm);obtain⟨rfl,rfl⟩:=l1 (bM);obtain rfl:=l2 (bM) (bM);obtain⟨nD,nH⟩:=n9 (bM);obtain rfl:=e8.1 nD;obtain rfl:=e8.1 nH;obtain rfl:=e8.1 (py (bM));obtain⟨eN,eO,eT,eP,ey,jv,jk,jj,jl,jm,js⟩:=XF.mk.inj hx;subst eN;subst eO;subst eT;subst eP;subst ey;subst jv;subst jk;subst jl;subst jm;subst js;exact .NG e lu (we e (by simp))
 ·obtain rfl:=ie (show(0:Int)=_ from(g2).symm);obtain⟨a,b,rfl⟩:=D1 (show(2:Int)=_ from(g3).symm);obtain rfl:=l2 (bM) (bM);obtain⟨nD,nH⟩:=n9 (bM);obtain rfl:=e8.1 nD;obtain rfl:=e8.1 nH;obtain rfl:=e8.1 (py (bM));obtain⟨eN,eO,eT,eP,ey,jv,jk,jj,jl,jm,js⟩:=XF.mk.inj hx;subst eN;subst eO;subst eP;subst jv;subst jk;subst jj;subst jl;subst jm;obtain⟨hm,h0⟩:=amh (hwm (.inl rfl));exact .call T y mode E1 Ins fE a b hm wi wo (λh=>⟨h0 h a (by simp),h0 h b (by simp)⟩) (kL a (by simp)) (kL b (by simp))
 ·obtain rfl:=ie (show(0:Int)=_ from(g2).symm);obtain⟨a,b,c,rfl⟩:=ape (show(3:Int)=_ from(g3).symm);obtain⟨rfl,rfl⟩:=l1 (bM);obtain rfl:=l2 (bM) (bM);obtain⟨nD,nH⟩:=n9 (bM);obtain rfl:=e8.1 nD;obtain rfl:=e8.1 nH;obtain rfl:=e8.1 (py (bM));obtain⟨eN,eO,eT,eP,ey,jv,jk,jj,jl,jm,js⟩:=XF.mk.inj hx;subst eN;subst eO;subst eT;subst jv;subst jk;subst jj;subst jl;subst jm;obtain⟨hm,h0⟩:=amh (hwm (.inr rfl));exact .GF P y mode E1 a b c hm (λh=>⟨h0 h b (by simp),h0 h c (by simp)⟩) (kL a (by simp)) (kL b (by simp)) (kL c (by simp))
 ·obtain rfl:=ie (show(0:Int)=_ from(g1).symm);obtain rfl:=ie (show(0:Int)=_ from(g2).symm);obtain⟨a,b,rfl⟩:=D1 (show(2:Int)=_ from(g3).symm);obtain⟨rfl,rfl⟩:=l1 (bM);obtain rfl:=l2 (bM) (bM);obtain⟨nD,nH⟩:=n9 (bM);obtain rfl:=e8.1 nD;obtain rfl:=e8.1 nH;obtain rfl:=e8.1 (py (bM));obtain⟨eN,eO,eT,eP,ey,jv,jk,jj,jl,jm,js⟩:=XF.mk.inj hx;subst eN;subst eO;subst eT;subst eP;subst jv;subst jk;subst jj;subst jl;subst jm;subst js;exact .acc y a b (kL a (by simp)) (kL b (by simp))
 ·obtain rfl:=ie (show(0:Int)=_ from(g1).symm);obtain rfl:=ie (show(0:Int)=_ from(g2).symm);obtain⟨a,rfl⟩:=pn (show(1:Int)=_ from(g3).symm);obtain⟨rfl,rfl⟩:=l1 (bM);obtain rfl:=l2 (bM) (bM);obtain⟨nD,nH⟩:=n9 (bM);obtain rfl:=e8.1 nD;obtain rfl:=e8.1 nH;obtain⟨eN,eO,eT,eP,ey,jv,jk,jj,jl,jm,js⟩:=XF.mk.inj hx;subst eN;subst eO;subst eT;subst eP;subst ey;subst jv;subst jk;subst jj;subst jm;subst js;obtain⟨ha,he⟩:=HC rfl;exact .bC els a A (λh=>Ny (he h a (by simp))) (kL a (by simp)) (λx hx=>(kA x hx).1) (λx hx=>(kA x hx).2) λx hx=>aEW (ha x hx).1 (ha x hx).2
 ·obtain rfl:=ie (show(0:Int)=_ from(g1).symm);obtain rfl:=ie (show(0:Int)=_ from(g2).symm);obtain⟨a,rfl⟩:=pn (show(1:Int)=_ from(g3).symm);obtain⟨rfl,rfl⟩:=l1 (bM);obtain rfl:=l2 (bM) (bM);obtain⟨nD,nH⟩:=n9 (bM);obtain rfl:=e8.1 nD;obtain rfl:=e8.1 nH;obtain rfl:=e8.1 (py (bM));obtain⟨eN,eO,eT,eP,ey,jv,jk,jj,jl,jm,js⟩:=XF.mk.inj hx;subst eN;subst eO;subst eT;subst ey;subst jv;subst jk;subst jj;subst jl;subst jm;subst js;exact .lock P a (kL a (by simp))
 ·obtain rfl:=ie (show(0:Int)=_ from(g1).symm);obtain rfl:=ie (show(0:Int)=_ from(g2).symm);obtain rfl:=ie (show(0:Int)=_ from(g3).symm);obtain⟨rfl,rfl⟩:=l1 (bM);obtain rfl:=l2 (bM) (bM);obtain⟨nD,nH⟩:=n9 (bM);obtain rfl:=e8.1 nD;obtain rfl:=e8.1 nH;obtain rfl:=e8.1 (py (bM));obtain⟨eN,eO,eT,eP,ey,jv,jk,jj,jl,jm,js⟩:=XF.mk.inj hx;subst eN;subst eO;subst eP;subst jv;subst jk;subst jj;subst jl;subst js;exact .B6 T y jT
 ·obtain rfl:=ie (show(0:Int)=_ from(g1).symm);obtain rfl:=ie (show(0:Int)=_ from(g2).symm);obtain rfl:=ie (show(0:Int)=_ from(g3).symm);obtain⟨rfl,rfl⟩:=l1 (bM);obtain⟨nD,nH⟩:=n9 (bM);obtain rfl:=e8.1 nD;obtain rfl:=e8.1 nH;obtain rfl:=e8.1 (py (bM));obtain⟨eN,eO,eT,eP,ey,jv,jk,jj,jl,jm,js⟩:=XF.mk.inj hx;subst eN;subst eO;subst eT;subst eP;subst ey;subst jv;subst jk;subst jj;subst jl;subst jm;subst js;exact .jT Ts
end
end Go.Proofs.B

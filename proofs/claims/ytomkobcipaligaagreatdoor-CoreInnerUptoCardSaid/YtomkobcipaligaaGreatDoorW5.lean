/-
  All statements of a program, in their order.
-/
import Derived.Test.YtomkobcipaligaaGreatDoorW4
set_option linter.all false
set_option linter.deprecated false
set_option maxHeartbeats 4000000
namespace Go.az
def uW{p:Prop}(h:p:=by rw [qe]at h;simp only [dT]at h;rw [h]):p:=h
def wo{p:Prop}(h:p:=by rw [this,oU];rfl):p:=h
end Go.az
namespace Go.Proofs.YtomkobcipaligaaGreatDoor
open Go Go.az
section
variable{a b:Bool}{l:aZ}
structure XF where
 N:Int
 O:Int
 T:Int
 P:Int
 entry:Int
 In:Bool
 rev:Bool
 px:Bool
 els:Bool
 pM:Bool
 mode:Int
def xz:XF:=⟨0,0,0,0,0,false,false,false,false,false,0⟩
def dH.x(f:dH):XF:=⟨f.N,f.O,f.T,f.P,f.entry,f.In,f.rev,f.px,f.els,f.pM,f.mode⟩
def fz(k:Int)(x:XF):dH:=⟨k,x.N,x.O,x.T,x.P,x.entry,x.In,x.rev,x.px,x.els,x.pM,x.mode,[],[],[],[],[]⟩
abbrev flat(k:Int)(x:XF):bp:=cW (fz k x) [] [] [] []
theorem qe:(ln l != 0)= !l.isEmpty:=by cases l<;>simp [ln];omega
theorem rI(h:l.isEmpty=true):decide ((0:Int)<ln l)=false:=by
 have:l=[]:=lJ;subst this;rfl
theorem eqE(l:aZ):Ev LQ [aT l,aT []] (0,[ak l.isEmpty]):=by
 refine bz ao6 (av (c:=ln l != 0) (λh=>af ?_) λh=> ?_)
 ·exact uW
 ·rw [qe]at h;simp only [dF]at h;rw [h];exact aj (E.diag (f:=λN m=>LM (FU CX EE N) N m _) (bF aoR (aC (rI h) aL))) aL
theorem eqP(l:aZ):Ev LO [bH l,bH []] (0,[ak l.isEmpty]):=by
 refine bz ao1 (av (c:=ln l != 0) (λh=>af ?_) λh=> ?_)
 ·exact uW
 ·rw [qe]at h;simp only [dF]at h;rw [h];exact aj (E.diag (f:=λN m=>LI (FU CX EE N) N m _) (bF aoJ (aC (rI h) aL))) aL
theorem eqS(l:aZ):Ev SU [bD l,bD []] (0,[ak l.isEmpty]):=by
 refine bz ao5 (av (c:=ln l != 0) (λh=>af ?_) λh=> ?_)
 ·exact uW
 ·rw [qe]at h;simp only [dF]at h;rw [h];exact aj (E.diag (f:=λN m=>LL (FU CX EE N) N m _) (bF aoQ (aC (rI h) aL))) aL
theorem eqI(l:aZ):Ev T9 [aa l,aa []] (0,[ak l.isEmpty]):=by
 refine bz as0 (av (c:=ln l != 0) (λh=>af ?_) λh=> ?_)
 ·exact uW
 ·rw [qe]at h;simp only [dF]at h;rw [h];exact aj (E.diag (f:=λN m=>LZ (FU CX EE N) N m _) (bF aqG (aC (rI h) aL))) aL
theorem eqD(l:aZ):Ev SN [c5 l,c5 []] (0,[ak l.isEmpty]):=by
 refine bz aoW (av (c:=ln l != 0) (λh=>af ?_) λh=> ?_)
 ·exact uW
 ·rw [qe]at h;simp only [dF]at h;rw [h];exact aj (E.diag (f:=λN m=>LG (FU CX EE N) N m _) (bF aoC (aC (rI h) aL))) aL
theorem eqH(l:aZ):Ev SE [cZ l,cZ []] (0,[ak l.isEmpty]):=by
 refine bz aoD (av (c:=ln l != 0) (λh=>af ?_) λh=> ?_)
 ·exact uW
 ·rw [qe]at h;simp only [dF]at h;rw [h];exact aj (E.diag (f:=λN m=>Lz (FU CX EE N) N m _) (bF aor (aC (rI h) aL))) aL
theorem eqA(l:aZ):Ev SS [cQ l,cQ []] (0,[ak l.isEmpty]):=by
 refine bz ao2 (av (c:=ln l != 0) (λh=>af ?_) λh=> ?_)
 ·exact uW
 ·rw [qe]at h;simp only [dF]at h;rw [h];exact aj (E.diag (f:=λN m=>LJ (FU CX EE N) N m _) (bF aoK (aC (rI h) aL))) aL
theorem GA(l:aZ):Ev EP [aT l,aT []] (0,[ak l.isEmpty]):=by
 refine bz azJ (av (c:=ln l != 0) (λh=>af ?_) λh=> ?_)
 ·exact uW
 ·rw [qe]at h;simp only [dF]at h;rw [h];exact aj (E.diag (f:=λN m=>Nb (FU CX EE N) N m _) (bF axb (aC (rI h) aL))) aL
theorem amZ(l:aZ):Ev ND [bH l,bH []] (0,[ak l.isEmpty]):=by
 refine bz ayU (av (c:=ln l != 0) (λh=>af ?_) λh=> ?_)
 ·exact uW
 ·rw [qe]at h;simp only [dF]at h;rw [h];exact aj (E.diag (f:=λN m=>MP (FU CX EE N) N m _) (bF av4 (aC (rI h) aL))) aL
theorem aLN(l:aZ):Ev Od [aa l,aa []] (0,[ak l.isEmpty]):=by
 refine bz aAf (av (c:=ln l != 0) (λh=>af ?_) λh=> ?_)
 ·exact uW
 ·rw [qe]at h;simp only [dF]at h;rw [h];exact aj (E.diag (f:=λN m=>Nr (FU CX EE N) N m _) (bF ax6 (aC (rI h) aL))) aL
theorem aLM(l:aZ):Ev Wm [bD l,bD []] (0,[ak l.isEmpty]):=by
 refine bz azE (av (c:=ln l != 0) (λh=>af ?_) λh=> ?_)
 ·exact uW
 ·rw [qe]at h;simp only [dF]at h;rw [h];exact aj (E.diag (f:=λN m=>M7 (FU CX EE N) N m _) (bF axa (aC (rI h) aL))) aL
def xB(k:Int)(f:XF)(k':Int)(x:XF):Bool:=
 (k==k')&&((f.N==x.N)&&((f.O==x.O)&&((f.T==x.T)&&((f.P==x.P)&&((f.entry==x.entry)&&((f.mode==x.mode)&&((f.In==x.In)&&((f.rev==x.rev)&&((f.px==x.px)&&((f.els==x.els)&&(f.pM==x.pM)))))))))))
def lB(f:dH)(L D H A:aZ):Bool:=
 (f.E.map aU).isEmpty &&((f.Ins.map aU).isEmpty &&((ints f.Ts).isEmpty &&((f.To.map cX).isEmpty &&((f.fH.map cX).isEmpty &&(L.isEmpty&&(D.isEmpty&&(H.isEmpty&&A.isEmpty)))))))
def wY(f:dH)(L D H A:aZ)(k':Int)(x:XF):Bool:=xB f.kind f.x k' x&&lB f L D H A
theorem rH(h:(!(a==b))=true):(a==b)=false:=lJ
theorem gV(h:(!(a==b))=false):(a==b)=true:=lJ
section
variable (f:dH) (L D H A:aZ) (k:Int) (x:XF)
def iO(k:Int)(f:XF)(k':Int)(x:XF):Bool:=(k==k')&&((f.N==x.N)&&((f.O==x.O)&&((f.T==x.T)&&((f.P==x.P)&&((f.entry==x.entry)&&(f.mode==x.mode))))))
def im(f x:XF):Bool:=(f.In==x.In)&&((f.rev==x.rev)&&((f.px==x.px)&&((f.els==x.els)&&(f.pM==x.pM))))
theorem Y2{k k':Int}{f x:XF}:xB k f k' x=(iO k f k' x&&im f x):=by unfold xB iO im;simp only [IH]
theorem aFD:bM Ur [J (cW f L D H A),J (flat k x)] (0,[ak (!iO f.kind f.x k x),J (cW f L D H A),J (flat k x)]):=by
 refine bU asZ ?_;refine av (c:=f.kind != k) (λh=>af (by simp only [iO,gX h];rfl)) λh=>av (c:=f.N != x.N) (λh2=>af ?_) λh2=>av (c:=f.O != x.O) (λh3=>af ?_) λh3=>av (c:=f.T != x.T) (λh4=>af ?_) λh4=>av (c:=f.P != x.P) (λh5=>af ?_) λh5=>av (c:=f.entry != x.entry) (λh6=>af ?_) λh6=>af ?_
 ·have:iO f.kind f.x k x=false:=by unfold iO dH.x;rw [cN h,gX h2];rfl
  exact eX
 ·have:iO f.kind f.x k x=false:=by unfold iO dH.x;rw [cN h,cN h2,gX h3];rfl
  exact eX
 ·have:iO f.kind f.x k x=false:=by unfold iO dH.x;rw [cN h,cN h2,cN h3,gX h4];rfl
  exact eX
 ·have:iO f.kind f.x k x=false:=by unfold iO dH.x;rw [cN h,cN h2,cN h3,cN h4,gX h5];rfl
  exact eX
 ·have:iO f.kind f.x k x=false:=by unfold iO dH.x;rw [cN h,cN h2,cN h3,cN h4,cN h5,gX h6];rfl
  exact eX
 ·have:iO f.kind f.x k x=(f.mode==x.mode):=by unfold iO dH.x;rw [cN h,cN h2,cN h3,cN h4,cN h5,cN h6];rfl
  exact eX
theorem aEg:bM T7 [J (cW f L D H A),J (flat k x)] (0,[ak (!im f.x x),J (cW f L D H A),J (flat k x)]):=by
 refine bU asc ?_;refine av (c:= !(f.In==x.In)) (λh=>af ?_) λh=>av (c:= !(f.rev==x.rev)) (λh2=>af ?_) λh2=>av (c:= !(f.px==x.px)) (λh3=>af ?_) λh3=>av (c:= !(f.els==x.els)) (λh4=>af ?_) λh4=>af ?_
 ·have:im f.x x=false:=by unfold im dH.x;rw [rH h];rfl
  exact eX
 ·have:im f.x x=false:=by unfold im dH.x;rw [gV h,rH h2];rfl
  exact eX
 ·have:im f.x x=false:=by unfold im dH.x;rw [gV h,gV h2,rH h3];rfl
  exact eX
 ·have:im f.x x=false:=by unfold im dH.x;rw [gV h,gV h2,gV h3,rH h4];rfl
  exact eX
 ·have:im f.x x=(f.pM==x.pM):=by unfold im dH.x;rw [gV h,gV h2,gV h3,gV h4];rfl
  exact eX
theorem aEf:bM T6 [J (cW f L D H A),J (flat k x)] (0,[ak (!((f.E.map aU).isEmpty &&((f.Ins.map aU).isEmpty &&(ints f.Ts).isEmpty))),J (cW f L D H A),J (flat k x)]):=by
 refine bU asb ?_;refine aj (eqE (f.E.map aU)) (av (c:= !(f.E.map aU).isEmpty) (λh=>af ?_) λh=>aj (eqE (f.Ins.map aU)) (av (c:= !(f.Ins.map aU).isEmpty) (λh2=>af ?_) λh2=>aj (eqI (ints f.Ts)) (af ?_)))
 ·simp only [dT]at h;rw [h];rfl
 ·simp only [dT,dF]at h h2;rw [h,h2];rfl
 ·simp only [dF]at h h2;rw [h,h2];rfl
def AM(f:dH)(L:aZ):Bool:=(f.To.map cX).isEmpty &&((f.fH.map cX).isEmpty &&L.isEmpty)
theorem sm6:bM UL [J (cW f L D H A),J (flat k x)] (bif xB f.kind f.x k x&&(((f.E.map aU).isEmpty &&((f.Ins.map aU).isEmpty &&(ints f.Ts).isEmpty))&&AM f L)then(0,[J (cW f L D H A),J (flat k x)])else(1,[aq,J (cW f L D H A),J (flat k x)])):=by
 refine bU at0 ?_;rw [Y2];refine aj (aFD f L D H A k x) (av (c:= !iO f.kind f.x k x) (λh=>af ?_) λh=>aj (aEg f L D H A k x) (av (c:= !im f.x x) (λh2=>af ?_) λh2=>aj (aEf f L D H A k x) (av (c:= !((f.E.map aU).isEmpty &&((f.Ins.map aU).isEmpty &&(ints f.Ts).isEmpty))) (λh3=>af ?_) λh3=>aj (eqP (f.To.map cX)) (av (c:= !(f.To.map cX).isEmpty) (λh4=>af ?_) λh4=>aj (eqP (f.fH.map cX)) (av (c:= !(f.fH.map cX).isEmpty) (λh5=>af ?_) λh5=>aj (eqS L) (av (c:= !L.isEmpty) (λh6=>af ?_) λh6=>af ?_))))))
 ·simp only [dT]at h;rw [h];rfl
 ·simp only [dT,dF]at h h2;rw [h,h2];rfl
 ·simp only [dT,dF]at h h2 h3;rw [h,h2,h3];rfl
 ·simp only [dT,dF]at h h2 h3 h4;unfold AM;rw [h,h2,h3,h4];rfl
 ·simp only [dT,dF]at h h2 h3 h4 h5;unfold AM;rw [h,h2,h3,h4,h5];rfl
 ·simp only [dT,dF]at h h2 h3 h4 h5 h6;unfold AM;rw [h,h2,h3,h4,h5,h6];rfl
 ·simp only [dF]at h h2 h3 h4 h5 h6;unfold AM;rw [h,h2,h3,h4,h5,h6];rfl
theorem aDc:wY f L D H A k x=((xB f.kind f.x k x&&(((f.E.map aU).isEmpty &&((f.Ins.map aU).isEmpty &&(ints f.Ts).isEmpty))&&AM f L))&&(D.isEmpty&&(H.isEmpty&&A.isEmpty))):=by
 unfold wY lB AM;simp only [IH]
theorem smC:Ev HQ [J (cW f L D H A),J (flat k x)] (0,[ak (wY f L D H A k x)]):=by
 refine bz awr (aj (sm6 f L D H A k x) ?_);rw [aDc];cases xB f.kind f.x k x&&(((f.E.map aU).isEmpty &&((f.Ins.map aU).isEmpty &&(ints f.Ts).isEmpty))&&AM f L)with
 |false=>exact fX
 |true=>
  refine aX ?_;simp only [cg];refine(aj (eqD D) (av (c:=D.isEmpty) (λh=>aj (eqH H) (av (c:=H.isEmpty) (λh2=>aj (eqA A) (af ?_)) λh2=>af ?_)) λh=>af ?_))
  ·rw [h,h2];rfl
  ·rw [h,h2];rfl
  ·exact fY
theorem aEI:Ev uG [J (cW f L D H A)] (0,[ak (wY f L D H A 1 xz)]):=
 bz azN (aj (smC f L D H A 1 xz) aL)
theorem aLx:bM U3 [J (cW f L D H A),J (flat k x)] (bif xB f.kind f.x k x then(0,[J (cW f L D H A),J (flat k x)])else(1,[aq,J (cW f L D H A),J (flat k x)])):=by
 refine bU auY ?_;rw [Y2];refine av (c:=f.kind != k) (λh=>af ?_) λh=>av (c:=f.N != x.N) (λh2=>af ?_) λh2=>av (c:=f.O != x.O) (λh3=>af ?_) λh3=>av (c:=f.T != x.T) (λh4=>af ?_) λh4=>av (c:=f.P != x.P) (λh5=>af ?_) λh5=>av (c:=f.entry != x.entry) (λh6=>af ?_) λh6=>av (c:= !(f.In==x.In)) (λg=>af ?_) λg=>av (c:= !(f.rev==x.rev)) (λg2=>af ?_) λg2=>av (c:= !(f.px==x.px)) (λg3=>af ?_) λg3=>av (c:= !(f.els==x.els)) (λg4=>af ?_) λg4=>av (c:= !(f.pM==x.pM)) (λg5=>af ?_) λg5=>av (c:=f.mode != x.mode) (λh7=>af ?_) λh7=>af ?_
 ·have:iO f.kind f.x k x=false:=by unfold iO dH.x;rw [gX h];rfl
  exact eX
 ·have:iO f.kind f.x k x=false:=by unfold iO dH.x;rw [cN h,gX h2];rfl
  exact eX
 ·have:iO f.kind f.x k x=false:=by unfold iO dH.x;rw [cN h,cN h2,gX h3];rfl
  exact eX
 ·have:iO f.kind f.x k x=false:=by unfold iO dH.x;rw [cN h,cN h2,cN h3,gX h4];rfl
  exact eX
 ·have:iO f.kind f.x k x=false:=by unfold iO dH.x;rw [cN h,cN h2,cN h3,cN h4,gX h5];rfl
  exact eX
 ·have:iO f.kind f.x k x=false:=by unfold iO dH.x;rw [cN h,cN h2,cN h3,cN h4,cN h5,gX h6];rfl
  exact eX
 ·have:im f.x x=false:=by unfold im dH.x;rw [rH g];rfl
  exact wo
 ·have:im f.x x=false:=by unfold im dH.x;rw [gV g,rH g2];rfl
  exact wo
 ·have:im f.x x=false:=by unfold im dH.x;rw [gV g,gV g2,rH g3];rfl
  exact wo
 ·have:im f.x x=false:=by unfold im dH.x;rw [gV g,gV g2,gV g3,rH g4];rfl
  exact wo
 ·have:im f.x x=false:=by unfold im dH.x;rw [gV g,gV g2,gV g3,gV g4,rH g5];rfl
  exact wo
 ·have:iO f.kind f.x k x=false:=by unfold iO dH.x;rw [cN h,cN h2,cN h3,cN h4,cN h5,cN h6,gX h7];rfl
  exact eX
 ·have h1:iO f.kind f.x k x=true:=by unfold iO dH.x;rw [cN h,cN h2,cN h3,cN h4,cN h5,cN h6,cN h7];rfl
  have h2:im f.x x=true:=by unfold im dH.x;rw [gV g,gV g2,gV g3,gV g4,gV g5];rfl
  exact Fs
def vF(f:dH)(L:aZ):Bool:=(f.E.map aU).isEmpty &&((f.Ins.map aU).isEmpty &&((f.To.map cX).isEmpty &&((f.fH.map cX).isEmpty &&((ints f.Ts).isEmpty &&L.isEmpty))))
theorem aEq:bM UG [J (cW f L D H A),J (flat k x)] (bif vF f L then(0,[J (cW f L D H A),J (flat k x)])else(1,[aq,J (cW f L D H A),J (flat k x)])):=by
 refine bU atU ?_;refine aj (GA (f.E.map aU)) (av (c:= !(f.E.map aU).isEmpty) (λh=>af ?_) λh=>aj (GA (f.Ins.map aU)) (av (c:= !(f.Ins.map aU).isEmpty) (λh2=>af ?_) λh2=>aj (amZ (f.To.map cX)) (av (c:= !(f.To.map cX).isEmpty) (λh3=>af ?_) λh3=>aj (amZ (f.fH.map cX)) (av (c:= !(f.fH.map cX).isEmpty) (λh4=>af ?_) λh4=>aj (aLN (ints f.Ts)) (av (c:= !(ints f.Ts).isEmpty) (λh5=>af ?_) λh5=>aj (aLM L) (av (c:= !L.isEmpty) (λh6=>af ?_) λh6=>af ?_))))))
 ·simp only [dT]at h;unfold vF;rw [h];rfl
 ·simp only [dT,dF]at h h2;unfold vF;rw [h,h2];rfl
 ·simp only [dT,dF]at h h2 h3;unfold vF;rw [h,h2,h3];rfl
 ·simp only [dT,dF]at h h2 h3 h4;unfold vF;rw [h,h2,h3,h4];rfl
 ·simp only [dT,dF]at h h2 h3 h4 h5;unfold vF;rw [h,h2,h3,h4,h5];rfl
 ·simp only [dT,dF]at h h2 h3 h4 h5 h6;unfold vF;rw [h,h2,h3,h4,h5,h6];rfl
 ·simp only [dF]at h h2 h3 h4 h5 h6;unfold vF;rw [h,h2,h3,h4,h5,h6];rfl
theorem aEp:bM UF [J (cW f L D H A),J (flat k x)] (bif D.isEmpty&&(H.isEmpty&&A.isEmpty)then(0,[J (cW f L D H A),J (flat k x)])else(1,[aq,J (cW f L D H A),J (flat k x)])):=by
 refine bU atT ?_;refine av (c:=ln D != 0) (λh=>af ?_) λh=>av (c:=ln H != 0) (λh2=>af ?_) λh2=>av (c:=ln A != 0) (λh3=>af ?_) λh3=>af ?_
 ·rw [qe]at h;simp only [dT]at h;rw [h];rfl
 ·rw [qe]at h h2;simp only [dT,dF]at h h2;rw [h,h2];rfl
 ·rw [qe]at h h2 h3;simp only [dT,dF]at h h2 h3;rw [h,h2,h3];rfl
 ·rw [qe]at h h2 h3;simp only [dF]at h h2 h3;rw [h,h2,h3];rfl
theorem smR:Ev mX [J (cW f L D H A),J (flat k x)] (0,[ak (wY f L D H A k x)]):=by
 have hs:wY f L D H A k x=(xB f.kind f.x k x&&(vF f L&&(D.isEmpty&&(H.isEmpty&&A.isEmpty)))):=by
  unfold wY lB vF;generalize (f.E.map aU).isEmpty =a;generalize (f.Ins.map aU).isEmpty =b;generalize (ints f.Ts).isEmpty =c;generalize (f.To.map cX).isEmpty =d;generalize (f.fH.map cX).isEmpty =e;cases a<;>cases b<;>cases c<;>cases d<;>cases e<;>simp
 rw [hs];refine bz axn (aj (aLx f L D H A k x) ?_);cases xB f.kind f.x k x with
 |false=>exact fX
 |true=>
  refine aX ?_;simp only [cg];refine aj (aEq f L D H A k x) ?_;cases vF f L with
  |false=>exact fX
  |true=>
   refine aX ?_;simp only [cg];refine aj (aEp f L D H A k x) ?_;cases h:D.isEmpty&&(H.isEmpty&&A.isEmpty)with
   |false=>exact fX
   |true=>
    simp only [bS]at h;have j62:bM UE [J (cW f L D H A),J (flat k x)] (0,[J (cW f L D H A),J (flat k x)]):=
     bU atS (aj (E.diag (f:=λN m=>Mo (FU CX EE N) N m _) (bF asP (aC (rI h.1) aL))) (bj aL))
    have u9:bM Ul [J (cW f L D H A),J (flat k x)] (0,[J (cW f L D H A),J (flat k x)]):=
     bU asT (aj (E.diag (f:=λN m=>Mn (FU CX EE N) N m _) (bF asO (aC (rI h.2.1) aL))) (bj aL))
    have h':(D.isEmpty&&(H.isEmpty&&A.isEmpty))=true:=by rw [h.1,h.2.1,h.2.2];rfl
    refine aX ?_;simp only [cg];refine aj j62 (aX (aj u9 (aX ?_)));have aEU:bP Mg [iI 0,J (cW f L D H A),J (flat k x)] (1,[J (cW f L D H A),J (flat k x)]):=bF ar1 (aC (rI h.2.2) aL);exact aj aEU.diag (bj aL)
end
end
end Go.Proofs.YtomkobcipaligaaGreatDoor
namespace Go.az
def nC{p:Prop}(h:p:=by rw [a,b];rfl):p:=h
def aje{p:Prop}(h:p:=by
 cases h1:k==12 with
 |true=>exact .inl (eq_of_beq h1)
 |false=>rw [h1]at h;exact .inr (eq_of_beq h)):p:=h
def wj{p:Prop}(h:p:=by rw [a,b,c];rfl):p:=h
def rf{p:Prop}(h:p:=by rw [a];rfl):p:=h
def Fq{p:Prop}(h:p:=by rw [h1]at h;cases h):p:=h
def zK{p:Prop}(h:p:=by rw [h];exact aL):p:=h
end Go.az
namespace Go.Proofs.YtomkobcipaligaaGreatDoor
open Go Go.az
section
variable{k:Int}
def eS(k:Int):Int:=bif k==2 then 1 else bif k==4 then 1 else bif k==5 then 1 else bif k==6 then 2 else bif k==11 then 1 else bif k==15 then 1 else 0
def toS(k:Int):Int:=bif k==2 then 1 else bif k==12 then 1 else bif k==13 then 1 else bif k==14 then 1 else 0
def lS(k:Int):Int:=bif k==4 then 2 else bif k==5 then 1 else bif k==6 then 1 else bif k==7 then 1 else bif k==9 then 1 else bif k==16 then 2 else bif k==17 then 3 else bif k==18 then 2 else bif k==19 then 1 else bif k==20 then 1 else 0
def eF(k:Int):Bool:=bif k==16 then true else bif k==17 then true else false
def lF(k:Int):Bool:=bif k==3 then true else false
def pB(k:Int):Nat:=bif k==9 then 1 else bif k==16 then 2 else bif k==19 then 3 else bif k==22 then 4 else 0
def GN(k:Int):Bool:=bif k==9 then true else bif k==19 then true else bif k==22 then true else false
def vC(k:Int):Bool:=bif k==1 then true else bif k==2 then true else bif k==3 then true else bif k==4 then true else bif k==5 then true else bif k==6 then true else bif k==7 then true else bif k==8 then true else bif k==9 then true else bif k==10 then true else bif k==11 then true else bif k==12 then true else bif k==13 then true else bif k==14 then true else bif k==15 then true else bif k==16 then true else bif k==17 then true else bif k==18 then true else bif k==19 then true else bif k==20 then true else bif k==21 then true else bif k==22 then true else false
def DK(k e:Int):Int:=bif eF k then e else eS k
def G7(k:Int):Int:=bif eF k then-1 else eS k
def yS(k l:Int):Int:=bif lF k then l else lS k
def GO(k:Int):Int:=bif lF k then-1 else lS k
def xS(f:dH)(k:Int):XF:=bif k==6 then{xz with O:=f.O,rev:=f.rev}else bif k==7 then{xz with N:=f.N}else bif k==8 then{xz with N:=f.N}else bif k==10 then{xz with N:=f.N}else bif k==14 then bif f.In then{xz with P:=f.P,entry:=f.entry,In:=f.In}else{xz with entry:=f.entry,In:=f.In}else bif k==15 then{xz with px:=f.px}else bif k==16 then{xz with T:=f.T,entry:=f.entry,mode:=f.mode}else bif k==17 then{xz with P:=f.P,entry:=f.entry,mode:=f.mode}else bif k==18 then{xz with entry:=f.entry}else bif k==19 then{xz with els:=f.els}else bif k==20 then{xz with P:=f.P}else bif k==21 then{xz with T:=f.T,entry:=f.entry,pM:=f.pM}else xz
abbrev kTs:AV:= .str (⟨#[116,115]⟩:ByteArray)
abbrev kDe:AV:= .str (⟨#[100,101,99,108,115]⟩:ByteArray)
abbrev kCa:AV:= .str (⟨#[99,97,108,108]⟩:ByteArray)
abbrev kAl:AV:= .str (⟨#[97,108,116,115]⟩:ByteArray)
def mpE(c:Nat):List (AV×AV):=bif c==1 then [(kTs,cu),(kDe,cu)]else bif c==2 then [(kCa,cu)]else bif c==3 then [(kAl,cu)]else bif c==4 then [(kTs,cu)]else []
abbrev rO(a:Nat)(k:Int)(x:XF):bp:=[bE k,iI x.N,iI x.O,iI x.T,iI x.P,iI x.entry,ak x.In,ak x.rev,ak x.px,ak x.els,ak x.pM,bE x.mode,.aA a,.aA (a+1),.aA (a+2),.aA (a+3),.aA (a+4),.aA (a+5),.aA (a+6),.aA (a+7),.aA (a+8)]
abbrev e9:bp:=[aT [],aT [],bH [],bH [],aa [],bD [],c5 [],cZ [],cQ []]
def uj(k:Int):Bool:=bif k==8 then true else k==10
def uk(k:Int):Bool:=bif k==12 then true else k==13
theorem kLC(k:Int):bM Tz [bE k] (0,[ak (uj k)]):=
 bU aqR (av (λh=>af (by simp only [uj,h,cg])) λh=>af (by simp only [uj,h,cC]))
theorem kLR(k:Int):bM TY [bE k] (0,[ak (uj k)]):=
 bU ar3 (av (λh=>af (by simp only [uj,h,cg])) λh=>af (by simp only [uj,h,cC]))
theorem kGC(k:Int):bM Tc [bE k] (0,[ak (uk k)]):=
 bU ap0 (av (λh=>af (by simp only [uk,h,cg])) λh=>af (by simp only [uk,h,cC]))
theorem kGR(k:Int):bM Tr [bE k] (0,[ak (uk k)]):=
 bU aqJ (av (λh=>af (by simp only [uk,h,cg])) λh=>af (by simp only [uk,h,cC]))
theorem ajM(h:uj k=true):k=8∨k=10:=by
 unfold uj at h;cases h1:k==8 with
 |true=>exact .inl (eq_of_beq h1)
 |false=>rw [h1]at h;exact .inr (eq_of_beq h)
theorem ajN(h:uk k=true):k=12∨k=13:=by
 unfold uk at h;exact aje
theorem P6(h:uj k=false):(k==8)=false∧(k==10)=false:=by
 unfold uj at h;cases h1:k==8 with
 |true=>exact Fq
 |false=>rw [h1]at h;exact⟨rfl,h⟩
theorem P7(h:uk k=false):(k==12)=false∧(k==13)=false:=by
 unfold uk at h;cases h1:k==12 with
 |true=>exact Fq
 |false=>rw [h1]at h;exact⟨rfl,h⟩
section
variable (f:dH) (L D H A:aZ)
abbrev SF:AV:= J (cW f L D H A)
theorem aEj:E (λN _=>U6 (FU CX EE N) N ([iI 0,iI 0,iI 0,SF f L D H A,J (rO 3 f.kind xz),.ab 0 (ay [])]++e9))
 (bif vC f.kind then(0,[iI (DK f.kind (ln (f.E.map aU))),iI (toS f.kind),iI (yS f.kind (ln L)),SF f L D H A,J (rO 3 f.kind (xS f f.kind)),.ab 0 (ay (mpE (pB f.kind)))]++e9)else(1,[aq,SF f L D H A,J (rO 3 f.kind xz),.ab 0 (ay [])]++e9)):=by
 refine bU au2 ?_;refine av (c:=f.kind==1) (λh1=> ?_) λh1=>av (c:=f.kind==2) (λh2=> ?_) λh2=>av (c:=f.kind==3) (λh3=> ?_) λh3=>av (c:=f.kind==4) (λh4=> ?_) λh4=>av (c:=f.kind==5) (λh5=> ?_) λh5=>av (c:=f.kind==6) (λh6=> ?_) λh6=>av (c:=f.kind==7) (λh7=> ?_) λh7=>aj (kLC f.kind) (av (c:=uj f.kind) (λhL=> ?_) λhL=>av (c:=f.kind==9) (λh9=> ?_) λh9=>av (c:=f.kind==11) (λlx=> ?_) λlx=>aj (kGC f.kind) (av (c:=uk f.kind) (λhC=> ?_) λhC=>av (c:=f.kind==14) (λjY=>av (c:=f.In) (λg=> ?_) λg=> ?_) λjY=>av (c:=f.kind==15) (λDF=> ?_) λDF=>av (c:=f.kind==16) (λiR=> ?_) λiR=>av (c:=f.kind==17) (λmB=> ?_) λmB=>av (c:=f.kind==18) (λmA=> ?_) λmA=>av (c:=f.kind==19) (λpH=> ?_) λpH=>av (c:=f.kind==20) (λlW=> ?_) λlW=>av (c:=f.kind==21) (λqT=> ?_) λqT=>av (c:=f.kind==22) (λoN=> ?_) λoN=> ?_))
 ·rw [eq_of_beq h1];exact aL
 ·rw [eq_of_beq h2];exact aL
 ·rw [eq_of_beq h3];exact aL
 ·rw [eq_of_beq h4];exact aL
 ·rw [eq_of_beq h5];exact aL
 ·rw [eq_of_beq h6];exact aL
 ·rw [eq_of_beq h7];exact aL
 ·rcases ajM hL with h|h
  ·exact zK
  ·exact zK
 ·rw [eq_of_beq h9];exact aL
 ·rw [eq_of_beq lx];exact aL
 ·rcases ajN hC with h|h
  ·exact zK
  ·exact zK
 ·rw [eq_of_beq jY,show xS f 14={xz with P:=f.P,entry:=f.entry,In:=f.In}by show(bif f.In then _ else _)=_;rw [g];rfl];exact aL
 ·rw [eq_of_beq jY,show xS f 14={xz with entry:=f.entry,In:=f.In}by show(bif f.In then _ else _)=_;rw [g];rfl];exact aL
 ·rw [eq_of_beq DF];exact aL
 ·rw [eq_of_beq iR];exact aL
 ·rw [eq_of_beq mB];exact aL
 ·rw [eq_of_beq mA];exact aL
 ·rw [eq_of_beq pH];exact aL
 ·rw [eq_of_beq lW];exact aL
 ·rw [eq_of_beq qT];exact aL
 ·rw [eq_of_beq oN];exact aL
 ·rw [show vC f.kind=false by unfold vC;rw [h1,h2,h3,h4,h5,h6,h7,(P6 hL).1,h9,(P6 hL).2,lx,(P7 hC).1,(P7 hC).2,jY,DF,iR,mB,mA,pH,lW,qT,oN];rfl];exact aL
theorem aMu:E (λN _=>VG (FU CX EE N) N ([iI 0,iI 0,iI 0,aq,SF f L D H A,J (rO 2 f.kind xz)]++e9))
 (bif vC f.kind then(0,[iI (G7 f.kind),iI (toS f.kind),iI (GO f.kind),ak (GN f.kind),SF f L D H A,J (rO 2 f.kind (xS f f.kind))]++e9)else(1,[aq,SF f L D H A,J (rO 2 f.kind xz)]++e9)):=by
 refine bU axg ?_;refine av (c:=f.kind==1) (λh1=> ?_) λh1=>av (c:=f.kind==2) (λh2=> ?_) λh2=>av (c:=f.kind==3) (λh3=> ?_) λh3=>av (c:=f.kind==4) (λh4=> ?_) λh4=>av (c:=f.kind==5) (λh5=> ?_) λh5=>av (c:=f.kind==6) (λh6=> ?_) λh6=>av (c:=f.kind==7) (λh7=> ?_) λh7=>aj (kLR f.kind) (av (c:=uj f.kind) (λhL=> ?_) λhL=>av (c:=f.kind==9) (λh9=> ?_) λh9=>av (c:=f.kind==11) (λlx=> ?_) λlx=>aj (kGR f.kind) (av (c:=uk f.kind) (λhC=> ?_) λhC=>av (c:=f.kind==14) (λjY=>av (c:=f.In) (λg=> ?_) λg=> ?_) λjY=>av (c:=f.kind==15) (λDF=> ?_) λDF=>av (c:=f.kind==16) (λiR=> ?_) λiR=>av (c:=f.kind==17) (λmB=> ?_) λmB=>av (c:=f.kind==18) (λmA=> ?_) λmA=>av (c:=f.kind==19) (λpH=> ?_) λpH=>av (c:=f.kind==20) (λlW=> ?_) λlW=>av (c:=f.kind==21) (λqT=> ?_) λqT=>av (c:=f.kind==22) (λoN=> ?_) λoN=> ?_))
 ·rw [eq_of_beq h1];exact aL
 ·rw [eq_of_beq h2];exact aL
 ·rw [eq_of_beq h3];exact aL
 ·rw [eq_of_beq h4];exact aL
 ·rw [eq_of_beq h5];exact aL
 ·rw [eq_of_beq h6];exact aL
 ·rw [eq_of_beq h7];exact aL
 ·rcases ajM hL with h|h
  ·exact zK
  ·exact zK
 ·rw [eq_of_beq h9];exact aL
 ·rw [eq_of_beq lx];exact aL
 ·rcases ajN hC with h|h
  ·exact zK
  ·exact zK
 ·rw [eq_of_beq jY,show xS f 14={xz with P:=f.P,entry:=f.entry,In:=f.In}by show(bif f.In then _ else _)=_;rw [g];rfl];exact aL
 ·rw [eq_of_beq jY,show xS f 14={xz with entry:=f.entry,In:=f.In}by show(bif f.In then _ else _)=_;rw [g];rfl];exact aL
 ·rw [eq_of_beq DF];exact aL
 ·rw [eq_of_beq iR];exact aL
 ·rw [eq_of_beq mB];exact aL
 ·rw [eq_of_beq mA];exact aL
 ·rw [eq_of_beq pH];exact aL
 ·rw [eq_of_beq lW];exact aL
 ·rw [eq_of_beq qT];exact aL
 ·rw [eq_of_beq oN];exact aL
 ·rw [show vC f.kind=false by unfold vC;rw [h1,h2,h3,h4,h5,h6,h7,(P6 hL).1,h9,(P6 hL).2,lx,(P7 hC).1,(P7 hC).2,jY,DF,iR,mB,mA,pH,lW,qT,oN];rfl];exact aL
def qa(f:dH)(L:aZ):Bool:=xB f.kind f.x f.kind (xS f f.kind)&&((ln (f.E.map aU)==DK f.kind (ln (f.E.map aU)))&&((ln (f.To.map cX)==toS f.kind)&&(ln L==yS f.kind (ln L))))
theorem aEi:E (λN _=>U5 (FU CX EE N) N ([iI (DK f.kind (ln (f.E.map aU))),iI (toS f.kind),iI (yS f.kind (ln L)),SF f L D H A,J (rO 3 f.kind f.x),J (rO 12 f.kind (xS f f.kind))]++(e9++e9)))
 (bif qa f L then(0,[SF f L D H A,J (rO 3 f.kind f.x),J (rO 12 f.kind (xS f f.kind))]++(e9++e9))else(1,[aq,SF f L D H A,J (rO 3 f.kind f.x),J (rO 12 f.kind (xS f f.kind))]++(e9++e9))):=by
 have hs:=smC (fz f.kind f.x) [] [] [] [] f.kind (xS f f.kind);rw [show wY (fz f.kind f.x) [] [] [] [] f.kind (xS f f.kind)=xB f.kind f.x f.kind (xS f f.kind)by unfold wY;rw [show lB (fz f.kind f.x) [] [] [] []=true from rfl,Xy];rfl]at hs;refine bU au1 ?_;refine aj hs (av (c:= !xB f.kind f.x f.kind (xS f f.kind)) (λh=>af ?_) λh=>av (c:=ln (f.E.map aU) != DK f.kind (ln (f.E.map aU))) (λh2=>af ?_) λh2=>av (c:=ln (f.To.map cX) != toS f.kind) (λh3=>af ?_) λh3=>av (c:=ln L != yS f.kind (ln L)) (λh4=>af ?_) λh4=>af ?_)
 ·have:qa f L=false:=by unfold qa;simp only [dT]at h;rw [h];rfl
  exact eX
 ·have:qa f L=false:=by unfold qa;rw [gX h2];simp
  exact eX
 ·have:qa f L=false:=by unfold qa;rw [gX h3];simp
  exact eX
 ·have:qa f L=false:=by unfold qa;rw [gX h4];simp
  exact eX
 ·have:qa f L=true:=by unfold qa;simp only [dF]at h;rw [h,cN h2,cN h3,cN h4];rfl
  exact eX
def KB(f:dH)(D H A:aZ)(c:Nat):Bool:=
 (bif c==2 then true else bx (ln (f.Ins.map aU)+ln (f.fH.map cX))==0)&&((bif (c==1||c==4)then true else ln (ints f.Ts)==0)&&((bif c==1 then true else bx (ln D+ln H)==0)&&(bif c==3 then true else ln A==0)))
theorem aDy(k:Int):pB k=0∨pB k=1∨pB k=2∨pB k=3∨pB k=4:=by
 unfold pB;cases k==9<;>cases k==16<;>cases k==19<;>cases k==22<;>simp
theorem shC:Ev NI [SF f L D H A] (0,[ak (vC f.kind&&(qa f L&&KB f D H A (pB f.kind)))]):=by
 refine bz ay3 (aj (aEj f L D H A) ?_);cases vC f.kind with
 |false=>exact fX
 |true=>
  refine aX ?_;simp only [cg];refine aj (aEi f L D H A) ?_;cases qa f L with
  |false=>exact fX
  |true=>
   refine aX ?_;simp only [cg,ox];unfold KB;rcases aDy f.kind with h|h|h|h|h<;>rw [h]
   ·refine av (c:=bx (ln (f.Ins.map aU)+ln (f.fH.map cX))==0) (λa=>av (c:=ln (ints f.Ts)==0) (λb=>av (c:=bx (ln D+ln H)==0) (λc=>af ?_) λc=>af ?_) λb=>af ?_) λa=>af ?_
    ·exact wj
    ·exact wj
    ·exact nC
    ·exact rf
   ·refine av (c:=bx (ln (f.Ins.map aU)+ln (f.fH.map cX))==0) (λa=>aX (aX (af ?_))) λa=>af ?_
    ·exact rf
    ·exact rf
   ·refine aX (av (c:=ln (ints f.Ts)==0) (λb=>av (c:=bx (ln D+ln H)==0) (λc=>af ?_) λc=>af ?_) λb=>af ?_)
    ·rw [b,c];rfl
    ·rw [b,c];rfl
    ·rw [b];rfl
   ·refine av (c:=bx (ln (f.Ins.map aU)+ln (f.fH.map cX))==0) (λa=>av (c:=ln (ints f.Ts)==0) (λb=>av (c:=bx (ln D+ln H)==0) (λc=>aX (af ?_)) λc=>af ?_) λb=>af ?_) λa=>af ?_
    ·exact wj
    ·exact wj
    ·exact nC
    ·exact rf
   ·refine av (c:=bx (ln (f.Ins.map aU)+ln (f.fH.map cX))==0) (λa=>aX (av (c:=bx (ln D+ln H)==0) (λc=>af ?_) λc=>af ?_)) λa=>af ?_
    ·rw [a,c];rfl
    ·rw [a,c];rfl
    ·exact rf
end
end
end Go.Proofs.YtomkobcipaligaaGreatDoor
namespace Go.az
def akE{p:Prop}(h:p:=by
 generalize (f.Ins.map aU).isEmpty =a;generalize (f.fH.map cX).isEmpty =b;generalize (ints f.Ts).isEmpty =c;generalize D.isEmpty=d;generalize H.isEmpty=e;generalize A.isEmpty=g;cases a<;>cases b<;>cases c<;>cases d<;>cases e<;>cases g<;>rfl):p:=h
def aiF{p:Prop}(h:p:=by rw [lp]at g i;simp only [dF]at g i;intro j;unfold uA;rw [h,g,i,j];rfl):p:=h
end Go.az
namespace Go.Proofs.YtomkobcipaligaaGreatDoor
open Go Go.az
section
variable{a:aZ}
section
variable (f:dH) (L D H A:aZ)
theorem aD7{k:Int}{a x:XF}:iO k a k x=((a.N==x.N)&&((a.O==x.O)&&((a.T==x.T)&&((a.P==x.P)&&((a.entry==x.entry)&&(a.mode==x.mode)))))):=by unfold iO;simp
theorem aEP(x:XF):E (λN _=>Vm (FU CX EE N) N ([SF f L D H A,J (rO 2 f.kind x)]++e9))
 (bif xB f.kind f.x f.kind x then(0,[SF f L D H A,J (rO 2 f.kind x)]++e9)else(1,[aq,SF f L D H A,J (rO 2 f.kind x)]++e9)):=by
 refine bU av9 ?_;rw [Y2,aD7];refine av (c:=f.N != x.N) (λh2=>af ?_) λh2=>av (c:=f.O != x.O) (λh3=>af ?_) λh3=>av (c:=f.T != x.T) (λh4=>af ?_) λh4=>av (c:=f.P != x.P) (λh5=>af ?_) λh5=>av (c:=f.entry != x.entry) (λh6=>af ?_) λh6=>av (c:= !(f.In==x.In)) (λg=>af ?_) λg=>av (c:= !(f.rev==x.rev)) (λg2=>af ?_) λg2=>av (c:= !(f.px==x.px)) (λg3=>af ?_) λg3=>av (c:= !(f.els==x.els)) (λg4=>af ?_) λg4=>av (c:= !(f.pM==x.pM)) (λg5=>af ?_) λg5=>av (c:=f.mode != x.mode) (λh7=>af ?_) λh7=>af ?_
 ·rw [show(f.x.N==x.N)=false from gX h2];rfl
 ·rw [show(f.x.N==x.N)=true from cN h2,show(f.x.O==x.O)=false from gX h3];rfl
 ·rw [show(f.x.N==x.N)=true from cN h2,show(f.x.O==x.O)=true from cN h3,show(f.x.T==x.T)=false from gX h4];rfl
 ·rw [show(f.x.N==x.N)=true from cN h2,show(f.x.O==x.O)=true from cN h3,show(f.x.T==x.T)=true from cN h4,show(f.x.P==x.P)=false from gX h5];rfl
 ·rw [show(f.x.N==x.N)=true from cN h2,show(f.x.O==x.O)=true from cN h3,show(f.x.T==x.T)=true from cN h4,show(f.x.P==x.P)=true from cN h5,show(f.x.entry==x.entry)=false from gX h6];rfl
 ·have:im f.x x=false:=by unfold im dH.x;rw [rH g];rfl
  exact wo
 ·have:im f.x x=false:=by unfold im dH.x;rw [gV g,rH g2];rfl
  exact wo
 ·have:im f.x x=false:=by unfold im dH.x;rw [gV g,gV g2,rH g3];rfl
  exact wo
 ·have:im f.x x=false:=by unfold im dH.x;rw [gV g,gV g2,gV g3,rH g4];rfl
  exact wo
 ·have:im f.x x=false:=by unfold im dH.x;rw [gV g,gV g2,gV g3,gV g4,rH g5];rfl
  exact wo
 ·rw [show(f.x.mode==x.mode)=false from gX h7];simp only [oU,mZ];rfl
 ·have h8:im f.x x=true:=by unfold im dH.x;rw [gV g,gV g2,gV g3,gV g4,gV g5];rfl
  rw [h8,show(f.x.N==x.N)=true from cN h2,show(f.x.O==x.O)=true from cN h3,show(f.x.T==x.T)=true from cN h4,show(f.x.P==x.P)=true from cN h5,show(f.x.entry==x.entry)=true from cN h6,show(f.x.mode==x.mode)=true from cN h7];rfl
def xh(f:dH)(L:aZ)(e to l:Int):Bool:=(bif decide (0<=e)then ln (f.E.map aU)==e else true)&&((ln (f.To.map cX)==to)&&(bif decide (0<=l)then ln L==l else true))
theorem aEO(e to l:Int):bM Vl [iI e,iI to,iI l,SF f L D H A] (bif xh f L e to l then(0,[SF f L D H A])else(1,[aq,SF f L D H A])):=by
 refine bU av8 ?_;have rest:∀r:UO,(((ln (f.To.map cX)==to)&&(bif decide (0<=l)then ln L==l else true))=true->(0,[SF f L D H A])=r)->(((ln (f.To.map cX)==to)&&(bif decide (0<=l)then ln L==l else true))=false->(1,[aq,SF f L D H A])=r)->
  E (λ_ _=>bif ln (f.To.map cX) != to then some (1,[aq,SF f L D H A])else bif decide (0<=l)then bif ln L != l then some (1,[aq,SF f L D H A])else some (0,[SF f L D H A])else some (0,[SF f L D H A])) r:=λr h1 h2=>by
  refine av (λh=>af (h2 (by rw [gX h];rfl))) λh=>av (λg=>av (λi=>af (h2 (by rw [cN h,g,gX i];rfl))) λi=>af (h1 (by rw [cN h,g,cN i];rfl))) λg=>af (h1 (by rw [cN h,g];rfl))
 refine av (c:=decide (0<=e)) (λh=>av (c:=ln (f.E.map aU) != e) (λg=>af ?_) λg=>rest _ ?_ ?_) λh=>rest _ ?_ ?_
 ·unfold xh;rw [h,gX g];rfl
 ·intro i;unfold xh;rw [h,cN g,i];rfl
 ·intro i;unfold xh;rw [h,cN g,i];rfl
 ·intro i;unfold xh;rw [h,i];rfl
 ·intro i;unfold xh;rw [h,i];rfl
theorem lp{l:aZ}:decide (0<ln l)= !l.isEmpty:=by cases l<;>simp [ln]
def yX(f:dH):Bool:=bif f.kind != 16 then(f.Ins.map aU).isEmpty &&(f.fH.map cX).isEmpty else true
theorem aEN:bM Vk [SF f L D H A] (bif yX f then(0,[SF f L D H A])else(1,[aq,SF f L D H A])):=by
 refine bU av7 ?_;refine av (c:=f.kind != 16) (λh=>av (c:=decide (0<ln (f.Ins.map aU))) (λg=>af ?_) λg=>av (c:=decide (0<ln (f.fH.map cX))) (λi=>af ?_) λi=>af ?_) λh=>af ?_
 ·rw [lp]at g;simp only [dT]at g;unfold yX;rw [h,g];rfl
 ·rw [lp]at g i;simp only [dT,dF]at g i;unfold yX;rw [h,g,i];rfl
 ·rw [lp]at g i;simp only [dF]at g i;unfold yX;rw [h,g,i];rfl
 ·unfold yX;rw [h];rfl
def uA(f:dH)(D H A:aZ):Bool:=(bif f.kind != 9 then D.isEmpty&&H.isEmpty else true)&&(bif f.kind != 19 then A.isEmpty else true)
theorem aDz:bM UW [SF f L D H A] (bif uA f D H A then(0,[SF f L D H A])else(1,[aq,SF f L D H A])):=by
 refine bU auR ?_;have rest:∀r:UO,((bif f.kind != 19 then A.isEmpty else true)=true->(0,[SF f L D H A])=r)->((bif f.kind != 19 then A.isEmpty else true)=false->(1,[aq,SF f L D H A])=r)->
  E (λ_ _=>bif f.kind != 19 then bif decide (0<ln A)then some (1,[aq,SF f L D H A])else some (0,[SF f L D H A])else some (0,[SF f L D H A])) r:=λr h1 h2=>by
  refine av (λh=>av (λg=>af (h2 ?_)) λg=>af (h1 ?_)) λh=>af (h1 (fY))
  ·rw [lp]at g;simp only [dT]at g;rw [h,g];rfl
  ·rw [lp]at g;simp only [dF]at g;rw [h,g];rfl
 refine av (c:=f.kind != 9) (λh=>av (c:=decide (0<ln D)) (λg=>af ?_) λg=>av (c:=decide (0<ln H)) (λi=>af ?_) λi=>rest _ ?_ ?_) λh=>rest _ ?_ ?_
 ·rw [lp]at g;simp only [dT]at g;unfold uA;rw [h,g];rfl
 ·rw [lp]at g i;simp only [dT,dF]at g i;unfold uA;rw [h,g,i];rfl
 ·exact aiF
 ·exact aiF
 ·intro j;unfold uA;rw [h,j];rfl
 ·intro j;unfold uA;rw [h,j];rfl
def Gz(f:dH):Bool:=bif GN f.kind then bif f.kind != 19 then true else ln (ints f.Ts)==0 else ln (ints f.Ts)==0
theorem lkR:Ev NW [SF f L D H A] (0,[ak (vC f.kind&&(xB f.kind f.x f.kind (xS f f.kind)&&(xh f L (G7 f.kind) (toS f.kind) (GO f.kind)&&(yX f&&(uA f D H A&&Gz f)))))]):=by
 refine bz azH (aj (aMu f L D H A) ?_);cases vC f.kind with
 |false=>exact fX
 |true=>
  refine aX ?_;simp only [cg];refine aj (aEP f L D H A (xS f f.kind)) ?_;cases xB f.kind f.x f.kind (xS f f.kind)with
  |false=>exact fX
  |true=>
   refine aX ?_;simp only [cg];refine aj (aEO f L D H A (G7 f.kind) (toS f.kind) (GO f.kind)) ?_;cases xh f L (G7 f.kind) (toS f.kind) (GO f.kind)with
   |false=>exact fX
   |true=>
    refine aX ?_;simp only [cg];refine aj (aEN f L D H A) ?_;cases yX f with
    |false=>exact fX
    |true=>
     refine aX ?_;simp only [cg];refine aj (aDz f L D H A) ?_;cases uA f D H A with
     |false=>exact fX
     |true=>
      refine aX ?_;refine av (c:=GN f.kind) (λh=>av (c:=f.kind != 19) (λg=>af ?_) λg=>af ?_) λh=>af ?_
      ·unfold Gz;rw [h,g];rfl
      ·unfold Gz;rw [h,g];rfl
      ·unfold Gz;rw [h];rfl
theorem w2{b:aZ}(ha:a.length<=mx)(hb:b.length<=mx):(bx (ln a+ln b)==0)=(a.isEmpty&&b.isEmpty):=by
 simp only [mx]at ha hb;have:bx (ln a+ln b)=ln a+ln b:=jv (by simp only [ln];omega) (by simp only [ln];omega);rw [this];cases a<;>cases b<;>simp [ln]<;>omega
theorem l0:(ln a==0)=a.isEmpty:=by cases a<;>simp [ln];omega
theorem aMj(k:Int):(pB k==2)=(k==16)∧(pB k==1)=(k==9)∧(pB k==3)=(k==19)∧(pB k==1||pB k==4)=(k==9||k==22)∧GN k=(k==9||(k==19||k==22)):=by
 cases h9:k==9 with
 |true=>rw [eq_of_beq h9];decide
 |false=>
 cases iR:k==16 with
 |true=>rw [eq_of_beq iR];decide
 |false=>
 cases pH:k==19 with
 |true=>rw [eq_of_beq pH];decide
 |false=>
 cases oN:k==22 with
 |true=>rw [eq_of_beq oN];decide
 |false=>
  have a:pB k=0:=by unfold pB;rw [h9,iR,pH,oN];rfl
  have b:GN k=false:=by unfold GN;rw [h9,pH,oN];rfl
  rw [a,b];decide
theorem aFe(k:Int):0<=eS k∧0<=lS k:=by
 constructor
 ·unfold eS;cases k==2<;>cases k==4<;>cases k==5<;>cases k==6<;>cases k==11<;>cases k==15<;>decide
 ·unfold lS;cases k==4<;>cases k==5<;>cases k==6<;>cases k==7<;>cases k==9<;>cases k==16<;>cases k==17<;>cases k==18<;>cases k==19<;>cases k==20<;>decide
def yG(f:dH)(L D H A:aZ):Bool:=vC f.kind&&(qa f L&&KB f D H A (pB f.kind))
theorem ahg(hf:f.Ok)(hD:D.length<=mx)(hH:H.length<=mx):Ev NI [SF f L D H A] (0,[ak (yG f L D H A)])∧Ev NW [SF f L D H A] (0,[ak (yG f L D H A)]):=by
 refine⟨shC f L D H A,E.to (lkR f L D H A) ?_⟩;obtain⟨m1,m2,m3,m4,m5⟩:=aMj f.kind;obtain⟨n1,n2⟩:=aFe f.kind;have hc:xh f L (G7 f.kind) (toS f.kind) (GO f.kind)=((ln (f.E.map aU)==DK f.kind (ln (f.E.map aU)))&&((ln (f.To.map cX)==toS f.kind)&&(ln L==yS f.kind (ln L)))):=by
  unfold xh G7 DK GO yS;have a1:decide (0<=eS f.kind)=true:=by simpa using n1
  have a2:decide (0<=lS f.kind)=true:=by simpa using n2
  cases eF f.kind<;>cases lF f.kind<;>simp only [cg,cC,a1,a2]<;>simp
 have ht:KB f D H A (pB f.kind)=(yX f&&(uA f D H A&&Gz f)):=by
  unfold KB yX uA Gz;rw [m4,m1,m2,m3,m5,w2 (by rw [eE];exact hf.Ins.1) (by rw [eE];exact hf.fH.1),w2 hD hH,l0,l0];simp only [bne];cases h9:f.kind==9 with
  |true=>rw [eq_of_beq h9];simp
  |false=>
  cases iR:f.kind==16 with
  |true=>rw [eq_of_beq iR];simp;cases f.Ts.isEmpty<;>cases D.isEmpty<;>cases H.isEmpty<;>cases A.isEmpty<;>rfl
  |false=>
  cases pH:f.kind==19 with
  |true=>rw [eq_of_beq pH];simp;cases f.Ts.isEmpty<;>cases D.isEmpty<;>cases H.isEmpty<;>simp
  |false=>
  cases oN:f.kind==22 with
  |true=>
   exact akE
  |false=>
   exact akE
 rw [hc];unfold yG qa;rw [ht];simp only [IH]
theorem XC(h:yG f L D H A=true):ln (f.E.map aU)=DK f.kind (ln (f.E.map aU))∧ln (f.To.map cX)=toS f.kind∧ln L=yS f.kind (ln L):=by
 unfold yG qa at h;simp only [bS,ic]at h;exact⟨h.2.1.2.1,h.2.1.2.2.1,h.2.1.2.2.2⟩
end
end
end Go.Proofs.YtomkobcipaligaaGreatDoor
namespace Go.az
def Yx{p:Prop}(h:p:=by rw [hu,aB7,ox]at h2;exact h2):p:=h
end Go.az
namespace Go.az
def aB7:=@Bool.or_true
end Go.az
namespace Go.Proofs.YtomkobcipaligaaGreatDoor
open Go Go.az
section
variable (f:dH) (L D H A:aZ)
def k7(k:Int):Bool:=bif k==16 then true else bif k==17 then true else bif k==18 then true else bif k==19 then true else bif k==15 then true else bif k==11 then true else bif k==12 then true else bif k==22 then true else k==21
def tq(f:dH):Bool:=bif k7 f.kind then true else bif f.kind==9 then decide (0<ln (ints f.Ts))else false
theorem aNB(k:Int):bM U9 [bE k] (0,[ak (k7 k)]):=by
 refine bU au5 ?_;refine av (λh=>af ?_) λh=>av (λh2=>af ?_) λh2=>av (λh3=>af ?_) λh3=>av (λh4=>af ?_) λh4=>av (λh5=>af ?_) λh5=>av (λh6=>af ?_) λh6=>av (λh7=>af ?_) λh7=>av (λh8=>af ?_) λh8=>af ?_<;>(try simp only [k7,h,cg,cC])<;>(try simp only [h2,cg,cC])<;>(try simp only [h3,cg,cC])<;>(try simp only [h4,cg,cC])<;>(try simp only [h5,cg,cC])<;>(try simp only [h6,cg,cC])<;>(try simp only [h7,cg,cC])<;>(try simp only [h8,cg,cC])
theorem blC:Ev No [SF f L D H A] (0,[ak (tq f)]):=by
 refine bz ayh (aj (aNB f.kind) (av (c:=k7 f.kind) (λh=>af ?_) λh=>av (c:=f.kind==9) (λg=>af ?_) λg=>af ?_))
 ·unfold tq;rw [h];rfl
 ·unfold tq;rw [h,g];rfl
 ·unfold tq;rw [h,g];rfl
theorem blJ:bM VI [SF f L D H A] (bif k7 f.kind then(1,[cu,SF f L D H A])else(0,[SF f L D H A])):=by
 refine bU axi ?_;refine av (c:=f.kind==16) (λh=>af ?_) λh=>av (c:=f.kind==17) (λh2=>af ?_) λh2=>av (c:=f.kind==18) (λh3=>af ?_) λh3=>av (c:=f.kind==19) (λh4=>af ?_) λh4=>av (c:=f.kind==15) (λh5=>af ?_) λh5=>av (c:=f.kind==11) (λh6=>af ?_) λh6=>av (c:=f.kind==12) (λh7=>af ?_) λh7=>av (c:=f.kind==22) (λh8=>af ?_) λh8=>av (c:=f.kind==21) (λh9=>af ?_) λh9=>af ?_
 ·rw [show k7 f.kind=true by unfold k7;rw [h];rfl];rfl
 ·rw [show k7 f.kind=true by unfold k7;rw [h,h2];rfl];rfl
 ·rw [show k7 f.kind=true by unfold k7;rw [h,h2,h3];rfl];rfl
 ·rw [show k7 f.kind=true by unfold k7;rw [h,h2,h3,h4];rfl];rfl
 ·rw [show k7 f.kind=true by unfold k7;rw [h,h2,h3,h4,h5];rfl];rfl
 ·rw [show k7 f.kind=true by unfold k7;rw [h,h2,h3,h4,h5,h6];rfl];rfl
 ·rw [show k7 f.kind=true by unfold k7;rw [h,h2,h3,h4,h5,h6,h7];rfl];rfl
 ·rw [show k7 f.kind=true by unfold k7;rw [h,h2,h3,h4,h5,h6,h7,h8];rfl];rfl
 ·rw [show k7 f.kind=true by unfold k7;rw [h,h2,h3,h4,h5,h6,h7,h8,h9];rfl];rfl
 ·rw [show k7 f.kind=false by unfold k7;rw [h,h2,h3,h4,h5,h6,h7,h8,h9];rfl];rfl
theorem blR:Ev NG [SF f L D H A] (0,[ak (tq f)]):=by
 refine bz ayZ (aj (blJ f L D H A) ?_);cases h:k7 f.kind with
 |true=>exact bj (af (by unfold tq;rw [h];rfl))
 |false=>
  refine aX (av (c:=f.kind==9) (λg=>af ?_) λg=>af ?_)
  ·unfold tq;rw [h,g];rfl
  ·unfold tq;rw [h,g];rfl
end
section
variable {p:PG} {ro:List RO} (ct:CT p ro) {w:WH} (hw:w.Ok) {cn:aZ} (hc:ay (au cn)=cn) {lf:Int} (hE:ml)
variable (f:dH) (L D H A:aZ)
def jG(k:Int):Bool:=bif k==18 then true else bif k==19 then true else k==21
def vr(w:WH)(f:dH):Bool:=bif decide (0<ln (ints w.gP))then !tq f else true
def qG(w:WH)(f:dH):Bool:=
 vr w f&&bif jG f.kind then(!w.jy&& !w.iC)else bif f.kind==11 then true else bif f.kind==12 then true else bif !w.iC then true else !tq f
include hc in
theorem stC:Ev TU [J (bC 0 w),SF f L D H A,K0 p lf,ah (bf ro),.ab 0 cn] (0,ak (qG w f)::gk p ro lf cn):=by
 have j6:bM Tu [K0 p lf,ah (bf ro),.ab 0 cn,J (bC 0 w),SF f L D H A] (bif vr w f then(0,[K0 p lf,ah (bf ro),.ab 0 cn,J (bC 0 w),SF f L D H A])else(1,[aq,K0 p lf,ah (bf ro),.ab 0 cn,J (bC 0 w),SF f L D H A])):=by
  refine bU aqM ?_;rw [hc];refine av (c:=decide (0<ln (ints w.gP))) (λh=>aj (blC f L D H A) (av (c:=tq f) (λg=>af ?_) λg=>af ?_)) λh=>af ?_
  ·unfold vr;rw [h,g];rfl
  ·unfold vr;rw [h,g];rfl
  ·unfold vr;rw [h];rfl
 have aai:bM Tb [bE f.kind,K0 p lf,ah (bf ro),.ab 0 cn] (0,ak (jG f.kind)::gk p ro lf cn):=by
  refine bU apX ?_;rw [hc];refine av (c:=f.kind==18) (λh=>af ?_) λh=>av (c:=f.kind==19) (λh2=>af ?_) λh2=>af ?_
  ·unfold jG;rw [h];rfl
  ·unfold jG;rw [h,h2];rfl
  ·unfold jG;rw [h,h2];rfl
 let c7:UO:=bif jG f.kind then(1,[ak (!w.jy&& !w.iC),K0 p lf,ah (bf ro),.ab 0 cn,J (bC 0 w),SF f L D H A])else bif f.kind==11 then(1,[cu,K0 p lf,ah (bf ro),.ab 0 cn,J (bC 0 w),SF f L D H A])else bif f.kind==12 then(1,[cu,K0 p lf,ah (bf ro),.ab 0 cn,J (bC 0 w),SF f L D H A])else(0,[K0 p lf,ah (bf ro),.ab 0 cn,J (bC 0 w),SF f L D H A])
 have Dr:bM Tk [K0 p lf,ah (bf ro),.ab 0 cn,J (bC 0 w),SF f L D H A] c7:=by
  refine bU aqi ?_;rw [hc];refine aj aai ?_;erw [hc];refine av (c:=jG f.kind) (λh=>av (c:= !w.jy) (λg=>af ?_) λg=>af ?_) λh=>av (c:=f.kind==11) (λg=>af ?_) λg=>av (c:=f.kind==12) (λi=>af ?_) λi=>af ?_
  ·simp only [c7,h,g,cg,ox];rfl
  ·simp only [c7,h,g,cg,mZ];rfl
  ·simp only [c7,h,g,cg,cC];rfl
  ·simp only [c7,h,g,i,cg,cC];rfl
  ·simp only [c7,h,g,i,cC];rfl
 refine bz asi ?_;rw [hc];refine aj j6 ?_;cases h1:vr w f with
 |false=>refine bj (af ?_);erw [hc];unfold qG;rw [h1];rfl
 |true=>
  refine aX ?_;simp only [cg];erw [hc];refine aj Dr ?_;cases h2:jG f.kind with
  |true=>
   simp only [c7,h2,cg];refine bj (af ?_);erw [hc];unfold qG;rw [h1,h2];rfl
  |false=>
   cases h3:f.kind==11 with
   |true=>
    simp only [c7,h2,h3,cg,cC];refine bj (af ?_);erw [hc];unfold qG;rw [h1,h2,h3];rfl
   |false=>
    cases h4:f.kind==12 with
    |true=>
     simp only [c7,h2,h3,h4,cg,cC];refine bj (af ?_);erw [hc];unfold qG;rw [h1,h2,h3,h4];rfl
    |false=>
     simp only [c7,h2,h3,h4,cC];refine aX ?_;erw [hc];refine av (c:= !w.iC) (λh=>af ?_) λh=>aj (blC f L D H A) (af ?_)
     ·unfold qG;rw [h1,h2,h3,h4,h];rfl
     ·unfold qG;rw [h1,h2,h3,h4,h];rfl
theorem stR:Ev UP [bL p ro w,SF f L D H A] (0,[ak (qG w f)]):=by
 have j6:bM Uo [bL p ro w,SF f L D H A] (bif vr w f then(0,[bL p ro w,SF f L D H A])else(1,[aq,bL p ro w,SF f L D H A])):=by
  refine bU asW ?_;refine av (c:=decide (0<ln (ints w.gP))) (λh=>aj (blR f L D H A) (av (c:=tq f) (λg=>af ?_) λg=>af ?_)) λh=>af ?_
  ·unfold vr;rw [h,g];rfl
  ·unfold vr;rw [h,g];rfl
  ·unfold vr;rw [h];rfl
 have Dr:bM T2 [bL p ro w,SF f L D H A] (bif (w.jy||w.iC)&&jG f.kind then(1,[aq,bL p ro w,SF f L D H A])else(0,[bL p ro w,SF f L D H A])):=by
  refine bU ar7 ?_;refine av (c:=w.jy) (λh=>av (c:=f.kind==18) (λa=>af ?_) λa=>av (c:=f.kind==19) (λb=>af ?_) λb=>av (c:=f.kind==21) (λc=>af ?_) λc=>af ?_) λh=>av (c:=w.iC) (λg=>av (c:=f.kind==18) (λa=>af ?_) λa=>av (c:=f.kind==19) (λb=>af ?_) λb=>av (c:=f.kind==21) (λc=>af ?_) λc=>af ?_) λg=>af ?_
  ·have e:((w.jy||w.iC)&&jG f.kind)=true:=by unfold jG;rw [h,a];rfl
   rw [e];rfl
  ·have e:((w.jy||w.iC)&&jG f.kind)=true:=by unfold jG;rw [h,a,b];rfl
   rw [e];rfl
  ·have e:((w.jy||w.iC)&&jG f.kind)=true:=by unfold jG;rw [h,a,b,c];rfl
   rw [e];rfl
  ·have e:((w.jy||w.iC)&&jG f.kind)=false:=by unfold jG;rw [h,a,b,c];rfl
   rw [e];rfl
  ·have e:((w.jy||w.iC)&&jG f.kind)=true:=by unfold jG;rw [h,g,a];rfl
   rw [e];rfl
  ·have e:((w.jy||w.iC)&&jG f.kind)=true:=by unfold jG;rw [h,g,a,b];rfl
   rw [e];rfl
  ·have e:((w.jy||w.iC)&&jG f.kind)=true:=by unfold jG;rw [h,g,a,b,c];rfl
   rw [e];rfl
  ·have e:((w.jy||w.iC)&&jG f.kind)=false:=by unfold jG;rw [h,g,a,b,c];rfl
   rw [e];rfl
  ·have e:((w.jy||w.iC)&&jG f.kind)=false:=by rw [h,g];rfl
   rw [e];rfl
 refine bz au7 (aj j6 ?_);cases h1:vr w f with
 |false=>exact bj (af (by unfold qG;rw [h1];rfl))
 |true=>
  refine aX ?_;simp only [cg];refine aj Dr ?_;cases h2:(w.jy||w.iC)&&jG f.kind with
  |true=>
   refine bj (af ?_);rw [bS]at h2;unfold qG;rw [h1,h2.2];have:(!w.jy&& !w.iC)=false:=by rw [<-Bool.not_or,h2.1];rfl
   simp only [cg,this];rfl
  |false=>
   refine aX (av (c:= !w.iC) (λh=>af ?_) λh=>aj (blR f L D H A) (av (c:= !tq f) (λg=>af ?_) λg=>av (c:=f.kind==11) (λi=>af ?_) λi=>af ?_))
   ·unfold qG;rw [h1,h];cases ha:jG f.kind with
    |true=>
     rw [ha,Xy,Bool.or_eq_false_iff]at h2;simp only [cg,h2.1];rfl
    |false=>cases f.kind==11<;>cases f.kind==12<;>rfl
   ·have hu:w.iC=true:=by simpa using h
    have ha:jG f.kind=false:=Yx;unfold qG;rw [h1,ha,h,g];cases f.kind==11<;>cases f.kind==12<;>rfl
   ·have hu:w.iC=true:=by simpa using h
    have ha:jG f.kind=false:=Yx;unfold qG;rw [h1,ha,i];rfl
   ·have hu:w.iC=true:=by simpa using h
    have ha:jG f.kind=false:=Yx;unfold qG;rw [h1,ha,i,h,g];show(0,[ak (f.kind==12)])=_;cases f.kind==12<;>rfl
end
end Go.Proofs.YtomkobcipaligaaGreatDoor
namespace Go.az
def akR{p:Prop}(h:p:=by
 cases hl:ln (f.E.map aU)==0 with
 |false=>
  rw [hl]at R;refine⟨false,C _ (aX (aC hl (af ?_))),R _ (bj aL)⟩;erw [hc];rfl
 |true=>
  rw [hl]at R;refine⟨true,C _ (aX (bu hl (aX (af ?_)))),R _ (aX (aC (c:=tv==1) (by rw [AR];rfl) (aj rl.diag (bj aL))))⟩;erw [hc];rfl):p:=h
def Yd{p:Prop}(h:p:=by rw [eq_of_beq hl];rfl):p:=h
def ahN{p:Prop}(h:p:=by simp only [c7,ht,hm,hb,cg,cC]):p:=h
def Pj{p:Prop}(h:p:=by rw [h,g];rfl):p:=h
end Go.az
namespace Go.Proofs.YtomkobcipaligaaGreatDoor
open Go Go.az
def nL(s:CS):Bool:=wY s.f (s.L.map encS) (s.D.map cq) (s.H.map cA) (s.A.map cw) 1 xz
theorem Ci(s:CS):Ev uG [J (encS s)] (0,[ak (nL s)]):=by rw [Fj];exact aEI _ _ _ _ _
theorem Cf(s:CS):Ev mX [J (encS s),J rD] (0,[ak (nL s)]):=by rw [Fj];exact smR _ _ _ _ _ 1 xz
theorem agZ(l:aZ)(k j:Nat):gA (l.drop k) j=gA l (k+j):=by simp [gA,List.getD]
section
variable {p:PG} {ro:List RO} (ct:CT p ro) {w:WH} (hw:w.Ok) {cn:aZ} (hc:ay (au cn)=cn) {lf:Int} (hE:ml)
include ct hw hc hE in
theorem XR{f:dH}(hf:f.Ok){Ls:List CS}{D H A:aZ}{n:Nat}(hn:Ls.length=n)(h2:2<=n)(h3:n<=3):∃b,
 Ev Hx [J (bC 0 w),SF f (Ls.map encS) D H A,K0 p lf,ah (bf ro),.ab 0 cn] (0,ak b::gk p ro lf cn)∧
 Ev Eg [bL p ro w,SF f (Ls.map encS) D H A,iI (n:Int)] (0,[ak b]):=by
 have i0:n- 2<Ls.length:=by omega
 have i1:n- 1<Ls.length:=by omega
 let tB:Bool:=nL Ls[n- 2]&&nL Ls[n- 1]
 let tm:Bool:=bif f.mode==2 then true else f.mode==3
 have hk:bx (ln (Ls.map encS)- 2)=((n- 2:Nat):Int):=by rw [dq,hn,jv (by omega) (by omega)];omega
 have g0:dv (gA ((Ls.map encS).drop (n- 2)) 0)=encS Ls[n- 2]:=by rw [agZ,xF,sf i0,fE]
 have g1:dv (gA ((Ls.map encS).drop (n- 2)) 1)=encS Ls[n- 1]:=by
  rw [agZ,show n- 2+1=n- 1 by omega,sf i1,fE]
 have aai:bM Tj [bE f.mode,K0 p lf,ah (bf ro),.ab 0 cn] (0,ak tm::gk p ro lf cn):=by
  refine bU aqh ?_;rw [hc];refine av (c:=f.mode==2) (λh=>af ?_) λh=>af ?_
  ·simp only [tm,h,cg];rfl
  ·simp only [tm,h,cC];rfl
 let c7:UO:=bif tm then(0,[iI 1,K0 p lf,ah (bf ro),.ab 0 cn,SF f (Ls.map encS) D H A])else bif f.mode==0 then bif tB then(0,[iI 0,K0 p lf,ah (bf ro),.ab 0 cn,SF f (Ls.map encS) D H A])else(1,[aq,K0 p lf,ah (bf ro),.ab 0 cn,SF f (Ls.map encS) D H A])else bif f.mode==1 then(0,[iI 0,K0 p lf,ah (bf ro),.ab 0 cn,SF f (Ls.map encS) D H A])else(1,[aq,K0 p lf,ah (bf ro),.ab 0 cn,SF f (Ls.map encS) D H A])
 have Dr:bM Tt [iI 0,K0 p lf,ah (bf ro),.ab 0 cn,SF f (Ls.map encS) D H A] c7:=by
  refine bU aqL ?_;rw [hc];refine aj aai ?_;erw [hc];refine av (c:=tm) (λh=>af (by simp only [c7,h,cg];rfl)) λh=>av (c:=f.mode==0) (λg=> ?_) λg=>av (c:=f.mode==1) (λi=>af (by simp only [c7,h,g,i,cg,cC];rfl)) λi=>af (by simp only [c7,h,g,i,cC];rfl)
  ·have nx:gR (cW f (Ls.map encS) D H A) 17=Ls.map encS:=rfl;refine aH (c:=decide (0<=bx (ln (Ls.map encS)- 2))&&decide (bx (ln (Ls.map encS)- 2)<=ln (Ls.map encS))&&decide (ln (Ls.map encS)<=ln (Ls.map encS))&&decide (ln (Ls.map encS)<=ln (Ls.map encS))) (by rw [hk,dq,hn];simp<;>omega) ?_;refine aH (c:=decide (0<ln ((Ls.map encS).drop (bx (ln (Ls.map encS)- 2)).toNat))) (by rw [hk];simp [ln,hn]<;>omega) ?_;have n0:Ev uG [J (dv (gA ((Ls.map encS).drop (bx (ln (Ls.map encS)- 2)).toNat) 0))] (0,[ak (nL Ls[n- 2])]):=by rw [hk,mE,g0];exact Ci _
   have n1:Ev uG [J (dv (gA ((Ls.map encS).drop (bx (ln (Ls.map encS)- 2)).toNat) 1))] (0,[ak (nL Ls[n- 1])]):=by rw [hk,mE,g1];exact Ci _
   refine aj n0 (av (c:= !nL Ls[n- 2]) (λi=>af ?_) λi=>aH (c:=decide (1<ln ((Ls.map encS).drop (bx (ln (Ls.map encS)- 2)).toNat))) (by rw [hk];simp [ln,hn]<;>omega) (aj n1 (av (c:= !nL Ls[n- 1]) (λj=>af ?_) λj=>af ?_)))
   ·simp only [dT]at i;simp only [c7,tB,h,g,i,cg,cC,mZ];rfl
   ·simp only [dT,dF]at i j;simp only [c7,tB,h,g,i,j,cg,cC,ox];rfl
   ·simp only [dF]at i j;simp only [c7,tB,h,g,i,j,cg,cC,ox];rfl
 let tv:Int:=bif tm then 1 else 0
 have fa:bM Un [iI 0,SF f (Ls.map encS) D H A] (0,[iI tv,SF f (Ls.map encS) D H A]):=by
  refine bU asV ?_;refine av (c:=f.mode==2) (λh=>af ?_) λh=>av (c:=f.mode==3) (λg=>af ?_) λg=>af ?_
  ·simp only [tv,tm,h,cg];rfl
  ·simp only [tv,tm,h,g,cg,cC];rfl
  ·simp only [tv,tm,h,g,cC];rfl
 let okB:Bool:= !decide (3<f.mode)&&(ln (f.E.map aU)==tv)
 have r30:bM Um [iI (n:Int),iI tv,SF f (Ls.map encS) D H A] (bif okB then(0,[SF f (Ls.map encS) D H A])else(1,[aq,SF f (Ls.map encS) D H A])):=by
  refine bU asU ?_;refine av (c:=decide (3<f.mode)) (λh=>af ?_) λh=>av (c:=ln (f.E.map aU) != tv) (λg=>af ?_) λg=>aC (c:=ln (Ls.map encS) != (n:Int)) (by rw [dq,hn];simp) (af ?_)
  ·simp only [okB,h];rfl
  ·simp only [okB,h,gX g];rfl
  ·simp only [okB,h,cN g];rfl
 have rl:bP zk [iI (n:Int),iI (bx ((n:Int)- 2)),SF f (Ls.map encS) D H A] (bif f.mode==0 then bif tB then(1,[SF f (Ls.map encS) D H A])else(0,[aq,SF f (Ls.map encS) D H A])else(1,[SF f (Ls.map encS) D H A])):=by
  have oL:bx ((n:Int)- 2)=((n- 2:Nat):Int):=uX;have x1:bx (((n- 2:Nat):Int)+1)=((n- 1:Nat):Int):=uX;have x2:bx (((n- 1:Nat):Int)+1)=(n:Int):=uX;rw [oL];have step:∀(i:Nat) (hi:i<Ls.length) r,((f.mode==0&& !(nL Ls[i]))=true->(0,[aq,SF f (Ls.map encS) D H A])=r)->((f.mode==0&& !(nL Ls[i]))=false->bP zk [iI (n:Int),iI (bx ((i:Int)+1)),SF f (Ls.map encS) D H A] r)->bP zk [iI (n:Int),iI (i:Int),SF f (Ls.map encS) D H A] r:=λi hi r q1 q2=>by
   refine bF ab4 (bu (c:=decide ((i:Int)<(n:Int))) (eh) (av (c:=f.mode==0) (λh=>aH (cH hi) ?_) λh=>q2 (fY)));rw [show gR (cW f (Ls.map encS) D H A) 17=Ls.map encS from rfl,fM hi,fE];exact aj (Cf Ls[i]) (av (c:= !nL Ls[i]) (λg=>af (q1 (Pj))) λg=>q2 (Pj))
  refine step (n- 2) i0 _ (λh=> ?_) λh=> ?_
  ·rw [bS]at h;have:=h.2;simp only [dT]at this;rw [h.1];simp only [tB,this,mZ];rfl
  ·rw [x1];refine step (n- 1) i1 _ (λg=> ?_) λg=> ?_
   ·rw [bS]at g;have:=g.2;simp only [dT]at this;rw [g.1];simp only [tB,this,oU];rfl
   ·rw [x2];refine bF ab4 (aC (c:=decide ((n:Int)<(n:Int))) (by simp) (af ?_));cases hm:f.mode==0 with
    |false=>rfl
    |true=>
     rw [hm,ox]at h g;simp only [dF]at h g;simp only [tB,h,g];rfl
 have Se:=hf.mode;have C:∀r:UO,_->Ev Hx [J (bC 0 w),SF f (Ls.map encS) D H A,K0 p lf,ah (bf ro),.ab 0 cn] r:=λr h=>by
  refine bz as2 ?_;rw [hc];refine aj Dr ?_;exact h
 have R:∀r:UO,_->Ev Eg [bL p ro w,SF f (Ls.map encS) D H A,iI (n:Int)] r:=λr h=>by
  refine bz awl (aj fa (aj r30 ?_));exact h
 cases ht:tm with
 |true=>
  have hm:f.mode=2∨f.mode=3:=by
   simp only [tm]at ht;cases h:f.mode==2 with
   |true=>exact .inl (eq_of_beq h)
   |false=>rw [h]at ht;exact .inr (eq_of_beq ht)
  have ho:c7=(0,[iI 1,K0 p lf,ah (bf ro),.ab 0 cn,SF f (Ls.map encS) D H A]):=by simp only [c7,ht,cg]
  have AR:tv=1:=by simp only [tv,ht];rfl
  have AX:decide (3<f.mode)=false:=eh;have aMY:(f.mode==0)=false:=eh;rw [aMY]at rl;cases hl:ln (f.E.map aU)==1 with
  |false=>
   have bB:okB=false:=by simp only [okB,AX,AR,hl];rfl
   rw [ho]at C;rw [bB]at R;refine⟨false,C _ (aX (aC hl (af ?_))),R _ (bj aL)⟩;exact j5
  |true=>
   have bB:okB=true:=by simp only [okB,AX,AR,hl];rfl
   obtain⟨e,he⟩:∃e,f.E=[e]:=by
    have:=eq_of_beq hl;rw [dq]at this
    match hE':f.E,this with
    | [e],_=>exact⟨e,rfl⟩
    | [],h=>exact gM
    |_::_::_,h=>simp at h;omega
   obtain⟨b,b1,b2⟩:=J5 ct hw hc (lf:=lf) hE e (hf.E.2 e (uO));have vM:decide (0<ln (f.E.map aU))=true:=Yd;rw [<-wy e,<-he]at b1 b2;rw [ho]at C;rw [bB]at R;refine⟨b,C _ (aX (bu hl (bj (aH vM ?_)))),R _ (aX (bu (c:=tv==1) (by rw [AR];rfl) (aH vM (aj b2 ?_))))⟩
   ·erw [hc];refine aj b1 (af ?_);exact j5
   ·cases b with
    |false=>exact mG
    |true=>exact bj (aj rl.diag (bj aL))
 |false=>
  have AR:tv=0:=by simp only [tv,ht];rfl
  have hm2:¬f.mode=2∧¬f.mode=3:=by
   simp only [tm]at ht;cases h:f.mode==2 with
   |true=>rw [h]at ht;cases ht
   |false=>rw [h]at ht;exact⟨lJ,Fv⟩
  cases hm:f.mode==0 with
  |true=>
   have AX:decide (3<f.mode)=false:=by rw [eq_of_beq hm];rfl
   have aao:okB=(ln (f.E.map aU)==0):=by simp only [okB,AX,AR];simp
   rw [hm]at rl;rw [aao]at R;cases hb:tB with
   |false=>
    have ho:c7=(1,[aq,K0 p lf,ah (bf ro),.ab 0 cn,SF f (Ls.map encS) D H A]):=ahN;rw [ho]at C;rw [hb]at rl;refine⟨false,C _ (bj (af ?_)),R _ ?_⟩
    ·exact j5
    ·cases ln (f.E.map aU)==0 with
     |false=>exact fX
     |true=>exact aX (aC (c:=tv==1) (by rw [AR];rfl) (aj rl.diag (aX aL)))
   |true=>
    have ho:c7=(0,[iI 0,K0 p lf,ah (bf ro),.ab 0 cn,SF f (Ls.map encS) D H A]):=ahN;rw [ho]at C;rw [hb]at rl;exact akR
  |false=>
   rw [hm]at rl;cases uo:f.mode==1 with
   |true=>
    have AX:decide (3<f.mode)=false:=by rw [eq_of_beq uo];rfl
    have aao:okB=(ln (f.E.map aU)==0):=by simp only [okB,AX,AR];simp
    have ho:c7=(0,[iI 0,K0 p lf,ah (bf ro),.ab 0 cn,SF f (Ls.map encS) D H A]):=by simp only [c7,ht,hm,uo,cg,cC]
    rw [ho]at C;rw [aao]at R;exact akR
   |false=>
    have AX:decide (3<f.mode)=true:=by simp at hm uo⊢;omega
    have bB:okB=false:=by simp only [okB,AX];rfl
    have ho:c7=(1,[aq,K0 p lf,ah (bf ro),.ab 0 cn,SF f (Ls.map encS) D H A]):=by simp only [c7,ht,hm,uo,cC]
    rw [ho]at C;rw [bB]at R;refine⟨false,C _ (bj (af ?_)),R _ (bj aL)⟩;exact j5
end
end Go.Proofs.YtomkobcipaligaaGreatDoor
namespace Go.az
def Jg{p:Prop}(h:p:=by rw [fy];omega):p:=h
end Go.az
namespace Go.Proofs.YtomkobcipaligaaGreatDoor
open Go Go.az
section
variable{i:Nat}{l m:cT}
structure WH.In(p:PG)(w:WH):Prop where
 GA:w.lC<0∨jh p w.task w.lC=true
 act:∀a∈w.gP,ib a p.dp.length=true
 task:ib w.task p.tasks.length=true
section
variable {p:PG} {ro:List RO} (ct:CT p ro) {w:WH} (hw:w.Ok) (hi:w.In p) {cn:aZ} (hc:ay (au cn)=cn) {lf:Int} (hE:ml)
def A5(p:PG)(a b:Int):Bool:=n7 (cM p.bw a) (cM p.bw b)&&n7 (cM p.bw b) (cM p.bw a)
def oQ(p:PG)(l m:cT)(i:Nat):Bool:= !A5 p (l.getD i 0) (m.getD i 0)
def th(p:PG)(l m:cT):Bool:=(l.length==m.length)&& !((List.range l.length).any (oQ p l m))
theorem Ka(a b:cT):(ln (ints a) != ln (ints b))= !(a.length==b.length):=YI
theorem OK(h:i<l.length):l.getD i 0∈l:=by
 rw [mY,dz h];exact dO h
include ct hc in
theorem ank(hl:l.length<=8)(h1:∀x∈l,ib x p.bw.length=true)(h2:∀x∈m,ib x p.bw.length=true):
 Ev LK [aa (ints l),aa (ints m),J (bC 1 w),J (dP 2 3 p lf),ah (bf ro),.ab 0 cn] (0,[ak (th p l m),J (bC 1 w),J (dP 2 3 p lf),ah (bf ro),.ab 0 cn]):=by
 refine bz aoS ?_;rw [hc];refine av (c:=ln (ints l) != ln (ints m)) (λh=>af ?_) λh=> ?_
 ·rw [Ka]at h;simp only [dT]at h;unfold th;rw [h];rfl
 ·rw [Ka]at h;simp only [dF]at h;have hlen:l.length=m.length:=lJ;have k:=uR (m:=l.length) (p:=oQ p l m) (hit:=(0,[aq,J (bC 1 w),J (dP 2 3 p lf),ah (bf ro),.ab 0 cn])) (done:=(1,[J (bC 1 w),J (dP 2 3 p lf),ah (bf ro),.ab 0 cn]))
   (LF:=λi N n=>LD (FU CX EE N) N n [aa (ints m),aa (ints l),iI (ln (ints l)),iI (i:Int),J (bC 1 w),J (dP 2 3 p lf),ah (bf ro),.ab 0 cn])
   (bF aaW (aC dU (af (xM))))
   λi hi r q1 q2=>bF aaW<|bu (dr hi)<|aH (cH hi)<|aH (cH (f:=λn=>[iI n]) (l:=m) (by omega))<|by
    have dV:i<m.length:=by omega
    rw [hc,mh hi,mh dV,ix hi (Fz)];have a1:=h1 _ (OK hi);have a2:=h2 _ (OK dV);have b1:ib (l.getD i 0) (cf p.bw).length =true:=by rw [pb];exact a1
    have b2:ib (m.getD i 0) (cf p.bw).length =true:=by rw [pb];exact a2
    have q:Ev TD [iI (l.getD i 0),iI (m.getD i 0),J (bC 1 w),J (dP 2 3 p lf),ah (bf ro),.ab 0 cn] (0,[ak (A5 p (l.getD i 0) (m.getD i 0)),J (bC 1 w),J (dP 2 3 p lf),ah (bf ro),.ab 0 cn]):=by
     refine bz arx (aH b1 (aH b2 ?_));rw [hc];erw [lM a1,lM a2];refine aj (aaf (ct.ol.ok (qq a1)) (ct.ol.ok (qq a2))) (av (c:=n7 (cM p.bw (l.getD i 0)) (cM p.bw (m.getD i 0))) (λg=>aH b2 (aH b1 (aj (aaf (ct.ol.ok (qq a2)) (ct.ol.ok (qq a1))) (af ?_)))) λg=>af ?_)
     ·unfold A5;rw [g];rfl
     ·unfold A5;rw [g];rfl
    refine aj q ?_;erw [hc];exact av (c:= !A5 p (l.getD i 0) (m.getD i 0)) (λg=>af (q1 g)) λg=>q2 g
  refine aj k.diag ?_;unfold th;rw [h];cases(List.range l.length).any (oQ p l m)with
  |true=>exact PH
  |false=>exact Ck
include ct in
theorem aMm(hl:l.length<=16)(hlen:l.length=m.length)(h1:∀x∈l,ib x p.bw.length=true)(h2:∀x∈m,ib x p.bw.length=true):
 bP DW [iI 0,bL p ro w,aa (ints l),aa (ints m)] (bif (List.range l.length).any (oQ p l m)then(0,[aq,bL p ro w,aa (ints l),aa (ints m)])else(1,[bL p ro w,aa (ints l),aa (ints m)])):=by
 refine uR (m:=l.length) (p:=oQ p l m) (LF:=λi N n=>DW (FU CX EE N) N n [iI (i:Int),bL p ro w,aa (ints l),aa (ints m)])
  (bF abA (aC dU aL))
  λi hi r q1 q2=>bF abA<|bu (dr hi)<|aH (cH hi)<|aH (B6) ?_
 have dV:i<m.length:=by omega
 have a1:=h1 _ (OK hi);have a2:=h2 _ (OK dV);have b1:ib (l.getD i 0) (cf p.bw).length =true:=by rw [pb];exact a1
 have b2:ib (m.getD i 0) (cf p.bw).length =true:=by rw [pb];exact a2
 have c2:decide (((i:Int).toNat)<(ints m).length)=true:=by simpa using dV
 rw [mh hi,mh dV,ix hi (Fz)];refine aH b1 (aH (cH dV) (aH c2 (aH b2 ?_)));erw [lM a1,lM a2];refine aj (aae (ct.ol.ok (qq a1)) (ct.ol.ok (qq a2))) (av (c:= !n7 (cM p.bw (l.getD i 0)) (cM p.bw (m.getD i 0))) (λg=>af (q1 ?_)) λg=>aH (cH dV) (aH c2 (aH b2 (aH (cH hi) (aH (B6) (aH b1 (aj (aae (ct.ol.ok (qq a2)) (ct.ol.ok (qq a1))) (av (c:= !n7 (cM p.bw (m.getD i 0)) (cM p.bw (l.getD i 0))) (λg2=>af (q1 ?_)) λg2=>q2 ?_))))))))
 ·simp only [dT]at g;unfold oQ A5;rw [g];rfl
 ·simp only [dT]at g2;unfold oQ A5;rw [g2,oU];rfl
 ·simp only [dF]at g g2;unfold oQ A5;rw [g,g2];rfl
theorem Rn(h:i<l.length):(l++m).getD i 0=l.getD i 0:=by rw [mY,mY,ju h]
theorem an2:(l++m).getD (l.length+i) 0=m.getD i 0:=by rw [mY,mY,kv (by omega),show l.length+i- l.length=i by omega]
theorem aD4{l1 l2 m1 m2:cT}(h:l1.length=m1.length):(List.range (l1++l2).length).any (oQ p (l1++l2) (m1++m2))=((List.range l1.length).any (oQ p l1 m1)||(List.range l2.length).any (oQ p l2 m2)):=by
 rw [fy,List.range_add,Xe,List.any_map]
 congr 1
 ·refine E0.2 ?_;simp only [OA,zF];constructor<;>rintro⟨i,hi,hp⟩<;>refine⟨i,hi,?_⟩<;>unfold oQ at hp⊢
  ·rw [Rn hi,Rn (by omega)]at hp;exact hp
  ·rw [Rn hi,Rn (by omega)];exact hp
 ·congr 1;funext i
  show oQ p (l1++l2) (m1++m2) (l1.length+i)=_;unfold oQ;rw [an2,h,an2]
theorem w2i{a b:cT}(ha:a.length<=8)(hb:b.length<=8):(bx (ln (ints a)+ln (ints b))==0)=(ln (ints a)==0&&ln (ints b)==0):=by
 rw [dq,dq,jv (n:=(a.length:Int)+(b.length:Int)) (by omega) (by omega)];rw [E0,bS,ic,ic,ic];omega
include ct hi hc in
theorem aMn{f:dH}{L D H A:aZ}:∃b,
 Ev Ua [J (bC 0 w),SF f L D H A,K0 p lf,ah (bf ro),.ab 0 cn] (0,ak b::gk p ro lf cn)∧
 Ev Us [bL p ro w,SF f L D H A] (0,[ak b]):=by
 let rN:Bool:= !decide (w.lC<0)&&(jh p f.T f.entry&& !((f.T==w.task)&&(f.entry==w.lC)))
 have jc:bM TL [K0 p lf,ah (bf ro),.ab 0 cn,J (bC 0 w),SF f L D H A]
  (bif rN then(0,[K0 p lf,ah (bf ro),.ab 0 cn,J (bC 0 w),SF f L D H A])else(1,[aq,K0 p lf,ah (bf ro),.ab 0 cn,J (bC 0 w),SF f L D H A])):=by
  refine bU arj ?_;rw [hc];refine av (c:=decide (w.lC<0)) (λh=>af (by simp only [rN,h];rfl)) λh=>aj (Rx (lf:=lf) hc f.T f.entry) ?_;erw [hc];refine av (c:= !jh p f.T f.entry) (λh2=>af ?_) λh2=>av (c:=f.T==w.task) (λh3=>av (c:=f.entry==w.lC) (λh4=>af ?_) λh4=>af ?_) λh3=>af ?_
  ·simp only [dT]at h2;simp only [rN,h,h2];rfl
  ·simp only [dF]at h2;simp only [rN,h,h2,h3,h4];rfl
  ·simp only [dF]at h2;simp only [rN,h,h2,h3,h4];rfl
  ·simp only [dF]at h2;simp only [rN,h,h2,h3];rfl
 have jr:bM T3 [bL p ro w,SF f L D H A]
  (bif rN then(0,[bL p ro w,SF f L D H A])else(1,[aq,bL p ro w,SF f L D H A])):=by
  refine bU ar8 ?_;refine av (c:=decide (w.lC<0)) (λh=>af (by simp only [rN,h];rfl)) λh=>aj (Rv f.T f.entry) ?_;refine av (c:= !jh p f.T f.entry) (λh2=>af ?_) λh2=>av (c:=f.T==w.task) (λh3=>av (c:=f.entry==w.lC) (λh4=>af ?_) λh4=>af ?_) λh3=>af ?_
  ·simp only [dT]at h2;simp only [rN,h,h2];rfl
  ·simp only [dF]at h2;simp only [rN,h,h2,h3,h4];rfl
  ·simp only [dF]at h2;simp only [rN,h,h2,h3,h4];rfl
  ·simp only [dF]at h2;simp only [rN,h,h2,h3];rfl
 cases hg:rN with
 |false=>
  rw [hg]at jc jr;refine⟨false,bz acm ?_,bz acx (aj jr (bj aL))⟩;exact ahL
 |true=>
 rw [hg]at jc jr;simp only [rN,bS]at hg;have aMQ:jh p w.task w.lC=true:=by
  rcases hi.GA with h|h
  ·have:=hg.1;simp at this;omega
  ·exact h
 obtain⟨ta,ea⟩:=XM aMQ;obtain⟨tb,eb⟩:=XM hg.2.1;generalize GU:C4 (ni p.tasks w.task).au w.lC=a;generalize hxb:C4 (ni p.tasks f.T).au f.entry=b;have ga:=FQ ta;have gb:=FQ tb;have na:=Zu ea;have nb:=Zu eb;rw [GU]at na;rw [hxb]at nb;obtain⟨ai,ao,al1,al2⟩:=ct.ent _ (Xh ta) _ (Xr ea);obtain⟨bi,bo,bl1,bl2⟩:=ct.ent _ (Xh tb) _ (Xr eb);rw [GU]at ai ao al1 al2;rw [hxb]at bi bo bl1 bl2;have t1:ib w.task (p.tasks.map cE).length =true:=by rw [eE];exact ta
 have t2:ib w.lC ((gR (gA (p.tasks.map cE) w.task.toNat) 1).length)=true:=by rw [ga];show ib w.lC ((ni p.tasks w.task).au.map iM).length =true;rw [eE];exact ea
 have t3:ib f.T (p.tasks.map cE).length =true:=by rw [eE];exact tb
 have t4:ib f.entry ((gR (gA (p.tasks.map cE) f.T.toNat) 1).length)=true:=by rw [gb];show ib f.entry ((ni p.tasks f.T).au.map iM).length =true;rw [eE];exact eb
 have ra:gA (gR (gA (p.tasks.map cE) w.task.toNat) 1) w.lC.toNat=iM a:=by rw [ga];exact na
 have rb:gA (gR (gA (p.tasks.map cE) f.T.toNat) 1) f.entry.toNat=iM b:=by rw [gb];exact nb
 have zB:=w2i bl1 bl2;have hb:∃v,v=bif (ln (ints b.ins)==0&&ln (ints b.outs)==0)then true else(th p a.ins b.ins&&th p a.outs b.outs):=⟨_,rfl⟩;obtain⟨v,hv⟩:=hb;refine⟨v,bz acm ?_,bz acx (aj jr (aX (aH t1 (aH t2 (aH t3 (aH t4 ?_))))))⟩
 ·rw [hc];refine aj jc (aX (aH t1 (aH t2 (aH t3 (aH t4 ?_)))));erw [hc,ra,rb];refine av (c:=bx (ln (ints b.ins)+ln (ints b.outs))==0) (λh=>af ?_) λh=> ?_
  ·rw [zB]at h;rw [hv,h];rfl
  ·rw [zB]at h;refine aj (ank ct hc al1 ai bi) (av (c:=th p a.ins b.ins) (λg=> ?_) λg=>af ?_)
   ·erw [hc];refine aj (ank ct hc al2 ao bo) (af ?_);erw [hc];rw [hv,h,g];rfl
   ·erw [hc];rw [hv,h,g];rfl
 ·have KN:bM TJ [J [aa (gR (gA (gR (gA (p.tasks.map cE) f.T.toNat) 1) f.entry.toNat) 0),aa (gR (gA (gR (gA (p.tasks.map cE) f.T.toNat) 1) f.entry.toNat) 1)]] (bif (ln (ints b.ins)==0&&ln (ints b.outs)==0)then(1,[cu,dY b])else(0,[dY b])):=by
   rw [rb];refine bU arf ?_;refine av (c:=ln (ints b.ins)==0) (λh=>av (c:=ln (ints b.outs)==0) (λg=>af (Pj)) λg=>af (Pj)) λh=>af (fY)
  refine aj KN ?_;cases hz:(ln (ints b.ins)==0&&ln (ints b.outs)==0)with
  |true=>exact bj (af (by rw [hv,hz];rfl))
  |false=>
   rw [hz]at hv;refine aX ?_;have j62:bM TH [J [aa (gR (gA (gR (gA (p.tasks.map cE) w.task.toNat) 1) w.lC.toNat) 0),aa (gR (gA (gR (gA (p.tasks.map cE) w.task.toNat) 1) w.lC.toNat) 1)],dY b] (bif (a.ins.length==b.ins.length)&&(a.outs.length==b.outs.length)then(0,[dY a,dY b])else(1,[aq,dY a,dY b])):=by
    rw [ra];refine bU are ?_;refine av (c:=ln (ints a.ins) != ln (ints b.ins)) (λh=>af ?_) λh=>av (c:=ln (ints a.outs) != ln (ints b.outs)) (λg=>af ?_) λg=>af ?_
    ·rw [Ka]at h;simp only [dT]at h;rw [h];rfl
    ·rw [Ka]at h g;simp only [dT,dF]at h g;rw [h,g];rfl
    ·rw [Ka]at h g;simp only [dF]at h g;rw [h,g];rfl
   refine aj j62 ?_;cases hl:(a.ins.length==b.ins.length)&&(a.outs.length==b.outs.length)with
   |false=>
    refine bj (af ?_);have:(th p a.ins b.ins&&th p a.outs b.outs)=false:=by
     unfold th;cases h1:a.ins.length==b.ins.length with
     |false=>rfl
     |true=>rw [h1,ox]at hl;rw [hl];simp
    rw [hv,this];rfl
   |true=>
    simp only [bS,ic]at hl;have k:=aMm (w:=w) ct (ro:=ro) (l:=a.ins++a.outs) (m:=b.ins++b.outs) (Jg) (by rw [fy,fy];omega) (λx hx=>by rcases jO.1 hx with h|h;exact ai x h;exact ao x h) (λx hx=>by rcases jO.1 hx with h|h;exact bi x h;exact bo x h);rw [aD4 hl.1,show ints (a.ins++a.outs)=ints a.ins++ints a.outs from oy,show ints (b.ins++b.outs)=ints b.ins++ints b.outs from oy]at k;have k':bP DW [iI 0,bL p ro w,aa (([]++ints a.ins)++ints a.outs),aa (([]++ints b.ins)++ints b.outs)] _:=k;refine aX ?_;simp only [cg];refine aH ?_ (aH ?_ (aH ?_ (aH ?_ ?_)))
    ·show decide ((0+(ints a.ins).length)*8<=140737488355328)=true;rw [eE];simp;omega
    ·show decide ((([]++ints a.ins).length +(ints a.outs).length)*8<=140737488355328)=true;rw [mb,eE,eE];simp;omega
    ·show decide ((0+(ints b.ins).length)*8<=140737488355328)=true;rw [eE];simp;omega
    ·show decide ((([]++ints b.ins).length +(ints b.outs).length)*8<=140737488355328)=true;rw [mb,eE,eE];simp;omega
    refine aj k'.diag ?_;have e1:th p a.ins b.ins= !((List.range a.ins.length).any (oQ p a.ins b.ins)):=by unfold th;rw [hl.1];simp
    have e2:th p a.outs b.outs= !((List.range a.outs.length).any (oQ p a.outs b.outs)):=by unfold th;rw [hl.2];simp
    rw [hv,e1,e2];cases(List.range a.ins.length).any (oQ p a.ins b.ins)<;>cases(List.range a.outs.length).any (oQ p a.outs b.outs)<;>first|exact aX aL|exact bj aL
end
end
end Go.Proofs.YtomkobcipaligaaGreatDoor
namespace Go.az
def Qp{p:Prop}(h:p:=by show ib f.P (p.dp.map fr).length =true;rw [eE];exact hp):p:=h
def ait{p:Prop}(h:p:=by have:ln (Ls.map encS)=3:=mT;rw [dq]at this;omega):p:=h
def Py{p:Prop}(h:p:=by unfold CQ;rw [h];rfl):p:=h
def Pu{p:Prop}(h:p:=by unfold Dq;rw [h];rfl):p:=h
def Ft{p:Prop}(h:p:=by
 erw [hc];exact h):p:=h
def ahJ{p:Prop}(h:p:=by simp only [dF]at j;unfold qC;rw [hU i,g,i,j,k];rfl):p:=h
def ahs{p:Prop}(h:p:=by simp only [dF]at j;unfold qC;rw [h,g,i,j,k];rfl):p:=h
def ahq{p:Prop}(h:p:=by have:=hw.kG;simp only [mx];omega):p:=h
end Go.az
namespace Go.Proofs.YtomkobcipaligaaGreatDoor
open Go Go.az
section
variable{f:dH}{k:Int}{α:Type}{l:List α}{A D H L:aZ}
theorem wE{f:α->Row}(h:ln (l.map f)=1):∃x,l=[x]:=by
 rw [dq]at h
 match l,h with
 | [x],_=>exact⟨x,rfl⟩
 | [],h=>exact gM
 |_::_::_,h=>simp at h;omega
theorem aEa{f:α->Row}(h:ln (l.map f)=2):∃x y,l=[x,y]:=by
 rw [dq]at h
 match l,h with
 | [x,y],_=>exact⟨x,y,rfl⟩
 | [],h=>exact gM
 | [_],h=>exact gM
 |_::_::_::_,h=>simp at h;omega
theorem YQ(q:PL):Mw (gA ([q].map cX) 0)=cX q:=rfl
theorem aCH(e e1:CE):nz (gA ([e,e1].map aU) 0)=aU e:=eG e
theorem aCG(e e1:CE):nz (gA ([e,e1].map aU) 1)=aU e1:=eG e1
def Dq(k:Int):Bool:=bif k==11 then true else k==15
def CQ(k:Int):Bool:=bif k==12 then true else k==13
theorem aDB(h:Dq k=true):k=11∨k=15:=by
 unfold Dq at h;cases h1:k==11 with
 |true=>exact .inl (eq_of_beq h1)
 |false=>rw [h1]at h;exact .inr (eq_of_beq h)
theorem aCC(h:CQ k=true):k=12∨k=13:=by
 unfold CQ at h;exact aje
section
variable {p:PG} {ro:List RO} (ct:CT p ro) {w:WH} (hw:w.Ok) (hi:w.In p) {cn:aZ} (hc:ay (au cn)=cn) {lf:Int} (hE:ml)
include hc in
theorem rJ1(k:Int):bM S2 [bE k,K0 p lf,ah (bf ro),.ab 0 cn] (0,ak (Dq k)::gk p ro lf cn):=by
 refine bU apA ?_;rw [hc];refine av (c:=k==11) (λh=>af ?_) λh=>af ?_
 ·exact Pu
 ·exact Pu
include hc in
theorem rJ2(k:Int):bM SZ [bE k,K0 p lf,ah (bf ro),.ab 0 cn] (0,ak (CQ k)::gk p ro lf cn):=by
 refine bU apr ?_;rw [hc];refine av (c:=k==12) (λh=>af ?_) λh=>af ?_
 ·exact Py
 ·exact Py
theorem am6(k:Int):bM Ta [bE k] (0,[ak (Dq k)]):=
 bU apW (av (λh=>af (Pu)) λh=>af (Pu))
theorem am5(k:Int):bM S5 [bE k] (0,[ak (CQ k)]):=
 bU apJ (av (λh=>af (Py)) λh=>af (Py))
def qC(p:PG)(ro:List RO)(w:WH)(o:Int):Bool:=bif jg p.bw o 0 then bif (cM p.bw o).ptr then false else bif (cM p.bw o).size != 1 then false else bif iD ro w o then !dJ w.loops o else false else false
include ct hw hc in
theorem aLR:bM S6 [K0 p lf,ah (bf ro),.ab 0 cn,J (bC 0 w),SF f L D H A]
 (bif qC p ro w f.O then(0,[K0 p lf,ah (bf ro),.ab 0 cn,J (bC 0 w),SF f L D H A])else(1,[aq,K0 p lf,ah (bf ro),.ab 0 cn,J (bC 0 w),SF f L D H A])):=by
 refine bU apK ?_;rw [hc];refine aj (P5 (l:=p.bw) (en:= -1) (o:=f.O) (off:=0)) (av (c:= !jg p.bw f.O 0) (λh=>af ?_) λh=> ?_)
 ·simp only [dT]at h;unfold qC;rw [h];rfl
 ·simp only [dF]at h;have ho:=IM h;have fj:ib f.O (cf p.bw).length =true:=by rw [pb];exact ho
  refine aH fj ?_;erw [lM ho];refine av (c:=(cM p.bw f.O).ptr) (λg=>af (by unfold qC;rw [h,g];rfl)) λg=>aH fj (av (c:=(cM p.bw f.O).size != 1) (λi=>af (by unfold qC;rw [h,g,i];rfl)) λi=>aj (J9 hw hc (by rw [ct.len];exact ho)) ?_);erw [hc];refine av (c:= !iD ro w f.O) (λj=>af ?_) λj=>aj (uI (l:=w.loops) f.O (PT)) (av (c:=dJ w.loops f.O) (λk=>af ?_) λk=>af ?_)
  ·simp only [dT]at j;unfold qC;rw [h,g,i,j];rfl
  ·exact ahs
  ·exact ahs
include ct hw in
theorem aEr:bM Ti [bL p ro w,SF f L D H A] (bif qC p ro w f.O then(0,[bL p ro w,SF f L D H A])else(1,[aq,bL p ro w,SF f L D H A])):=by
 refine bU aqg ?_;refine av (c:=decide (f.O<0)) (λh=>af ?_) λh=>av (c:=decide (ln (cf p.bw)<=f.O)) (λh2=>af ?_) λh2=> ?_
 ·have:jg p.bw f.O 0=false:=by
   unfold jg;have:decide (0<=f.O)=false:=by simp at h⊢;omega
   exact eX
  unfold qC;rw [this];rfl
 ·rw [dq]at h2;have:jg p.bw f.O 0=false:=by
   unfold jg;have:decide (f.O<(p.bw.length:Int))=false:=by simp at h2⊢;omega
   rw [this];cases decide (0<=f.O)<;>rfl
  unfold qC;rw [this];rfl
 ·rw [dq]at h2;have ho:ib f.O p.bw.length=true:=by simp at h h2;exact jf.2 ⟨h,h2⟩
  have fj:ib f.O (cf p.bw).length =true:=by rw [pb];exact ho
  refine aH fj ?_;erw [lM ho];have hs:jg p.bw f.O 0=decide (0<(cM p.bw f.O).size):=by
   unfold jg;have a:decide (0<=f.O)=true:=by simpa using(jf.1 ho).1
   have b:decide (f.O<(p.bw.length:Int))=true:=by simpa using(jf.1 ho).2
   exact nC
  have hU:((cM p.bw f.O).size != 1)=false->jg p.bw f.O 0=true:=λi=>by rw [hs];simp at i⊢;omega
  refine av (c:=(cM p.bw f.O).ptr) (λg=>af ?_) λg=>aH fj (av (c:=(cM p.bw f.O).size != 1) (λi=>af ?_) λi=>aj (Rb hw (by rw [ct.len];exact ho)) (av (c:= !iD ro w f.O) (λj=>af ?_) λj=>aj (um (l:=w.loops) f.O (PT)) (av (c:=dJ w.loops f.O) (λk=>af ?_) λk=>af ?_)))
  ·unfold qC;rw [g];cases jg p.bw f.O 0<;>rfl
  ·unfold qC;rw [g,i];cases jg p.bw f.O 0<;>rfl
  ·simp only [dT]at j;unfold qC;rw [hU i,g,i,j];rfl
  ·exact ahJ
  ·exact ahJ
include ct hw hi hc hE in
theorem aDg(hf:f.Ok){Ls:List CS}(hs:yG f (Ls.map encS) D H A=true):∃b,
 Ev Mj [J (bC 0 w),SF f (Ls.map encS) D H A,K0 p lf,ah (bf ro),.ab 0 cn] (0,ak b::gk p ro lf cn)∧
 Ev xp [bL p ro w,SF f (Ls.map encS) D H A] (0,[ak b]):=by
 obtain⟨eZ,fP,mT⟩:=XC f (Ls.map encS) D H A hs;have kk:∀{k:Int},(f.kind==k)=true->f.kind=k:=λh=>eq_of_beq h;cases h2:f.kind==2 with
 |true=>
  have ek:=kk h2;rw [ek]at eZ fP mT;obtain⟨e,he⟩:=wE (show ln (f.E.map aU)=1 from eZ);obtain⟨q,hq⟩:=wE (show ln (f.To.map cX)=1 from fP);obtain⟨l,b1,b,s1,s2,s3⟩:=aFH (L:=Ls.map encS) (D:=D) (H:=H) (A:=A) ct hw hc (lf:=lf) hE (hf.To.2 q (Ph)) (hf.E.2 e (uO)) hq he;have nR:decide (0<ln (f.E.map aU))=true:=B3;have rS:decide (0<ln (f.To.map cX))=true:=by rw [hq];rfl
  rw [<-YQ q,<-hq]at s1;rw [<-wy e,<-he]at s2;refine⟨b1&&b,bz uC ?_,bz tw (bu h2<|aj s3 aL)⟩;rw [hc];refine bu h2<|aH rS (aj s1 ?_);erw [hc];cases b1 with
  |false=>exact fX
  |true=>
   refine aX (aH nR (aj (s2 rfl) (af ?_)));exact j5
 |false=>
 cases h4:f.kind==4 with
 |true=>
  have ek:=kk h4;rw [ek]at eZ fP mT;obtain⟨e,he⟩:=wE (show ln (f.E.map aU)=1 from eZ);obtain⟨b,s1,s2⟩:=Zy ct hw hc (lf:=lf) hE e (hf.E.2 e (uO));have nR:decide (0<ln (f.E.map aU))=true:=B3;rw [<-wy e,<-he]at s1 s2;refine⟨b,bz uC ?_,bz tw (aC h2<|bu h4<|aH nR (aj s2 aL))⟩;rw [hc];refine aC h2<|bu h4<|aH nR (aj s1 (af ?_));exact j5
 |false=>
 cases h5:f.kind==5 with
 |true=>
  have ek:=kk h5;rw [ek]at eZ fP mT;obtain⟨e,he⟩:=wE (show ln (f.E.map aU)=1 from eZ);obtain⟨b,s1,s2⟩:=Zy ct hw hc (lf:=lf) hE e (hf.E.2 e (uO));have nR:decide (0<ln (f.E.map aU))=true:=B3;rw [<-wy e,<-he]at s1 s2;refine⟨b,bz uC ?_,bz tw (aC h2<|aC h4<|bu h5<|aH nR (aj s2 aL))⟩;rw [hc];refine aC h2<|aC h4<|bu h5<|aH nR (aj s1 (af ?_));exact j5
 |false=>
 cases h6:f.kind==6 with
 |true=>
  have ek:=kk h6;rw [ek]at eZ fP mT;obtain⟨e,e1,he⟩:=aEa (show ln (f.E.map aU)=2 from eZ);have o1:=hf.E.2 e (uO);have o2:=hf.E.2 e1 (uO);obtain⟨b,s1,s2⟩:=J5 ct hw hc (lf:=lf) hE e o1;obtain⟨c,u1,u2⟩:=J5 ct hw hc (lf:=lf) hE e1 o2;have jc:=aLR (f:=f) (L:=Ls.map encS) (D:=D) (H:=H) (A:=A) ct hw hc (lf:=lf);have jr:=aEr (f:=f) (L:=Ls.map encS) (D:=D) (H:=H) (A:=A) ct hw;have nR:decide (0<ln (f.E.map aU))=true:=B3;have Ry:decide (1<ln (f.E.map aU))=true:=B3;cases nO:qC p ro w f.O with
  |false=>
   rw [nO]at jc jr;refine⟨false,bz uC ?_,bz tw (aC h2<|aC h4<|aC h5<|bu h6<|aj jr (bj aL))⟩;rw [hc];refine aC h2<|aC h4<|aC h5<|bu h6<|aj jc (bj (af ?_));exact j5
  |true=>
   rw [nO]at jc jr;have ho:ib f.O p.bw.length=true:=by
    unfold qC at nO;cases hs:jg p.bw f.O 0 with
    |true=>exact IM hs
    |false=>rw [hs]at nO;cases nO
   obtain⟨x,y,v,g1,g2,g3⟩:=FR ct hw hc (lf:=lf) hE e o1;obtain⟨x1,y1,v1,i1,i2,i3⟩:=FR ct hw hc (lf:=lf) hE e1 o2;have hof:∀z∈ [f.O],ib z p.bw.length=true:=λz hz=>by simp at hz;subst hz;exact ho
   have f1:=Rq ct hc g1 (λh=>(g3 h).l) (one_le f.O) hof;have f2:=Rq ct hc i1 (λh=>(i3 h).l) (one_le f.O) hof;have r1:=Rp ct g2 (λh=>(g3 h).r) ho;have r2:=Rp ct i2 (λh=>(i3 h).r) ho;have q1:fitAll p x v [f.O]=(v&&iL y (cM p.bw f.O)):=by unfold fitAll;cases v with|false=>rfl|true=>{have DB:∀o,iL x o=iL y o:=λo=>(g3 rfl).rel.iL o;simp [DB]}
   have q2:fitAll p x1 v1 [f.O]=(v1&&iL y1 (cM p.bw f.O)):=by unfold fitAll;cases v1 with|false=>rfl|true=>{have DB:∀o,iL x1 o=iL y1 o:=λo=>(i3 rfl).rel.iL o;simp [DB]}
   rw [<-q1]at r1;rw [<-q2]at r2;generalize fitAll p x v [f.O]=m1 at f1 r1;generalize fitAll p x1 v1 [f.O]=m2 at f2 r2;rw [<-aCH e e1,<-he]at s1 s2 f1 r1;rw [<-aCG e e1,<-he]at u1 u2 f2 r2;refine⟨b&&(c&&(m1&&m2)),bz uC ?_,bz tw (aC h2<|aC h4<|aC h5<|bu h6<|aj jr (aX (aH nR (aj s2 ?_))))⟩
   ·rw [hc];refine aC h2<|aC h4<|aC h5<|bu h6<|aj jc (aX (aH nR ?_));erw [hc];refine aj s1 ?_;erw [hc];cases b with
    |false=>exact fX
    |true=>
     refine aX (aH Ry (aj u1 ?_));erw [hc];cases c with
     |false=>exact fX
     |true=>
      refine aX (aH nR (aj f1 ?_));erw [hc];cases m1 with
      |false=>exact fX
      |true=>
       refine aX (aH Ry (aj f2 (af ?_)));exact j5
   ·cases b with
    |false=>exact fX
    |true=>
     refine aX (aH Ry (aj u2 ?_));cases c with
     |false=>exact fX
     |true=>
      refine aX (aH nR (aj r1 ?_));cases m1 with
      |false=>exact fX
      |true=>exact aX (aH Ry (aj r2 aL))
 |false=>
 cases h7:f.kind==7 with
 |true=>
  have ek:=kk h7;rw [ek]at eZ fP mT;refine⟨bif decide (1<=f.N)then bif decide (f.N<=8192)then !dJ w.kG f.N else false else false,bz uC ?_,bz tw ?_⟩
  ·rw [hc];refine aC h2<|aC h4<|aC h5<|aC h6<|bu h7<|av (c:=decide (1<=f.N)) (λa=>av (c:=decide (f.N<=8192)) (λb=>aj (uI (l:=w.kG) f.N (ahq)) (af ?_)) λb=>af ?_) λa=>af ?_
   ·exact nC
   ·exact nC
   ·exact rf
  ·refine aC h2<|aC h4<|aC h5<|aC h6<|bu h7<|av (c:=decide (1<=f.N)) (λa=>av (c:=decide (f.N<=8192)) (λb=>aj (um (l:=w.kG) f.N (ahq)) (af ?_)) λb=>af ?_) λa=>af ?_
   ·exact nC
   ·exact nC
   ·exact rf
 |false=>
 cases h8:f.kind==8 with
 |true=>
  have ek:=kk h8;rw [ek]at eZ fP mT;refine⟨dJ w.marks f.N,bz uC ?_,bz tw (aC h2<|aC h4<|aC h5<|aC h6<|aC h7<|bu h8<|aj (um (l:=w.marks) f.N (by have:=hw.marks;simp only [mx];omega)) aL)⟩;rw [hc];exact aC h2<|aC h4<|aC h5<|aC h6<|aC h7<|bu h8<|aj (uI (l:=w.marks) f.N (by have:=hw.marks;simp only [mx];omega)) aL
 |false=>
 cases iS:f.kind==10 with
 |true=>
  have ek:=kk iS;rw [ek]at eZ fP mT;refine⟨bif f.N==0 then(w.xJ||(bif decide (1<=f.N)then decide (f.N<=p.eQ)else false))else(bif decide (1<=f.N)then decide (f.N<=p.eQ)else false),bz uC ?_,bz tw ?_⟩
  ·rw [hc];refine aC h2<|aC h4<|aC h5<|aC h6<|aC h7<|aC h8<|bu iS<|av (c:=f.N==0) (λa=>av (c:=w.xJ) (λb=>af ?_) λb=>av (c:=decide (1<=f.N)) (λc=>af ?_) λc=>af ?_) λa=>av (c:=decide (1<=f.N)) (λc=>af ?_) λc=>af ?_
   ·exact nC
   ·exact wj
   ·exact wj
   ·rw [a,c];rfl
   ·rw [a,c];rfl
  ·refine aC h2<|aC h4<|aC h5<|aC h6<|aC h7<|aC h8<|bu iS<|av (c:=decide (1<=f.N)) (λc=>av (c:=decide (f.N<=p.eQ)) (λd=>af ?_) λd=>av (c:=f.N==0) (λa=>af ?_) λa=>af ?_) λc=>av (c:=f.N==0) (λa=>af ?_) λa=>af ?_
   ·rw [c,d];cases f.N==0<;>simp
   ·rw [a,c,d];simp;rfl
   ·rw [a,c,d];rfl
   ·rw [a,c];simp;rfl
   ·rw [a,c];rfl
 |false=>
 have j1:=rJ1 (p:=p) (ro:=ro) hc (lf:=lf) f.kind;have j2:=rJ2 (p:=p) (ro:=ro) hc (lf:=lf) f.kind;have KO:=am6 f.kind;have R6:=am5 f.kind;cases hJ1:Dq f.kind with
 |true=>
  rw [hJ1]at j1 KO;have le:ln (f.E.map aU)=1:=by rcases aDB hJ1 with h|h<;>rw [h]at eZ<;>exact eZ
  obtain⟨e,he⟩:=wE le;obtain⟨b,s1,s2⟩:=J5 ct hw hc (lf:=lf) hE e (hf.E.2 e (uO));have nR:decide (0<ln (f.E.map aU))=true:=B3;rw [<-wy e,<-he]at s1 s2;refine⟨b,bz uC ?_,bz tw (aC h2<|aC h4<|aC h5<|aC h6<|aC h7<|aC h8<|aC iS<|aj KO (aX (aH nR (aj s2 aL))))⟩;rw [hc];refine aC h2<|aC h4<|aC h5<|aC h6<|aC h7<|aC h8<|aC iS<|aj j1 (aX (aH nR ?_));erw [hc];refine aj s1 (af ?_);exact j5
 |false=>
 rw [hJ1]at j1 KO;cases hJ2:CQ f.kind with
 |true=>
  rw [hJ2]at j2 R6;have le:ln (f.To.map cX)=1:=by rcases aCC hJ2 with h|h<;>rw [h]at fP<;>exact fP
  obtain⟨q,hq⟩:=wE le;obtain⟨b,s1,s2⟩:=akg ct hw hc (lf:=lf) hE (hf.To.2 q (Ph));have rS:decide (0<ln (f.To.map cX))=true:=by rw [hq];rfl
  rw [<-YQ q,<-hq]at s1 s2;refine⟨b,bz uC ?_,bz tw (aC h2<|aC h4<|aC h5<|aC h6<|aC h7<|aC h8<|aC iS<|aj KO (bj (aj R6 (aX (aH rS (aj s2 aL))))))⟩;rw [hc];refine aC h2<|aC h4<|aC h5<|aC h6<|aC h7<|aC h8<|aC iS<|aj j1 (bj ?_);erw [hc];refine aj j2 (aX (aH rS ?_));erw [hc];refine aj s1 (af ?_);exact j5
 |false=>
 rw [hJ2]at j2 R6;have C:∀r:UO,_->Ev Mj [J (bC 0 w),SF f (Ls.map encS) D H A,K0 p lf,ah (bf ro),.ab 0 cn] r:=λr h=>by
  refine bz uC ?_;rw [hc];refine aC h2<|aC h4<|aC h5<|aC h6<|aC h7<|aC h8<|aC iS<|aj j1 (bj ?_);erw [hc];refine aj j2 (bj ?_);exact Ft
 have R:∀r:UO,_->Ev xp [bL p ro w,SF f (Ls.map encS) D H A] r:=λr h=>by
  refine bz tw (aC h2<|aC h4<|aC h5<|aC h6<|aC h7<|aC h8<|aC iS<|aj KO (bj (aj R6 (bj ?_))));exact h
 cases jY:f.kind==14 with
 |true=>
  have ek:=kk jY;rw [ek]at eZ fP mT;obtain⟨q,hq⟩:=wE (show ln (f.To.map cX)=1 from fP);obtain⟨b,s1,s2⟩:=akg ct hw hc (lf:=lf) hE (hf.To.2 q (Ph));have rS:decide (0<ln (f.To.map cX))=true:=by rw [hq];rfl
  rw [<-YQ q,<-hq]at s1 s2;cases hIn:f.In with
  |true=>
   refine⟨b&&(dJ w.gP f.P&&sv p f.P f.entry),C _ (bu jY<|bu hIn (aH rS (aj s1 ?_))),R _ (bu jY<|bu hIn (aH rS (aj s2 ?_)))⟩
   ·erw [hc];cases b with
    |false=>exact fX
    |true=>
     refine aX (aj (uI (l:=w.gP) f.P (FM)) (av (c:=dJ w.gP f.P) (λg=>aj (alb (lf:=lf) hc f.P f.entry) (af ?_)) λg=>af ?_))
     ·erw [hc];rw [g];rfl
     ·rw [g];rfl
   ·cases b with
    |false=>exact fX
    |true=>
     refine aX (aj (um (l:=w.gP) f.P (FM)) (av (c:=dJ w.gP f.P) (λg=> ?_) λg=>af (by rw [g];rfl)));have hp:=hi.act f.P (BY.1 g);have a0:decide (0<=f.P)=true:=by simpa using(jf.1 hp).1
     have a1:decide (f.P<(p.dp.length:Int))=true:=by simpa using(jf.1 hp).2
     refine av (c:=decide (0<=f.entry)) (λi=>aH (Qp) (af ?_)) λi=>af ?_
     ·show(0,[ak (decide (f.entry<ln (gR (gA (p.dp.map fr) f.P.toNat) 2)))])=_;rw [JJ hp];show(0,[ak (decide (f.entry<ln ((CI p.dp f.P).bars.map aU)))])=_;rw [dq,g];unfold sv;rw [a0,a1,i];rfl
     ·rw [g];unfold sv;rw [a0,a1,i];rfl
  |false=>
   refine⟨b&&jh p w.task f.entry,C _ (bu jY<|aC hIn (aH rS (aj s1 ?_))),R _ (bu jY<|aC hIn (aH rS (aj s2 ?_)))⟩
   ·erw [hc];cases b with
    |false=>exact fX
    |true=>
     refine aX (aj (Rx (lf:=lf) hc w.task f.entry) (af ?_));exact j5
   ·cases b with
    |false=>exact fX
    |true=>exact aX (aj (Rv w.task f.entry) aL)
 |false=>
 cases iR:f.kind==16 with
 |true=>
  have ek:=kk iR;rw [ek]at eZ fP mT;have hL:Ls.length=2:=by have:ln (Ls.map encS)=2:=mT;rw [dq]at this;omega
  obtain⟨b,s1,s2⟩:=XR ct hw hc (lf:=lf) hE hf (D:=D) (H:=H) (A:=A) hL (by omega) (by omega);obtain⟨c,u1,u2⟩:=aFn ct hw hc (lf:=lf) hE hf (L:=Ls.map encS) (D:=D) (H:=H) (A:=A);refine⟨b&&c,C _ (aC jY<|bu iR<|aj s1 ?_),R _ (aC jY<|bu iR<|aj s2 ?_)⟩
  ·erw [hc];cases b with
   |false=>exact fX
   |true=>
    refine aX (aj u1 (af ?_));exact j5
  ·cases b with
   |false=>exact fX
   |true=>exact aX (aj u2 aL)
 |false=>
 cases mB:f.kind==17 with
 |true=>
  have ek:=kk mB;rw [ek]at eZ fP mT;have hL:Ls.length=3:=ait;obtain⟨b,s1,s2⟩:=XR ct hw hc (lf:=lf) hE hf (D:=D) (H:=H) (A:=A) hL (by omega) (by omega);refine⟨b&&sv p f.P f.entry,C _ (aC jY<|aC iR<|bu mB<|aj s1 ?_),R _ (aC jY<|aC iR<|bu mB<|aj s2 ?_)⟩
  ·erw [hc];cases b with
   |false=>exact fX
   |true=>
    refine aX (aj (alb (lf:=lf) hc f.P f.entry) (af ?_));exact j5
  ·cases b with
   |false=>exact fX
   |true=>
    refine aX (av (c:=decide (0<=f.P)) (λa0=>av (c:=decide (f.P<ln (p.dp.map fr))) (λa1=>av (c:=decide (0<=f.entry)) (λi=> ?_) λi=>af ?_) λa1=>af ?_) λa0=>af ?_)
    ·rw [dq]at a1;have hp:=sr a0 a1;refine aH (Qp) (af ?_);show(0,[ak (decide (f.entry<ln (gR (gA (p.dp.map fr) f.P.toNat) 2)))])=_;rw [JJ hp];show(0,[ak (decide (f.entry<ln ((CI p.dp f.P).bars.map aU)))])=_;rw [dq];unfold sv;rw [a0,a1,i];rfl
    ·rw [dq]at a1;unfold sv;rw [a0,a1,i];rfl
    ·rw [dq]at a1;unfold sv;rw [a0,a1];rfl
    ·unfold sv;rw [a0];rfl
 |false=>
 cases mA:f.kind==18 with
 |true=>
  have ek:=kk mA;rw [ek]at eZ fP mT;refine⟨tU p w f.entry,C _ (aC jY<|aC iR<|aC mB<|bu mA<|aj (am8 (lf:=lf) hw hc f.entry) (af ?_)),R _ (aC jY<|aC iR<|aC mB<|bu mA<|aj (Z9 hw f.entry) aL)⟩;exact j5
 |false=>
 cases lW:f.kind==20 with
 |true=>
  have ek:=kk lW;rw [ek]at eZ fP mT;refine⟨bif decide (0<=f.P)then bif decide (f.P<(p.dp.length:Int))then bif !dJ w.gP f.P then bif ln (ints w.gP)==0 then true else(ln ((CI p.dp f.P).bars.map aU)==0)else false else false else false,C _ (aC jY<|aC iR<|aC mB<|aC mA<|bu lW<|av (c:=decide (0<=f.P)) (λa0=>av (c:=decide (f.P<ln (p.dp.map fr))) (λa1=>aj (uI (l:=w.gP) f.P (FM)) (av (c:= !dJ w.gP f.P) (λg=>av (c:=ln (ints w.gP)==0) (λi=>af ?_) λi=> ?_) λg=>af ?_)) λa1=>af ?_) λa0=>af ?_),R _ (aC jY<|aC iR<|aC mB<|aC mA<|bu lW<|av (c:=decide (0<=f.P)) (λa0=>av (c:=decide (f.P<ln (p.dp.map fr))) (λa1=>aj (um (l:=w.gP) f.P (FM)) (av (c:= !dJ w.gP f.P) (λg=>av (c:=ln (ints w.gP)==0) (λi=>af ?_) λi=> ?_) λg=>af ?_)) λa1=>af ?_) λa0=>af ?_)⟩
  ·rw [dq]at a1;rw [a0,a1,g,i];rfl
  ·rw [dq]at a1;have hp:=sr a0 a1;refine aH (Qp) (af ?_);show(0,[ak (ln (gR (gA (p.dp.map fr) f.P.toNat) 2)==0),_,_,_])=_;rw [JJ hp,a0,a1,g,i];rfl
  ·rw [dq]at a1;rw [a0,a1,g];rfl
  ·rw [dq]at a1;rw [a0,a1];rfl
  ·rw [a0];rfl
  ·rw [dq]at a1;rw [a0,a1,g,i];rfl
  ·rw [dq]at a1;have hp:=sr a0 a1;refine aH (Qp) (af ?_);show(0,[ak (ln (gR (gA (p.dp.map fr) f.P.toNat) 2)==0)])=_;rw [JJ hp,a0,a1,g,i];rfl
  ·rw [dq]at a1;rw [a0,a1,g];rfl
  ·rw [dq]at a1;rw [a0,a1];rfl
  ·rw [a0];rfl
 |false=>
 cases qT:f.kind==21 with
 |true=>
  have ek:=kk qT;rw [ek]at eZ fP mT;obtain⟨b,s1,s2⟩:=aMn ct hi hc (lf:=lf) (f:=f) (L:=Ls.map encS) (D:=D) (H:=H) (A:=A);refine⟨b,C _ (aC jY<|aC iR<|aC mB<|aC mA<|aC lW<|bu qT<|aj s1 (af ?_)),R _ (aC jY<|aC iR<|aC mB<|aC mA<|aC lW<|bu qT<|aj s2 aL)⟩;exact j5
 |false=>
 cases oN:f.kind==22 with
 |true=>
  have ek:=kk oN;rw [ek]at eZ fP mT;refine⟨bif decide (1<=ln (ints f.Ts))then bif decide (ln (ints f.Ts)<=32)then jK f.Ts 1 (bx (ln (p.tasks.map cE)- 1))else false else false,C _ (aC jY<|aC iR<|aC mB<|aC mA<|aC lW<|aC qT<|bu oN<|av (c:=decide (1<=ln (ints f.Ts))) (λa=>av (c:=decide (ln (ints f.Ts)<=32)) (λb=>aj (ZL 1 (bx (ln (p.tasks.map cE)- 1)) hf.Ts) (af ?_)) λb=>af ?_) λa=>af ?_),R _ (aC jY<|aC iR<|aC mB<|aC mA<|aC lW<|aC qT<|bu oN<|av (c:=decide (1<=ln (ints f.Ts))) (λa=>av (c:=decide (ln (ints f.Ts)<=32)) (λb=>aj (QK 1 (bx (ln (p.tasks.map cE)- 1)) hf.Ts) (af ?_)) λb=>af ?_) λa=>af ?_)⟩
  ·exact nC
  ·exact nC
  ·exact rf
  ·exact nC
  ·exact nC
  ·exact rf
 |false=>
 exact⟨true,C _ (aC jY<|aC iR<|aC mB<|aC mA<|aC lW<|aC qT<|aC oN<|aL),R _ (aC jY<|aC iR<|aC mB<|aC mA<|aC lW<|aC qT<|aC oN<|aL)⟩
end
end
end Go.Proofs.YtomkobcipaligaaGreatDoor
namespace Go.az
def Ym{p:Prop}(h:p:=by rw [mb,eE];simp;omega):p:=h
end Go.az
namespace Go.Proofs.YtomkobcipaligaaGreatDoor
open Go Go.az
def iW(w:WH):WH:={w with marks:=[],xJ:=false,lC:= -1}
def vg(w:WH)(e:Int):WH:={iW w with kE:=w.kE++[e],lC:=e}
def Ap(w:WH)(q:Int):WH:={iW w with gP:=w.gP++[q]}
theorem BH(l:cT)(e:Int):ints (l++[e])=ints l++[[iI e]]:=oy
abbrev Q0(p:PG)(ro:List RO)(w:WH):bp:=[bJ (cf p.bw),iI p.eQ,fq (p.tasks.map cE),nT (p.dp.map fr),cD (bf ro),iI w.task,aa (ints w.marks),aa (ints w.kG),aa (ints w.kE),aa (ints w.gP),aa (ints w.loops),ak w.jy,ak w.iC,ak w.xJ,iI w.lC,iI w.deep]
section
variable {p:PG} {ro:List RO} {w:WH} (hw:w.Ok) {cn:aZ} (hc:ay (au cn)=cn) {lf:Int}
theorem Jv{l:cT}(e:Int)(hl:l.length<=1000):Ev BE [aa (ints l),iI e] (0,[aa (ints (l++[e]))]):=by
 refine bz azM (aj (aDY (ints l) (by rw [eE];omega)) (aH ?_ (af ?_)))
 ·show decide (((ints l).length +1)*8<=140737488355328)=true;exact wG
 ·rw [BH];rfl
include hc in
theorem Rg:Ev D4 [J (bC 0 w),K0 p lf,ah (bf ro),.ab 0 cn] (0,J (bC 0 (iW w))::gk p ro lf cn):=by
 refine bz as4 (af ?_);exact xM
theorem Rf:Ev Eh [bL p ro w] (0,[bL p ro (iW w)]):=bz awm aL
include hw hc in
theorem aof(e:Int):Ev LV [J (bC 0 w),iI e,K0 p lf,ah (bf ro),.ab 0 cn] (0,[J (sT (bC 0 (vg w e)) Gv),K0 p lf,ah (bf ro),.ab 0 cn,aa (ints (w.kE++[e]))]):=by
 refine bz aqn ?_;rw [hc];refine aj (Rg (lf:=lf) hc) (aj (Jv (l:=w.kE) e hw.kE) (af ?_));exact j5
include hw hc in
theorem aod(q:Int):Ev Me [J (bC 0 w),iI q,K0 p lf,ah (bf ro),.ab 0 cn] (0,[J (sT (bC 0 (Ap w q)) aFj),K0 p lf,ah (bf ro),.ab 0 cn,aa (ints (w.gP++[q]))]):=by
 refine bz asm ?_;rw [hc];refine aj (Rg (lf:=lf) hc) (aj (Jv (l:=w.gP) q hw.gP) (af ?_));exact j5
include hw in
theorem aoe(e:Int):Ev Md [bL p ro w,iI e] (0,[J (sT (Q0 p ro (vg w e)) aFi),aa (ints (w.kE++[e]))]):=by
 have:=hw.kE;refine bz asf (aj Rf (aH ?_ (aH ?_ (af ?_))))
 ·show decide ((0+(ints w.kE).length)*8<=140737488355328)=true;exact wG
 ·show decide ((([]++ints w.kE).length +1)*8<=140737488355328)=true;exact Ym
 ·rw [BH];rfl
include hw in
theorem aNJ(q:Int):Ev UQ [bL p ro w,iI q] (0,[J (sT (Q0 p ro (Ap w q)) an9),aa (ints (w.gP++[q]))]):=by
 have:=hw.gP;refine bz au8 (aj Rf (aH ?_ (aH ?_ (af ?_))))
 ·show decide ((0+(ints w.gP).length)*8<=140737488355328)=true;exact wG
 ·show decide ((([]++ints w.gP).length +1)*8<=140737488355328)=true;exact Ym
 ·rw [BH];rfl
end
structure WI(p:PG)(w:WH):Prop where
 dJ:w.In p
 l1:(w.marks.length:Int)<=w.deep
 l2:(w.kG.length:Int)<=w.deep
 l3:(w.kE.length:Int)<=w.deep
 l4:(w.gP.length:Int)<=w.deep
 l5:(w.loops.length:Int)<=w.deep
 d:w.deep<=64
theorem WI.ok{p:PG}{w:WH}(h:WI p w):w.Ok:=by
 obtain⟨_,h1,h2,h3,h4,h5,d⟩:=h;exact⟨by omega,by omega,by omega,by omega,by omega⟩
mutual
def j8:CS->Int->Nat
 | .mk f l d h a,t=>(if f.kind=9 then f.Ts.count t else 0)+(sj d t+(iv l t+(si h t+sk a t)))
def iv:List CS->Int->Nat
 | [],_=>0
 |s::ss,t=>j8 s t+iv ss t
def ang:CD->Int->Nat
 | .mk d u,t=>j8 d t+j8 u t
def sj:List CD->Int->Nat
 | [],_=>0
 |s::ss,t=>ang s t+sj ss t
def anf:CH->Int->Nat
 | .mk _ b,t=>j8 b t
def si:List CH->Int->Nat
 | [],_=>0
 |s::ss,t=>anf s t+si ss t
def anh:CA->Int->Nat
 | .mk _ _ _ _ b a,t=>j8 b t+j8 a t
def sk:List CA->Int->Nat
 | [],_=>0
 |s::ss,t=>anh s t+sk ss t
end
structure ST(p:PG)(lf:Int)(cn:aZ)(c:Int->Nat):Prop where
 pk:ay (au cn)=cn
 rep:∀t,dM (au cn) (iI t)=if c t=0 then none else some (iI (c t:Int))
 le:∀t,(c t:Int)<=8192- lf
 lo:0<=lf
 hi:lf<=8192
 jj:∀t,c t≠0->1<=t∧t<(p.tasks.length:Int)
theorem ST.ext{p:PG}{lf:Int}{cn:aZ}{c d:Int->Nat}(h:ST p lf cn c)(e:∀t,c t=d t):ST p lf cn d:=by
 have:c=d:=funext e;exact this▸h
theorem agM(s:CS)(t:Int):j8 s t=(if s.f.kind=9 then s.f.Ts.count t else 0)+(sj s.D t+(iv s.L t+(si s.H t+sk s.A t))):=wm
theorem agO(s:CD)(t:Int):ang s t=j8 s.d t+j8 s.u t:=wm
theorem agN(s:CH)(t:Int):anf s t=j8 s.body t:=wm
theorem agP(s:CA)(t:Int):anh s t=j8 s.body t+j8 s.after t:=wm
def nH(p:PG)(ro:List RO)(s:CS):Prop:=∀w,WI p w->∀lf cn c,ST p lf cn c->∃b dy c9,ay (au c9)=c9∧
 Ev jZ [J (bC 0 w),J (encS s),K0 p lf,ah (bf ro),.ab 0 cn] (0,ak b::gk p ro dy c9)∧
 Ev pO [bL p ro w,J (encS s),iI lf] (0,[iI (bif b then dy else-1)])∧(b=true->ST p dy c9 λt=>c t+j8 s t)
end Go.Proofs.YtomkobcipaligaaGreatDoor
namespace Go.az
def Qj{p:Prop}(h:p:=by
 exfalso;rw [dq]at a;simp at a b;rcases h with h|h<;>omega):p:=h
def Jd{p:Prop}(h:p:=by rw [fM hi,fE]):p:=h
end Go.az
namespace Go.Proofs.YtomkobcipaligaaGreatDoor
open Go Go.az
section
variable{b:Bool}{f:dH}{lf dy n:Int}{Ls:List CS}{i:Nat}{ctx:Nat->WH}{c w:WH}{A D H cn c9:aZ}
def rq(w:WH):WH:={w with lC:= -1}
def xf(c:WH)(f:dH)(i:Int):WH:=bif i==0 then bif f.kind==18 then vg c f.entry else c else c
def aB(f:dH)(i:Int):Bool:=bif i==0 then bif f.kind==20 then true else f.kind==17 else false
def uB(c:WH)(f:dH)(i:Int):WH:=bif aB f i then Ap c f.P else xf c f i
def qB(f:dH)(i:Int):Bool:=bif f.kind==16 then true else bif f.kind==17 then decide (0<i)else bif f.kind==18 then decide (0<i)else false
def kZ(c:WH)(f:dH)(i:Int):WH:=bif qB f i then rq (uB c f i)else uB c f i
inductive CR(p:PG)(ro:List RO)(ctx:Nat->WH)(Ls:List CS):Nat->Int->aZ->Bool->Int->aZ->Prop
 |done(i:Nat)(h:i=Ls.length)(lf:Int)(cn:aZ)(pk:ay (au cn)=cn):CR p ro ctx Ls i lf cn true lf cn
 |no(i:Nat)(h:i<Ls.length)(lf:Int)(cn:aZ)(pk:ay (au cn)=cn)(dy:Int)(c9:aZ)(kW:ay (au c9)=c9)
   (e:Ev jZ [J (bC 0 (ctx i)),J (encS Ls[i]),K0 p lf,ah (bf ro),.ab 0 cn] (0,aq::gk p ro dy c9)):CR p ro ctx Ls i lf cn false dy c9
 |yes(i:Nat)(h:i<Ls.length)(lf:Int)(cn:aZ)(pk:ay (au cn)=cn)(l1:Int)(c1:aZ)(iz:ay (au c1)=c1)
   (e:Ev jZ [J (bC 0 (ctx i)),J (encS Ls[i]),K0 p lf,ah (bf ro),.ab 0 cn] (0,cu::gk p ro l1 c1)) (b:Bool) (dy:Int) (c9:aZ) (t:CR p ro ctx Ls (i+1) l1 c1 b dy c9):CR p ro ctx Ls i lf cn b dy c9
section
variable {p:PG} {ro:List RO}
abbrev nx(f:dH)(Ls:List CS)(D H A:aZ):AV:= J (cW f (Ls.map encS) D H A)
def agE(hw:c.Ok)(hi:i<Ls.length)(hl:Ls.length<=mx){n':Int}(hn:0<=n)(h:Ev pO [bL p ro (kZ c f i),J (encS Ls[i]),iI n] (0,[iI n'])){r:UO}
 (hr:bP zo [iI n',iI ((i+1:Nat):Int),bL p ro c,nx f Ls D H A] r):
 bP zo [iI n,iI (i:Int),bL p ro c,nx f Ls D H A] r:=by
 have j0:bM MT [iI n,iI (i:Int),nx f Ls D H A] (0,[nx f Ls D H A]):=
  bU adb (bu (dr (f:=encS) hi) (bu (wv) aL))
 have j1:bM UY [iI (i:Int),bL p ro c,nx f Ls D H A,bL p ro c] (0,[bL p ro c,nx f Ls D H A,bL p ro (xf c f i)]):=by
  refine bU auT ?_;refine av (c:=(i:Int)==0) (λh=>av (c:=f.kind==18) (λg=>aj (aoe (p:=p) (ro:=ro) hw f.entry) (af ?_)) λg=>af ?_) λh=>af ?_
  ·unfold xf;rw [h,g];rfl
  ·unfold xf;rw [h,g];rfl
  ·unfold xf;rw [h];rfl
 have j2:bM UB [iI (i:Int),nx f Ls D H A] (0,[ak (aB f i),nx f Ls D H A]):=by
  refine bU atO ?_;refine av (c:=(i:Int)==0) (λh=>av (c:=f.kind==20) (λg=>af ?_) λg=>af ?_) λh=>af ?_
  ·unfold aB;rw [h,g];rfl
  ·unfold aB;rw [h,g];rfl
  ·unfold aB;rw [h];rfl
 have j3:bM UX [iI (i:Int),bL p ro c,nx f Ls D H A,bL p ro (xf c f i)] (0,[bL p ro c,nx f Ls D H A,bL p ro (uB c f i)]):=by
  refine bU auS (aj j2 (av (c:=aB f i) (λg=>aj (aNJ (p:=p) (ro:=ro) hw f.P) (af ?_)) λg=>af ?_))
  ·unfold uB;rw [g];rfl
  ·unfold uB;rw [g];rfl
 have j4:bM UA [iI (i:Int),nx f Ls D H A,bL p ro (uB c f i)] (0,[nx f Ls D H A,bL p ro (kZ c f i)]):=by
  refine bU atN ?_;refine av (c:=f.kind==16) (λa=>af ?_) λa=>av (c:=f.kind==17) (λb=>av (c:=decide (0<(i:Int))) (λg=>af ?_) λg=>av (c:=f.kind==18) (λz=> ?_) λz=>af ?_) λb=>av (c:=f.kind==18) (λz=>av (c:=decide (0<(i:Int))) (λg=>af ?_) λg=>af ?_) λz=>af ?_
  ·unfold kZ qB;rw [a];rfl
  ·unfold kZ qB;rw [a,b,g];rfl
  ·have h1:=eq_of_beq b;rw [h1]at z;cases z
  ·unfold kZ qB;rw [a,b,g];rfl
  ·unfold kZ qB;rw [a,b,z,g];rfl
  ·unfold kZ qB;rw [a,b,z,g];rfl
  ·unfold kZ qB;rw [a,b,z];rfl
 refine bF adp (aj j0 (aX (aj j1 (aj j3 (aj j4 (aH (cH (f:=encS) hi) ?_))))));have hs:dv (gA (Ls.map encS) ((i:Int).toNat))=encS Ls[i]:=Jd;rw [<-hs]at h;refine aj h ?_;rw [ix hi hl];exact hr
def ahi(h:i=Ls.length∨n<0):
 bP zo [iI n,iI (i:Int),bL p ro c,nx f Ls D H A] (0,[iI n,bL p ro c,nx f Ls D H A]):=by
 have j0:bM MT [iI n,iI (i:Int),nx f Ls D H A] (1,[nx f Ls D H A]):=by
  refine bU adb (av (c:=decide ((i:Int)<ln (Ls.map encS))) (λa=>av (c:=decide (0<=n)) (λb=> ?_) λb=>aL) λa=>aL);exact Qj
 exact bF adp (aj j0 (bj aL))
def aEw(hw:c.Ok)(hl:Ls.length<=mx)(hk:∀s∈Ls,nH p ro s)(hx:∀i,i<Ls.length->WI p (kZ c f (i:Nat))):
 ∀lf cn cc,ST p lf cn cc->∃b dy c9,ay (au c9)=c9∧CR p ro (λi=>kZ c f (i:Nat)) Ls 0 lf cn b dy c9∧
  bP zo [iI lf,iI 0,bL p ro c,nx f Ls D H A] (0,[iI (bif b then dy else-1),bL p ro c,nx f Ls D H A])∧(b=true->ST p dy c9 λt=>cc t+iv Ls t):=by
 have h:=fD (m:=Ls.length) (P:=λi=>∀lf cn cc,ST p lf cn cc->∃b dy c9,ay (au c9)=c9∧CR p ro (λi=>kZ c f (i:Nat)) Ls i lf cn b dy c9∧
  bP zo [iI lf,iI (i:Int),bL p ro c,nx f Ls D H A] (0,[iI (bif b then dy else-1),bL p ro c,nx f Ls D H A])∧(b=true->ST p dy c9 λt=>cc t+iv (Ls.drop i) t))
  (λlf cn cc st=>⟨true,lf,cn,st.pk,.done _ rfl _ _ st.pk,ahi (.inl rfl),λ_=>st.ext λt=>by rw [gp];simp [iv]⟩)
  λi hi ih lf cn cc st=>by
   obtain⟨b,l1,c1,iz,e1,e2,e3⟩:=hk Ls[i] (dO hi) _ (hx i hi) lf cn cc st;cases b with
   |false=>
    refine⟨false,l1,c1,iz,.no _ hi _ _ st.pk _ _ iz e1,agE hw hi hl st.lo e2 (ahi (.inr ?_)),λh=>bh⟩;show(-1:Int)<0;omega
   |true=>
    obtain⟨b,l2,c2,jb,r1,r2,r3⟩:=ih l1 c1 _ (e3 rfl);refine⟨b,l2,c2,jb,.yes _ hi _ _ st.pk _ _ iz e1 _ _ _ r1,agE hw hi hl st.lo e2 r2,λh=>(r3 h).ext λt=> ?_⟩;rw [gF hi];simp only [iv];omega
 intro lf cn cc st;have:=h lf cn cc st;rw [gD]at this;exact this
def aDW(Sj:∀i,ctx i=w)(hl:Ls.length<=mx)(h:CR p ro ctx Ls i lf cn b dy c9):∃j:Nat,
 bP LB [bD (Ls.map encS),iI (ln (Ls.map encS)),iI (i:Int),J (bC 1 w),J (dP 2 3 p lf),ah (bf ro),.ab 0 cn]
  (bif b then(1,[J (bC 1 w),J (dP 2 3 p dy),ah (bf ro),.ab 0 c9])else(0,[iI (j:Int),J (bC 1 w),J (dP 2 3 p dy),ah (bf ro),.ab 0 c9])):=by
 have cY:∀{s:CS} {lf:Int} {cn:aZ} (hc:ay (au cn)=cn) {b:Bool} {l1:Int} {c1:aZ} (pG:ay (au c1)=c1),Ev jZ [J (bC 0 w),J (encS s),K0 p lf,ah (bf ro),.ab 0 cn] (0,ak b::gk p ro l1 c1)->
  Ev TT [J (encS s),J (bC 1 w),J (dP 2 3 p lf),ah (bf ro),.ab 0 cn] (0,[ak (!b),J (bC 1 w),J (dP 2 3 p l1),ah (bf ro),.ab 0 c1]):=λ{s lf cn} hc {b l1 c1} pG he=>by
  refine bz ash ?_;rw [hc,fE];refine aj he (af ?_);erw [pG];rfl
 induction h with
 |done i h lf cn pk=>
  subst h;exact⟨0,bF SB (aC dU (af (by rw [pk];rfl)))⟩
 |no i h lf cn pk dy c9 kW e=>
  rw [Sj]at e;refine⟨i,bF SB (bu (dr h) (aH (cH h) ?_))⟩;rw [pk,fM h,fE];refine aj (cY pk kW e) ?_;erw [kW];exact mG
 |yes i h lf cn pk l1 c1 iz e b dy c9 t ih=>
  rw [Sj]at e;obtain⟨j,hj⟩:=ih;refine⟨j,bF SB (bu (dr h) (aH (cH h) ?_))⟩;rw [pk,fM h,fE,ix h hl];refine aj (cY pk iz e) ?_;erw [iz];exact bj hj
def CR.pk{ctx:Nat->WH}{Ls:List CS}{i:Nat}{lf:Int}{cn:aZ}{b:Bool}{dy:Int}{c9:aZ}(h:CR p ro ctx Ls i lf cn b dy c9):ay (au cn)=cn∧ay (au c9)=c9:=by
 induction h with
 |done _ _ _ _ pk=>exact⟨pk,pk⟩
 |no _ _ _ _ pk _ _ kW _=>exact⟨pk,kW⟩
 |yes _ _ _ _ pk _ _ _ _ _ _ _ _ ih=>exact⟨pk,ih.2⟩
def aFh(Sj:∀i,ctx i=w)(hl:Ls.length<=mx)(h:CR p ro ctx Ls 0 lf cn b dy c9):
 Ev SC [bD (Ls.map encS),J (bC 1 w),J (dP 2 3 p lf),ah (bf ro),.ab 0 cn] (0,[ak (!b),J (bC 1 w),J (dP 2 3 p dy),ah (bf ro),.ab 0 c9]):=by
 obtain⟨j,hj⟩:=aDW Sj hl h;obtain⟨pk,kW⟩:=h.pk;cases b with
 |true=>
  have a1:Ev LH [bD (Ls.map encS),J (bC 1 w),J (dP 2 3 p lf),ah (bf ro),.ab 0 cn] (0,[iI (-1),J (bC 1 w),J (dP 2 3 p dy),ah (bf ro),.ab 0 c9]):=by
   refine bz aaZ ?_;rw [pk];refine aj hj.diag (bj (af ?_));erw [kW];rfl
  refine bz aaU ?_;rw [pk];refine aj a1 (af ?_);erw [kW];rfl
 |false=>
  have a1:Ev LH [bD (Ls.map encS),J (bC 1 w),J (dP 2 3 p lf),ah (bf ro),.ab 0 cn] (0,[iI (j:Int),J (bC 1 w),J (dP 2 3 p dy),ah (bf ro),.ab 0 c9]):=by
   refine bz aaZ ?_;rw [pk];refine aj hj.diag (aX (af ?_));erw [kW];rfl
  refine bz aaU ?_;rw [pk];refine aj a1 (af ?_);erw [kW];show(0,[ak (decide (0<=(j:Int))),_,_,_,_])=_;rw [show decide (0<=(j:Int))=true by simp];rfl
end
end
end Go.Proofs.YtomkobcipaligaaGreatDoor
namespace Go.az
def pa{p:Prop}(h:p:=by show(-1:Int)<0;omega):p:=h
def tQ{p:Prop}(h:p:=by rw [mY,dz hi];rfl):p:=h
def akq{p:Prop}(h:p:=by
 rw [hd]at hp;cases ha:decide (l[i]<lo)with
 |true=>rw [ha]at hp;cases hp
 |false=>
  cases hb:decide (hi<l[i])with
  |true=>rw [ha,hb]at hp;cases hp
  |false=>simp at ha hb;exact⟨ha,hb⟩):p:=h
def xO{p:Prop}(h:p:=by rw [rZ]):p:=h
def aiU{p:Prop}(h:p:=by
 simp only [dT]at h;rw [afO]at h;simpa using h i (by simpa using dV)):p:=h
def X6{p:Prop}(h:p:=by rw [fM hi,alu]):p:=h
def X5{p:Prop}(h:p:=by rw [fM hi,als]):p:=h
end Go.az
namespace Go.az
def afO:=@List.any_eq_false
def Xf:=@List.count_cons
end Go.az
namespace Go.Proofs.YtomkobcipaligaaGreatDoor
open Go Go.az
section
variable{hi lo:Int}{l:cT}
def aha(h:jK l lo hi=true){i:Nat}(dV:i<l.length):oJ l lo hi i=false:=by
 unfold jK at h;exact aiU
def aAt(h:jK l lo hi=true):l.Nodup:=by
 have:∀n,n<=l.length->(l.take n).Nodup :=by
  intro n
  induction n with
  |zero=>intro _;simp
  |succ n ih=>
   intro hn;have hp:=aha h (i:=n) (by omega);have hd:l.getD n 0=l[n]:=by rw [mY,dz (by omega)];rfl
   rw [BR,dz (by omega)];refine Il (ih (by omega)) λhm=> ?_;unfold oJ at hp;cases ha:decide (l.getD n 0<lo)with
   |true=>rw [ha]at hp;cases hp
   |false=>
    cases hb:decide (hi<l.getD n 0)with
    |true=>rw [ha,hb]at hp;cases hp
    |false=>
     rw [ha,hb,hd]at hp;have:dJ (l.take n) l[n]=true:=BY.2 hm;simp only [cC]at hp;rw [this]at hp;cases hp
 have h2:=this l.length (gz _)
 rwa [List.take_length]at h2
def agx(h:jK l lo hi=true):∀x∈l,lo<=x∧x<=hi:=by
 intro x hx;obtain⟨i,dV,rfl⟩:=OW hx;have hp:=aha h dV;have hd:l.getD i 0=l[i]:=by rw [mY,dz dV];rfl
 unfold oJ at hp;exact akq
def Xk(h:kM l lo hi=true):∀x∈l,lo<=x∧x<=hi:=by
 intro x hx;obtain⟨i,dV,rfl⟩:=OW hx;unfold kM at h;simp only [dT]at h;rw [afO]at h;have hp:sy l lo hi i=false:=by simpa using h i (by simpa using dV)
 have hd:l.getD i 0=l[i]:=by rw [mY,dz dV];rfl
 unfold sy at hp;exact akq
structure CN(cn:aZ)(c:Int->Nat):Prop where
 pk:ay (au cn)=cn
 rep:∀t,dM (au cn) (iI t)=if c t=0 then none else some (iI (c t:Int))
section
variable {p:PG} {ro:List RO}
def aNv{w:WH}{Ts:cT}(hT:Ts.length<=mx){lf:Int}{cn:aZ}{c:Int->Nat}(h:CN cn c)(hb:∀t,c t+Ts.count t<=100000):∃c9,CN c9 (λt=>c t+Ts.count t)∧
 bP D0 [aa (ints Ts),iI (ln (ints Ts)),iI 0,K0 p lf,ah (bf ro),.ab 0 cn,J (bC 0 w)] (0,[K0 p lf,ah (bf ro),.ab 0 c9,J (bC 0 w)]):=by
 have k:=fD (m:=Ts.length) (P:=λi=>∀cn,CN cn (λt=>c t+(Ts.take i).count t)->∃c9,CN c9 (λt=>c t+Ts.count t)∧
  bP D0 [aa (ints Ts),iI (ln (ints Ts)),iI (i:Int),K0 p lf,ah (bf ro),.ab 0 cn,J (bC 0 w)] (0,[K0 p lf,ah (bf ro),.ab 0 c9,J (bC 0 w)]))
  (λcn h=>⟨cn,by rw [List.take_length]at h;exact h,bF abK (aC dU (af (by rw [h.pk];rfl)))⟩)
  λi hi ih cn h=>by
   have hd:Ts.getD i 0=Ts[i]:=tQ;have AT:∀t,(Ts.take (i+1)).count t=(Ts.take i).count t+if Ts[i]=t then 1 else 0:=λt=>by
    rw [BR,dz hi,List.count_append];simp [Xf]
   have hle:∀t,(Ts.take i).count t<=Ts.count t:=λt=>List.Sublist.count_le _ (List.take_sublist _ _);have hr:=h.rep Ts[i];have vQ:=hb Ts[i];have eZ:=hle Ts[i]
   let v:Int:=((c Ts[i]+(Ts.take i).count Ts[i]+1:Nat):Int)
   obtain⟨c9,h',e⟩:=ih (ay (iK (au cn) (iI Ts[i]) (iI v))) ⟨xO,λt=>by
    rw [rZ,BD,h.rep,AT]
    by_cases ht:t=Ts[i]
    ·subst ht;simp [v];omega
    ·rw [if_neg ht];have:(if Ts[i]=t then 1 else 0:Nat)=0:=if_neg λh=>ht h.symm;rw [this,xF]⟩
   refine⟨c9,h',bF abK (bu (dr hi) (aH (cH hi) ?_))⟩;rw [mh hi,ix hi hT,hd]
   by_cases h0:c Ts[i]+(Ts.take i).count Ts[i]=0
   ·rw [if_pos h0]at hr;rw [hr];have:v=1:=by simp only [v];omega
    rw [this]at e;exact e
   ·rw [if_neg h0]at hr;rw [hr];have:bx ((iI ((c Ts[i]+(Ts.take i).count Ts[i]:Nat):Int)).toI +1)=v:=by
     show bx (((c Ts[i]+(Ts.take i).count Ts[i]:Nat):Int)+1)=v;rw [jv (by omega) (by omega)];simp only [v];omega
    rw [<-this]at e;exact e
 exact k cn (lJ)
def aEy{c:WH}(hd:WI p {iW c with jy:=true})(hu:WI p {iW c with iC:=true}){f:dH}{L H A:aZ}{Ds:List CD}(hl:Ds.length<=mx)(hk:∀d∈Ds,nH p ro d.d∧nH p ro d.u):
 ∀lf cn cc,ST p lf cn cc->∃b dy c9,ay (au c9)=c9∧
  bP Hm [c5 (Ds.map cq),iI (ln (Ds.map cq)),iI 0,K0 p lf,ah (bf ro),.ab 0 cn,J (bC 0 {iW c with jy:=true}),J (bC 0 {iW c with iC:=true})]
   (bif b then(1,[K0 p dy,ah (bf ro),.ab 0 c9,J (bC 0 {iW c with jy:=true}),J (bC 0 {iW c with iC:=true})])else(0,[aq,K0 p dy,ah (bf ro),.ab 0 c9,J (bC 0 {iW c with jy:=true}),J (bC 0 {iW c with iC:=true})]))∧
  bP xu [iI lf,iI 0,bL p ro c,J (cW f L (Ds.map cq) H A)] (0,[iI (bif b then dy else-1),bL p ro c,J (cW f L (Ds.map cq) H A)])∧(b=true->ST p dy c9 λt=>cc t+sj Ds t):=by
 have pY:∀{i:Nat} {n:Int},i=Ds.length∨n<0->bP xu [iI n,iI (i:Int),bL p ro c,J (cW f L (Ds.map cq) H A)] (0,[iI n,bL p ro c,J (cW f L (Ds.map cq) H A)]):=λ{i n} h=>by
  have j0:bM MS [iI n,iI (i:Int),J (cW f L (Ds.map cq) H A)] (1,[J (cW f L (Ds.map cq) H A)]):=by
   refine bU ada (av (c:=decide ((i:Int)<ln (Ds.map cq))) (λa=>av (c:=decide (0<=n)) (λb=> ?_) λb=>aL) λa=>aL);exact Qj
  exact bF adn (aj j0 (bj aL))
 have k:=fD (m:=Ds.length) (P:=λi=>∀lf cn cc,ST p lf cn cc->∃b dy c9,ay (au c9)=c9∧
  bP Hm [c5 (Ds.map cq),iI (ln (Ds.map cq)),iI (i:Int),K0 p lf,ah (bf ro),.ab 0 cn,J (bC 0 {iW c with jy:=true}),J (bC 0 {iW c with iC:=true})]
   (bif b then(1,[K0 p dy,ah (bf ro),.ab 0 c9,J (bC 0 {iW c with jy:=true}),J (bC 0 {iW c with iC:=true})])else(0,[aq,K0 p dy,ah (bf ro),.ab 0 c9,J (bC 0 {iW c with jy:=true}),J (bC 0 {iW c with iC:=true})]))∧
  bP xu [iI lf,iI (i:Int),bL p ro c,J (cW f L (Ds.map cq) H A)] (0,[iI (bif b then dy else-1),bL p ro c,J (cW f L (Ds.map cq) H A)])∧(b=true->ST p dy c9 λt=>cc t+sj (Ds.drop i) t))
  (λlf cn cc st=>⟨true,lf,cn,st.pk,bF LR (aC dU (af (by rw [st.pk];rfl))),pY (.inl rfl),λ_=>st.ext λt=>by rw [gp];simp [sj]⟩)
  λi hi ih lf cn cc st=>by
   obtain⟨ho,hv⟩:=hk Ds[i] (dO hi);have gd:dv (gA (Ds.map cq) ((i:Int).toNat))=encS Ds[i].d :=X6;have gu:cO dD 21 (gA (Ds.map cq) ((i:Int).toNat))=encS Ds[i].u :=X5;have rs:∀{n n1 n2:Int},0<=n->Ev pO [bL p ro {iW c with jy:=true},J (encS Ds[i].d),iI n] (0,[iI n1])->(0<=n1->Ev pO [bL p ro {iW c with iC:=true},J (encS Ds[i].u),iI n1] (0,[iI n2]))->(n1<0->n2=n1)->∀{r},bP xu [iI n2,iI ((i+1:Nat):Int),bL p ro c,J (cW f L (Ds.map cq) H A)] r->
    bP xu [iI n,iI (i:Int),bL p ro c,J (cW f L (Ds.map cq) H A)] r:=λ{n n1 n2} hn h1 h2 h3 {r} hr=>by
    have j0:bM MS [iI n,iI (i:Int),J (cW f L (Ds.map cq) H A)] (0,[J (cW f L (Ds.map cq) H A)]):=
     bU ada (bu (dr (f:=cq) hi) (bu (wv) aL))
    refine bF adn (aj j0 (aX (aj Rf (aj Rf (aH (cH (f:=cq) hi) ?_)))));rw [<-gd]at h1;refine aj h1 ?_;rw [ix hi hl];refine av (c:=decide (0<=n1)) (λa=>aH (cH (f:=cq) hi) ?_) λa=> ?_
    ·have h2:=h2 (by simpa using a);rw [<-gu]at h2;exact aj h2 hr
    ·rw [h3 (by simp at a;omega)]at hr;exact hr
   obtain⟨b,l1,c1,iz,e1,e2,e3⟩:=ho _ hd lf cn cc st;cases b with
   |false=>
    refine⟨false,l1,c1,iz,bF LR (bu (dr hi) (aH (cH hi) ?_)),rs st.lo e2 (λh=>absurd h (by show¬(0<=(-1:Int));omega)) (λ_=>rfl) (pY (.inr (pa))),λh=>bh⟩;rw [st.pk,gd];refine aj e1 ?_;erw [iz];exact mG
   |true=>
    have cY:=e3 rfl;obtain⟨b,l2,c2,jb,u1,u2,u3⟩:=hv _ hu l1 c1 _ cY;cases b with
    |false=>
     refine⟨false,l2,c2,jb,bF LR (bu (dr hi) (aH (cH hi) ?_)),rs st.lo e2 (λ_=>u2) (λh=>absurd h (by have:=cY.lo;show¬(l1<0);omega)) (pY (.inr (pa))),λh=>bh⟩;rw [st.pk,gd,gu];refine aj e1 ?_;erw [iz];refine bj (aj u1 ?_);erw [jb];exact mG
    |true=>
     obtain⟨b,l3,c3,AJ,r1,r2,r3⟩:=ih l2 c2 _ (u3 rfl);refine⟨b,l3,c3,AJ,bF LR (bu (dr hi) (aH (cH hi) ?_)),rs st.lo e2 (λ_=>u2) (λh=>absurd h (by have:=cY.lo;show¬(l1<0);omega)) r2,λh=>(r3 h).ext λt=> ?_⟩
     ·rw [st.pk,gd,gu,ix hi hl];refine aj e1 ?_;erw [iz];refine bj (aj u1 ?_);erw [jb];exact bj r1
     ·rw [gF hi];simp only [sj,agO];omega
 intro lf cn cc st;have:=k lf cn cc st;rw [gD]at this;exact this
end
end
end Go.Proofs.YtomkobcipaligaaGreatDoor
namespace Go.az
def ajv{p:Prop}(h:p:=by
 have:(i+1==Hs.length)=true:=by simp at b⊢;omega
 simp only [dT]at d;unfold hB;rw [a,this,d];rfl):p:=h
def aju{p:Prop}(h:p:=by
 have:(i+1==Hs.length)=true:=by simp at b⊢;omega
 simp only [dF]at d;unfold hB;rw [a,this,d];rfl):p:=h
def ai1{p:Prop}(h:p:=by
 have:(i+1==Hs.length)=false:=by simp at b⊢;omega
 unfold hB;rw [a,this];rfl):p:=h
def zM{p:Prop}(h:p:=by simp [hy]):p:=h
def PA{p:Prop}(h:p:=by simpa using st.lo):p:=h
end Go.az
namespace Go.Proofs.YtomkobcipaligaaGreatDoor
open Go Go.az
section
variable{sm:aZ}{sn:cT}
def tN:cT->cT->Option cT
 | [],sn=>some sn
 |x::xs,sn=>bif dJ sn x then none else tN xs (sn++[x])
structure SM(sm:aZ)(sn:cT):Prop where
 pk:ay (au sm)=sm
 rep:∀x,dM (au sm) (iI x)=if dJ sn x=true then some (cu)else none
def aBx(sn:cT)(y x:Int):dJ (sn++[y]) x=(dJ sn x||y==x):=by
 unfold dJ;rw [Xe];simp
def SM.put(h:SM sm sn)(y:Int):SM (ay (iK (au sm) (iI y) (cu))) (sn++[y]):=
 ⟨xO,λx=>by
   rw [rZ,BD,h.rep,aBx]
   by_cases hx:x=y
   ·subst hx;simp
   ·have:(y==x)=false:=by simpa using λh=>hx h.symm
    rw [if_neg hx,this,Xd]⟩
section
variable {p:PG} {ro:List RO}
def aEo{xs:cT}(hx:xs.length<=mx){lf:Int}{cn:aZ}(hc:ay (au cn)=cn)(h:SM sm sn):∃oh,ay (au oh)=oh∧(∀py,tN xs sn=some py->SM oh py)∧
 bP DS [aa (ints xs),iI (ln (ints xs)),iI 0,K0 p lf,ah (bf ro),.ab 0 cn,.ab 0 sm] (match tN xs sn with|some _=>(1,[K0 p lf,ah (bf ro),.ab 0 cn,.ab 0 oh])|none=>(0,[aq,K0 p lf,ah (bf ro),.ab 0 cn,.ab 0 oh])):=by
 have k:=fD (m:=xs.length) (P:=λi=>∀sm sn,SM sm sn->∃oh,ay (au oh)=oh∧(∀py,tN (xs.drop i) sn=some py->SM oh py)∧
  bP DS [aa (ints xs),iI (ln (ints xs)),iI (i:Int),K0 p lf,ah (bf ro),.ab 0 cn,.ab 0 sm] (match tN (xs.drop i) sn with|some _=>(1,[K0 p lf,ah (bf ro),.ab 0 cn,.ab 0 oh])|none=>(0,[aq,K0 p lf,ah (bf ro),.ab 0 cn,.ab 0 oh])))
  (λsm sn h=>⟨sm,h.pk,λpy hs=>by rw [gp]at hs;injection hs with hs;subst hs;exact h,by
    rw [gp];exact bF SX (aC dU (af (by rw [hc,h.pk];rfl)))⟩)
  λi hi ih sm sn h=>by
   have hd:xs.getD i 0=xs[i]:=tQ;have hr:=h.rep xs[i];rw [gF hi];simp only [tN];cases dX:dJ sn xs[i]with
   |true=>
    rw [dX,if_pos rfl]at hr;simp only [cg];refine⟨sm,h.pk,(λpy hs=>by cases hs),bF SX (bu (dr hi) (aH (cH hi) ?_))⟩;rw [mh hi,hd,hr,hc,h.pk];exact mG
   |false=>
    rw [dX,if_neg (by simp)]at hr;obtain⟨oh,q1,q2,q3⟩:=ih _ _ (h.put xs[i]);simp only [cC];refine⟨oh,q1,q2,bF SX (bu (dr hi) (aH (cH hi) ?_))⟩;rw [mh hi,hd,hr,hc,ix hi hx];exact q3
 have:=k sm sn h;rw [gD]at this;exact this
def aeS:∀{xs sn py:cT},tN xs sn=some py->sn.Nodup->(∀x∈xs,1<=x∧x<=64)->(∀x∈sn,1<=x∧x<=64)->py.Nodup∧∀x∈py,1<=x∧x<=64
 | [],sn,py,h,hn,_,hr=>by injection h with h;subst h;exact⟨hn,hr⟩
 |x::xs,sn,py,h,hn,hx,hr=>by
  simp only [tN]at h;cases hi:dJ sn x with
  |true=>rw [hi]at h;cases h
  |false=>
   rw [hi]at h;refine aeS h (Il hn λhm=>Yu) (λy hy=>hx y (zM)) λy hy=> ?_;rcases jO.1 hy with hy|hy
   ·exact hr y hy
   ·simp at hy;subst hy;exact hx _ (by simp)
def aEQ(hn:sn.Nodup)(hr:∀x∈sn,1<=x∧x<=64):sn.length<=65:=It 65 sn hn λx hx=>jf.2 (by have:=hr x hx;omega)
def aEn{x:CH}(hx:x.eQ.length<=mx)(hb:∀y∈x.eQ,1<=y∧y<=64)(hn:sn.Nodup)(hr:∀y∈sn,1<=y∧y<=64):
 bP Hv [iI 0,J (cA x),aa (ints sn)] (match tN x.eQ sn with|some py=>(1,[J (cA x),aa (ints py)])|none=>(0,[iI (-1),J (cA x)])):=by
 have k:=fD (m:=x.eQ.length) (P:=λi=>∀sn:cT,sn.Nodup->(∀y∈sn,1<=y∧y<=64)->
  bP Hv [iI (i:Int),J (cA x),aa (ints sn)] (match tN (x.eQ.drop i) sn with|some py=>(1,[J (cA x),aa (ints py)])|none=>(0,[iI (-1),J (cA x)])))
  (λsn _ _=>by
    rw [gp];refine bF ab2 ?_;rw [Kj,JV];exact aC dU aL)
  λi hi ih sn hn hr=>by
   have hl:=aEQ hn hr;have hd:x.eQ.getD i 0=x.eQ[i]:=tQ;rw [gF hi];simp only [tN];refine bF ab2 ?_;rw [Kj,JV];refine bu (dr hi) (aH (cH hi) ?_);rw [mh hi,hd,ix hi hx];refine aj (inV x.eQ[i] (by show sn.length<=1048576;omega)) ?_;cases dX:dJ sn x.eQ[i]with
   |true=>exact mG
   |false=>
    refine bj (aH (cH hi) (aH ?_ ?_))
    ·show decide (((ints sn).length +1)*8<=140737488355328)=true;exact wG
    ·have:=ih (sn++[x.eQ[i]]) (Il hn λhm=>by rw [BY.2 hm]at dX;cases dX) λy hy=>by
      rcases jO.1 hy with hy|hy
      ·exact hr y hy
      ·simp at hy;subst hy;exact hb _ (dO hi)
     rw [BH]at this;exact this
 have:=k sn hn hr;rw [gD]at this;exact this
def hB(p:PG)(n:Nat)(i:Nat)(x:CH):Bool:=(bif x.eQ.length==0 then(i+1==n)else true)&&kM x.eQ 1 p.eQ
def ant(l:cT):(ln (ints l)==0)=(l.length==0):=by rw [dq];cases h:l.length==0<;>simp at h⊢<;>omega
def aEx(hpe:p.eQ<=64){c:WH}(hw:WI p c){f:dH}{L D A:aZ}{Hs:List CH}(hl:Hs.length<=mx)(iR:Hs.length<=16)(hx:∀x∈Hs,x.eQ.length<=mx)(hk:∀x∈Hs,nH p ro x.body):
 ∀lf cn cc,ST p lf cn cc->∃b dy c9 oh,ay (au c9)=c9∧
  bP DT [cZ (Hs.map cA),iI (ln (Hs.map cA)),iI 0,K0 p lf,ah (bf ro),.ab 0 cn,J (bC 0 c),J (cW f L D (Hs.map cA) A),.ab 0 (ay [])]
   (bif b then(1,[K0 p dy,ah (bf ro),.ab 0 c9,J (bC 0 c),J (cW f L D (Hs.map cA) A),.ab 0 oh])else(0,[aq,K0 p dy,ah (bf ro),.ab 0 c9,J (bC 0 c),J (cW f L D (Hs.map cA) A),.ab 0 oh]))∧
  (∃q l,bP zm [iI lf,iI 0,bL p ro c,J (cW f L D (Hs.map cA) A),aa []] (q,iI (bif b then dy else-1)::l))∧(b=true->ST p dy c9 λt=>cc t+si Hs t):=by
 have pY:∀{i:Nat} {n:Int} {sn:cT},i=Hs.length∨n<0->bP zm [iI n,iI (i:Int),bL p ro c,J (cW f L D (Hs.map cA) A),aa (ints sn)] (1,[iI n,bL p ro c,J (cW f L D (Hs.map cA) A)]):=λ{i n sn} h=>by
  have j0:bM HP [iI n,iI (i:Int),J (cW f L D (Hs.map cA) A)] (1,[J (cW f L D (Hs.map cA) A)]):=by
   refine bU Ux (av (c:=decide ((i:Int)<ln (Hs.map cA))) (λa=>av (c:=decide (0<=n)) (λb=> ?_) λb=>aL) λa=>aL);exact Qj
  exact bF Uu (aj j0 (bj aL))
 have k:=fD (m:=Hs.length) (P:=λi=>∀lf cn cc,ST p lf cn cc->∀sm sn,SM sm sn->sn.Nodup->(∀y∈sn,1<=y∧y<=64)->∃b dy c9 oh,ay (au c9)=c9∧
  bP DT [cZ (Hs.map cA),iI (ln (Hs.map cA)),iI (i:Int),K0 p lf,ah (bf ro),.ab 0 cn,J (bC 0 c),J (cW f L D (Hs.map cA) A),.ab 0 sm]
   (bif b then(1,[K0 p dy,ah (bf ro),.ab 0 c9,J (bC 0 c),J (cW f L D (Hs.map cA) A),.ab 0 oh])else(0,[aq,K0 p dy,ah (bf ro),.ab 0 c9,J (bC 0 c),J (cW f L D (Hs.map cA) A),.ab 0 oh]))∧
  (∃q l,bP zm [iI lf,iI (i:Int),bL p ro c,J (cW f L D (Hs.map cA) A),aa (ints sn)] (q,iI (bif b then dy else-1)::l))∧(b=true->ST p dy c9 λt=>cc t+si (Hs.drop i) t))
  (λlf cn cc st sm sn hs _ _=>⟨true,lf,cn,sm,st.pk,bF abv (aC dU (af (by rw [st.pk,hs.pk];rfl))),⟨_,_,pY (.inl rfl)⟩,λ_=>st.ext λt=>by rw [gp];simp [si]⟩)
  λi hi ih lf cn cc st sm sn hs hn hr=>by
   have gH:TR (gA (Hs.map cA) ((i:Int).toNat))=cA Hs[i]:=by rw [fM hi,JV]
   have w9:=hx _ (dO hi);have AP:bx (ln (Hs.map cA)- 1)=(Hs.length:Int)- 1:=by rw [dq,jv (by omega) (by omega)]
   have jc:bM S0 [iI (i:Int),K0 p lf,ah (bf ro),.ab 0 cn,J (bC 0 c),J (cW f L D (Hs.map cA) A),J (cA Hs[i])]
    (bif hB p Hs.length i Hs[i]then(0,[K0 p lf,ah (bf ro),.ab 0 cn,J (bC 0 c),J (cW f L D (Hs.map cA) A),J (cA Hs[i])])else(1,[aq,K0 p lf,ah (bf ro),.ab 0 cn,J (bC 0 c),J (cW f L D (Hs.map cA) A),J (cA Hs[i])])):=by
    refine bU apt ?_;rw [st.pk,Kj,JV,ant];refine av (λa=>av (c:=decide ((i:Int)<bx (ln (Hs.map cA)- 1))) (λb=>af ?_) λb=>aj (Q2 1 p.eQ w9) (av (c:= !kM Hs[i].eQ 1 p.eQ) (λd=>af ?_) λd=>af ?_)) λa=>aj (Q2 1 p.eQ w9) (av (c:= !kM Hs[i].eQ 1 p.eQ) (λd=>af ?_) λd=>af ?_)
    ·rw [AP]at b;exact ai1
    ·rw [AP]at b;exact ajv
    ·rw [AP]at b;exact aju
    ·simp only [dT]at d;unfold hB;rw [a,d];rfl
    ·simp only [dF]at d;unfold hB;rw [a,d];rfl
   have jr:bM Uk [iI (i:Int),bL p ro c,J (cW f L D (Hs.map cA) A),J (cA Hs[i])]
    (bif hB p Hs.length i Hs[i]then(0,[bL p ro c,J (cW f L D (Hs.map cA) A),J (cA Hs[i])])else(1,[iI (-1),bL p ro c,J (cW f L D (Hs.map cA) A),J (cA Hs[i])])):=by
    refine bU asR ?_;rw [Kj,JV,ant];refine av (λa=>av (c:=(i:Int) != bx (ln (Hs.map cA)- 1)) (λb=>af ?_) λb=>aj (Q1 1 p.eQ w9) (av (c:= !kM Hs[i].eQ 1 p.eQ) (λd=>af ?_) λd=>af ?_)) λa=>aj (Q1 1 p.eQ w9) (av (c:= !kM Hs[i].eQ 1 p.eQ) (λd=>af ?_) λd=>af ?_)
    ·rw [AP]at b;exact ai1
    ·rw [AP]at b;exact ajv
    ·rw [AP]at b;exact aju
    ·simp only [dT]at d;unfold hB;rw [a,d];rfl
    ·simp only [dF]at d;unfold hB;rw [a,d];rfl
   have j0:bM HP [iI lf,iI (i:Int),J (cW f L D (Hs.map cA) A)] (0,[J (cW f L D (Hs.map cA) A)]):=
    bU Ux (bu (dr (f:=cA) hi) (bu (PA) aL))
   have C:∀r:UO,_->bP DT [cZ (Hs.map cA),iI (ln (Hs.map cA)),iI (i:Int),K0 p lf,ah (bf ro),.ab 0 cn,J (bC 0 c),J (cW f L D (Hs.map cA) A),.ab 0 sm] r:=λr h=>by
    refine bF abv (bu (dr hi) (aH (cH hi) ?_));rw [st.pk,hs.pk,gH];refine aj jc ?_;exact h
   have R:∀r:UO,_->bP zm [iI lf,iI (i:Int),bL p ro c,J (cW f L D (Hs.map cA) A),aa (ints sn)] r:=λr h=>by
    refine bF Uu (aj j0 (aX (aH (cH (f:=cA) hi) ?_)));have jr':=jr;rw [<-gH]at jr';refine aj jr' ?_;exact h
   cases hb:hB p Hs.length i Hs[i]with
   |false=>
    rw [hb]at C R;exact⟨false,lf,cn,sm,st.pk,C _ (bj (af (by erw [st.pk];rfl))),⟨_,_,R _ (bj aL)⟩,λh=>bh⟩
   |true=>
    rw [hb]at C R;simp only [cg]at C R;have aMO:kM Hs[i].eQ 1 p.eQ=true:=by unfold hB at hb;rw [bS]at hb;exact hb.2
    have kX:∀y∈Hs[i].eQ,1<=y∧y<=64:=λy hy=>by have:=Xk aMO y hy;omega
    obtain⟨sm1,iz,s1,s2⟩:=aEo (p:=p) (ro:=ro) w9 (lf:=lf) st.pk hs (xs:=Hs[i].eQ);have r2:=aEn w9 kX hn hr;have ge:ints Hs[i].eQ =gR (cA Hs[i]) 0:=(Kj _).symm;rw [ge]at s2;rw [<-gH]at r2;cases dB:tN Hs[i].eQ sn with
    |none=>
     rw [dB]at s2 r2;refine⟨false,lf,cn,sm1,st.pk,C _ (aX ?_),⟨_,_,R _ (aX (aj r2.diag (aX aL)))⟩,λh=>bh⟩;erw [st.pk];refine aj s2.diag (aX (af ?_));erw [st.pk,iz];rfl
    |some sn1=>
     rw [dB]at s2 r2;have sm2:=s1 sn1 dB;obtain⟨Sb,rK⟩:=aeS dB hn kX hr;obtain⟨b,l1,c1,pc1,e1,e2,e3⟩:=hk _ (dO hi) c hw lf cn cc st;have gb:encS Hs[i].body =cO dD 1 (cA Hs[i]):=(QM _).symm;rw [gb]at e1;rw [gb,<-gH]at e2;cases b with
     |false=>
      refine⟨false,l1,c1,sm1,pc1,C _ (aX ?_),?_,λh=>bh⟩
      ·erw [st.pk];refine aj s2.diag (bj ?_);erw [st.pk];refine aj e1 ?_;erw [pc1,iz];exact mG
      ·exact⟨1,[bL p ro c,J (cW f L D (Hs.map cA) A)],R _ (aX (aj r2.diag (bj (by
        refine aj e2 ?_;rw [ix hi hl];exact pY (sn:=sn1) (.inr (pa))))))⟩
     |true=>
      obtain⟨b,l2,c2,sm3,pc2,u1,⟨q,l,u2⟩,u3⟩:=ih l1 c1 _ (e3 rfl) sm1 sn1 sm2 Sb rK;refine⟨b,l2,c2,sm3,pc2,C _ (aX ?_),⟨q,l,R _ (aX (aj r2.diag (bj ?_)))⟩,λh=>(u3 h).ext λt=> ?_⟩
      ·erw [st.pk];refine aj s2.diag (bj ?_);erw [st.pk];refine aj e1 ?_;erw [pc1,iz,ix hi hl];exact bj u1
      ·refine aj e2 ?_;rw [ix hi hl];exact u2
      ·rw [gF hi];simp only [si,agN];omega
 intro lf cn cc st;have:=k lf cn cc st (ay []) [] ⟨xO,λx=>by simp [rZ,dM,dJ]⟩ v8 (by simp);rw [gD]at this;exact this
end
end
end Go.Proofs.YtomkobcipaligaaGreatDoor
namespace Go.az
def ajt{p:Prop}(h:p:=by
 rw [hb]at C R;refine⟨false,lf,cn,st.pk,C _ (bj (af ?_)),R _ (bj aL),λh=>by cases h⟩;erw [st.pk];rfl):p:=h
end Go.az
namespace Go.Proofs.YtomkobcipaligaaGreatDoor
open Go Go.az
section
variable{f:dH}{lf:Int}{A D H L cn:aZ}
section
variable {p:PG} {ro:List RO}
def sO(p:PG)(c:WH)(f:dH)(D H:aZ):Bool:=bif decide (256<ln D)then false else bif decide (16<ln H)then false else jK f.Ts (bx (c.task+1)) (bx (ln (p.tasks.map cE)- 1))
variable (ct:CT p ro) {c:WH} (hw:WI p c)
include ct in
theorem scC(hf:f.Ok)(hc:ay (au cn)=cn):
 bM TN [K0 p lf,ah (bf ro),.ab 0 cn,J (bC 0 c),SF f L D H A]
  (bif sO p c f D H then(0,[K0 p lf,ah (bf ro),.ab 0 cn,J (bC 0 c),SF f L D H A])else(1,[aq,K0 p lf,ah (bf ro),.ab 0 cn,J (bC 0 c),SF f L D H A])):=by
 refine bU arn ?_;rw [hc];refine av (c:=decide (256<ln D)) (λa=>af (by unfold sO;rw [a];rfl)) λa=>av (c:=decide (16<ln H)) (λb=>af (by unfold sO;rw [a,b];rfl)) λb=>aj (ZL (bx (c.task+1)) (bx (ln (p.tasks.map cE)- 1)) hf.Ts) (av (c:= !jK f.Ts (bx (c.task+1)) (bx (ln (p.tasks.map cE)- 1))) (λd=>af ?_) λd=>af ?_)
 ·simp only [dT]at d;unfold sO;rw [a,b,d];rfl
 ·simp only [dF]at d;unfold sO;rw [a,b,d];rfl
include ct in
theorem scR(hf:f.Ok):
 bM VX [bL p ro c,SF f L D H A]
  (bif sO p c f D H then(0,[bL p ro c,SF f L D H A])else(1,[iI (-1),bL p ro c,SF f L D H A])):=by
 refine bU ax8 ?_;refine av (c:=decide (256<ln D)) (λa=>af (by unfold sO;rw [a];rfl)) λa=>av (c:=decide (16<ln H)) (λb=>af (by unfold sO;rw [a,b];rfl)) λb=>aj (QK (bx (c.task+1)) (bx (ln (p.tasks.map cE)- 1)) hf.Ts) (av (c:= !jK f.Ts (bx (c.task+1)) (bx (ln (p.tasks.map cE)- 1))) (λd=>af ?_) λd=>af ?_)
 ·simp only [dT]at d;unfold sO;rw [a,b,d];rfl
 ·simp only [dF]at d;unfold sO;rw [a,b,d];rfl
theorem WI.of{w w':WH}(h:WI p w)(h1:w'.task=w.task)(h2:w'.lC<0∨w'.lC=w.lC)(h3:w'.gP=w.gP)(m:(w'.marks.length:Int)<=w.deep)(a:(w'.kG.length:Int)<=w.deep)(b:(w'.kE.length:Int)<=w.deep)(l:(w'.loops.length:Int)<=w.deep)(d:w'.deep=w.deep):WI p w':=
 ⟨⟨by rcases h2 with h2|h2
      ·exact .inl h2
      ·rw [h1,h2];exact h.dJ.GA,by rw [h3];exact h.dJ.act,by rw [h1];exact h.dJ.task⟩,by rw [d];exact m,by rw [d];exact a,by rw [d];exact b,by rw [d,h3];exact h.l4,by rw [d];exact l,by rw [d];exact h.d⟩
theorem WV:∀{l:cT},l.Nodup->∀t,l.count t<=1
 | [],_,_=>by simp
 |x::l,h,t=>by
  have ⟨h1,h2⟩:=BZ.1 h;rw [Xf]
  by_cases e:x=t
  ·subst e;have:=List.count_eq_zero.2 h1;simp;omega
  ·simp [e];exact WV h2 t
include ct hw in
theorem aNA(hf:f.Ok){s0:CS}{Ds:List CD}{Hs:List CH}(hD:Ds.length<=mx)(hH:Hs.length<=mx)(oM:0<=c.deep)(hx:∀x∈Hs,x.eQ.length<=mx)
 (k0:nH p ro s0) (kD:∀d∈Ds,nH p ro d.d∧nH p ro d.u) (kH:∀x∈Hs,nH p ro x.body)   {cc:Int->Nat} (st:ST p lf cn cc) (hs:∀t,(cc t:Int)+1<=8192- lf):∃b dy c9,ay (au c9)=c9∧
 Ev Hy [J (bC 0 c),SF f [encS s0] (Ds.map cq) (Hs.map cA) A,K0 p lf,ah (bf ro),.ab 0 cn] (0,ak b::gk p ro dy c9)∧
 Ev Im [bL p ro c,SF f [encS s0] (Ds.map cq) (Hs.map cA) A,iI lf] (0,[iI (bif b then dy else-1)])∧(b=true->ST p dy c9 λt=>cc t+(f.Ts.count t+(sj Ds t+(j8 s0 t+si Hs t)))):=by
 have a1:=scC ct (c:=c) hf (L:=[encS s0]) (D:=Ds.map cq) (H:=Hs.map cA) (A:=A) (lf:=lf) st.pk;have r1:=scR ct (c:=c) hf (L:=[encS s0]) (D:=Ds.map cq) (H:=Hs.map cA) (A:=A);have C:∀r:UO,_->Ev Hy [J (bC 0 c),SF f [encS s0] (Ds.map cq) (Hs.map cA) A,K0 p lf,ah (bf ro),.ab 0 cn] r:=λr h=>by
  refine bz as7 ?_;rw [st.pk];refine aj a1 ?_;exact h
 have R:∀r:UO,_->Ev Im [bL p ro c,SF f [encS s0] (Ds.map cq) (Hs.map cA) A,iI lf] r:=λr h=>by
  refine bz azF (aj r1 ?_);exact h
 cases hb:sO p c f (Ds.map cq) (Hs.map cA)with
 |false=>
  exact ajt
 |true=>
  rw [hb]at C R;simp only [cg]at C R;have aM4:Hs.length<=16:=by
   unfold sO at hb;cases h:decide (256<ln (Ds.map cq))with
   |true=>rw [h]at hb;cases hb
   |false=>
    cases h2:decide (16<ln (Hs.map cA))with
    |true=>rw [h,h2]at hb;cases hb
    |false=>rw [dq]at h2;simp at h2;omega
  have KW:jK f.Ts (bx (c.task+1)) (bx (ln (p.tasks.map cE)- 1))=true:=by
   unfold sO at hb;cases h:decide (256<ln (Ds.map cq))with
   |true=>rw [h]at hb;cases hb
   |false=>
    cases h2:decide (16<ln (Hs.map cA))with
    |true=>rw [h,h2]at hb;cases hb
    |false=>rw [h,h2]at hb;exact hb
  have AW:=aAt KW;obtain⟨Sy,h1,e1⟩:=aNv (p:=p) (ro:=ro) (w:=c) hf.Ts (lf:=lf) ⟨st.pk,st.rep⟩ (c:=cc) λt=>by
   have:=WV AW t;have:=hs t;have:=st.lo;omega
  have trg:∀t∈f.Ts,1<=t∧t<(p.tasks.length:Int):=λt ht=>by
   have h1:=agx KW t ht;have h2:=jf.1 hw.dJ.task;have h3:=ct.aEJ;rw [dq,jv (by omega) (by omega),jv (by omega) (by omega)]at h1;omega
  have cY:ST p lf Sy λt=>cc t+f.Ts.count t:=⟨h1.pk,h1.rep,λt=>by
   have:=WV AW t;have:=hs t;omega,st.lo,st.hi,λt ht=>by
    by_cases h0:cc t=0
    ·exact trg t (List.count_pos_iff.1 (by omega))
    ·exact st.jj t h0⟩
  have a14:bM Ty [K0 p lf,ah (bf ro),.ab 0 cn,J (bC 0 c),SF f [encS s0] (Ds.map cq) (Hs.map cA) A] (0,[K0 p lf,ah (bf ro),.ab 0 Sy,J (bC 0 c),SF f [encS s0] (Ds.map cq) (Hs.map cA) A]):=by
   refine bU aqQ ?_;rw [st.pk];refine aj e1.diag (af ?_);erw [h1.pk];rfl
  have l0:∀(w:WH),(([]:cT).length :Int)<=c.deep:=λ_=>by simpa using oM
  have wd:WI p {iW c with jy:=true}:=hw.of rfl (.inl (pa)) rfl (l0 c) hw.l2 hw.l3 hw.l5 rfl;have wu:WI p {iW c with iC:=true}:=hw.of rfl (.inl (pa)) rfl (l0 c) hw.l2 hw.l3 hw.l5 rfl;obtain⟨b,l2,c2,jb,e2,f2,g2⟩:=aEy (c:=c) wd wu (f:=f) (L:=[encS s0]) (H:=Hs.map cA) (A:=A) hD kD lf Sy _ cY;have C2:∀r:UO,_->Ev Hy [J (bC 0 c),SF f [encS s0] (Ds.map cq) (Hs.map cA) A,K0 p lf,ah (bf ro),.ab 0 cn] r:=λr h=>by
   refine C r (aX ?_);erw [st.pk];refine aj a14 ?_;erw [h1.pk];refine aj (Rg (w:=c) h1.pk) ?_;erw [h1.pk];refine aj (Rg (w:=c) h1.pk) ?_;erw [h1.pk];have u9:bM Tl [K0 p lf,ah (bf ro),.ab 0 Sy,SF f [encS s0] (Ds.map cq) (Hs.map cA) A,J (bC 0 {iW c with jy:=true}),J (bC 0 {iW c with iC:=true})]
    (bif b then(0,[K0 p l2,ah (bf ro),.ab 0 c2,SF f [encS s0] (Ds.map cq) (Hs.map cA) A,J (bC 0 {iW c with jy:=true}),J (bC 0 {iW c with iC:=true})])else(1,[aq,K0 p l2,ah (bf ro),.ab 0 c2,SF f [encS s0] (Ds.map cq) (Hs.map cA) A,J (bC 0 {iW c with jy:=true}),J (bC 0 {iW c with iC:=true})])):=by
    refine bU aqj ?_;rw [h1.pk];refine aj e2.diag ?_;cases b with
    |false=>refine aX (af ?_);erw [jb];rfl
    |true=>refine bj (af ?_);erw [jb];rfl
   refine aj u9 ?_;exact h
  have fa:bM VD [iI lf,bL p ro c,SF f [encS s0] (Ds.map cq) (Hs.map cA) A] (0,[iI (bif b then l2 else-1),bL p ro c,SF f [encS s0] (Ds.map cq) (Hs.map cA) A]):=
   bU axd (aj f2.diag aL)
  have R2:∀r:UO,_->Ev Im [bL p ro c,SF f [encS s0] (Ds.map cq) (Hs.map cA) A,iI lf] r:=λr h=>by
   refine R r (aX (aj fa ?_));exact h
  have wq:WI p (rq c):=hw.of rfl (.inl (pa)) rfl hw.l1 hw.l2 hw.l3 hw.l5 rfl;have wh:WI p {rq c with xJ:=true}:=hw.of rfl (.inl (pa)) rfl hw.l1 hw.l2 hw.l3 hw.l5 rfl;have rlo:∀{n:Int},n<0->bM Nd [iI n,bL p ro (rq c),SF f [encS s0] (Ds.map cq) (Hs.map cA) A] (0,[iI n,bL p ro (rq c),SF f [encS s0] (Ds.map cq) (Hs.map cA) A]):=λ{n} h=>
   bU adv (aC (c:=decide (0<=n)) (lJ) aL)
  have rhe:∀{n:Int},n<0->bP zm [iI n,iI 0,bL p ro {rq c with xJ:=true},SF f [encS s0] (Ds.map cq) (Hs.map cA) A,aa (([]:aZ))] (1,[iI n,bL p ro {rq c with xJ:=true},SF f [encS s0] (Ds.map cq) (Hs.map cA) A]):=λ{n} h=>by
   have j0:bM HP [iI n,iI 0,SF f [encS s0] (Ds.map cq) (Hs.map cA) A] (1,[SF f [encS s0] (Ds.map cq) (Hs.map cA) A]):=by
    refine bU Ux (av (c:=decide ((0:Int)<ln (Hs.map cA))) (λa=>aC (c:=decide (0<=n)) (lJ) aL) λa=>aL)
   exact bF Uu (aj j0 (bj aL))
  cases b with
  |false=>
   refine⟨false,l2,c2,jb,C2 _ (bj (af ?_)),R2 _ (aj (rlo (pa)) (aj (rhe (pa)).diag (bj aL))),λh=>bh⟩;erw [jb];rfl
  |true=>
   have ke:=g2 rfl;obtain⟨b,l3,c3,AJ,e3,f3,g3⟩:=k0 (rq c) wq l2 c2 _ ke;have u0:dv (gA [encS s0] 0)=encS s0:=fE s0;have r62:bM Nd [iI l2,bL p ro (rq c),SF f [encS s0] (Ds.map cq) (Hs.map cA) A] (0,[iI (bif b then l3 else-1),bL p ro (rq c),SF f [encS s0] (Ds.map cq) (Hs.map cA) A]):=by
    refine bU adv (bu (c:=decide (0<=l2)) (by simpa using ke.lo) (aH rfl ?_));rw [<-u0]at f3;exact aj f3 aL
   have e3':Ev jZ [J (bC 0 (rq c)),J (dv (gA [encS s0] 0)),K0 p l2,ah (bf ro),.ab 0 c2] (0,ak b::gk p ro l3 c3):=by rw [u0];exact e3
   cases b with
   |false=>
    refine⟨false,l3,c3,AJ,C2 _ (aX (aH rfl ?_)),R2 _ (aj r62 (aj (rhe (pa)).diag (bj aL))),λh=>bh⟩;erw [jb];refine aj e3' (aX (af ?_));erw [AJ];rfl
   |true=>
    have st3:=g3 rfl;obtain⟨b,l4,c4,sm,pk4,e4,⟨q,l,f4⟩,g4⟩:=aEx (p:=p) (ro:=ro) ct.eQ wh (f:=f) (L:=[encS s0]) (D:=Ds.map cq) (A:=A) hH aM4 hx kH l3 c3 _ st3;refine⟨b,l4,c4,pk4,C2 _ (aX (aH rfl ?_)),R2 _ (aj r62 (aj f4.diag ?_)),λh=>(g4 h).ext λt=>by omega⟩
    ·erw [jb];refine aj e3' (bj ?_);erw [AJ];refine aj e4.diag ?_;cases b with
     |false=>refine aX (af ?_);erw [pk4];rfl
     |true=>refine bj (af ?_);erw [pk4];rfl
    ·exact av (λ_=>aL) λ_=>aL
end
end
end Go.Proofs.YtomkobcipaligaaGreatDoor
namespace Go.az
def PM{p:Prop}(h:p:=by unfold na nt ne' dA;rw [h];rfl):p:=h
def aht{p:Prop}(h:p:=by show(!(x.entry==0))=false;rw [h3];rfl):p:=h
def ahn{p:Prop}(h:p:=by show(!(x.entry==0))=true;rw [h3];rfl):p:=h
end Go.az
namespace Go.Proofs.YtomkobcipaligaaGreatDoor
open Go Go.az
section
variable{k:Int}{l:List CE}{a e t:Nat}{mm:aZ}
def yV(k:Int):Bool:=bif k==2 then true else k==3
def kk(k:Int):Int:=bif yV k then 2 else k
def dA(c:WH)(x:CA):WH:=bif x.kind==1 then vg c x.entry else c
def na(k:Int)(a:Nat):Nat:=if k=1 then a+1 else a
def ne'(k:Int)(e:Nat):Nat:=if k=4 then e+1 else e
def nt(k:Int)(t:Nat):Nat:=if k=1∨k=4 then t else t+1
def cur(k:Int)(a t e:Nat):Nat:=if k=1 then a else if k=4 then e else t
structure CM(mm:aZ)(a t e:Nat):Prop where
 pk:ay (au mm)=mm
 f1:dM (au mm) (bE 1)=if a=0 then none else some (iI (a:Int))
 f2:dM (au mm) (bE 2)=if t=0 then none else some (iI (t:Int))
 f4:dM (au mm) (bE 4)=if e=0 then none else some (iI (e:Int))
theorem CM.look(h:CM mm a t e)(hk:k=1∨k=2∨k=3∨k=4):dM (au mm) (bE (kk k))=if cur k a t e=0 then none else some (iI (cur k a t e:Int)):=by
 rcases hk with rfl|rfl|rfl|rfl
 ·exact h.f1
 ·exact h.f2
 ·exact h.f2
 ·exact h.f4
theorem CM.put(h:CM mm a t e)(hk:k=1∨k=2∨k=3∨k=4):CM (ay (iK (au mm) (bE (kk k)) (iI ((cur k a t e+1:Nat):Int)))) (na k a) (nt k t) (ne' k e):=by
 rcases hk with rfl|rfl|rfl|rfl
 ·refine⟨xO,?_,?_,?_⟩<;>rw [rZ,BD]<;>first|exact h.f2|exact h.f4|rfl
 ·refine⟨xO,?_,?_,?_⟩<;>rw [rZ,BD]<;>first|exact h.f1|exact h.f4|rfl
 ·refine⟨xO,?_,?_,?_⟩<;>rw [rZ,BD]<;>first|exact h.f1|exact h.f4|rfl
 ·refine⟨xO,?_,?_,?_⟩<;>rw [rZ,BD]<;>first|exact h.f1|exact h.f2|rfl
section
variable {p:PG} {ro:List RO} (ct:CT p ro) {c:WH} (hw:c.Ok) {cn:aZ} (hc:ay (au cn)=cn) {lf:Int} (hE:ml)
theorem aMw:(ln (l.map aU) != 1)= !(ln (l.map aU)==1):=rfl
theorem gt0:decide (0<ln (l.map aU))= !(ln (l.map aU)==0):=by rw [dq];cases l<;>simp;omega
abbrev A0(x:CA):AV:= J (cw x)
include ct hw hc hE in
theorem aNG(x:CA)(hx:x.qn):∃b,
 bM A6 [bE x.kind,K0 p lf,ah (bf ro),.ab 0 cn,J (bC 0 c),A0 x,J (bC 0 c)]
  (bif b then(0,[bE (kk x.kind),K0 p lf,ah (bf ro),.ab 0 cn,J (bC 0 c),A0 x,J (bC 0 (dA c x))])else(1,[aq,K0 p lf,ah (bf ro),.ab 0 cn,J (bC 0 c),A0 x,J (bC 0 c)]))∧
 (∀bc,Ev Bb [bL p ro c,J (aU x.guard)] (0,[ak bc])->Ev LW [bL p ro c,A0 x] (0,[ak (bc&&b)]))∧
 (b=true->(x.kind=1∨x.kind=2∨x.kind=3∨x.kind=4)∧(x.kind=1->jh p c.task x.entry=true)):=by
 have hr:∀b,E (λN _=>bif gI (cw x) 0==1 then bif ln (gR (cw x) 11)==0 then bO (FU CX EE N Er [bL p ro c,iI (gI (cw x) 10)]) λ_ o2=>some (0,[ak (gB o2 0)])else some (0,[aq])else bO (Hj (FU CX EE N) N [bE (gI (cw x) 0)]) λ_ o3=>bif gB o3 0 then bif gI (cw x) 10==0 then bif ln (gR (cw x) 11)==1 then aP (decide (0<ln (gR (cw x) 11)))<|bO (FU CX EE N xq [bL p ro c,J (nz (gA (gR (cw x) 11) 0))]) λ_ o4=>bif gB o4 0 then bO (FU CX EE N mX [J (cO dD 12 (cw x)),J rD]) λ_ o5=>some (0,[ak (gB o5 0)])else some (0,[aq])else some (0,[aq])else some (0,[aq])else bif gI (cw x) 0==4 then bif gI (cw x) 10==0 then bif ln (gR (cw x) 11)==0 then bO (FU CX EE N mX [J (cO dD 12 (cw x)),J rD]) λ_ o6=>bif gB o6 0 then bO (FU CX EE N mX [J (cO dD 33 (cw x)),J rD]) λ_ o7=>some (0,[ak (gB o7 0)])else some (0,[aq])else some (0,[aq])else some (0,[aq])else some (0,[aq])) (0,[ak b])->
  ∀bc,Ev Bb [bL p ro c,J (aU x.guard)] (0,[ak bc])->Ev LW [bL p ro c,A0 x] (0,[ak (bc&&b)]):=λb h bc anS=>by
  refine bz aqV ?_;rw [<-alv]at anS;refine aj anS ?_;cases bc with
  |false=>exact mG
  |true=>exact bj h
 suffices hs:∃b,bM A6 [bE x.kind,K0 p lf,ah (bf ro),.ab 0 cn,J (bC 0 c),A0 x,J (bC 0 c)]
  (bif b then(0,[bE (kk x.kind),K0 p lf,ah (bf ro),.ab 0 cn,J (bC 0 c),A0 x,J (bC 0 (dA c x))])else(1,[aq,K0 p lf,ah (bf ro),.ab 0 cn,J (bC 0 c),A0 x,J (bC 0 c)]))∧
  E (λN _=>bif x.kind==1 then bif ln (x.E.map aU)==0 then bO (FU CX EE N Er [bL p ro c,iI x.entry]) λ_ o2=>some (0,[ak (gB o2 0)])else some (0,[aq])else bO (Hj (FU CX EE N) N [bE x.kind]) λ_ o3=>bif gB o3 0 then bif x.entry==0 then bif ln (x.E.map aU)==1 then aP (decide (0<ln (x.E.map aU)))<|bO (FU CX EE N xq [bL p ro c,J (nz (gA (x.E.map aU) 0))]) λ_ o4=>bif gB o4 0 then bO (FU CX EE N mX [J (encS x.body),J rD]) λ_ o5=>some (0,[ak (gB o5 0)])else some (0,[aq])else some (0,[aq])else some (0,[aq])else bif x.kind==4 then bif x.entry==0 then bif ln (x.E.map aU)==0 then bO (FU CX EE N mX [J (encS x.body),J rD]) λ_ o6=>bif gB o6 0 then bO (FU CX EE N mX [J (encS x.after),J rD]) λ_ o7=>some (0,[ak (gB o7 0)])else some (0,[aq])else some (0,[aq])else some (0,[aq])else some (0,[aq])) (0,[ak b])∧
  (b=true->(x.kind=1∨x.kind=2∨x.kind=3∨x.kind=4)∧(x.kind=1->jh p c.task x.entry=true))by
  obtain⟨b,h1,h2,h3⟩:=hs;refine⟨b,h1,hr b ?_,h3⟩;rw [aaI,aaH,an3,F8,F9];exact h2
 have j9:bM SY [bE x.kind,K0 p lf,ah (bf ro),.ab 0 cn] (0,ak (yV x.kind)::gk p ro lf cn):=by
  refine bU apj ?_;rw [hc];refine av (c:=x.kind==2) (λh=>af ?_) λh=>af ?_
  ·unfold yV;rw [h];rfl
  ·unfold yV;rw [h];rfl
 have r9:bM Hj [bE x.kind] (0,[ak (yV x.kind)]):=by
  refine bU apz (av (c:=x.kind==2) (λh=>af ?_) λh=>af ?_)
  ·unfold yV;rw [h];rfl
  ·unfold yV;rw [h];rfl
 have C:∀r:UO,_->bM A6 [bE x.kind,K0 p lf,ah (bf ro),.ab 0 cn,J (bC 0 c),A0 x,J (bC 0 c)] r:=λr h=>by
  refine bU aps ?_;rw [hc,aaH,an3,ZM,F8,F9,aMw,gt0];exact h
 by_cases h1:(x.kind==1)=true
 ·cases hl:ln (x.E.map aU)==0 with
  |false=>
   rw [hl]at C;exact⟨false,C _ (bu h1 (aX aL)),bu h1 (bj aL),λh=>bh⟩
  |true=>
   rw [hl]at C;refine⟨tU p c x.entry,C _ (bu h1 (bj (aj (am8 (lf:=lf) hw hc x.entry) ?_))),bu h1 (aX (aj (Z9 hw x.entry) aL)),λh=>⟨.inl (eq_of_beq h1),λ_=>by unfold tU at h;rw [bS]at h;exact h.1⟩⟩;erw [hc];cases ho:tU p c x.entry with
   |false=>exact mG
   |true=>
    refine bj (aj (aof (lf:=lf) hw hc x.entry) (af ?_));erw [hc];have hd:dA c x=vg c x.entry:=by unfold dA;rw [h1];rfl
    have lU:kk x.kind=x.kind:=Ye;rw [hd,lU];rfl
 ·have h1:(x.kind==1)=false:=by simpa using h1
  have hd:dA c x=c:=by unfold dA;rw [h1];rfl
  cases h2:yV x.kind with
  |true=>
   rw [h2]at j9 r9;have lU:kk x.kind=2:=by unfold kk;rw [h2];rfl
   have C2:∀r:UO,_->bM A6 [bE x.kind,K0 p lf,ah (bf ro),.ab 0 cn,J (bC 0 c),A0 x,J (bC 0 c)] r:=λr h=>by
    refine C r (aC h1 (aj j9 (aX ?_)));exact Ft
   cases h3:x.entry==0 with
   |false=>
    refine⟨false,C2 _ (bu (c:=x.entry != 0) (ahn) aL),aC h1 (aj r9 (aX (bj aL))),λh=>bh⟩
   |true=>
    have A2:(x.entry != 0)=false:=aht;cases hl:ln (x.E.map aU)==1 with
    |false=>
     rw [hl]at C2;refine⟨false,C2 _ (aC A2 (aX aL)),aC h1 (aj r9 (aX (aX (bj aL)))),λh=>bh⟩
    |true=>
     rw [hl]at C2;obtain⟨e,he⟩:=wE (eq_of_beq hl);have hg:decide (0<ln (x.E.map aU))=true:=Yd;have jo:(!(ln (x.E.map aU)==0))=true:=Yd;obtain⟨b,b1,b2⟩:=J5 ct hw hc (lf:=lf) hE e (hx.E.2 e (uO));rw [<-wy e,<-he]at b1 b2;cases b with
     |false=>
      refine⟨false,C2 _ (aC A2 (bj (aH jo (aj b1 (aX (af ?_)))))),aC h1 (aj r9 (aX (aX (aX (aH hg (aj b2 (bj aL))))))),λh=>bh⟩;exact j5
     |true=>
      refine⟨nL x.body,C2 _ (aC A2 (bj (aH jo (aj b1 (bj (aj (Ci x.body) ?_)))))),aC h1 (aj r9 (aX (aX (aX (aH hg (aj b2 (aX (aj (Cf x.body) aL)))))))),λ_=>⟨?_,λh=>by rw [h]at h1;cases h1⟩⟩
      ·cases nL x.body with
       |false=>exact PH
       |true=>refine bj (af ?_);erw [hc];rw [lU,hd];rfl
      ·unfold yV at h2;cases h:x.kind==2 with
       |true=>exact .inr (.inl (eq_of_beq h))
       |false=>rw [h]at h2;exact .inr (.inr (.inl (eq_of_beq h2)))
  |false=>
   rw [h2]at j9 r9;have lU:kk x.kind=x.kind:=by unfold kk;rw [h2];rfl
   have C2:∀r:UO,_->bM A6 [bE x.kind,K0 p lf,ah (bf ro),.ab 0 cn,J (bC 0 c),A0 x,J (bC 0 c)] r:=λr h=>by
    refine C r (aC h1 (aj j9 (bj ?_)));exact Ft
   cases h4:x.kind==4 with
   |false=>exact⟨false,C2 _ (aC h4 aL),aC h1 (aj r9 (bj (bj aL))),λh=>bh⟩
   |true=>
    cases h3:x.entry==0 with
    |false=>
     refine⟨false,C2 _ (bu h4 (bu (c:=x.entry != 0) (ahn) aL)),aC h1 (aj r9 (bj (aX (bj aL)))),λh=>bh⟩
    |true=>
     have A2:(x.entry != 0)=false:=aht;cases hl:ln (x.E.map aU)==0 with
     |false=>
      rw [hl]at C2;refine⟨false,C2 _ (bu h4 (aC A2 (aX aL))),aC h1 (aj r9 (bj (aX (aX (bj aL))))),λh=>bh⟩
     |true=>
      rw [hl]at C2;cases hb:nL x.body with
      |false=>
       have n1:=Ci x.body;have m1:=Cf x.body;rw [hb]at n1 m1;exact⟨false,C2 _ (bu h4 (aC A2 (bj (aj n1 (aX aL))))),aC h1 (aj r9 (bj (aX (aX (aX (aj m1 (bj aL))))))),λh=>bh⟩
      |true=>
       have n1:=Ci x.body;have m1:=Cf x.body;rw [hb]at n1 m1;refine⟨nL x.after,C2 _ (bu h4 (aC A2 (bj (aj n1 (bj (aj (Ci x.after) ?_)))))),aC h1 (aj r9 (bj (aX (aX (aX (aj m1 (aX (aj (Cf x.after) aL)))))))),λ_=>⟨.inr (.inr (.inr (eq_of_beq h4))),λh=>by rw [h]at h1;cases h1⟩⟩;cases nL x.after with
       |false=>exact mG
       |true=>refine bj (af ?_);rw [lU,hd];rfl
include hw in
theorem aNF(x:CA)(hk:x.kind=1∨x.kind=2∨x.kind=3∨x.kind=4)(ha:a<=mx)(ht:t<=mx)(he:e<=mx):
 bM T1 [iI (a:Int),iI (t:Int),iI (e:Int),bL p ro c,A0 x,bL p ro c] (0,[iI (na x.kind a:Int),iI (nt x.kind t:Int),iI (ne' x.kind e:Int),bL p ro c,A0 x,bL p ro (dA c x)]):=by
 have w1:∀{n:Nat},n<=mx->bx ((n:Int)+1)=((n+1:Nat):Int):=λ{n} h=>by simp only [mx]at h;rw [jv (by omega) (by omega)];omega
 refine bU ar6 ?_;rw [aaI,aaH,ZM,w1 ha,w1 ht,w1 he];rcases hk with h|h|h|h
 ·have h1:(x.kind==1)=true:=by rw [h];rfl
  refine bu h1 (aj (aoe (p:=p) (ro:=ro) hw x.entry) (af ?_));exact PM
 ·exact aC (fY) (aC (fY) (af (PM)))
 ·exact aC (fY) (aC (fY) (af (PM)))
 ·exact aC (fY) (bu (fY) (af (PM)))
end
end
end Go.Proofs.YtomkobcipaligaaGreatDoor
namespace Go.az
def PC{p:Prop}(h:p:=by rw [rZ];rfl):p:=h
end Go.az
namespace Go.Proofs.YtomkobcipaligaaGreatDoor
open Go Go.az
section
variable{As:List CA}{i:Nat}
section
variable {p:PG} {ro:List RO}
def XV(h:i<As.length):xr (gA (As.map cw) ((i:Int).toNat))=cw As[i]:=by rw [fM h,ZM]
def aCc(h:i<As.length):cO Bx 1 (gA (As.map cw) ((i:Int).toNat))=aU As[i].guard :=by rw [fM h,alv]
def ajT(h:i<As.length):gI (gA (As.map cw) ((i:Int).toNat)) 0=As[i].kind :=by rw [fM h,aaI]
def Ku(p:PG)(ro:List RO)(c:WH)(S:AV)(b:Bool)(dy:Int)(sQ:aZ)(o:UO):Prop:=
 if b=true then∃a t e:Nat,CM sQ a t e∧a+t+e<=mx∧o=(1,[iI dy,iI (a:Int),iI (t:Int),iI (e:Int),bL p ro c,S])
 else o=(0,[iI (-1),bL p ro c,S])∨∃a t e:Int,o=(1,[iI (-1),iI a,iI t,iI e,bL p ro c,S])
def aEz(ct:CT p ro)(hE:ml){c:WH}(hw:WI p c)(h3:(c.kE.length:Int)+1<=c.deep){f:dH}{L D H:aZ}(hl:As.length<=mx)(hx:∀x∈As,x.qn)(hk:∀x∈As,nH p ro x.body∧nH p ro x.after):
 ∀lf cn cc,ST p lf cn cc->∃b dy c9 sQ,ay (au c9)=c9∧ay (au sQ)=sQ∧
  bP xl [cQ (As.map cw),iI (ln (As.map cw)),iI 0,K0 p lf,ah (bf ro),.ab 0 cn,J (bC 0 c),.ab 0 (ay [])]
   (bif b then(1,[K0 p dy,ah (bf ro),.ab 0 c9,J (bC 0 c),.ab 0 sQ])else(0,[aq,K0 p dy,ah (bf ro),.ab 0 c9,J (bC 0 c),.ab 0 sQ]))∧
  (∃o,bP tx [iI lf,iI 0,iI 0,iI 0,iI 0,bL p ro c,SF f L D H (As.map cw)] o∧Ku p ro c (SF f L D H (As.map cw)) b dy sQ o)∧(b=true->ST p dy c9 λt=>cc t+sk As t):=by
 have hwo:=hw.ok;have pY:∀{i:Nat} {n a t e:Int},i=As.length∨n<0->bP tx [iI n,iI a,iI t,iI e,iI (i:Int),bL p ro c,SF f L D H (As.map cw)] (1,[iI n,iI a,iI t,iI e,bL p ro c,SF f L D H (As.map cw)]):=λ{i n a t e} h=>by
  have j0:bM HH [iI n,iI (i:Int),SF f L D H (As.map cw)] (1,[SF f L D H (As.map cw)]):=by
   refine bU Ue (av (c:=decide ((i:Int)<ln (As.map cw))) (λa=>av (c:=decide (0<=n)) (λb=> ?_) λb=>aL) λa=>aL);exact Qj
  exact bF Uv (aj j0 (bj aL))
 have k:=fD (m:=As.length) (P:=λi=>∀lf cn cc,ST p lf cn cc->∀mm (a t e:Nat),CM mm a t e->a+t+e=i->∃b dy c9 sQ,ay (au c9)=c9∧ay (au sQ)=sQ∧
  bP xl [cQ (As.map cw),iI (ln (As.map cw)),iI (i:Int),K0 p lf,ah (bf ro),.ab 0 cn,J (bC 0 c),.ab 0 mm]
   (bif b then(1,[K0 p dy,ah (bf ro),.ab 0 c9,J (bC 0 c),.ab 0 sQ])else(0,[aq,K0 p dy,ah (bf ro),.ab 0 c9,J (bC 0 c),.ab 0 sQ]))∧
  (∃o,bP tx [iI lf,iI (a:Int),iI (t:Int),iI (e:Int),iI (i:Int),bL p ro c,SF f L D H (As.map cw)] o∧Ku p ro c (SF f L D H (As.map cw)) b dy sQ o)∧(b=true->ST p dy c9 λt=>cc t+sk (As.drop i) t))
  (λlf cn cc st mm a t e hm hs=>⟨true,lf,cn,mm,st.pk,hm.pk,bF abx (aC dU (af (by rw [st.pk,hm.pk];rfl))),⟨_,pY (.inl rfl),by unfold Ku;rw [if_pos rfl];exact⟨a,t,e,hm,by omega,rfl⟩⟩,λ_=>st.ext λt=>by rw [gp];simp [sk]⟩)
  λi hi ih lf cn cc st mm a t e hm hs=>by
   have iy:=dO hi;have eA:A0 As[i]= J (xr (gA (As.map cw) ((i:Int).toNat))):=by rw [XV hi]
   obtain⟨bc,q1,q2⟩:=Zy ct hwo st.pk (lf:=lf) hE As[i].guard (hx _ iy).guard;obtain⟨b,a1,a2,a3⟩:=aNG ct hwo st.pk (lf:=lf) hE As[i] (hx _ iy);have a2:=a2 bc q2;rw [<-aCc hi]at q1;have j0:bM HH [iI lf,iI (i:Int),SF f L D H (As.map cw)] (0,[SF f L D H (As.map cw)]):=
    bU Ue (bu (dr (f:=cw) hi) (bu (PA) aL))
   have C:∀r:UO,_->bP xl [cQ (As.map cw),iI (ln (As.map cw)),iI (i:Int),K0 p lf,ah (bf ro),.ab 0 cn,J (bC 0 c),.ab 0 mm] r:=λr h=>by
    refine bF abx (bu (dr hi) (aH (cH hi) ?_));rw [st.pk,hm.pk];refine aj q1 ?_;exact h
   have R:∀r:UO,_->bP tx [iI lf,iI (a:Int),iI (t:Int),iI (e:Int),iI (i:Int),bL p ro c,SF f L D H (As.map cw)] r:=λr h=>by
    refine bF Uv (aj j0 (aX (aH (cH (f:=cw) hi) ?_)));have a2':=a2;rw [eA]at a2';refine aj a2' ?_;exact h
   cases bc with
   |false=>
    refine⟨false,lf,cn,mm,st.pk,hm.pk,C _ (aX (af ?_)),⟨_,R _ (aX aL),.inl rfl⟩,λh=>bh⟩;erw [st.pk];rfl
   |true=>
    rw [eA,<-ajT hi]at a1;cases b with
    |false=>
     refine⟨false,lf,cn,mm,st.pk,hm.pk,C _ (bj ?_),⟨_,R _ (aX aL),.inl rfl⟩,λh=>bh⟩;erw [st.pk];refine aj a1 (bj (af ?_));erw [st.pk];rfl
    |true=>
     obtain⟨nu,aM6⟩:=a3 rfl;have hm2:=hm.put nu;have hcu:=hm.look nu;have r1:=aNF (p:=p) (ro:=ro) hwo As[i] (a:=a) (t:=t) (e:=e) nu (by omega) (by omega) (by omega);rw [eA]at r1;have anB:na As[i].kind a+nt As[i].kind t+ne' As[i].kind e=i+1:=by
      unfold na nt ne';rcases nu with h|h|h|h<;>rw [h]<;>simp<;>omega
     have wd:WI p (dA c As[i]):=by
      unfold dA;cases h1:As[i].kind ==1 with
      |false=>exact hw
      |true=>
       have oM:(0:Int)<=c.deep:=by have:=hw.l1;omega
       refine⟨⟨.inr (aM6 (eq_of_beq h1)),hw.dJ.act,hw.dJ.task⟩,?_,hw.l2,?_,hw.l4,hw.l5,hw.d⟩
       ·simpa [vg,iW]using oM
       ·simpa [vg,iW]using h3
     obtain⟨ho,hv⟩:=hk _ iy;obtain⟨b,l1,c1,iz,e1,f1,g1⟩:=ho _ wd lf cn cc st;have ub:encS As[i].body =cO dD 12 (xr (gA (As.map cw) ((i:Int).toNat))):=by rw [XV hi,F8]
     have ua:encS As[i].after =cO dD 33 (xr (gA (As.map cw) ((i:Int).toNat))):=by rw [XV hi,F9]
     rw [ub]at e1 f1;have hY:∃AL:aZ,CM AL (na As[i].kind a) (nt As[i].kind t) (ne' As[i].kind e)∧(∀r:UO,E (λN m=>bO (FU CX EE N jZ [J (bC 0 (dA c As[i])),J (cO dD 12 (xr (gA (As.map cw) ((i:Int).toNat)))),K0 p lf,ah (bf ro),.ab 0 cn]) λ_ c7=>bif !(gB c7 0)then some (0,[aq,J (sT (aF (gC c7 1)) aM),ah (gR c7 2),.ab 0 (ay (au (gR c7 3))),J (bC 0 c),.ab 0 AL])else bO (FU CX EE N jZ [J (bC 0 c),J (cO dD 33 (xr (gA (As.map cw) ((i:Int).toNat)))),J (sT (aF (gC c7 1)) aM),ah (gR c7 2),.ab 0 (ay (au (gR c7 3)))]) λ_ dh=>bif !(gB dh 0)then some (0,[aq,J (sT (aF (gC dh 1)) aM),ah (gR dh 2),.ab 0 (ay (au (gR dh 3))),J (bC 0 c),.ab 0 AL])else xl (FU CX EE N) N m [cQ (As.map cw),iI (ln (As.map cw)),iI (bx ((i:Int)+1)),J (sT (aF (gC dh 1)) aM),ah (gR dh 2),.ab 0 (ay (au (gR dh 3))),J (bC 0 c),.ab 0 AL]) r->
      bP xl [cQ (As.map cw),iI (ln (As.map cw)),iI (i:Int),K0 p lf,ah (bf ro),.ab 0 cn,J (bC 0 c),.ab 0 mm] r):=by
      refine⟨_,hm2,λr h=>C r (bj ?_)⟩;erw [st.pk];refine aj a1 (aX ?_);show E (λN m=>match dM (au mm) (bE (kk (gI (gA (As.map cw) ((i:Int).toNat)) 0)))with|some Dn=>_|none=>_) r;rw [ajT hi,hcu]
      by_cases h0:cur As[i].kind a t e=0
      ·rw [if_pos h0];rw [h0]at h;erw [st.pk];exact h
      ·rw [if_neg h0];have eL:cur As[i].kind a t e<=mx:=by
        unfold cur;split
        ·omega
        ·split<;>omega
       have:bx ((iI ((cur As[i].kind a t e:Nat):Int)).toI +1)=((cur As[i].kind a t e+1:Nat):Int):=by
        show bx (((cur As[i].kind a t e:Nat):Int)+1)=_;simp only [mx]at eL;exact uX
       rw [<-this]at h;erw [st.pk];exact h
     obtain⟨AL,Ll,CC⟩:=hY;have RR:∀r:UO,E (λN m=>bif decide (0<=(bif b then l1 else-1))then bO (FU CX EE N pO [bL p ro c,J (cO dD 33 (xr (gA (As.map cw) ((i:Int).toNat)))),iI (bif b then l1 else-1)]) λ_ o9=>tx (FU CX EE N) N m [iI (gI o9 0),iI (na As[i].kind a:Int),iI (nt As[i].kind t:Int),iI (ne' As[i].kind e:Int),iI (bx ((i:Int)+1)),bL p ro c,SF f L D H (As.map cw)]else tx (FU CX EE N) N m [iI (bif b then l1 else-1),iI (na As[i].kind a:Int),iI (nt As[i].kind t:Int),iI (ne' As[i].kind e:Int),iI (bx ((i:Int)+1)),bL p ro c,SF f L D H (As.map cw)]) r->
      bP tx [iI lf,iI (a:Int),iI (t:Int),iI (e:Int),iI (i:Int),bL p ro c,SF f L D H (As.map cw)] r:=λr h=>by
      refine R r (bj (aj r1 (aj f1 ?_)));exact h
     rw [ix hi hl]at CC RR;cases b with
     |false=>
      refine⟨false,l1,c1,AL,iz,Ll.pk,CC _ (aj e1 (aX (af ?_))),⟨_,RR _ (bj (pY (.inr (pa)))),.inr ⟨_,_,_,rfl⟩⟩,λh=>bh⟩;erw [iz];rfl
     |true=>
      have cY:=g1 rfl;obtain⟨b,l2,c2,jb,e2,f2,g2⟩:=hv _ hw l1 c1 _ cY;rw [ua]at e2 f2;cases b with
      |false=>
       refine⟨false,l2,c2,AL,jb,Ll.pk,CC _ (aj e1 (bj ?_)),⟨_,RR _ (bu (by simpa using cY.lo) (aj f2 (pY (.inr (pa))))),.inr ⟨_,_,_,rfl⟩⟩,λh=>bh⟩;erw [iz];refine aj e2 (aX (af ?_));erw [jb];rfl
      |true=>
       obtain⟨b,l3,c3,m3,AJ,pm3,u1,⟨o,u2,u3⟩,u4⟩:=ih l2 c2 _ (g2 rfl) AL _ _ _ Ll anB;refine⟨b,l3,c3,m3,AJ,pm3,CC _ (aj e1 (bj ?_)),⟨o,RR _ (bu (by simpa using cY.lo) (aj f2 u2)),u3⟩,λh=>(u4 h).ext λt=> ?_⟩
       ·erw [iz];refine aj e2 (bj ?_);erw [jb];exact u1
       ·rw [gF hi];simp only [sk,agP];omega
 intro lf cn cc st;have:=k lf cn cc st (ay []) 0 0 0 ⟨xO,PC,PC,PC⟩ rfl;rw [gD]at this;exact this
end
end
end Go.Proofs.YtomkobcipaligaaGreatDoor
namespace Go.az
def X7{p:Prop}(h:p:=by
 refine aj e1 ?_;exact h):p:=h
end Go.az
namespace Go.az
def IA:=@Int.add_zero
end Go.az
namespace Go.Proofs.YtomkobcipaligaaGreatDoor
open Go Go.az
section
variable{els:Bool}{s0:CS}{f:dH}{lf x:Int}{a e t:Nat}{A D H cn mm:aZ}
section
variable {p:PG} {ro:List RO}
def tp(f:dH)(s0:CS)(A:aZ):Bool:=bif decide (ln A<1)then false else bif decide (16<ln A)then false else bif !f.els then nL s0 else true
def chC(hc:ay (au cn)=cn):
 bM Tx [K0 p lf,ah (bf ro),.ab 0 cn,SF f [encS s0] D H A]
  (bif tp f s0 A then(0,[K0 p lf,ah (bf ro),.ab 0 cn,SF f [encS s0] D H A])else(1,[aq,K0 p lf,ah (bf ro),.ab 0 cn,SF f [encS s0] D H A])):=by
 have u0:dv (gA [encS s0] 0)=encS s0:=fE s0;have n0:=Ci s0;rw [<-u0]at n0;refine bU aqP ?_;rw [hc];refine av (c:=decide (ln A<1)) (λa=>af (by unfold tp;rw [a];rfl)) λa=>av (c:=decide (16<ln A)) (λb=>af (by unfold tp;rw [a,b];rfl)) λb=>av (c:= !f.els) (λd=>aH rfl (aj n0 (av (c:= !nL s0) (λg=>af ?_) λg=>af ?_))) λd=>af ?_
 ·simp only [dT]at g;unfold tp;rw [a,b,d,g];rfl
 ·simp only [dF]at g;unfold tp;rw [a,b,d,g];rfl
 ·unfold tp;rw [a,b,d];rfl
def chR:
 bM VH [SF f [encS s0] D H A]
  (bif tp f s0 A then(0,[SF f [encS s0] D H A])else(1,[iI (-1),SF f [encS s0] D H A])):=by
 have u0:dv (gA [encS s0] 0)=encS s0:=fE s0;have n0:=Cf s0;rw [<-u0]at n0;refine bU axh ?_;refine av (c:=decide (ln A<1)) (λa=>af (by unfold tp;rw [a];rfl)) λa=>av (c:=decide (16<ln A)) (λb=>af (by unfold tp;rw [a,b];rfl)) λb=>av (c:= !f.els) (λd=>aH rfl (aj n0 (av (c:= !nL s0) (λg=>af ?_) λg=>af ?_))) λd=>af ?_
 ·simp only [dT]at g;unfold tp;rw [a,b,d,g];rfl
 ·simp only [dF]at g;unfold tp;rw [a,b,d,g];rfl
 ·unfold tp;rw [a,b,d];rfl
def tb(t:Nat):Int:=if t=0 then 0 else 1
def qc(els:Bool)(a t e:Nat):Bool:=decide (0<a)&&decide ((e:Int)+tb t+(bif els then 1 else 0)<=1)
def aEb(t:Nat):0<=tb t∧tb t<=1:=by unfold tb;split<;>omega
def anw(h0:0<=x)(h1:x<=mx)(hc:ay (au cn)=cn)(hm:CM mm a t e):
 bM LU [iI x,K0 p lf,ah (bf ro),.ab 0 cn,.ab 0 mm] (0,[iI (x+tb t),K0 p lf,ah (bf ro),.ab 0 cn,.ab 0 mm]):=by
 refine bU apZ ?_;rw [hc,hm.pk,hm.f2];have hx:bx (x+1)=x+1:=by simp only [mx]at h1;rw [jv (by omega) (by omega)]
 unfold tb
 by_cases h:t=0
 ·rw [if_pos h,if_pos h,IA];exact aL
 ·rw [if_neg h,if_neg h];refine bu (c:=decide (0<(iI (t:Int)).toI)) ?_ (af (by rw [hx];rfl));show decide (0<(t:Int))=true;exact eh
def an8(hc:ay (au cn)=cn)(hm:CM mm a t e)(hx:x=(e:Int)+tb t)(h0:e<=mx):
 E (λ_ _=>bif els then match dM (au mm) (bE 1)with|some KI=>(bif decide (0<KI.toI)then some (0,[ak (decide (bx (x+1)<=1)),K0 p lf,ah (bf ro),.ab 0 cn])else some (0,[aq,K0 p lf,ah (bf ro),.ab 0 cn]))|none=>(some (0,[aq,K0 p lf,ah (bf ro),.ab 0 cn]))else match dM (au mm) (bE 1)with|some KH=>(bif decide (0<KH.toI)then some (0,[ak (decide (x<=1)),K0 p lf,ah (bf ro),.ab 0 cn])else some (0,[aq,K0 p lf,ah (bf ro),.ab 0 cn]))|none=>(some (0,[aq,K0 p lf,ah (bf ro),.ab 0 cn])))
  (0,ak (qc els a t e)::gk p ro lf cn):=by
 have ht:=aEb t;rw [hm.f1]
 by_cases h:a=0
 ·rw [if_pos h];have:qc els a t e=false:=by unfold qc;rw [h];rfl
  rw [this];cases els<;>exact aL
 ·rw [if_neg h];have hd:decide (0<(iI (a:Int)).toI)=true:=by
   show decide (0<(a:Int))=true;exact eh
  have ha:decide (0<a)=true:=eh;simp only [mx]at h0;cases els with
  |true=>
   refine aX (bu hd (af ?_));have hw:bx (x+1)=(e:Int)+tb t+1:=by rw [jv (by omega) (by omega),hx]
   unfold qc;rw [ha,hw];rfl
  |false=>
   refine bj (bu hd (af ?_));unfold qc;rw [ha,hx,cC,IA];rfl
def aNo{n:Int}(h0:e<=mx):
 E (λ_ _=>bif decide (0<(t:Int))then bif els then bif (a:Int)==0 then some (0,[iI ((-1))])else bif decide (1<(e:Int))then some (0,[iI ((-1))])else bif decide (1<bx (2+(e:Int)))then some (0,[iI ((-1))])else some (0,[iI n])else bif (a:Int)==0 then some (0,[iI ((-1))])else bif decide (1<(e:Int))then some (0,[iI ((-1))])else bif decide (1<bx (1+(e:Int)))then some (0,[iI ((-1))])else some (0,[iI n])else bif els then bif (a:Int)==0 then some (0,[iI ((-1))])else bif decide (1<(e:Int))then some (0,[iI ((-1))])else bif decide (1<bx (1+(e:Int)))then some (0,[iI ((-1))])else some (0,[iI n])else bif (a:Int)==0 then some (0,[iI ((-1))])else bif decide (1<(e:Int))then some (0,[iI ((-1))])else bif decide (1<bx (0+(e:Int)))then some (0,[iI ((-1))])else some (0,[iI n]))
  (0,[iI (bif qc els a t e then n else-1)]):=by
 simp only [mx]at h0;have one:∀s:Int,0<=s->s<=2->tb t+(bif els then 1 else 0)=s->E (λ_ _=>bif (a:Int)==0 then some (0,[iI ((-1))])else bif decide (1<(e:Int))then some (0,[iI ((-1))])else bif decide (1<bx (s+(e:Int)))then some (0,[iI ((-1))])else some (0,[iI n])) (0,[iI (bif qc els a t e then n else-1)]):=λs s0 s2 hs=>by
  have hw:bx (s+(e:Int))=s+e:=jv (by omega) (by omega);rw [hw];refine av (λh=>af ?_) λh=>av (λh1=>af ?_) λh1=>av (λh2=>af ?_) λh2=>af ?_
  ·have:qc els a t e=false:=by unfold qc;simp at h;rw [h];rfl
   exact eX
  ·have:qc els a t e=false:=by
    unfold qc;simp at h1;have:decide ((e:Int)+tb t+(bif els then 1 else 0)<=1)=false:=eh;rw [this,oU]
   exact eX
  ·have:qc els a t e=false:=by
    unfold qc;simp at h2;have:decide ((e:Int)+tb t+(bif els then 1 else 0)<=1)=false:=eh;rw [this,oU]
   exact eX
  ·have:qc els a t e=true:=by
    unfold qc;simp at h h2;have h3:decide ((e:Int)+tb t+(bif els then 1 else 0)<=1)=true:=eh;have h4:decide (0<a)=true:=eh;rw [h3,h4];rfl
   exact eX
 by_cases ht:t=0
 ·have t0:tb t=0:=by unfold tb;rw [if_pos ht]
  refine aC (eh) ?_;cases els with
  |true=>exact aX (one 1 (by omega) (by omega) (by rw [t0];rfl))
  |false=>exact bj (one 0 (by omega) (by omega) (by rw [t0];rfl))
 ·have t0:tb t=1:=by unfold tb;rw [if_neg ht]
  refine bu (eh) ?_;cases els with
  |true=>exact aX (one 2 (by omega) (by omega) (by rw [t0];rfl))
  |false=>exact bj (one 1 (by omega) (by omega) (by rw [t0];rfl))
def an7{a t e:Int}:
 E (λ_ _=>bif decide (0<t)then bif els then bif a==0 then some (0,[iI ((-1))])else bif decide (1<e)then some (0,[iI ((-1))])else bif decide (1<bx (2+e))then some (0,[iI ((-1))])else some (0,[iI (-1)])else bif a==0 then some (0,[iI ((-1))])else bif decide (1<e)then some (0,[iI ((-1))])else bif decide (1<bx (1+e))then some (0,[iI ((-1))])else some (0,[iI (-1)])else bif els then bif a==0 then some (0,[iI ((-1))])else bif decide (1<e)then some (0,[iI ((-1))])else bif decide (1<bx (1+e))then some (0,[iI ((-1))])else some (0,[iI (-1)])else bif a==0 then some (0,[iI ((-1))])else bif decide (1<e)then some (0,[iI ((-1))])else bif decide (1<bx (0+e))then some (0,[iI ((-1))])else some (0,[iI (-1)]))
  (0,[iI (-1)]):=by
 have one:∀s:Int,E (λ_ _=>bif a==0 then some (0,[iI ((-1))])else bif decide (1<e)then some (0,[iI ((-1))])else bif decide (1<bx (s+e))then some (0,[iI ((-1))])else some (0,[iI (-1)])) (0,[iI (-1)]):=λs=>
  av (λ_=>aL) λ_=>av (λ_=>aL) λ_=>av (λ_=>aL) λ_=>aL
 exact av (λ_=>av (λ_=>one 2) λ_=>one 1) λ_=>av (λ_=>one 1) λ_=>one 0
def chE(ct:CT p ro)(hE:ml){c:WH}(hw:WI p c)(h3:(c.kE.length:Int)+1<=c.deep){As:List CA}(hl:As.length<=mx)(hx:∀x∈As,x.qn)(k0:nH p ro s0)(hk:∀x∈As,nH p ro x.body∧nH p ro x.after){cc:Int->Nat}(st:ST p lf cn cc):∃b dy c9,ay (au c9)=c9∧
 Ev Ht [J (bC 0 c),SF f [encS s0] D H (As.map cw),K0 p lf,ah (bf ro),.ab 0 cn] (0,ak b::gk p ro dy c9)∧
 Ev EG [bL p ro c,SF f [encS s0] D H (As.map cw),iI lf] (0,[iI (bif b then dy else-1)])∧(b=true->ST p dy c9 λt=>cc t+(j8 s0 t+sk As t)):=by
 have u0:dv (gA [encS s0] 0)=encS s0:=fE s0;have a1:=chC (p:=p) (ro:=ro) (f:=f) (s0:=s0) (D:=D) (H:=H) (A:=As.map cw) (lf:=lf) st.pk;have r1:=chR (f:=f) (s0:=s0) (D:=D) (H:=H) (A:=As.map cw);have C:∀r:UO,_->Ev Ht [J (bC 0 c),SF f [encS s0] D H (As.map cw),K0 p lf,ah (bf ro),.ab 0 cn] r:=λr h=>by
  refine bz asj ?_;rw [st.pk];refine aj a1 ?_;exact h
 have R:∀r:UO,_->Ev EG [bL p ro c,SF f [encS s0] D H (As.map cw),iI lf] r:=λr h=>by
  refine bz ayY (aj r1 ?_);exact h
 cases hb:tp f s0 (As.map cw)with
 |false=>
  exact ajt
 |true=>
  rw [hb]at C R;simp only [cg]at C R;have wq:WI p (rq c):=hw.of rfl (.inl (pa)) rfl hw.l1 hw.l2 hw.l3 hw.l5 rfl;obtain⟨b,l1,c1,iz,e1,f1,g1⟩:=k0 (rq c) wq lf cn cc st;rw [<-u0]at e1 f1;have C2:∀r:UO,_->Ev Ht [J (bC 0 c),SF f [encS s0] D H (As.map cw),K0 p lf,ah (bf ro),.ab 0 cn] r:=λr h=>by
   refine C r (aX (aH rfl ?_));erw [st.pk];exact X7
  have R2:∀r:UO,_->Ev EG [bL p ro c,SF f [encS s0] D H (As.map cw),iI lf] r:=λr h=>by
   refine R r (aX (aH rfl (aj f1 ?_)));exact h
  cases b with
  |false=>
   have j2:bM HH [iI (-1),iI 0,SF f [encS s0] D H (As.map cw)] (1,[SF f [encS s0] D H (As.map cw)]):=
    bU Ue (av (c:=decide ((0:Int)<ln (As.map cw))) (λ_=>bj aL) λ_=>aL)
   have jl:bP tx [iI (-1),iI 0,iI 0,iI 0,iI 0,bL p ro (rq c),SF f [encS s0] D H (As.map cw)] (1,[iI (-1),iI 0,iI 0,iI 0,bL p ro (rq c),SF f [encS s0] D H (As.map cw)]):=
    bF Uv (aj j2 (bj aL))
   have u9:bM Bq [iI (-1),iI 0,iI 0,iI 0,bL p ro (rq c),SF f [encS s0] D H (As.map cw)] (0,[iI (-1),iI 0,iI 0,iI 0,bL p ro (rq c),SF f [encS s0] D H (As.map cw)]):=
    bU Mt (aj jl.diag (bj aL))
   refine⟨false,l1,c1,iz,C2 _ (aX (af ?_)),R2 _ (aj u9 (aX (an7 (els:=f.els)))),λh=>bh⟩;erw [iz];rfl
  |true=>
   have cY:=g1 rfl;obtain⟨b,l2,c2,mm,jb,pm2,e2,⟨o,f2,ho⟩,g2⟩:=aEz ct hE (c:=rq c) wq h3 (f:=f) (L:=[encS s0]) (D:=D) (H:=H) hl hx hk l1 c1 _ cY;have R3:∀r o',bM Bq [iI l1,iI 0,iI 0,iI 0,bL p ro (rq c),SF f [encS s0] D H (As.map cw)] o'->_->Ev EG [bL p ro c,SF f [encS s0] D H (As.map cw),iI lf] r:=λr o' h1 h2=>by
    refine R2 r (aj h1 ?_);exact h2
   cases b with
   |false=>
    refine⟨false,l2,c2,jb,C2 _ (bj ?_),?_,λh=>bh⟩
    ·erw [iz];refine aj e2.diag (aX (af ?_));erw [jb];rfl
    ·unfold Ku at ho;rw [if_neg (by simp)]at ho;rcases ho with rfl|⟨a,t,e,rfl⟩
     ·have u9:bM Bq [iI l1,iI 0,iI 0,iI 0,bL p ro (rq c),SF f [encS s0] D H (As.map cw)] (1,[iI (-1),bL p ro (rq c),SF f [encS s0] D H (As.map cw)]):=
       bU Mt (aj f2.diag (aX aL))
      exact R3 _ _ u9 (bj aL)
     ·have u9:bM Bq [iI l1,iI 0,iI 0,iI 0,bL p ro (rq c),SF f [encS s0] D H (As.map cw)] (0,[iI (-1),iI a,iI t,iI e,bL p ro (rq c),SF f [encS s0] D H (As.map cw)]):=
       bU Mt (aj f2.diag (bj aL))
      exact R3 _ _ u9 (aX (an7 (els:=f.els)))
   |true=>
    unfold Ku at ho;rw [if_pos rfl]at ho;obtain⟨a,t,e,hm,anB,rfl⟩:=ho;have u9:bM Bq [iI l1,iI 0,iI 0,iI 0,bL p ro (rq c),SF f [encS s0] D H (As.map cw)] (0,[iI l2,iI (a:Int),iI (t:Int),iI (e:Int),bL p ro (rq c),SF f [encS s0] D H (As.map cw)]):=
     bU Mt (aj f2.diag (bj aL))
    refine⟨qc f.els a t e,l2,c2,jb,C2 _ (bj ?_),R3 _ _ u9 (aX (aNo (els:=f.els) (n:=l2) (by omega))),λ_=>(g2 rfl).ext λt=>by omega⟩;erw [iz];refine aj e2.diag (bj ?_);have Dw:e<=mx:=by omega
    show E (λN m=>match dM (au mm) (bE 4)with|some Dn=>_|none=>_) _;rw [hm.f4]
    by_cases h0:e=0
    ·rw [if_pos h0];have j:=anw (p:=p) (ro:=ro) (x:=0) (by omega) (Fz) (lf:=l2) jb hm;erw [jb,hm.pk];refine aj j ?_;erw [jb];exact an8 (els:=f.els) jb hm (x:=0+tb t) (by rw [h0];rfl) Dw
    ·rw [if_neg h0];have j:=anw (p:=p) (ro:=ro) (x:=(e:Int)) (by omega) (by simp only [mx]at Dw⊢;omega) (lf:=l2) jb hm;erw [jb,hm.pk];refine aj j ?_;erw [jb];exact an8 (els:=f.els) jb hm (x:=(e:Int)+tb t) rfl Dw
end
end
end Go.Proofs.YtomkobcipaligaaGreatDoor
namespace Go.az
def lI{p:Prop}(h:p:=by rw [hk];rfl):p:=h
def akt{p:Prop}(h:p:=by
 refine av (c:=decide (0<=f.P)) (λh0=>aC (c:=decide (f.P<ln (p.dp.map fr))) ?_ aL) λ_=>aL;rcases hn with hn|hn
 ·rw [hn]at h0;cases h0
 ·exact hn):p:=h
end Go.az
namespace Go.az
def Xv:=@List.isEmpty_iff
end Go.az
namespace Go.Proofs.YtomkobcipaligaaGreatDoor
open Go Go.az
section
variable{b:Bool}{f:dH}{lf dy:Int}{Ls:List CS}{i:Nat}{ctx:Nat->WH}{c w:WH}{A D H L cn c9:aZ}
section
variable {p:PG} {ro:List RO}
def aDC{k:Int}(h:k=14∨k=16∨k=17∨k=18∨k=20):Dq k=false∧CQ k=false:=by
 rcases h with rfl|rfl|rfl|rfl|rfl<;>exact⟨rfl,rfl⟩
def aFE(ct:CT p ro)(hw:w.Ok)(h:Ev xp [bL p ro w,SF f L D H A] (0,[cu]))
 (hwt:f.kind=17->∃b,Ev Eg [bL p ro w,SF f L D H A,iI 3] (0,[ak b])):(f.kind=18->jh p w.task f.entry=true)∧(f.kind=17∨f.kind=20->ib f.P p.dp.length=true):=by
 have n2:(f.kind=14∨f.kind=16∨f.kind=17∨f.kind=18∨f.kind=20)->∀k:Int,k<=10->(f.kind==k)=false:=λhk k h2=>eh;have pre:(f.kind=14∨f.kind=16∨f.kind=17∨f.kind=18∨f.kind=20)->∀r:UO,_->Ev xp [bL p ro w,SF f L D H A] r:=λhk r g=>by
  obtain⟨d1,d2⟩:=aDC hk;have n2:=n2 hk;have j1:=am6 f.kind;have j2:=am5 f.kind;rw [d1]at j1;rw [d2]at j2;refine bz tw (aC (c:=f.kind==2) (n2 2 (lE)) (aC (c:=f.kind==4) (n2 4 (lE)) (aC (c:=f.kind==5) (n2 5 (lE)) (aC (c:=f.kind==6) (n2 6 (lE)) (aC (c:=f.kind==7) (n2 7 (lE)) (aC (c:=f.kind==8) (n2 8 (lE)) (aC (c:=f.kind==10) (n2 10 (lE)) (aj j1 (bj (aj j2 (bj ?_)))))))))));exact g
 have T:∀{b:Bool},Ev xp [bL p ro w,SF f L D H A] (0,[ak b])->b=true:=λ{b} e=>by
  have:=E.uniq e h;injection this with _ this;injection this with this _;injection this
 refine⟨λhk=> ?_,λhk=> ?_⟩
 ·have:=T (pre (.inr (.inr (.inr (.inl hk)))) (0,[ak (tU p w f.entry)]) (aC (c:=f.kind==14) (lI) (aC (c:=f.kind==16) (lI) (aC (c:=f.kind==17) (lI) (bu (c:=f.kind==18) (lI) (aj (Z9 hw f.entry) aL))))));unfold tU at this;rw [bS]at this;exact this.1
 ·cases hb:ib f.P p.dp.length with
  |true=>rfl
  |false=>
   exfalso;have hn:decide (0<=f.P)=false∨decide (f.P<ln (p.dp.map fr))=false:=by
    unfold ib at hb;rw [dq];cases h0:decide (0<=f.P)with
    |false=>exact .inl rfl
    |true=>rw [h0]at hb;exact .inr hb
   rcases hk with hk|hk
   ·obtain⟨b,KT⟩:=hwt hk;have:Ev xp [bL p ro w,SF f L D H A] (0,[aq]):=by
     refine pre (.inr (.inr (.inl hk))) _ (aC (c:=f.kind==14) (lI) (aC (c:=f.kind==16) (lI) (bu (c:=f.kind==17) (lI) (aj KT ?_))));refine av (λ_=> ?_) λ_=>aL;exact akt
    exact absurd (T this) (by simp)
   ·have:Ev xp [bL p ro w,SF f L D H A] (0,[aq]):=by
     refine pre (.inr (.inr (.inr (.inr hk)))) _ (aC (c:=f.kind==14) (lI) (aC (c:=f.kind==16) (lI) (aC (c:=f.kind==17) (lI) (aC (c:=f.kind==18) (lI) (bu (c:=f.kind==20) (lI) ?_)))));exact akt
    exact absurd (T this) (by simp)
def aAB(hf:f.Ok)(hD:D.length<=mx)(hH:H.length<=mx)(h:yG f L D H A=true):(f.kind≠9->D=[]∧H=[])∧(f.kind≠19->A=[]):=by
 have h1:=E.uniq (ahg f L D H A hf hD hH).2 (lkR f L D H A);injection h1 with _ h1;injection h1 with h1 _;injection h1 with h1;rw [h]at h1;have hd:uA f D H A=true:=by
  have:=h1.symm;simp only [bS]at this;exact this.2.2.2.2.1
 unfold uA at hd;rw [bS]at hd;obtain⟨u,v⟩:=hd;refine⟨λhk=> ?_,λhk=> ?_⟩
 ·have:(f.kind != 9)=true:=by simpa using hk
  rw [this,cg,bS]at u;exact⟨Xv.1 u.1,Xv.1 u.2⟩
 ·have:(f.kind != 19)=true:=by simpa using hk
  rw [this,cg]at v;exact Xv.1 v
structure WJ(p:PG)(c:WH):Prop where
 wi:WI p c
 l1:(c.marks.length:Int)+1<=c.deep
 l2:(c.kG.length:Int)+1<=c.deep
 l3:(c.kE.length:Int)+1<=c.deep
 l4:(c.gP.length:Int)+1<=c.deep
 l5:(c.loops.length:Int)+1<=c.deep
def oO(w:WH):WH:={w with deep:=bx (w.deep+1)}
def WI.aDU(h:WI p w)(hd:w.deep<64):WJ p (oO w):=by
 have h1:=h.l1;have h2:=h.l2;have h3:=h.l3;have h4:=h.l4;have h5:=h.l5;have e:(oO w).deep =w.deep+1:=by show bx (w.deep+1)=_;rw [jv (by omega) (by omega)]
 have m:(oO w).marks =w.marks:=rfl;have a:(oO w).kG =w.kG:=rfl;have b:(oO w).kE =w.kE:=rfl;have d:(oO w).gP =w.gP:=rfl;have l:(oO w).loops =w.loops:=rfl;refine⟨⟨⟨h.dJ.GA,h.dJ.act,h.dJ.task⟩,?_,?_,?_,?_,?_,?_⟩,?_,?_,?_,?_,?_⟩<;>(try rw [m])<;>(try rw [a])<;>(try rw [b])<;>(try rw [d])<;>(try rw [l])<;>rw [e]<;>omega
def cJ(c:WH)(f:dH):WH:=bif f.kind==7 then{c with marks:=c.marks++[f.N],kG:=c.kG++[f.N]}else bif f.kind==6 then{c with loops:=c.loops++[f.O]}else c
def cK(c:WH)(f:dH):WH:=bif f.kind==16 then rq c else cJ c f
def RB(h7:f.kind≠7)(h6:f.kind≠6):cJ c f=c:=by
 have a:(f.kind==7)=false:=by simpa using h7
 have b:(f.kind==6)=false:=by simpa using h6
 unfold cJ;rw [a,b];rfl
def WI.rq{w:WH}(h:WI p w):WI p (rq w):=h.of rfl (.inl (pa)) rfl h.l1 h.l2 h.l3 h.l5 rfl
def WJ.cJ{c:WH}(h:WJ p c)(f:dH):WI p (cJ c f):=by
 unfold YtomkobcipaligaaGreatDoor.cJ;cases h7:f.kind==7 with
 |true=>
  refine h.wi.of rfl (.inr rfl) rfl ?_ ?_ h.wi.l3 h.wi.l5 rfl
  ·have:=h.l1;show((c.marks++[f.N]).length :Int)<=c.deep;simp;omega
  ·have:=h.l2;show((c.kG++[f.N]).length :Int)<=c.deep;simp;omega
 |false=>
  cases h6:f.kind==6 with
  |true=>
   refine h.wi.of rfl (.inr rfl) rfl h.wi.l1 h.wi.l2 h.wi.l3 ?_ rfl;have:=h.l5;show((c.loops++[f.O]).length :Int)<=c.deep;simp;omega
  |false=>exact h.wi
def WJ.acc(h:WJ p c){e:Int}(he:jh p c.task e=true):WI p (vg c e):=by
 have oM:(0:Int)<=c.deep:=by have:=h.l1;omega
 refine⟨⟨.inr he,h.wi.dJ.act,h.wi.dJ.task⟩,?_,h.wi.l2,?_,h.wi.l4,h.wi.l5,h.wi.d⟩
 ·simpa [vg,iW]using oM
 ·simpa [vg,iW]using h.l3
def WJ.act{c:WH}(h:WJ p c){q:Int}(hq:ib q p.dp.length=true):WI p (Ap c q):=by
 have oM:(0:Int)<=c.deep:=by have:=h.l1;omega
 refine⟨⟨.inl (pa),?_,h.wi.dJ.task⟩,?_,h.wi.l2,h.wi.l3,?_,h.wi.l5,h.wi.d⟩
 ·intro a ha;rcases jO.1 (show a∈c.gP++[q]from ha)with ha|ha
  ·exact h.wi.dJ.act a ha
  ·simp at ha;subst ha;exact hq
 ·simpa [Ap,iW]using oM
 ·simpa [Ap,iW]using h.l4
def wiD(h:WJ p c)(ha:f.kind=18->jh p c.task f.entry=true)(hp:f.kind=17∨f.kind=20->ib f.P p.dp.length=true)(i:Nat):WI p (kZ (YtomkobcipaligaaGreatDoor.cJ c f) f (i:Nat)):=by
 have h1:WI p (uB (YtomkobcipaligaaGreatDoor.cJ c f) f (i:Nat)):=by
  unfold uB;cases hb:aB f (i:Nat)with
  |true=>
   have hk:f.kind=17∨f.kind=20:=by
    unfold aB at hb;cases h0:((i:Nat):Int)==0 with
    |false=>rw [h0]at hb;cases hb
    |true=>
     rw [h0]at hb;cases lW:f.kind==20 with
     |true=>exact .inr (eq_of_beq lW)
     |false=>rw [lW]at hb;exact .inl (eq_of_beq hb)
   rw [RB (by rcases hk with h|h<;>omega) (by rcases hk with h|h<;>omega)];exact h.act (hp hk)
  |false=>
   show WI p (xf (YtomkobcipaligaaGreatDoor.cJ c f) f (i:Nat));unfold xf;cases h0:((i:Nat):Int)==0 with
   |false=>exact h.cJ f
   |true=>
    cases mA:f.kind==18 with
    |false=>exact h.cJ f
    |true=>
     have hk:=eq_of_beq mA;rw [RB (by omega) (by omega)];exact h.acc (ha hk)
 unfold kZ;cases qB f (i:Nat)with
 |true=>exact h1.rq
 |false=>exact h1
def aFf(h7:f.kind≠17)(h8:f.kind≠18)(lW:f.kind≠20)(i:Int):kZ (YtomkobcipaligaaGreatDoor.cJ c f) f i=cK c f:=by
 have a:(f.kind==17)=false:=by simpa using h7
 have b:(f.kind==18)=false:=by simpa using h8
 have d:(f.kind==20)=false:=by simpa using lW
 unfold kZ qB uB aB xf cK;rw [a,b,d];cases iR:f.kind==16 with
 |true=>
  have hk:=eq_of_beq iR;rw [RB (by omega) (by omega)];cases i==0<;>rfl
 |false=>cases i==0<;>rfl
def CR.inv(h:CR p ro ctx Ls i lf cn b dy c9)(hi:i<Ls.length):
 (b=false∧Ev jZ [J (bC 0 (ctx i)),J (encS Ls[i]),K0 p lf,ah (bf ro),.ab 0 cn] (0,aq::gk p ro dy c9))∨
 ∃l1 c1,ay (au c1)=c1∧Ev jZ [J (bC 0 (ctx i)),J (encS Ls[i]),K0 p lf,ah (bf ro),.ab 0 cn] (0,cu::gk p ro l1 c1)∧CR p ro ctx Ls (i+1) l1 c1 b dy c9:=by
 cases h with
 |done _ h=>omega
 |no _ h _ _ pk _ _ kW e=>exact .inl ⟨rfl,e⟩
 |yes _ h _ _ pk l1 c1 iz e _ _ _ t=>exact .inr ⟨l1,c1,iz,e,t⟩
def CR.stop(h:CR p ro ctx Ls i lf cn b dy c9)(hi:i=Ls.length):b=true∧dy=lf∧c9=cn:=by
 cases h with
 |done _ h=>exact⟨rfl,rfl,rfl⟩
 |no _ h=>omega
 |yes _ h=>omega
end
end
end Go.Proofs.YtomkobcipaligaaGreatDoor
namespace Go.az
def PV{p:Prop}(h:p:=by unfold kZ qB uB aB xf;rw [hk];rfl):p:=h
def PU{p:Prop}(h:p:=by
 refine aj e (af ?_);erw [kW];rfl):p:=h
def ai0{p:Prop}(h:p:=by
 rw [x0,ul 0 g0]at e;refine C1 _ (aj e (bj (af ?_)));erw [kW];rfl):p:=h
def ahp{p:Prop}(h:p:=by
 refine C1 _ (aj e (af ?_));erw [kW];rfl):p:=h
end Go.az
namespace Go.Proofs.YtomkobcipaligaaGreatDoor
open Go Go.az
section
variable{f:dH}{lf:Int}{Ls:List CS}{c:WH}{A D H L cn:aZ}
section
variable {p:PG} {ro:List RO}
def akZ{k l:Int}(h:l=yS k l):(k=9->l=1)∧(k=19->l=1)∧(k=18->l=2)∧(k=20->l=1)∧(k=17->l=3):=by
 refine⟨?_,?_,?_,?_,?_⟩<;>(rintro rfl;exact h)
def aFB(ct:CT p ro)(hE:ml){w:WH}(hw:WI p w)(hf:f.Ok)(hD:D.length<=mx)(hH:H.length<=mx){l1:Int}(eZ:bx (lf- 1)=l1)(fP:(l1<0 ↔ lf<1))(hc:ay (au cn)=cn):∃b,
 bM Hq [K0 p l1,ah (bf ro),.ab 0 cn,J (bC 0 w),SF f (Ls.map encS) D H A] (bif b then(0,[K0 p l1,ah (bf ro),.ab 0 cn,J (bC 0 w),SF f (Ls.map encS) D H A])else(1,[aq,K0 p l1,ah (bf ro),.ab 0 cn,J (bC 0 w),SF f (Ls.map encS) D H A]))∧
 bM NP [iI lf,bL p ro w,SF f (Ls.map encS) D H A] (bif b then(0,[bL p ro w,SF f (Ls.map encS) D H A])else(1,[iI (-1),bL p ro w,SF f (Ls.map encS) D H A]))∧
 (b=true->1<=lf∧w.deep<64∧yG f (Ls.map encS) D H A=true∧(f.kind=18->jh p w.task f.entry=true)∧(f.kind=17∨f.kind=20->ib f.P p.dp.length=true)):=by
 have C:∀r:UO,_->bM Hq [K0 p l1,ah (bf ro),.ab 0 cn,J (bC 0 w),SF f (Ls.map encS) D H A] r:=λr h=>by
  refine bU ari ?_;rw [hc];exact h
 have R:∀r:UO,_->bM NP [iI lf,bL p ro w,SF f (Ls.map encS) D H A] r:=λr h=>bU ayM h;cases h0:decide (lf<1)with
 |true=>
  have G6:decide (l1<0)=true:=by simp at h0⊢;exact fP.2 h0
  exact⟨false,C _ (bu (c:=decide (l1<0)) G6 aL),R _ (bu h0 aL),λh=>bh⟩
 |false=>
  have G6:decide (l1<0)=false:=by simp at h0⊢;omega
  cases hd:decide (64<=w.deep)with
  |true=>exact⟨false,C _ (aC (c:=decide (l1<0)) G6 (bu hd aL)),R _ (aC h0 (bu hd aL)),λh=>bh⟩
  |false=>
   obtain⟨s1,s2⟩:=ahg f (Ls.map encS) D H A hf hD hH;cases hs:yG f (Ls.map encS) D H A with
   |false=>
    rw [hs]at s1 s2;exact⟨false,C _ (aC (c:=decide (l1<0)) G6 (aC hd (aj s1 (aX aL)))),R _ (aC h0 (aC hd (aj s2 (aX aL)))),λh=>bh⟩
   |true=>
    rw [hs]at s1 s2;have t1:=stC (p:=p) (ro:=ro) (w:=w) (f:=f) (L:=Ls.map encS) (D:=D) (H:=H) (A:=A) (lf:=l1) hc;have t2:=stR (p:=p) (ro:=ro) (w:=w) (f:=f) (L:=Ls.map encS) (D:=D) (H:=H) (A:=A);cases ht:qG w f with
    |false=>
     rw [ht]at t1 t2;refine⟨false,C _ (aC (c:=decide (l1<0)) G6 (aC hd (aj s1 (bj (aj t1 (aX (af ?_))))))),R _ (aC h0 (aC hd (aj s2 (bj (aj t2 (aX aL)))))),λh=>bh⟩;exact j5
    |true=>
     rw [ht]at t1 t2;obtain⟨b,r1,r2⟩:=aDg ct hw.ok hw.dJ hc (lf:=l1) hE hf hs;have C2:∀r:UO,_->bM Hq [K0 p l1,ah (bf ro),.ab 0 cn,J (bC 0 w),SF f (Ls.map encS) D H A] r:=λr h=>by
      refine C r (aC (c:=decide (l1<0)) G6 (aC hd (aj s1 (bj (aj t1 (bj ?_))))));erw [hc];refine aj r1 ?_;exact h
     cases b with
     |false=>
      refine⟨false,C2 _ (aX (af ?_)),R _ (aC h0 (aC hd (aj s2 (bj (aj t2 (bj (aj r2 (aX aL)))))))),λh=>bh⟩;exact j5
     |true=>
      refine⟨true,C2 _ (bj (af ?_)),R _ (aC h0 (aC hd (aj s2 (bj (aj t2 (bj (aj r2 (bj aL)))))))),λ_=>⟨by simp at h0;omega,by simp at hd;omega,rfl,?_⟩⟩
      ·exact j5
      ·refine aFE ct hw.ok r2 λhk=> ?_;have mT:=(XC f (Ls.map encS) D H A hs).2.2;rw [hk]at mT;have hL:Ls.length=3:=ait;obtain⟨b,_,q⟩:=XR ct hw.ok hc (lf:=l1) hE hf (D:=D) (H:=H) (A:=A) hL (by omega) (by omega);exact⟨b,q⟩
def GM{l:cT}(h:l.length<=1000):(decide ((0+(ints l).length)*8<=140737488355328)=true)∧∀x:AV,decide (((([]:aZ)++ints l).length +([[x]]:aZ).length)*8<=140737488355328)=true:=by
 refine⟨wG,λx=>Ym⟩
def aMz(hw:c.Ok){n:Int}(h9:f.kind≠9)(pH:f.kind≠19):
 bM H7 [iI n,bL p ro c,SF f L D H A] (0,[bL p ro (cJ c f),SF f L D H A]):=by
 have a9:(f.kind==9)=false:=by simpa using h9
 have a19:(f.kind==19)=false:=by simpa using pH
 refine bU VA (aC a9 (aC a19 (av (c:=f.kind==7) (λh=> ?_) λh=>av (c:=f.kind==6) (λg=> ?_) λg=>af ?_)))
 ·refine aH (GM hw.marks).1 (aH ((GM hw.marks).2 _) (aH (GM hw.kG).1 (aH ((GM hw.kG).2 _) (af ?_))));unfold cJ;rw [h];have e:bL p ro {c with marks:=c.marks++[f.N],kG:=c.kG++[f.N]}= J (sT (Q0 p ro c) [(6,aa (([]++ints c.marks)++[[iI f.N]])),(7,aa (([]++ints c.kG)++[[iI f.N]]))]):=by
   dsimp only [bL];rw [BH,BH];rfl
  show _=(0,[bL p ro {c with marks:=c.marks++[f.N],kG:=c.kG++[f.N]},SF f L D H A]);rw [e];rfl
 ·refine aH (GM hw.loops).1 (aH ((GM hw.loops).2 _) (af ?_));unfold cJ;rw [h,g];have e:bL p ro {c with loops:=c.loops++[f.O]}= J (sT (Q0 p ro c) [(10,aa (([]++ints c.loops)++[[iI f.O]]))]):=by
   dsimp only [bL];rw [BH];rfl
  show _=(0,[bL p ro {c with loops:=c.loops++[f.O]},SF f L D H A]);rw [e];rfl
 ·unfold cJ;rw [h,g];rfl
def aFN(hw:c.Ok)(hc:ay (au cn)=cn)(h9:f.kind≠9)(pH:f.kind≠19)(mB:f.kind≠17)(mA:f.kind≠18)(lW:f.kind≠20):
 bM vV [K0 p lf,ah (bf ro),.ab 0 cn,J (bC 0 c),SF f L D H A] (0,[K0 p lf,ah (bf ro),.ab 0 cn,J (bC 0 (cK c f)),SF f L D H A]):=by
 have a9:(f.kind==9)=false:=by simpa using h9
 have a19:(f.kind==19)=false:=by simpa using pH
 have a17:(f.kind==17)=false:=by simpa using mB
 have a18:(f.kind==18)=false:=by simpa using mA
 have a20:(f.kind==20)=false:=by simpa using lW
 refine bU LX ?_;rw [hc];refine aC a9 (aC a19 (aC a18 (aC a20 (aC a17 (av (c:=f.kind==16) (λh=>af ?_) λh=>av (c:=f.kind==7) (λg=>aj (Jv (l:=c.marks) f.N hw.marks) (aj (Jv (l:=c.kG) f.N hw.kG) (af ?_))) λg=>av (c:=f.kind==6) (λi=>aj (Jv (l:=c.loops) f.O hw.loops) (af ?_)) λi=>af ?_)))))
 ·unfold cK;rw [h];rfl
 ·unfold cK cJ;rw [h,g];rfl
 ·unfold cK cJ;rw [h,g,i];rfl
 ·unfold cK cJ;rw [h,g,i];rfl
def aFM(hw:c.Ok)(hk:f.kind=17∨f.kind=18∨f.kind=20)(mT:ln (Ls.map encS)=yS f.kind (ln (Ls.map encS))){b:Bool}{dy:Int}{c9:aZ}(h:CR p ro (λi=>kZ c f (i:Nat)) Ls 0 lf cn b dy c9):
 bM vV [K0 p lf,ah (bf ro),.ab 0 cn,J (bC 0 c),SF f (Ls.map encS) D H A] (1,[ak b,K0 p dy,ah (bf ro),.ab 0 c9,J (bC 0 c),SF f (Ls.map encS) D H A]):=by
 obtain⟨hc,kW⟩:=h.pk;obtain⟨_,_,k18,k20,k17⟩:=akZ mT;have C:∀r:UO,_->bM vV [K0 p lf,ah (bf ro),.ab 0 cn,J (bC 0 c),SF f (Ls.map encS) D H A] r:=λr h=>by
  refine bU LX ?_;rw [hc];exact h
 have ul:∀(i:Nat) (hi:i<Ls.length),encS Ls[i]=dv (gA (Ls.map encS) i):=λi hi=>by rw [sf hi,fE]
 rcases hk with hk|hk|hk
 ·have hL:=k17 hk;rw [dq]at hL;have g0:0<Ls.length:=by omega
  have g1:1<Ls.length:=by omega
  have g2:2<Ls.length:=by omega
  have dl:∀n:Int,n<3->decide (n<ln (Ls.map encS))=true:=λn hn=>sq;have x0:kZ c f ((0:Nat):Int)=Ap c f.P:=by unfold kZ qB uB aB;rw [hk];rfl
  have x1:kZ c f ((1:Nat):Int)=rq c:=PV;have x2:kZ c f ((2:Nat):Int)=rq c:=PV;have C1:∀r:UO,_->bM vV [K0 p lf,ah (bf ro),.ab 0 cn,J (bC 0 c),SF f (Ls.map encS) D H A] r:=λr h=>by
   refine C r (aC (c:=f.kind==9) (lI) (aC (c:=f.kind==19) (lI) (aC (c:=f.kind==18) (lI) (aC (c:=f.kind==20) (lI) (bu (c:=f.kind==17) (lI) (aj (aod (lf:=lf) hw hc f.P) (aH (dl 0 (lE)) ?_)))))));exact Ft
  rcases h.inv g0 with⟨rfl,e⟩|⟨l1,c1,iz,e,t⟩
  ·exact ai0
  ·rw [x0,ul 0 g0]at e;refine C1 _ (aj e (aX (aH (dl 1 (lE)) ?_)));erw [iz];rcases t.inv g1 with⟨rfl,e⟩|⟨l2,c2,jb,e,t⟩
   ·rw [x1,ul 1 g1]at e;refine aj e (bj (af ?_));erw [kW];rfl
   ·rw [x1,ul 1 g1]at e;refine aj e (aX (aH (dl 2 (lE)) ?_));erw [jb];rcases t.inv g2 with⟨rfl,e⟩|⟨l3,c3,AJ,e,t⟩
    ·rw [x2,ul 2 g2]at e;exact PU
    ·rw [x2,ul 2 g2]at e;obtain⟨rfl,rfl,rfl⟩:=t.stop (by omega);exact PU
 ·have hL:=k18 hk;rw [dq]at hL;have g0:0<Ls.length:=by omega
  have g1:1<Ls.length:=by omega
  have dl:∀n:Int,n<2->decide (n<ln (Ls.map encS))=true:=λn hn=>sq;have x0:kZ c f ((0:Nat):Int)=vg c f.entry:=PV;have x1:kZ c f ((1:Nat):Int)=rq c:=PV;have C1:∀r:UO,_->bM vV [K0 p lf,ah (bf ro),.ab 0 cn,J (bC 0 c),SF f (Ls.map encS) D H A] r:=λr h=>by
   refine C r (aC (c:=f.kind==9) (lI) (aC (c:=f.kind==19) (lI) (bu (c:=f.kind==18) (lI) (aj (aof (lf:=lf) hw hc f.entry) (aH (dl 0 (lE)) ?_)))));exact Ft
  rcases h.inv g0 with⟨rfl,e⟩|⟨l1,c1,iz,e,t⟩
  ·exact ai0
  ·rw [x0,ul 0 g0]at e;refine C1 _ (aj e (aX (aH (dl 1 (lE)) ?_)));erw [iz];rcases t.inv g1 with⟨rfl,e⟩|⟨l2,c2,jb,e,t⟩
   ·rw [x1,ul 1 g1]at e;exact PU
   ·rw [x1,ul 1 g1]at e;obtain⟨rfl,rfl,rfl⟩:=t.stop (by omega);exact PU
 ·have hL:=k20 hk;rw [dq]at hL;have g0:0<Ls.length:=by omega
  have dl:∀n:Int,n<1->decide (n<ln (Ls.map encS))=true:=λn hn=>sq;have x0:kZ c f ((0:Nat):Int)=Ap c f.P:=by unfold kZ qB uB aB;rw [hk];rfl
  have C1:∀r:UO,_->bM vV [K0 p lf,ah (bf ro),.ab 0 cn,J (bC 0 c),SF f (Ls.map encS) D H A] r:=λr h=>by
   refine C r (aC (c:=f.kind==9) (lI) (aC (c:=f.kind==19) (lI) (aC (c:=f.kind==18) (lI) (bu (c:=f.kind==20) (lI) (aj (aod (lf:=lf) hw hc f.P) (aH (dl 0 (lE)) ?_))))));exact Ft
  rcases h.inv g0 with⟨rfl,e⟩|⟨l1,c1,iz,e,t⟩
  ·rw [x0,ul 0 g0]at e;exact ahp
  ·rw [x0,ul 0 g0]at e;obtain⟨rfl,rfl,rfl⟩:=t.stop (by omega);exact ahp
end
end
end Go.Proofs.YtomkobcipaligaaGreatDoor
namespace Go.az
def YA{p:Prop}(h:p:=by
 refine aj j (bj (af ?_));erw [kW];rfl):p:=h
def Pg{p:Prop}(h:p:=by rw [KM];rfl):p:=h
end Go.az
namespace Go.az
def Ov:=@List.map_eq_nil_iff
end Go.az
namespace Go.Proofs.YtomkobcipaligaaGreatDoor
open Go Go.az
section
variable {p:PG} {ro:List RO}
def XE(t:Int):sj [] t=0∧iv [] t=0∧si [] t=0∧sk [] t=0:=by simp [sj,iv,si,sk]
def stE(ct:CT p ro)(hE:ml):∀s:CS,s.Ok->nH p ro s:=by
 refine CS.ind λs ih bB=> ?_;obtain⟨_,hf,hL,hD,hH,hA,h1,h2,kP⟩:=bB;have kL:∀y∈s.L,nH p ro y:=λy hy=>ih y (CO hy) (kP y (CO hy));have kD:∀d∈s.D,nH p ro d.d∧nH p ro d.u:=λd hd=>⟨ih _ (ry hd).1 (kP _ (ry hd).1),ih _ (ry hd).2 (kP _ (ry hd).2)⟩;have kH:∀x∈s.H,nH p ro x.body:=λx hx=>ih _ (CP hx) (kP _ (CP hx));have kA:∀x∈s.A,nH p ro x.body∧nH p ro x.after:=λx hx=>⟨ih _ (rA hx).1 (kP _ (rA hx).1),ih _ (rA hx).2 (kP _ (rA hx).2)⟩;intro w hw lf cn cc st;have KU:bx (lf- 1)=lf- 1:=by have:=st.lo;have:=st.hi;rw [jv (by omega) (by omega)]
 have fP:(bx (lf- 1)<0 ↔ lf<1):=by rw [KU];omega
 have lD:(s.D.map cq).length <=mx:=by rw [eE];exact hD
 have lH:(s.H.map cA).length <=mx:=by rw [eE];exact hH
 obtain⟨b,e1,r1,q1⟩:=aFB ct hE hw hf (Ls:=s.L) (A:=s.A.map cw) lD lH (lf:=lf) rfl fP st.pk;have es:=Fj s;have C:∀r:UO,_->Ev jZ [J (bC 0 w),J (encS s),K0 p lf,ah (bf ro),.ab 0 cn] r:=λr h=>by
  rw [es];refine bz at4 ?_;rw [st.pk];exact X7
 have R:∀r:UO,_->Ev pO [bL p ro w,J (encS s),iI lf] r:=λr h=>by
  rw [es];refine bz aAe (aj r1 ?_);exact h
 cases b with
 |false=>
  refine⟨false,bx (lf- 1),cn,st.pk,C _ (bj (af ?_)),R _ (bj aL),λh=>bh⟩;erw [st.pk];rfl
 |true=>
  obtain⟨q2,q3,q4,q5,q6⟩:=q1 rfl;have hlen:=XC s.f (s.L.map encS) (s.D.map cq) (s.H.map cA) (s.A.map cw) q4;obtain⟨n9,n19⟩:=aAB hf lD lH q4;obtain⟨l9,RZ,_⟩:=akZ hlen.2.2;have hj:=hw.aDU q3;have KS:=hj.wi;have cY:ST p (bx (lf- 1)) cn cc:=⟨st.pk,st.rep,λt=>by have:=st.le t;omega,by omega,by have:=st.hi;omega,st.jj⟩;have aab:∀t,j8 s t=(if s.f.kind=9 then s.f.Ts.count t else 0)+(sj s.D t+(iv s.L t+(si s.H t+sk s.A t))):=agM s
  by_cases k9:s.f.kind=9
  ·obtain⟨s0,h0⟩:=wE (l9 k9);have Sw:s.A=[]:=by have:=n19 (by omega);exact Ov.1 this
   have hL0:s.L.map encS=[encS s0]:=by rw [h0];rfl
   rw [hL0]at C R;obtain⟨b,l',c',kW,a1,a2,a3⟩:=aNA ct KS hf (A:=s.A.map cw) hD hH (by have:=hj.l1;omega) (λx hx=>(h1 x hx).eQ) (kL s0 (by rw [h0];simp)) kD kH cY (λt=>by have:=st.le t;omega);refine⟨b,l',c',kW,C _ (aX ?_),R _ (aX ?_),λh=>(a3 h).ext λt=> ?_⟩
   ·erw [st.pk];have j:bM vV [K0 p (bx (lf- 1)),ah (bf ro),.ab 0 cn,J (bC 0 (oO w)),SF s.f [encS s0] (s.D.map cq) (s.H.map cA) (s.A.map cw)] (1,[ak b,K0 p l',ah (bf ro),.ab 0 c',J (bC 0 (oO w)),SF s.f [encS s0] (s.D.map cq) (s.H.map cA) (s.A.map cw)]):=by
     refine bU LX ?_;rw [st.pk];refine bu (c:=s.f.kind==9) (by rw [k9];rfl) (aj a1 (af ?_));erw [kW];rfl
    exact YA
   ·have j:bM H7 [iI (bx (lf- 1)),bL p ro (oO w),SF s.f [encS s0] (s.D.map cq) (s.H.map cA) (s.A.map cw)] (1,[iI (bif b then l' else-1),bL p ro (oO w),SF s.f [encS s0] (s.D.map cq) (s.H.map cA) (s.A.map cw)]):=
     bU VA (bu (c:=s.f.kind==9) (by rw [k9];rfl) (aj a2 aL))
    exact aj j (bj aL)
   ·have:=XE t;rw [aab,if_pos k9,h0,Sw];simp only [iv];omega
  ·obtain⟨Sv,Sr⟩:=n9 k9;have Sv:=Ov.1 Sv;have Sr:=Ov.1 Sr
   by_cases KM:s.f.kind=19
   ·obtain⟨s0,h0⟩:=wE (RZ KM);have hL0:s.L.map encS=[encS s0]:=by rw [h0];rfl
    rw [hL0]at C R;obtain⟨b,l',c',kW,a1,a2,a3⟩:=chE ct hE KS hj.l3 (f:=s.f) (D:=s.D.map cq) (H:=s.H.map cA) hA h2 (kL s0 (by rw [h0];simp)) kA cY;refine⟨b,l',c',kW,C _ (aX ?_),R _ (aX ?_),λh=>(a3 h).ext λt=> ?_⟩
    ·erw [st.pk];have j:bM vV [K0 p (bx (lf- 1)),ah (bf ro),.ab 0 cn,J (bC 0 (oO w)),SF s.f [encS s0] (s.D.map cq) (s.H.map cA) (s.A.map cw)] (1,[ak b,K0 p l',ah (bf ro),.ab 0 c',J (bC 0 (oO w)),SF s.f [encS s0] (s.D.map cq) (s.H.map cA) (s.A.map cw)]):=by
      refine bU LX ?_;rw [st.pk];refine aC (c:=s.f.kind==9) (Pg) (bu (c:=s.f.kind==19) (Pg) (aj a1 (af ?_)));erw [kW];rfl
     exact YA
    ·have j:bM H7 [iI (bx (lf- 1)),bL p ro (oO w),SF s.f [encS s0] (s.D.map cq) (s.H.map cA) (s.A.map cw)] (1,[iI (bif b then l' else-1),bL p ro (oO w),SF s.f [encS s0] (s.D.map cq) (s.H.map cA) (s.A.map cw)]):=
      bU VA (aC (c:=s.f.kind==9) (Pg) (bu (c:=s.f.kind==19) (Pg) (aj a2 aL)))
     exact aj j (bj aL)
    ·have:=XE t;rw [aab,if_neg k9,h0,Sv,Sr];simp only [iv];omega
   ·have Sw:=Ov.1 (n19 KM);have hx:∀i,i<s.L.length->WI p (kZ (cJ (oO w) s.f) s.f (i:Nat)):=λi _=>wiD hj q5 q6 i;obtain⟨b,l',c',kW,cr,a2,a3⟩:=aEw (c:=cJ (oO w) s.f) (hj.cJ s.f).ok (f:=s.f) (D:=s.D.map cq) (H:=s.H.map cA) (A:=s.A.map cw) hL kL hx (bx (lf- 1)) cn cc cY;have jr:=aMz (p:=p) (ro:=ro) KS.ok (f:=s.f) (L:=s.L.map encS) (D:=s.D.map cq) (H:=s.H.map cA) (A:=s.A.map cw) (n:=bx (lf- 1)) k9 KM;refine⟨b,l',c',kW,C _ (aX ?_),R _ (aX (aj jr (aX (aj a2.diag aL)))),λh=>(a3 h).ext λt=> ?_⟩
    ·erw [st.pk]
     by_cases hk:s.f.kind=17∨s.f.kind=18∨s.f.kind=20
     ·rw [RB (by omega) (by omega)]at cr;have j:=aFM (p:=p) (ro:=ro) KS.ok (D:=s.D.map cq) (H:=s.H.map cA) (A:=s.A.map cw) hk hlen.2.2 cr;exact YA
     ·have j:=aFN (p:=p) (ro:=ro) KS.ok (f:=s.f) (L:=s.L.map encS) (D:=s.D.map cq) (H:=s.H.map cA) (A:=s.A.map cw) (lf:=bx (lf- 1)) st.pk k9 KM (by omega) (by omega) (by omega);refine aj j (aX ?_);erw [st.pk];refine aj (aFh (w:=cK (oO w) s.f) (λi=>aFf (by omega) (by omega) (by omega) _) hL cr) (af ?_);erw [kW];cases b<;>rfl
    ·have:=XE t;rw [aab,if_neg k9,Sv,Sr,Sw];omega
end
end Go.Proofs.YtomkobcipaligaaGreatDoor
namespace Go.az
def Yi{p:Prop}(h:p:=by rw [eE];exact hx):p:=h
def Pn{p:Prop}(h:p:=by exact jf.2 (by omega)):p:=h
end Go.az
namespace Go.Proofs.YtomkobcipaligaaGreatDoor
open Go Go.az
section
variable{lo x:Int}{o:OB}
theorem aCf{l:cT}{hi:Int}(h:kM l lo hi=true){i:Nat}(dV:i<l.length):sy l lo hi i=false:=by
 unfold kM at h;exact aiU
theorem az2{l:cT}{up:Int}(h:kM l lo up=true):l.Nodup:=by
 have hd:∀{i:Nat} (hi:i<l.length),l.getD i 0=l[i]:=λhi=>tQ;have step:∀(i:Nat) (hi:i+1<l.length),l[i]<l[i+1]:=λi hi=>by
  have hp:=aCf h hi;unfold sy at hp;rw [hd hi]at hp;cases ha:decide (l[i+1]<lo)with
  |true=>rw [ha]at hp;cases hp
  |false=>
   cases hb:decide (up<l[i+1])with
   |true=>rw [ha,hb]at hp;cases hp
   |false=>
    rw [ha,hb,show decide (0<i+1)=true by simp]at hp;rw [show i+1- 1=i from rfl,hd (by omega)]at hp;simpa using hp
 have lt:∀(j i:Nat) (hj:j<l.length) (qj:i<j),l[i]'(by omega)<l[j]:=by
  intro j
  induction j with
  |zero=>intro i _ h;omega
  |succ j ih=>
   intro i hj qj;have s:=step j hj
   by_cases e:i=j
   ·subst e;exact s
   ·have:=ih i (by omega) (by omega);omega
 refine IG.2 λi j hi hj qj e=> ?_;have:=lt j i hj qj;omega
def vD(o:OB):Bool:=bif decide (o.size<1)then false else !decide (16384<o.size)
def rF(o:OB):Bool:=bif decide (0<ln (ints o.set))then false else bif decide (o.lo< -2147483648)then false else bif decide (2147483647<o.hi)then false else !decide (o.hi<o.lo)
def nK(l:List OB)(o:OB):Bool:=bif o.size != 1 then false else bif o.lo != 0 then false else bif o.hi != 0 then false else kM o.set 0 (bx (ln (cf l)- 1))
def qd(l:List OB)(x:Int):Bool:=bif (cM l x).ptr then true else(cM l x).size != 1
def mS(l:List OB)(o:OB):Bool:=vD o&&bif !o.ptr then rF o else nK l o&& !o.set.any (qd l)
def yi:Int->List OB->Int
 |s,[]=>s
 |s,o::os=>yi (bx (s+o.size)) os
def tV(l:List OB):Bool:=bif decide (ln (cf l)<1)then false else bif decide (2048<ln (cf l))then false else bif l.all (mS l)then decide (yi 0 l<=16384)else false
section
variable {l:List OB} (hl:l.length<=mx) (ho:∀o∈l,o.Ok)
theorem Y8(hl:l.length<=mx)(h:nK l o=true):∀x∈o.set,ib x l.length=true:=by
 intro x hx;unfold nK at h;cases h1:o.size != 1 with
 |true=>exact Fq
 |false=>
  cases h2:o.lo != 0 with
  |true=>rw [h1,h2]at h;cases h
  |false=>
   cases h3:o.hi != 0 with
   |true=>rw [h1,h2,h3]at h;cases h
   |false=>
    rw [h1,h2,h3]at h;have:=Xk (show kM o.set 0 (bx (ln (cf l)- 1))=true from h) x hx;simp only [mx]at hl;rw [dq,jv (by omega) (by omega)]at this;exact Pn
theorem dh(o:OB):bM TP [J (fU o)] (bif vD o then(0,[J (fU o)])else(1,[aq,J (fU o)])):=by
 refine bU arq (av (c:=decide (o.size<1)) (λh=>af ?_) λh=>av (c:=decide (16384<o.size)) (λg=>af ?_) λg=>af ?_)
 ·unfold vD;rw [h];rfl
 ·unfold vD;rw [h,g];rfl
 ·unfold vD;rw [h,g];rfl
theorem aMc(o:OB):bM VF [J (fU o)] (bif vD o then(0,[J (fU o)])else(1,[aq,J (fU o)])):=by
 refine bU axf (av (c:=decide (o.size<1)) (λh=>af ?_) λh=>av (c:=decide (16384<o.size)) (λg=>af ?_) λg=>af ?_)
 ·unfold vD;rw [h];rfl
 ·unfold vD;rw [h,g];rfl
 ·unfold vD;rw [h,g];rfl
theorem aMd(hk:o.Ok):bM TA [J [bJ (cf l)],J (fU o)] (bif nK l o then(0,[J [bJ (cf l)],J (fU o)])else(1,[aq,J [bJ (cf l)],J (fU o)])):=by
 refine bU aqS (av (c:=o.size != 1) (λh=>af ?_) λh=>av (c:=o.lo != 0) (λg=>af ?_) λg=>av (c:=o.hi != 0) (λi=>af ?_) λi=>aj (Q2 0 (bx (ln (cf l)- 1)) hk) (av (c:= !kM o.set 0 (bx (ln (cf l)- 1))) (λj=>af ?_) λj=>af ?_))
 ·unfold nK;rw [h];rfl
 ·unfold nK;rw [h,g];rfl
 ·unfold nK;rw [h,g,i];rfl
 ·simp only [dT]at j;unfold nK;rw [h,g,i,j];rfl
 ·simp only [dF]at j;unfold nK;rw [h,g,i,j];rfl
theorem aMb(hk:o.Ok):bM Vj [bJ (cf l),J (fU o)] (bif nK l o then(0,[J (fU o)])else(1,[aq,J (fU o)])):=by
 refine bU av6 (av (c:=o.size != 1) (λh=>af ?_) λh=>av (c:=o.lo != 0) (λg=>af ?_) λg=>av (c:=o.hi != 0) (λi=>af ?_) λi=>aj (Q1 0 (bx (ln (cf l)- 1)) hk) (av (c:= !kM o.set 0 (bx (ln (cf l)- 1))) (λj=>af ?_) λj=>af ?_))
 ·unfold nK;rw [h];rfl
 ·unfold nK;rw [h,g];rfl
 ·unfold nK;rw [h,g,i];rfl
 ·simp only [dT]at j;unfold nK;rw [h,g,i,j];rfl
 ·simp only [dF]at j;unfold nK;rw [h,g,i,j];rfl
theorem JH(hx:ib x l.length=true):gB (gA (cf l) x.toNat) 3=(cM l x).ptr ∧gI (gA (cf l) x.toNat) 0=(cM l x).size :=by rw [lM hx];exact⟨rfl,rfl⟩
theorem aED(hx:ib x l.length=true):Ev US [iI x,J [bJ (cf l)]] (0,[ak (qd l x),J [bJ (cf l)]]):=by
 have fJ:ib x (cf l).length =true:=Yi;obtain⟨g1,g2⟩:=JH hx;refine bz ave (aH fJ ?_);show E (λ_ _=>bif gB (gA (cf l) x.toNat) 3 then _ else aP _ (some (0,[ak (gI (gA (cf l) x.toNat) 0 != 1),_]))) _;rw [g1,g2];refine av (c:=(cM l x).ptr) (λh=>af ?_) λh=>aH fJ (af ?_)
 ·unfold qd;rw [h];rfl
 ·unfold qd;rw [h];rfl
theorem oset(hk:o.Ok)(hr:∀x∈o.set,ib x l.length=true):Ev SP [aa (ints o.set),J [bJ (cf l)]] (0,[ak (o.set.any (qd l)),J [bJ (cf l)]]):=by
 refine JL (l:=o.set) (p:=qd l) (LF:=λN m=>Hg (FU CX EE N) N m [aa (ints o.set),iI (ln (ints o.set)),iI 0,J [bJ (cf l)]]) (IX:=λN _=>FU CX EE N SV [aa (ints o.set),J [bJ (cf l)]]) (st:=[J [bJ (cf l)]]) ?_ ?_ ?_ ?_
 ·refine scan (l:=o.set) (p:=qd l) (hit:=λi=>(0,[iI (i:Int),J [bJ (cf l)]])) (LF:=λi N m=>Hg (FU CX EE N) N m [aa (ints o.set),iI (ln (ints o.set)),iI (i:Int),J [bJ (cf l)]])
   (bF aa4 (aC dU aL))
   λi hi r h2 h3=>bF aa4<|bu (dr hi)<|aH (cH hi)<|by
    have hd:o.set.getD i 0=o.set[i]:=tQ;rw [mh hi,ix hi hk,hd];exact aj (aED (hr _ (dO hi))) (av (λhc=>af (h2 hc)) h3)
 ·exact λi h=>bz abi (aj h.diag (aX aL))
 ·exact λh=>bz abi (aj h.diag (bj aL))
 ·exact λi h=>bz aoX (aj h aL)
theorem aEA(hk:o.Ok)(hr:∀x∈o.set,ib x l.length=true):bP HL [bJ (cf l),iI 0,J (fU o)] (bif o.set.any (qd l)then(0,[aq,J (fU o)])else(1,[J (fU o)])):=by
 refine oY (l:=o.set) (p:=qd l) (hit:=(0,[aq,J (fU o)])) (done:=(1,[J (fU o)])) (LF:=λi N m=>HL (FU CX EE N) N m [bJ (cf l),iI (i:Int),J (fU o)])
  (bF acH (aC (dU (f:=λn:Int=>[iI n]) (l:=o.set)) aL))
  λi hi r h2 h3=>bF acH<|bu (dr (f:=λn:Int=>[iI n]) hi)<|aH (cH (f:=λn:Int=>[iI n]) hi)<|by
   have hd:o.set.getD i 0=o.set[i]:=tQ;have hx:=hr _ (dO hi);have fJ:ib o.set[i] (cf l).length =true:=Yi;obtain⟨g1,g2⟩:=JH hx;rw [show gR (fU o) 4=ints o.set from rfl,mh hi,ix hi hk,hd,g1,g2];refine aH fJ (av (c:=(cM l o.set[i]).ptr) (λa=>af (h2 ?_)) λa=>aH (cH (f:=λn:Int=>[iI n]) hi) (aH fJ (av (c:=(cM l o.set[i]).size != 1) (λb=>af (h2 ?_)) λb=>h3 ?_)))
   ·unfold qd;rw [a];rfl
   ·unfold qd;rw [a,b];rfl
   ·unfold qd;rw [a,b];rfl
theorem aMa(hl:l.length<=mx)(hk:o.Ok):Ev V5 [bJ (cf l),J (fU o)] (0,[ak (mS l o)]):=by
 refine bz ayV (aj (aMc o) ?_);cases h1:vD o with
 |false=>exact bj (af (by unfold mS;rw [h1];rfl))
 |true=>
  refine aX (av (c:= !o.ptr) (λhp=> ?_) λhp=> ?_)
  ·have hs:(ln (ints o.set)==0)= !decide (0<ln (ints o.set)):=by
    rw [dq];cases o.set<;>simp;omega
   have e:mS l o=rF o:=by unfold mS;rw [h1,hp];rfl
   show E (λ_ _=>bif ln (ints o.set)==0 then _ else _) _;rw [hs,e];refine av (c:= !decide (0<ln (ints o.set))) (λa=>av (c:=decide (-2147483648<=o.lo)) (λb=>av (c:=decide (o.hi<=2147483647)) (λc=>af ?_) λc=>af ?_) λb=>af ?_) λa=>af ?_
   ·have b':decide (o.lo< -2147483648)=false:=by simp at b⊢;omega
    have c':decide (2147483647<o.hi)=false:=by simp at c⊢;omega
    have d':decide (o.lo<=o.hi)= !decide (o.hi<o.lo):=by by_cases h:o.lo<=o.hi<;>simp [h]<;>omega
    simp only [dT]at a;unfold rF;rw [a,b',c',<-d'];rfl
   ·have b':decide (o.lo< -2147483648)=false:=by simp at b⊢;omega
    have c':decide (2147483647<o.hi)=true:=by simp at c⊢;omega
    simp only [dT]at a;unfold rF;rw [a,b',c'];rfl
   ·have b':decide (o.lo< -2147483648)=true:=by simp at b⊢;omega
    simp only [dT]at a;unfold rF;rw [a,b'];rfl
   ·simp only [dF]at a;unfold rF;rw [a];rfl
  ·have e:mS l o=(nK l o&& !o.set.any (qd l)):=by unfold mS;rw [h1,hp];rfl
   rw [e];refine aj (aMb hk) ?_;cases h3:nK l o with
   |false=>exact fX
   |true=>
    refine aX (aj (aEA hk (Y8 hl h3)).diag ?_);cases o.set.any (qd l)with
    |true=>exact mG
    |false=>exact fX
include hl ho in
theorem aEF:bP Bg [iI 0,bJ (cf l),iI (ln (cf l)),iI 0,J [bJ (cf l)]] (bif l.all (mS l)then(1,[iI (yi 0 l),J [bJ (cf l)]])else(0,[aq,J [bJ (cf l)]])):=by
 have k:=fD (m:=l.length) (P:=λi=>∀s,bP Bg [iI s,bJ (cf l),iI (ln (cf l)),iI (i:Int),J [bJ (cf l)]] (bif (l.drop i).all (mS l)then(1,[iI (yi s (l.drop i)),J [bJ (cf l)]])else(0,[aq,J [bJ (cf l)]])))
  (λs=>by
    rw [gp];exact bF aci (aC dU aL))
  λi hi ih s=>by
   have hk:=ho _ (dO hi);have gO:MX (gA (cf l) ((i:Int).toNat))=fU l[i]:=by rw [fM hi,alr]
   rw [gF hi,Fa,yi];have C:∀r:UO,_->bP Bg [iI s,bJ (cf l),iI (ln (cf l)),iI (i:Int),J [bJ (cf l)]] r:=λr h=>by
    refine bF aci (bu (dr hi) (aH (cH hi) ?_));rw [gO];refine aj (dh (l[i]'hi)) ?_;exact h
   cases h1:vD l[i]with
   |false=>
    rw [h1]at C;have e:mS l l[i]=false:=by unfold mS;rw [h1];rfl
    rw [e];exact C _ (bj aL)
   |true=>
    rw [h1]at C;refine C _ (aX (av (c:= !l[i].ptr) (λhp=> ?_) λhp=> ?_))
    ·have e:mS l l[i]=rF l[i]:=by unfold mS;rw [h1,hp];rfl
     rw [e];refine av (c:=decide (0<ln (ints l[i].set))) (λa=>af ?_) λa=>av (c:=decide (l[i].lo < -2147483648)) (λb=>af ?_) λb=>av (c:=decide (2147483647<l[i].hi)) (λc=>af ?_) λc=>av (c:=decide (l[i].hi <l[i].lo)) (λd=>af ?_) λd=> ?_
     ·unfold rF;rw [a];rfl
     ·unfold rF;rw [a,b];rfl
     ·unfold rF;rw [a,b,c];rfl
     ·unfold rF;rw [a,b,c,d];rfl
     ·have e2:rF l[i]=true:=by unfold rF;rw [a,b,c,d];rfl
      rw [e2,ox];have:=ih (bx (s+l[i].size));rw [<-ix hi hl]at this;exact this
    ·have e:mS l l[i]=(nK l l[i]&& !l[i].set.any (qd l)):=by unfold mS;rw [h1,hp];rfl
     rw [e];refine aj (aMd (l:=l) hk) ?_;cases h3:nK l l[i]with
     |false=>exact fX
     |true=>
      refine aX (aj (oset hk (Y8 hl h3)) ?_);cases l[i].set.any (qd l)with
      |true=>exact mG
      |false=>
       have:=ih (bx (s+l[i].size));rw [<-ix hi hl]at this;exact bj this
 have:=k 0;exact Ya
include hl ho in
theorem aEE:bP HF [bJ (cf l),iI 0,iI 0] (bif l.all (mS l)then(1,[iI (yi 0 l)])else(0,[aq])):=by
 have k:=fD (m:=l.length) (P:=λi=>∀s,bP HF [bJ (cf l),iI s,iI (i:Int)] (bif (l.drop i).all (mS l)then(1,[iI (yi s (l.drop i))])else(0,[aq])))
  (λs=>by
    rw [gp];exact bF acs (aC dU aL))
  λi hi ih s=>by
   have hk:=ho _ (dO hi);have gO:MX (gA (cf l) ((i:Int).toNat))=fU l[i]:=by rw [fM hi,alr]
   have gS:gI (gA (cf l) ((i:Int).toNat)) 0=l[i].size :=zO;rw [gF hi,Fa,yi];refine bF acs (bu (dr hi) (aH (cH hi) ?_));rw [gO,gS];refine aj (aMa hl hk) ?_;cases mS l l[i]with
   |false=>exact mG
   |true=>
    have:=ih (bx (s+l[i].size));rw [<-ix hi hl]at this;exact bj (aH (cH hi) this)
 have:=k 0;exact Ya
include hl ho in
theorem ani:Ev Vx [bJ (cf l)] (0,[ak (tV l)])∧Ev VP [bJ (cf l)] (0,[ak (tV l)]):=by
 have a6:bM U8 [J [bJ (cf l)]] (bif (bif decide (ln (cf l)<1)then true else decide (2048<ln (cf l)))then(1,[aq,J [bJ (cf l)]])else(0,[J [bJ (cf l)]])):=by
  refine bU au4 (av (c:=decide (ln (cf l)<1)) (λa=>af (rf)) λa=>av (c:=decide (2048<ln (cf l))) (λb=>af (nC)) λb=>af (nC))
 have r6:bM Vq [bJ (cf l)] (bif (bif decide (ln (cf l)<1)then true else decide (2048<ln (cf l)))then(1,[aq])else(0,[])):=by
  refine bU awd (av (c:=decide (ln (cf l)<1)) (λa=>af (rf)) λa=>av (c:=decide (2048<ln (cf l))) (λb=>af (nC)) λb=>af (nC))
 have e:tV l=bif (bif decide (ln (cf l)<1)then true else decide (2048<ln (cf l)))then false else bif l.all (mS l)then decide (yi 0 l<=16384)else false:=by
  unfold tV;cases decide (ln (cf l)<1)<;>rfl
 rw [e];have c1:=aEF hl ho;have c2:=aEE hl ho;cases hx:(bif decide (ln (cf l)<1)then true else decide (2048<ln (cf l)))with
 |true=>
  rw [hx]at a6 r6;exact⟨bz Vf (aj a6 (bj aL)),bz VB (aj r6 (bj aL))⟩
 |false=>
  rw [hx]at a6 r6;cases ha:l.all (mS l)with
  |true=>
   rw [ha]at c1 c2;exact⟨bz Vf (aj a6 (aX (aj c1.diag (bj aL)))),bz VB (aj r6 (aX (aj c2.diag (bj aL))))⟩
  |false=>
   rw [ha]at c1 c2;exact⟨bz Vf (aj a6 (aX (aj c1.diag (aX aL)))),bz VB (aj r6 (aX (aj c2.diag (aX aL))))⟩
include hl in
theorem aCs(h:tV l=true):OL l:=by
 unfold tV at h;cases h1:decide (ln (cf l)<1)with
 |true=>exact Fq
 |false=>
  cases h2:decide (2048<ln (cf l))with
  |true=>rw [h1,h2]at h;cases h
  |false=>
   cases h3:l.all (mS l)with
   |false=>rw [h1,h2,h3]at h;cases h
   |true=>
    rw [jN]at h3;have hp:∀o∈l,(o.ptr=false->o.set=[])∧o.set.Nodup∧∀x∈o.set,ib x l.length=true:=λo hm=>by
     have:=h3 o hm;unfold mS at this;rw [bS]at this;cases hq:o.ptr with
     |false=>
      rw [hq]at this;have h2:=this.2;have hs:o.set=[]:=by
       simp only [afQ,cg]at h2;unfold rF at h2;cases hz:decide (0<ln (ints o.set))with
       |true=>rw [hz]at h2;cases h2
       |false=>
        rw [dq]at hz;cases hs:o.set with
        |nil=>rfl
        |cons a b=>rw [hs]at hz;simp at hz
      refine⟨λ_=>hs,by rw [hs];exact v8,by rw [hs];simp⟩
     |true=>
      rw [hq]at this;have h2:=this.2;simp only [Bool.not_true,cC,bS]at h2;refine⟨λh=>(bh),?_,Y8 hl h2.1⟩;have h3:=h2.1;unfold nK at h3;cases y1:o.size != 1 with
      |true=>rw [y1]at h3;cases h3
      |false=>
       cases y2:o.lo != 0 with
       |true=>rw [y1,y2]at h3;cases h3
       |false=>
        cases y3:o.hi != 0 with
        |true=>rw [y1,y2,y3]at h3;cases h3
        |false=>
         rw [y1,y2,y3]at h3;exact az2 (show kM o.set 0 (bx (ln (cf l)- 1))=true from h3)
    refine⟨?_,λo hm=>(hp o hm).1,λo hm=>(hp o hm).2.1,λo hm=>(hp o hm).2.2⟩;rw [dq]at h2;simp at h2;omega
end
end
end Go.Proofs.YtomkobcipaligaaGreatDoor
namespace Go.az
def Ps{p:Prop}(h:p:=by unfold pA;rw [a,b,c,d];rfl):p:=h
def Pm{p:Prop}(h:p:=by unfold w7;rw [a,b,c];rfl):p:=h
end Go.az
namespace Go.Proofs.YtomkobcipaligaaGreatDoor
open Go Go.az
section
variable {l:List OB} {cs:cT}
abbrev aO(l:List OB):AV:= J [bJ (cf l)]
abbrev aI(cs:cT):AV:= J [aa (ints cs)]
def w7(k:Int):Bool:=bif k==1 then true else bif k==14 then true else bif k==6 then true else k==7
def pA(l:List OB)(cs:cT)(e:CE):Bool:=bif w7 e.kind then true else bif e.kind==2 then bif dJ cs e.O then !(cM l e.O).ptr else false else bif e.kind==4 then e.op==18 else bif e.kind==5 then bif decide (7<=e.op)then decide (e.op<=15)else false else false
def aEv(k:Int):bM U7 [bE k] (0,[ak (w7 k)]):=by
 refine bU au3 (av (c:=k==1) (λa=>af ?_) λa=>av (c:=k==14) (λb=>af ?_) λb=>av (c:=k==6) (λc=>af ?_) λc=>af ?_)
 ·unfold w7;rw [a];rfl
 ·unfold w7;rw [a,b];rfl
 ·exact Pm
 ·exact Pm
def aNE(k:Int):bM U2 [bE k] (0,[ak (w7 k)]):=by
 refine bU auX (av (c:=k==1) (λa=>af ?_) λa=>av (c:=k==14) (λb=>af ?_) λb=>av (c:=k==6) (λc=>af ?_) λc=>af ?_)
 ·unfold w7;rw [a];rfl
 ·unfold w7;rw [a,b];rfl
 ·exact Pm
 ·exact Pm
def aL1(hc:cs.length<=mx)(hr:∀x∈cs,ib x l.length=true)(e:CE):bM Vt [aq,aO l,aI cs,J (aU e)] (0,[ak (pA l cs e),aO l,aI cs,J (aU e)]):=by
 refine bU awh ?_;rw [Kk,aaG,an1,eG];refine aj (aEv e.kind) (av (c:=w7 e.kind) (λa=>af ?_) λa=>av (c:=e.kind==2) (λb=>aj (uI e.O hc) (av (c:=dJ cs e.O) (λc=> ?_) λc=>af ?_)) λb=>av (c:=e.kind==4) (λc=>af ?_) λc=>av (c:=e.kind==5) (λd=>av (c:=decide (7<=e.op)) (λg=>af ?_) λg=>af ?_) λd=>af ?_)
 ·unfold pA;rw [a];rfl
 ·have hx:=hr _ (BY.1 c);refine aH (by show ib e.O (cf l).length =true;rw [eE];exact hx) (af ?_);rw [show gB (gA (gR [bJ (cf l)] 0) e.O.toNat) 3=(cM l e.O).ptr from(JH hx).1];unfold pA;rw [a,b,c];rfl
 ·unfold pA;rw [a,b,c];rfl
 ·unfold pA;rw [a,b,c];rfl
 ·unfold pA;rw [a,b,c,d,g];rfl
 ·unfold pA;rw [a,b,c,d,g];rfl
 ·exact Ps
def ba6(hc:cs.length<=mx)(hr:∀x∈cs,ib x l.length=true)(e:CE):bM Vp [bJ (cf l),aa (ints cs),J (aU e)] (bif pA l cs e then(0,[J (aU e)])else(1,[aq,J (aU e)])):=by
 refine bU awc ?_;rw [Kk,aaG,an1,eG];refine aj (aNE e.kind) (av (c:=w7 e.kind) (λa=>af ?_) λa=>av (c:=e.kind==2) (λb=>aj (um e.O hc) (av (c:= !dJ cs e.O) (λc=>af ?_) λc=> ?_)) λb=>av (c:=e.kind==4) (λc=>av (c:=e.op != 18) (λg=>af ?_) λg=>af ?_) λc=>av (c:=e.kind==5) (λd=>av (c:=decide (e.op<7)) (λg=>af ?_) λg=>av (c:=decide (15<e.op)) (λi=>af ?_) λi=>af ?_) λd=>af ?_)
 ·unfold pA;rw [a];rfl
 ·simp only [dT]at c;unfold pA;rw [a,b,c];rfl
 ·simp only [dF]at c;have hx:=hr _ (BY.1 c);refine aH (Yi) ?_;rw [(JH hx).1];refine av (c:=(cM l e.O).ptr) (λd=>af ?_) λd=>af ?_
  ·exact Ps
  ·exact Ps
 ·have:(e.op==18)=false:=by simpa using g
  unfold pA;rw [a,b,c,this];rfl
 ·have:(e.op==18)=true:=by simpa using g
  unfold pA;rw [a,b,c,this];rfl
 ·have:decide (7<=e.op)=false:=by simp at g⊢;omega
  unfold pA;rw [a,b,c,d,this];rfl
 ·have h1:decide (7<=e.op)=true:=by simp at g⊢;omega
  have h2:decide (e.op<=15)=false:=by simp at i⊢;omega
  unfold pA;rw [a,b,c,d,h1,h2];rfl
 ·have h1:decide (7<=e.op)=true:=by simp at g⊢;omega
  have h2:decide (e.op<=15)=true:=by simp at i⊢;omega
  unfold pA;rw [a,b,c,d,h1,h2];rfl
 ·exact Ps
def aDp(hc:cs.length<=mx)(hr:∀x∈cs,ib x l.length=true):∀e:CE,e.Ok->∃b,Ev Ih [bJ (cf l),aa (ints cs),J (aU e)] (0,[ak b])∧Ev HZ [bJ (cf l),aa (ints cs),J (aU e)] (0,[ak b]):=by
 refine CE.ind λe ih bB=> ?_;have j:=aL1 hc hr e;have r:=ba6 hc hr e;cases hh:pA l cs e with
 |false=>
  rw [hh]at j r;refine⟨false,bz aeh ?_,bz ad0 ?_⟩
  ·rw [eG];exact aj j (bj aL)
  ·rw [eG];exact aj r (bj aL)
 |true=>
  rw [hh]at j r;have Zo:∀y,∃b,y∈e.L->(Ev Ih [bJ (cf l),aa (ints cs),J (aU y)] (0,[ak b])∧Ev HZ [bJ (cf l),aa (ints cs),J (aU y)] (0,[ak b])):=λy=>by
   by_cases hy:y∈e.L
   ·obtain⟨b,hb⟩:=ih y hy (bB.ui hy);exact⟨b,λ_=>hb⟩
   ·exact⟨true,λh=>absurd h hy⟩
  obtain⟨f,hf⟩:=W6 Zo;have k1:=scan (l:=e.L) (p:=λy=> !f y) (hit:=λi=>(0,[iI (i:Int),aO l,aI cs])) (done:=(1,[aO l,aI cs]))
   (LF:=λi N m=>LN (FU CX EE N) N m [aT (e.L.map aU),iI (ln (e.L.map aU)),iI (i:Int),aO l,aI cs])
   (bF aa5 (aC dU aL))
   λi hi r h2 h3=>bF aa5<|bu (dr hi)<|aH (cH hi)<|by
    rw [su hi,ix hi bB.len];have q:Ev Vw [J (aU e.L[i]),aO l,aI cs] (0,[ak (!f e.L[i]),aO l,aI cs]):=by
     refine bz axq ?_;rw [eG];exact aj (hf e.L[i] (dO hi)).1 aL
    exact aj q (av (λpF=>af (h2 pF)) h3)
  have k3:=JL (l:=e.L) (p:=λy=> !f y) (IX:=λN _=>FU CX EE N SW [aT (e.L.map aU),aO l,aI cs]) (CT:=λN _=>FU CX EE N SQ [aT (e.L.map aU),aO l,aI cs]) (st:=[aO l,aI cs]) k1
   (λi h=>bz abj (aj h.diag (aX aL)))
   (λh=>bz abj (aj h.diag (bj aL)))
   (λi h=>bz aoY (aj h aL))
  have k2:=oY (l:=e.L) (p:=λy=> !f y) (hit:=(0,[aq,J (aU e)])) (done:=(1,[J (aU e)]))
   (LF:=λi N m=>MB (FU CX EE N) N m [bJ (cf l),aa (ints cs),iI (i:Int),J (aU e)])
   (bF acJ (aC (Yh) (af (by rw [eG]))))
   λi hi r h2 h3=>bF acJ<|akx
  refine⟨!e.L.any λy=> !f y,bz aeh ?_,bz ad0 ?_⟩
  ·rw [eG];refine aj j (aX ?_);rw [<-tZ]at k3;exact aj k3 aL
  ·rw [eG];simp only [cg]at r;refine aj r (aX ?_);erw [eG];refine aj k2.diag ?_;cases e.L.any λy=> !f y with
   |true=>exact mG
   |false=>exact fX
end
end Go.Proofs.YtomkobcipaligaaGreatDoor
namespace Go.az
def X8{p:Prop}(h:p:=by rw [nN];simp;omega):p:=h
end Go.az
namespace Go.Proofs.YtomkobcipaligaaGreatDoor
open Go Go.az
section
variable{n:Nat}
def aj3{n:Int}(h0:0<=n)(h1:n<18446744073709551616):IntKind.wrap .u64 n=n:=aiv
def aFs(h:n<4294967296):((BitVec.ofInt 64 (n:Int)&&&BitVec.ofInt 64 4294967295).toNat :Int)=n:=by
 rw [BitVec.toNat_and];have h1:(BitVec.ofInt 64 (n:Int)).toNat =n:=by
  rw [BitVec.toNat_ofInt];omega
 have h2:(BitVec.ofInt 64 4294967295).toNat =2^32- 1:=by rfl
 rw [h1,h2,Nat.and_two_pow_sub_one_eq_mod,W8 (by omega)]
def az8{n:Int}(h0:0<=n)(h:n<4294967296):Int.fdiv n (2^32)=0:=by
 rw [Int.fdiv_eq_ediv_of_nonneg _ (lE)];exact Int.ediv_eq_zero_of_lt h0 h
def aMi(h:n<4294967296):Ev Vc [.int .u64 1,.int .u64 (n:Int)] (0,[.int .u64 0,.int .u64 (n:Int)]):=by
 have h1:((BitVec.ofInt 64 1&&&BitVec.ofInt 64 4294967295).toNat :Int)=1:=by rfl
 have w0:IntKind.wrap .u64 0=0:=by rfl
 have w1:IntKind.wrap .u64 1=1:=by rfl
 have wn:IntKind.wrap .u64 (n:Int)=n:=aj3 (by omega) (by omega);have f1:Int.fdiv 1 (2^32)=0:=by rfl
 have f0:Int.fdiv 0 (2^32)=0:=by rfl
 have fn:Int.fdiv (n:Int) (2^32)=0:=az8 (by omega) (by omega);have a0:((BitVec.ofInt 64 0&&&BitVec.ofInt 64 4294967295).toNat :Int)=0:=by rfl
 have m:Ev Ut [.int .u64 1,.int .u64 (n:Int)] (0,[.int .u64 0,.int .u64 (n:Int)]):=by
  refine bz at3 (af ?_);rw [h1,aFs h,f1,fn,Int.zero_mul,Int.zero_mul,w0,wn,w1,Int.one_mul,wn,fn,IA,w0,f0,IA,w0,a0,w0,Int.one_mul,w0,IA,w0,f0];rfl
 exact bz awo (aj m aL)
abbrev Af:Row:=[iI (-1),iI (-1),iI (-1)]
abbrev JS:Row:=[iI 0,iI 0,iI 0]
def rz(k m:Nat):aZ:=List.replicate k Af++List.replicate m JS
def ahh(k m:Nat):(rz k m).length =k+m:=by simp [rz]
def ahd{k m d:Nat}(h:d<=m):sN (rz k m) k (List.replicate d Af)=rz (k+d) (m- d):=by
 unfold sN rz;rw [Xw (by simp),BS (by simp),BQ,List.drop_append,agr (by simp),mb,List.drop_replicate,BQ,Nat.add_sub_cancel_left,<-List.replicate_append_replicate]
def aLP:∀(m k:Nat),1<=k->k+m<=2048->bP Hk [iI (k:Int),ah (rz k m)] (0,[ah (rz (k+m) 0)]):=by
 intro m
 induction m using Nat.strongRecOn with
 |ind m ih=>
  intro k hk hb;have nN:ln (rz k m)=((k+m:Nat):Int):=by show(((rz k m).length :Nat):Int)=_;rw [ahh]
  refine bF apI ?_
  by_cases h0:m=0
  ·subst h0;exact aC (by rw [nN];simp) aL
  ·refine bu (X8) (aH (X8) (aH (X8) ?_));rw [mE,gD,ahh,show k+m- k=m by omega];have ht:(rz k m).take k=List.replicate k Af:=by
    unfold rz;rw [Xw (by simp),BS (by simp)]
   have hd:tj (rz k m) k m (List.replicate k Af)=rz (k+min k m) (m- min k m):=by
    unfold tj;rw [List.take_replicate,Nat.min_comm m k];exact ahd (by omega)
   rw [ht,hd,BQ];have hw:bx ((k:Int)+((min k m:Nat):Int))=((k+min k m:Nat):Int):=uX;rw [hw];have:=ih (m- min k m) (by omega) (k+min k m) (by omega) (by omega);rw [show k+min k m+(m- min k m)=k+m by omega]at this;exact this
def aDd(n:Nat):rz n 0=bf (List.replicate n kV):=by
 unfold rz;show _=(List.replicate n kV).map sG;rw [List.map_replicate];exact zG _
def aLQ(h1:1<=n)(h2:n<=2048):Ev TB [ah [Af],iI (n:Int)] (0,[ah (bf (List.replicate n kV))]):=by
 have j6:bM Tg [iI (n:Int)] (0,[]):=bU aqe (aC (by simp) aL);have KN:bM S9 [.int .u64 0,.int .u64 (n:Int)] (0,[]):=bU apV (bj (aC (eh) aL));have wn:IntKind.wrap .u64 (n:Int)=n:=aj3 (by omega) (by omega);have w6:bx (n:Int)=n:=jv (by omega) (by omega);refine bz arv (aj j6 ?_);rw [wn];refine aj (aMi (n:=n) (by omega)) (aj KN ?_);show E (λN _=>aP (decide (0<=bx (n:Int))&&decide (bx (n:Int)<=bx (n:Int))&&decide ((bx (n:Int))*24<=140737488355328))<|bO (Hk (FU CX EE N) N N [iI (((min 1 ((List.replicate ((bx (n:Int)).toNat) JS).length):Nat):Int)),ah (tj (List.replicate ((bx (n:Int)).toNat) JS) 0 ((List.replicate ((bx (n:Int)).toNat) JS).length) [Af])]) λ_ o4=>some (0,[ah (gR o4 0)])) _;rw [w6,mE,BQ];have hc:tj (List.replicate n JS) 0 n [Af]=rz 1 (n- 1):=by
  unfold tj;rw [BS (sl)];have:=ahd (k:=0) (m:=n) (d:=1) h1;simpa [rz]using this
 rw [hc,show min 1 n=1 by omega];refine aH (eh) (aj (aLP (n- 1) 1 (by omega) (by omega)).diag (af ?_));show(0,[ah (rz (1+(n- 1)) 0)])=_;rw [aDd,show 1+(n- 1)=n by omega]
end
end Go.Proofs.YtomkobcipaligaaGreatDoor
namespace Go.az
def akU{p:Prop}(h:p:=by
 simp only [cg];cases hf:pV (i:Int) p.dp[i].jR ro with
 |none=>
  rw [hf]at hx;exact⟨_,_,C _ (bj (aj hx.diag (aX aL)))⟩
 |some dx=>
  rw [hf]at hx;obtain⟨x',y',fJ⟩:=ih dx (by rw [WR hf,hr]);refine⟨x',y',C _ (bj (aj hx.diag (bj ?_)))⟩;rw [ix hi hp.dp];exact fJ):p:=h
def akz{p:Prop}(h:p:=by
 obtain⟨x,hx⟩:=ih (wX q ro os[i]) (λy hy=>by rw [show(wX q ro os[i]).length =ro.length by simp [wX]];exact hr y hy);refine⟨x,C _ (aC hp (aH fj (aH (toN_lt fj) ?_)))⟩;rw [GX,ix hi hl];exact hx):p:=h
def aji{p:Prop}(h:p:=by
 rw [hr];refine aj5 hp.bw ?_;rw [<-dq fU p.bw];exact hb):p:=h
end Go.az
namespace Go.Proofs.YtomkobcipaligaaGreatDoor
open Go Go.az
section
variable{o:Int}{ro:List RO}{n:Nat}
abbrev aG(p:PG):AV:= J (mN p)
abbrev cR(l:List RO):AV:= ah (bf l)
abbrev rR(l:List RO):AV:= cD (bf l)
def wX(q:Int)(ro:List RO)(o:Int):List RO:=ro.set o.toNat {eu ro o with gr:=q}
def pV(q:Int):cT->List RO->Option (List RO)
 | [],ro=>some ro
 |o::os,ro=>bif decide (0<=(eu ro o).gr)then none else pV q os (wX q ro o)
def rE(up:Int):Int->List PR->List RO->Option (List RO)
 |_,[],ro=>some ro
 |q,x::xs,ro=>bif kM x.jR 0 up then(pV q x.jR ro).bind (rE up (q+1) xs)else none
theorem O0(h:ib o ro.length=true)(r:RO):(bf ro).set o.toNat (sG r)=bf (ro.set o.toNat r):=by
 show(ro.map sG).set o.toNat (sG r)=(ro.set o.toNat r).map sG;rw [Xx]
theorem yd(h:ib o ro.length=true):gA (bf ro) o.toNat=sG (eu ro o):=JI h
theorem toN_lt(h:ib o n=true):decide (o.toNat<n)=true:=by have:=jf.1 h;simp;omega
theorem WR{q:Int}:∀{os:cT} {ro dx:List RO},pV q os ro=some dx->dx.length=ro.length
 | [],ro,dx,h=>by injection h with h;rw [h]
 |o::os,ro,dx,h=>by
  simp only [pV]at h;cases hd:decide (0<=(eu ro o).gr)with
  |true=>rw [hd]at h;cases h
  |false=>
   rw [hd]at h;have:=WR (show pV q os (wX q ro o)=some dx from h);rw [this];simp [wX]
section
variable {p:PG}
theorem aLL{q:Int}{os:cT}(hl:os.length<=mx):∀ro:List RO,(∀x∈os,ib x ro.length=true)->∃x:aZ,
 bP D9 [iI q,aa (ints os),iI (ln (ints os)),iI 0,cR ro] (match pV q os ro with|some dx=>(1,[cR dx])|none=>(0,[aq,ah x,ah []])):=by
 have k:=fD (m:=os.length) (P:=λi=>∀ro:List RO,(∀x∈os,ib x ro.length=true)->∃x:aZ,
  bP D9 [iI q,aa (ints os),iI (ln (ints os)),iI (i:Int),cR ro] (match pV q (os.drop i) ro with|some dx=>(1,[cR dx])|none=>(0,[aq,ah x,ah []])))
  (λro _=>⟨[],by rw [gp];exact bF ach (aC dU aL)⟩)
  λi hi ih ro hr=>by
   have hd:os.getD i 0=os[i]:=tQ;have ho:=hr _ (dO hi);have fj:ib os[i] (bf ro).length =true:=B8;have C:∀r:UO,_->bP D9 [iI q,aa (ints os),iI (ln (ints os)),iI (i:Int),cR ro] r:=λr h=>by
    refine bF ach (bu (dr hi) (aH (cH hi) ?_));rw [mh hi,hd,yd ho];refine aH fj (aH (toN_lt fj) ?_);exact h
   rw [gF hi];simp only [pV];cases hp:decide (0<=(eu ro os[i]).gr)with
   |true=>exact⟨_,C _ (bu hp aL)⟩
   |false=>
    have GX:(bf ro).set os[i].toNat (setAt (sG (eu ro os[i])) 0 [iI q])=bf (wX q ro os[i]):=O0 ho {eu ro os[i]with gr:=q};exact akz
 intro ro hr;have:=k ro hr;rw [gD]at this;exact this
theorem aLK{q:Nat}(hq:q<p.dp.length)(hl:p.dp[q].jR.length <=mx):∀ro:List RO,(∀x∈p.dp[q].jR,ib x ro.length=true)->∃x:aZ,
 bP Ed [iI (q:Int),iI 0,aG p,rR ro] (match pV q p.dp[q].jR ro with|some dx=>(1,[aG p,rR dx])|none=>(0,[aq,aG p,cD x,cD []])):=by
 have hg:gR (gA (gR (mN p) 3) ((q:Int).toNat)) 1=ints p.dp[q].jR :=by
  show gR (gA (p.dp.map fr) ((q:Int).toNat)) 1=_;rw [fM hq];rfl
 have fp:ib (q:Int) (gR (mN p) 3).length =true:=cH (f:=fr) hq;generalize hos:p.dp[q].jR =os at hg hl⊢;have k:=fD (m:=os.length) (P:=λi=>∀ro:List RO,(∀x∈os,ib x ro.length=true)->∃x:aZ,
  bP Ed [iI (q:Int),iI (i:Int),aG p,rR ro] (match pV q (os.drop i) ro with|some dx=>(1,[aG p,rR dx])|none=>(0,[aq,aG p,cD x,cD []])))
  (λro _=>⟨[],by
    rw [gp];refine bF acr (aH fp ?_);rw [hg];exact aC dU aL⟩)
  λi hi ih ro hr=>by
   have hd:os.getD i 0=os[i]:=tQ;have ho:=hr _ (dO hi);have fj:ib os[i] (bf ro).length =true:=B8;have C:∀r:UO,_->bP Ed [iI (q:Int),iI (i:Int),aG p,rR ro] r:=λr h=>by
    refine bF acr (aH fp ?_);rw [hg,mh hi,hd,yd ho];refine bu (dr hi) (aH fp (aH (cH hi) (aH fj (aH (toN_lt fj) ?_))));exact h
   rw [gF hi];simp only [pV];cases hp:decide (0<=(eu ro os[i]).gr)with
   |true=>exact⟨_,C _ (bu hp aL)⟩
   |false=>
    have GX:(bf ro).set os[i].toNat (setAt (sG (eu ro os[i])) 0 [iI (q:Int)])=bf (wX q ro os[i]):=O0 ho {eu ro os[i]with gr:=q};exact akz
 intro ro hr;have:=k ro hr;rw [gD]at this;exact this
theorem aj5(h:n<=mx){l:cT}(hr:kM l 0 (bx ((n:Int)- 1))=true):∀x∈l,ib x n=true:=λx hx=>by
 have:=Xk hr x hx;simp only [mx]at h;rw [jv (by omega) (by omega)]at this;exact Pn
abbrev mP(p:PG):Int:=bx (ln (cf p.bw)- 1)
variable (hp:p.Ok)
include hp in
theorem aLI:∀ro:List RO,ro.length=p.bw.length->∃x y:aZ,
 bP El [nT (p.dp.map fr),iI (ln (p.dp.map fr)),iI 0,aG p,cR ro] (match rE (mP p) 0 p.dp ro with|some dx=>(1,[aG p,cR dx])|none=>(0,[aq,aG p,ah x,ah y])):=by
 have k:=fD (m:=p.dp.length) (P:=λi=>∀ro:List RO,ro.length=p.bw.length->∃x y:aZ,
  bP El [nT (p.dp.map fr),iI (ln (p.dp.map fr)),iI (i:Int),aG p,cR ro] (match rE (mP p) (i:Int) (p.dp.drop i) ro with|some dx=>(1,[aG p,cR dx])|none=>(0,[aq,aG p,ah x,ah y])))
  (λro _=>⟨[],[],by rw [gp];exact bF ac7 (aC dU aL)⟩)
  λi hi ih ro hr=>by
   have hk:=hp.gr _ (dO hi);have hg:gR (gA (p.dp.map fr) ((i:Int).toNat)) 1=ints p.dp[i].jR :=zO;have C:∀r:UO,_->bP El [nT (p.dp.map fr),iI (ln (p.dp.map fr)),iI (i:Int),aG p,cR ro] r:=λr h=>by
    refine bF ac7 (bu (dr hi) (aH (cH hi) ?_));rw [hg];refine aj (Q2 0 (mP p) hk.jR) ?_;exact h
   rw [gF hi];simp only [rE];cases hb:kM p.dp[i].jR 0 (mP p)with
   |false=>
    rw [hb]at C;exact⟨_,_,C _ (aX aL)⟩
   |true=>
    rw [hb]at C;have kX:∀x∈p.dp[i].jR,ib x ro.length=true:=aji;obtain⟨x,hx⟩:=aLL (q:=(i:Int)) hk.jR ro kX;exact akU
 intro ro hr;have:=k ro hr;rw [gD]at this;exact this
include hp in
theorem aLH:∀ro:List RO,ro.length=p.bw.length->∃x y:aZ,
 bP Ek [iI 0,aG p,rR ro] (match rE (mP p) 0 p.dp ro with|some dx=>(1,[aG p,rR dx])|none=>(0,[aq,aG p,cD x,cD y])):=by
 have k:=fD (m:=p.dp.length) (P:=λi=>∀ro:List RO,ro.length=p.bw.length->∃x y:aZ,
  bP Ek [iI (i:Int),aG p,rR ro] (match rE (mP p) (i:Int) (p.dp.drop i) ro with|some dx=>(1,[aG p,rR dx])|none=>(0,[aq,aG p,cD x,cD y])))
  (λro _=>⟨[],[],by rw [gp];exact bF ac0 (aC (dU (f:=fr) (l:=p.dp)) aL)⟩)
  λi hi ih ro hr=>by
   have hk:=hp.gr _ (dO hi);have hg:gR (gA (gR (mN p) 3) ((i:Int).toNat)) 1=ints p.dp[i].jR :=by
    show gR (gA (p.dp.map fr) ((i:Int).toNat)) 1=_;exact zO
   have C:∀r:UO,_->bP Ek [iI (i:Int),aG p,rR ro] r:=λr h=>by
    refine bF ac0 (bu (dr (f:=fr) hi) (aH (cH (f:=fr) hi) ?_));rw [hg];refine aj (Q1 0 (mP p) hk.jR) ?_;exact h
   rw [gF hi];simp only [rE];cases hb:kM p.dp[i].jR 0 (mP p)with
   |false=>
    rw [hb]at C;exact⟨_,_,C _ (aX aL)⟩
   |true=>
    rw [hb]at C;have kX:∀x∈p.dp[i].jR,ib x ro.length=true:=aji;obtain⟨x,hx⟩:=aLK hi hk.jR ro kX;exact akU
 intro ro hr;have:=k ro hr;rw [gD]at this;exact this
end
end
end Go.Proofs.YtomkobcipaligaaGreatDoor
namespace Go.az
def Fx{p:Prop}(h:p:=by rw [hr];exact ho):p:=h
def PF{p:Prop}(h:p:=by rw [eE];exact lT):p:=h
def Yv{p:Prop}(h:p:=by
 rw [hb]at C;exact⟨_,_,C _ (bj aL)⟩):p:=h
def aiS{p:Prop}(h:p:=by show ib o (p.bw.map fU).length =true;rw [eE];exact ho):p:=h
end Go.az
namespace Go.az
def afN:=@List.mem_or_eq_of_mem_set
end Go.az
namespace Go.Proofs.YtomkobcipaligaaGreatDoor
open Go Go.az
section
variable{e o t:Int}{ro:List RO}{m os:cT}
def yW(r:RO)(a b c:Int):Bool:=(r.gr==a)&&((r.task==b)&&((r.entry==c)&&true))
def vB(p:PG)(t e:Int)(ro:List RO)(o:Int):Bool:=bif (cM p.bw o).size != 1 then false else bif yW (eu ro o) (-1) t e then true else yW (eu ro o) (-1) (-1) (-1)
def ue(t e:Int)(ro:List RO)(o:Int):List RO:=ro.set o.toNat ⟨-1,t,e⟩
def mI(p:PG)(t e:Int):cT->List RO->Option (List RO)
 | [],ro=>some ro
 |o::os,ro=>bif vB p t e ro o then mI p t e os (ue t e ro o)else none
def afp(p:PG)(t e:Int):∀(a b:cT) (ro:List RO),mI p t e (a++b) ro=(mI p t e a ro).bind (mI p t e b)
 | [],b,ro=>rfl
 |o::a,b,ro=>by
  simp only [ki,mI];cases vB p t e ro o with
  |true=>exact afp p t e a b _
  |false=>rfl
def R2(ro:List RO):Prop:=∀r∈ro,r=kV∨(0<=r.gr∧r.task= -1∧r.entry= -1)∨(r.gr= -1∧0<=r.task)
def R2.set(h:R2 ro)(ht:0<=t)(o:Int):R2 (ue t e ro o):=λr hr=>by
 rcases afN hr with hr|rfl
 ·exact h r hr
 ·exact .inr (.inr ⟨rfl,ht⟩)
def Of{p:PG}{t e:Int}(ht:0<=t):∀{os:cT} {ro dx:List RO},mI p t e os ro=some dx->R2 ro->dx.length=ro.length∧R2 dx
 | [],ro,dx,h,hr=>by injection h with h;subst h;exact⟨rfl,hr⟩
 |o::os,ro,dx,h,hr=>by
  simp only [mI]at h;cases hd:vB p t e ro o with
  |false=>rw [hd]at h;cases h
  |true=>
   rw [hd]at h;have:=Of ht (show mI p t e os (ue t e ro o)=some dx from h) (hr.set ht o);exact⟨by rw [this.1];simp [ue],this.2⟩
section
variable {p:PG}
def jz(p:PG)(m:cT):Bool:=bif decide (8<ln (ints m))then false else jK m 0 (mP p)
def Fl(hp:p.bw.length<=mx)(h:jz p m=true):m.length<=8∧∀x∈m,ib x p.bw.length=true:=by
 unfold jz at h;cases h8:decide (8<ln (ints m))with
 |true=>rw [h8]at h;cases h
 |false=>
  rw [h8]at h;rw [dq]at h8;refine⟨by simp at h8;omega,λx hx=> ?_⟩;have:=agx (show jK m 0 (mP p)=true from h) x hx;simp only [mx]at hp;have hu:mP p=(p.bw.length:Int)- 1:=by
   show bx (ln (p.bw.map fU)- 1)=_;rw [dq,jv (by omega) (by omega)]
  rw [hu]at this;exact Pn
def aoa(hm:m.length<=mx):bM Te [aa (ints m),aG p] (bif jz p m then(0,[aG p])else(1,[aq,aG p,ah []])):=by
 refine bU ap2 (av (c:=decide (8<ln (ints m))) (λa=>af ?_) λa=>aj (ZL 0 (mP p) hm) (av (c:= !jK m 0 (mP p)) (λb=>af ?_) λb=>af ?_))
 ·unfold jz;rw [a];rfl
 ·simp only [dT]at b;unfold jz;rw [a,b];rfl
 ·simp only [dF]at b;unfold jz;rw [a,b];rfl
abbrev aE(y:EN):AV:= J (iM y)
def aNz{y:EN}(h1:y.ins.length<=mx)(h2:y.outs.length<=mx):bM TX [aG p,aE y] (bif jz p y.ins&&jz p y.outs then(0,[aG p,aE y])else(1,[aq,aG p,aE y,cD []])):=by
 refine bU ar2 (av (c:=decide (8<ln (ints y.ins))) (λa=>af ?_) λa=>av (c:=decide (8<ln (ints y.outs))) (λb=>af ?_) λb=>aj (QK 0 (mP p) h1) (av (c:= !jK y.ins 0 (mP p)) (λc=>af ?_) λc=>aj (QK 0 (mP p) h2) (av (c:= !jK y.outs 0 (mP p)) (λd=>af ?_) λd=>af ?_)))
 ·unfold jz;rw [a];rfl
 ·unfold jz;rw [a,b,cg,oU];rfl
 ·simp only [dT]at c;unfold jz;rw [a,b,c];rfl
 ·simp only [dT,dF]at c d;unfold jz;rw [a,b,c,d];rfl
 ·simp only [dF]at c d;unfold jz;rw [a,b,c,d];rfl
def akb(h:ib o p.bw.length=true):gI (gA (gR (mN p) 0) o.toNat) 0=(cM p.bw o).size :=(JH h).2
def aL9(hr:ro.length=p.bw.length)(ho:ib o p.bw.length=true):∃x:bp,bM S1 [iI o,aG p,cR ro,J [iI (-1),iI t,iI e]]
 (bif vB p t e ro o then(0,[aG p,cR ro,J [iI (-1),iI t,iI e]])else(1,[aq,aG p,cR ro,J [iI (-1),iI t,iI e],ah []])):=by
 have fj:ib o (bf ro).length =true:=by rw [eE,hr];exact ho
 have lT:ib o ro.length=true:=Fx;have Dv:ib o (gR (mN p) 0).length =true:=aiS;refine⟨[],bU apu (aH Dv ?_)⟩;rw [akb ho,yd lT];refine av (c:=(cM p.bw o).size != 1) (λa=>af ?_) λa=>aH fj (aH (toN_lt fj) (av (c:= !yW (eu ro o) (-1) t e) (λb=>aH fj (aH (toN_lt fj) (av (c:= !yW (eu ro o) (-1) (-1) (-1)) (λc=>af ?_) λc=>af ?_))) λb=>af ?_))
 ·unfold vB;rw [a];rfl
 ·simp only [dT]at b c;unfold vB;rw [a,b,c];rfl
 ·simp only [dT,dF]at b c;unfold vB;rw [a,b,c];rfl
 ·simp only [dF]at b;unfold vB;rw [a,b];rfl
def amY(hl:os.length<=mx)(ht:0<=t)(kX:∀x∈os,ib x p.bw.length=true):∀ro:List RO,ro.length=p.bw.length->R2 ro->∃x y:aZ,
 bP DV [iI t,iI e,aa (ints os),iI (ln (ints os)),iI 0,aG p,cR ro] (match mI p t e os ro with|some dx=>(1,[aG p,cR dx])|none=>(0,[aq,aG p,ah x,ah y])):=by
 have k:=fD (m:=os.length) (P:=λi=>∀ro:List RO,ro.length=p.bw.length->R2 ro->∃x y:aZ,
  bP DV [iI t,iI e,aa (ints os),iI (ln (ints os)),iI (i:Int),aG p,cR ro] (match mI p t e (os.drop i) ro with|some dx=>(1,[aG p,cR dx])|none=>(0,[aq,aG p,ah x,ah y])))
  (λro _ _=>⟨[],[],by rw [gp];exact bF aby (aC dU aL)⟩)
  λi hi ih ro hr h2=>by
   have hd:os.getD i 0=os[i]:=tQ;have ho:=kX _ (dO hi);have lT:ib os[i] ro.length=true:=Fx;have fj:ib os[i] (bf ro).length =true:=PF;obtain⟨_,j⟩:=aL9 (p:=p) (t:=t) (e:=e) hr ho;have C:∀r:UO,_->bP DV [iI t,iI e,aa (ints os),iI (ln (ints os)),iI (i:Int),aG p,cR ro] r:=λr h=>by
    refine bF aby (bu (dr hi) (aH (cH hi) ?_));rw [mh hi,hd];refine aj j ?_;exact h
   rw [gF hi];simp only [mI];cases hb:vB p t e ro os[i]with
   |false=>
    exact Yv
   |true=>
    rw [hb]at C;have GX:(bf ro).set os[i].toNat (setAt (gA (bf ro) os[i].toNat) 0 [iI (-1),iI t,iI e])=bf (ue t e ro os[i]):=by
     rw [yd lT];exact O0 lT ⟨-1,t,e⟩
    obtain⟨x,y,hx⟩:=ih (ue t e ro os[i]) (by rw [<-hr];simp [ue]) (h2.set ht _);refine⟨x,y,C _ (aX (aH fj (aH (toN_lt fj) ?_)))⟩;rw [ix hi hl];rw [show cR (ue t e ro (os[i]'hi))=ah ((bf ro).set (os[i]'hi).toNat (setAt (gA (bf ro) (os[i]'hi).toNat) 0 [iI (-1),iI t,iI e]))from uJ (AV.ab aen) GX.symm]at hx;exact hx
 intro ro hr h2;have:=k ro hr h2;rw [gD]at this;exact this
def Dm(t e:Int)(r:RO):Bool:=bif r.task==t then r.entry==e else false
def vA(p:PG)(ro:List RO)(o:Int)(m:Bool):Bool:=bif (cM p.bw o).size != 1 then false else bif decide (0<=(eu ro o).gr)then false else bif decide (0<=(eu ro o).task)then m else true
def aDs(ht:0<=t)(h:R2 ro)(ho:ib o ro.length=true):vA p ro o (Dm t e (eu ro o))=vB p t e ro o:=by
 have hm:=h _ (OF ho);unfold vA vB;generalize eu ro o=r at hm;generalize hx:((cM p.bw o).size != 1)=a;cases a with
 |true=>rfl
 |false=>
  simp only [cC];rcases hm with hm|⟨h1,h2,h3⟩|⟨h1,h2⟩
  ·subst hm;cases hz:yW kV (-1) t e<;>rfl
  ·have e1:decide (0<=r.gr)=true:=by simpa using h1
   have e2:(r.gr== -1)=false:=eh;unfold yW;rw [e1,e2];rfl
  ·have e1:decide (0<=r.gr)=false:=by simp;omega
   have e2:(r.gr== -1)=true:=sl;have e3:decide (0<=r.task)=true:=pU;have e4:(r.task== -1)=false:=eh;unfold yW Dm;rw [e1,e2,e3,e4];cases r.task==t<;>cases r.entry==e<;>rfl
def mn1(ho:ib o ro.length=true):bM Tq [iI t,iI e,iI o,rR ro] (0,[ak (Dm t e (eu ro o)),rR ro]):=by
 have fj:ib o (bf ro).length =true:=B8;refine bU aqI (aH fj (aH (toN_lt fj) ?_));rw [yd ho];refine av (c:=(eu ro o).task ==t) (λa=>aH fj (aH (toN_lt fj) (af ?_))) λa=>af ?_
 ·unfold Dm;rw [a];rfl
 ·unfold Dm;rw [a];rfl
def aL8(hr:ro.length=p.bw.length)(ho:ib o p.bw.length=true)(m:Bool):bM Th [iI o,ak m,aG p,rR ro]
 (bif vA p ro o m then(0,[aG p,rR ro])else(1,[aq,aG p,rR ro,cD []])):=by
 have fj:ib o (bf ro).length =true:=by rw [eE,hr];exact ho
 have lT:ib o ro.length=true:=Fx;have Dv:ib o (gR (mN p) 0).length =true:=aiS;refine bU aqf (aH Dv ?_);rw [akb ho,yd lT];refine av (c:=(cM p.bw o).size != 1) (λa=>af ?_) λa=>aH fj (aH (toN_lt fj) (av (c:=decide (0<=(eu ro o).gr)) (λb=>af ?_) λb=>aH fj (aH (toN_lt fj) (av (c:=decide (0<=(eu ro o).task)) (λc=>av (c:= !m) (λd=>af ?_) λd=>af ?_) λc=>af ?_))))
 ·unfold vA;rw [a];rfl
 ·unfold vA;rw [a,b];rfl
 ·simp only [dT]at d;unfold vA;rw [a,b,c,d];rfl
 ·simp only [dF]at d;unfold vA;rw [a,b,c,d];rfl
 ·unfold vA;rw [a,b,c];rfl
def aDO{l:aZ}{i:Nat}(h:i<l.length)(r:Row):gA (l.set i r) i=r:=by simp [gA,List.getD,h]
def aBq(h:R2 ro)(ho:ib o ro.length=true){m:Bool}(hk:vA p ro o m=true):(eu ro o).gr = -1:=by
 have hm:=h _ (OF ho);unfold vA at hk;cases h1:(cM p.bw o).size != 1 with
 |true=>rw [h1]at hk;cases hk
 |false=>
  cases h2:decide (0<=(eu ro o).gr)with
  |true=>rw [h1,h2]at hk;cases hk
  |false=>
   simp at h2;rcases hm with hm|⟨h3,_,_⟩|⟨h3,_⟩
   ·rw [hm];rfl
   ·omega
   ·exact h3
def aLJ(hl:os.length<=mx)(ht:0<=t)(kX:∀x∈os,ib x p.bw.length=true):∀ro:List RO,ro.length=p.bw.length->R2 ro->∃x y:aZ,
 bP D2 [iI t,iI e,iI 0,aG p,rR ro,aa (ints os)] (match mI p t e os ro with|some dx=>(1,[aG p,rR dx,aa (ints os)])|none=>(0,[aq,aG p,cD x,aa (ints os),cD y])):=by
 have k:=fD (m:=os.length) (P:=λi=>∀ro:List RO,ro.length=p.bw.length->R2 ro->∃x y:aZ,
  bP D2 [iI t,iI e,iI (i:Int),aG p,rR ro,aa (ints os)] (match mI p t e (os.drop i) ro with|some dx=>(1,[aG p,rR dx,aa (ints os)])|none=>(0,[aq,aG p,cD x,aa (ints os),cD y])))
  (λro _ _=>⟨[],[],by rw [gp];exact bF ab3 (aC dU aL)⟩)
  λi hi ih ro hr h2=>by
   have hd:os.getD i 0=os[i]:=tQ;have ho:=kX _ (dO hi);have lT:ib os[i] ro.length=true:=Fx;have fj:ib os[i] (bf ro).length =true:=PF;have j0:=mn1 (t:=t) (e:=e) lT;have j:=aL8 (p:=p) hr ho (Dm t e (eu ro os[i]));have C:∀r:UO,_->bP D2 [iI t,iI e,iI (i:Int),aG p,rR ro,aa (ints os)] r:=λr h=>by
    refine bF ab3 (bu (dr hi) (aH (cH hi) (aH (toN_lt (cH hi)) ?_)));rw [mh hi,hd];refine aj j0 (aj j ?_);exact h
   rw [gF hi];simp only [mI];rw [<-aDs ht h2 lT];cases hb:vA p ro os[i] (Dm t e (eu ro os[i]))with
   |false=>
    exact Yv
   |true=>
    rw [hb]at C;have hpr:=aBq h2 lT hb;have cF:os[i].toNat <(bf ro).length :=by simpa using toN_lt fj
    have hU:∀r:Row,ib os[i] ((bf ro).set os[i].toNat r).length =true:=λr=>by rw [zx];exact fj
    have GX:((bf ro).set os[i].toNat (setAt (gA (bf ro) os[i].toNat) 1 [iI t])).set os[i].toNat (setAt (gA ((bf ro).set os[i].toNat (setAt (gA (bf ro) os[i].toNat) 1 [iI t])) os[i].toNat) 2 [iI e])=bf (ue t e ro os[i]):=by
     rw [aDO cF,List.set_set,yd lT];have:setAt (setAt (sG (eu ro os[i])) 1 [iI t]) 2 [iI e]=sG ⟨-1,t,e⟩:=by
      show [iI (eu ro os[i]).gr,iI t,iI e]=_;rw [hpr];rfl
     rw [this];exact O0 lT ⟨-1,t,e⟩
    obtain⟨x,y,hx⟩:=ih (ue t e ro os[i]) (by rw [<-hr];simp [ue]) (h2.set ht _);refine⟨x,y,C _ (aX (aH fj (aH (toN_lt fj) (aH (hU _) (aH (toN_lt (hU _)) ?_)))))⟩;rw [ix hi hl];rw [show rR (ue t e ro (os[i]'hi))=cD _ from uJ (AV.ab abV) GX.symm]at hx;exact hx
 intro ro hr h2;have:=k ro hr h2;rw [gD]at this;exact this
end
end
end Go.Proofs.YtomkobcipaligaaGreatDoor
namespace Go.az
def akT{p:Prop}(h:p:=by
 rw [gF hi];simp only [sx];cases hf:sF p (i:Int) 0 p.tasks[i].au ro with
 |none=>
  rw [hf]at C;exact⟨_,_,C _ (aX aL)⟩
 |some r1=>
  rw [hf]at C;obtain⟨j1,j2,_⟩:=Xq (by omega) hf h2;obtain⟨x',z',fJ⟩:=ih r1 (by rw [j1,hr]) j2;refine⟨x',z',C _ (bj ?_)⟩;rw [ix hi hp.tasks];exact fJ):p:=h
def akO{p:Prop}(h:p:=by
 rw [zv,aBi];cases hs:p.bw.any λo=>o.set.any λx=> !qx r2 x with
 |true=>
  rw [hs]at e3;exact⟨_,C _ (aj j (aX (aj j2 (aX (aj e3.diag (aX aL))))))⟩
 |false=>
  rw [hs]at e3;exact⟨[],C _ (aj j (aX (aj j2 (aX (aj e3.diag (bj aL))))))⟩):p:=h
def ajA{p:Prop}(h:p:=by
 refine aj j.diag ?_;cases hb:p.bw[i].set.any λx=> !qx ro x with
 |true=>exact aX (af (a hb))
 |false=>exact bj (b hb)):p:=h
def YE{p:Prop}(h:p:=by injection h with h;subst h;exact⟨rfl,hr,by simp⟩):p:=h
def ajr{p:Prop}(h:p:=by
 refine⟨by rw [i1,j1],i2,λz hz=> ?_⟩;rcases gN.1 hz with rfl|hz
 ·exact j3
 ·exact i3 z hz):p:=h
def Yp{p:Prop}(h:p:=by
 refine aj hx.diag ?_;exact h):p:=h
def ahE{p:Prop}(h:p:=by exact⟨_,C _ (aj j (aX (aj j2 (bj aL))))⟩):p:=h
end Go.az
namespace Go.az
def afG:=@List.any_eq_not_all_not
def WY:=@Bool.not_not
end Go.az
namespace Go.Proofs.YtomkobcipaligaaGreatDoor
open Go Go.az
section
variable{y:EN}{e t:Int}{ro:List RO}
def A3(p:PG)(t e:Int)(y:EN)(ro:List RO):Option (List RO):=bif jz p y.ins&&jz p y.outs then mI p t e (y.ins++y.outs) ro else none
def sF(p:PG)(t:Int):Int->List EN->List RO->Option (List RO)
 |_,[],ro=>some ro
 |e,y::ys,ro=>(A3 p t e y ro).bind (sF p t (e+1) ys)
def sx(p:PG):Int->List TK->List RO->Option (List RO)
 |_,[],ro=>some ro
 |t,x::xs,ro=>(sF p t 0 x.au ro).bind (sx p (t+1) xs)
def qx(ro:List RO)(x:Int):Bool:=yW (eu ro x) (-1) (-1) (-1)
def QN(p:PG)(ro:List RO):Bool:=p.bw.all λo=>o.set.all (qx ro)
def B0(p:PG):Option (List RO):=(rE (mP p) 0 p.dp (List.replicate p.bw.length kV)).bind λr=>(sx p 0 p.tasks r).bind λr=>bif QN p r then some r else none
def R1(ro:List RO):Prop:=∀r∈ro,r=kV∨(0<=r.gr∧r.task= -1∧r.entry= -1)
section
variable {p:PG}
def agj{q:Int}(hq:0<=q):∀{os:cT} {ro dx:List RO},pV q os ro=some dx->R1 ro->R1 dx
 | [],ro,dx,h,hr=>by injection h with h;subst h;exact hr
 |o::os,ro,dx,h,hr=>by
  simp only [pV]at h;cases hd:decide (0<=(eu ro o).gr)with
  |true=>rw [hd]at h;cases h
  |false=>
   rw [hd]at h;refine agj hq (show pV q os (wX q ro o)=some dx from h) λr hm=> ?_;unfold wX at hm
   by_cases ho:o.toNat<ro.length
   ·rcases afN hm with hm|rfl
    ·exact hr r hm
    ·have eM:eu ro o∈ro:=by
      simp only [eu,mY,dz ho,oR];exact dO ho
     have h0:eu ro o=kV:=by
      rcases hr _ eM with h1|⟨h1,_⟩
      ·exact h1
      ·simp at hd;omega
     rw [h0];exact .inr ⟨hq,rfl,rfl⟩
   ·rw [List.set_eq_of_length_le (by omega)]at hm;exact hr r hm
def O2{up:Int}:∀{xs:List PR} {q:Int} {ro dx:List RO},0<=q->rE up q xs ro=some dx->R1 ro->dx.length=ro.length∧R1 dx∧∀x∈xs,kM x.jR 0 up=true
 | [],q,ro,dx,_,h,hr=>YE
 |x::xs,q,ro,dx,hq,h,hr=>by
  simp only [rE]at h;cases hb:kM x.jR 0 up with
  |false=>rw [hb]at h;cases h
  |true=>
   rw [hb]at h;cases hf:pV q x.jR ro with
   |none=>rw [hf]at h;cases h
   |some r1=>
    rw [hf]at h;obtain⟨i1,i2,i3⟩:=O2 (by omega) (show rE up (q+1) xs r1=some dx from h) (agj hq hf hr);refine⟨by rw [i1,WR hf],i2,λy hy=> ?_⟩;rcases gN.1 hy with rfl|hy
    ·exact hb
    ·exact i3 y hy
def ag3(ht:0<=t){dx:List RO}(h:A3 p t e y ro=some dx)(hr:R2 ro):dx.length=ro.length∧R2 dx∧jz p y.ins=true∧jz p y.outs=true:=by
 unfold A3 at h;cases h1:jz p y.ins with
 |false=>exact Fq
 |true=>
  cases h2:jz p y.outs with
  |false=>rw [h1,h2]at h;cases h
  |true=>
   rw [h1,h2]at h;have:=Of ht (show mI p t e (y.ins++y.outs) ro=some dx from h) hr;exact⟨this.1,this.2,rfl,rfl⟩
def Xq{t:Int}(ht:0<=t):∀{ys:List EN} {e:Int} {ro dx:List RO},sF p t e ys ro=some dx->R2 ro->dx.length=ro.length∧R2 dx∧∀y∈ys,jz p y.ins=true∧jz p y.outs=true
 | [],e,ro,dx,h,hr=>YE
 |y::ys,e,ro,dx,h,hr=>by
  simp only [sF]at h;cases hf:A3 p t e y ro with
  |none=>rw [hf]at h;cases h
  |some r1=>
   rw [hf]at h;obtain⟨j1,j2,j3⟩:=ag3 ht hf hr;obtain⟨i1,i2,i3⟩:=Xq ht (show sF p t (e+1) ys r1=some dx from h) j2;exact ajr
def OE:∀{xs:List TK} {t:Int} {ro dx:List RO},0<=t->sx p t xs ro=some dx->R2 ro->dx.length=ro.length∧R2 dx∧∀x∈xs,∀y∈x.au,jz p y.ins=true∧jz p y.outs=true
 | [],t,ro,dx,_,h,hr=>YE
 |x::xs,t,ro,dx,ht,h,hr=>by
  simp only [sx]at h;cases hf:sF p t 0 x.au ro with
  |none=>rw [hf]at h;cases h
  |some r1=>
   rw [hf]at h;obtain⟨j1,j2,j3⟩:=Xq ht hf hr;obtain⟨i1,i2,i3⟩:=OE (by omega) (show sx p (t+1) xs r1=some dx from h) j2;exact ajr
def Y1(n:Nat):R1 (List.replicate n kV):=λr hr=> .inl (Xb hr)
def R1.to(h:R1 ro):R2 ro:=λr hr=>by
 rcases h r hr with h|h
 ·exact .inl h
 ·exact .inr (.inl h)
def az1(h:B0 p=some ro):ro.length=p.bw.length∧R2 ro∧(∀x∈p.dp,kM x.jR 0 (mP p)=true)∧∀x∈p.tasks,∀y∈x.au,jz p y.ins=true∧jz p y.outs=true:=by
 unfold B0 at h;cases h1:rE (mP p) 0 p.dp (List.replicate p.bw.length kV)with
 |none=>exact Fq
 |some r1=>
  rw [h1]at h;obtain⟨i1,i2,i3⟩:=O2 (by omega) h1 (Y1 _);cases h2:sx p 0 p.tasks r1 with
  |none=>rw [zv,h2]at h;cases h
  |some r2=>
   rw [zv,h2]at h;obtain⟨j1,j2,j3⟩:=OE (by omega) h2 i2.to;rw [zv]at h;cases h3:QN p r2 with
   |false=>rw [h3]at h;cases h
   |true=>
    rw [h3]at h;injection h with h;subst h;exact⟨by rw [j1,i1];simp,j2,i3,j3⟩
abbrev Dp(y:EN):AV:= BF [[aa (ints y.ins)],[aa (ints y.outs)]]
def aFa(hp:p.bw.length<=mx)(ht:0<=t)(hy:y.Ok)(hr:ro.length=p.bw.length)(h2:R2 ro):∃x z:aZ,
 bP Ba [iI t,iI e,iI 2,iI 0,aG p,cR ro,Dp y] (match A3 p t e y ro with|some dx=>(1,[aG p,cR dx,Dp y])|none=>(0,[aq,aG p,ah x,Dp y,ah z])):=by
 have done:∀ro:List RO,bP Ba [iI t,iI e,iI 2,iI 2,aG p,cR ro,Dp y] (1,[aG p,cR ro,Dp y]):=λro=>
  bF Tm (bj aL)
 have c1:=aoa (p:=p) hy.1;have c2:=aoa (p:=p) hy.2;have C1:∀(ro:List RO) (r:UO),_->bP Ba [iI t,iI e,iI 2,iI 0,aG p,cR ro,Dp y] r:=λro r h=>by
  refine bF Tm (aX (aH rfl (aH rfl (aj c1 ?_))));exact h
 have C2:∀(ro:List RO) (r:UO),_->bP Ba [iI t,iI e,iI 2,iI 1,aG p,cR ro,Dp y] r:=λro r h=>by
  refine bF Tm (aX (aH rfl (aH rfl (aj c2 ?_))));exact h
 unfold A3;cases h1:jz p y.ins with
 |false=>
  rw [h1]at C1;exact⟨_,_,C1 ro _ (bj aL)⟩
 |true=>
  rw [h1]at C1;obtain⟨l8,kX⟩:=Fl hp h1;obtain⟨x,z,hx⟩:=amY (p:=p) (e:=e) hy.1 ht kX ro hr h2;have Sn:=afp p t e y.ins y.outs ro;cases hf:mI p t e y.ins ro with
  |none=>
   rw [hf]at hx Sn;have:(bif true&&jz p y.outs then mI p t e (y.ins++y.outs) ro else none)=none:=by rw [Sn];cases jz p y.outs<;>rfl
   rw [this];exact⟨_,_,C1 ro _ (aX (aj hx.diag (aX aL)))⟩
  |some r1=>
   rw [hf]at hx Sn;obtain⟨k1,k2⟩:=Of ht hf h2;cases h3:jz p y.outs with
   |false=>
    rw [h3]at C2;exact⟨_,_,C1 ro _ (aX (aj hx.diag (bj (C2 r1 _ (bj aL)))))⟩
   |true=>
    rw [h3]at C2;obtain⟨l8',aMP⟩:=Fl hp h3;obtain⟨x',z',fJ⟩:=amY (p:=p) (e:=e) hy.2 ht aMP r1 (by rw [k1,hr]) k2;have:(bif true&&true then mI p t e (y.ins++y.outs) ro else none)=mI p t e y.outs r1:=Sn;rw [this];cases hg:mI p t e y.outs r1 with
    |none=>
     rw [hg]at fJ;exact⟨_,_,C1 ro _ (aX (aj hx.diag (bj (C2 r1 _ (aX (aj fJ.diag (aX aL)))))))⟩
    |some r2=>
     rw [hg]at fJ;exact⟨[],[],C1 ro _ (aX (aj hx.diag (bj (C2 r1 _ (aX (aj fJ.diag (bj (done r2))))))))⟩
def aFb(hp:p.bw.length<=mx)(ht:0<=t){ys:List EN}(hl:ys.length<=mx)(hy:∀y∈ys,y.Ok):∀ro:List RO,ro.length=p.bw.length->R2 ro->∃x z:aZ,
 bP D8 [iI t,Br (ys.map iM),iI (ln (ys.map iM)),iI 0,aG p,cR ro] (match sF p t 0 ys ro with|some dx=>(1,[aG p,cR dx])|none=>(0,[aq,aG p,ah x,ah z])):=by
 have k:=fD (m:=ys.length) (P:=λi=>∀ro:List RO,ro.length=p.bw.length->R2 ro->∃x z:aZ,
  bP D8 [iI t,Br (ys.map iM),iI (ln (ys.map iM)),iI (i:Int),aG p,cR ro] (match sF p t (i:Int) (ys.drop i) ro with|some dx=>(1,[aG p,cR dx])|none=>(0,[aq,aG p,ah x,ah z])))
  (λro _ _=>⟨[],[],by rw [gp];exact bF acg (aC dU aL)⟩)
  λi hi ih ro hr h2=>by
   obtain⟨x,z,hx⟩:=aFa hp (e:=(i:Int)) ht (hy _ (dO hi)) hr h2;have g1:gA (ys.map iM) ((i:Int).toNat)=iM ys[i]:=fM hi;have C:∀r:UO,_->bP D8 [iI t,Br (ys.map iM),iI (ln (ys.map iM)),iI (i:Int),aG p,cR ro] r:=λr h=>by
    refine bF acg (bu (dr hi) (aH (cH hi) ?_));rw [g1];exact Yp
   rw [gF hi];simp only [sF];cases hf:A3 p t (i:Int) ys[i] ro with
   |none=>
    rw [hf]at C;exact⟨_,_,C _ (aX aL)⟩
   |some r1=>
    rw [hf]at C;obtain⟨j1,j2,_⟩:=ag3 ht hf h2;obtain⟨x',z',fJ⟩:=ih r1 (by rw [j1,hr]) j2;refine⟨x',z',C _ (bj ?_)⟩;rw [ix hi hl];exact fJ
 intro ro hr h2;have:=k ro hr h2;rw [gD]at this;exact this
def aFA(hp:p.Ok):∀ro:List RO,ro.length=p.bw.length->R2 ro->∃x z:aZ,
 bP Ef [fq (p.tasks.map cE),iI (ln (p.tasks.map cE)),iI 0,aG p,cR ro] (match sx p 0 p.tasks ro with|some dx=>(1,[aG p,cR dx])|none=>(0,[aq,aG p,ah x,ah z])):=by
 have k:=fD (m:=p.tasks.length) (P:=λi=>∀ro:List RO,ro.length=p.bw.length->R2 ro->∃x z:aZ,
  bP Ef [fq (p.tasks.map cE),iI (ln (p.tasks.map cE)),iI (i:Int),aG p,cR ro] (match sx p (i:Int) (p.tasks.drop i) ro with|some dx=>(1,[aG p,cR dx])|none=>(0,[aq,aG p,ah x,ah z])))
  (λro _ _=>⟨[],[],by rw [gp];exact bF acQ (aC dU aL)⟩)
  λi hi ih ro hr h2=>by
   have hk:=hp.task _ (dO hi);obtain⟨x,z,hx⟩:=aFb hp.bw (t:=(i:Int)) (by omega) hk.len hk.au ro hr h2;have g1:gR (gA (p.tasks.map cE) ((i:Int).toNat)) 1=p.tasks[i].au.map iM:=zO;have C:∀r:UO,_->bP Ef [fq (p.tasks.map cE),iI (ln (p.tasks.map cE)),iI (i:Int),aG p,cR ro] r:=λr h=>by
    refine bF acQ (bu (dr hi) (aH (cH hi) ?_));rw [g1];exact Yp
   exact akT
 intro ro hr h2;have:=k ro hr h2;rw [gD]at this;exact this
def aFI(hr:ro.length=p.bw.length){s:cT}(hs:s.length<=mx)(kX:∀x∈s,ib x p.bw.length=true):bP HA [aa (ints s),iI (ln (ints s)),iI 0,cR ro] (bif s.any (λx=> !qx ro x)then(0,[aq,cR ro,ah []])else(1,[cR ro])):=by
 refine oY (l:=s) (p:=λx=> !qx ro x) (LF:=λi N m=>HA (FU CX EE N) N m [aa (ints s),iI (ln (ints s)),iI (i:Int),cR ro])
  (bF acf (aC dU aL))
  λi hi r a b=>bF acf (bu (dr hi) (aH (cH hi) ?_))
 have hd:s.getD i 0=s[i]:=tQ;have ho:=kX _ (dO hi);have lT:ib s[i] ro.length=true:=Fx;have fj:ib s[i] (bf ro).length =true:=PF;rw [mh hi,hd,yd lT,ix hi hs];exact aH fj (aH (toN_lt fj) (av (c:= !qx ro s[i]) (λc=>af (a c)) b))
def aEl(hr:ro.length=p.bw.length)(ol:OL p.bw)(hp:p.Ok):bP HN [bJ (cf p.bw),iI (ln (cf p.bw)),iI 0,cR ro] (bif p.bw.any (λo=>o.set.any λx=> !qx ro x)then(0,[aq,cR ro,ah []])else(1,[cR ro])):=by
 refine oY (l:=p.bw) (p:=λo=>o.set.any λx=> !qx ro x) (LF:=λi N m=>HN (FU CX EE N) N m [bJ (cf p.bw),iI (ln (cf p.bw)),iI (i:Int),cR ro])
  (bF acP (aC dU aL))
  λi hi r a b=>bF acP (bu (dr hi) (aH (cH hi) ?_))
 have hm:=dO hi;have g1:gR (gA (cf p.bw) ((i:Int).toNat)) 4=ints p.bw[i].set :=zO;have j:=aFI (p:=p) hr (hp.obj _ hm) (ol.jj _ hm);rw [g1,ix hi hp.bw];exact ajA
def aBi(ro:List RO):QN p ro= !(p.bw.any λo=>o.set.any λx=> !qx ro x):=by
 unfold QN;rw [afG,WY]
 congr 1;funext o
 rw [afG,WY]
 congr 1;funext x
 rw [WY]
def aDf(hp:p.Ok)(ol:OL p.bw)(h1:1<=p.bw.length):∃x:aZ,Ev NJ [aG p] (0,match B0 p with|some ro=>[cu,cR ro]|none=>[aq,ah x]):=by
 have rp:=aLQ h1 ol.len;have nN:ln (gR (mN p) 0)=(p.bw.length:Int):=dq fU p.bw;obtain⟨x1,z1,e1⟩:=aLI hp (List.replicate p.bw.length kV) (by simp);have C:∀r:UO,_->Ev NJ [aG p] r:=λr h=>by
  refine bz ay4 ?_;rw [nN];refine aj rp ?_;exact h
 unfold B0;cases hf:rE (mP p) 0 p.dp (List.replicate p.bw.length kV)with
 |none=>
  rw [hf]at e1;have j:bM MW [aG p,cR (List.replicate p.bw.length kV)] (1,[aq,aG p,ah x1,ah z1]):=
   bU adf (aj e1.diag (aX aL))
  exact⟨_,C _ (aj j (bj aL))⟩
 |some r1=>
  rw [hf]at e1;obtain⟨i1,i2,_⟩:=O2 (by omega) hf (Y1 _);have rK:r1.length=p.bw.length:=by rw [i1];simp
  have j:bM MW [aG p,cR (List.replicate p.bw.length kV)] (0,[aG p,cR r1]):=
   bU adf (aj e1.diag (bj aL))
  obtain⟨x2,z2,e2⟩:=aFA hp r1 rK i2.to;rw [zv];cases hg:sx p 0 p.tasks r1 with
  |none=>
   rw [hg]at e2;have j2:bM MV [aG p,cR r1] (1,[aq,aG p,ah x2,ah z2]):=
    bU ade (aj e2.diag (aX aL))
   exact ahE
  |some r2=>
   rw [hg]at e2;obtain⟨j1',j2',_⟩:=OE (by omega) hg i2.to;have j2:bM MV [aG p,cR r1] (0,[aG p,cR r2]):=
    bU ade (aj e2.diag (bj aL))
   have e3:=aEl (by rw [j1',rK]) ol hp (ro:=r2);exact akO
end
end
section
variable{ro:List RO}
section
variable {p:PG}
def aE9(hp:p.bw.length<=mx){t:Nat}(ht:t<p.tasks.length)(hl:p.tasks[t].au.length <=mx)(hy:∀y∈p.tasks[t].au,y.Ok):∀ro:List RO,ro.length=p.bw.length->R2 ro->∃x z:aZ,
 bP Bi [iI (t:Int),iI 0,aG p,rR ro] (match sF p (t:Int) 0 p.tasks[t].au ro with|some dx=>(1,[aG p,rR dx])|none=>(0,[aq,aG p,cD x,cD z])):=by
 have fp:ib (t:Int) (gR (mN p) 2).length =true:=cH (f:=cE) ht;have hg:gR (gA (gR (mN p) 2) ((t:Int).toNat)) 1=p.tasks[t].au.map iM:=by
  show gR (gA (p.tasks.map cE) ((t:Int).toNat)) 1=_;rw [fM ht];rfl
 generalize p.tasks[t].au =ys at hg hl hy⊢;have k:=fD (m:=ys.length) (P:=λi=>∀ro:List RO,ro.length=p.bw.length->R2 ro->∃x z:aZ,
  bP Bi [iI (t:Int),iI (i:Int),aG p,rR ro] (match sF p (t:Int) (i:Int) (ys.drop i) ro with|some dx=>(1,[aG p,rR dx])|none=>(0,[aq,aG p,cD x,cD z])))
  (λro _ _=>⟨[],[],by
    rw [gp];refine bF acq (aH fp ?_);rw [hg];exact aC dU aL⟩)
  λi hi ih ro hr h2=>by
   have KR:=hy _ (dO hi);have g1:gA (ys.map iM) ((i:Int).toNat)=iM ys[i]:=fM hi;have c1:=aNz (p:=p) KR.1 KR.2;have C:∀r:UO,_->bP Bi [iI (t:Int),iI (i:Int),aG p,rR ro] r:=λr h=>by
    refine bF acq (aH fp ?_);rw [hg,g1];refine bu (dr hi) (aH fp (aH (cH hi) (aj c1 ?_)));exact h
   rw [gF hi];simp only [sF];unfold A3;cases hb:jz p ys[i].ins &&jz p ys[i].outs with
   |false=>
    exact Yv
   |true=>
    rw [hb]at C;rw [bS]at hb;obtain⟨a8,arg⟩:=Fl hp hb.1;obtain⟨b8,brg⟩:=Fl hp hb.2;have kX:∀x∈ys[i].ins ++ys[i].outs,ib x p.bw.length=true:=λx hx=>by
     rcases jO.1 hx with hx|hx
     ·exact arg x hx
     ·exact brg x hx
    obtain⟨x,z,hx⟩:=aLJ (p:=p) (t:=(t:Int)) (e:=(i:Int)) (os:=ys[i].ins ++ys[i].outs) (by rw [fy];simp only [mx];omega) (by omega) kX ro hr h2;have aMX:ints (ys[i].ins ++ys[i].outs)=([]++ints ys[i].ins)++ints ys[i].outs :=by rw [mb];exact oy
    have t1:decide ((0+(ints ys[i].ins).length)*8<=140737488355328)=true:=wG;have t2:decide (((([]:aZ)++ints ys[i].ins).length +(ints ys[i].outs).length)*8<=140737488355328)=true:=by rw [mb,eE,eE];simp;omega
    have D:∀r:UO,_->bP Bi [iI (t:Int),iI (i:Int),aG p,rR ro] r:=λr h=>by
     refine C r (aX (aH t1 (aH t2 ?_)));rw [aMX]at hx;exact Yp
    simp only [cg];cases hf:mI p (t:Int) (i:Int) (ys[i].ins ++ys[i].outs) ro with
    |none=>
     rw [hf]at D;exact⟨_,_,D _ (aX aL)⟩
    |some r1=>
     rw [hf]at D;obtain⟨j1,j2⟩:=Of (by omega) hf h2;obtain⟨x',z',fJ⟩:=ih r1 (by rw [j1,hr]) j2;refine⟨x',z',D _ (bj ?_)⟩;rw [ix hi hl];exact fJ
 intro ro hr h2;have:=k ro hr h2;rw [gD]at this;exact this
def aFz(hp:p.Ok):∀ro:List RO,ro.length=p.bw.length->R2 ro->∃x z:aZ,
 bP Ej [iI 0,aG p,rR ro] (match sx p 0 p.tasks ro with|some dx=>(1,[aG p,rR dx])|none=>(0,[aq,aG p,cD x,cD z])):=by
 have k:=fD (m:=p.tasks.length) (P:=λi=>∀ro:List RO,ro.length=p.bw.length->R2 ro->∃x z:aZ,
  bP Ej [iI (i:Int),aG p,rR ro] (match sx p (i:Int) (p.tasks.drop i) ro with|some dx=>(1,[aG p,rR dx])|none=>(0,[aq,aG p,cD x,cD z])))
  (λro _ _=>⟨[],[],by rw [gp];exact bF acZ (aC (dU (f:=cE) (l:=p.tasks)) aL)⟩)
  λi hi ih ro hr h2=>by
   have hk:=hp.task _ (dO hi);obtain⟨x,z,hx⟩:=aE9 hp.bw hi hk.len hk.au ro hr h2;have C:∀r:UO,_->bP Ej [iI (i:Int),aG p,rR ro] r:=λr h=>by
    refine bF acZ (bu (dr (f:=cE) hi) (aj hx.diag ?_));exact h
   exact akT
 intro ro hr h2;have:=k ro hr h2;rw [gD]at this;exact this
def aCL(h:R2 ro){x:Int}(hx:ib x ro.length=true):(!qx ro x)=bif decide (0<=(eu ro x).gr)then true else decide (0<=(eu ro x).task):=by
 have hm:=h _ (OF hx);unfold qx yW;generalize eu ro x=r at hm;rcases hm with hm|⟨h1,h2,h3⟩|⟨h1,h2⟩
 ·subst hm;rfl
 ·have e1:decide (0<=r.gr)=true:=by simpa using h1
  have e2:(r.gr== -1)=false:=eh;rw [e1,e2];rfl
 ·have e1:decide (0<=r.gr)=false:=by simp;omega
  have e3:decide (0<=r.task)=true:=pU;have e4:(r.task== -1)=false:=eh;rw [e1,e3,e4,mZ,oU];rfl
def aFG(hr:ro.length=p.bw.length)(h2:R2 ro){i:Nat}(hi:i<p.bw.length)(hs:p.bw[i].set.length <=mx)(kX:∀x∈p.bw[i].set,ib x p.bw.length=true):bP HE [iI (i:Int),iI 0,aG p,rR ro] (bif p.bw[i].set.any (λx=> !qx ro x)then(0,[aq,aG p,rR ro,cD []])else(1,[aG p,rR ro])):=by
 have fp:ib (i:Int) (gR (mN p) 0).length =true:=cH (f:=fU) hi;have hg:gR (gA (gR (mN p) 0) ((i:Int).toNat)) 4=ints p.bw[i].set :=by
  show gR (gA (cf p.bw) ((i:Int).toNat)) 4=_;exact zO
 generalize p.bw[i].set =s at hg hs kX⊢;refine oY (l:=s) (p:=λx=> !qx ro x) (LF:=λk N m=>HE (FU CX EE N) N m [iI (i:Int),iI (k:Int),aG p,rR ro])
  (bF acp (aH fp (by rw [hg];exact aC dU aL)))
  λk hk r a b=>bF acp (aH fp ?_)
 have hd:s.getD k 0=s[k]:=by rw [mY,dz hk];rfl
 have ho:=kX _ (dO hk);have lT:ib s[k] ro.length=true:=Fx;have fj:ib s[k] (bf ro).length =true:=PF;have hf:=aCL h2 lT;rw [hg,mh hk,hd,yd lT,ix hk hs];refine bu (dr hk) (aH fp (aH (cH hk) (aH fj (aH (toN_lt fj) (av (c:=decide (0<=(eu ro s[k]).gr)) (λc=>af (a ?_)) λc=>aH fj (aH (toN_lt fj) (av (c:=decide (0<=(eu ro s[k]).task)) (λd=>af (a ?_)) λd=>b ?_)))))))
 ·rw [hf,c];rfl
 ·rw [hf,c,d];rfl
 ·rw [hf,c,d];rfl
def aEk(hr:ro.length=p.bw.length)(h2:R2 ro)(ol:OL p.bw)(hp:p.Ok):bP HS [iI 0,aG p,rR ro] (bif p.bw.any (λo=>o.set.any λx=> !qx ro x)then(0,[aq,aG p,rR ro,cD []])else(1,[aG p,rR ro])):=by
 refine oY (l:=p.bw) (p:=λo=>o.set.any λx=> !qx ro x) (LF:=λi N m=>HS (FU CX EE N) N m [iI (i:Int),aG p,rR ro])
  (bF acY (aC (dU (f:=fU) (l:=p.bw)) aL))
  λi hi r a b=>bF acY (bu (dr (f:=fU) hi) ?_)
 have hm:=dO hi;have j:=aFG (p:=p) hr h2 hi (hp.obj _ hm) (ol.jj _ hm);rw [ix hi hp.bw];exact ajA
def aLO(h2:p.bw.length<=2048):bM VE [aG p,cD []] (0,[aG p,rR (List.replicate p.bw.length kV)]):=by
 have k:=fD (m:=p.bw.length) (P:=λi=>bP M9 [iI (i:Int),aG p,rR (List.replicate i kV)] (0,[aG p,rR (List.replicate p.bw.length kV)]))
  (bF ado (aC (dU (f:=fU) (l:=p.bw)) aL))
  λi hi ih=>by
   refine bF ado (bu (dr (f:=fU) hi) (aH ?_ ?_))
   ·rw [eE,BQ];simp;omega
   ·rw [ix hi (Fz)];have e:rR (List.replicate (i+1) kV)=cD (bf (List.replicate i kV)++[Af]):=by
     show cD ((List.replicate (i+1) kV).map sG)=_;rw [List.replicate_succ',oy];rfl
    rw [e]at ih;exact ih
 exact bU axe (aj (E.diag k) aL)
def aDe(hp:p.Ok)(ol:OL p.bw):∃x:aZ,Ev NV [aG p] (0,match B0 p with|some ro=>[cu,rR ro]|none=>[aq,cD x]):=by
 have rp:=aLO (p:=p) ol.len;obtain⟨x1,z1,e1⟩:=aLH hp (List.replicate p.bw.length kV) (by simp);have C:∀r:UO,_->Ev NV [aG p] r:=λr h=>by
  refine bz azG (aj rp ?_);exact h
 unfold B0;cases hf:rE (mP p) 0 p.dp (List.replicate p.bw.length kV)with
 |none=>
  rw [hf]at e1;have j:bM Ng [aG p,rR (List.replicate p.bw.length kV)] (1,[aq,aG p,cD x1,cD z1]):=
   bU adx (aj e1.diag (aX aL))
  exact⟨_,C _ (aj j (bj aL))⟩
 |some r1=>
  rw [hf]at e1;obtain⟨i1,i2,_⟩:=O2 (by omega) hf (Y1 _);have rK:r1.length=p.bw.length:=by rw [i1];simp
  have j:bM Ng [aG p,rR (List.replicate p.bw.length kV)] (0,[aG p,rR r1]):=
   bU adx (aj e1.diag (bj aL))
  obtain⟨x2,z2,e2⟩:=aFz hp r1 rK i2.to;rw [zv];cases hg:sx p 0 p.tasks r1 with
  |none=>
   rw [hg]at e2;have j2:bM Nf [aG p,rR r1] (1,[aq,aG p,cD x2,cD z2]):=
    bU adw (aj e2.diag (aX aL))
   exact ahE
  |some r2=>
   rw [hg]at e2;obtain⟨j1',j2',_⟩:=OE (by omega) hg i2.to;have j2:bM Nf [aG p,rR r1] (0,[aG p,rR r2]):=
    bU adw (aj e2.diag (bj aL))
   have e3:=aEk (by rw [j1',rK]) j2' ol hp (ro:=r2);exact akO
end
end
end Go.Proofs.YtomkobcipaligaaGreatDoor
namespace Go.az
def JC{p:Prop}(h:p:=by cases bB with|mk _ _ _ _ _ _ _ _ h=>exact h):p:=h
def xT{p:Prop}(h:p:=by rw [Fj];rfl):p:=h
def ajw{p:Prop}(h:p:=by rw [fE];exact aj this.diag (af (by show(0,[J (dv (encS s)),_])=_;rw [fE];rfl))):p:=h
def aib{p:Prop}(h:p:=by have:=hb t;rw [OS e2 t]at this;exact this):p:=h
end Go.az
namespace Go.az
def OS:=@congrFun
end Go.az
namespace Go.Proofs.YtomkobcipaligaaGreatDoor
open Go Go.az
section
variable{t:Int}{c:Int->Nat}{pre:List CS}{n:Nat}
theorem an0(s:CS):gR (encS s) 17=s.L.map encS:=xT
theorem aaE(s:CS):gR (encS s) 18=s.D.map cq:=xT
theorem aaD(s:CS):gR (encS s) 19=s.H.map cA:=xT
theorem aaF(s:CS):gR (encS s) 20=s.A.map cw:=xT
theorem aNl(s:CS):gR (encS s) 16=ints s.f.Ts:=xT
theorem aNk(s:CS):gI (encS s) 0=s.f.kind:=xT
abbrev aS(s:CS):AV:= J (encS s)
abbrev fh(l:List CS):AV:= bD (l.map encS)
abbrev dK(D:List CD):List CS:=D.flatMap λd=>[d.d,d.u]
abbrev aK(A:List CA):List CS:=A.flatMap λa=>[a.body,a.after]
section
variable {s:CS} (bB:s.Ok)
include bB in
theorem aMF:bM Vs [aS s,bD []] (0,[aS s,fh (dK s.D)]):=by
 cases bB with|mk _ hf hL hD hH hA h1 h2 hk=>
 have k:=fD (m:=s.D.length) (P:=λi=>∀acc:List CS,acc.length<=2*i->bP MR [iI (i:Int),aS s,fh acc] (0,[aS s,fh (acc++dK (s.D.drop i))]))
  (λacc _=>by
    rw [gp];refine bF ac5 ?_;rw [aaE,fE];exact aC dU (af (by simp)))
  λi hi ih acc ha=>by
   have gd:dv (gA (s.D.map cq) ((i:Int).toNat))=encS s.D[i].d :=X6;have gu:cO dD 21 (gA (s.D.map cq) ((i:Int).toNat))=encS s.D[i].u :=X5;have he:fh (acc++[s.D[i].d,s.D[i].u])= bD (acc.map encS++[encS s.D[i].d,encS s.D[i].u]):=by
    show bD ((acc++[s.D[i].d,s.D[i].u]).map encS)=_;rw [oy];rfl
   have e2:acc++dK (s.D.drop i)=(acc++[s.D[i].d,s.D[i].u])++dK (s.D.drop (i+1)):=by
    rw [gF hi];simp only [dK,uK,iJ]
   refine bF ac5 ?_;rw [aaE,fE,gd,gu];refine bu (dr hi) (aH (cH hi) (aH (cH hi) (aH ?_ ?_)))
   ·rw [eE];simp only [mx]at hD;simp;omega
   ·rw [ix hi hD,e2];have:=ih (acc++[s.D[i].d,s.D[i].u]) (eh);rw [he]at this;exact this
 have:=k [] (by simp);exact bU awg (ajw)
include bB in
theorem aME(hp:pre.length<=4000000):bM MU [aS s,fh pre] (0,[aS s,fh (pre++s.H.map CH.body)]):=by
 cases bB with|mk _ hf hL hD hH hA h1 h2 hk=>
 have k:=fD (m:=s.H.length) (P:=λi=>∀acc:List CS,acc.length<=4000000+i->bP MD [iI (i:Int),aS s,fh acc] (0,[aS s,fh (acc++(s.H.drop i).map CH.body)]))
  (λacc _=>by
    rw [gp];refine bF acN ?_;rw [aaD,fE];exact aC dU (af (by simp)))
  λi hi ih acc ha=>by
   have gd:cO dD 1 (gA (s.H.map cA) ((i:Int).toNat))=encS s.H[i].body :=by rw [fM hi,QM]
   have he:fh (acc++[s.H[i].body])= bD (acc.map encS++[encS s.H[i].body]):=by
    show bD ((acc++[s.H[i].body]).map encS)=_;rw [oy];rfl
   have e2:acc++(s.H.drop i).map CH.body=(acc++[s.H[i].body])++(s.H.drop (i+1)).map CH.body:=by
    rw [gF hi,nf,iJ];rfl
   refine bF acN ?_;rw [aaD,fE,gd];refine bu (dr hi) (aH (cH hi) (aH ?_ ?_))
   ·rw [eE];simp only [mx]at hH;simp;omega
   ·rw [ix hi hH,e2];have:=ih (acc++[s.H[i].body]) (eh);rw [he]at this;exact this
 have:=k pre (by omega);exact bU awf (ajw)
include bB in
theorem aMG(hp:pre.length<=8000000):bP Bo [iI 0,aS s,fh pre] (0,[aS s,fh (pre++aK s.A)]):=by
 cases bB with|mk _ hf hL hD hH hA h1 h2 hk=>
 have k:=fD (m:=s.A.length) (P:=λi=>∀acc:List CS,acc.length<=8000000+2*i->bP Bo [iI (i:Int),aS s,fh acc] (0,[aS s,fh (acc++aK (s.A.drop i))]))
  (λacc _=>by
    rw [gp];refine bF acM ?_;rw [aaF,fE];exact aC dU (af (by simp)))
  λi hi ih acc ha=>by
   have gd:cO dD 12 (gA (s.A.map cw) ((i:Int).toNat))=encS s.A[i].body :=by rw [fM hi,F8]
   have gu:cO dD 33 (gA (s.A.map cw) ((i:Int).toNat))=encS s.A[i].after :=by rw [fM hi,F9]
   have he:fh (acc++[s.A[i].body,s.A[i].after])= bD (acc.map encS++[encS s.A[i].body,encS s.A[i].after]):=by
    show bD ((acc++[s.A[i].body,s.A[i].after]).map encS)=_;rw [oy];rfl
   have e2:acc++aK (s.A.drop i)=(acc++[s.A[i].body,s.A[i].after])++aK (s.A.drop (i+1)):=by
    rw [gF hi];simp only [aK,uK,iJ]
   refine bF acM ?_;rw [aaF,fE,gd,gu];refine bu (dr hi) (aH (cH hi) (aH (cH hi) (aH ?_ ?_)))
   ·rw [eE];simp only [mx]at hA;simp;omega
   ·rw [ix hi hA,e2];have:=ih (acc++[s.A[i].body,s.A[i].after]) (eh);rw [he]at this;exact this
 exact k pre (by omega)
theorem ajY(D:List CD):(dK D).length =2*D.length:=by
 induction D with
 |nil=>rfl
 |cons d D ih=>simp only [dK,uK,fy,nc,sb]at ih⊢;omega
theorem aD5(D:List CA):(aK D).length =2*D.length:=by
 induction D with
 |nil=>rfl
 |cons d D ih=>simp only [aK,uK,fy,nc,sb]at ih⊢;omega
include bB in
theorem OI:s.kids.length<=8000000:=by
 cases bB with|mk _ hf hL hD hH hA h1 h2 hk=>
 have a:=ajY s.D;have b:=aD5 s.A;simp only [dK,aK]at a b;simp only [CS.kids,fy,eE];simp only [mx]at hL hD hH hA;omega
include bB in
theorem aaj:Ev Ie [aS s] (0,[fh s.kids]):=by
 have hk:=OI bB;have hd:=aMF bB;obtain⟨hL,hD,hH⟩:s.L.length<=mx∧s.D.length<=mx∧s.H.length<=mx:=by cases bB with|mk _ hf hL hD hH hA h1 h2 hk=>exact⟨hL,hD,hH⟩
 have a:=ajY s.D;simp only [mx]at hL hD hH;have hh:=aME bB (pre:=dK s.D++s.L) (Jg);have ha:=aMG bB (pre:=(dK s.D++s.L)++s.H.map CH.body) (by rw [fy,fy,eE];omega);have e1:fh (dK s.D++s.L)= bD ((dK s.D).map encS++s.L.map encS):=by
  show bD ((dK s.D++s.L).map encS)=_;rw [oy]
 refine bz ay2 ?_;rw [fE];refine aj hd ?_;show E (λN _=>aP (decide ((((dK s.D).map encS).length +(gR (encS s) 17).length)*272<=140737488355328))<|bO (MU (FU CX EE N) N [J (dv (encS s)),bD ((dK s.D).map encS++(gR (encS s) 17))]) λ_ o4=>bO (Bo (FU CX EE N) N N [iI 0,J (dv (gC o4 0)),bD (gR o4 1)]) λ_ o5=>some (0,[bD (gR o5 1)])) _;rw [an0,fE,<-e1];refine aH (by rw [eE,eE,a];simp;omega) (aj hh ?_);show E (λN _=>bO (Bo (FU CX EE N) N N [iI 0,J (dv (encS s)),fh ((dK s.D++s.L)++s.H.map CH.body)]) λ_ o5=>some (0,[bD (gR o5 1)])) _;rw [fE];refine aj ha.diag (af ?_);show(0,[fh (((dK s.D++s.L)++s.H.map CH.body)++aK s.A)])=_;simp only [CS.kids,iJ]
end
theorem N8(a b:List CS)(t:Int):iv (a++b) t=iv a t+iv b t:=by
 induction a with
 |nil=>simp [iv]
 |cons x a ih=>simp only [ki,iv,ih];omega
theorem aDu(D:List CD)(t:Int):iv (dK D) t=sj D t:=by
 induction D with
 |nil=>rfl
 |cons d D ih=>simp only [dK,uK,N8]at ih⊢;simp only [iv,sj,agO,ih];omega
theorem aDv(A:List CA)(t:Int):iv (aK A) t=sk A t:=by
 induction A with
 |nil=>rfl
 |cons d D ih=>simp only [aK,uK,N8]at ih⊢;simp only [iv,sk,agP,ih];omega
theorem aEC(H:List CH)(t:Int):iv (H.map CH.body) t=si H t:=by
 induction H with
 |nil=>rfl
 |cons d D ih=>simp only [nf,iv,si,agN,ih]
theorem aBr(s:CS)(t:Int):j8 s t=(if s.f.kind=9 then s.f.Ts.count t else 0)+iv s.kids t:=by
 rw [agM];simp only [CS.kids,N8,aEC];have a:=aDu s.D t;have b:=aDv s.A t;simp only [dK,aK]at a b;rw [a,b]
def cl(n:Nat)(c:Int->Nat):cT:=(List.range n).map λt:Nat=>(c (t:Int):Int)
theorem zQ(n:Nat)(c:Int->Nat):(cl n c).length =n:=by simp [cl]
theorem ZA(h:ib t n=true):(cl n c).getD t.toNat 0=(c t:Int):=by
 have:=jf.1 h;have h2:t.toNat<n:=by omega
 rw [mY,dz (by rw [zQ];exact h2)];simp only [cl,List.getElem_map,List.getElem_range,oR];rw [Int.toNat_of_nonneg this.1]
theorem aDZ(h:ib t n=true):(cl n c).set t.toNat ((c t:Int)+1)=cl n λx=>c x+if t=x then 1 else 0:=by
 have ht:=jf.1 h;apply List.ext_getElem
 ·simp [cl]
 ·intro i h1 h2;rw [List.getElem_set];simp only [cl,List.getElem_map,List.getElem_range]
  by_cases he:t.toNat=i
  ·rw [if_pos he];have:t=(i:Int):=by omega
   rw [<-this,if_pos rfl];omega
  ·rw [if_neg he,if_neg (by omega)];omega
theorem aFL{s:CS}(hT:s.f.Ts.length<=mx)(hr:∀t∈s.f.Ts,ib t n=true)(hb:∀t,c t+s.f.Ts.count t<=100000):
 bP Hu [iI 0,aa (ints (cl n c)),aS s] (0,[aa (ints (cl n λt=>c t+s.f.Ts.count t)),aS s]):=by
 have hg:=aNl s;generalize s.f.Ts=Ts at hT hr hb hg⊢;have k:=fD (m:=Ts.length) (P:=λi=>∀c:Int->Nat,(∀t,c t+(Ts.drop i).count t<=100000)->bP Hu [iI (i:Int),aa (ints (cl n c)),aS s] (0,[aa (ints (cl n λt=>c t+(Ts.drop i).count t)),aS s]))
  (λc _=>by
    rw [gp];refine bF ab1 ?_;rw [hg,fE];refine aC dU (af ?_);have:(λt=>c t+List.count t ([]:cT))=c:=by funext t;simp
    rw [this])
  λi hi ih c hb=>by
   have hd:Ts.getD i 0=Ts[i]:=tQ;have ho:=hr _ (dO hi);have fj:ib Ts[i] (ints (cl n c)).length =true:=by rw [eE,zQ];exact ho
   have hbi:=hb Ts[i];have hgc:gA (ints (cl n c)) Ts[i].toNat =[iI (c Ts[i]:Int)]:=by
    have h2:Ts[i].toNat <(cl n c).length :=by have:=jf.1 ho;rw [zQ];omega
    have h3:=ZA (c:=c) ho;rw [mY,dz h2]at h3;rw [sf h2];show [iI (cl n c)[Ts[i].toNat]]=_;rw [show(cl n c)[Ts[i].toNat]=(c Ts[i]:Int)from h3]
   have yt:(ints (cl n c)).set Ts[i].toNat [iI ((c Ts[i]:Int)+1)]=ints (cl n λx=>c x+if Ts[i]=x then 1 else 0):=by
    rw [<-aDZ ho];show((cl n c).map _).set _ _=((cl n c).set _ _).map _;rw [Xx]
   have e2:(λt=>c t+(Ts.drop i).count t)=λt=>(c t+if Ts[i]=t then 1 else 0)+(Ts.drop (i+1)).count t:=by
    funext t
    rw [gF hi,Xf]
    by_cases he:Ts[i]=t
    ·simp [he];omega
    ·simp [he]
   refine bF ab1 ?_;rw [hg,fE,mh hi,hd,hgc];refine bu (dr hi) (aH (cH hi) (aH fj (aH (toN_lt fj) (aH fj (aH (toN_lt fj) ?_)))));rw [ix hi hT,e2];have:=ih (λt=>c t+if Ts[i]=t then 1 else 0) (λt=>aib);have hw:bx (gI [iI (c Ts[i]:Int)] 0+1)=(c Ts[i]:Int)+1:=by
    show bx ((c Ts[i]:Int)+1)=_;rw [jv (by omega) (by omega)]
   rw [<-yt]at this;rw [hw];exact this
 have:=k c (Ja);rw [gD]at this;exact this
theorem aFK:∀s:CS,s.Ok->∀c:Int->Nat,(∀t,j8 s t≠0->ib t n=true)->(∀t,c t+j8 s t<=100000)->
 Ev MH [aS s,aa (ints (cl n c))] (0,[aa (ints (cl n λt=>c t+j8 s t))]):=by
 refine CS.ind λs ih bB c hr hb=> ?_;have kP:∀y∈s.kids,y.Ok:=JC;have hT:s.f.Ts.length<=mx:=by cases bB with|mk _ h=>exact h.Ts
 have Lc:=aBr s
 let c1:Int->Nat:=λt=>c t+if s.f.kind=9 then s.f.Ts.count t else 0
 have Dr:bM Uj [aa (ints (cl n c)),aS s] (0,[aa (ints (cl n c1)),aS s]):=by
  refine bU asQ ?_;rw [aNk,fE];refine av (c:=s.f.kind==9) (λh=> ?_) λh=>af ?_
  ·have hk:s.f.kind=9:=eq_of_beq h;have e:c1=λt=>c t+s.f.Ts.count t:=by funext t;simp only [c1];rw [if_pos hk]
   rw [e];refine aj (aFL hT (λt ht=>hr t ?_) λt=> ?_).diag (af ?_)
   ·rw [Lc,if_pos hk];have:=List.count_pos_iff.2 ht;omega
   ·have:=hb t;rw [Lc,if_pos hk]at this;omega
   ·show(0,[_,J (dv (encS s))])=_;rw [fE];rfl
  ·have hk:¬s.f.kind=9:=by simpa using h
   have e:c1=c:=by funext t;simp only [c1];rw [if_neg hk];rfl
   rw [e]
 have kl:=OI bB;have k:=fD (m:=s.kids.length) (P:=λi=>∀c:Int->Nat,(∀t,c t+iv (s.kids.drop i) t<=100000)->bP Mm [iI (i:Int),aa (ints (cl n c)),fh s.kids] (0,[aa (ints (cl n λt=>c t+iv (s.kids.drop i) t)),fh s.kids]))
  (λc _=>by
    rw [gp];refine bF acb (aC dU (af ?_));have:(λt=>c t+iv [] t)=c:=by funext t;simp [iv]
    rw [this])
  λi hi fb c jq=>by
   have hm:=dO hi;have gs:dv (gA (s.kids.map encS) ((i:Int).toNat))=encS s.kids[i]:=Jd;have e2:(λt=>c t+iv (s.kids.drop i) t)=λt=>(c t+j8 s.kids[i] t)+iv (s.kids.drop (i+1)) t:=by
    funext t;rw [gF hi];simp only [iv];omega
   have hle:∀t,j8 s.kids[i] t<=iv s.kids t:=λt=>by
    have:s.kids=s.kids.take i++s.kids.drop i:=(OT i s.kids).symm;have h2:iv s.kids t=iv (s.kids.take i) t+iv (s.kids.drop i) t:=by
     rw [<-N8,OT]
    rw [h2,gF hi];simp only [iv];omega
   have j:=ih s.kids[i] hm (kP _ hm) c (λt ht=>hr t (by rw [Lc];have:=hle t;omega)) (λt=>by have:=jq t;rw [OS e2 t]at this;omega);refine bF acb (bu (dr hi) (aH (cH hi) (aH (toN_lt (cH hi)) ?_)));rw [gs,E4 (by omega)];refine aj j ?_;rw [e2];exact fb (λt=>c t+j8 s.kids[i] t) (λt=>by have:=jq t;rw [OS e2 t]at this;exact this)
 refine bz awk ?_;rw [fE];refine aj (aaj bB) (aj Dr ?_);have k0:=k c1 (λt=>by have:=hb t;rw [Lc]at this;rw [gD];simp only [c1];omega);rw [gD]at k0;refine aj k0.diag (af ?_);have:(λt=>c1 t+iv s.kids t)=λt=>c t+j8 s t:=by funext t;rw [Lc];simp only [c1];omega
 rw [this];rfl
end
end Go.Proofs.YtomkobcipaligaaGreatDoor
namespace Go.az
def anm{p:Prop}(h:p:=by
 refine av (c:=decide (p.tasks[i].prio <0)) (λc=>af (a ?_)) λc=>av (c:=decide (31<p.tasks[i].prio)) (λd=>af (a ?_)) λd=>av (c:=decide (8<ln (p.tasks[i].au.map iM))) (λe=>af (a ?_)) λe=>av (c:=decide (p.tasks[i].dead <0)) (λf=>af (a ?_)) λf=>av (c:=decide (2147483647<p.tasks[i].dead)) (λg=>af (a ?_)) λg=>b ?_
 ·unfold vk;rw [c];rfl
 ·unfold vk;rw [c,d];rfl
 ·unfold vk;rw [c,d,e];rfl
 ·unfold vk;rw [c,d,e,f];rfl
 ·unfold vk;rw [c,d,e,f,g];rfl
 ·unfold vk;rw [c,d,e,f,g];rfl):p:=h
def ahI{p:Prop}(h:p:=by
 cases t with
 |mk a b c d=>cases c;rfl):p:=h
def Pk{p:Prop}(h:p:=by unfold AI;rw [c,d,e];rfl):p:=h
end Go.az
namespace Go.Proofs.YtomkobcipaligaaGreatDoor
open Go Go.az
theorem anZ(t:TK):gI (cE t) 23=t.dead:=ahI
theorem anY(t:TK):gI (cE t) 0=t.prio:=rfl
theorem aaC(t:TK):gR (cE t) 1=t.au.map iM:=rfl
theorem QL(t:TK):cO dD 2 (cE t)=encS t.body:=ahI
theorem aFy(q:PR):MF (fr q)=fr q:=rfl
abbrev aQ(q:PR):AV:= J (fr q)
def vk(t:TK):Bool:=bif decide (t.prio<0)then false else bif decide (31<t.prio)then false else bif decide (8<ln (t.au.map iM))then false else bif decide (t.dead<0)then false else !decide (2147483647<t.dead)
def AI(q:PR):Bool:=bif decide (q.ceil<0)then false else bif decide (31<q.ceil)then false else !decide (8<ln (q.bars.map aU))
section
variable {p:PG} (hp:p.Ok)
include hp in
theorem mtC:bP H6 [fq (p.tasks.map cE),iI (ln (p.tasks.map cE)),iI 0] (bif p.tasks.any (λt=> !vk t)then(0,[aq])else(1,[])):=by
 refine oY (l:=p.tasks) (p:=λt=> !vk t) (LF:=λi N m=>H6 (FU CX EE N) N m [fq (p.tasks.map cE),iI (ln (p.tasks.map cE)),iI (i:Int)])
  (bF adW (aC dU aL))
  λi hi r a b=>bF adW (bu (dr hi) (aH (cH hi) ?_))
 rw [fM hi,anY,aaC,anZ,ix hi hp.tasks];exact anm
include hp in
theorem mtR:bP H5 [iI 0,aG p] (bif p.tasks.any (λt=> !vk t)then(0,[aq,aG p])else(1,[aG p])):=by
 refine oY (l:=p.tasks) (p:=λt=> !vk t) (LF:=λi N m=>H5 (FU CX EE N) N m [iI (i:Int),aG p])
  (bF adR (aC (dU (f:=cE) (l:=p.tasks)) aL))
  λi hi r a b=>bF adR (bu (dr (f:=cE) hi) (aH (cH (f:=cE) hi) ?_))
 rw [show gA (gR (mN p) 2) ((i:Int).toNat)=cE p.tasks[i]from fM hi,anY,aaC,anZ,ix hi hp.tasks];exact anm
theorem aMl(q:PR):bM UM [aQ q] (bif AI q then(0,[aQ q])else(1,[aq,aQ q])):=by
 refine bU at1 (av (c:=decide (q.ceil<0)) (λc=>af ?_) λc=>av (c:=decide (31<q.ceil)) (λd=>af ?_) λd=>av (c:=decide (8<ln (q.bars.map aU))) (λe=>af ?_) λe=>af ?_)
 ·unfold AI;rw [c];rfl
 ·unfold AI;rw [c,d];rfl
 ·exact Pk
 ·exact Pk
theorem aMk(q:PR):bM Vr [aQ q] (bif AI q then(0,[aQ q])else(1,[aq,aQ q])):=by
 refine bU awe (av (c:=decide (q.ceil<0)) (λc=>af ?_) λc=>av (c:=decide (31<q.ceil)) (λd=>af ?_) λd=>av (c:=decide (8<ln (q.bars.map aU))) (λe=>af ?_) λe=>af ?_)
 ·unfold AI;rw [c];rfl
 ·unfold AI;rw [c,d];rfl
 ·exact Pk
 ·exact Pk
theorem aFo(hE:ml)(ol:OL p.bw){q:PR}(hq:q.Ok)(hr:∀x∈q.jR,ib x p.bw.length=true):∃b,
 bP Bj [aT (q.bars.map aU),iI (ln (q.bars.map aU)),iI 0,aG p,aQ q] (bif b then(1,[aG p,aQ q])else(0,[aq,aG p,aQ q]))∧
 bP Bn [iI 0,aG p,aQ q] (bif b then(1,[aG p,aQ q])else(0,[aq,aG p,aQ q])):=by
 have k:=fD (m:=q.bars.length) (P:=λi=>∃b,
  bP Bj [aT (q.bars.map aU),iI (ln (q.bars.map aU)),iI (i:Int),aG p,aQ q] (bif b then(1,[aG p,aQ q])else(0,[aq,aG p,aQ q]))∧
  bP Bn [iI (i:Int),aG p,aQ q] (bif b then(1,[aG p,aQ q])else(0,[aq,aG p,aQ q])))
  ⟨true,bF acw (aC dU aL),bF acL (aC (dU (f:=aU) (l:=q.bars)) aL)⟩
  λi hi ih=>by
   have hm:=dO hi;have he:=hq.bars.2 _ hm;obtain⟨s,t,b,o1,o2,o3⟩:=RT hE ol (ln (q.bars.map aU)) q.bars[i] he;have C:∀r:UO,_->bP Bj [aT (q.bars.map aU),iI (ln (q.bars.map aU)),iI (i:Int),aG p,aQ q] r:=λr h=>by
    refine bF acw (bu (dr hi) (aH (cH hi) ?_));rw [su hi];refine aj o1 ?_;exact h
   have R:∀r:UO,_->bP Bn [iI (i:Int),aG p,aQ q] r:=λr h=>by
    refine bF acL (bu (dr (f:=aU) hi) (aH (cH (f:=aU) hi) ?_));rw [show nz (gA (gR (fr q) 2) ((i:Int).toNat))=aU (q.bars[i]'hi)from su hi];refine aj o2 ?_;exact h
   cases b with
   |false=>exact⟨false,C _ (aX aL),R _ (aX aL)⟩
   |true=>
    obtain⟨rel,_⟩:=o3 rfl;have ht:=rel.rel.j7;have c2:=Aa s;have r2:=z8 t;rw [<-ht]at r2;cases hb:j7 s with
    |false=>
     rw [hb]at c2 r2;exact⟨false,C _ (bj (aj c2 (aX aL))),R _ (bj (aj r2 (aX aL)))⟩
    |true=>
     rw [hb]at c2 r2;obtain⟨b,p1,p2⟩:=aDp hq.jR hr q.bars[i] he;have C2:∀r:UO,_->bP Bj [aT (q.bars.map aU),iI (ln (q.bars.map aU)),iI (i:Int),aG p,aQ q] r:=λr h=>by
      refine C r (bj (aj c2 (bj (aj p1 ?_))));exact h
     have R2:∀r:UO,_->bP Bn [iI (i:Int),aG p,aQ q] r:=λr h=>by
      refine R r (bj (aj r2 (bj (aH (cH (f:=aU) hi) (aj p2 ?_)))));exact h
     cases b with
     |false=>exact⟨false,C2 _ (aX aL),R2 _ (aX aL)⟩
     |true=>
      obtain⟨b,i1,i2⟩:=ih;rw [<-ix hi hq.bars.1]at i1 i2;exact⟨b,C2 _ (bj i1),R2 _ (bj i2)⟩
 exact k
include hp in
theorem aDl(hE:ml)(ol:OL p.bw)(hr:∀q∈p.dp,∀x∈q.jR,ib x p.bw.length=true):∃b,
 bP Eo [nT (p.dp.map fr),iI (ln (p.dp.map fr)),iI 0,aG p] (bif b then(1,[aG p])else(0,[aq,aG p]))∧
 bP Ep [iI 0,aG p] (bif b then(1,[aG p])else(0,[aq,aG p])):=by
 have k:=fD (m:=p.dp.length) (P:=λi=>∃b,
  bP Eo [nT (p.dp.map fr),iI (ln (p.dp.map fr)),iI (i:Int),aG p] (bif b then(1,[aG p])else(0,[aq,aG p]))∧
  bP Ep [iI (i:Int),aG p] (bif b then(1,[aG p])else(0,[aq,aG p])))
  ⟨true,bF ac9 (aC dU aL),bF ads (aC (dU (f:=fr) (l:=p.dp)) aL)⟩
  λi hi ih=>by
   have hm:=dO hi;have gq:MF (gA (p.dp.map fr) ((i:Int).toNat))=fr p.dp[i]:=by rw [fM hi,aFy]
   have c1:=aMl p.dp[i];have r1:=aMk p.dp[i];have C:∀r:UO,_->bP Eo [nT (p.dp.map fr),iI (ln (p.dp.map fr)),iI (i:Int),aG p] r:=λr h=>by
    refine bF ac9 (bu (dr hi) (aH (cH hi) ?_));rw [gq];refine aj c1 ?_;exact h
   have R:∀r:UO,_->bP Ep [iI (i:Int),aG p] r:=λr h=>by
    refine bF ads (bu (dr (f:=fr) hi) (aH (cH (f:=fr) hi) ?_));rw [show MF (gA (gR (mN p) 3) ((i:Int).toNat))=fr (p.dp[i]'hi)from gq];refine aj r1 ?_;exact h
   cases hb:AI p.dp[i]with
   |false=>
    rw [hb]at C R;exact⟨false,C _ (bj aL),R _ (bj aL)⟩
   |true=>
    rw [hb]at C R;obtain⟨b,b1,b2⟩:=aFo hE ol (hp.gr _ hm) (hr _ hm);cases b with
    |false=>exact⟨false,C _ (aX (aj b1.diag (aX aL))),R _ (aX (aj b2.diag (aX aL)))⟩
    |true=>
     obtain⟨b,i1,i2⟩:=ih;rw [<-ix hi hp.dp]at i1 i2;exact⟨b,C _ (aX (aj b1.diag (bj i1))),R _ (aX (aj b2.diag (bj i2)))⟩
 exact k
end
end Go.Proofs.YtomkobcipaligaaGreatDoor
namespace Go.az
def Zc{p:Prop}(h:p:=by
 show cO dD 2 (gA (p.tasks.map cE) ((i:Int).toNat))=_;rw [fM hi,QL]):p:=h
def PE{p:Prop}(h:p:=by unfold pE;rw [a,b,c,d,e,f];rfl):p:=h
end Go.az
namespace Go.Proofs.YtomkobcipaligaaGreatDoor
open Go Go.az
section
variable{c:Int->Nat}
def w0(t:Int):WH:=⟨t,[],[],[],[],[],false,false,false,-1,0⟩
def ig:List TK->Int->Nat
 | [],_=>0
 |x::xs,t=>j8 x.body t+ig xs t
section
variable {p:PG} {ro:List RO}
def aD8{i:Nat}(hi:i<p.tasks.length):WI p (w0 i):=
 ⟨⟨.inl (pa),(by intro a h;cases h),qw hi⟩,sa _,sa _,sa _,sa _,sa _,by show(0:Int)<=64;omega⟩
abbrev K2(p:PG)(lf:Int):AV:= J (dP 2 1 p lf)
def aLv(ct:CT p ro)(hE:ml):∀lf cn cc,ST p lf cn cc->∃b dy c9,ay (au c9)=c9∧
 bP En [fq (p.tasks.map cE),iI (ln (p.tasks.map cE)),iI 0,K2 p lf,.ab 0 cn,cR ro] (bif b then(1,[K2 p dy,.ab 0 c9,cR ro])else(0,[aq,K2 p dy,.ab 0 c9,cR ro]))∧
 bP Bw [rR ro,iI lf,iI 0,aG p] (0,[iI (bif b then dy else-1),aG p])∧(b=true->ST p dy c9 λt=>cc t+ig p.tasks t):=by
 have pY:∀{i:Nat} {n:Int},i=p.tasks.length∨n<0->bP Bw [rR ro,iI n,iI (i:Int),aG p] (0,[iI n,aG p]):=λ{i n} h=>by
  refine bF adr (av (c:=decide ((i:Int)<ln (p.tasks.map cE))) (λa=>aC (c:=decide (0<=n)) ?_ aL) λ_=>aL);rw [dq]at a;simp at a⊢;rcases h with h|h<;>omega
 have k:=fD (m:=p.tasks.length) (P:=λi=>∀lf cn cc,ST p lf cn cc->∃b dy c9,ay (au c9)=c9∧
  bP En [fq (p.tasks.map cE),iI (ln (p.tasks.map cE)),iI (i:Int),K2 p lf,.ab 0 cn,cR ro] (bif b then(1,[K2 p dy,.ab 0 c9,cR ro])else(0,[aq,K2 p dy,.ab 0 c9,cR ro]))∧
  bP Bw [rR ro,iI lf,iI (i:Int),aG p] (0,[iI (bif b then dy else-1),aG p])∧(b=true->ST p dy c9 λt=>cc t+ig (p.tasks.drop i) t))
  (λlf cn cc st=>⟨true,lf,cn,st.pk,bF ac8 (aC dU (af (by rw [st.pk];rfl))),pY (.inl rfl),λ_=>st.ext λt=>by rw [gp];simp [ig]⟩)
  λi hi ih lf cn cc st=>by
   have hk:=ct.ok.task _ (dO hi);obtain⟨b,l1,c1,iz,e1,f1,g1⟩:=stE ct hE p.tasks[i].body hk.body (w0 i) (aD8 hi) lf cn cc st;have gb:cO dD 2 (gA (p.tasks.map cE) ((i:Int).toNat))=encS p.tasks[i].body :=by rw [fM hi,QL]
   have C:∀r:UO,_->bP En [fq (p.tasks.map cE),iI (ln (p.tasks.map cE)),iI (i:Int),K2 p lf,.ab 0 cn,cR ro] r:=λr h=>by
    refine bF ac8 (bu (dr hi) (aH (cH hi) ?_));rw [gb,st.pk];exact X7
   have R:∀r:UO,_->bP Bw [rR ro,iI lf,iI (i:Int),aG p] r:=λr h=>by
    refine bF adr (bu (dr (f:=cE) hi) (bu (c:=decide (0<=lf)) (PA) (aH (cH (f:=cE) hi) ?_)));rw [show cO dD 2 (gA (gR (mN p) 2) ((i:Int).toNat))=encS (p.tasks[i]'hi).body from gb];refine aj f1 ?_;exact h
   rw [ix hi ct.ok.tasks]at C R;cases b with
   |false=>
    refine⟨false,l1,c1,iz,C _ (aX (af ?_)),R _ (pY (.inr (pa))),λh=>bh⟩;erw [iz];rfl
   |true=>
    obtain⟨b,l2,c2,jb,e2,f2,g2⟩:=ih l1 c1 _ (g1 rfl);refine⟨b,l2,c2,jb,C _ (bj ?_),R _ f2,λh=>(g2 h).ext λt=> ?_⟩
    ·erw [iz];exact e2
    ·rw [gF hi];simp only [ig];omega
 intro lf cn cc st;have:=k lf cn cc st;rw [gD]at this;exact this
def aaa(n:Nat)(c:Int->Nat):Bool:=(List.range (n- 1)).any λi=>(c ((i+1:Nat):Int):Int) != 1
def aNw{lf:Int}{cn:aZ}(st:ST p lf cn c)(h1:1<=p.tasks.length)(hl:p.tasks.length<=32):
 bP Em [iI (ln (p.tasks.map cE)),iI 0,K2 p lf,.ab 0 cn,cR ro] (bif aaa p.tasks.length c then(0,[aq,K2 p lf,.ab 0 cn,cR ro])else(1,[K2 p lf,.ab 0 cn,cR ro])):=by
 rw [dq];have k:=uR (m:=p.tasks.length- 1) (p:=λi=>(c ((i+1:Nat):Int):Int) != 1) (hit:=(0,[aq,K2 p lf,.ab 0 cn,cR ro])) (done:=(1,[K2 p lf,.ab 0 cn,cR ro]))
  (LF:=λi N m=>Em (FU CX EE N) N m [iI (p.tasks.length:Int),iI ((i+1:Nat):Int),K2 p lf,.ab 0 cn,cR ro])
  (bF UT (aC (by simp<;>omega) (af (by rw [st.pk];rfl))))
  λi hi r a b=>bF UT (bu (by simp<;>omega) (bu (by simp<;>omega) ?_))
 ·refine bF UT (bu (eh) (bj ?_));rw [st.pk];exact k
 ·rw [st.pk,st.rep]
  by_cases h0:c ((i+1:Nat):Int)=0
  ·rw [if_pos h0];exact af (a (by rw [h0];rfl))
  ·rw [if_neg h0];refine av (c:=((c ((i+1:Nat):Int):Int) != 1)) (λd=>af (a d)) λd=> ?_;have:=b d;rw [E4 (by omega)];exact this
def aNu(h1:1<=p.tasks.length)(hl:p.tasks.length<=32):
 bP HU [iI 1,aG p,aa (ints (cl p.tasks.length c))] (bif aaa p.tasks.length c then(0,[aq,aG p,aa (ints (cl p.tasks.length c))])else(1,[aG p,aa (ints (cl p.tasks.length c))])):=by
 refine uR (m:=p.tasks.length- 1) (p:=λi=>(c ((i+1:Nat):Int):Int) != 1) (hit:=(0,[aq,aG p,aa (ints (cl p.tasks.length c))])) (done:=(1,[aG p,aa (ints (cl p.tasks.length c))]))
  (LF:=λi N m=>HU (FU CX EE N) N m [iI ((i+1:Nat):Int),aG p,aa (ints (cl p.tasks.length c))])
  (bF ac3 (aC (by show decide (((p.tasks.length- 1+1:Nat):Int)<ln (p.tasks.map cE))=false;rw [dq];simp<;>omega) aL))
  λi hi r a b=>bF ac3 (bu (by show decide (((i+1:Nat):Int)<ln (p.tasks.map cE))=true;rw [dq];simp;omega) ?_)
 have fp:ib ((i+1:Nat):Int) p.tasks.length=true:=qw (by omega);have anM:ib ((i+1:Nat):Int) (ints (cl p.tasks.length c)).length =true:=by rw [eE,zQ];exact fp
 have cF:i+1<(cl p.tasks.length c).length :=by rw [zQ];omega
 have hv:=ZA (c:=c) fp;have hg:gI (gA (ints (cl p.tasks.length c)) (((i+1:Nat):Int).toNat)) 0=(c ((i+1:Nat):Int):Int):=by
  rw [mE]at hv⊢;rw [Qx cF];exact hv
 rw [hg,E4 (by omega)];exact aH anM (aH (toN_lt anM) (av (c:=((c ((i+1:Nat):Int):Int) != 1)) (λd=>af (a d)) λd=>b d))
def aFJ(hp:p.Ok){c0:Int->Nat}(hr:∀t,ig p.tasks t≠0->ib t p.tasks.length=true)(hb:∀t,c0 t+ig p.tasks t<=100000):
 bP HV [iI 0,aG p,aa (ints (cl p.tasks.length c0))] (0,[aG p,aa (ints (cl p.tasks.length λt=>c0 t+ig p.tasks t))]):=by
 have Aj:∀(i:Nat) (hi:i<p.tasks.length) t,j8 p.tasks[i].body t<=ig p.tasks t:=λi hi t=>by
  have app:∀a b:List TK,ig (a++b) t=ig a t+ig b t:=λa b=>by
   induction a with
   |nil=>simp [ig]
   |cons x a ih=>simp only [ki,ig,ih];omega
  have:ig p.tasks t=ig (p.tasks.take i) t+ig (p.tasks.drop i) t:=by rw [<-app,OT]
  rw [this,gF hi];simp only [ig];omega
 have k:=fD (m:=p.tasks.length) (P:=λi=>∀c:Int->Nat,(∀t,c t+ig (p.tasks.drop i) t<=100000)->bP HV [iI (i:Int),aG p,aa (ints (cl p.tasks.length c))] (0,[aG p,aa (ints (cl p.tasks.length λt=>c t+ig (p.tasks.drop i) t))]))
  (λc _=>by
    rw [gp];refine bF ac4 (aC (dU (f:=cE) (l:=p.tasks)) (af ?_));have:(λt=>c t+ig [] t)=c:=by funext t;simp [ig]
    rw [this];rfl)
  λi hi ih c hb=>by
   have hk:=hp.task _ (dO hi);have gb:cO dD 2 (gA (gR (mN p) 2) ((i:Int).toNat))=encS p.tasks[i].body :=Zc;have e2:(λt=>c t+ig (p.tasks.drop i) t)=λt=>(c t+j8 p.tasks[i].body t)+ig (p.tasks.drop (i+1)) t:=by
    funext t;rw [gF hi];simp only [ig];omega
   have j:=aFK (n:=p.tasks.length) p.tasks[i].body hk.body c (λt ht=>hr t (by have:=Aj i hi t;omega)) (λt=>by have:=hb t;rw [OS e2 t]at this;omega);refine bF ac4 (bu (dr (f:=cE) hi) (aH (cH (f:=cE) hi) ?_));rw [gb,ix hi hp.tasks];refine aj j ?_;rw [e2];exact ih (λt=>c t+j8 p.tasks[i].body t) (λt=>aib)
 have:=k c0 (Ja);rw [gD]at this;exact this
def pE(p:PG):Bool:=bif !tV p.bw then false else bif decide (p.eQ<4)then false else bif decide (64<p.eQ)then false else bif decide (ln (p.tasks.map cE)<1)then false else bif decide (32<ln (p.tasks.map cE))then false else !decide (32<ln (p.dp.map fr))
def e0B(p:PG):Bool:=decide (0<ln ((ni p.tasks 0).au.map iM))
def aCF(h:pE p=true):tV p.bw=true∧4<=p.eQ∧p.eQ<=64∧1<=p.tasks.length∧p.tasks.length<=32:=by
 unfold pE at h;cases a:tV p.bw with
 |false=>rw [a]at h;cases h
 |true=>
  cases b:decide (p.eQ<4)with
  |true=>rw [a,b]at h;cases h
  |false=>
   cases c:decide (64<p.eQ)with
   |true=>rw [a,b,c]at h;cases h
   |false=>
    cases d:decide (ln (p.tasks.map cE)<1)with
    |true=>rw [a,b,c,d]at h;cases h
    |false=>
     cases e:decide (32<ln (p.tasks.map cE))with
     |true=>rw [a,b,c,d,e]at h;cases h
     |false=>
      rw [dq]at d e;simp at b c d e;exact⟨rfl,by omega,by omega,by omega,by omega⟩
def g0t(h:1<=p.tasks.length):gR (gA (p.tasks.map cE) 0) 1=(ni p.tasks 0).au.map iM:=by
 have:=FQ (l:=p.tasks) (i:=0) (qw (i:=0) (by omega));rw [show(0:Int).toNat =0 from rfl]at this;exact eX
def aEL(hp:p.Ok):bM Wg [aG p] (bif pE p&& !e0B p then(0,[aG p])else(1,[aq,aG p])):=by
 refine bU ayP (aj (ani hp.bw hp.obj).1 (av (c:= !tV p.bw) (λa=>af ?_) λa=>av (c:=decide (p.eQ<4)) (λb=>af ?_) λb=>av (c:=decide (64<p.eQ)) (λc=>af ?_) λc=>av (c:=decide (ln (p.tasks.map cE)<1)) (λd=>af ?_) λd=>av (c:=decide (32<ln (p.tasks.map cE))) (λe=>af ?_) λe=>av (c:=decide (32<ln (p.dp.map fr))) (λf=>af ?_) λf=>aH ?_ ?_))
 ·unfold pE;rw [a];rfl
 ·unfold pE;rw [a,b];rfl
 ·unfold pE;rw [a,b,c];rfl
 ·unfold pE;rw [a,b,c,d];rfl
 ·unfold pE;rw [a,b,c,d,e];rfl
 ·exact PE
 ·show decide (0<ln (p.tasks.map cE))=true;rw [dq]at d⊢;simp at d⊢;omega
 ·have h1:1<=p.tasks.length:=by rw [dq]at d;simp at d;omega
  have hh:pE p=true:=PE;rw [show gR (gA (gR (mN p) 2) 0) 1=(ni p.tasks 0).au.map iM from g0t h1];refine av (c:=e0B p) (λg=>af ?_) λg=>af ?_
  ·rw [hh,g];rfl
  ·rw [hh,g];rfl
def aEK(hp:p.Ok):bM Wz [aG p] (bif pE p then(0,[aG p])else(1,[aq,aG p])):=by
 refine bU azC (aj (ani hp.bw hp.obj).2 (av (c:= !tV p.bw) (λa=>af ?_) λa=>av (c:=decide (p.eQ<4)) (λb=>af ?_) λb=>av (c:=decide (64<p.eQ)) (λc=>af ?_) λc=>av (c:=decide (ln (p.tasks.map cE)<1)) (λd=>af ?_) λd=>av (c:=decide (32<ln (p.tasks.map cE))) (λe=>af ?_) λe=>av (c:=decide (32<ln (p.dp.map fr))) (λf=>af ?_) λf=>af ?_))
 ·unfold pE;rw [a];rfl
 ·unfold pE;rw [a,b];rfl
 ·unfold pE;rw [a,b,c];rfl
 ·unfold pE;rw [a,b,c,d];rfl
 ·unfold pE;rw [a,b,c,d,e];rfl
 ·exact PE
 ·exact PE
def aad(hp:p.Ok)(hE:ml):∃b,Ev tD [aG p] (0,[ak b])∧Ev tG [aG p] (0,[ak b]):=by
 have c6:=aEL hp;have r6:=aEK hp;cases hh:pE p with
 |false=>
  rw [hh]at c6 r6;exact⟨false,bz Iq (aj c6 (bj aL)),bz afv (aj r6 (bj aL))⟩
 |true=>
  rw [hh]at c6 r6;simp only [cg,ox]at c6 r6;obtain⟨h1,h2,h3,h4,h5⟩:=aCF hh;have ol:=aCs hp.bw h1;have t0:decide (0<ln (p.tasks.map cE))=true:=sq;have R0:∀r:UO,_->Ev tG [aG p] r:=λr h=>by
   refine bz afv (aj r6 (aX (aH t0 ?_)));erw [g0t h4];exact h
  cases he:e0B p with
  |true=>
   rw [he]at c6;exact⟨false,bz Iq (aj c6 (bj aL)),R0 _ (bu he aL)⟩
  |false=>
   rw [he]at c6;have mc:=mtC hp;have mr:=mtR hp;cases ht:p.tasks.any (λt=> !vk t)with
   |true=>
    rw [ht]at mc mr;have j:bM Ny [aG p] (1,[aq,aG p]):=bU adZ (aj mc.diag (aX aL));have j':bM NQ [aG p] (1,[aq,aG p]):=bU aef (aj mr.diag (aX aL));exact⟨false,bz Iq (aj c6 (aX (aj j (bj aL)))),R0 _ (aC he (aj j' (bj aL)))⟩
   |false=>
    rw [ht]at mc mr;have j:bM Ny [aG p] (0,[aG p]):=bU adZ (aj mc.diag (bj aL));have j':bM NQ [aG p] (0,[aG p]):=bU aef (aj mr.diag (bj aL));have hol:1<=p.bw.length:=by
     unfold tV at h1;cases z:decide (ln (cf p.bw)<1)with
     |true=>rw [z]at h1;cases h1
     |false=>rw [dq]at z;simp at z;omega
    obtain⟨x,rc⟩:=aDf hp ol hol;obtain⟨x',rr⟩:=aDe hp ol;cases hf:B0 p with
    |none=>
     rw [hf]at rc rr;exact⟨false,bz Iq (aj c6 (aX (aj j (aX (aj rc (aX aL)))))),R0 _ (aC he (aj j' (aX (aj rr (aX aL)))))⟩
    |some ro=>
     rw [hf]at rc rr;obtain⟨i1,i2,i3,i4⟩:=az1 hf;have aE3:∀q∈p.dp,∀x∈q.jR,ib x p.bw.length=true:=λq hq=>by
      refine aj5 hp.bw ?_;have:=i3 q hq;rw [<-dq fU p.bw];exact this
     have ct:CT p ro:=⟨hp,ol,i1,λr hr=>by
      rcases i2 r hr with h|⟨h,_⟩|⟨_,h⟩
      ·exact .inl h
      ·exact .inr (.inl h)
      ·exact .inr (.inr h),h3,h5,λt ht e he=>by
       obtain⟨a,b⟩:=i4 t ht e he;obtain⟨a1,a2⟩:=Fl hp.bw a;obtain⟨b1,b2⟩:=Fl hp.bw b;exact⟨a2,b2,a1,b1⟩⟩
     obtain⟨b,p1,p2⟩:=aDl hp hE ol aE3;have C1:∀r:UO,_->Ev tD [aG p] r:=λr h=>by
      refine bz Iq (aj c6 (aX (aj j (aX (aj rc (bj ?_))))));exact h
     have R1:∀r:UO,_->Ev tG [aG p] r:=λr h=>by
      refine R0 r (aC he (aj j' (aX (aj rr (bj ?_)))));exact h
     cases b with
     |false=>
      have k:bM Nk [aG p] (1,[aq,aG p]):=bU adB (aj p1.diag (aX aL));have k':bM Nv [aG p] (1,[aq,aG p]):=bU adX (aj p2.diag (aX aL));exact⟨false,C1 _ (aj k (bj aL)),R1 _ (aj k' (bj aL))⟩
     |true=>
      have k:bM Nk [aG p] (0,[aG p]):=bU adB (aj p1.diag (bj aL));have k':bM Nv [aG p] (0,[aG p]):=bU adX (aj p2.diag (bj aL));have p9:ST p 8192 (ay []) λ_=>0:=⟨xO,λt=>PC,λt=>by simp,by omega,by omega,λt h=>absurd rfl h⟩;obtain⟨b,lf,cn,pk,u1,u2,u3⟩:=aLv ct hE 8192 (ay []) _ p9;have C2:∀r:UO,_->Ev tD [aG p] r:=λr h=>by
       refine C1 r (aj k (aX (aj u1.diag ?_)));exact h
      have k1:bM VM [iI 8192,aG p,rR ro] (0,[iI (bif b then lf else-1),aG p,rR ro]):=bU axm (aj u2.diag aL);have R2:∀r:UO,_->Ev tG [aG p] r:=λr h=>by
       refine R1 r (aj k' (aX (aj k1 ?_)));exact h
      cases b with
      |false=>exact⟨false,C2 _ (aX aL),R2 _ (aX aL)⟩
      |true=>
       have st:=(u3 rfl).ext (d:=ig p.tasks) λt=>by simp
       have kX:∀t,ig p.tasks t≠0->ib t p.tasks.length=true:=λt ht=>by
        have:=st.jj t ht;exact Pn
       have q1:=aNw (ro:=ro) st h4 h5;have q0:=aFJ hp (c0:=λ_=>0) kX λt=>by have:=st.le t;have:=st.lo;omega
       have q2:=aNu (c:=λt=>0+ig p.tasks t) h4 h5;have e0:(λt=>0+ig p.tasks t)=ig p.tasks:=by funext t;simp
       rw [e0]at q0 q2;have jI:List.replicate ((ln (p.tasks.map cE)).toNat) ([iI 0]:Row)=ints (cl p.tasks.length λ_=>0):=by
        rw [dq,mE];apply List.ext_getElem
        ·simp [cl]
        ·intro i a b;simp [cl]
       have tl:(decide (0<=ln (p.tasks.map cE))&&decide (ln (p.tasks.map cE)<=ln (p.tasks.map cE))&&decide ((ln (p.tasks.map cE))*8<=140737488355328))=true:=sq;have R3:∀r:UO,_->Ev tG [aG p] r:=λr h=>by
        refine R2 r (aC (c:=decide (lf<0)) (PA) (aH tl ?_));rw [<-jI]at q0;refine aj q0.diag (aj q2.diag ?_);exact h
       have C3:∀r:UO,_->Ev tD [aG p] r:=λr h=>by
        refine C2 r (bj ?_);erw [pk];refine aj q1.diag ?_;exact h
       cases ho:aaa p.tasks.length (ig p.tasks)with
       |true=>
        rw [ho]at C3 R3;exact⟨false,C3 _ (aX aL),R3 _ (aX aL)⟩
       |false=>
        rw [ho]at C3 R3;have z0:gI (gA (ints (cl p.tasks.length (ig p.tasks))) 0) 0=0:=by
         have cF:0<(cl p.tasks.length (ig p.tasks)).length :=by rw [zQ];omega
         rw [Qx cF];have hv:=ZA (c:=ig p.tasks) (qw (i:=0) (show 0<p.tasks.length by omega));rw [show((0:Nat):Int).toNat =0 from rfl]at hv;rw [hv]
         by_cases hz:ig p.tasks ((0:Nat):Int)=0
         ·rw [hz];rfl
         ·have:=st.jj _ hz;omega
        have tn:decide (0<ln (ints (cl p.tasks.length (ig p.tasks))))=true:=by rw [dq,zQ];simp;omega
        have tn':decide (0<(ints (cl p.tasks.length (ig p.tasks))).length)=true:=by rw [eE,zQ];simp;omega
        refine⟨true,C3 _ (bj aL),R3 _ (bj (aH tn (aH tn' (af ?_))))⟩;show(0,[ak (gI (gA (ints (cl p.tasks.length (ig p.tasks))) 0) 0==0)])=_;rw [z0];rfl
end
end
end Go.Proofs.YtomkobcipaligaaGreatDoor
namespace Go.az
def xZ{p:Prop}(h:p:=by simp only [fy];omega):p:=h
def Qn{p:Prop}(h:p:=by rw [gD];simp only [fy,nc,sb,oP];omega):p:=h
end Go.az
namespace Go.az
def agt:=@List.set_append_right
end Go.az
namespace Go.Proofs.YtomkobcipaligaaGreatDoor
open Go Go.az
mutual
def fB:CS->List CS
 | .mk f l d h a=> .mk f l d h a::(kI d++(iu l++(nZ h++oB a)))
def iu:List CS->List CS
 | []=>[]
 |s::ss=>fB s++iu ss
def kI:List CD->List CS
 | []=>[]
 |s::ss=>Gk s++kI ss
def Gk:CD->List CS
 | .mk d u=>fB d++fB u
def nZ:List CH->List CS
 | []=>[]
 |s::ss=>CG s++nZ ss
def CG:CH->List CS
 | .mk _ b=>fB b
def oB:List CA->List CS
 | []=>[]
 |s::ss=>Gl s++oB ss
def Gl:CA->List CS
 | .mk _ _ _ _ b a=>fB b++fB a
end
def agH(s:CS):fB s=s::(kI s.D++(iu s.L++(nZ s.H++oB s.A))):=wm
def agJ(s:CD):Gk s=fB s.d++fB s.u:=wm
def agI(s:CH):CG s=fB s.body:=wm
def agK(s:CA):Gl s=fB s.body++fB s.after:=wm
def WD(a b:List CS):iu (a++b)=iu a++iu b:=by
 induction a with
 |nil=>rfl
 |cons x a ih=>simp only [ki,iu,ih,iJ]
def aDn(D:List CD):iu (dK D)=kI D:=by
 induction D with
 |nil=>rfl
 |cons d D ih=>simp only [dK,uK,WD]at ih⊢;simp only [iu,kI,agJ,ih,zG]
def aDo(A:List CA):iu (aK A)=oB A:=by
 induction A with
 |nil=>rfl
 |cons d D ih=>simp only [aK,uK,WD]at ih⊢;simp only [iu,oB,agK,ih,zG]
def aEs(H:List CH):iu (H.map CH.body)=nZ H:=by
 induction H with
 |nil=>rfl
 |cons d D ih=>simp only [nf,iu,nZ,agI,ih]
def af3(s:CS):fB s=s::iu s.kids:=by
 rw [agH];simp only [CS.kids,WD,aEs];have a:=aDn s.D;have b:=aDo s.A;simp only [dK,aK]at a b;rw [a,b]
def aeW{l:List CS}{i:Nat}(h:i<l.length):iu (l.drop i)=fB l[i]++iu (l.drop (i+1)):=by rw [gF h];rfl
abbrev oP:Nat:=100000000
def ajL(a b:List CS):fh (a++b)= bD (a.map encS++b.map encS):=by
 show bD ((a++b).map encS)=_;rw [oy]
def Ks:∀s:CS,s.Ok->∀acc:List CS,acc.length+(fB s).length <=oP->Ev NH [aS s,fh acc] (0,[fh (acc++fB s)]):=by
 refine CS.ind λs ih bB acc hb=> ?_;have kP:∀y∈s.kids,y.Ok:=JC;have kl:=OI bB;have K5:=af3 s;rw [K5]at hb⊢;simp only [nc,oP]at hb;have k:=fD (m:=s.kids.length) (P:=λi=>∀acc:List CS,acc.length+(iu (s.kids.drop i)).length <=oP->bP MC [iI (i:Int),fh s.kids,fh acc] (0,[fh s.kids,fh (acc++iu (s.kids.drop i))]))
  (λacc _=>by
    rw [gp];exact bF acK (aC dU (af (by simp [iu]))))
  λi hi fb acc jq=>by
   have hm:=dO hi;have gs:dv (gA (s.kids.map encS) ((i:Int).toNat))=encS s.kids[i]:=Jd;have e:=aeW hi;rw [e]at jq⊢;rw [fy]at jq;have j:=ih s.kids[i] hm (kP _ hm) acc (by omega);refine bF acK (bu (dr hi) (aH (cH hi) (aH (toN_lt (cH hi)) ?_)));rw [gs,E4 (by omega)];refine aj j ?_;rw [<-iJ];exact fb (acc++fB s.kids[i]) (Jg)
 refine bz ay1 (aH (wG) ?_);rw [fE];refine aj (aaj bB) ?_;have k0:=k (acc++[s]) (by rw [fy,gD];simp only [nc,sb,oP];omega);rw [ajL]at k0;refine aj k0.diag (af ?_);show(0,[fh ((acc++[s])++iu (s.kids.drop 0))])=_;rw [gD,iJ];rfl
abbrev oq:AV:= J [.du 35 [] [.ptr 0 0 0,.ptr 1 0 0]]
def N4{cs xs:bp}(h:xs.length=cs.length):setAt cs 0 xs=xs:=by
 apply OY;intro j;rw [ES xs cs 0 (by omega) j]
 by_cases hj:j<xs.length
 ·rw [if_pos (by omega),Nat.sub_zero]
 ·rw [if_neg (by omega),BT (by omega),BT (by omega)]
def ID(s:CS):(encS s).length =21:=xT
def aB8(s:CS):setAt Kv 0 (encS s)=encS s:=N4 (by rw [ID];rfl)
def aBh{α:Type}(l:List α)(x y:α):(l++[x]).set l.length y=l++[y]:=by
 rw [agt _ _ (gz _),II];rfl
def aCI(l:aZ)(x:Row):gA (l++[x]) l.length=x:=by simp [gA,List.getD]
def Kt:∀s:CS,s.Ok->∀acc:List CS,acc.length+(fB s).length <=oP->Ev xw [aS s,J [.aA 2],oq,fh acc] (0,[J [.aA 3],oq,fh (acc++fB s)]):=by
 refine CS.ind λs ih bB acc hb=> ?_;cases bB with|mk _ hf hL hD hH hA h1 h2 hk=>
 rw [agH]at hb⊢;simp only [nc,fy,oP]at hb;have kD:=fD (m:=s.D.length) (P:=λi=>∀acc:List CS,acc.length+(kI (s.D.drop i)).length <=oP->bP L3 [c5 (s.D.map cq),iI (ln (s.D.map cq)),iI (i:Int),J [.aA 4],oq,J [.ptr 1 0 0],fh acc] (0,[J [.aA 4],oq,J [.ptr 1 0 0],fh (acc++kI (s.D.drop i))]))
  (λacc _=>by
    rw [gp];exact bF abP (aC dU (af (by simp [kI]))))
  λi hi fb acc jq=>by
   have hm:=dO hi;have gd:dv (gA (s.D.map cq) ((i:Int).toNat))=encS s.D[i].d :=X6;have gu:cO dD 21 (gA (s.D.map cq) ((i:Int).toNat))=encS s.D[i].u :=X5;have e:kI (s.D.drop i)=fB s.D[i].d ++(fB s.D[i].u ++kI (s.D.drop (i+1))):=by rw [gF hi];simp only [kI,agJ,iJ]
   rw [e]at jq⊢;simp only [fy]at jq;have j1:=ih s.D[i].d (ry hm).1 (hk _ (ry hm).1) acc (by omega);have j2:=ih s.D[i].u (ry hm).2 (hk _ (ry hm).2) (acc++fB s.D[i].d) (Jg);refine bF abP (bu (dr hi) (aH (cH hi) ?_));rw [gd,gu,ix hi hD];refine aj j1 (aj j2 ?_);have:=fb ((acc++fB s.D[i].d)++fB s.D[i].u) (xZ);rw [<-iJ,<-iJ];exact this
 have kL:=fD (m:=s.L.length) (P:=λi=>∀acc:List CS,acc.length+(iu (s.L.drop i)).length <=oP->bP L2 [bD (s.L.map encS),iI (ln (s.L.map encS)),iI (i:Int),J [.aA 4],oq,J [.ptr 1 0 0],fh acc] (0,[J [.aA 4],oq,J [.ptr 1 0 0],fh (acc++iu (s.L.drop i))]))
  (λacc _=>by
    rw [gp];exact bF abO (aC dU (af (by simp [iu]))))
  λi hi fb acc jq=>by
   have hm:=dO hi;have gs:dv (gA (s.L.map encS) ((i:Int).toNat))=encS s.L[i]:=Jd;have e:=aeW hi;rw [e]at jq⊢;simp only [fy]at jq;have j1:=ih s.L[i] (CO hm) (hk _ (CO hm)) acc (by omega);refine bF abO (bu (dr hi) (aH (cH hi) ?_));rw [gs,ix hi hL];refine aj j1 ?_;rw [<-iJ];exact fb (acc++fB s.L[i]) (xZ)
 have kH:=fD (m:=s.H.length) (P:=λi=>∀acc:List CS,acc.length+(nZ (s.H.drop i)).length <=oP->bP Ho [cZ (s.H.map cA),iI (ln (s.H.map cA)),iI (i:Int),J [.aA 4],oq,J [.ptr 1 0 0],fh acc] (0,[J [.aA 4],oq,J [.ptr 1 0 0],fh (acc++nZ (s.H.drop i))]))
  (λacc _=>by
    rw [gp];exact bF abN (aC dU (af (by simp [nZ]))))
  λi hi fb acc jq=>by
   have hm:=dO hi;have gs:cO dD 1 (gA (s.H.map cA) ((i:Int).toNat))=encS s.H[i].body :=by rw [fM hi,QM]
   have e:nZ (s.H.drop i)=fB s.H[i].body ++nZ (s.H.drop (i+1)):=by rw [gF hi];simp only [nZ,agI]
   rw [e]at jq⊢;simp only [fy]at jq;have j1:=ih s.H[i].body (CP hm) (hk _ (CP hm)) acc (by omega);refine bF abN (bu (dr hi) (aH (cH hi) ?_));rw [gs,ix hi hH];refine aj j1 ?_;rw [<-iJ];exact fb (acc++fB s.H[i].body) (xZ)
 have kA:=fD (m:=s.A.length) (P:=λi=>∀acc:List CS,acc.length+(oB (s.A.drop i)).length <=oP->bP Hn [cQ (s.A.map cw),iI (ln (s.A.map cw)),iI (i:Int),J [.aA 4],oq,J [.ptr 1 0 0],fh acc] (0,[J [.aA 4],oq,J [.ptr 1 0 0],fh (acc++oB (s.A.drop i))]))
  (λacc _=>by
    rw [gp];exact bF abM (aC dU (af (by simp [oB]))))
  λi hi fb acc jq=>by
   have hm:=dO hi;have gd:cO dD 12 (gA (s.A.map cw) ((i:Int).toNat))=encS s.A[i].body :=by rw [fM hi,F8]
   have gu:cO dD 33 (gA (s.A.map cw) ((i:Int).toNat))=encS s.A[i].after :=by rw [fM hi,F9]
   have e:oB (s.A.drop i)=fB s.A[i].body ++(fB s.A[i].after ++oB (s.A.drop (i+1))):=by rw [gF hi];simp only [oB,agK,iJ]
   rw [e]at jq⊢;simp only [fy]at jq;have j1:=ih s.A[i].body (rA hm).1 (hk _ (rA hm).1) acc (by omega);have j2:=ih s.A[i].after (rA hm).2 (hk _ (rA hm).2) (acc++fB s.A[i].body) (Jg);refine bF abM (bu (dr hi) (aH (cH hi) ?_));rw [gd,gu,ix hi hA];refine aj j1 (aj j2 ?_);have:=fb ((acc++fB s.A[i].body)++fB s.A[i].after) (xZ);rw [<-iJ,<-iJ];exact this
 have nN:(ln (acc.map encS)).toNat =(acc.map encS).length :=by show(((acc.map encS).length :Nat):Int).toNat =_;exact mE _
 have dX:Ev VR [aS s] (0,[aS s]):=bz ayf (af (by rw [fE]));have jD:bM Mb [J [.aA 5],oq,J [.ptr 1 0 0],aS s,fh (acc++[s])] (0,[J [.aA 5],oq,J [.ptr 1 0 0],aS s,fh ((acc++[s])++kI s.D)]):=by
  refine bU aru ?_;rw [aaE,fE];exact aj (kD (acc++[s]) (Qn)).diag (af (by rw [gD];rfl))
 have jL:bM Ma [J [.aA 5],oq,J [.ptr 1 0 0],aS s,fh ((acc++[s])++kI s.D)] (0,[J [.aA 5],oq,J [.ptr 1 0 0],aS s,fh (((acc++[s])++kI s.D)++iu s.L)]):=by
  refine bU art ?_;rw [an0,fE];exact aj (kL ((acc++[s])++kI s.D) (Qn)).diag (af (by rw [gD];rfl))
 have kH0:=kH (((acc++[s])++kI s.D)++iu s.L) (Qn);have kA0:=kA ((((acc++[s])++kI s.D)++iu s.L)++nZ s.H) (Qn);rw [gD]at kH0 kA0;refine bz ay6 (aH (wG) (aH ?_ (aH ?_ ?_)))
 ·show ib (((acc.map encS).length :Nat):Int) _=true;exact qw (by simp)
 ·rw [nN];simp
 ·rw [fE,nN,aCI,aB8,aBh];rw [show bD (acc.map encS++[encS s])=fh (acc++[s])from(ajL acc [s]).symm];refine aj dX ?_;show E (λN _=>bO (Mb (FU CX EE N) N [J [.aA 5],oq,J [.ptr 1 0 0],J (dv (encS s)),fh (acc++[s])]) _) _;rw [fE];refine aj jD ?_;show E (λN _=>bO (Ma (FU CX EE N) N [J [.aA 5],oq,J [.ptr 1 0 0],J (dv (encS s)),fh ((acc++[s])++kI s.D)]) _) _;rw [fE];refine aj jL ?_;show E (λN _=>bO (Ho (FU CX EE N) N N [cZ (gR (encS s) 19),iI (ln (gR (encS s) 19)),iI 0,J [.aA 4],oq,J [.ptr 1 0 0],fh (((acc++[s])++kI s.D)++iu s.L)]) λ_ cL=>bO (Hn (FU CX EE N) N N [cQ (gR (encS s) 20),iI (ln (gR (encS s) 20)),iI 0,J [.aA 4],oq,J [.ptr 1 0 0],bD (gR cL 3)]) _) _;rw [aaD,aaF];refine aj kH0.diag (aj kA0.diag (af ?_));show(0,[J [.aA 3],oq,fh (((((acc++[s])++kI s.D)++iu s.L)++nZ s.H)++oB s.A)])=_;simp only [iJ,ki,mb]
end Go.Proofs.YtomkobcipaligaaGreatDoor

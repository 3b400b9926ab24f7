/-
  May: heads of tasks, protected objects.
-/
import Derived.Test.YtomkobcipaligaaGreatDoorW4
set_option linter.all false
set_option linter.deprecated false
set_option maxHeartbeats 4000000
namespace Go.aA
def vE{p:Prop}(h:p:=by rw [qt]at h;simp only [dX]at h;rw [h]):p:=h
def wU{p:Prop}(h:p:=by rw [this,ph];rfl):p:=h
end Go.aA
namespace Go.Proofs.YtomkobcipaligaaGreatDoor
open Go Go.aA
section
variable{a b:Bool}{l:aW}
structure XF where
 N:Int
 O:Int
 T:Int
 P:Int
 entry:Int
 In:Bool
 rev:Bool
 pI:Bool
 els:Bool
 pZ:Bool
 mode:Int
def xz:XF:=⟨0,0,0,0,0,false,false,false,false,false,0⟩
def dk.x(f:dk):XF:=⟨f.N,f.O,f.T,f.P,f.entry,f.In,f.rev,f.pI,f.els,f.pZ,f.mode⟩
def fz(k:Int)(x:XF):dk:=⟨k,x.N,x.O,x.T,x.P,x.entry,x.In,x.rev,x.pI,x.els,x.pZ,x.mode,[],[],[],[],[]⟩
abbrev flat(k:Int)(x:XF):bl:=cZ (fz k x) [] [] [] []
theorem qt:(ln l != 0)= !l.isEmpty:=by cases l<;>simp [ln];omega
theorem sl(h:l.isEmpty=true):decide ((0:Int)<ln l)=false:=by
 have:l=[]:=jU;subst this;rfl
theorem eqE(l:aW):Ev MG [aT l,aT []] (0,[ak l.isEmpty]):=by
 refine bx aqn (aw (c:=ln l != 0) (λh=>af ?_) λh=> ?_)
 ·exact vE
 ·rw [qt]at h;simp only [dL]at h;rw [h];exact aj (E.diag (f:=λN m=>MB (FU CX EE N) N m _) (bD ap8 (ax (sl h) aL))) aL
theorem eqP(l:aW):Ev MD [bH l,bH []] (0,[ak l.isEmpty]):=by
 refine bx aqi (aw (c:=ln l != 0) (λh=>af ?_) λh=> ?_)
 ·exact vE
 ·rw [qt]at h;simp only [dL]at h;rw [h];exact aj (E.diag (f:=λN m=>Mw (FU CX EE N) N m _) (bD ap0 (ax (sl h) aL))) aL
theorem eqS(l:aW):Ev TV [bC l,bC []] (0,[ak l.isEmpty]):=by
 refine bx aqm (aw (c:=ln l != 0) (λh=>af ?_) λh=> ?_)
 ·exact vE
 ·rw [qt]at h;simp only [dL]at h;rw [h];exact aj (E.diag (f:=λN m=>MA (FU CX EE N) N m _) (bD ap7 (ax (sl h) aL))) aL
theorem eqI(l:aW):Ev U9 [aa l,aa []] (0,[ak l.isEmpty]):=by
 refine bx auh (aw (c:=ln l != 0) (λh=>af ?_) λh=> ?_)
 ·exact vE
 ·rw [qt]at h;simp only [dL]at h;rw [h];exact aj (E.diag (f:=λN m=>MO (FU CX EE N) N m _) (bD ar3 (ax (sl h) aL))) aL
theorem eqD(l:aW):Ev TQ [dh l,dh []] (0,[ak l.isEmpty]):=by
 refine bx aqd (aw (c:=ln l != 0) (λh=>af ?_) λh=> ?_)
 ·exact vE
 ·rw [qt]at h;simp only [dL]at h;rw [h];exact aj (E.diag (f:=λN m=>Mu (FU CX EE N) N m _) (bD apT (ax (sl h) aL))) aL
theorem eqH(l:aW):Ev TJ [dg l,dg []] (0,[ak l.isEmpty]):=by
 refine bx apU (aw (c:=ln l != 0) (λh=>af ?_) λh=> ?_)
 ·exact vE
 ·rw [qt]at h;simp only [dL]at h;rw [h];exact aj (E.diag (f:=λN m=>Mq (FU CX EE N) N m _) (bD apI (ax (sl h) aL))) aL
theorem eqA(l:aW):Ev TU [c8 l,c8 []] (0,[ak l.isEmpty]):=by
 refine bx aqj (aw (c:=ln l != 0) (λh=>af ?_) λh=> ?_)
 ·exact vE
 ·rw [qt]at h;simp only [dL]at h;rw [h];exact aj (E.diag (f:=λN m=>My (FU CX EE N) N m _) (bD ap1 (ax (sl h) aL))) aL
theorem Hf(l:aW):Ev Fq [aT l,aT []] (0,[ak l.isEmpty]):=by
 refine bx aAW (aw (c:=ln l != 0) (λh=>af ?_) λh=> ?_)
 ·exact vE
 ·rw [qt]at h;simp only [dL]at h;rw [h];exact aj (E.diag (f:=λN m=>NZ (FU CX EE N) N m _) (bD ayp (ax (sl h) aL))) aL
theorem aoi(l:aW):Ev Oq [bH l,bH []] (0,[ak l.isEmpty]):=by
 refine bx az7 (aw (c:=ln l != 0) (λh=>af ?_) λh=> ?_)
 ·exact vE
 ·rw [qt]at h;simp only [dL]at h;rw [h];exact aj (E.diag (f:=λN m=>NH (FU CX EE N) N m _) (bD axi (ax (sl h) aL))) aL
theorem aM4(l:aW):Ev O4 [aa l,aa []] (0,[ak l.isEmpty]):=by
 refine bx aBt (aw (c:=ln l != 0) (λh=>af ?_) λh=> ?_)
 ·exact vE
 ·rw [qt]at h;simp only [dL]at h;rw [h];exact aj (E.diag (f:=λN m=>Od (FU CX EE N) N m _) (bD azj (ax (sl h) aL))) aL
theorem aM3(l:aW):Ev Xv [bC l,bC []] (0,[ak l.isEmpty]):=by
 refine bx aAR (aw (c:=ln l != 0) (λh=>af ?_) λh=> ?_)
 ·exact vE
 ·rw [qt]at h;simp only [dL]at h;rw [h];exact aj (E.diag (f:=λN m=>NV (FU CX EE N) N m _) (bD ayo (ax (sl h) aL))) aL
def bb(a b:Bool):Bool:=bif a==b then true else false
def xB(k:Int)(f:XF)(k':Int)(x:XF):Bool:=
 (k==k')&&((f.N==x.N)&&((f.O==x.O)&&((f.T==x.T)&&((f.P==x.P)&&((f.entry==x.entry)&&((f.mode==x.mode)&&((f.In==x.In)&&((f.rev==x.rev)&&((f.pI==x.pI)&&((f.els==x.els)&&(f.pZ==x.pZ)))))))))))
def lB(f:dk)(L D H A:aW):Bool:=
 (f.E.map aP).isEmpty &&((f.Ins.map aP).isEmpty &&((ints f.Ts).isEmpty &&((f.To.map c5).isEmpty &&((f.fM.map c5).isEmpty &&(L.isEmpty&&(D.isEmpty&&(H.isEmpty&&A.isEmpty)))))))
def vP(f:dk)(L D H A:aW)(k':Int)(x:XF):Bool:=xB f.kind f.x k' x&&lB f L D H A
theorem sk(h:(!(a==b))=true):(a==b)=false:=jU
theorem ie(h:(!(a==b))=false):(a==b)=true:=jU
section
variable (f:dk) (L D H A:aW) (k:Int) (x:XF)
def iY(k:Int)(f:XF)(k':Int)(x:XF):Bool:=(k==k')&&((f.N==x.N)&&((f.O==x.O)&&((f.T==x.T)&&((f.P==x.P)&&((f.entry==x.entry)&&(f.mode==x.mode))))))
def iC(f x:XF):Bool:=(f.In==x.In)&&((f.rev==x.rev)&&((f.pI==x.pI)&&((f.els==x.els)&&(f.pZ==x.pZ))))
theorem Z8{k k':Int}{f x:XF}:xB k f k' x=(iY k f k' x&&iC f x):=by unfold xB iY iC;simp only [JA]
theorem aGW:bK Vq [J (cZ f L D H A),J (flat k x)] (0,[ak (!iY f.kind f.x k x),J (cZ f L D H A),J (flat k x)]):=by
 refine bW aug ?_;refine aw (c:=f.kind != k) (λh=>af (by simp only [iY,im h];rfl)) λh=>aw (c:=f.N != x.N) (λh2=>af ?_) λh2=>aw (c:=f.O != x.O) (λh3=>af ?_) λh3=>aw (c:=f.T != x.T) (λh4=>af ?_) λh4=>aw (c:=f.P != x.P) (λh5=>af ?_) λh5=>aw (c:=f.entry != x.entry) (λh6=>af ?_) λh6=>af ?_
 ·have:iY f.kind f.x k x=false:=by unfold iY dk.x;rw [cT h,im h2];rfl
  exact fa
 ·have:iY f.kind f.x k x=false:=by unfold iY dk.x;rw [cT h,cT h2,im h3];rfl
  exact fa
 ·have:iY f.kind f.x k x=false:=by unfold iY dk.x;rw [cT h,cT h2,cT h3,im h4];rfl
  exact fa
 ·have:iY f.kind f.x k x=false:=by unfold iY dk.x;rw [cT h,cT h2,cT h3,cT h4,im h5];rfl
  exact fa
 ·have:iY f.kind f.x k x=false:=by unfold iY dk.x;rw [cT h,cT h2,cT h3,cT h4,cT h5,im h6];rfl
  exact fa
 ·have:iY f.kind f.x k x=(f.mode==x.mode):=by unfold iY dk.x;rw [cT h,cT h2,cT h3,cT h4,cT h5,cT h6];rfl
  exact fa
theorem aFs:bK U7 [J (cZ f L D H A),J (flat k x)] (0,[ak (!iC f.x x),J (cZ f L D H A),J (flat k x)]):=by
 refine bW atu ?_;refine aw (c:= !(f.In==x.In)) (λh=>af ?_) λh=>aw (c:= !(f.rev==x.rev)) (λh2=>af ?_) λh2=>aw (c:= !(f.pI==x.pI)) (λh3=>af ?_) λh3=>aw (c:= !(f.els==x.els)) (λh4=>af ?_) λh4=>af ?_
 ·have:iC f.x x=false:=by unfold iC dk.x;rw [sk h];rfl
  exact fa
 ·have:iC f.x x=false:=by unfold iC dk.x;rw [ie h,sk h2];rfl
  exact fa
 ·have:iC f.x x=false:=by unfold iC dk.x;rw [ie h,ie h2,sk h3];rfl
  exact fa
 ·have:iC f.x x=false:=by unfold iC dk.x;rw [ie h,ie h2,ie h3,sk h4];rfl
  exact fa
 ·have:iC f.x x=(f.pZ==x.pZ):=by unfold iC dk.x;rw [ie h,ie h2,ie h3,ie h4];rfl
  exact fa
theorem aFr:bK U6 [J (cZ f L D H A),J (flat k x)] (0,[ak (!((f.E.map aP).isEmpty &&((f.Ins.map aP).isEmpty &&(ints f.Ts).isEmpty))),J (cZ f L D H A),J (flat k x)]):=by
 refine bW att ?_;refine aj (eqE (f.E.map aP)) (aw (c:= !(f.E.map aP).isEmpty) (λh=>af ?_) λh=>aj (eqE (f.Ins.map aP)) (aw (c:= !(f.Ins.map aP).isEmpty) (λh2=>af ?_) λh2=>aj (eqI (ints f.Ts)) (af ?_)))
 ·simp only [dX]at h;rw [h];rfl
 ·simp only [dX,dL]at h h2;rw [h,h2];rfl
 ·simp only [dL]at h h2;rw [h,h2];rfl
def Bj(f:dk)(L:aW):Bool:=(f.To.map c5).isEmpty &&((f.fM.map c5).isEmpty &&L.isEmpty)
theorem sm6:bK VK [J (cZ f L D H A),J (flat k x)] (bif xB f.kind f.x k x&&(((f.E.map aP).isEmpty &&((f.Ins.map aP).isEmpty &&(ints f.Ts).isEmpty))&&Bj f L)then(0,[J (cZ f L D H A),J (flat k x)])else(1,[aq,J (cZ f L D H A),J (flat k x)])):=by
 refine bW avh ?_;rw [Z8];refine aj (aGW f L D H A k x) (aw (c:= !iY f.kind f.x k x) (λh=>af ?_) λh=>aj (aFs f L D H A k x) (aw (c:= !iC f.x x) (λh2=>af ?_) λh2=>aj (aFr f L D H A k x) (aw (c:= !((f.E.map aP).isEmpty &&((f.Ins.map aP).isEmpty &&(ints f.Ts).isEmpty))) (λh3=>af ?_) λh3=>aj (eqP (f.To.map c5)) (aw (c:= !(f.To.map c5).isEmpty) (λh4=>af ?_) λh4=>aj (eqP (f.fM.map c5)) (aw (c:= !(f.fM.map c5).isEmpty) (λh5=>af ?_) λh5=>aj (eqS L) (aw (c:= !L.isEmpty) (λh6=>af ?_) λh6=>af ?_))))))
 ·simp only [dX]at h;rw [h];rfl
 ·simp only [dX,dL]at h h2;rw [h,h2];rfl
 ·simp only [dX,dL]at h h2 h3;rw [h,h2,h3];rfl
 ·simp only [dX,dL]at h h2 h3 h4;unfold Bj;rw [h,h2,h3,h4];rfl
 ·simp only [dX,dL]at h h2 h3 h4 h5;unfold Bj;rw [h,h2,h3,h4,h5];rfl
 ·simp only [dX,dL]at h h2 h3 h4 h5 h6;unfold Bj;rw [h,h2,h3,h4,h5,h6];rfl
 ·simp only [dL]at h h2 h3 h4 h5 h6;unfold Bj;rw [h,h2,h3,h4,h5,h6];rfl
theorem aEm:vP f L D H A k x=((xB f.kind f.x k x&&(((f.E.map aP).isEmpty &&((f.Ins.map aP).isEmpty &&(ints f.Ts).isEmpty))&&Bj f L))&&(D.isEmpty&&(H.isEmpty&&A.isEmpty))):=by
 unfold vP lB Bj;simp only [JA]
theorem smC:Ev IG [J (cZ f L D H A),J (flat k x)] (0,[ak (vP f L D H A k x)]):=by
 refine bx axF (aj (sm6 f L D H A k x) ?_);rw [aEm];cases xB f.kind f.x k x&&(((f.E.map aP).isEmpty &&((f.Ins.map aP).isEmpty &&(ints f.Ts).isEmpty))&&Bj f L)with
 |false=>exact gr
 |true=>
  refine aY ?_;simp only [cf];refine(aj (eqD D) (aw (c:=D.isEmpty) (λh=>aj (eqH H) (aw (c:=H.isEmpty) (λh2=>aj (eqA A) (af ?_)) λh2=>af ?_)) λh=>af ?_))
  ·rw [h,h2];rfl
  ·rw [h,h2];rfl
  ·exact gv
theorem aFX:Ev u6 [J (cZ f L D H A)] (0,[ak (vP f L D H A 1 xz)]):=
 bx aA0 (aj (smC f L D H A 1 xz) aL)
theorem aMO:bK V0 [J (cZ f L D H A),J (flat k x)] (bif xB f.kind f.x k x then(0,[J (cZ f L D H A),J (flat k x)])else(1,[aq,J (cZ f L D H A),J (flat k x)])):=by
 refine bW awc ?_;rw [Z8];refine aw (c:=f.kind != k) (λh=>af ?_) λh=>aw (c:=f.N != x.N) (λh2=>af ?_) λh2=>aw (c:=f.O != x.O) (λh3=>af ?_) λh3=>aw (c:=f.T != x.T) (λh4=>af ?_) λh4=>aw (c:=f.P != x.P) (λh5=>af ?_) λh5=>aw (c:=f.entry != x.entry) (λh6=>af ?_) λh6=>aw (c:= !(f.In==x.In)) (λg=>af ?_) λg=>aw (c:= !(f.rev==x.rev)) (λg2=>af ?_) λg2=>aw (c:= !(f.pI==x.pI)) (λg3=>af ?_) λg3=>aw (c:= !(f.els==x.els)) (λg4=>af ?_) λg4=>aw (c:= !(f.pZ==x.pZ)) (λg5=>af ?_) λg5=>aw (c:=f.mode != x.mode) (λh7=>af ?_) λh7=>af ?_
 ·have:iY f.kind f.x k x=false:=by unfold iY dk.x;rw [im h];rfl
  exact fa
 ·have:iY f.kind f.x k x=false:=by unfold iY dk.x;rw [cT h,im h2];rfl
  exact fa
 ·have:iY f.kind f.x k x=false:=by unfold iY dk.x;rw [cT h,cT h2,im h3];rfl
  exact fa
 ·have:iY f.kind f.x k x=false:=by unfold iY dk.x;rw [cT h,cT h2,cT h3,im h4];rfl
  exact fa
 ·have:iY f.kind f.x k x=false:=by unfold iY dk.x;rw [cT h,cT h2,cT h3,cT h4,im h5];rfl
  exact fa
 ·have:iY f.kind f.x k x=false:=by unfold iY dk.x;rw [cT h,cT h2,cT h3,cT h4,cT h5,im h6];rfl
  exact fa
 ·have:iC f.x x=false:=by unfold iC dk.x;rw [sk g];rfl
  exact wU
 ·have:iC f.x x=false:=by unfold iC dk.x;rw [ie g,sk g2];rfl
  exact wU
 ·have:iC f.x x=false:=by unfold iC dk.x;rw [ie g,ie g2,sk g3];rfl
  exact wU
 ·have:iC f.x x=false:=by unfold iC dk.x;rw [ie g,ie g2,ie g3,sk g4];rfl
  exact wU
 ·have:iC f.x x=false:=by unfold iC dk.x;rw [ie g,ie g2,ie g3,ie g4,sk g5];rfl
  exact wU
 ·have:iY f.kind f.x k x=false:=by unfold iY dk.x;rw [cT h,cT h2,cT h3,cT h4,cT h5,cT h6,im h7];rfl
  exact fa
 ·have h1:iY f.kind f.x k x=true:=by unfold iY dk.x;rw [cT h,cT h2,cT h3,cT h4,cT h5,cT h6,cT h7];rfl
  have h2:iC f.x x=true:=by unfold iC dk.x;rw [ie g,ie g2,ie g3,ie g4,ie g5];rfl
  exact F8
def v8(f:dk)(L:aW):Bool:=(f.E.map aP).isEmpty &&((f.Ins.map aP).isEmpty &&((f.To.map c5).isEmpty &&((f.fM.map c5).isEmpty &&((ints f.Ts).isEmpty &&L.isEmpty))))
theorem aFD:bK VF [J (cZ f L D H A),J (flat k x)] (bif v8 f L then(0,[J (cZ f L D H A),J (flat k x)])else(1,[aq,J (cZ f L D H A),J (flat k x)])):=by
 refine bW avb ?_;refine aj (Hf (f.E.map aP)) (aw (c:= !(f.E.map aP).isEmpty) (λh=>af ?_) λh=>aj (Hf (f.Ins.map aP)) (aw (c:= !(f.Ins.map aP).isEmpty) (λh2=>af ?_) λh2=>aj (aoi (f.To.map c5)) (aw (c:= !(f.To.map c5).isEmpty) (λh3=>af ?_) λh3=>aj (aoi (f.fM.map c5)) (aw (c:= !(f.fM.map c5).isEmpty) (λh4=>af ?_) λh4=>aj (aM4 (ints f.Ts)) (aw (c:= !(ints f.Ts).isEmpty) (λh5=>af ?_) λh5=>aj (aM3 L) (aw (c:= !L.isEmpty) (λh6=>af ?_) λh6=>af ?_))))))
 ·simp only [dX]at h;unfold v8;rw [h];rfl
 ·simp only [dX,dL]at h h2;unfold v8;rw [h,h2];rfl
 ·simp only [dX,dL]at h h2 h3;unfold v8;rw [h,h2,h3];rfl
 ·simp only [dX,dL]at h h2 h3 h4;unfold v8;rw [h,h2,h3,h4];rfl
 ·simp only [dX,dL]at h h2 h3 h4 h5;unfold v8;rw [h,h2,h3,h4,h5];rfl
 ·simp only [dX,dL]at h h2 h3 h4 h5 h6;unfold v8;rw [h,h2,h3,h4,h5,h6];rfl
 ·simp only [dL]at h h2 h3 h4 h5 h6;unfold v8;rw [h,h2,h3,h4,h5,h6];rfl
theorem aFC:bK VE [J (cZ f L D H A),J (flat k x)] (bif D.isEmpty&&(H.isEmpty&&A.isEmpty)then(0,[J (cZ f L D H A),J (flat k x)])else(1,[aq,J (cZ f L D H A),J (flat k x)])):=by
 refine bW ava ?_;refine aw (c:=ln D != 0) (λh=>af ?_) λh=>aw (c:=ln H != 0) (λh2=>af ?_) λh2=>aw (c:=ln A != 0) (λh3=>af ?_) λh3=>af ?_
 ·rw [qt]at h;simp only [dX]at h;rw [h];rfl
 ·rw [qt]at h h2;simp only [dX,dL]at h h2;rw [h,h2];rfl
 ·rw [qt]at h h2 h3;simp only [dX,dL]at h h2 h3;rw [h,h2,h3];rfl
 ·rw [qt]at h h2 h3;simp only [dL]at h h2 h3;rw [h,h2,h3];rfl
theorem smR:Ev nM [J (cZ f L D H A),J (flat k x)] (0,[ak (vP f L D H A k x)]):=by
 have hs:vP f L D H A k x=(xB f.kind f.x k x&&(v8 f L&&(D.isEmpty&&(H.isEmpty&&A.isEmpty)))):=by
  unfold vP lB v8;generalize (f.E.map aP).isEmpty =a;generalize (f.Ins.map aP).isEmpty =b;generalize (ints f.Ts).isEmpty =c;generalize (f.To.map c5).isEmpty =d;generalize (f.fM.map c5).isEmpty =e;cases a<;>cases b<;>cases c<;>cases d<;>cases e<;>simp
 rw [hs];refine bx ayB (aj (aMO f L D H A k x) ?_);cases xB f.kind f.x k x with
 |false=>exact gr
 |true=>
  refine aY ?_;simp only [cf];refine aj (aFD f L D H A k x) ?_;cases v8 f L with
  |false=>exact gr
  |true=>
   refine aY ?_;simp only [cf];refine aj (aFC f L D H A k x) ?_;cases h:D.isEmpty&&(H.isEmpty&&A.isEmpty)with
   |false=>exact gr
   |true=>
    simp only [bM]at h;have j62:bK VD [J (cZ f L D H A),J (flat k x)] (0,[J (cZ f L D H A),J (flat k x)]):=
     bW au9 (aj (E.diag (f:=λN m=>Nf (FU CX EE N) N m _) (bD at5 (ax (sl h.1) aL))) (bj aL))
    have vL:bK Vk [J (cZ f L D H A),J (flat k x)] (0,[J (cZ f L D H A),J (flat k x)]):=
     bW aub (aj (E.diag (f:=λN m=>Nd (FU CX EE N) N m _) (bD at4 (ax (sl h.2.1) aL))) (bj aL))
    have h':(D.isEmpty&&(H.isEmpty&&A.isEmpty))=true:=by rw [h.1,h.2.1,h.2.2];rfl
    refine aY ?_;simp only [cf];refine aj j62 (aY (aj vL (aY ?_)));have aF9:bP M7 [iI 0,J (cZ f L D H A),J (flat k x)] (1,[J (cZ f L D H A),J (flat k x)]):=bD atj (ax (sl h.2.2) aL);exact aj aF9.diag (bj aL)
end
end
end Go.Proofs.YtomkobcipaligaaGreatDoor
namespace Go.aA
def oM{p:Prop}(h:p:=by rw [a,b];rfl):p:=h
def aku{p:Prop}(h:p:=by
 cases h1:k==12 with
 |true=>exact .inl (eq_of_beq h1)
 |false=>rw [h1]at h;exact .inr (eq_of_beq h)):p:=h
def wS{p:Prop}(h:p:=by rw [a,b,c];rfl):p:=h
def F7{p:Prop}(h:p:=by rw [h1]at h;cases h):p:=h
def Ah{p:Prop}(h:p:=by rw [h];exact aL):p:=h
def sO{p:Prop}(h:p:=by rw [a];rfl):p:=h
end Go.aA
namespace Go.Proofs.YtomkobcipaligaaGreatDoor
open Go Go.aA
section
variable{k:Int}
def eS(k:Int):Int:=bif k==2 then 1 else bif k==4 then 1 else bif k==5 then 1 else bif k==6 then 2 else bif k==11 then 1 else bif k==15 then 1 else 0
def toS(k:Int):Int:=bif k==2 then 1 else bif k==12 then 1 else bif k==13 then 1 else bif k==14 then 1 else 0
def lS(k:Int):Int:=bif k==4 then 2 else bif k==5 then 1 else bif k==6 then 1 else bif k==7 then 1 else bif k==9 then 1 else bif k==16 then 2 else bif k==17 then 3 else bif k==18 then 2 else bif k==19 then 1 else bif k==20 then 1 else 0
def eF(k:Int):Bool:=bif k==16 then true else bif k==17 then true else false
def lF(k:Int):Bool:=bif k==3 then true else false
def pQ(k:Int):Nat:=bif k==9 then 1 else bif k==16 then 2 else bif k==19 then 3 else bif k==22 then 4 else 0
def Hu(k:Int):Bool:=bif k==9 then true else bif k==19 then true else bif k==22 then true else false
def vX(k:Int):Bool:=bif k==1 then true else bif k==2 then true else bif k==3 then true else bif k==4 then true else bif k==5 then true else bif k==6 then true else bif k==7 then true else bif k==8 then true else bif k==9 then true else bif k==10 then true else bif k==11 then true else bif k==12 then true else bif k==13 then true else bif k==14 then true else bif k==15 then true else bif k==16 then true else bif k==17 then true else bif k==18 then true else bif k==19 then true else bif k==20 then true else bif k==21 then true else bif k==22 then true else false
def Ei(k e:Int):Int:=bif eF k then e else eS k
def HU(k:Int):Int:=bif eF k then-1 else eS k
def v7(k l:Int):Int:=bif lF k then l else lS k
def Hv(k:Int):Int:=bif lF k then-1 else lS k
def xS(f:dk)(k:Int):XF:=bif k==6 then{xz with O:=f.O,rev:=f.rev}else bif k==7 then{xz with N:=f.N}else bif k==8 then{xz with N:=f.N}else bif k==10 then{xz with N:=f.N}else bif k==14 then bif f.In then{xz with P:=f.P,entry:=f.entry,In:=f.In}else{xz with entry:=f.entry,In:=f.In}else bif k==15 then{xz with pI:=f.pI}else bif k==16 then{xz with T:=f.T,entry:=f.entry,mode:=f.mode}else bif k==17 then{xz with P:=f.P,entry:=f.entry,mode:=f.mode}else bif k==18 then{xz with entry:=f.entry}else bif k==19 then{xz with els:=f.els}else bif k==20 then{xz with P:=f.P}else bif k==21 then{xz with T:=f.T,entry:=f.entry,pZ:=f.pZ}else xz
abbrev kTs:AV:= .str (⟨#[116,115]⟩:ByteArray)
abbrev kDe:AV:= .str (⟨#[100,101,99,108,115]⟩:ByteArray)
abbrev kCa:AV:= .str (⟨#[99,97,108,108]⟩:ByteArray)
abbrev kAl:AV:= .str (⟨#[97,108,116,115]⟩:ByteArray)
def mpE(c:Nat):List (AV×AV):=bif c==1 then [(kTs,cw),(kDe,cw)]else bif c==2 then [(kCa,cw)]else bif c==3 then [(kAl,cw)]else bif c==4 then [(kTs,cw)]else []
abbrev rO(a:Nat)(k:Int)(x:XF):bl:=[bE k,iI x.N,iI x.O,iI x.T,iI x.P,iI x.entry,ak x.In,ak x.rev,ak x.pI,ak x.els,ak x.pZ,bE x.mode,.aC a,.aC (a+1),.aC (a+2),.aC (a+3),.aC (a+4),.aC (a+5),.aC (a+6),.aC (a+7),.aC (a+8)]
abbrev e9:bl:=[aT [],aT [],bH [],bH [],aa [],bC [],dh [],dg [],c8 []]
def uI(k:Int):Bool:=bif k==8 then true else k==10
def uJ(k:Int):Bool:=bif k==12 then true else k==13
theorem kLC(k:Int):bK Uz [bE k] (0,[ak (uI k)]):=
 bW ase (aw (λh=>af (by simp only [uI,h,cf])) λh=>af (by simp only [uI,h,cE]))
theorem kLR(k:Int):bK UY [bE k] (0,[ak (uI k)]):=
 bW atl (aw (λh=>af (by simp only [uI,h,cf])) λh=>af (by simp only [uI,h,cE]))
theorem kGC(k:Int):bK Ue [bE k] (0,[ak (uJ k)]):=
 bW ari (aw (λh=>af (by simp only [uJ,h,cf])) λh=>af (by simp only [uJ,h,cE]))
theorem kGR(k:Int):bK Us [bE k] (0,[ak (uJ k)]):=
 bW ar6 (aw (λh=>af (by simp only [uJ,h,cf])) λh=>af (by simp only [uJ,h,cE]))
theorem ak4(h:uI k=true):k=8∨k=10:=by
 unfold uI at h;cases h1:k==8 with
 |true=>exact .inl (eq_of_beq h1)
 |false=>rw [h1]at h;exact .inr (eq_of_beq h)
theorem ak5(h:uJ k=true):k=12∨k=13:=by
 unfold uJ at h;exact aku
theorem QX(h:uI k=false):(k==8)=false∧(k==10)=false:=by
 unfold uI at h;cases h1:k==8 with
 |true=>exact F7
 |false=>rw [h1]at h;exact⟨rfl,h⟩
theorem QY(h:uJ k=false):(k==12)=false∧(k==13)=false:=by
 unfold uJ at h;cases h1:k==12 with
 |true=>exact F7
 |false=>rw [h1]at h;exact⟨rfl,h⟩
section
variable (f:dk) (L D H A:aW)
abbrev SF:AV:= J (cZ f L D H A)
theorem aFv:E (λN _=>V3 (FU CX EE N) N ([iI 0,iI 0,iI 0,SF f L D H A,J (rO 3 f.kind xz),.ab 0 (az [])]++e9))
 (bif vX f.kind then(0,[iI (Ei f.kind (ln (f.E.map aP))),iI (toS f.kind),iI (v7 f.kind (ln L)),SF f L D H A,J (rO 3 f.kind (xS f f.kind)),.ab 0 (az (mpE (pQ f.kind)))]++e9)else(1,[aq,SF f L D H A,J (rO 3 f.kind xz),.ab 0 (az [])]++e9)):=by
 refine bW awg ?_;refine aw (c:=f.kind==1) (λh1=> ?_) λh1=>aw (c:=f.kind==2) (λh2=> ?_) λh2=>aw (c:=f.kind==3) (λh3=> ?_) λh3=>aw (c:=f.kind==4) (λh4=> ?_) λh4=>aw (c:=f.kind==5) (λh5=> ?_) λh5=>aw (c:=f.kind==6) (λh6=> ?_) λh6=>aw (c:=f.kind==7) (λh7=> ?_) λh7=>aj (kLC f.kind) (aw (c:=uI f.kind) (λhL=> ?_) λhL=>aw (c:=f.kind==9) (λh9=> ?_) λh9=>aw (c:=f.kind==11) (λlZ=> ?_) λlZ=>aj (kGC f.kind) (aw (c:=uJ f.kind) (λhC=> ?_) λhC=>aw (c:=f.kind==14) (λkp=>aw (c:=f.In) (λg=> ?_) λg=> ?_) λkp=>aw (c:=f.kind==15) (λEd=> ?_) λEd=>aw (c:=f.kind==16) (λiL=> ?_) λiL=>aw (c:=f.kind==17) (λlY=> ?_) λlY=>aw (c:=f.kind==18) (λmR=> ?_) λmR=>aw (c:=f.kind==19) (λn7=> ?_) λn7=>aw (c:=f.kind==20) (λmA=> ?_) λmA=>aw (c:=f.kind==21) (λrF=> ?_) λrF=>aw (c:=f.kind==22) (λoZ=> ?_) λoZ=> ?_))
 ·rw [eq_of_beq h1];exact aL
 ·rw [eq_of_beq h2];exact aL
 ·rw [eq_of_beq h3];exact aL
 ·rw [eq_of_beq h4];exact aL
 ·rw [eq_of_beq h5];exact aL
 ·rw [eq_of_beq h6];exact aL
 ·rw [eq_of_beq h7];exact aL
 ·rcases ak4 hL with h|h
  ·exact Ah
  ·exact Ah
 ·rw [eq_of_beq h9];exact aL
 ·rw [eq_of_beq lZ];exact aL
 ·rcases ak5 hC with h|h
  ·exact Ah
  ·exact Ah
 ·rw [eq_of_beq kp,show xS f 14={xz with P:=f.P,entry:=f.entry,In:=f.In}by show(bif f.In then _ else _)=_;rw [g];rfl];exact aL
 ·rw [eq_of_beq kp,show xS f 14={xz with entry:=f.entry,In:=f.In}by show(bif f.In then _ else _)=_;rw [g];rfl];exact aL
 ·rw [eq_of_beq Ed];exact aL
 ·rw [eq_of_beq iL];exact aL
 ·rw [eq_of_beq lY];exact aL
 ·rw [eq_of_beq mR];exact aL
 ·rw [eq_of_beq n7];exact aL
 ·rw [eq_of_beq mA];exact aL
 ·rw [eq_of_beq rF];exact aL
 ·rw [eq_of_beq oZ];exact aL
 ·rw [show vX f.kind=false by unfold vX;rw [h1,h2,h3,h4,h5,h6,h7,(QX hL).1,h9,(QX hL).2,lZ,(QY hC).1,(QY hC).2,kp,Ed,iL,lY,mR,n7,mA,rF,oZ];rfl];exact aL
theorem aNL:E (λN _=>WM (FU CX EE N) N ([iI 0,iI 0,iI 0,aq,SF f L D H A,J (rO 2 f.kind xz)]++e9))
 (bif vX f.kind then(0,[iI (HU f.kind),iI (toS f.kind),iI (Hv f.kind),ak (Hu f.kind),SF f L D H A,J (rO 2 f.kind (xS f f.kind))]++e9)else(1,[aq,SF f L D H A,J (rO 2 f.kind xz)]++e9)):=by
 refine bW ayu ?_;refine aw (c:=f.kind==1) (λh1=> ?_) λh1=>aw (c:=f.kind==2) (λh2=> ?_) λh2=>aw (c:=f.kind==3) (λh3=> ?_) λh3=>aw (c:=f.kind==4) (λh4=> ?_) λh4=>aw (c:=f.kind==5) (λh5=> ?_) λh5=>aw (c:=f.kind==6) (λh6=> ?_) λh6=>aw (c:=f.kind==7) (λh7=> ?_) λh7=>aj (kLR f.kind) (aw (c:=uI f.kind) (λhL=> ?_) λhL=>aw (c:=f.kind==9) (λh9=> ?_) λh9=>aw (c:=f.kind==11) (λlZ=> ?_) λlZ=>aj (kGR f.kind) (aw (c:=uJ f.kind) (λhC=> ?_) λhC=>aw (c:=f.kind==14) (λkp=>aw (c:=f.In) (λg=> ?_) λg=> ?_) λkp=>aw (c:=f.kind==15) (λEd=> ?_) λEd=>aw (c:=f.kind==16) (λiL=> ?_) λiL=>aw (c:=f.kind==17) (λlY=> ?_) λlY=>aw (c:=f.kind==18) (λmR=> ?_) λmR=>aw (c:=f.kind==19) (λn7=> ?_) λn7=>aw (c:=f.kind==20) (λmA=> ?_) λmA=>aw (c:=f.kind==21) (λrF=> ?_) λrF=>aw (c:=f.kind==22) (λoZ=> ?_) λoZ=> ?_))
 ·rw [eq_of_beq h1];exact aL
 ·rw [eq_of_beq h2];exact aL
 ·rw [eq_of_beq h3];exact aL
 ·rw [eq_of_beq h4];exact aL
 ·rw [eq_of_beq h5];exact aL
 ·rw [eq_of_beq h6];exact aL
 ·rw [eq_of_beq h7];exact aL
 ·rcases ak4 hL with h|h
  ·exact Ah
  ·exact Ah
 ·rw [eq_of_beq h9];exact aL
 ·rw [eq_of_beq lZ];exact aL
 ·rcases ak5 hC with h|h
  ·exact Ah
  ·exact Ah
 ·rw [eq_of_beq kp,show xS f 14={xz with P:=f.P,entry:=f.entry,In:=f.In}by show(bif f.In then _ else _)=_;rw [g];rfl];exact aL
 ·rw [eq_of_beq kp,show xS f 14={xz with entry:=f.entry,In:=f.In}by show(bif f.In then _ else _)=_;rw [g];rfl];exact aL
 ·rw [eq_of_beq Ed];exact aL
 ·rw [eq_of_beq iL];exact aL
 ·rw [eq_of_beq lY];exact aL
 ·rw [eq_of_beq mR];exact aL
 ·rw [eq_of_beq n7];exact aL
 ·rw [eq_of_beq mA];exact aL
 ·rw [eq_of_beq rF];exact aL
 ·rw [eq_of_beq oZ];exact aL
 ·rw [show vX f.kind=false by unfold vX;rw [h1,h2,h3,h4,h5,h6,h7,(QX hL).1,h9,(QX hL).2,lZ,(QY hC).1,(QY hC).2,kp,Ed,iL,lY,mR,n7,mA,rF,oZ];rfl];exact aL
def pM(f:dk)(L:aW):Bool:=xB f.kind f.x f.kind (xS f f.kind)&&((ln (f.E.map aP)==Ei f.kind (ln (f.E.map aP)))&&((ln (f.To.map c5)==toS f.kind)&&(ln L==v7 f.kind (ln L))))
theorem aFu:E (λN _=>V2 (FU CX EE N) N ([iI (Ei f.kind (ln (f.E.map aP))),iI (toS f.kind),iI (v7 f.kind (ln L)),SF f L D H A,J (rO 3 f.kind f.x),J (rO 12 f.kind (xS f f.kind))]++(e9++e9)))
 (bif pM f L then(0,[SF f L D H A,J (rO 3 f.kind f.x),J (rO 12 f.kind (xS f f.kind))]++(e9++e9))else(1,[aq,SF f L D H A,J (rO 3 f.kind f.x),J (rO 12 f.kind (xS f f.kind))]++(e9++e9))):=by
 have hs:=smC (fz f.kind f.x) [] [] [] [] f.kind (xS f f.kind);rw [show vP (fz f.kind f.x) [] [] [] [] f.kind (xS f f.kind)=xB f.kind f.x f.kind (xS f f.kind)by unfold vP;rw [show lB (fz f.kind f.x) [] [] [] []=true from rfl,YA];rfl]at hs;refine bW awf ?_;refine aj hs (aw (c:= !xB f.kind f.x f.kind (xS f f.kind)) (λh=>af ?_) λh=>aw (c:=ln (f.E.map aP) != Ei f.kind (ln (f.E.map aP))) (λh2=>af ?_) λh2=>aw (c:=ln (f.To.map c5) != toS f.kind) (λh3=>af ?_) λh3=>aw (c:=ln L != v7 f.kind (ln L)) (λh4=>af ?_) λh4=>af ?_)
 ·have:pM f L=false:=by unfold pM;simp only [dX]at h;rw [h];rfl
  exact fa
 ·have:pM f L=false:=by unfold pM;rw [im h2];simp
  exact fa
 ·have:pM f L=false:=by unfold pM;rw [im h3];simp
  exact fa
 ·have:pM f L=false:=by unfold pM;rw [im h4];simp
  exact fa
 ·have:pM f L=true:=by unfold pM;simp only [dL]at h;rw [h,cT h2,cT h3,cT h4];rfl
  exact fa
def Hc(f:dk)(D H A:aW)(c:Nat):Bool:=
 (bif c==2 then true else bw (ln (f.Ins.map aP)+ln (f.fM.map c5))==0)&&((bif (c==1||c==4)then true else ln (ints f.Ts)==0)&&((bif c==1 then true else bw (ln D+ln H)==0)&&(bif c==3 then true else ln A==0)))
theorem aEK(k:Int):pQ k=0∨pQ k=1∨pQ k=2∨pQ k=3∨pQ k=4:=by
 unfold pQ;cases k==9<;>cases k==16<;>cases k==19<;>cases k==22<;>simp
theorem shC:Ev Ox [SF f L D H A] (0,[ak (vX f.kind&&(pM f L&&Hc f D H A (pQ f.kind)))]):=by
 refine bx aAg (aj (aFv f L D H A) ?_);cases vX f.kind with
 |false=>exact gr
 |true=>
  refine aY ?_;simp only [cf];refine aj (aFu f L D H A) ?_;cases pM f L with
  |false=>exact gr
  |true=>
   refine aY ?_;simp only [cf,oK];unfold Hc;rcases aEK f.kind with h|h|h|h|h<;>rw [h]
   ·refine aw (c:=bw (ln (f.Ins.map aP)+ln (f.fM.map c5))==0) (λa=>aw (c:=ln (ints f.Ts)==0) (λb=>aw (c:=bw (ln D+ln H)==0) (λc=>af ?_) λc=>af ?_) λb=>af ?_) λa=>af ?_
    ·exact wS
    ·exact wS
    ·exact oM
    ·exact sO
   ·refine aw (c:=bw (ln (f.Ins.map aP)+ln (f.fM.map c5))==0) (λa=>aY (aY (af ?_))) λa=>af ?_
    ·exact sO
    ·exact sO
   ·refine aY (aw (c:=ln (ints f.Ts)==0) (λb=>aw (c:=bw (ln D+ln H)==0) (λc=>af ?_) λc=>af ?_) λb=>af ?_)
    ·rw [b,c];rfl
    ·rw [b,c];rfl
    ·rw [b];rfl
   ·refine aw (c:=bw (ln (f.Ins.map aP)+ln (f.fM.map c5))==0) (λa=>aw (c:=ln (ints f.Ts)==0) (λb=>aw (c:=bw (ln D+ln H)==0) (λc=>aY (af ?_)) λc=>af ?_) λb=>af ?_) λa=>af ?_
    ·exact wS
    ·exact wS
    ·exact oM
    ·exact sO
   ·refine aw (c:=bw (ln (f.Ins.map aP)+ln (f.fM.map c5))==0) (λa=>aY (aw (c:=bw (ln D+ln H)==0) (λc=>af ?_) λc=>af ?_)) λa=>af ?_
    ·rw [a,c];rfl
    ·rw [a,c];rfl
    ·exact sO
end
end
end Go.Proofs.YtomkobcipaligaaGreatDoor
namespace Go.aA
def alY{p:Prop}(h:p:=by
 generalize (f.Ins.map aP).isEmpty =a;generalize (f.fM.map c5).isEmpty =b;generalize (ints f.Ts).isEmpty =c;generalize D.isEmpty=d;generalize H.isEmpty=e;generalize A.isEmpty=g;cases a<;>cases b<;>cases c<;>cases d<;>cases e<;>cases g<;>rfl):p:=h
def ajU{p:Prop}(h:p:=by rw [lp]at g i;simp only [dL]at g i;intro j;unfold uU;rw [h,g,i,j];rfl):p:=h
end Go.aA
namespace Go.Proofs.YtomkobcipaligaaGreatDoor
open Go Go.aA
section
variable{a:aW}
section
variable (f:dk) (L D H A:aW)
theorem aFi{k:Int}{a x:XF}:iY k a k x=((a.N==x.N)&&((a.O==x.O)&&((a.T==x.T)&&((a.P==x.P)&&((a.entry==x.entry)&&(a.mode==x.mode)))))):=by unfold iY;simp
theorem aF4(x:XF):E (λN _=>Wl (FU CX EE N) N ([SF f L D H A,J (rO 2 f.kind x)]++e9))
 (bif xB f.kind f.x f.kind x then(0,[SF f L D H A,J (rO 2 f.kind x)]++e9)else(1,[aq,SF f L D H A,J (rO 2 f.kind x)]++e9)):=by
 refine bW axn ?_;rw [Z8,aFi];refine aw (c:=f.N != x.N) (λh2=>af ?_) λh2=>aw (c:=f.O != x.O) (λh3=>af ?_) λh3=>aw (c:=f.T != x.T) (λh4=>af ?_) λh4=>aw (c:=f.P != x.P) (λh5=>af ?_) λh5=>aw (c:=f.entry != x.entry) (λh6=>af ?_) λh6=>aw (c:= !(f.In==x.In)) (λg=>af ?_) λg=>aw (c:= !(f.rev==x.rev)) (λg2=>af ?_) λg2=>aw (c:= !(f.pI==x.pI)) (λg3=>af ?_) λg3=>aw (c:= !(f.els==x.els)) (λg4=>af ?_) λg4=>aw (c:= !(f.pZ==x.pZ)) (λg5=>af ?_) λg5=>aw (c:=f.mode != x.mode) (λh7=>af ?_) λh7=>af ?_
 ·rw [show(f.x.N==x.N)=false from im h2];rfl
 ·rw [show(f.x.N==x.N)=true from cT h2,show(f.x.O==x.O)=false from im h3];rfl
 ·rw [show(f.x.N==x.N)=true from cT h2,show(f.x.O==x.O)=true from cT h3,show(f.x.T==x.T)=false from im h4];rfl
 ·rw [show(f.x.N==x.N)=true from cT h2,show(f.x.O==x.O)=true from cT h3,show(f.x.T==x.T)=true from cT h4,show(f.x.P==x.P)=false from im h5];rfl
 ·rw [show(f.x.N==x.N)=true from cT h2,show(f.x.O==x.O)=true from cT h3,show(f.x.T==x.T)=true from cT h4,show(f.x.P==x.P)=true from cT h5,show(f.x.entry==x.entry)=false from im h6];rfl
 ·have:iC f.x x=false:=by unfold iC dk.x;rw [sk g];rfl
  exact wU
 ·have:iC f.x x=false:=by unfold iC dk.x;rw [ie g,sk g2];rfl
  exact wU
 ·have:iC f.x x=false:=by unfold iC dk.x;rw [ie g,ie g2,sk g3];rfl
  exact wU
 ·have:iC f.x x=false:=by unfold iC dk.x;rw [ie g,ie g2,ie g3,sk g4];rfl
  exact wU
 ·have:iC f.x x=false:=by unfold iC dk.x;rw [ie g,ie g2,ie g3,ie g4,sk g5];rfl
  exact wU
 ·rw [show(f.x.mode==x.mode)=false from im h7];simp only [ph,nq];rfl
 ·have h8:iC f.x x=true:=by unfold iC dk.x;rw [ie g,ie g2,ie g3,ie g4,ie g5];rfl
  rw [h8,show(f.x.N==x.N)=true from cT h2,show(f.x.O==x.O)=true from cT h3,show(f.x.T==x.T)=true from cT h4,show(f.x.P==x.P)=true from cT h5,show(f.x.entry==x.entry)=true from cT h6,show(f.x.mode==x.mode)=true from cT h7];rfl
def xM(f:dk)(L:aW)(e to l:Int):Bool:=(bif decide (0<=e)then ln (f.E.map aP)==e else true)&&((ln (f.To.map c5)==to)&&(bif decide (0<=l)then ln L==l else true))
theorem aF3(e to l:Int):bK Wk [iI e,iI to,iI l,SF f L D H A] (bif xM f L e to l then(0,[SF f L D H A])else(1,[aq,SF f L D H A])):=by
 refine bW axm ?_;have rest:∀r:UO,(((ln (f.To.map c5)==to)&&(bif decide (0<=l)then ln L==l else true))=true->(0,[SF f L D H A])=r)->(((ln (f.To.map c5)==to)&&(bif decide (0<=l)then ln L==l else true))=false->(1,[aq,SF f L D H A])=r)->
  E (λ_ _=>bif ln (f.To.map c5) != to then some (1,[aq,SF f L D H A])else bif decide (0<=l)then bif ln L != l then some (1,[aq,SF f L D H A])else some (0,[SF f L D H A])else some (0,[SF f L D H A])) r:=λr h1 h2=>by
  refine aw (λh=>af (h2 (by rw [im h];rfl))) λh=>aw (λg=>aw (λi=>af (h2 (by rw [cT h,g,im i];rfl))) λi=>af (h1 (by rw [cT h,g,cT i];rfl))) λg=>af (h1 (by rw [cT h,g];rfl))
 refine aw (c:=decide (0<=e)) (λh=>aw (c:=ln (f.E.map aP) != e) (λg=>af ?_) λg=>rest _ ?_ ?_) λh=>rest _ ?_ ?_
 ·unfold xM;rw [h,im g];rfl
 ·intro i;unfold xM;rw [h,cT g,i];rfl
 ·intro i;unfold xM;rw [h,cT g,i];rfl
 ·intro i;unfold xM;rw [h,i];rfl
 ·intro i;unfold xM;rw [h,i];rfl
theorem lp{l:aW}:decide (0<ln l)= !l.isEmpty:=by cases l<;>simp [ln]
def zp(f:dk):Bool:=bif f.kind != 16 then(f.Ins.map aP).isEmpty &&(f.fM.map c5).isEmpty else true
theorem aF2:bK Wj [SF f L D H A] (bif zp f then(0,[SF f L D H A])else(1,[aq,SF f L D H A])):=by
 refine bW axl ?_;refine aw (c:=f.kind != 16) (λh=>aw (c:=decide (0<ln (f.Ins.map aP))) (λg=>af ?_) λg=>aw (c:=decide (0<ln (f.fM.map c5))) (λi=>af ?_) λi=>af ?_) λh=>af ?_
 ·rw [lp]at g;simp only [dX]at g;unfold zp;rw [h,g];rfl
 ·rw [lp]at g i;simp only [dX,dL]at g i;unfold zp;rw [h,g,i];rfl
 ·rw [lp]at g i;simp only [dL]at g i;unfold zp;rw [h,g,i];rfl
 ·unfold zp;rw [h];rfl
def uU(f:dk)(D H A:aW):Bool:=(bif f.kind != 9 then D.isEmpty&&H.isEmpty else true)&&(bif f.kind != 19 then A.isEmpty else true)
theorem aEL:bK VT [SF f L D H A] (bif uU f D H A then(0,[SF f L D H A])else(1,[aq,SF f L D H A])):=by
 refine bW av5 ?_;have rest:∀r:UO,((bif f.kind != 19 then A.isEmpty else true)=true->(0,[SF f L D H A])=r)->((bif f.kind != 19 then A.isEmpty else true)=false->(1,[aq,SF f L D H A])=r)->
  E (λ_ _=>bif f.kind != 19 then bif decide (0<ln A)then some (1,[aq,SF f L D H A])else some (0,[SF f L D H A])else some (0,[SF f L D H A])) r:=λr h1 h2=>by
  refine aw (λh=>aw (λg=>af (h2 ?_)) λg=>af (h1 ?_)) λh=>af (h1 (gv))
  ·rw [lp]at g;simp only [dX]at g;rw [h,g];rfl
  ·rw [lp]at g;simp only [dL]at g;rw [h,g];rfl
 refine aw (c:=f.kind != 9) (λh=>aw (c:=decide (0<ln D)) (λg=>af ?_) λg=>aw (c:=decide (0<ln H)) (λi=>af ?_) λi=>rest _ ?_ ?_) λh=>rest _ ?_ ?_
 ·rw [lp]at g;simp only [dX]at g;unfold uU;rw [h,g];rfl
 ·rw [lp]at g i;simp only [dX,dL]at g i;unfold uU;rw [h,g,i];rfl
 ·exact ajU
 ·exact ajU
 ·intro j;unfold uU;rw [h,j];rfl
 ·intro j;unfold uU;rw [h,j];rfl
def He(f:dk):Bool:=bif Hu f.kind then bif f.kind != 19 then true else ln (ints f.Ts)==0 else ln (ints f.Ts)==0
theorem lkR:Ev ON [SF f L D H A] (0,[ak (vX f.kind&&(xB f.kind f.x f.kind (xS f f.kind)&&(xM f L (HU f.kind) (toS f.kind) (Hv f.kind)&&(zp f&&(uU f D H A&&He f)))))]):=by
 refine bx aAU (aj (aNL f L D H A) ?_);cases vX f.kind with
 |false=>exact gr
 |true=>
  refine aY ?_;simp only [cf];refine aj (aF4 f L D H A (xS f f.kind)) ?_;cases xB f.kind f.x f.kind (xS f f.kind)with
  |false=>exact gr
  |true=>
   refine aY ?_;simp only [cf];refine aj (aF3 f L D H A (HU f.kind) (toS f.kind) (Hv f.kind)) ?_;cases xM f L (HU f.kind) (toS f.kind) (Hv f.kind)with
   |false=>exact gr
   |true=>
    refine aY ?_;simp only [cf];refine aj (aF2 f L D H A) ?_;cases zp f with
    |false=>exact gr
    |true=>
     refine aY ?_;simp only [cf];refine aj (aEL f L D H A) ?_;cases uU f D H A with
     |false=>exact gr
     |true=>
      refine aY ?_;refine aw (c:=Hu f.kind) (λh=>aw (c:=f.kind != 19) (λg=>af ?_) λg=>af ?_) λh=>af ?_
      ·unfold He;rw [h,g];rfl
      ·unfold He;rw [h,g];rfl
      ·unfold He;rw [h];rfl
theorem w2{b:aW}(ha:a.length<=mx)(hb:b.length<=mx):(bw (ln a+ln b)==0)=(a.isEmpty&&b.isEmpty):=by
 simp only [mx]at ha hb;have:bw (ln a+ln b)=ln a+ln b:=jI (by simp only [ln];omega) (by simp only [ln];omega);rw [this];cases a<;>cases b<;>simp [ln]<;>omega
theorem l0:(ln a==0)=a.isEmpty:=by cases a<;>simp [ln];omega
theorem aNA(k:Int):(pQ k==2)=(k==16)∧(pQ k==1)=(k==9)∧(pQ k==3)=(k==19)∧(pQ k==1||pQ k==4)=(k==9||k==22)∧Hu k=(k==9||(k==19||k==22)):=by
 cases h9:k==9 with
 |true=>rw [eq_of_beq h9];decide
 |false=>
 cases iL:k==16 with
 |true=>rw [eq_of_beq iL];decide
 |false=>
 cases n7:k==19 with
 |true=>rw [eq_of_beq n7];decide
 |false=>
 cases oZ:k==22 with
 |true=>rw [eq_of_beq oZ];decide
 |false=>
  have a:pQ k=0:=by unfold pQ;rw [h9,iL,n7,oZ];rfl
  have b:Hu k=false:=by unfold Hu;rw [h9,n7,oZ];rfl
  rw [a,b];decide
theorem aGw(k:Int):0<=eS k∧0<=lS k:=by
 constructor
 ·unfold eS;cases k==2<;>cases k==4<;>cases k==5<;>cases k==6<;>cases k==11<;>cases k==15<;>decide
 ·unfold lS;cases k==4<;>cases k==5<;>cases k==6<;>cases k==7<;>cases k==9<;>cases k==16<;>cases k==17<;>cases k==18<;>cases k==19<;>cases k==20<;>decide
def sg(f:dk)(L D H A:aW):Bool:=vX f.kind&&(pM f L&&Hc f D H A (pQ f.kind))
theorem aiu(hf:f.Ok)(hD:D.length<=mx)(hH:H.length<=mx):Ev Ox [SF f L D H A] (0,[ak (sg f L D H A)])∧Ev ON [SF f L D H A] (0,[ak (sg f L D H A)]):=by
 refine⟨shC f L D H A,E.to (lkR f L D H A) ?_⟩;obtain⟨m1,m2,m3,m4,m5⟩:=aNA f.kind;obtain⟨n1,n2⟩:=aGw f.kind;have hc:xM f L (HU f.kind) (toS f.kind) (Hv f.kind)=((ln (f.E.map aP)==Ei f.kind (ln (f.E.map aP)))&&((ln (f.To.map c5)==toS f.kind)&&(ln L==v7 f.kind (ln L)))):=by
  unfold xM HU Ei Hv v7;have a1:decide (0<=eS f.kind)=true:=by simpa using n1
  have a2:decide (0<=lS f.kind)=true:=by simpa using n2
  cases eF f.kind<;>cases lF f.kind<;>simp only [cf,cE,a1,a2]<;>simp
 have ht:Hc f D H A (pQ f.kind)=(zp f&&(uU f D H A&&He f)):=by
  unfold Hc zp uU He;rw [m4,m1,m2,m3,m5,w2 (by rw [ey];exact hf.Ins.1) (by rw [ey];exact hf.fM.1),w2 hD hH,l0,l0];simp only [bne];cases h9:f.kind==9 with
  |true=>rw [eq_of_beq h9];simp
  |false=>
  cases iL:f.kind==16 with
  |true=>rw [eq_of_beq iL];simp;cases f.Ts.isEmpty<;>cases D.isEmpty<;>cases H.isEmpty<;>cases A.isEmpty<;>rfl
  |false=>
  cases n7:f.kind==19 with
  |true=>rw [eq_of_beq n7];simp;cases f.Ts.isEmpty<;>cases D.isEmpty<;>cases H.isEmpty<;>simp
  |false=>
  cases oZ:f.kind==22 with
  |true=>
   exact alY
  |false=>
   exact alY
 rw [hc];unfold sg pM;rw [ht];simp only [JA]
theorem PU(h:sg f L D H A=true):ln (f.E.map aP)=Ei f.kind (ln (f.E.map aP))∧ln (f.To.map c5)=toS f.kind∧ln L=v7 f.kind (ln L):=by
 unfold sg pM at h;simp only [bM,iy]at h;exact⟨h.2.1.2.1,h.2.1.2.2.1,h.2.1.2.2.2⟩
end
end
end Go.Proofs.YtomkobcipaligaaGreatDoor
namespace Go.aA
def ZE{p:Prop}(h:p:=by rw [hu,aDm,oK]at h2;exact h2):p:=h
end Go.aA
namespace Go.aA
def aDm:=@Bool.or_true
end Go.aA
namespace Go.Proofs.YtomkobcipaligaaGreatDoor
open Go Go.aA
section
variable (f:dk) (L D H A:aW)
def lK(k:Int):Bool:=bif k==16 then true else bif k==17 then true else bif k==18 then true else bif k==19 then true else bif k==15 then true else bif k==11 then true else bif k==12 then true else bif k==22 then true else k==21
def sC(f:dk):Bool:=bif lK f.kind then true else bif f.kind==9 then decide (0<ln (ints f.Ts))else false
theorem aOR(k:Int):bK V6 [bE k] (0,[ak (lK k)]):=by
 refine bW awj ?_;refine aw (λh=>af ?_) λh=>aw (λh2=>af ?_) λh2=>aw (λh3=>af ?_) λh3=>aw (λh4=>af ?_) λh4=>aw (λh5=>af ?_) λh5=>aw (λh6=>af ?_) λh6=>aw (λh7=>af ?_) λh7=>aw (λh8=>af ?_) λh8=>af ?_<;>(try simp only [lK,h,cf,cE])<;>(try simp only [h2,cf,cE])<;>(try simp only [h3,cf,cE])<;>(try simp only [h4,cf,cE])<;>(try simp only [h5,cf,cE])<;>(try simp only [h6,cf,cE])<;>(try simp only [h7,cf,cE])<;>(try simp only [h8,cf,cE])
theorem blC:Ev Oa [SF f L D H A] (0,[ak (sC f)]):=by
 refine bx azu (aj (aOR f.kind) (aw (c:=lK f.kind) (λh=>af ?_) λh=>aw (c:=f.kind==9) (λg=>af ?_) λg=>af ?_))
 ·unfold sC;rw [h];rfl
 ·unfold sC;rw [h,g];rfl
 ·unfold sC;rw [h,g];rfl
theorem blJ:bK WO [SF f L D H A] (bif lK f.kind then(1,[cw,SF f L D H A])else(0,[SF f L D H A])):=by
 refine bW ayw ?_;refine aw (c:=f.kind==16) (λh=>af ?_) λh=>aw (c:=f.kind==17) (λh2=>af ?_) λh2=>aw (c:=f.kind==18) (λh3=>af ?_) λh3=>aw (c:=f.kind==19) (λh4=>af ?_) λh4=>aw (c:=f.kind==15) (λh5=>af ?_) λh5=>aw (c:=f.kind==11) (λh6=>af ?_) λh6=>aw (c:=f.kind==12) (λh7=>af ?_) λh7=>aw (c:=f.kind==22) (λh8=>af ?_) λh8=>aw (c:=f.kind==21) (λh9=>af ?_) λh9=>af ?_
 ·rw [show lK f.kind=true by unfold lK;rw [h];rfl];rfl
 ·rw [show lK f.kind=true by unfold lK;rw [h,h2];rfl];rfl
 ·rw [show lK f.kind=true by unfold lK;rw [h,h2,h3];rfl];rfl
 ·rw [show lK f.kind=true by unfold lK;rw [h,h2,h3,h4];rfl];rfl
 ·rw [show lK f.kind=true by unfold lK;rw [h,h2,h3,h4,h5];rfl];rfl
 ·rw [show lK f.kind=true by unfold lK;rw [h,h2,h3,h4,h5,h6];rfl];rfl
 ·rw [show lK f.kind=true by unfold lK;rw [h,h2,h3,h4,h5,h6,h7];rfl];rfl
 ·rw [show lK f.kind=true by unfold lK;rw [h,h2,h3,h4,h5,h6,h7,h8];rfl];rfl
 ·rw [show lK f.kind=true by unfold lK;rw [h,h2,h3,h4,h5,h6,h7,h8,h9];rfl];rfl
 ·rw [show lK f.kind=false by unfold lK;rw [h,h2,h3,h4,h5,h6,h7,h8,h9];rfl];rfl
theorem blR:Ev Ou [SF f L D H A] (0,[ak (sC f)]):=by
 refine bx aAc (aj (blJ f L D H A) ?_);cases h:lK f.kind with
 |true=>exact bj (af (by unfold sC;rw [h];rfl))
 |false=>
  refine aY (aw (c:=f.kind==9) (λg=>af ?_) λg=>af ?_)
  ·unfold sC;rw [h,g];rfl
  ·unfold sC;rw [h,g];rfl
end
section
variable {p:PG} {ts:List TK} {ro:List RO} (ct:CT p ts ro) {w:WH} (hw:w.Ok) {cn:aW} (hc:az (au cn)=cn) {lf:Int} (hE:kO)
variable (f:dk) (L D H A:aW)
def jE(k:Int):Bool:=bif k==18 then true else bif k==19 then true else k==21
def uD(w:WH)(f:dk):Bool:=bif decide (0<ln (ints w.gY))then !sC f else true
def pK(w:WH)(f:dk):Bool:=
 uD w f&&bif jE f.kind then(!w.ji&& !w.hY)else bif f.kind==11 then true else bif f.kind==12 then true else bif !w.hY then true else !sC f
include hc in
theorem stC:Ev UT [J (bB 0 w),SF f L D H A,K0 p lf,ah (bf ro),.ab 0 cn] (0,ak (pK w f)::fR p ro lf cn):=by
 have j6:bK Uu [K0 p lf,ah (bf ro),.ab 0 cn,J (bB 0 w),SF f L D H A] (bif uD w f then(0,[K0 p lf,ah (bf ro),.ab 0 cn,J (bB 0 w),SF f L D H A])else(1,[aq,K0 p lf,ah (bf ro),.ab 0 cn,J (bB 0 w),SF f L D H A])):=by
  refine bW ar8 ?_;rw [hc];refine aw (c:=decide (0<ln (ints w.gY))) (λh=>aj (blC f L D H A) (aw (c:=sC f) (λg=>af ?_) λg=>af ?_)) λh=>af ?_
  ·unfold uD;rw [h,g];rfl
  ·unfold uD;rw [h,g];rfl
  ·unfold uD;rw [h];rfl
 have abv:bK Ud [bE f.kind,K0 p lf,ah (bf ro),.ab 0 cn] (0,ak (jE f.kind)::fR p ro lf cn):=by
  refine bW are ?_;rw [hc];refine aw (c:=f.kind==18) (λh=>af ?_) λh=>aw (c:=f.kind==19) (λh2=>af ?_) λh2=>af ?_
  ·unfold jE;rw [h];rfl
  ·unfold jE;rw [h,h2];rfl
  ·unfold jE;rw [h,h2];rfl
 let dc:UO:=bif jE f.kind then(1,[ak (!w.ji&& !w.hY),K0 p lf,ah (bf ro),.ab 0 cn,J (bB 0 w),SF f L D H A])else bif f.kind==11 then(1,[cw,K0 p lf,ah (bf ro),.ab 0 cn,J (bB 0 w),SF f L D H A])else bif f.kind==12 then(1,[cw,K0 p lf,ah (bf ro),.ab 0 cn,J (bB 0 w),SF f L D H A])else(0,[K0 p lf,ah (bf ro),.ab 0 cn,J (bB 0 w),SF f L D H A])
 have DY:bK Um [K0 p lf,ah (bf ro),.ab 0 cn,J (bB 0 w),SF f L D H A] dc:=by
  refine bW arD ?_;rw [hc];refine aj abv ?_;erw [hc];refine aw (c:=jE f.kind) (λh=>aw (c:= !w.ji) (λg=>af ?_) λg=>af ?_) λh=>aw (c:=f.kind==11) (λg=>af ?_) λg=>aw (c:=f.kind==12) (λi=>af ?_) λi=>af ?_
  ·simp only [dc,h,g,cf,oK];rfl
  ·simp only [dc,h,g,cf,nq];rfl
  ·simp only [dc,h,g,cf,cE];rfl
  ·simp only [dc,h,g,i,cf,cE];rfl
  ·simp only [dc,h,g,i,cE];rfl
 refine bx atz ?_;rw [hc];refine aj j6 ?_;cases h1:uD w f with
 |false=>refine bj (af ?_);erw [hc];unfold pK;rw [h1];rfl
 |true=>
  refine aY ?_;simp only [cf];erw [hc];refine aj DY ?_;cases h2:jE f.kind with
  |true=>
   simp only [dc,h2,cf];refine bj (af ?_);erw [hc];unfold pK;rw [h1,h2];rfl
  |false=>
   cases h3:f.kind==11 with
   |true=>
    simp only [dc,h2,h3,cf,cE];refine bj (af ?_);erw [hc];unfold pK;rw [h1,h2,h3];rfl
   |false=>
    cases h4:f.kind==12 with
    |true=>
     simp only [dc,h2,h3,h4,cf,cE];refine bj (af ?_);erw [hc];unfold pK;rw [h1,h2,h3,h4];rfl
    |false=>
     simp only [dc,h2,h3,h4,cE];refine aY ?_;erw [hc];refine aw (c:= !w.hY) (λh=>af ?_) λh=>aj (blC f L D H A) (af ?_)
     ·unfold pK;rw [h1,h2,h3,h4,h];rfl
     ·unfold pK;rw [h1,h2,h3,h4,h];rfl
theorem stR:Ev VN [bI p ts ro w,SF f L D H A] (0,[ak (pK w f)]):=by
 have j6:bK Vo [bI p ts ro w,SF f L D H A] (bif uD w f then(0,[bI p ts ro w,SF f L D H A])else(1,[aq,bI p ts ro w,SF f L D H A])):=by
  refine bW aue ?_;refine aw (c:=decide (0<ln (ints w.gY))) (λh=>aj (blR f L D H A) (aw (c:=sC f) (λg=>af ?_) λg=>af ?_)) λh=>af ?_
  ·unfold uD;rw [h,g];rfl
  ·unfold uD;rw [h,g];rfl
  ·unfold uD;rw [h];rfl
 have DY:bK U2 [bI p ts ro w,SF f L D H A] (bif (w.ji||w.hY)&&jE f.kind then(1,[aq,bI p ts ro w,SF f L D H A])else(0,[bI p ts ro w,SF f L D H A])):=by
  refine bW atp ?_;refine aw (c:=w.ji) (λh=>aw (c:=f.kind==18) (λa=>af ?_) λa=>aw (c:=f.kind==19) (λb=>af ?_) λb=>aw (c:=f.kind==21) (λc=>af ?_) λc=>af ?_) λh=>aw (c:=w.hY) (λg=>aw (c:=f.kind==18) (λa=>af ?_) λa=>aw (c:=f.kind==19) (λb=>af ?_) λb=>aw (c:=f.kind==21) (λc=>af ?_) λc=>af ?_) λg=>af ?_
  ·have e:((w.ji||w.hY)&&jE f.kind)=true:=by unfold jE;rw [h,a];rfl
   rw [e];rfl
  ·have e:((w.ji||w.hY)&&jE f.kind)=true:=by unfold jE;rw [h,a,b];rfl
   rw [e];rfl
  ·have e:((w.ji||w.hY)&&jE f.kind)=true:=by unfold jE;rw [h,a,b,c];rfl
   rw [e];rfl
  ·have e:((w.ji||w.hY)&&jE f.kind)=false:=by unfold jE;rw [h,a,b,c];rfl
   rw [e];rfl
  ·have e:((w.ji||w.hY)&&jE f.kind)=true:=by unfold jE;rw [h,g,a];rfl
   rw [e];rfl
  ·have e:((w.ji||w.hY)&&jE f.kind)=true:=by unfold jE;rw [h,g,a,b];rfl
   rw [e];rfl
  ·have e:((w.ji||w.hY)&&jE f.kind)=true:=by unfold jE;rw [h,g,a,b,c];rfl
   rw [e];rfl
  ·have e:((w.ji||w.hY)&&jE f.kind)=false:=by unfold jE;rw [h,g,a,b,c];rfl
   rw [e];rfl
  ·have e:((w.ji||w.hY)&&jE f.kind)=false:=by rw [h,g];rfl
   rw [e];rfl
 refine bx awl (aj j6 ?_);cases h1:uD w f with
 |false=>exact bj (af (by unfold pK;rw [h1];rfl))
 |true=>
  refine aY ?_;simp only [cf];refine aj DY ?_;cases h2:(w.ji||w.hY)&&jE f.kind with
  |true=>
   refine bj (af ?_);rw [bM]at h2;unfold pK;rw [h1,h2.2];have:(!w.ji&& !w.hY)=false:=by rw [<-Bool.not_or,h2.1];rfl
   simp only [cf,this];rfl
  |false=>
   refine aY (aw (c:= !w.hY) (λh=>af ?_) λh=>aj (blR f L D H A) (aw (c:= !sC f) (λg=>af ?_) λg=>aw (c:=f.kind==11) (λi=>af ?_) λi=>af ?_))
   ·unfold pK;rw [h1,h];cases ha:jE f.kind with
    |true=>
     rw [ha,YA,Bool.or_eq_false_iff]at h2;simp only [cf,h2.1];rfl
    |false=>cases f.kind==11<;>cases f.kind==12<;>rfl
   ·have hu:w.hY=true:=by simpa using h
    have ha:jE f.kind=false:=ZE;unfold pK;rw [h1,ha,h,g];cases f.kind==11<;>cases f.kind==12<;>rfl
   ·have hu:w.hY=true:=by simpa using h
    have ha:jE f.kind=false:=ZE;unfold pK;rw [h1,ha,i];rfl
   ·have hu:w.hY=true:=by simpa using h
    have ha:jE f.kind=false:=ZE;unfold pK;rw [h1,ha,i,h,g];show(0,[ak (f.kind==12)])=_;cases f.kind==12<;>rfl
end
end Go.Proofs.YtomkobcipaligaaGreatDoor
namespace Go.aA
def al5{p:Prop}(h:p:=by
 match l,ok with
 | [e],ok=>
   obtain⟨b,h⟩:=Sa ct hw hc (lf:=lf) hE e (ok e (by simp));exact⟨b,λe' h'=>by injection h' with h';subst h';exact h⟩
 | [],_=>exact⟨false,λe h=>by cases h⟩
 |_::_::_,_=>exact⟨false,λe h=>by cases h⟩):p:=h
def Zj{p:Prop}(h:p:=by rw [eq_of_beq hl];rfl):p:=h
def ai4{p:Prop}(h:p:=by simp only [dc,ht,hm,hb,cf,cE]):p:=h
def Qe{p:Prop}(h:p:=by rw [h,g];rfl):p:=h
def Qc{p:Prop}(h:p:=by rw [HF];rfl):p:=h
end Go.aA
namespace Go.Proofs.YtomkobcipaligaaGreatDoor
open Go Go.aA
def jt(s:CS):Bool:=vP s.f (s.L.map encS) (s.D.map cj) (s.H.map cz) (s.A.map cu) 1 xz
theorem C7(s:CS):Ev u6 [J (encS s)] (0,[ak (jt s)]):=by rw [FY];exact aFX _ _ _ _ _
theorem Gn(s:CS):Ev nM [J (encS s),J se] (0,[ak (jt s)]):=by rw [FY];exact smR _ _ _ _ _ 1 xz
theorem ah9(l:aW)(k j:Nat):gA (l.drop k) j=gA l (k+j):=by simp [gA,List.getD]
section
variable {p:PG} {ts:List TK} {ro:List RO} (ct:CT p ts ro) {w:WH} (hw:w.Ok) {cn:aW} (hc:az (au cn)=cn) {lf:Int} (hE:kO)
def DG(Ls:List CS):Bool:=(Ls.drop (Ls.length- 2)).all jt
def AZ(f:dk)(nb:Bool):Bool:=bif (bif f.mode==2 then true else f.mode==3)then(ln (f.E.map aP)==1)&&nb else bif (bif f.mode==0 then true else f.mode==1)then ln (f.E.map aP)==0 else false
include ct hw hc hE in
theorem YY{f:dk}(hf:f.Ok){n:Nat}(h2:2<=n)(h3:n<=3):∃wb:Bool,∀{Ls:List CS} {D H A:aW},Ls.length=n->∃b,b=(wb&&(!(f.mode==0)||DG Ls))∧
 Ev Il [J (bB 0 w),SF f (Ls.map encS) D H A,K0 p lf,ah (bf ro),.ab 0 cn] (0,ak b::fR p ro lf cn)∧
 Ev EV [bI p ts ro w,SF f (Ls.map encS) D H A,iI (n:Int)] (0,[ak b]):=by
 obtain⟨nb,Bs⟩:∃nb:Bool,∀e,f.E=[e]->Ev wF [J (bB 0 w),J (aP e),J (dM 1 2 p lf),ah (bf ro),.ab 0 cn] (0,ak nb::fR p ro lf cn)∧Ev sF [bI p ts ro w,J (aP e)] (0,[ak nb]):=by
  have ok:=hf.E.2;generalize f.E=l at ok;exact al5
 refine⟨AZ f nb,λ{Ls D H A} hn=> ?_⟩;have htl:DG Ls=(jt (Ls[n- 2]'(by omega))&&jt (Ls[n- 1]'(by omega))):=by
  have e:Ls.drop (Ls.length- 2)=Ls[n- 2]'(by omega)::Ls[n- 1]'(by omega):: []:=by
   rw [show Ls.length- 2=n- 2 by omega,fW (i:=n- 2) (by omega)];have:=fW (l:=Ls) (i:=n- 2+1) (by omega);rw [this,Yy (by omega)];simp only [show n- 2+1=n- 1 by omega]
  unfold DG;rw [e];simp
 have i0:n- 2<Ls.length:=by omega
 have i1:n- 1<Ls.length:=by omega
 let tB:Bool:=jt Ls[n- 2]&&jt Ls[n- 1]
 let tm:Bool:=bif f.mode==2 then true else f.mode==3
 have hk:bw (ln (Ls.map encS)- 2)=((n- 2:Nat):Int):=by rw [dB,hn,jI (by omega) (by omega)];omega
 have g0:dJ (gA ((Ls.map encS).drop (n- 2)) 0)=encS Ls[n- 2]:=by rw [ah9,yg,sQ i0,fF]
 have g1:dJ (gA ((Ls.map encS).drop (n- 2)) 1)=encS Ls[n- 1]:=by
  rw [ah9,show n- 2+1=n- 1 by omega,sQ i1,fF]
 have abv:bK Ul [bE f.mode,K0 p lf,ah (bf ro),.ab 0 cn] (0,ak tm::fR p ro lf cn):=by
  refine bW arB ?_;rw [hc];refine aw (c:=f.mode==2) (λh=>af ?_) λh=>af ?_
  ·simp only [tm,h,cf];rfl
  ·simp only [tm,h,cE];rfl
 let dc:UO:=bif tm then(0,[iI 1,K0 p lf,ah (bf ro),.ab 0 cn,SF f (Ls.map encS) D H A])else bif f.mode==0 then bif tB then(0,[iI 0,K0 p lf,ah (bf ro),.ab 0 cn,SF f (Ls.map encS) D H A])else(1,[aq,K0 p lf,ah (bf ro),.ab 0 cn,SF f (Ls.map encS) D H A])else bif f.mode==1 then(0,[iI 0,K0 p lf,ah (bf ro),.ab 0 cn,SF f (Ls.map encS) D H A])else(1,[aq,K0 p lf,ah (bf ro),.ab 0 cn,SF f (Ls.map encS) D H A])
 have DY:bK Ut [iI 0,K0 p lf,ah (bf ro),.ab 0 cn,SF f (Ls.map encS) D H A] dc:=by
  refine bW ar7 ?_;rw [hc];refine aj abv ?_;erw [hc];refine aw (c:=tm) (λh=>af (by simp only [dc,h,cf];rfl)) λh=>aw (c:=f.mode==0) (λg=> ?_) λg=>aw (c:=f.mode==1) (λi=>af (by simp only [dc,h,g,i,cf,cE];rfl)) λi=>af (by simp only [dc,h,g,i,cE];rfl)
  ·have nJ:gR (cZ f (Ls.map encS) D H A) 17=Ls.map encS:=rfl;refine aH (c:=decide (0<=bw (ln (Ls.map encS)- 2))&&decide (bw (ln (Ls.map encS)- 2)<=ln (Ls.map encS))&&decide (ln (Ls.map encS)<=ln (Ls.map encS))&&decide (ln (Ls.map encS)<=ln (Ls.map encS))) (by rw [hk,dB,hn];simp<;>omega) ?_;refine aH (c:=decide (0<ln ((Ls.map encS).drop (bw (ln (Ls.map encS)- 2)).toNat))) (by rw [hk];simp [ln,hn]<;>omega) ?_;have n0:Ev u6 [J (dJ (gA ((Ls.map encS).drop (bw (ln (Ls.map encS)- 2)).toNat) 0))] (0,[ak (jt Ls[n- 2])]):=by rw [hk,mU,g0];exact C7 _
   have n1:Ev u6 [J (dJ (gA ((Ls.map encS).drop (bw (ln (Ls.map encS)- 2)).toNat) 1))] (0,[ak (jt Ls[n- 1])]):=by rw [hk,mU,g1];exact C7 _
   refine aj n0 (aw (c:= !jt Ls[n- 2]) (λi=>af ?_) λi=>aH (c:=decide (1<ln ((Ls.map encS).drop (bw (ln (Ls.map encS)- 2)).toNat))) (by rw [hk];simp [ln,hn]<;>omega) (aj n1 (aw (c:= !jt Ls[n- 1]) (λj=>af ?_) λj=>af ?_)))
   ·simp only [dX]at i;simp only [dc,tB,h,g,i,cf,cE,nq];rfl
   ·simp only [dX,dL]at i j;simp only [dc,tB,h,g,i,j,cf,cE,oK];rfl
   ·simp only [dL]at i j;simp only [dc,tB,h,g,i,j,cf,cE,oK];rfl
 let tv:Int:=bif tm then 1 else 0
 have fq:bK Vn [iI 0,SF f (Ls.map encS) D H A] (0,[iI tv,SF f (Ls.map encS) D H A]):=by
  refine bW aud ?_;refine aw (c:=f.mode==2) (λh=>af ?_) λh=>aw (c:=f.mode==3) (λg=>af ?_) λg=>af ?_
  ·simp only [tv,tm,h,cf];rfl
  ·simp only [tv,tm,h,g,cf,cE];rfl
  ·simp only [tv,tm,h,g,cE];rfl
 let okB:Bool:= !decide (3<f.mode)&&(ln (f.E.map aP)==tv)
 have r30:bK Vm [iI (n:Int),iI tv,SF f (Ls.map encS) D H A] (bif okB then(0,[SF f (Ls.map encS) D H A])else(1,[aq,SF f (Ls.map encS) D H A])):=by
  refine bW auc ?_;refine aw (c:=decide (3<f.mode)) (λh=>af ?_) λh=>aw (c:=ln (f.E.map aP) != tv) (λg=>af ?_) λg=>ax (c:=ln (Ls.map encS) != (n:Int)) (by rw [dB,hn];simp) (af ?_)
  ·simp only [okB,h];rfl
  ·simp only [okB,h,im g];rfl
  ·simp only [okB,h,cT g];rfl
 have rl:bP zM [iI (n:Int),iI (bw ((n:Int)- 2)),SF f (Ls.map encS) D H A] (bif f.mode==0 then bif tB then(1,[SF f (Ls.map encS) D H A])else(0,[aq,SF f (Ls.map encS) D H A])else(1,[SF f (Ls.map encS) D H A])):=by
  have oX:bw ((n:Int)- 2)=((n- 2:Nat):Int):=vF;have x1:bw (((n- 2:Nat):Int)+1)=((n- 1:Nat):Int):=vF;have x2:bw (((n- 1:Nat):Int)+1)=(n:Int):=vF;rw [oX];have step:∀(i:Nat) (hi:i<Ls.length) r,((f.mode==0&& !(jt Ls[i]))=true->(0,[aq,SF f (Ls.map encS) D H A])=r)->((f.mode==0&& !(jt Ls[i]))=false->bP zM [iI (n:Int),iI (bw ((i:Int)+1)),SF f (Ls.map encS) D H A] r)->bP zM [iI (n:Int),iI (i:Int),SF f (Ls.map encS) D H A] r:=λi hi r q1 q2=>by
   refine bD adl (br (c:=decide ((i:Int)<(n:Int))) (eu) (aw (c:=f.mode==0) (λh=>aH (cN hi) ?_) λh=>q2 (gv)));rw [show gR (cZ f (Ls.map encS) D H A) 17=Ls.map encS from rfl,fK hi,fF];exact aj (Gn Ls[i]) (aw (c:= !jt Ls[i]) (λg=>af (q1 (Qe))) λg=>q2 (Qe))
  refine step (n- 2) i0 _ (λh=> ?_) λh=> ?_
  ·rw [bM]at h;have:=h.2;simp only [dX]at this;rw [h.1];simp only [tB,this,nq];rfl
  ·rw [x1];refine step (n- 1) i1 _ (λg=> ?_) λg=> ?_
   ·rw [bM]at g;have:=g.2;simp only [dX]at this;rw [g.1];simp only [tB,this,ph];rfl
   ·rw [x2];refine bD adl (ax (c:=decide ((n:Int)<(n:Int))) (by simp) (af ?_));cases hm:f.mode==0 with
    |false=>rfl
    |true=>
     rw [hm,oK]at h g;simp only [dL]at h g;simp only [tB,h,g];rfl
 have Tl:=hf.mode;have C:∀r:UO,_->Ev Il [J (bB 0 w),SF f (Ls.map encS) D H A,K0 p lf,ah (bf ro),.ab 0 cn] r:=λr h=>by
  refine bx auj ?_;rw [hc];refine aj DY ?_;exact h
 have R:∀r:UO,_->Ev EV [bI p ts ro w,SF f (Ls.map encS) D H A,iI (n:Int)] r:=λr h=>by
  refine bx axz (aj fq (aj r30 ?_));exact h
 cases ht:tm with
 |true=>
  have xH:(bif f.mode==2 then true else f.mode==3)=true:=ht;have hm:f.mode=2∨f.mode=3:=by
   simp only [tm]at ht;cases h:f.mode==2 with
   |true=>exact .inl (eq_of_beq h)
   |false=>rw [h]at ht;exact .inr (eq_of_beq ht)
  have ho:dc=(0,[iI 1,K0 p lf,ah (bf ro),.ab 0 cn,SF f (Ls.map encS) D H A]):=by simp only [dc,ht,cf]
  have HF:tv=1:=by simp only [tv,ht];rfl
  have Bu:decide (3<f.mode)=false:=eu;have aoX:(f.mode==0)=false:=eu;rw [aoX]at rl;cases hl:ln (f.E.map aP)==1 with
  |false=>
   have bz:okB=false:=by simp only [okB,Bu,HF,hl];rfl
   rw [ho]at C;rw [bz]at R;refine⟨false,by unfold AZ;rw [xH,hl];rfl,C _ (aY (ax hl (af ?_))),R _ (bj aL)⟩;exact ju
  |true=>
   have bz:okB=true:=by simp only [okB,Bu,HF,hl];rfl
   obtain⟨e,he⟩:∃e,f.E=[e]:=by
    have:=eq_of_beq hl;rw [dB]at this
    match hE':f.E,this with
    | [e],_=>exact⟨e,rfl⟩
    | [],h=>exact hU
    |_::_::_,h=>simp at h;omega
   obtain⟨b1,b2⟩:=Bs e he;have tL:decide (0<ln (f.E.map aP))=true:=Zj;rw [<-wY e,<-he]at b1 b2;rw [ho]at C;rw [bz]at R;refine⟨nb,by unfold AZ;rw [xH,hl,aoX];simp,C _ (aY (br hl (bj (aH tL ?_)))),R _ (aY (br (c:=tv==1) (Qc) (aH tL (aj b2 ?_))))⟩
   ·erw [hc];refine aj b1 (af ?_);exact ju
   ·cases nb with
    |false=>exact mW
    |true=>exact bj (aj rl.diag (bj aL))
 |false=>
  have xH:(bif f.mode==2 then true else f.mode==3)=false:=ht;have HF:tv=0:=by simp only [tv,ht];rfl
  have hm2:¬f.mode=2∧¬f.mode=3:=by
   simp only [tm]at ht;cases h:f.mode==2 with
   |true=>rw [h]at ht;cases ht
   |false=>rw [h]at ht;exact⟨jU,Gc⟩
  cases hm:f.mode==0 with
  |true=>
   have Bu:decide (3<f.mode)=false:=by rw [eq_of_beq hm];rfl
   have abA:okB=(ln (f.E.map aP)==0):=by simp only [okB,Bu,HF];simp
   rw [hm]at rl;rw [abA]at R;cases hb:tB with
   |false=>
    have ho:dc=(1,[aq,K0 p lf,ah (bf ro),.ab 0 cn,SF f (Ls.map encS) D H A]):=ai4;rw [ho]at C;rw [hb]at rl;refine⟨false,by rw [htl,show(jt Ls[n- 2]&&jt Ls[n- 1])=false from hb];simp,C _ (bj (af ?_)),R _ ?_⟩
    ·exact ju
    ·cases ln (f.E.map aP)==0 with
     |false=>exact gr
     |true=>exact aY (ax (c:=tv==1) (Qc) (aj rl.diag (aY aL)))
   |true=>
    have ho:dc=(0,[iI 0,K0 p lf,ah (bf ro),.ab 0 cn,SF f (Ls.map encS) D H A]):=ai4;rw [ho]at C;rw [hb]at rl;cases hl:ln (f.E.map aP)==0 with
    |false=>
     rw [hl]at R;refine⟨false,by unfold AZ;rw [xH,hm,hl];rfl,C _ (aY (ax hl (af ?_))),R _ (bj aL)⟩;exact ju
    |true=>
     rw [hl]at R;refine⟨true,by unfold AZ;simp only [xH,hm,hl];rw [htl,show(jt Ls[n- 2]&&jt Ls[n- 1])=true from hb];rfl,C _ (aY (br hl (aY (af ?_)))),R _ (aY (ax (c:=tv==1) (Qc) (aj rl.diag (bj aL))))⟩;exact ju
  |false=>
   rw [hm]at rl;cases uM:f.mode==1 with
   |true=>
    have Bu:decide (3<f.mode)=false:=by rw [eq_of_beq uM];rfl
    have abA:okB=(ln (f.E.map aP)==0):=by simp only [okB,Bu,HF];simp
    have ho:dc=(0,[iI 0,K0 p lf,ah (bf ro),.ab 0 cn,SF f (Ls.map encS) D H A]):=by simp only [dc,ht,hm,uM,cf,cE]
    rw [ho]at C;rw [abA]at R;cases hl:ln (f.E.map aP)==0 with
    |false=>
     rw [hl]at R;refine⟨false,by unfold AZ;rw [xH,hm,uM,hl];rfl,C _ (aY (ax hl (af ?_))),R _ (bj aL)⟩;exact ju
    |true=>
     rw [hl]at R;refine⟨true,by unfold AZ;rw [xH,hm,uM,hl];rfl,C _ (aY (br hl (aY (af ?_)))),R _ (aY (ax (c:=tv==1) (Qc) (aj rl.diag (bj aL))))⟩;exact ju
   |false=>
    have Bu:decide (3<f.mode)=true:=by simp at hm uM⊢;omega
    have bz:okB=false:=by simp only [okB,Bu];rfl
    have ho:dc=(1,[aq,K0 p lf,ah (bf ro),.ab 0 cn,SF f (Ls.map encS) D H A]):=by simp only [dc,ht,hm,uM,cE]
    rw [ho]at C;rw [bz]at R;refine⟨false,by unfold AZ;rw [xH,hm,uM];rfl,C _ (bj (af ?_)),R _ (bj aL)⟩;exact ju
end
end Go.Proofs.YtomkobcipaligaaGreatDoor
namespace Go.aA
def J8{p:Prop}(h:p:=by rw [e7];omega):p:=h
end Go.aA
namespace Go.Proofs.YtomkobcipaligaaGreatDoor
open Go Go.aA
section
variable{i:Nat}{l m:cW}
structure WH.In(p:PG)(w:WH):Prop where
 Hf:w.k8<0∨jx p w.task w.k8=true
 act:∀a∈w.gY,ib a p.dw.length=true
 task:ib w.task p.tasks.length=true
section
variable {p:PG} {ts:List TK} {ro:List RO} (ct:CT p ts ro) {w:WH} (hw:w.Ok) (hi:w.In p) {cn:aW} (hc:az (au cn)=cn) {lf:Int} (hE:kO)
def BA(p:PG)(a b:Int):Bool:=oq (cQ p.bu a) (cQ p.bu b)&&oq (cQ p.bu b) (cQ p.bu a)
def pa(p:PG)(l m:cW)(i:Nat):Bool:= !BA p (l.getD i 0) (m.getD i 0)
def tR(p:PG)(l m:cW):Bool:=(l.length==m.length)&& !((List.range l.length).any (pa p l m))
theorem KY(a b:cW):(ln (ints a) != ln (ints b))= !(a.length==b.length):=ZP
theorem PB(h:i<l.length):l.getD i 0∈l:=by
 rw [lN,dD h];exact dy h
include ct hc in
theorem aoy(hl:l.length<=8)(h1:∀x∈l,ib x p.bu.length=true)(h2:∀x∈m,ib x p.bu.length=true):
 Ev Mz [aa (ints l),aa (ints m),J (bB 1 w),J (dM 2 3 p lf),ah (bf ro),.ab 0 cn] (0,[ak (tR p l m),J (bB 1 w),J (dM 2 3 p lf),ah (bf ro),.ab 0 cn]):=by
 refine bx ap9 ?_;rw [hc];refine aw (c:=ln (ints l) != ln (ints m)) (λh=>af ?_) λh=> ?_
 ·rw [KY]at h;simp only [dX]at h;unfold tR;rw [h];rfl
 ·rw [KY]at h;simp only [dL]at h;have hlen:l.length=m.length:=jU;have k:=vv (m:=l.length) (p:=pa p l m) (hit:=(0,[aq,J (bB 1 w),J (dM 2 3 p lf),ah (bf ro),.ab 0 cn])) (done:=(1,[J (bB 1 w),J (dM 2 3 p lf),ah (bf ro),.ab 0 cn]))
   (LF:=λi N n=>Mt (FU CX EE N) N n [aa (ints m),aa (ints l),iI (ln (ints l)),iI (i:Int),J (bB 1 w),J (dM 2 3 p lf),ah (bf ro),.ab 0 cn])
   (bD aca (ax dY (af (yo))))
   λi hi r q1 q2=>bD aca<|br (dx hi)<|aH (cN hi)<|aH (cN (f:=λn=>[iI n]) (l:=m) (by omega))<|by
    have dZ:i<m.length:=by omega
    rw [hc,mH hi,mH dZ,ix hi (Gg)];have a1:=h1 _ (PB hi);have a2:=h2 _ (PB dZ);have b1:ib (l.getD i 0) (cb p.bu).length =true:=by rw [py];exact a1
    have b2:ib (m.getD i 0) (cb p.bu).length =true:=by rw [py];exact a2
    have q:Ev UD [iI (l.getD i 0),iI (m.getD i 0),J (bB 1 w),J (dM 2 3 p lf),ah (bf ro),.ab 0 cn] (0,[ak (BA p (l.getD i 0) (m.getD i 0)),J (bB 1 w),J (dM 2 3 p lf),ah (bf ro),.ab 0 cn]):=by
     refine bx asS (aH b1 (aH b2 ?_));rw [hc];erw [mj a1,mj a2];refine aj (abq (ct.ol.ok (qH a1)) (ct.ol.ok (qH a2))) (aw (c:=oq (cQ p.bu (l.getD i 0)) (cQ p.bu (m.getD i 0))) (λg=>aH b2 (aH b1 (aj (abq (ct.ol.ok (qH a2)) (ct.ol.ok (qH a1))) (af ?_)))) λg=>af ?_)
     ·unfold BA;rw [g];rfl
     ·unfold BA;rw [g];rfl
    refine aj q ?_;erw [hc];exact aw (c:= !BA p (l.getD i 0) (m.getD i 0)) (λg=>af (q1 g)) λg=>q2 g
  refine aj k.diag ?_;unfold tR;rw [h];cases(List.range l.length).any (pa p l m)with
  |true=>exact QB
  |false=>exact C9
include ct in
theorem aND(hl:l.length<=16)(hlen:l.length=m.length)(h1:∀x∈l,ib x p.bu.length=true)(h2:∀x∈m,ib x p.bu.length=true):
 bP Ew [iI 0,bI p ts ro w,aa (ints l),aa (ints m)] (bif (List.range l.length).any (pa p l m)then(0,[aq,bI p ts ro w,aa (ints l),aa (ints m)])else(1,[bI p ts ro w,aa (ints l),aa (ints m)])):=by
 refine vv (m:=l.length) (p:=pa p l m) (LF:=λi N n=>Ew (FU CX EE N) N n [iI (i:Int),bI p ts ro w,aa (ints l),aa (ints m)])
  (bD acP (ax dY aL))
  λi hi r q1 q2=>bD acP<|br (dx hi)<|aH (cN hi)<|aH (CL) ?_
 have dZ:i<m.length:=by omega
 have a1:=h1 _ (PB hi);have a2:=h2 _ (PB dZ);have b1:ib (l.getD i 0) (cb p.bu).length =true:=by rw [py];exact a1
 have b2:ib (m.getD i 0) (cb p.bu).length =true:=by rw [py];exact a2
 have c2:decide (((i:Int).toNat)<(ints m).length)=true:=by simpa using dZ
 rw [mH hi,mH dZ,ix hi (Gg)];refine aH b1 (aH (cN dZ) (aH c2 (aH b2 ?_)));erw [mj a1,mj a2];refine aj (abp (ct.ol.ok (qH a1)) (ct.ol.ok (qH a2))) (aw (c:= !oq (cQ p.bu (l.getD i 0)) (cQ p.bu (m.getD i 0))) (λg=>af (q1 ?_)) λg=>aH (cN dZ) (aH c2 (aH b2 (aH (cN hi) (aH (CL) (aH b1 (aj (abp (ct.ol.ok (qH a2)) (ct.ol.ok (qH a1))) (aw (c:= !oq (cQ p.bu (m.getD i 0)) (cQ p.bu (l.getD i 0))) (λg2=>af (q1 ?_)) λg2=>q2 ?_))))))))
 ·simp only [dX]at g;unfold pa BA;rw [g];rfl
 ·simp only [dX]at g2;unfold pa BA;rw [g2,ph];rfl
 ·simp only [dL]at g g2;unfold pa BA;rw [g,g2];rfl
theorem Sy(h:i<l.length):(l++m).getD i 0=l.getD i 0:=by rw [lN,lN,jH h]
theorem api:(l++m).getD (l.length+i) 0=m.getD i 0:=by rw [lN,lN,kZ (by omega),show l.length+i- l.length=i by omega]
theorem aFe{l1 l2 m1 m2:cW}(h:l1.length=m1.length):(List.range (l1++l2).length).any (pa p (l1++l2) (m1++m2))=((List.range l1.length).any (pa p l1 m1)||(List.range l2.length).any (pa p l2 m2)):=by
 rw [e7,List.range_add,Yh,List.any_map]
 congr 1
 ·refine FB.2 ?_;simp only [Po,Ac];constructor<;>rintro⟨i,hi,hp⟩<;>refine⟨i,hi,?_⟩<;>unfold pa at hp⊢
  ·rw [Sy hi,Sy (by omega)]at hp;exact hp
  ·rw [Sy hi,Sy (by omega)];exact hp
 ·congr 1;funext i
  show pa p (l1++l2) (m1++m2) (l1.length+i)=_;unfold pa;rw [api,h,api]
theorem w2i{a b:cW}(ha:a.length<=8)(hb:b.length<=8):(bw (ln (ints a)+ln (ints b))==0)=(ln (ints a)==0&&ln (ints b)==0):=by
 rw [dB,dB,jI (n:=(a.length:Int)+(b.length:Int)) (by omega) (by omega)];rw [FB,bM,iy,iy,iy];omega
include ct hi hc in
theorem aNE{f:dk}:∃b,∀{L D H A:aW},
 Ev Va [J (bB 0 w),SF f L D H A,K0 p lf,ah (bf ro),.ab 0 cn] (0,ak b::fR p ro lf cn)∧
 Ev Vr [bI p ts ro w,SF f L D H A] (0,[ak b]):=by
 let sv:Bool:= !decide (w.k8<0)&&(jx p f.T f.entry&& !((f.T==w.task)&&(f.entry==w.k8)))
 have jc:∀{L D H A:aW},bK UJ [K0 p lf,ah (bf ro),.ab 0 cn,J (bB 0 w),SF f L D H A]
  (bif sv then(0,[K0 p lf,ah (bf ro),.ab 0 cn,J (bB 0 w),SF f L D H A])else(1,[aq,K0 p lf,ah (bf ro),.ab 0 cn,J (bB 0 w),SF f L D H A])):=by
  intro L D H A;refine bW asG ?_;rw [hc];refine aw (c:=decide (w.k8<0)) (λh=>af (by simp only [sv,h];rfl)) λh=>aj (SJ (lf:=lf) hc f.T f.entry) ?_;erw [hc];refine aw (c:= !jx p f.T f.entry) (λh2=>af ?_) λh2=>aw (c:=f.T==w.task) (λh3=>aw (c:=f.entry==w.k8) (λh4=>af ?_) λh4=>af ?_) λh3=>af ?_
  ·simp only [dX]at h2;simp only [sv,h,h2];rfl
  ·simp only [dL]at h2;simp only [sv,h,h2,h3,h4];rfl
  ·simp only [dL]at h2;simp only [sv,h,h2,h3,h4];rfl
  ·simp only [dL]at h2;simp only [sv,h,h2,h3];rfl
 have jr:∀{L D H A:aW},bK U3 [bI p ts ro w,SF f L D H A]
  (bif sv then(0,[bI p ts ro w,SF f L D H A])else(1,[aq,bI p ts ro w,SF f L D H A])):=by
  intro L D H A;refine bW atq ?_;refine aw (c:=decide (w.k8<0)) (λh=>af (by simp only [sv,h];rfl)) λh=>aj (SH ct f.T f.entry) ?_;refine aw (c:= !jx p f.T f.entry) (λh2=>af ?_) λh2=>aw (c:=f.T==w.task) (λh3=>aw (c:=f.entry==w.k8) (λh4=>af ?_) λh4=>af ?_) λh3=>af ?_
  ·simp only [dX]at h2;simp only [sv,h,h2];rfl
  ·simp only [dL]at h2;simp only [sv,h,h2,h3,h4];rfl
  ·simp only [dL]at h2;simp only [sv,h,h2,h3,h4];rfl
  ·simp only [dL]at h2;simp only [sv,h,h2,h3];rfl
 cases hg:sv with
 |false=>
  rw [hg]at jc jr;refine⟨false,λ{L D H A}=>⟨bx adB ?_,bx adL (aj jr (bj aL))⟩⟩;exact ai2
 |true=>
 rw [hg]at jc jr;simp only [sv,bM]at hg;have aN7:jx p w.task w.k8=true:=by
  rcases hi.Hf with h|h
  ·have:=hg.1;simp at this;omega
  ·exact h
 obtain⟨ta,ea⟩:=YS aN7;obtain⟨tb,eb⟩:=YS hg.2.1;generalize HA:DB (ml p.tasks w.task).au w.k8=a;generalize hxb:DB (ml p.tasks f.T).au f.entry=b;have ga:=Gz ta;have gb:=Gz tb;have na:=aaB ea;have nb:=aaB eb;rw [HA]at na;rw [hxb]at nb;obtain⟨ai,ao,al1,al2⟩:=ct.ent _ (Yk ta) _ (Yu ea);obtain⟨bi,bo,bl1,bl2⟩:=ct.ent _ (Yk tb) _ (Yu eb);rw [HA]at ai ao al1 al2;rw [hxb]at bi bo bl1 bl2;have t1:ib w.task (p.tasks.map cF).length =true:=by rw [ey];exact ta
 have t2:ib w.k8 ((gR (gA (p.tasks.map cF) w.task.toNat) 1).length)=true:=by rw [ga];show ib w.k8 ((ml p.tasks w.task).au.map iP).length =true;rw [ey];exact ea
 have t3:ib f.T (p.tasks.map cF).length =true:=by rw [ey];exact tb
 have t4:ib f.entry ((gR (gA (p.tasks.map cF) f.T.toNat) 1).length)=true:=by rw [gb];show ib f.entry ((ml p.tasks f.T).au.map iP).length =true;rw [ey];exact eb
 have ra:gA (gR (gA (p.tasks.map cF) w.task.toNat) 1) w.k8.toNat=iP a:=by rw [ga];exact na
 have rb:gA (gR (gA (p.tasks.map cF) f.T.toNat) 1) f.entry.toNat=iP b:=by rw [gb];exact nb
 have u2:ib w.k8 ((gR (gA (ts.map cF) w.task.toNat) 1).length)=true:=by rw [Cr ct ta,ey];exact ea
 have u4:ib f.entry ((gR (gA (ts.map cF) f.T.toNat) 1).length)=true:=by rw [Cr ct tb,ey];exact eb
 have sa:gA (gR (gA (ts.map cF) w.task.toNat) 1) w.k8.toNat=iP a:=by rw [Cr ct ta];exact na
 have sb:gA (gR (gA (ts.map cF) f.T.toNat) 1) f.entry.toNat=iP b:=by rw [Cr ct tb];exact nb
 have zB:=w2i bl1 bl2;have hb:∃v,v=bif (ln (ints b.ins)==0&&ln (ints b.outs)==0)then true else(tR p a.ins b.ins&&tR p a.outs b.outs):=⟨_,rfl⟩;obtain⟨v,hv⟩:=hb;refine⟨v,λ{L D H A}=>⟨bx adB ?_,bx adL (aj jr (aY (aH (Q7 ct ta) (aH u2 (aH (Q7 ct tb) (aH u4 ?_))))))⟩⟩
 ·rw [hc];refine aj jc (aY (aH t1 (aH t2 (aH t3 (aH t4 ?_)))));erw [hc,ra,rb];refine aw (c:=bw (ln (ints b.ins)+ln (ints b.outs))==0) (λh=>af ?_) λh=> ?_
  ·rw [zB]at h;rw [hv,h];rfl
  ·rw [zB]at h;refine aj (aoy ct hc al1 ai bi) (aw (c:=tR p a.ins b.ins) (λg=> ?_) λg=>af ?_)
   ·erw [hc];refine aj (aoy ct hc al2 ao bo) (af ?_);erw [hc];rw [hv,h,g];rfl
   ·erw [hc];rw [hv,h,g];rfl
 ·have j30:bK UI [J [aa (gR (gA (gR (gA (ts.map cF) f.T.toNat) 1) f.entry.toNat) 0),aa (gR (gA (gR (gA (ts.map cF) f.T.toNat) 1) f.entry.toNat) 1)]] (bif (ln (ints b.ins)==0&&ln (ints b.outs)==0)then(1,[cw,eh b])else(0,[eh b])):=by
   rw [sb];refine bW asE ?_;refine aw (c:=ln (ints b.ins)==0) (λh=>aw (c:=ln (ints b.outs)==0) (λg=>af (Qe)) λg=>af (Qe)) λh=>af (gv)
  refine aj j30 ?_;cases hz:(ln (ints b.ins)==0&&ln (ints b.outs)==0)with
  |true=>exact bj (af (by rw [hv,hz];rfl))
  |false=>
   rw [hz]at hv;refine aY ?_;have j62:bK UH [J [aa (gR (gA (gR (gA (ts.map cF) w.task.toNat) 1) w.k8.toNat) 0),aa (gR (gA (gR (gA (ts.map cF) w.task.toNat) 1) w.k8.toNat) 1)],eh b] (bif (a.ins.length==b.ins.length)&&(a.outs.length==b.outs.length)then(0,[eh a,eh b])else(1,[aq,eh a,eh b])):=by
    rw [sa];refine bW asD ?_;refine aw (c:=ln (ints a.ins) != ln (ints b.ins)) (λh=>af ?_) λh=>aw (c:=ln (ints a.outs) != ln (ints b.outs)) (λg=>af ?_) λg=>af ?_
    ·rw [KY]at h;simp only [dX]at h;rw [h];rfl
    ·rw [KY]at h g;simp only [dX,dL]at h g;rw [h,g];rfl
    ·rw [KY]at h g;simp only [dL]at h g;rw [h,g];rfl
   refine aj j62 ?_;cases hl:(a.ins.length==b.ins.length)&&(a.outs.length==b.outs.length)with
   |false=>
    refine bj (af ?_);have:(tR p a.ins b.ins&&tR p a.outs b.outs)=false:=by
     unfold tR;cases h1:a.ins.length==b.ins.length with
     |false=>rfl
     |true=>rw [h1,oK]at hl;rw [hl];simp
    rw [hv,this];rfl
   |true=>
    simp only [bM,iy]at hl;have k:=aND (w:=w) ct (ts:=ts) (ro:=ro) (l:=a.ins++a.outs) (m:=b.ins++b.outs) (J8) (by rw [e7,e7];omega) (λx hx=>by rcases j7.1 hx with h|h;exact ai x h;exact ao x h) (λx hx=>by rcases j7.1 hx with h|h;exact bi x h;exact bo x h);rw [aFe hl.1,show ints (a.ins++a.outs)=ints a.ins++ints a.outs from oi,show ints (b.ins++b.outs)=ints b.ins++ints b.outs from oi]at k;have k':bP Ew [iI 0,bI p ts ro w,aa (([]++ints a.ins)++ints a.outs),aa (([]++ints b.ins)++ints b.outs)] _:=k;refine aY ?_;simp only [cf];refine aH ?_ (aH ?_ (aH ?_ (aH ?_ ?_)))
    ·show decide ((0+(ints a.ins).length)*8<=140737488355328)=true;rw [ey];simp;omega
    ·show decide ((([]++ints a.ins).length +(ints a.outs).length)*8<=140737488355328)=true;rw [mE,ey,ey];simp;omega
    ·show decide ((0+(ints b.ins).length)*8<=140737488355328)=true;rw [ey];simp;omega
    ·show decide ((([]++ints b.ins).length +(ints b.outs).length)*8<=140737488355328)=true;rw [mE,ey,ey];simp;omega
    refine aj k'.diag ?_;have e1:tR p a.ins b.ins= !((List.range a.ins.length).any (pa p a.ins b.ins)):=by unfold tR;rw [hl.1];simp
    have e2:tR p a.outs b.outs= !((List.range a.outs.length).any (pa p a.outs b.outs)):=by unfold tR;rw [hl.2];simp
    rw [hv,e1,e2];cases(List.range a.ins.length).any (pa p a.ins b.ins)<;>cases(List.range a.outs.length).any (pa p a.outs b.outs)<;>first|exact aY aL|exact bj aL
end
end
end Go.Proofs.YtomkobcipaligaaGreatDoor
namespace Go.aA
def Rh{p:Prop}(h:p:=by show ib f.P (p.dw.map fA).length =true;rw [ey];exact hp):p:=h
def rT{p:Prop}(h:p:=by rw [ek];rfl):p:=h
def ajJ{p:Prop}(h:p:=by have:ln (Ls.map encS)=3:=rA;rw [dB]at this;omega):p:=h
def Qs{p:Prop}(h:p:=by unfold Du;rw [h];rfl):p:=h
def Qo{p:Prop}(h:p:=by unfold DX;rw [h];rfl):p:=h
def Ga{p:Prop}(h:p:=by
 erw [hc];exact h):p:=h
def ai0{p:Prop}(h:p:=by simp only [dL]at j;unfold qV;rw [ir i,g,i,j,k];rfl):p:=h
def aiI{p:Prop}(h:p:=by simp only [dL]at j;unfold qV;rw [h,g,i,j,k];rfl):p:=h
def aiG{p:Prop}(h:p:=by have:=hw.ll;simp only [mx];omega):p:=h
end Go.aA
namespace Go.Proofs.YtomkobcipaligaaGreatDoor
open Go Go.aA
section
variable{f:dk}{k:Int}{α:Type}{l:List α}{A D H L:aW}
theorem vB{f:α->Row}(h:ln (l.map f)=1):∃x,l=[x]:=by
 rw [dB]at h
 match l,h with
 | [x],_=>exact⟨x,rfl⟩
 | [],h=>exact hU
 |_::_::_,h=>simp at h;omega
theorem aFl{f:α->Row}(h:ln (l.map f)=2):∃x y,l=[x,y]:=by
 rw [dB]at h
 match l,h with
 | [x,y],_=>exact⟨x,y,rfl⟩
 | [],h=>exact hU
 | [_],h=>exact hU
 |_::_::_::_,h=>simp at h;omega
theorem ZX(q:PL):No (gA ([q].map c5) 0)=c5 q:=rfl
theorem aDQ(e e1:CE):nL (gA ([e,e1].map aP) 0)=aP e:=eQ e
theorem aDP(e e1:CE):nL (gA ([e,e1].map aP) 1)=aP e1:=eQ e1
def DX(k:Int):Bool:=bif k==11 then true else k==15
def Du(k:Int):Bool:=bif k==12 then true else k==13
theorem ak3(h:DX k=true):k=11∨k=15:=by
 unfold DX at h;cases h1:k==11 with
 |true=>exact .inl (eq_of_beq h1)
 |false=>rw [h1]at h;exact .inr (eq_of_beq h)
theorem ah5(h:Du k=true):k=12∨k=13:=by
 unfold Du at h;exact aku
section
variable {p:PG} {ts:List TK} {ro:List RO} (ct:CT p ts ro) {w:WH} (hw:w.Ok) (hi:w.In p) {cn:aW} (hc:az (au cn)=cn) {lf:Int} (hE:kO)
include ct in
theorem amK{l:cW}(lo:Int)(hl:l.length<=mx):Ev B3 [aa (ints l),iI lo,iI (bw (ln (ts.map cF)- 1))] (0,[ak (jO l lo (bw (ln (p.tasks.map cF)- 1)))]):=by
 rw [P7 ct,<-dB (f:=cF)];exact aaS _ _ hl
include hc in
theorem rJ1(k:Int):bK T3 [bE k,K0 p lf,ah (bf ro),.ab 0 cn] (0,ak (DX k)::fR p ro lf cn):=by
 refine bW aqR ?_;rw [hc];refine aw (c:=k==11) (λh=>af ?_) λh=>af ?_
 ·exact Qo
 ·exact Qo
include hc in
theorem rJ2(k:Int):bK T0 [bE k,K0 p lf,ah (bf ro),.ab 0 cn] (0,ak (Du k)::fR p ro lf cn):=by
 refine bW aqH ?_;rw [hc];refine aw (c:=k==12) (λh=>af ?_) λh=>af ?_
 ·exact Qs
 ·exact Qs
theorem abh(k:Int):bK Uc [bE k] (0,[ak (DX k)]):=
 bW ard (aw (λh=>af (Qo)) λh=>af (Qo))
theorem abg(k:Int):bK T6 [bE k] (0,[ak (Du k)]):=
 bW aq0 (aw (λh=>af (Qs)) λh=>af (Qs))
def qV(p:PG)(ro:List RO)(w:WH)(o:Int):Bool:=bif jw p.bu o 0 then bif (cQ p.bu o).ptr then false else bif (cQ p.bu o).size != 1 then false else bif iO ro w o then !dN w.loops o else false else false
include ct hw hc in
theorem aM8:bK T7 [K0 p lf,ah (bf ro),.ab 0 cn,J (bB 0 w),SF f L D H A]
 (bif qV p ro w f.O then(0,[K0 p lf,ah (bf ro),.ab 0 cn,J (bB 0 w),SF f L D H A])else(1,[aq,K0 p lf,ah (bf ro),.ab 0 cn,J (bB 0 w),SF f L D H A])):=by
 refine bW aq1 ?_;rw [hc];refine aj (QW (l:=p.bu) (en:= -1) (o:=f.O) (off:=0)) (aw (c:= !jw p.bu f.O 0) (λh=>af ?_) λh=> ?_)
 ·simp only [dX]at h;unfold qV;rw [h];rfl
 ·simp only [dL]at h;have ho:=JF h;have fv:ib f.O (cb p.bu).length =true:=by rw [py];exact ho
  refine aH fv ?_;erw [mj ho];refine aw (c:=(cQ p.bu f.O).ptr) (λg=>af (by unfold qV;rw [h,g];rfl)) λg=>aH fv (aw (c:=(cQ p.bu f.O).size != 1) (λi=>af (by unfold qV;rw [h,g,i];rfl)) λi=>aj (KX hw hc (by rw [ct.len];exact ho)) ?_);erw [hc];refine aw (c:= !iO ro w f.O) (λj=>af ?_) λj=>aj (u9 (l:=w.loops) f.O (QK)) (aw (c:=dN w.loops f.O) (λk=>af ?_) λk=>af ?_)
  ·simp only [dX]at j;unfold qV;rw [h,g,i,j];rfl
  ·exact aiI
  ·exact aiI
include ct hw in
theorem aFF:bK Uk [bI p ts ro w,SF f L D H A] (bif qV p ro w f.O then(0,[bI p ts ro w,SF f L D H A])else(1,[aq,bI p ts ro w,SF f L D H A])):=by
 refine bW arA ?_;refine aw (c:=decide (f.O<0)) (λh=>af ?_) λh=>aw (c:=decide (ln (cb p.bu)<=f.O)) (λh2=>af ?_) λh2=> ?_
 ·have:jw p.bu f.O 0=false:=by
   unfold jw;have:decide (0<=f.O)=false:=by simp at h⊢;omega
   exact fa
  unfold qV;rw [this];rfl
 ·rw [dB]at h2;have:jw p.bu f.O 0=false:=by
   unfold jw;have:decide (f.O<(p.bu.length:Int))=false:=by simp at h2⊢;omega
   rw [this];cases decide (0<=f.O)<;>rfl
  unfold qV;rw [this];rfl
 ·rw [dB]at h2;have ho:ib f.O p.bu.length=true:=by simp at h h2;exact jv.2 ⟨h,h2⟩
  have fv:ib f.O (cb p.bu).length =true:=by rw [py];exact ho
  refine aH fv ?_;erw [mj ho];have hs:jw p.bu f.O 0=decide (0<(cQ p.bu f.O).size):=by
   unfold jw;have a:decide (0<=f.O)=true:=by simpa using(jv.1 ho).1
   have b:decide (f.O<(p.bu.length:Int))=true:=by simpa using(jv.1 ho).2
   exact oM
  have ir:((cQ p.bu f.O).size != 1)=false->jw p.bu f.O 0=true:=λi=>by rw [hs];simp at i⊢;omega
  refine aw (c:=(cQ p.bu f.O).ptr) (λg=>af ?_) λg=>aH fv (aw (c:=(cQ p.bu f.O).size != 1) (λi=>af ?_) λi=>aj (Si hw (by rw [ct.len];exact ho)) (aw (c:= !iO ro w f.O) (λj=>af ?_) λj=>aj (uL (l:=w.loops) f.O (QK)) (aw (c:=dN w.loops f.O) (λk=>af ?_) λk=>af ?_)))
  ·unfold qV;rw [g];cases jw p.bu f.O 0<;>rfl
  ·unfold qV;rw [g,i];cases jw p.bu f.O 0<;>rfl
  ·simp only [dX]at j;unfold qV;rw [ir i,g,i,j];rfl
  ·exact ai0
  ·exact ai0
def A1(f:dk)(Ls:List CS):Bool:=bif f.kind==16||f.kind==17 then !(f.mode==0)||DG Ls else true
theorem pH{Ls:List CS}(h:(f.kind==16||f.kind==17)=false)(b:Bool):b=(b&&A1 f Ls):=by unfold A1;rw [h];simp
include ct hw hi hc hE in
theorem aiw(hf:f.Ok){Ls0:List CS}{D0 H0 A0:aW}(hs0:sg f (Ls0.map encS) D0 H0 A0=true):∃b0,∀{Ls:List CS} {D H A:aW},ln (Ls.map encS)=v7 f.kind (ln (Ls.map encS))->∃b,b=(b0&&A1 f Ls)∧
 Ev Im [J (bB 0 w),SF f (Ls.map encS) D H A,K0 p lf,ah (bf ro),.ab 0 cn] (0,ak b::fR p ro lf cn)∧
 Ev uY [bI p ts ro w,SF f (Ls.map encS) D H A] (0,[ak b]):=by
 obtain⟨fg,fY,_⟩:=PU f (Ls0.map encS) D0 H0 A0 hs0;have kk:∀{k:Int},(f.kind==k)=true->f.kind=k:=λh=>eq_of_beq h;cases h2:f.kind==2 with
 |true=>
  have ek:=kk h2;rw [ek]at fg fY;obtain⟨e,he⟩:=vB (show ln (f.E.map aP)=1 from fg);obtain⟨q,hq⟩:=vB (show ln (f.To.map c5)=1 from fY);obtain⟨l,b1,b,s1,s2,s3⟩:=aG0 ct hw hc (lf:=lf) hE (hf.To.2 q (Qd)) (hf.E.2 e (yq)) hq he;have oa:decide (0<ln (f.E.map aP))=true:=CI;have sy:decide (0<ln (f.To.map c5))=true:=by rw [hq];rfl
  rw [<-ZX q,<-hq]at s1;rw [<-wY e,<-he]at s2;refine⟨b1&&b,λ{Ls D H A} _=>⟨_,pH (rT) _,bx uW ?_,bx sE (br h2<|aj s3 aL)⟩⟩;rw [hc];refine br h2<|aH sy (aj s1 ?_);erw [hc];cases b1 with
  |false=>exact gr
  |true=>
   refine aY (aH oa (aj (s2 rfl) (af ?_)));exact ju
 |false=>
 cases h4:f.kind==4 with
 |true=>
  have ek:=kk h4;rw [ek]at fg fY;obtain⟨e,he⟩:=vB (show ln (f.E.map aP)=1 from fg);obtain⟨b,s1,s2⟩:=Ru ct hw hc (lf:=lf) hE e (hf.E.2 e (yq));have oa:decide (0<ln (f.E.map aP))=true:=CI;rw [<-wY e,<-he]at s1 s2;refine⟨b,λ{Ls D H A} _=>⟨_,pH (rT) _,bx uW ?_,bx sE (ax h2<|br h4<|aH oa (aj s2 aL))⟩⟩;rw [hc];refine ax h2<|br h4<|aH oa (aj s1 (af ?_));exact ju
 |false=>
 cases h5:f.kind==5 with
 |true=>
  have ek:=kk h5;rw [ek]at fg fY;obtain⟨e,he⟩:=vB (show ln (f.E.map aP)=1 from fg);obtain⟨b,s1,s2⟩:=Ru ct hw hc (lf:=lf) hE e (hf.E.2 e (yq));have oa:decide (0<ln (f.E.map aP))=true:=CI;rw [<-wY e,<-he]at s1 s2;refine⟨b,λ{Ls D H A} _=>⟨_,pH (rT) _,bx uW ?_,bx sE (ax h2<|ax h4<|br h5<|aH oa (aj s2 aL))⟩⟩;rw [hc];refine ax h2<|ax h4<|br h5<|aH oa (aj s1 (af ?_));exact ju
 |false=>
 cases h6:f.kind==6 with
 |true=>
  have ek:=kk h6;rw [ek]at fg fY;obtain⟨e,e1,he⟩:=aFl (show ln (f.E.map aP)=2 from fg);have o1:=hf.E.2 e (yq);have o2:=hf.E.2 e1 (yq);obtain⟨b,s1,s2⟩:=Sa ct hw hc (lf:=lf) hE e o1;obtain⟨c,u1,u2⟩:=Sa ct hw hc (lf:=lf) hE e1 o2;have jc:=λ{L D H A:aW}=>aM8 (f:=f) (L:=L) (D:=D) (H:=H) (A:=A) ct hw hc (lf:=lf);have jr:=λ{L D H A:aW}=>aFF (f:=f) (L:=L) (D:=D) (H:=H) (A:=A) ct hw;have oa:decide (0<ln (f.E.map aP))=true:=CI;have SK:decide (1<ln (f.E.map aP))=true:=CI;cases nY:qV p ro w f.O with
  |false=>
   rw [nY]at jc jr;refine⟨false,λ{Ls D H A} _=>⟨_,pH (rT) _,bx uW ?_,bx sE (ax h2<|ax h4<|ax h5<|br h6<|aj jr (bj aL))⟩⟩;rw [hc];refine ax h2<|ax h4<|ax h5<|br h6<|aj jc (bj (af ?_));exact ju
  |true=>
   rw [nY]at jc jr;have ho:ib f.O p.bu.length=true:=by
    unfold qV at nY;cases hs:jw p.bu f.O 0 with
    |true=>exact JF hs
    |false=>rw [hs]at nY;cases nY
   obtain⟨x,y,v,g1,g2,g3⟩:=GA ct hw hc (lf:=lf) hE e o1;obtain⟨x1,y1,v1,i1,i2,i3⟩:=GA ct hw hc (lf:=lf) hE e1 o2;have hof:∀z∈ [f.O],ib z p.bu.length=true:=λz hz=>by simp at hz;subst hz;exact ho
   have f1:=SB ct hc g1 (λh=>(g3 h).l) (one_le f.O) hof;have f2:=SB ct hc i1 (λh=>(i3 h).l) (one_le f.O) hof;have r1:=SA ct g2 (λh=>(g3 h).r) ho;have r2:=SA ct i2 (λh=>(i3 h).r) ho;have q1:fitAll p x v [f.O]=(v&&iW y (cQ p.bu f.O)):=by unfold fitAll;cases v with|false=>rfl|true=>{have D9:∀o,iW x o=iW y o:=λo=>(g3 rfl).rel.iW o;simp [D9]}
   have q2:fitAll p x1 v1 [f.O]=(v1&&iW y1 (cQ p.bu f.O)):=by unfold fitAll;cases v1 with|false=>rfl|true=>{have D9:∀o,iW x1 o=iW y1 o:=λo=>(i3 rfl).rel.iW o;simp [D9]}
   rw [<-q1]at r1;rw [<-q2]at r2;generalize fitAll p x v [f.O]=m1 at f1 r1;generalize fitAll p x1 v1 [f.O]=m2 at f2 r2;rw [<-aDQ e e1,<-he]at s1 s2 f1 r1;rw [<-aDP e e1,<-he]at u1 u2 f2 r2;refine⟨b&&(c&&(m1&&m2)),λ{Ls D H A} _=>⟨_,pH (rT) _,bx uW ?_,bx sE (ax h2<|ax h4<|ax h5<|br h6<|aj jr (aY (aH oa (aj s2 ?_))))⟩⟩
   ·rw [hc];refine ax h2<|ax h4<|ax h5<|br h6<|aj jc (aY (aH oa ?_));erw [hc];refine aj s1 ?_;erw [hc];cases b with
    |false=>exact gr
    |true=>
     refine aY (aH SK (aj u1 ?_));erw [hc];cases c with
     |false=>exact gr
     |true=>
      refine aY (aH oa (aj f1 ?_));erw [hc];cases m1 with
      |false=>exact gr
      |true=>
       refine aY (aH SK (aj f2 (af ?_)));exact ju
   ·cases b with
    |false=>exact gr
    |true=>
     refine aY (aH SK (aj u2 ?_));cases c with
     |false=>exact gr
     |true=>
      refine aY (aH oa (aj r1 ?_));cases m1 with
      |false=>exact gr
      |true=>exact aY (aH SK (aj r2 aL))
 |false=>
 cases h7:f.kind==7 with
 |true=>
  have ek:=kk h7;rw [ek]at fg fY;refine⟨bif decide (1<=f.N)then bif decide (f.N<=8192)then !dN w.ll f.N else false else false,λ{Ls D H A} _=>⟨_,pH (rT) _,bx uW ?_,bx sE ?_⟩⟩
  ·rw [hc];refine ax h2<|ax h4<|ax h5<|ax h6<|br h7<|aw (c:=decide (1<=f.N)) (λa=>aw (c:=decide (f.N<=8192)) (λb=>aj (u9 (l:=w.ll) f.N (aiG)) (af ?_)) λb=>af ?_) λa=>af ?_
   ·exact oM
   ·exact oM
   ·exact sO
  ·refine ax h2<|ax h4<|ax h5<|ax h6<|br h7<|aw (c:=decide (1<=f.N)) (λa=>aw (c:=decide (f.N<=8192)) (λb=>aj (uL (l:=w.ll) f.N (aiG)) (af ?_)) λb=>af ?_) λa=>af ?_
   ·exact oM
   ·exact oM
   ·exact sO
 |false=>
 cases h8:f.kind==8 with
 |true=>
  have ek:=kk h8;rw [ek]at fg fY;refine⟨dN w.marks f.N,λ{Ls D H A} _=>⟨_,pH (rT) _,bx uW ?_,bx sE (ax h2<|ax h4<|ax h5<|ax h6<|ax h7<|br h8<|aj (uL (l:=w.marks) f.N (by have:=hw.marks;simp only [mx];omega)) aL)⟩⟩;rw [hc];exact ax h2<|ax h4<|ax h5<|ax h6<|ax h7<|br h8<|aj (u9 (l:=w.marks) f.N (by have:=hw.marks;simp only [mx];omega)) aL
 |false=>
 cases jd:f.kind==10 with
 |true=>
  have ek:=kk jd;rw [ek]at fg fY;refine⟨bif f.N==0 then(w.wO||(bif decide (1<=f.N)then decide (f.N<=p.eL)else false))else(bif decide (1<=f.N)then decide (f.N<=p.eL)else false),λ{Ls D H A} _=>⟨_,pH (rT) _,bx uW ?_,bx sE ?_⟩⟩
  ·rw [hc];refine ax h2<|ax h4<|ax h5<|ax h6<|ax h7<|ax h8<|br jd<|aw (c:=f.N==0) (λa=>aw (c:=w.wO) (λb=>af ?_) λb=>aw (c:=decide (1<=f.N)) (λc=>af ?_) λc=>af ?_) λa=>aw (c:=decide (1<=f.N)) (λc=>af ?_) λc=>af ?_
   ·exact oM
   ·exact wS
   ·exact wS
   ·rw [a,c];rfl
   ·rw [a,c];rfl
  ·refine ax h2<|ax h4<|ax h5<|ax h6<|ax h7<|ax h8<|br jd<|aw (c:=decide (1<=f.N)) (λc=>aw (c:=decide (f.N<=p.eL)) (λd=>af ?_) λd=>aw (c:=f.N==0) (λa=>af ?_) λa=>af ?_) λc=>aw (c:=f.N==0) (λa=>af ?_) λa=>af ?_
   ·rw [c,d];cases f.N==0<;>simp
   ·rw [a,c,d];simp;rfl
   ·rw [a,c,d];rfl
   ·rw [a,c];simp;rfl
   ·rw [a,c];rfl
 |false=>
 have j1:=rJ1 (p:=p) (ro:=ro) hc (lf:=lf) f.kind;have j2:=rJ2 (p:=p) (ro:=ro) hc (lf:=lf) f.kind;have LI:=abh f.kind;have Td:=abg f.kind;cases Tz:DX f.kind with
 |true=>
  rw [Tz]at j1 LI;have le:ln (f.E.map aP)=1:=by rcases ak3 Tz with h|h<;>rw [h]at fg<;>exact fg
  obtain⟨e,he⟩:=vB le;obtain⟨b,s1,s2⟩:=Sa ct hw hc (lf:=lf) hE e (hf.E.2 e (yq));have oa:decide (0<ln (f.E.map aP))=true:=CI;rw [<-wY e,<-he]at s1 s2;refine⟨b,λ{Ls D H A} _=>⟨_,pH (by rcases ak3 Tz with h|h<;>rw [h]<;>rfl) _,bx uW ?_,bx sE (ax h2<|ax h4<|ax h5<|ax h6<|ax h7<|ax h8<|ax jd<|aj LI (aY (aH oa (aj s2 aL))))⟩⟩;rw [hc];refine ax h2<|ax h4<|ax h5<|ax h6<|ax h7<|ax h8<|ax jd<|aj j1 (aY (aH oa ?_));erw [hc];refine aj s1 (af ?_);exact ju
 |false=>
 rw [Tz]at j1 LI;cases Ty:Du f.kind with
 |true=>
  rw [Ty]at j2 Td;have le:ln (f.To.map c5)=1:=by rcases ah5 Ty with h|h<;>rw [h]at fY<;>exact fY
  obtain⟨q,hq⟩:=vB le;obtain⟨b,s1,s2⟩:=alA ct hw hc (lf:=lf) hE (hf.To.2 q (Qd));have sy:decide (0<ln (f.To.map c5))=true:=by rw [hq];rfl
  rw [<-ZX q,<-hq]at s1 s2;refine⟨b,λ{Ls D H A} _=>⟨_,pH (by rcases ah5 Ty with h|h<;>rw [h]<;>rfl) _,bx uW ?_,bx sE (ax h2<|ax h4<|ax h5<|ax h6<|ax h7<|ax h8<|ax jd<|aj LI (bj (aj Td (aY (aH sy (aj s2 aL))))))⟩⟩;rw [hc];refine ax h2<|ax h4<|ax h5<|ax h6<|ax h7<|ax h8<|ax jd<|aj j1 (bj ?_);erw [hc];refine aj j2 (aY (aH sy ?_));erw [hc];refine aj s1 (af ?_);exact ju
 |false=>
 rw [Ty]at j2 Td;have C:∀{Ls:List CS} {D H A:aW} (r:UO),_->Ev Im [J (bB 0 w),SF f (Ls.map encS) D H A,K0 p lf,ah (bf ro),.ab 0 cn] r:=λ{Ls D H A} r h=>by
  refine bx uW ?_;rw [hc];refine ax h2<|ax h4<|ax h5<|ax h6<|ax h7<|ax h8<|ax jd<|aj j1 (bj ?_);erw [hc];refine aj j2 (bj ?_);exact Ga
 have R:∀{Ls:List CS} {D H A:aW} (r:UO),_->Ev uY [bI p ts ro w,SF f (Ls.map encS) D H A] r:=λ{Ls D H A} r h=>by
  refine bx sE (ax h2<|ax h4<|ax h5<|ax h6<|ax h7<|ax h8<|ax jd<|aj LI (bj (aj Td (bj ?_))));exact h
 cases kp:f.kind==14 with
 |true=>
  have ek:=kk kp;rw [ek]at fg fY;obtain⟨q,hq⟩:=vB (show ln (f.To.map c5)=1 from fY);obtain⟨b,s1,s2⟩:=alA ct hw hc (lf:=lf) hE (hf.To.2 q (Qd));have sy:decide (0<ln (f.To.map c5))=true:=by rw [hq];rfl
  rw [<-ZX q,<-hq]at s1 s2;cases hIn:f.In with
  |true=>
   refine⟨b&&(dN w.gY f.P&&qS p f.P f.entry),λ{Ls D H A} _=>⟨_,pH (rT) _,C _ (br kp<|br hIn (aH sy (aj s1 ?_))),R _ (br kp<|br hIn (aH sy (aj s2 ?_)))⟩⟩
   ·erw [hc];cases b with
    |false=>exact gr
    |true=>
     refine aY (aj (u9 (l:=w.gY) f.P (Gu)) (aw (c:=dN w.gY f.P) (λg=>aj (amw (lf:=lf) hc f.P f.entry) (af ?_)) λg=>af ?_))
     ·erw [hc];rw [g];rfl
     ·rw [g];rfl
   ·cases b with
    |false=>exact gr
    |true=>
     refine aY (aj (uL (l:=w.gY) f.P (Gu)) (aw (c:=dN w.gY f.P) (λg=> ?_) λg=>af (by rw [g];rfl)));have hp:=hi.act f.P (Cz.1 g);have a0:decide (0<=f.P)=true:=by simpa using(jv.1 hp).1
     have a1:decide (f.P<(p.dw.length:Int))=true:=by simpa using(jv.1 hp).2
     refine aw (c:=decide (0<=f.entry)) (λi=>aH (Rh) (af ?_)) λi=>af ?_
     ·show(0,[ak (decide (f.entry<ln (gR (gA (p.dw.map fA) f.P.toNat) 2)))])=_;rw [KA hp];show(0,[ak (decide (f.entry<ln ((Dp p.dw f.P).bars.map aP)))])=_;rw [dB,g];unfold qS;rw [a0,a1,i];rfl
     ·rw [g];unfold qS;rw [a0,a1,i];rfl
  |false=>
   refine⟨b&&jx p w.task f.entry,λ{Ls D H A} _=>⟨_,pH (rT) _,C _ (br kp<|ax hIn (aH sy (aj s1 ?_))),R _ (br kp<|ax hIn (aH sy (aj s2 ?_)))⟩⟩
   ·erw [hc];cases b with
    |false=>exact gr
    |true=>
     refine aY (aj (SJ (lf:=lf) hc w.task f.entry) (af ?_));exact ju
   ·cases b with
    |false=>exact gr
    |true=>exact aY (aj (SH ct w.task f.entry) aL)
 |false=>
 cases iL:f.kind==16 with
 |true=>
  have ek:=kk iL;rw [ek]at fg fY;obtain⟨wb,LM⟩:=YY ct hw hc (lf:=lf) hE hf (n:=2) (by omega) (by omega);obtain⟨c,eJ⟩:=aGF ct hw hc (lf:=lf) hE hf;refine⟨wb&&c,λ{Ls D H A} rA=> ?_⟩;rw [ek]at rA;have hL:Ls.length=2:=by have:ln (Ls.map encS)=2:=rA;rw [dB]at this;omega
  obtain⟨b,hb,s1,s2⟩:=LM (D:=D) (H:=H) (A:=A) hL;obtain⟨u1,u2⟩:=eJ (L:=Ls.map encS) (D:=D) (H:=H) (A:=A);refine⟨b&&c,by rw [hb];unfold A1;rw [iL];cases wb<;>cases c<;>simp,C _ (ax kp<|br iL<|aj s1 ?_),R _ (ax kp<|br iL<|aj s2 ?_)⟩
  ·erw [hc];cases b with
   |false=>exact gr
   |true=>
    refine aY (aj u1 (af ?_));exact ju
  ·cases b with
   |false=>exact gr
   |true=>exact aY (aj u2 aL)
 |false=>
 cases lY:f.kind==17 with
 |true=>
  have ek:=kk lY;rw [ek]at fg fY;obtain⟨wb,LM⟩:=YY ct hw hc (lf:=lf) hE hf (n:=3) (by omega) (by omega);refine⟨wb&&qS p f.P f.entry,λ{Ls D H A} rA=> ?_⟩;rw [ek]at rA;have hL:Ls.length=3:=ajJ;obtain⟨b,hb,s1,s2⟩:=LM (D:=D) (H:=H) (A:=A) hL;refine⟨b&&qS p f.P f.entry,by rw [hb];unfold A1;rw [lY];cases wb<;>cases qS p f.P f.entry<;>simp,C _ (ax kp<|ax iL<|br lY<|aj s1 ?_),R _ (ax kp<|ax iL<|br lY<|aj s2 ?_)⟩
  ·erw [hc];cases b with
   |false=>exact gr
   |true=>
    refine aY (aj (amw (lf:=lf) hc f.P f.entry) (af ?_));exact ju
  ·cases b with
   |false=>exact gr
   |true=>
    refine aY (aw (c:=decide (0<=f.P)) (λa0=>aw (c:=decide (f.P<ln (p.dw.map fA))) (λa1=>aw (c:=decide (0<=f.entry)) (λi=> ?_) λi=>af ?_) λa1=>af ?_) λa0=>af ?_)
    ·rw [dB]at a1;have hp:=sW a0 a1;refine aH (Rh) (af ?_);show(0,[ak (decide (f.entry<ln (gR (gA (p.dw.map fA) f.P.toNat) 2)))])=_;rw [KA hp];show(0,[ak (decide (f.entry<ln ((Dp p.dw f.P).bars.map aP)))])=_;rw [dB];unfold qS;rw [a0,a1,i];rfl
    ·rw [dB]at a1;unfold qS;rw [a0,a1,i];rfl
    ·rw [dB]at a1;unfold qS;rw [a0,a1];rfl
    ·unfold qS;rw [a0];rfl
 |false=>
 cases mR:f.kind==18 with
 |true=>
  have ek:=kk mR;rw [ek]at fg fY;refine⟨tc p w f.entry,λ{Ls D H A} _=>⟨_,pH (rT) _,C _ (ax kp<|ax iL<|ax lY<|br mR<|aj (aop (lf:=lf) hw hc f.entry) (af ?_)),R _ (ax kp<|ax iL<|ax lY<|br mR<|aj (abj ct hw f.entry) aL)⟩⟩;exact ju
 |false=>
 cases mA:f.kind==20 with
 |true=>
  have ek:=kk mA;rw [ek]at fg fY;refine⟨bif decide (0<=f.P)then bif decide (f.P<(p.dw.length:Int))then bif !dN w.gY f.P then bif ln (ints w.gY)==0 then true else(ln ((Dp p.dw f.P).bars.map aP)==0)else false else false else false,λ{Ls D H A} _=>⟨_,pH (rT) _,C _ (ax kp<|ax iL<|ax lY<|ax mR<|br mA<|aw (c:=decide (0<=f.P)) (λa0=>aw (c:=decide (f.P<ln (p.dw.map fA))) (λa1=>aj (u9 (l:=w.gY) f.P (Gu)) (aw (c:= !dN w.gY f.P) (λg=>aw (c:=ln (ints w.gY)==0) (λi=>af ?_) λi=> ?_) λg=>af ?_)) λa1=>af ?_) λa0=>af ?_),R _ (ax kp<|ax iL<|ax lY<|ax mR<|br mA<|aw (c:=decide (0<=f.P)) (λa0=>aw (c:=decide (f.P<ln (p.dw.map fA))) (λa1=>aj (uL (l:=w.gY) f.P (Gu)) (aw (c:= !dN w.gY f.P) (λg=>aw (c:=ln (ints w.gY)==0) (λi=>af ?_) λi=> ?_) λg=>af ?_)) λa1=>af ?_) λa0=>af ?_)⟩⟩
  ·rw [dB]at a1;rw [a0,a1,g,i];rfl
  ·rw [dB]at a1;have hp:=sW a0 a1;refine aH (Rh) (af ?_);show(0,[ak (ln (gR (gA (p.dw.map fA) f.P.toNat) 2)==0),_,_,_])=_;rw [KA hp,a0,a1,g,i];rfl
  ·rw [dB]at a1;rw [a0,a1,g];rfl
  ·rw [dB]at a1;rw [a0,a1];rfl
  ·rw [a0];rfl
  ·rw [dB]at a1;rw [a0,a1,g,i];rfl
  ·rw [dB]at a1;have hp:=sW a0 a1;refine aH (Rh) (af ?_);show(0,[ak (ln (gR (gA (p.dw.map fA) f.P.toNat) 2)==0)])=_;rw [KA hp,a0,a1,g,i];rfl
  ·rw [dB]at a1;rw [a0,a1,g];rfl
  ·rw [dB]at a1;rw [a0,a1];rfl
  ·rw [a0];rfl
 |false=>
 cases rF:f.kind==21 with
 |true=>
  have ek:=kk rF;rw [ek]at fg fY;obtain⟨b,hm⟩:=aNE ct hi hc (lf:=lf) (f:=f);refine⟨b,λ{Ls D H A} _=>⟨_,pH (rT) _,C _ (ax kp<|ax iL<|ax lY<|ax mR<|ax mA<|br rF<|aj hm.1 (af ?_)),R _ (ax kp<|ax iL<|ax lY<|ax mR<|ax mA<|br rF<|aj hm.2 aL)⟩⟩;exact ju
 |false=>
 cases oZ:f.kind==22 with
 |true=>
  have ek:=kk oZ;rw [ek]at fg fY;refine⟨bif decide (1<=ln (ints f.Ts))then bif decide (ln (ints f.Ts)<=32)then jO f.Ts 1 (bw (ln (p.tasks.map cF)- 1))else false else false,λ{Ls D H A} _=>⟨_,pH (rT) _,C _ (ax kp<|ax iL<|ax lY<|ax mR<|ax mA<|ax rF<|br oZ<|aw (c:=decide (1<=ln (ints f.Ts))) (λa=>aw (c:=decide (ln (ints f.Ts)<=32)) (λb=>aj (aaT 1 (bw (ln (p.tasks.map cF)- 1)) hf.Ts) (af ?_)) λb=>af ?_) λa=>af ?_),R _ (ax kp<|ax iL<|ax lY<|ax mR<|ax mA<|ax rF<|br oZ<|aw (c:=decide (1<=ln (ints f.Ts))) (λa=>aw (c:=decide (ln (ints f.Ts)<=32)) (λb=>aj (amK ct 1 hf.Ts) (af ?_)) λb=>af ?_) λa=>af ?_)⟩⟩
  ·exact oM
  ·exact oM
  ·exact sO
  ·exact oM
  ·exact oM
  ·exact sO
 |false=>
 exact⟨true,λ{Ls D H A} _=>⟨_,pH (by rw [iL,lY];rfl) _,C _ (ax kp<|ax iL<|ax lY<|ax mR<|ax mA<|ax rF<|ax oZ<|aL),R _ (ax kp<|ax iL<|ax lY<|ax mR<|ax mA<|ax rF<|ax oZ<|aL)⟩⟩
end
end
end Go.Proofs.YtomkobcipaligaaGreatDoor
namespace Go.aA
def Zs{p:Prop}(h:p:=by rw [mE,ey];simp;omega):p:=h
def Qu{p:Prop}(h:p:=by rw [fW h];rfl):p:=h
end Go.aA
namespace Go.Proofs.YtomkobcipaligaaGreatDoor
open Go Go.aA
section
variable{b:Bool}{l1 l2:Int}{i k m n:Nat}{P Q R:Prop}
def ig(w:WH):WH:={w with marks:=[],wO:=false,k8:= -1}
def vN(w:WH)(e:Int):WH:={ig w with lg:=w.lg++[e],k8:=e}
def AW(w:WH)(q:Int):WH:={ig w with gY:=w.gY++[q]}
theorem Cb(l:cW)(e:Int):ints (l++[e])=ints l++[[iI e]]:=oi
abbrev RY(p:PG)(ts:List TK)(ro:List RO)(w:WH):bl:=[bJ (cb p.bu),iI p.eL,fZ (ts.map cF),od (p.dw.map fA),cG (bf ro),iI w.task,aa (ints w.marks),aa (ints w.ll),aa (ints w.lg),aa (ints w.gY),aa (ints w.loops),ak w.ji,ak w.hY,ak w.wO,iI w.k8,iI w.deep]
section
variable {p:PG} {ts:List TK} {ro:List RO} {w:WH} (hw:w.Ok) {cn:aW} (hc:az (au cn)=cn) {lf:Int}
theorem Kn{l:cW}(e:Int)(hl:l.length<=1000):Ev B8 [aa (ints l),iI e] (0,[aa (ints (l++[e]))]):=by
 refine bx aAZ (aj (aE8 (ints l) (by rw [ey];omega)) (aH ?_ (af ?_)))
 ·show decide (((ints l).length +1)*8<=140737488355328)=true;exact w9
 ·rw [Cb];rfl
include hc in
theorem Sn:Ev EG [J (bB 0 w),K0 p lf,ah (bf ro),.ab 0 cn] (0,J (bB 0 (ig w))::fR p ro lf cn):=by
 refine bx aul (af ?_);exact yo
theorem Sm:Ev EW [bI p ts ro w] (0,[bI p ts ro (ig w)]):=bx axA aL
include hw hc in
theorem apw(e:Int):Ev MK [J (bB 0 w),iI e,K0 p lf,ah (bf ro),.ab 0 cn] (0,[J (sT (bB 0 (vN w e)) G7),K0 p lf,ah (bf ro),.ab 0 cn,aa (ints (w.lg++[e]))]):=by
 refine bx arI ?_;rw [hc];refine aj (Sn (lf:=lf) hc) (aj (Kn (l:=w.lg) e hw.lg) (af ?_));exact ju
include hw hc in
theorem apu(q:Int):Ev M5 [J (bB 0 w),iI q,K0 p lf,ah (bf ro),.ab 0 cn] (0,[J (sT (bB 0 (AW w q)) aGB),K0 p lf,ah (bf ro),.ab 0 cn,aa (ints (w.gY++[q]))]):=by
 refine bx atC ?_;rw [hc];refine aj (Sn (lf:=lf) hc) (aj (Kn (l:=w.gY) q hw.gY) (af ?_));exact ju
include hw in
theorem apv(e:Int):Ev M4 [bI p ts ro w,iI e] (0,[J (sT (RY p ts ro (vN w e)) aGA),aa (ints (w.lg++[e]))]):=by
 have:=hw.lg;refine bx atw (aj Sm (aH ?_ (aH ?_ (af ?_))))
 ·show decide ((0+(ints w.lg).length)*8<=140737488355328)=true;exact w9
 ·show decide ((([]++ints w.lg).length +1)*8<=140737488355328)=true;exact Zs
 ·rw [Cb];rfl
include hw in
theorem aOZ(q:Int):Ev VO [bI p ts ro w,iI q] (0,[J (sT (RY p ts ro (AW w q)) apq),aa (ints (w.gY++[q]))]):=by
 have:=hw.gY;refine bx awm (aj Sm (aH ?_ (aH ?_ (af ?_))))
 ·show decide ((0+(ints w.gY).length)*8<=140737488355328)=true;exact w9
 ·show decide ((([]++ints w.gY).length +1)*8<=140737488355328)=true;exact Zs
 ·rw [Cb];rfl
end
structure WI(p:PG)(w:WH):Prop where
 dN:w.In p
 l1:(w.marks.length:Int)<=w.deep
 l2:(w.ll.length:Int)<=w.deep
 l3:(w.lg.length:Int)<=w.deep
 l4:(w.gY.length:Int)<=w.deep
 l5:(w.loops.length:Int)<=w.deep
 d:w.deep<=64
theorem WI.ok{p:PG}{w:WH}(h:WI p w):w.Ok:=by
 obtain⟨_,h1,h2,h3,h4,h5,d⟩:=h;exact⟨by omega,by omega,by omega,by omega,by omega⟩
mutual
def jW:CS->Int->Nat
 | .mk f l d h a,t=>(if f.kind=9 then f.Ts.count t else 0)+(qO d t+(ij l t+(qN h t+qP a t)))
def ij:List CS->Int->Nat
 | [],_=>0
 |s::ss,t=>jW s t+ij ss t
def abl:CD->Int->Nat
 | .mk d u,t=>jW d t+jW u t
def qO:List CD->Int->Nat
 | [],_=>0
 |s::ss,t=>abl s t+qO ss t
def abk:CH->Int->Nat
 | .mk _ b,t=>jW b t
def qN:List CH->Int->Nat
 | [],_=>0
 |s::ss,t=>abk s t+qN ss t
def abm:CA->Int->Nat
 | .mk _ _ _ _ b a,t=>jW b t+jW a t
def qP:List CA->Int->Nat
 | [],_=>0
 |s::ss,t=>abm s t+qP ss t
end
structure ST(p:PG)(lf:Int)(cn:aW)(c:Int->Nat):Prop where
 pk:az (au cn)=cn
 rep:∀t,dR (au cn) (iI t)=if c t=0 then none else some (iI (c t:Int))
 le:∀t,(c t:Int)<=8192- lf
 lo:0<=lf
 hi:lf<=8192
 jz:∀t,c t≠0->1<=t∧t<(p.tasks.length:Int)
theorem ST.ext{p:PG}{lf:Int}{cn:aW}{c d:Int->Nat}(h:ST p lf cn c)(e:∀t,c t=d t):ST p lf cn d:=by
 have:c=d:=funext e;exact this▸h
theorem ahU(s:CS)(t:Int):jW s t=(if s.f.kind=9 then s.f.Ts.count t else 0)+(qO s.D t+(ij s.L t+(qN s.H t+qP s.A t))):=ui
theorem ahW(s:CD)(t:Int):abl s t=jW s.d t+jW s.u t:=ui
theorem ahV(s:CH)(t:Int):abk s t=jW s.body t:=ui
theorem ahX(s:CA)(t:Int):abm s t=jW s.body t+jW s.after t:=ui
mutual
def ez:CS->List CS
 | .mk f l d h a=> .mk f l d h a::(iN d++(gp l++(j8 h++kc a)))
def gp:List CS->List CS
 | []=>[]
 |s::ss=>ez s++gp ss
def iN:List CD->List CS
 | []=>[]
 |s::ss=>AJ s++iN ss
def AJ:CD->List CS
 | .mk d u=>ez d++ez u
def j8:List CH->List CS
 | []=>[]
 |s::ss=>yP s++j8 ss
def yP:CH->List CS
 | .mk _ b=>ez b
def kc:List CA->List CS
 | []=>[]
 |s::ss=>AK s++kc ss
def AK:CA->List CS
 | .mk _ _ _ _ b a=>ez b++ez a
end
theorem FP(s:CS):ez s=s::(iN s.D++(gp s.L++(j8 s.H++kc s.A))):=ui
theorem YI(s:CD):AJ s=ez s.d++ez s.u:=ui
theorem YH(s:CH):yP s=ez s.body:=ui
theorem YJ(s:CA):AK s=ez s.body++ez s.after:=ui
theorem Xs{l:List CS}(h:i<l.length):gp (l.drop i)=ez l[i]++gp (l.drop (i+1)):=Qu
theorem aBh{l:List CD}(h:i<l.length):iN (l.drop i)=AJ l[i]++iN (l.drop (i+1)):=Qu
theorem aBg{l:List CH}(h:i<l.length):j8 (l.drop i)=yP l[i]++j8 (l.drop (i+1)):=Qu
theorem aBi{l:List CA}(h:i<l.length):kc (l.drop i)=AK l[i]++kc (l.drop (i+1)):=Qu
def Cn(b:Bool)(lf dm:Int)(P:Prop)(k:Nat):Prop:=(b=true ↔ P∧(k:Int)<=lf)∧(b=true->dm=lf- k)
theorem Cn.nil{lf:Int}(h0:0<=lf)(hP:P)(hk:k=0):Cn true lf lf P k:=by
 subst hk;exact⟨⟨λ_=>⟨hP,h0⟩,λ_=>rfl⟩,λ_=>by omega⟩
theorem Cn.no{lf:Int}(h:Cn false lf l1 P k)(hP:R->P)(hk:k<=n):Cn false lf l2 R n:=
 ⟨⟨(λh=>aX),λ⟨h1,h2⟩=>h.1.2 ⟨hP h1,by omega⟩⟩,λh=>aX⟩
theorem Cn.bad{lf:Int}(h:¬R):Cn false lf l2 R n:=⟨⟨(λh=>aX),λh1=>absurd h1.1 h⟩,λh=>aX⟩
theorem Cn.then{lf:Int}(h:Cn true lf l1 P k)(g:Cn b l1 l2 Q m)(hR:R ↔ P∧Q)(hn:n=k+m):Cn b lf l2 R n:=by
 have h1:=h.1.1 rfl;have h2:=h.2 rfl;subst hn;refine⟨⟨λhb=>⟨hR.2 ⟨h1.1,(g.1.1 hb).1⟩,?_⟩,λ⟨r,hl⟩=>g.1.2 ⟨(hR.1 r).2,?_⟩⟩,λhb=> ?_⟩
 ·have:=(g.1.1 hb).2;omega
 ·omega
 ·have:=g.2 hb;omega
theorem Cn.ab3{lf:Int}(hP:P)(g:Cn b lf l2 Q m)(hR:R ↔ P∧Q)(hn:n=m):Cn b lf l2 R n:=by
 subst hn;exact⟨⟨λhb=>⟨hR.2 ⟨hP,(g.1.1 hb).1⟩,(g.1.1 hb).2⟩,λ⟨r,hl⟩=>g.1.2 ⟨(hR.1 r).2,hl⟩⟩,g.2⟩
def nR(p:PG)(ts:List TK)(ro:List RO)(V:WH->CS->Prop)(s:CS):Prop:=∀w,WI p w->∀lf cn c,ST p lf cn c->∃b dm df,az (au df)=df∧
 Ev kq [J (bB 0 w),J (encS s),K0 p lf,ah (bf ro),.ab 0 cn] (0,ak b::fR p ro dm df)∧
 Ev p7 [bI p ts ro w,J (encS s),iI lf] (0,[iI (bif b then dm else-1)])∧(b=true->ST p dm df λt=>c t+jW s t)∧Cn b lf dm (V w s) (ez s).length
end
end Go.Proofs.YtomkobcipaligaaGreatDoor
namespace Go.aA
def Rb{p:Prop}(h:p:=by
 exfalso;rw [dB]at a;simp at a b;rcases h with h|h<;>omega):p:=h
def ZN{p:Prop}(h:p:=by
 by_cases hj:j=i
 ·subst hj;exact h
 ·exact g j h1 (by omega)):p:=h
def J5{p:Prop}(h:p:=by rw [fK hi,fF]):p:=h
end Go.aA
namespace Go.Proofs.YtomkobcipaligaaGreatDoor
open Go Go.aA
section
variable{b:Bool}{f:dk}{lf dm n:Int}{Ls:List CS}{i:Nat}{ctx:Nat->WH}{c w:WH}{A D H cn df:aW}
def rq(w:WH):WH:={w with k8:= -1}
def xK(c:WH)(f:dk)(i:Int):WH:=bif i==0 then bif f.kind==18 then vN c f.entry else c else c
def aB(f:dk)(i:Int):Bool:=bif i==0 then bif f.kind==20 then true else f.kind==17 else false
def uV(c:WH)(f:dk)(i:Int):WH:=bif aB f i then AW c f.P else xK c f i
def qB(f:dk)(i:Int):Bool:=bif f.kind==16 then true else bif f.kind==17 then decide (0<i)else bif f.kind==18 then decide (0<i)else false
def j5(c:WH)(f:dk)(i:Int):WH:=bif qB f i then rq (uV c f i)else uV c f i
inductive CR(p:PG)(ro:List RO)(ctx:Nat->WH)(Ls:List CS):Nat->Int->aW->Bool->Int->aW->Prop
 |done(i:Nat)(h:i=Ls.length)(lf:Int)(cn:aW)(pk:az (au cn)=cn):CR p ro ctx Ls i lf cn true lf cn
 |no(i:Nat)(h:i<Ls.length)(lf:Int)(cn:aW)(pk:az (au cn)=cn)(dm:Int)(df:aW)(lE:az (au df)=df)
   (e:Ev kq [J (bB 0 (ctx i)),J (encS Ls[i]),K0 p lf,ah (bf ro),.ab 0 cn] (0,aq::fR p ro dm df)):CR p ro ctx Ls i lf cn false dm df
 |yes(i:Nat)(h:i<Ls.length)(lf:Int)(cn:aW)(pk:az (au cn)=cn)(l1:Int)(c1:aW)(iG:az (au c1)=c1)
   (e:Ev kq [J (bB 0 (ctx i)),J (encS Ls[i]),K0 p lf,ah (bf ro),.ab 0 cn] (0,cw::fR p ro l1 c1)) (b:Bool) (dm:Int) (df:aW) (t:CR p ro ctx Ls (i+1) l1 c1 b dm df):CR p ro ctx Ls i lf cn b dm df
section
variable {p:PG} {ts:List TK} {ro:List RO} {V:WH->CS->Prop}
abbrev nJ(f:dk)(Ls:List CS)(D H A:aW):AV:= J (cZ f (Ls.map encS) D H A)
def ahS(hw:c.Ok)(hi:i<Ls.length)(hl:Ls.length<=mx){n':Int}(hn:0<=n)(h:Ev p7 [bI p ts ro (j5 c f i),J (encS Ls[i]),iI n] (0,[iI n'])){r:UO}
 (hr:bP zQ [iI n',iI ((i+1:Nat):Int),bI p ts ro c,nJ f Ls D H A] r):
 bP zQ [iI n,iI (i:Int),bI p ts ro c,nJ f Ls D H A] r:=by
 have j0:bK NL [iI n,iI (i:Int),nJ f Ls D H A] (0,[nJ f Ls D H A]):=
  bW aeq (br (dx (f:=encS) hi) (br (wW) aL))
 have j1:bK VV [iI (i:Int),bI p ts ro c,nJ f Ls D H A,bI p ts ro c] (0,[bI p ts ro c,nJ f Ls D H A,bI p ts ro (xK c f i)]):=by
  refine bW av7 ?_;refine aw (c:=(i:Int)==0) (λh=>aw (c:=f.kind==18) (λg=>aj (apv (p:=p) (ts:=ts) (ro:=ro) hw f.entry) (af ?_)) λg=>af ?_) λh=>af ?_
  ·unfold xK;rw [h,g];rfl
  ·unfold xK;rw [h,g];rfl
  ·unfold xK;rw [h];rfl
 have j2:bK VA [iI (i:Int),nJ f Ls D H A] (0,[ak (aB f i),nJ f Ls D H A]):=by
  refine bW au6 ?_;refine aw (c:=(i:Int)==0) (λh=>aw (c:=f.kind==20) (λg=>af ?_) λg=>af ?_) λh=>af ?_
  ·unfold aB;rw [h,g];rfl
  ·unfold aB;rw [h,g];rfl
  ·unfold aB;rw [h];rfl
 have j3:bK VU [iI (i:Int),bI p ts ro c,nJ f Ls D H A,bI p ts ro (xK c f i)] (0,[bI p ts ro c,nJ f Ls D H A,bI p ts ro (uV c f i)]):=by
  refine bW av6 (aj j2 (aw (c:=aB f i) (λg=>aj (aOZ (p:=p) (ts:=ts) (ro:=ro) hw f.P) (af ?_)) λg=>af ?_))
  ·unfold uV;rw [g];rfl
  ·unfold uV;rw [g];rfl
 have j4:bK Vz [iI (i:Int),nJ f Ls D H A,bI p ts ro (uV c f i)] (0,[nJ f Ls D H A,bI p ts ro (j5 c f i)]):=by
  refine bW au5 ?_;refine aw (c:=f.kind==16) (λa=>af ?_) λa=>aw (c:=f.kind==17) (λb=>aw (c:=decide (0<(i:Int))) (λg=>af ?_) λg=>aw (c:=f.kind==18) (λz=> ?_) λz=>af ?_) λb=>aw (c:=f.kind==18) (λz=>aw (c:=decide (0<(i:Int))) (λg=>af ?_) λg=>af ?_) λz=>af ?_
  ·unfold j5 qB;rw [a];rfl
  ·unfold j5 qB;rw [a,b,g];rfl
  ·have h1:=eq_of_beq b;rw [h1]at z;cases z
  ·unfold j5 qB;rw [a,b,g];rfl
  ·unfold j5 qB;rw [a,b,z,g];rfl
  ·unfold j5 qB;rw [a,b,z,g];rfl
  ·unfold j5 qB;rw [a,b,z];rfl
 refine bD aeD (aj j0 (aY (aj j1 (aj j3 (aj j4 (aH (cN (f:=encS) hi) ?_))))));have hs:dJ (gA (Ls.map encS) ((i:Int).toNat))=encS Ls[i]:=J5;rw [<-hs]at h;refine aj h ?_;rw [ix hi hl];exact hr
def aix(h:i=Ls.length∨n<0):
 bP zQ [iI n,iI (i:Int),bI p ts ro c,nJ f Ls D H A] (0,[iI n,bI p ts ro c,nJ f Ls D H A]):=by
 have j0:bK NL [iI n,iI (i:Int),nJ f Ls D H A] (1,[nJ f Ls D H A]):=by
  refine bW aeq (aw (c:=decide ((i:Int)<ln (Ls.map encS))) (λa=>aw (c:=decide (0<=n)) (λb=> ?_) λb=>aL) λa=>aL);exact Rb
 exact bD aeD (aj j0 (bj aL))
def aFL(hw:c.Ok)(hl:Ls.length<=mx)(hk:∀s∈Ls,nR p ts ro V s)(hx:∀i,i<Ls.length->WI p (j5 c f (i:Nat))):
 ∀lf cn cc,ST p lf cn cc->∃b dm df,az (au df)=df∧CR p ro (λi=>j5 c f (i:Nat)) Ls 0 lf cn b dm df∧
  bP zQ [iI lf,iI 0,bI p ts ro c,nJ f Ls D H A] (0,[iI (bif b then dm else-1),bI p ts ro c,nJ f Ls D H A])∧(b=true->ST p dm df λt=>cc t+ij Ls t)∧Cn b lf dm (∀j (h:j<Ls.length),V (j5 c f (j:Nat)) Ls[j]) (gp Ls).length :=by
 have h:=fH (m:=Ls.length) (P:=λi=>∀lf cn cc,ST p lf cn cc->∃b dm df,az (au df)=df∧CR p ro (λi=>j5 c f (i:Nat)) Ls i lf cn b dm df∧
  bP zQ [iI lf,iI (i:Int),bI p ts ro c,nJ f Ls D H A] (0,[iI (bif b then dm else-1),bI p ts ro c,nJ f Ls D H A])∧(b=true->ST p dm df λt=>cc t+ij (Ls.drop i) t)∧Cn b lf dm (∀j (h:j<Ls.length),i<=j->V (j5 c f (j:Nat)) Ls[j]) (gp (Ls.drop i)).length)
  (λlf cn cc st=>⟨true,lf,cn,st.pk,.done _ rfl _ _ st.pk,aix (.inl rfl),(λ_=>st.ext λt=>by rw [gK];simp [ij]),Cn.nil st.lo (λj h1 h2=>by omega) (yu)⟩)
  λi hi ih lf cn cc st=>by
   obtain⟨b,l1,c1,iG,e1,e2,e3,e4⟩:=hk Ls[i] (dy hi) _ (hx i hi) lf cn cc st;have hlen:(gp (Ls.drop i)).length =(ez Ls[i]).length +(gp (Ls.drop (i+1))).length :=by rw [Xs hi,e7]
   cases b with
   |false=>
    refine⟨false,l1,c1,iG,.no _ hi _ _ st.pk _ _ iG e1,ahS hw hi hl st.lo e2 (aix (.inr ?_)),(λh=>aX),e4.no (λh=>h i hi (fk _)) (by omega)⟩;show(-1:Int)<0;omega
   |true=>
    obtain⟨b,l2,c2,js,r1,r2,r3,r4⟩:=ih l1 c1 _ (e3 rfl);refine⟨b,l2,c2,js,.yes _ hi _ _ st.pk _ _ iG e1 _ _ _ r1,ahS hw hi hl st.lo e2 r2,λh=>(r3 h).ext λt=> ?_,e4.then r4 ⟨λh=>⟨h i hi (fk _),λj h1 h2=>h j h1 (by omega)⟩,λ⟨h,g⟩ j h1 h2=> ?_⟩ hlen⟩
    ·rw [fW hi];simp only [ij];omega
    ·exact ZN
 intro lf cn cc st;have:=h lf cn cc st;rw [gJ]at this;simpa using this
def aE6(Tq:∀i,ctx i=w)(hl:Ls.length<=mx)(h:CR p ro ctx Ls i lf cn b dm df):∃j:Nat,
 bP Mr [bC (Ls.map encS),iI (ln (Ls.map encS)),iI (i:Int),J (bB 1 w),J (dM 2 3 p lf),ah (bf ro),.ab 0 cn]
  (bif b then(1,[J (bB 1 w),J (dM 2 3 p dm),ah (bf ro),.ab 0 df])else(0,[iI (j:Int),J (bB 1 w),J (dM 2 3 p dm),ah (bf ro),.ab 0 df])):=by
 have c7:∀{s:CS} {lf:Int} {cn:aW} (hc:az (au cn)=cn) {b:Bool} {l1:Int} {c1:aW} (pV:az (au c1)=c1),Ev kq [J (bB 0 w),J (encS s),K0 p lf,ah (bf ro),.ab 0 cn] (0,ak b::fR p ro l1 c1)->
  Ev US [J (encS s),J (bB 1 w),J (dM 2 3 p lf),ah (bf ro),.ab 0 cn] (0,[ak (!b),J (bB 1 w),J (dM 2 3 p l1),ah (bf ro),.ab 0 c1]):=λ{s lf cn} hc {b l1 c1} pV he=>by
  refine bx aty ?_;rw [hc,fF];refine aj he (af ?_);erw [pV];rfl
 induction h with
 |done i h lf cn pk=>
  subst h;exact⟨0,bD TF (ax dY (af (by rw [pk];rfl)))⟩
 |no i h lf cn pk dm df lE e=>
  rw [Tq]at e;refine⟨i,bD TF (br (dx h) (aH (cN h) ?_))⟩;rw [pk,fK h,fF];refine aj (c7 pk lE e) ?_;erw [lE];exact mW
 |yes i h lf cn pk l1 c1 iG e b dm df t ih=>
  rw [Tq]at e;obtain⟨j,hj⟩:=ih;refine⟨j,bD TF (br (dx h) (aH (cN h) ?_))⟩;rw [pk,fK h,fF,ix h hl];refine aj (c7 pk iG e) ?_;erw [iG];exact bj hj
def CR.pk{ctx:Nat->WH}{Ls:List CS}{i:Nat}{lf:Int}{cn:aW}{b:Bool}{dm:Int}{df:aW}(h:CR p ro ctx Ls i lf cn b dm df):az (au cn)=cn∧az (au df)=df:=by
 induction h with
 |done _ _ _ _ pk=>exact⟨pk,pk⟩
 |no _ _ _ _ pk _ _ lE _=>exact⟨pk,lE⟩
 |yes _ _ _ _ pk _ _ _ _ _ _ _ _ ih=>exact⟨pk,ih.2⟩
def aGz(Tq:∀i,ctx i=w)(hl:Ls.length<=mx)(h:CR p ro ctx Ls 0 lf cn b dm df):
 Ev TG [bC (Ls.map encS),J (bB 1 w),J (dM 2 3 p lf),ah (bf ro),.ab 0 cn] (0,[ak (!b),J (bB 1 w),J (dM 2 3 p dm),ah (bf ro),.ab 0 df]):=by
 obtain⟨j,hj⟩:=aE6 Tq hl h;obtain⟨pk,lE⟩:=h.pk;cases b with
 |true=>
  have a1:Ev Mv [bC (Ls.map encS),J (bB 1 w),J (dM 2 3 p lf),ah (bf ro),.ab 0 cn] (0,[iI (-1),J (bB 1 w),J (dM 2 3 p dm),ah (bf ro),.ab 0 df]):=by
   refine bx ace ?_;rw [pk];refine aj hj.diag (bj (af ?_));erw [lE];rfl
  refine bx ab8 ?_;rw [pk];refine aj a1 (af ?_);erw [lE];rfl
 |false=>
  have a1:Ev Mv [bC (Ls.map encS),J (bB 1 w),J (dM 2 3 p lf),ah (bf ro),.ab 0 cn] (0,[iI (j:Int),J (bB 1 w),J (dM 2 3 p dm),ah (bf ro),.ab 0 df]):=by
   refine bx ace ?_;rw [pk];refine aj hj.diag (aY (af ?_));erw [lE];rfl
  refine bx ab8 ?_;rw [pk];refine aj a1 (af ?_);erw [lE];show(0,[ak (decide (0<=(j:Int))),_,_,_,_])=_;rw [show decide (0<=(j:Int))=true by simp];rfl
end
end
end Go.Proofs.YtomkobcipaligaaGreatDoor
namespace Go.aA
def px{p:Prop}(h:p:=by show(-1:Int)<0;omega):p:=h
def uk{p:Prop}(h:p:=by rw [lN,dD hi];rfl):p:=h
def alL{p:Prop}(h:p:=by
 rw [hd]at hp;cases ha:decide (l[i]<lo)with
 |true=>rw [ha]at hp;cases hp
 |false=>
  cases hb:decide (hi<l[i])with
  |true=>rw [ha,hb]at hp;cases hp
  |false=>simp at ha hb;exact⟨ha,hb⟩):p:=h
def wV{p:Prop}(h:p:=by rw [sJ]):p:=h
def akc{p:Prop}(h:p:=by
 simp only [dX]at h;rw [ag4]at h;simpa using h i (by simpa using dZ)):p:=h
def Zd{p:Prop}(h:p:=by rw [fK hi,amN]):p:=h
def Zc{p:Prop}(h:p:=by rw [fK hi,amM]):p:=h
end Go.aA
namespace Go.aA
def ag4:=@List.any_eq_false
def Yi:=@List.count_cons
end Go.aA
namespace Go.Proofs.YtomkobcipaligaaGreatDoor
open Go Go.aA
section
variable{hi lo:Int}{l:cW}
def aim(h:jO l lo hi=true){i:Nat}(dZ:i<l.length):oV l lo hi i=false:=by
 unfold jO at h;exact akc
def aBH(h:jO l lo hi=true):l.Nodup:=by
 have:∀n,n<=l.length->(l.take n).Nodup :=by
  intro n
  induction n with
  |zero=>intro _;simp
  |succ n ih=>
   intro hn;have hp:=aim h (i:=n) (by omega);have hd:l.getD n 0=l[n]:=by rw [lN,dD (by omega)];rfl
   rw [Cp,dD (by omega)];refine Je (ih (by omega)) λhm=> ?_;unfold oV at hp;cases ha:decide (l.getD n 0<lo)with
   |true=>rw [ha]at hp;cases hp
   |false=>
    cases hb:decide (hi<l.getD n 0)with
    |true=>rw [ha,hb]at hp;cases hp
    |false=>
     rw [ha,hb,hd]at hp;have:dN (l.take n) l[n]=true:=Cz.2 hm;simp only [cE]at hp;rw [this]at hp;cases hp
 have h2:=this l.length (fk _)
 rwa [List.take_length]at h2
def ahL(h:jO l lo hi=true):∀x∈l,lo<=x∧x<=hi:=by
 intro x hx;obtain⟨i,dZ,rfl⟩:=PN hx;have hp:=aim h dZ;have hd:l.getD i 0=l[i]:=by rw [lN,dD dZ];rfl
 unfold oV at hp;exact alL
def Yn(h:lr l lo hi=true):∀x∈l,lo<=x∧x<=hi:=by
 intro x hx;obtain⟨i,dZ,rfl⟩:=PN hx;unfold lr at h;simp only [dX]at h;rw [ag4]at h;have hp:sZ l lo hi i=false:=by simpa using h i (by simpa using dZ)
 have hd:l.getD i 0=l[i]:=by rw [lN,dD dZ];rfl
 unfold sZ at hp;exact alL
structure CN(cn:aW)(c:Int->Nat):Prop where
 pk:az (au cn)=cn
 rep:∀t,dR (au cn) (iI t)=if c t=0 then none else some (iI (c t:Int))
section
variable {p:PG} {ts:List TK} {ro:List RO}
def aOL{w:WH}{Ts:cW}(hT:Ts.length<=mx){lf:Int}{cn:aW}{c:Int->Nat}(h:CN cn c)(hb:∀t,c t+Ts.count t<=100000):∃df,CN df (λt=>c t+Ts.count t)∧
 bP EB [aa (ints Ts),iI (ln (ints Ts)),iI 0,K0 p lf,ah (bf ro),.ab 0 cn,J (bB 0 w)] (0,[K0 p lf,ah (bf ro),.ab 0 df,J (bB 0 w)]):=by
 have k:=fH (m:=Ts.length) (P:=λi=>∀cn,CN cn (λt=>c t+(Ts.take i).count t)->∃df,CN df (λt=>c t+Ts.count t)∧
  bP EB [aa (ints Ts),iI (ln (ints Ts)),iI (i:Int),K0 p lf,ah (bf ro),.ab 0 cn,J (bB 0 w)] (0,[K0 p lf,ah (bf ro),.ab 0 df,J (bB 0 w)]))
  (λcn h=>⟨cn,by rw [List.take_length]at h;exact h,bD acZ (ax dY (af (by rw [h.pk];rfl)))⟩)
  λi hi ih cn h=>by
   have hd:Ts.getD i 0=Ts[i]:=uk;have Bp:∀t,(Ts.take (i+1)).count t=(Ts.take i).count t+if Ts[i]=t then 1 else 0:=λt=>by
    rw [Cp,dD hi,List.count_append];simp [Yi]
   have hle:∀t,(Ts.take i).count t<=Ts.count t:=λt=>List.Sublist.count_le _ (List.take_sublist _ _);have hr:=h.rep Ts[i];have wy:=hb Ts[i];have fg:=hle Ts[i]
   let v:Int:=((c Ts[i]+(Ts.take i).count Ts[i]+1:Nat):Int)
   obtain⟨df,h',e⟩:=ih (az (iV (au cn) (iI Ts[i]) (iI v))) ⟨wV,λt=>by
    rw [sJ,B7,h.rep,Bp]
    by_cases ht:t=Ts[i]
    ·subst ht;simp [v];omega
    ·rw [if_neg ht];have:(if Ts[i]=t then 1 else 0:Nat)=0:=if_neg λh=>ht h.symm;rw [this,yg]⟩
   refine⟨df,h',bD acZ (br (dx hi) (aH (cN hi) ?_))⟩;rw [mH hi,ix hi hT,hd]
   by_cases h0:c Ts[i]+(Ts.take i).count Ts[i]=0
   ·rw [if_pos h0]at hr;rw [hr];have:v=1:=by simp only [v];omega
    rw [this]at e;exact e
   ·rw [if_neg h0]at hr;rw [hr];have:bw ((iI ((c Ts[i]+(Ts.take i).count Ts[i]:Nat):Int)).toI +1)=v:=by
     show bw (((c Ts[i]+(Ts.take i).count Ts[i]:Nat):Int)+1)=v;rw [jI (by omega) (by omega)];simp only [v];omega
    rw [<-this]at e;exact e
 exact k cn (jU)
def aFN{V:WH->CS->Prop}{c:WH}(hd:WI p {ig c with ji:=true})(hu:WI p {ig c with hY:=true}){f:dk}{L H A:aW}{Ds:List CD}(hl:Ds.length<=mx)(hk:∀d∈Ds,nR p ts ro V d.d∧nR p ts ro V d.u):
 ∀lf cn cc,ST p lf cn cc->∃b dm df,az (au df)=df∧
  bP H9 [dh (Ds.map cj),iI (ln (Ds.map cj)),iI 0,K0 p lf,ah (bf ro),.ab 0 cn,J (bB 0 {ig c with ji:=true}),J (bB 0 {ig c with hY:=true})]
   (bif b then(1,[K0 p dm,ah (bf ro),.ab 0 df,J (bB 0 {ig c with ji:=true}),J (bB 0 {ig c with hY:=true})])else(0,[aq,K0 p dm,ah (bf ro),.ab 0 df,J (bB 0 {ig c with ji:=true}),J (bB 0 {ig c with hY:=true})]))∧
  bP xY [iI lf,iI 0,bI p ts ro c,J (cZ f L (Ds.map cj) H A)] (0,[iI (bif b then dm else-1),bI p ts ro c,J (cZ f L (Ds.map cj) H A)])∧(b=true->ST p dm df λt=>cc t+qO Ds t)∧Cn b lf dm (∀j (h:j<Ds.length),V {ig c with ji:=true} Ds[j].d ∧V {ig c with hY:=true} Ds[j].u) (iN Ds).length :=by
 have qg:∀{i:Nat} {n:Int},i=Ds.length∨n<0->bP xY [iI n,iI (i:Int),bI p ts ro c,J (cZ f L (Ds.map cj) H A)] (0,[iI n,bI p ts ro c,J (cZ f L (Ds.map cj) H A)]):=λ{i n} h=>by
  have j0:bK NK [iI n,iI (i:Int),J (cZ f L (Ds.map cj) H A)] (1,[J (cZ f L (Ds.map cj) H A)]):=by
   refine bW aep (aw (c:=decide ((i:Int)<ln (Ds.map cj))) (λa=>aw (c:=decide (0<=n)) (λb=> ?_) λb=>aL) λa=>aL);exact Rb
  exact bD aeB (aj j0 (bj aL))
 have k:=fH (m:=Ds.length) (P:=λi=>∀lf cn cc,ST p lf cn cc->∃b dm df,az (au df)=df∧
  bP H9 [dh (Ds.map cj),iI (ln (Ds.map cj)),iI (i:Int),K0 p lf,ah (bf ro),.ab 0 cn,J (bB 0 {ig c with ji:=true}),J (bB 0 {ig c with hY:=true})]
   (bif b then(1,[K0 p dm,ah (bf ro),.ab 0 df,J (bB 0 {ig c with ji:=true}),J (bB 0 {ig c with hY:=true})])else(0,[aq,K0 p dm,ah (bf ro),.ab 0 df,J (bB 0 {ig c with ji:=true}),J (bB 0 {ig c with hY:=true})]))∧
  bP xY [iI lf,iI (i:Int),bI p ts ro c,J (cZ f L (Ds.map cj) H A)] (0,[iI (bif b then dm else-1),bI p ts ro c,J (cZ f L (Ds.map cj) H A)])∧(b=true->ST p dm df λt=>cc t+qO (Ds.drop i) t)∧Cn b lf dm (∀j (h:j<Ds.length),i<=j->V {ig c with ji:=true} Ds[j].d ∧V {ig c with hY:=true} Ds[j].u) (iN (Ds.drop i)).length)
  (λlf cn cc st=>⟨true,lf,cn,st.pk,bD MH (ax dY (af (by rw [st.pk];rfl))),qg (.inl rfl),(λ_=>st.ext λt=>by rw [gK];simp [qO]),Cn.nil st.lo (λj h1 h2=>by omega) (yu)⟩)
  λi hi ih lf cn cc st=>by
   obtain⟨ho,hv⟩:=hk Ds[i] (dy hi);have gd:dJ (gA (Ds.map cj) ((i:Int).toNat))=encS Ds[i].d :=Zd;have gu:cP dG 21 (gA (Ds.map cj) ((i:Int).toNat))=encS Ds[i].u :=Zc;have rs:∀{n n1 n2:Int},0<=n->Ev p7 [bI p ts ro {ig c with ji:=true},J (encS Ds[i].d),iI n] (0,[iI n1])->(0<=n1->Ev p7 [bI p ts ro {ig c with hY:=true},J (encS Ds[i].u),iI n1] (0,[iI n2]))->(n1<0->n2=n1)->∀{r},bP xY [iI n2,iI ((i+1:Nat):Int),bI p ts ro c,J (cZ f L (Ds.map cj) H A)] r->
    bP xY [iI n,iI (i:Int),bI p ts ro c,J (cZ f L (Ds.map cj) H A)] r:=λ{n n1 n2} hn h1 h2 h3 {r} hr=>by
    have j0:bK NK [iI n,iI (i:Int),J (cZ f L (Ds.map cj) H A)] (0,[J (cZ f L (Ds.map cj) H A)]):=
     bW aep (br (dx (f:=cj) hi) (br (wW) aL))
    refine bD aeB (aj j0 (aY (aj Sm (aj Sm (aH (cN (f:=cj) hi) ?_)))));rw [<-gd]at h1;refine aj h1 ?_;rw [ix hi hl];refine aw (c:=decide (0<=n1)) (λa=>aH (cN (f:=cj) hi) ?_) λa=> ?_
    ·have h2:=h2 (by simpa using a);rw [<-gu]at h2;exact aj h2 hr
    ·rw [h3 (by simp at a;omega)]at hr;exact hr
   obtain⟨b,l1,c1,iG,e1,e2,e3,e4⟩:=ho _ hd lf cn cc st;have hlen:(iN (Ds.drop i)).length =(ez Ds[i].d).length +((ez Ds[i].u).length +(iN (Ds.drop (i+1))).length):=by rw [aBh hi,e7,YI,e7];omega
   cases b with
   |false=>
    refine⟨false,l1,c1,iG,bD MH (br (dx hi) (aH (cN hi) ?_)),rs st.lo e2 (λh=>absurd h (by show¬(0<=(-1:Int));omega)) (λ_=>rfl) (qg (.inr (px))),(λh=>aX),e4.no (λh=>(h i hi (fk _)).1) (by omega)⟩;rw [st.pk,gd];refine aj e1 ?_;erw [iG];exact mW
   |true=>
    have c7:=e3 rfl;obtain⟨b,l2,c2,js,u1,u2,u3,u4⟩:=hv _ hu l1 c1 _ c7;cases b with
    |false=>
     refine⟨false,l2,c2,js,bD MH (br (dx hi) (aH (cN hi) ?_)),rs st.lo e2 (λ_=>u2) (λh=>absurd h (by have:=c7.lo;show¬(l1<0);omega)) (qg (.inr (px))),(λh=>aX),(e4.then u4 qJ rfl).no (λh=>h i hi (fk _)) (by omega)⟩;rw [st.pk,gd,gu];refine aj e1 ?_;erw [iG];refine bj (aj u1 ?_);erw [js];exact mW
    |true=>
     obtain⟨b,l3,c3,Bg,r1,r2,r3,r4⟩:=ih l2 c2 _ (u3 rfl);refine⟨b,l3,c3,Bg,bD MH (br (dx hi) (aH (cN hi) ?_)),rs st.lo e2 (λ_=>u2) (λh=>absurd h (by have:=c7.lo;show¬(l1<0);omega)) r2,λh=>(r3 h).ext λt=> ?_,e4.then (u4.then r4 qJ rfl) ⟨λh=>⟨(h i hi (fk _)).1,(h i hi (fk _)).2,λj h1 h2=>h j h1 (by omega)⟩,λ⟨h,h',g⟩ j h1 h2=> ?_⟩ hlen⟩
     ·rw [st.pk,gd,gu,ix hi hl];refine aj e1 ?_;erw [iG];refine bj (aj u1 ?_);erw [js];exact bj r1
     ·rw [fW hi];simp only [qO,ahW];omega
     ·by_cases hj:j=i
      ·subst hj;exact⟨h,h'⟩
      ·exact g j h1 (by omega)
 intro lf cn cc st;have:=k lf cn cc st;rw [gJ]at this;simpa using this
end
end
end Go.Proofs.YtomkobcipaligaaGreatDoor
namespace Go.aA
def akM{p:Prop}(h:p:=by
 have:(i+1==Hs.length)=true:=by simp at b⊢;omega
 simp only [dX]at d;unfold hB;rw [a,this,d];rfl):p:=h
def akL{p:Prop}(h:p:=by
 have:(i+1==Hs.length)=true:=by simp at b⊢;omega
 simp only [dL]at d;unfold hB;rw [a,this,d];rfl):p:=h
def yp{p:Prop}(h:p:=by simp [hy]):p:=h
def akh{p:Prop}(h:p:=by
 have:(i+1==Hs.length)=false:=by simp at b⊢;omega
 unfold hB;rw [a,this];rfl):p:=h
def Qv{p:Prop}(h:p:=by simpa using st.lo):p:=h
end Go.aA
namespace Go.Proofs.YtomkobcipaligaaGreatDoor
open Go Go.aA
section
variable{sm:aW}{sn:cW}
def rN:cW->cW->Option cW
 | [],sn=>some sn
 |x::xs,sn=>bif dN sn x then none else rN xs (sn++[x])
structure SM(sm:aW)(sn:cW):Prop where
 pk:az (au sm)=sm
 rep:∀x,dR (au sm) (iI x)=if dN sn x=true then some (cw)else none
def aCM(sn:cW)(y x:Int):dN (sn++[y]) x=(dN sn x||y==x):=by
 unfold dN;rw [Yh];simp
def SM.put(h:SM sm sn)(y:Int):SM (az (iV (au sm) (iI y) (cw))) (sn++[y]):=
 ⟨wV,λx=>by
   rw [sJ,B7,h.rep,aCM]
   by_cases hx:x=y
   ·subst hx;simp
   ·have:(y==x)=false:=by simpa using λh=>hx h.symm
    rw [if_neg hx,this,Yg]⟩
section
variable {p:PG} {ts:List TK} {ro:List RO}
def aFA{xs:cW}(hx:xs.length<=mx){lf:Int}{cn:aW}(hc:az (au cn)=cn)(h:SM sm sn):∃oA,az (au oA)=oA∧(∀nD,rN xs sn=some nD->SM oA nD)∧
 bP Er [aa (ints xs),iI (ln (ints xs)),iI 0,K0 p lf,ah (bf ro),.ab 0 cn,.ab 0 sm] (match rN xs sn with|some _=>(1,[K0 p lf,ah (bf ro),.ab 0 cn,.ab 0 oA])|none=>(0,[aq,K0 p lf,ah (bf ro),.ab 0 cn,.ab 0 oA])):=by
 have k:=fH (m:=xs.length) (P:=λi=>∀sm sn,SM sm sn->∃oA,az (au oA)=oA∧(∀nD,rN (xs.drop i) sn=some nD->SM oA nD)∧
  bP Er [aa (ints xs),iI (ln (ints xs)),iI (i:Int),K0 p lf,ah (bf ro),.ab 0 cn,.ab 0 sm] (match rN (xs.drop i) sn with|some _=>(1,[K0 p lf,ah (bf ro),.ab 0 cn,.ab 0 oA])|none=>(0,[aq,K0 p lf,ah (bf ro),.ab 0 cn,.ab 0 oA])))
  (λsm sn h=>⟨sm,h.pk,λnD hs=>by rw [gK]at hs;injection hs with hs;subst hs;exact h,by
    rw [gK];exact bD TY (ax dY (af (by rw [hc,h.pk];rfl)))⟩)
  λi hi ih sm sn h=>by
   have hd:xs.getD i 0=xs[i]:=uk;have hr:=h.rep xs[i];rw [fW hi];simp only [rN];cases ef:dN sn xs[i]with
   |true=>
    rw [ef,if_pos rfl]at hr;simp only [cf];refine⟨sm,h.pk,(λnD hs=>by cases hs),bD TY (br (dx hi) (aH (cN hi) ?_))⟩;rw [mH hi,hd,hr,hc,h.pk];exact mW
   |false=>
    rw [ef,if_neg (by simp)]at hr;obtain⟨oA,q1,q2,q3⟩:=ih _ _ (h.put xs[i]);simp only [cE];refine⟨oA,q1,q2,bD TY (br (dx hi) (aH (cN hi) ?_))⟩;rw [mH hi,hd,hr,hc,ix hi hx];exact q3
 have:=k sm sn h;rw [gJ]at this;exact this
def af7:∀{xs sn nD:cW},rN xs sn=some nD->sn.Nodup->(∀x∈xs,1<=x∧x<=64)->(∀x∈sn,1<=x∧x<=64)->nD.Nodup∧∀x∈nD,1<=x∧x<=64
 | [],sn,nD,h,hn,_,hr=>by injection h with h;subst h;exact⟨hn,hr⟩
 |x::xs,sn,nD,h,hn,hx,hr=>by
  simp only [rN]at h;cases hi:dN sn x with
  |true=>rw [hi]at h;cases h
  |false=>
   rw [hi]at h;refine af7 h (Je hn λhm=>ZA) (λy hy=>hx y (yp)) λy hy=> ?_;rcases j7.1 hy with hy|hy
   ·exact hr y hy
   ·simp at hy;subst hy;exact hx _ (by simp)
def aF5(hn:sn.Nodup)(hr:∀x∈sn,1<=x∧x<=64):sn.length<=65:=Jl 65 sn hn λx hx=>jv.2 (by have:=hr x hx;omega)
def aFz{x:CH}(hx:x.eL.length<=mx)(hb:∀y∈x.eL,1<=y∧y<=64)(hn:sn.Nodup)(hr:∀y∈sn,1<=y∧y<=64):
 bP Ij [iI 0,J (cz x),aa (ints sn)] (match rN x.eL sn with|some nD=>(1,[J (cz x),aa (ints nD)])|none=>(0,[iI (-1),J (cz x)])):=by
 have k:=fH (m:=x.eL.length) (P:=λi=>∀sn:cW,sn.Nodup->(∀y∈sn,1<=y∧y<=64)->
  bP Ij [iI (i:Int),J (cz x),aa (ints sn)] (match rN (x.eL.drop i) sn with|some nD=>(1,[J (cz x),aa (ints nD)])|none=>(0,[iI (-1),J (cz x)])))
  (λsn _ _=>by
    rw [gK];refine bD adj ?_;rw [La,KM];exact ax dY aL)
  λi hi ih sn hn hr=>by
   have hl:=aF5 hn hr;have hd:x.eL.getD i 0=x.eL[i]:=uk;rw [fW hi];simp only [rN];refine bD adj ?_;rw [La,KM];refine br (dx hi) (aH (cN hi) ?_);rw [mH hi,hd,ix hi hx];refine aj (inV x.eL[i] (by show sn.length<=1048576;omega)) ?_;cases ef:dN sn x.eL[i]with
   |true=>exact mW
   |false=>
    refine bj (aH (cN hi) (aH ?_ ?_))
    ·show decide (((ints sn).length +1)*8<=140737488355328)=true;exact w9
    ·have:=ih (sn++[x.eL[i]]) (Je hn λhm=>by rw [Cz.2 hm]at ef;cases ef) λy hy=>by
      rcases j7.1 hy with hy|hy
      ·exact hr y hy
      ·simp at hy;subst hy;exact hb _ (dy hi)
     rw [Cb]at this;exact this
 have:=k sn hn hr;rw [gJ]at this;exact this
def hB(p:PG)(n:Nat)(i:Nat)(x:CH):Bool:=(bif x.eL.length==0 then(i+1==n)else true)&&lr x.eL 1 p.eL
def aoI(l:cW):(ln (ints l)==0)=(l.length==0):=by rw [dB];cases h:l.length==0<;>simp at h⊢<;>omega
def zw(p:PG)(n:Nat):Nat->List CH->cW->Bool
 |_,[],_=>true
 |i,x::xs,sn=>hB p n i x&&(match rN x.eL sn with|some nD=>zw p n (i+1) xs nD|none=>false)
def aFM{V:WH->CS->Prop}(hpe:p.eL<=64){c:WH}(hw:WI p c){f:dk}{L D A:aW}{Hs:List CH}(hl:Hs.length<=mx)(iL:Hs.length<=16)(hx:∀x∈Hs,x.eL.length<=mx)(hk:∀x∈Hs,nR p ts ro V x.body):
 ∀lf cn cc,ST p lf cn cc->∃b dm df oA,az (au df)=df∧
  bP Es [dg (Hs.map cz),iI (ln (Hs.map cz)),iI 0,K0 p lf,ah (bf ro),.ab 0 cn,J (bB 0 c),J (cZ f L D (Hs.map cz) A),.ab 0 (az [])]
   (bif b then(1,[K0 p dm,ah (bf ro),.ab 0 df,J (bB 0 c),J (cZ f L D (Hs.map cz) A),.ab 0 oA])else(0,[aq,K0 p dm,ah (bf ro),.ab 0 df,J (bB 0 c),J (cZ f L D (Hs.map cz) A),.ab 0 oA]))∧
  (∃q l,bP zO [iI lf,iI 0,bI p ts ro c,J (cZ f L D (Hs.map cz) A),aa []] (q,iI (bif b then dm else-1)::l))∧(b=true->ST p dm df λt=>cc t+qN Hs t)∧Cn b lf dm (zw p Hs.length 0 Hs []=true∧∀j (h:j<Hs.length),V c Hs[j].body) (j8 Hs).length :=by
 have qg:∀{i:Nat} {n:Int} {sn:cW},i=Hs.length∨n<0->bP zO [iI n,iI (i:Int),bI p ts ro c,J (cZ f L D (Hs.map cz) A),aa (ints sn)] (1,[iI n,bI p ts ro c,J (cZ f L D (Hs.map cz) A)]):=λ{i n sn} h=>by
  have j0:bK IF [iI n,iI (i:Int),J (cZ f L D (Hs.map cz) A)] (1,[J (cZ f L D (Hs.map cz) A)]):=by
   refine bW Vw (aw (c:=decide ((i:Int)<ln (Hs.map cz))) (λa=>aw (c:=decide (0<=n)) (λb=> ?_) λb=>aL) λa=>aL);exact Rb
  exact bD Vt (aj j0 (bj aL))
 have k:=fH (m:=Hs.length) (P:=λi=>∀lf cn cc,ST p lf cn cc->∀sm sn,SM sm sn->sn.Nodup->(∀y∈sn,1<=y∧y<=64)->∃b dm df oA,az (au df)=df∧
  bP Es [dg (Hs.map cz),iI (ln (Hs.map cz)),iI (i:Int),K0 p lf,ah (bf ro),.ab 0 cn,J (bB 0 c),J (cZ f L D (Hs.map cz) A),.ab 0 sm]
   (bif b then(1,[K0 p dm,ah (bf ro),.ab 0 df,J (bB 0 c),J (cZ f L D (Hs.map cz) A),.ab 0 oA])else(0,[aq,K0 p dm,ah (bf ro),.ab 0 df,J (bB 0 c),J (cZ f L D (Hs.map cz) A),.ab 0 oA]))∧
  (∃q l,bP zO [iI lf,iI (i:Int),bI p ts ro c,J (cZ f L D (Hs.map cz) A),aa (ints sn)] (q,iI (bif b then dm else-1)::l))∧(b=true->ST p dm df λt=>cc t+qN (Hs.drop i) t)∧Cn b lf dm (zw p Hs.length i (Hs.drop i) sn=true∧∀j (h:j<Hs.length),i<=j->V c Hs[j].body) (j8 (Hs.drop i)).length)
  (λlf cn cc st sm sn hs _ _=>⟨true,lf,cn,sm,st.pk,bD acK (ax dY (af (by rw [st.pk,hs.pk];rfl))),⟨_,_,qg (.inl rfl)⟩,(λ_=>st.ext λt=>by rw [gK];simp [qN]),Cn.nil st.lo ⟨yu,λj h1 h2=>by omega⟩ (yu)⟩)
  λi hi ih lf cn cc st sm sn hs hn hr=>by
   have gH:UQ (gA (Hs.map cz) ((i:Int).toNat))=cz Hs[i]:=by rw [fK hi,KM]
   have xF:=hx _ (dy hi);have Bm:bw (ln (Hs.map cz)- 1)=(Hs.length:Int)- 1:=by rw [dB,jI (by omega) (by omega)]
   have jc:bK T1 [iI (i:Int),K0 p lf,ah (bf ro),.ab 0 cn,J (bB 0 c),J (cZ f L D (Hs.map cz) A),J (cz Hs[i])]
    (bif hB p Hs.length i Hs[i]then(0,[K0 p lf,ah (bf ro),.ab 0 cn,J (bB 0 c),J (cZ f L D (Hs.map cz) A),J (cz Hs[i])])else(1,[aq,K0 p lf,ah (bf ro),.ab 0 cn,J (bB 0 c),J (cZ f L D (Hs.map cz) A),J (cz Hs[i])])):=by
    refine bW aqJ ?_;rw [st.pk,La,KM,aoI];refine aw (λa=>aw (c:=decide ((i:Int)<bw (ln (Hs.map cz)- 1))) (λb=>af ?_) λb=>aj (R4 1 p.eL xF) (aw (c:= !lr Hs[i].eL 1 p.eL) (λd=>af ?_) λd=>af ?_)) λa=>aj (R4 1 p.eL xF) (aw (c:= !lr Hs[i].eL 1 p.eL) (λd=>af ?_) λd=>af ?_)
    ·rw [Bm]at b;exact akh
    ·rw [Bm]at b;exact akM
    ·rw [Bm]at b;exact akL
    ·simp only [dX]at d;unfold hB;rw [a,d];rfl
    ·simp only [dL]at d;unfold hB;rw [a,d];rfl
   have jr:bK Vj [iI (i:Int),bI p ts ro c,J (cZ f L D (Hs.map cz) A),J (cz Hs[i])]
    (bif hB p Hs.length i Hs[i]then(0,[bI p ts ro c,J (cZ f L D (Hs.map cz) A),J (cz Hs[i])])else(1,[iI (-1),bI p ts ro c,J (cZ f L D (Hs.map cz) A),J (cz Hs[i])])):=by
    refine bW at7 ?_;rw [La,KM,aoI];refine aw (λa=>aw (c:=(i:Int) != bw (ln (Hs.map cz)- 1)) (λb=>af ?_) λb=>aj (RZ 1 p.eL xF) (aw (c:= !lr Hs[i].eL 1 p.eL) (λd=>af ?_) λd=>af ?_)) λa=>aj (RZ 1 p.eL xF) (aw (c:= !lr Hs[i].eL 1 p.eL) (λd=>af ?_) λd=>af ?_)
    ·rw [Bm]at b;exact akh
    ·rw [Bm]at b;exact akM
    ·rw [Bm]at b;exact akL
    ·simp only [dX]at d;unfold hB;rw [a,d];rfl
    ·simp only [dL]at d;unfold hB;rw [a,d];rfl
   have j0:bK IF [iI lf,iI (i:Int),J (cZ f L D (Hs.map cz) A)] (0,[J (cZ f L D (Hs.map cz) A)]):=
    bW Vw (br (dx (f:=cz) hi) (br (Qv) aL))
   have C:∀r:UO,_->bP Es [dg (Hs.map cz),iI (ln (Hs.map cz)),iI (i:Int),K0 p lf,ah (bf ro),.ab 0 cn,J (bB 0 c),J (cZ f L D (Hs.map cz) A),.ab 0 sm] r:=λr h=>by
    refine bD acK (br (dx hi) (aH (cN hi) ?_));rw [st.pk,hs.pk,gH];refine aj jc ?_;exact h
   have R:∀r:UO,_->bP zO [iI lf,iI (i:Int),bI p ts ro c,J (cZ f L D (Hs.map cz) A),aa (ints sn)] r:=λr h=>by
    refine bD Vt (aj j0 (aY (aH (cN (f:=cz) hi) ?_)));have jr':=jr;rw [<-gH]at jr';refine aj jr' ?_;exact h
   have hlen:(j8 (Hs.drop i)).length =(ez Hs[i].body).length +(j8 (Hs.drop (i+1))).length :=by rw [aBg hi,e7,YH]
   have Sq:zw p Hs.length i (Hs.drop i) sn=(hB p Hs.length i Hs[i]&&(match rN Hs[i].eL sn with|some nD=>zw p Hs.length (i+1) (Hs.drop (i+1)) nD|none=>false)):=by rw [fW hi];rfl
   cases hb:hB p Hs.length i Hs[i]with
   |false=>
    rw [hb]at C R;exact⟨false,lf,cn,sm,st.pk,C _ (bj (af (by erw [st.pk];rfl))),⟨_,_,R _ (bj aL)⟩,(λh=>aX),Cn.bad λh=>by rw [Sq,hb]at h;cases h.1⟩
   |true=>
    rw [hb]at C R;simp only [cf]at C R;have aN5:lr Hs[i].eL 1 p.eL=true:=by unfold hB at hb;rw [bM]at hb;exact hb.2
    have lG:∀y∈Hs[i].eL,1<=y∧y<=64:=λy hy=>by have:=Yn aN5 y hy;omega
    obtain⟨sm1,iG,s1,s2⟩:=aFA (p:=p) (ro:=ro) xF (lf:=lf) st.pk hs (xs:=Hs[i].eL);have r2:=aFz xF lG hn hr;have ge:ints Hs[i].eL =gR (cz Hs[i]) 0:=(La _).symm;rw [ge]at s2;rw [<-gH]at r2;cases dE:rN Hs[i].eL sn with
    |none=>
     rw [dE]at s2 r2;refine⟨false,lf,cn,sm1,st.pk,C _ (aY ?_),⟨_,_,R _ (aY (aj r2.diag (aY aL)))⟩,(λh=>aX),Cn.bad λh=>by rw [Sq,hb,dE]at h;cases h.1⟩;erw [st.pk];refine aj s2.diag (aY (af ?_));erw [st.pk,iG];rfl
    |some sn1=>
     rw [dE]at s2 r2;have sm2:=s1 sn1 dE;obtain⟨Tj,sr⟩:=af7 dE hn lG hr;obtain⟨b,l1,c1,pc1,e1,e2,e3,e4⟩:=hk _ (dy hi) c hw lf cn cc st;have gb:encS Hs[i].body =cP dG 1 (cz Hs[i]):=(RG _).symm;rw [gb]at e1;rw [gb,<-gH]at e2;cases b with
     |false=>
      refine⟨false,l1,c1,sm1,pc1,C _ (aY ?_),?_,(λh=>aX),e4.no (λh=>h.2 i hi (fk _)) (by omega)⟩
      ·erw [st.pk];refine aj s2.diag (bj ?_);erw [st.pk];refine aj e1 ?_;erw [pc1,iG];exact mW
      ·exact⟨1,[bI p ts ro c,J (cZ f L D (Hs.map cz) A)],R _ (aY (aj r2.diag (bj (by
        refine aj e2 ?_;rw [ix hi hl];exact qg (sn:=sn1) (.inr (px))))))⟩
     |true=>
      obtain⟨b,l2,c2,sm3,pc2,u1,⟨q,l,u2⟩,u3,u4⟩:=ih l1 c1 _ (e3 rfl) sm1 sn1 sm2 Tj sr;refine⟨b,l2,c2,sm3,pc2,C _ (aY ?_),⟨q,l,R _ (aY (aj r2.diag (bj ?_)))⟩,λh=>(u3 h).ext λt=> ?_,e4.then u4 ⟨λh=>⟨h.2 i hi (fk _),by have:=h.1;rw [Sq,hb,dE]at this;exact this,λj h1 h2=>h.2 j h1 (by omega)⟩,λ⟨h,h',g⟩=>⟨by rw [Sq,hb,dE];exact h',λj h1 h2=> ?_⟩⟩ hlen⟩
      ·erw [st.pk];refine aj s2.diag (bj ?_);erw [st.pk];refine aj e1 ?_;erw [pc1,iG,ix hi hl];exact bj u1
      ·refine aj e2 ?_;rw [ix hi hl];exact u2
      ·rw [fW hi];simp only [qN,ahV];omega
      ·exact ZN
 intro lf cn cc st;have:=k lf cn cc st (az []) [] ⟨wV,λx=>by simp [sJ,dR,dN]⟩ wL (by simp);rw [gJ]at this;simpa using this
end
end
section
variable{f:dk}{lf:Int}{A D H L cn:aW}
section
variable {p:PG} {ts:List TK} {ro:List RO}
def qZ(p:PG)(c:WH)(f:dk)(D H:aW):Bool:=bif decide (256<ln D)then false else bif decide (16<ln H)then false else jO f.Ts (bw (c.task+1)) (bw (ln (p.tasks.map cF)- 1))
variable (ct:CT p ts ro) {c:WH} (hw:WI p c)
include ct in
theorem scC(hf:f.Ok)(hc:az (au cn)=cn):
 bK UL [K0 p lf,ah (bf ro),.ab 0 cn,J (bB 0 c),SF f L D H A]
  (bif qZ p c f D H then(0,[K0 p lf,ah (bf ro),.ab 0 cn,J (bB 0 c),SF f L D H A])else(1,[aq,K0 p lf,ah (bf ro),.ab 0 cn,J (bB 0 c),SF f L D H A])):=by
 refine bW asJ ?_;rw [hc];refine aw (c:=decide (256<ln D)) (λa=>af (by unfold qZ;rw [a];rfl)) λa=>aw (c:=decide (16<ln H)) (λb=>af (by unfold qZ;rw [a,b];rfl)) λb=>aj (aaT (bw (c.task+1)) (bw (ln (p.tasks.map cF)- 1)) hf.Ts) (aw (c:= !jO f.Ts (bw (c.task+1)) (bw (ln (p.tasks.map cF)- 1))) (λd=>af ?_) λd=>af ?_)
 ·simp only [dX]at d;unfold qZ;rw [a,b,d];rfl
 ·simp only [dL]at d;unfold qZ;rw [a,b,d];rfl
include ct in
theorem scR(hf:f.Ok):
 bK W5 [bI p ts ro c,SF f L D H A]
  (bif qZ p c f D H then(0,[bI p ts ro c,SF f L D H A])else(1,[iI (-1),bI p ts ro c,SF f L D H A])):=by
 refine bW azl ?_;refine aw (c:=decide (256<ln D)) (λa=>af (by unfold qZ;rw [a];rfl)) λa=>aw (c:=decide (16<ln H)) (λb=>af (by unfold qZ;rw [a,b];rfl)) λb=>aj (amK ct (bw (c.task+1)) hf.Ts) (aw (c:= !jO f.Ts (bw (c.task+1)) (bw (ln (p.tasks.map cF)- 1))) (λd=>af ?_) λd=>af ?_)
 ·simp only [dX]at d;unfold qZ;rw [a,b,d];rfl
 ·simp only [dL]at d;unfold qZ;rw [a,b,d];rfl
theorem WI.of{w w':WH}(h:WI p w)(h1:w'.task=w.task)(h2:w'.k8<0∨w'.k8=w.k8)(h3:w'.gY=w.gY)(m:(w'.marks.length:Int)<=w.deep)(a:(w'.ll.length:Int)<=w.deep)(b:(w'.lg.length:Int)<=w.deep)(l:(w'.loops.length:Int)<=w.deep)(d:w'.deep=w.deep):WI p w':=
 ⟨⟨by rcases h2 with h2|h2
      ·exact .inl h2
      ·rw [h1,h2];exact h.dN.Hf,by rw [h3];exact h.dN.act,by rw [h1];exact h.dN.task⟩,by rw [d];exact m,by rw [d];exact a,by rw [d];exact b,by rw [d,h3];exact h.l4,by rw [d];exact l,by rw [d];exact h.d⟩
theorem XZ:∀{l:cW},l.Nodup->∀t,l.count t<=1
 | [],_,_=>by simp
 |x::l,h,t=>by
  have ⟨h1,h2⟩:=CB.1 h;rw [Yi]
  by_cases e:x=t
  ·subst e;have:=List.count_eq_zero.2 h1;simp;omega
  ·simp [e];exact XZ h2 t
def Sc(V:WH->CS->Prop)(p:PG)(c:WH)(f:dk)(Ds:List CD)(s0:CS)(Hs:List CH):Prop:=
 qZ p c f (Ds.map cj) (Hs.map cz)=true∧(∀j (h:j<Ds.length),V {ig c with ji:=true} Ds[j].d ∧V {ig c with hY:=true} Ds[j].u)∧V (rq c) s0∧zw p Hs.length 0 Hs []=true∧∀j (h:j<Hs.length),V {rq c with wO:=true} Hs[j].body
include ct hw in
theorem aOQ{V:WH->CS->Prop}(hf:f.Ok){s0:CS}{Ds:List CD}{Hs:List CH}(hD:Ds.length<=mx)(hH:Hs.length<=mx)(oY:0<=c.deep)(hx:∀x∈Hs,x.eL.length<=mx)
 (k0:nR p ts ro V s0) (kD:∀d∈Ds,nR p ts ro V d.d∧nR p ts ro V d.u) (kH:∀x∈Hs,nR p ts ro V x.body)   {cc:Int->Nat} (st:ST p lf cn cc) (hs:∀t,(cc t:Int)+1<=8192- lf):∃b dm df,az (au df)=df∧
 Ev Io [J (bB 0 c),SF f [encS s0] (Ds.map cj) (Hs.map cz) A,K0 p lf,ah (bf ro),.ab 0 cn] (0,ak b::fR p ro dm df)∧
 Ev Jf [bI p ts ro c,SF f [encS s0] (Ds.map cj) (Hs.map cz) A,iI lf] (0,[iI (bif b then dm else-1)])∧(b=true->ST p dm df λt=>cc t+(f.Ts.count t+(qO Ds t+(jW s0 t+qN Hs t))))∧Cn b lf dm (Sc V p c f Ds s0 Hs) ((iN Ds).length +((ez s0).length +(j8 Hs).length)):=by
 have a1:=scC ct (c:=c) hf (L:=[encS s0]) (D:=Ds.map cj) (H:=Hs.map cz) (A:=A) (lf:=lf) st.pk;have r1:=scR ct (c:=c) hf (L:=[encS s0]) (D:=Ds.map cj) (H:=Hs.map cz) (A:=A);have C:∀r:UO,_->Ev Io [J (bB 0 c),SF f [encS s0] (Ds.map cj) (Hs.map cz) A,K0 p lf,ah (bf ro),.ab 0 cn] r:=λr h=>by
  refine bx auo ?_;rw [st.pk];refine aj a1 ?_;exact h
 have R:∀r:UO,_->Ev Jf [bI p ts ro c,SF f [encS s0] (Ds.map cj) (Hs.map cz) A,iI lf] r:=λr h=>by
  refine bx aAS (aj r1 ?_);exact h
 cases hb:qZ p c f (Ds.map cj) (Hs.map cz)with
 |false=>
  rw [hb]at C R;refine⟨false,lf,cn,st.pk,C _ (bj (af ?_)),R _ (bj aL),(λh=>aX),Cn.bad λh=>by have:=h.1;rw [hb]at this;cases this⟩;erw [st.pk];rfl
 |true=>
  rw [hb]at C R;simp only [cf]at C R;have aOk:Hs.length<=16:=by
   unfold qZ at hb;cases h:decide (256<ln (Ds.map cj))with
   |true=>rw [h]at hb;cases hb
   |false=>
    cases h2:decide (16<ln (Hs.map cz))with
    |true=>rw [h,h2]at hb;cases hb
    |false=>rw [dB]at h2;simp at h2;omega
  have LR:jO f.Ts (bw (c.task+1)) (bw (ln (p.tasks.map cF)- 1))=true:=by
   unfold qZ at hb;cases h:decide (256<ln (Ds.map cj))with
   |true=>rw [h]at hb;cases hb
   |false=>
    cases h2:decide (16<ln (Hs.map cz))with
    |true=>rw [h,h2]at hb;cases hb
    |false=>rw [h,h2]at hb;exact hb
  have Br:=aBH LR;obtain⟨TC,h1,e1⟩:=aOL (p:=p) (ro:=ro) (w:=c) hf.Ts (lf:=lf) ⟨st.pk,st.rep⟩ (c:=cc) λt=>by
   have:=XZ Br t;have:=hs t;have:=st.lo;omega
  have trg:∀t∈f.Ts,1<=t∧t<(p.tasks.length:Int):=λt ht=>by
   have h1:=ahL LR t ht;have h2:=jv.1 hw.dN.task;have h3:=ct.aFY;rw [dB,jI (by omega) (by omega),jI (by omega) (by omega)]at h1;omega
  have c7:ST p lf TC λt=>cc t+f.Ts.count t:=⟨h1.pk,h1.rep,λt=>by
   have:=XZ Br t;have:=hs t;omega,st.lo,st.hi,λt ht=>by
    by_cases h0:cc t=0
    ·exact trg t (List.count_pos_iff.1 (by omega))
    ·exact st.jz t h0⟩
  have a14:bK Uy [K0 p lf,ah (bf ro),.ab 0 cn,J (bB 0 c),SF f [encS s0] (Ds.map cj) (Hs.map cz) A] (0,[K0 p lf,ah (bf ro),.ab 0 TC,J (bB 0 c),SF f [encS s0] (Ds.map cj) (Hs.map cz) A]):=by
   refine bW asc ?_;rw [st.pk];refine aj e1.diag (af ?_);erw [h1.pk];rfl
  have l0:∀(w:WH),(([]:cW).length :Int)<=c.deep:=λ_=>by simpa using oY
  have wd:WI p {ig c with ji:=true}:=hw.of rfl (.inl (px)) rfl (l0 c) hw.l2 hw.l3 hw.l5 rfl;have wu:WI p {ig c with hY:=true}:=hw.of rfl (.inl (px)) rfl (l0 c) hw.l2 hw.l3 hw.l5 rfl;obtain⟨b,l2,c2,js,e2,f2,g2,q2⟩:=aFN (c:=c) wd wu (f:=f) (L:=[encS s0]) (H:=Hs.map cz) (A:=A) hD kD lf TC _ c7;have C2:∀r:UO,_->Ev Io [J (bB 0 c),SF f [encS s0] (Ds.map cj) (Hs.map cz) A,K0 p lf,ah (bf ro),.ab 0 cn] r:=λr h=>by
   refine C r (aY ?_);erw [st.pk];refine aj a14 ?_;erw [h1.pk];refine aj (Sn (w:=c) h1.pk) ?_;erw [h1.pk];refine aj (Sn (w:=c) h1.pk) ?_;erw [h1.pk];have vL:bK Un [K0 p lf,ah (bf ro),.ab 0 TC,SF f [encS s0] (Ds.map cj) (Hs.map cz) A,J (bB 0 {ig c with ji:=true}),J (bB 0 {ig c with hY:=true})]
    (bif b then(0,[K0 p l2,ah (bf ro),.ab 0 c2,SF f [encS s0] (Ds.map cj) (Hs.map cz) A,J (bB 0 {ig c with ji:=true}),J (bB 0 {ig c with hY:=true})])else(1,[aq,K0 p l2,ah (bf ro),.ab 0 c2,SF f [encS s0] (Ds.map cj) (Hs.map cz) A,J (bB 0 {ig c with ji:=true}),J (bB 0 {ig c with hY:=true})])):=by
    refine bW arE ?_;rw [h1.pk];refine aj e2.diag ?_;cases b with
    |false=>refine aY (af ?_);erw [js];rfl
    |true=>refine bj (af ?_);erw [js];rfl
   refine aj vL ?_;exact h
  have fq:bK WG [iI lf,bI p ts ro c,SF f [encS s0] (Ds.map cj) (Hs.map cz) A] (0,[iI (bif b then l2 else-1),bI p ts ro c,SF f [encS s0] (Ds.map cj) (Hs.map cz) A]):=
   bW ayr (aj f2.diag aL)
  have R2:∀r:UO,_->Ev Jf [bI p ts ro c,SF f [encS s0] (Ds.map cj) (Hs.map cz) A,iI lf] r:=λr h=>by
   refine R r (aY (aj fq ?_));exact h
  have wq:WI p (rq c):=hw.of rfl (.inl (px)) rfl hw.l1 hw.l2 hw.l3 hw.l5 rfl;have wh:WI p {rq c with wO:=true}:=hw.of rfl (.inl (px)) rfl hw.l1 hw.l2 hw.l3 hw.l5 rfl;have rlo:∀{n:Int},n<0->bK N1 [iI n,bI p ts ro (rq c),SF f [encS s0] (Ds.map cj) (Hs.map cz) A] (0,[iI n,bI p ts ro (rq c),SF f [encS s0] (Ds.map cj) (Hs.map cz) A]):=λ{n} h=>
   bW aeJ (ax (c:=decide (0<=n)) (jU) aL)
  have rhe:∀{n:Int},n<0->bP zO [iI n,iI 0,bI p ts ro {rq c with wO:=true},SF f [encS s0] (Ds.map cj) (Hs.map cz) A,aa (([]:aW))] (1,[iI n,bI p ts ro {rq c with wO:=true},SF f [encS s0] (Ds.map cj) (Hs.map cz) A]):=λ{n} h=>by
   have j0:bK IF [iI n,iI 0,SF f [encS s0] (Ds.map cj) (Hs.map cz) A] (1,[SF f [encS s0] (Ds.map cj) (Hs.map cz) A]):=by
    refine bW Vw (aw (c:=decide ((0:Int)<ln (Hs.map cz))) (λa=>ax (c:=decide (0<=n)) (jU) aL) λa=>aL)
   exact bD Vt (aj j0 (bj aL))
  cases b with
  |false=>
   refine⟨false,l2,c2,js,C2 _ (bj (af ?_)),R2 _ (aj (rlo (px)) (aj (rhe (px)).diag (bj aL))),(λh=>aX),q2.no (λh=>h.2.1) (by omega)⟩;erw [js];rfl
  |true=>
   have kE:=g2 rfl;obtain⟨b,l3,c3,Bg,e3,f3,g3,q3⟩:=k0 (rq c) wq l2 c2 _ kE;have u0:dJ (gA [encS s0] 0)=encS s0:=fF s0;have r62:bK N1 [iI l2,bI p ts ro (rq c),SF f [encS s0] (Ds.map cj) (Hs.map cz) A] (0,[iI (bif b then l3 else-1),bI p ts ro (rq c),SF f [encS s0] (Ds.map cj) (Hs.map cz) A]):=by
    refine bW aeJ (br (c:=decide (0<=l2)) (by simpa using kE.lo) (aH rfl ?_));rw [<-u0]at f3;exact aj f3 aL
   have e3':Ev kq [J (bB 0 (rq c)),J (dJ (gA [encS s0] 0)),K0 p l2,ah (bf ro),.ab 0 c2] (0,ak b::fR p ro l3 c3):=by rw [u0];exact e3
   cases b with
   |false=>
    refine⟨false,l3,c3,Bg,C2 _ (aY (aH rfl ?_)),R2 _ (aj r62 (aj (rhe (px)).diag (bj aL))),(λh=>aX),(q2.then q3 qJ rfl).no (λh=>⟨h.2.1,h.2.2.1⟩) (by omega)⟩;erw [js];refine aj e3' (aY (af ?_));erw [Bg];rfl
   |true=>
    have st3:=g3 rfl;obtain⟨b,l4,c4,sm,pk4,e4,⟨q,l,f4⟩,g4,q4⟩:=aFM (p:=p) (ts:=ts) (ro:=ro) ct.eL wh (f:=f) (L:=[encS s0]) (D:=Ds.map cj) (A:=A) hH aOk hx kH l3 c3 _ st3;refine⟨b,l4,c4,pk4,C2 _ (aY (aH rfl ?_)),R2 _ (aj r62 (aj f4.diag ?_)),λh=>(g4 h).ext λt=>by omega,Cn.ab3 hb (q2.then (q3.then q4 qJ rfl) qJ rfl) qJ rfl⟩
    ·erw [js];refine aj e3' (bj ?_);erw [Bg];refine aj e4.diag ?_;cases b with
     |false=>refine aY (af ?_);erw [pk4];rfl
     |true=>refine bj (af ?_);erw [pk4];rfl
    ·exact aw (λ_=>aL) λ_=>aL
end
end
end Go.Proofs.YtomkobcipaligaaGreatDoor
namespace Go.aA
def QF{p:Prop}(h:p:=by unfold na nt ne' dA;rw [h];rfl):p:=h
def ZD{p:Prop}(h:p:=by unfold rI qn;rw [h1,h2,h3,hl];rfl):p:=h
def aiZ{p:Prop}(h:p:=by unfold rI qn;rw [h1,h2,h4,h3,hl,hb];rfl):p:=h
def aiJ{p:Prop}(h:p:=by show(!(x.entry==0))=false;rw [h3];rfl):p:=h
def aiD{p:Prop}(h:p:=by show(!(x.entry==0))=true;rw [h3];rfl):p:=h
end Go.aA
namespace Go.Proofs.YtomkobcipaligaaGreatDoor
open Go Go.aA
section
variable{k:Int}{l:List CE}{a e t:Nat}{mm:aW}
def uK(k:Int):Bool:=bif k==2 then true else k==3
def kk(k:Int):Int:=bif uK k then 2 else k
def dA(c:WH)(x:CA):WH:=bif x.kind==1 then vN c x.entry else c
def na(k:Int)(a:Nat):Nat:=if k=1 then a+1 else a
def ne'(k:Int)(e:Nat):Nat:=if k=4 then e+1 else e
def nt(k:Int)(t:Nat):Nat:=if k=1∨k=4 then t else t+1
def cur(k:Int)(a t e:Nat):Nat:=if k=1 then a else if k=4 then e else t
structure CM(mm:aW)(a t e:Nat):Prop where
 pk:az (au mm)=mm
 f1:dR (au mm) (bE 1)=if a=0 then none else some (iI (a:Int))
 f2:dR (au mm) (bE 2)=if t=0 then none else some (iI (t:Int))
 f4:dR (au mm) (bE 4)=if e=0 then none else some (iI (e:Int))
theorem CM.look(h:CM mm a t e)(hk:k=1∨k=2∨k=3∨k=4):dR (au mm) (bE (kk k))=if cur k a t e=0 then none else some (iI (cur k a t e:Int)):=by
 rcases hk with rfl|rfl|rfl|rfl
 ·exact h.f1
 ·exact h.f2
 ·exact h.f2
 ·exact h.f4
theorem CM.put(h:CM mm a t e)(hk:k=1∨k=2∨k=3∨k=4):CM (az (iV (au mm) (bE (kk k)) (iI ((cur k a t e+1:Nat):Int)))) (na k a) (nt k t) (ne' k e):=by
 rcases hk with rfl|rfl|rfl|rfl
 ·refine⟨wV,?_,?_,?_⟩<;>rw [sJ,B7]<;>first|exact h.f2|exact h.f4|rfl
 ·refine⟨wV,?_,?_,?_⟩<;>rw [sJ,B7]<;>first|exact h.f1|exact h.f4|rfl
 ·refine⟨wV,?_,?_,?_⟩<;>rw [sJ,B7]<;>first|exact h.f1|exact h.f4|rfl
 ·refine⟨wV,?_,?_,?_⟩<;>rw [sJ,B7]<;>first|exact h.f1|exact h.f2|rfl
section
variable {p:PG} {ts:List TK} {ro:List RO} (ct:CT p ts ro) {c:WH} (hw:c.Ok) {cn:aW} (hc:az (au cn)=cn) {lf:Int} (hE:kO)
theorem aNN:(ln (l.map aP) != 1)= !(ln (l.map aP)==1):=rfl
theorem gt0:decide (0<ln (l.map aP))= !(ln (l.map aP)==0):=by rw [dB];cases l<;>simp;omega
abbrev A0(x:CA):AV:= J (cu x)
def rI(p:PG)(c:WH)(x:CA)(nb:Bool):Bool:=bif x.kind==1 then(ln (x.E.map aP)==0)&&tc p c x.entry else bif uK x.kind then(x.entry==0)&&((ln (x.E.map aP)==1)&&nb)else(x.kind==4)&&((x.entry==0)&&(ln (x.E.map aP)==0))
def qn(x:CA):Bool:=bif x.kind==1 then true else bif uK x.kind then jt x.body else jt x.body&&jt x.after
theorem ag8{x:CA}{m n:Bool}(h:∀e,x.E=[e]->m=n):rI p c x m=rI p c x n:=by
 unfold rI;cases hl:ln (x.E.map aP)==1 with
 |false=>rfl
 |true=>obtain⟨e,he⟩:=vB (eq_of_beq hl);rw [h e he]
include ct hw hc hE in
theorem aox(l:List CE)(ok:∀e∈l,e.Ok):∃nb:Bool,∀e,l=[e]->Ev wF [J (bB 0 c),J (aP e),J (dM 1 2 p lf),ah (bf ro),.ab 0 cn] (0,ak nb::fR p ro lf cn)∧Ev sF [bI p ts ro c,J (aP e)] (0,[ak nb]):=al5
include ct hw hc hE in
theorem aOW(x:CA)(hx:x.qE){nb:Bool}(Bs:∀e,x.E=[e]->Ev wF [J (bB 0 c),J (aP e),J (dM 1 2 p lf),ah (bf ro),.ab 0 cn] (0,ak nb::fR p ro lf cn)∧Ev sF [bI p ts ro c,J (aP e)] (0,[ak nb])):∃b,b=(rI p c x nb&&qn x)∧
 bK BB [bE x.kind,K0 p lf,ah (bf ro),.ab 0 cn,J (bB 0 c),A0 x,J (bB 0 c)]
  (bif b then(0,[bE (kk x.kind),K0 p lf,ah (bf ro),.ab 0 cn,J (bB 0 c),A0 x,J (bB 0 (dA c x))])else(1,[aq,K0 p lf,ah (bf ro),.ab 0 cn,J (bB 0 c),A0 x,J (bB 0 c)]))∧
 (∀bc,Ev zL [bI p ts ro c,J (aP x.guard)] (0,[ak bc])->Ev ML [bI p ts ro c,A0 x] (0,[ak (bc&&b)]))∧
 (b=true->(x.kind=1∨x.kind=2∨x.kind=3∨x.kind=4)∧(x.kind=1->jx p c.task x.entry=true)):=by
 have hr:∀b,E (λN _=>bif gI (cu x) 0==1 then bif ln (gR (cu x) 11)==0 then bO (FU CX EE N E5 [bI p ts ro c,iI (gI (cu x) 10)]) λ_ o2=>some (0,[ak (gB o2 0)])else some (0,[aq])else bO (H6 (FU CX EE N) N [bE (gI (cu x) 0)]) λ_ o3=>bif gB o3 0 then bif gI (cu x) 10==0 then bif ln (gR (cu x) 11)==1 then aR (decide (0<ln (gR (cu x) 11)))<|bO (FU CX EE N sF [bI p ts ro c,J (nL (gA (gR (cu x) 11) 0))]) λ_ o4=>bif gB o4 0 then bO (FU CX EE N nM [J (cP dG 12 (cu x)),J se]) λ_ o5=>some (0,[ak (gB o5 0)])else some (0,[aq])else some (0,[aq])else some (0,[aq])else bif gI (cu x) 0==4 then bif gI (cu x) 10==0 then bif ln (gR (cu x) 11)==0 then bO (FU CX EE N nM [J (cP dG 12 (cu x)),J se]) λ_ o6=>bif gB o6 0 then bO (FU CX EE N nM [J (cP dG 33 (cu x)),J se]) λ_ o7=>some (0,[ak (gB o7 0)])else some (0,[aq])else some (0,[aq])else some (0,[aq])else some (0,[aq])) (0,[ak b])->
  ∀bc,Ev zL [bI p ts ro c,J (aP x.guard)] (0,[ak bc])->Ev ML [bI p ts ro c,A0 x] (0,[ak (bc&&b)]):=λb h bc ao8=>by
  refine bx asi ?_;rw [<-amO]at ao8;refine aj ao8 ?_;cases bc with
  |false=>exact mW
  |true=>exact bj h
 suffices hs:∃b,b=(rI p c x nb&&qn x)∧bK BB [bE x.kind,K0 p lf,ah (bf ro),.ab 0 cn,J (bB 0 c),A0 x,J (bB 0 c)]
  (bif b then(0,[bE (kk x.kind),K0 p lf,ah (bf ro),.ab 0 cn,J (bB 0 c),A0 x,J (bB 0 (dA c x))])else(1,[aq,K0 p lf,ah (bf ro),.ab 0 cn,J (bB 0 c),A0 x,J (bB 0 c)]))∧
  E (λN _=>bif x.kind==1 then bif ln (x.E.map aP)==0 then bO (FU CX EE N E5 [bI p ts ro c,iI x.entry]) λ_ o2=>some (0,[ak (gB o2 0)])else some (0,[aq])else bO (H6 (FU CX EE N) N [bE x.kind]) λ_ o3=>bif gB o3 0 then bif x.entry==0 then bif ln (x.E.map aP)==1 then aR (decide (0<ln (x.E.map aP)))<|bO (FU CX EE N sF [bI p ts ro c,J (nL (gA (x.E.map aP) 0))]) λ_ o4=>bif gB o4 0 then bO (FU CX EE N nM [J (encS x.body),J se]) λ_ o5=>some (0,[ak (gB o5 0)])else some (0,[aq])else some (0,[aq])else some (0,[aq])else bif x.kind==4 then bif x.entry==0 then bif ln (x.E.map aP)==0 then bO (FU CX EE N nM [J (encS x.body),J se]) λ_ o6=>bif gB o6 0 then bO (FU CX EE N nM [J (encS x.after),J se]) λ_ o7=>some (0,[ak (gB o7 0)])else some (0,[aq])else some (0,[aq])else some (0,[aq])else some (0,[aq])) (0,[ak b])∧
  (b=true->(x.kind=1∨x.kind=2∨x.kind=3∨x.kind=4)∧(x.kind=1->jx p c.task x.entry=true))by
  obtain⟨b,h0,h1,h2,h3⟩:=hs;refine⟨b,h0,h1,hr b ?_,h3⟩;rw [abV,abU,apj,GM,GN];exact h2
 have j9:bK TZ [bE x.kind,K0 p lf,ah (bf ro),.ab 0 cn] (0,ak (uK x.kind)::fR p ro lf cn):=by
  refine bW aqA ?_;rw [hc];refine aw (c:=x.kind==2) (λh=>af ?_) λh=>af ?_
  ·unfold uK;rw [h];rfl
  ·unfold uK;rw [h];rfl
 have r9:bK H6 [bE x.kind] (0,[ak (uK x.kind)]):=by
  refine bW aqQ (aw (c:=x.kind==2) (λh=>af ?_) λh=>af ?_)
  ·unfold uK;rw [h];rfl
  ·unfold uK;rw [h];rfl
 have C:∀r:UO,_->bK BB [bE x.kind,K0 p lf,ah (bf ro),.ab 0 cn,J (bB 0 c),A0 x,J (bB 0 c)] r:=λr h=>by
  refine bW aqI ?_;rw [hc,abU,apj,aaU,GM,GN,aNN,gt0];exact h
 by_cases h1:(x.kind==1)=true
 ·cases hl:ln (x.E.map aP)==0 with
  |false=>
   rw [hl]at C;exact⟨false,by unfold rI qn;rw [h1,hl];rfl,C _ (br h1 (aY aL)),br h1 (bj aL),λh=>aX⟩
  |true=>
   rw [hl]at C;refine⟨tc p c x.entry,by unfold rI qn;rw [h1,hl];simp,C _ (br h1 (bj (aj (aop (lf:=lf) hw hc x.entry) ?_))),br h1 (aY (aj (abj ct hw x.entry) aL)),λh=>⟨.inl (eq_of_beq h1),λ_=>by unfold tc at h;rw [bM]at h;exact h.1⟩⟩;erw [hc];cases ho:tc p c x.entry with
   |false=>exact mW
   |true=>
    refine bj (aj (apw (lf:=lf) hw hc x.entry) (af ?_));erw [hc];have hd:dA c x=vN c x.entry:=by unfold dA;rw [h1];rfl
    have my:kk x.kind=x.kind:=Zk;rw [hd,my];rfl
 ·have h1:(x.kind==1)=false:=by simpa using h1
  have hd:dA c x=c:=by unfold dA;rw [h1];rfl
  cases h2:uK x.kind with
  |true=>
   rw [h2]at j9 r9;have my:kk x.kind=2:=by unfold kk;rw [h2];rfl
   have C2:∀r:UO,_->bK BB [bE x.kind,K0 p lf,ah (bf ro),.ab 0 cn,J (bB 0 c),A0 x,J (bB 0 c)] r:=λr h=>by
    refine C r (ax h1 (aj j9 (aY ?_)));exact Ga
   cases h3:x.entry==0 with
   |false=>
    refine⟨false,by unfold rI qn;rw [h1,h2,h3];rfl,C2 _ (br (c:=x.entry != 0) (aiD) aL),ax h1 (aj r9 (aY (bj aL))),λh=>aX⟩
   |true=>
    have By:(x.entry != 0)=false:=aiJ;cases hl:ln (x.E.map aP)==1 with
    |false=>
     rw [hl]at C2;refine⟨false,ZD,C2 _ (ax By (aY aL)),ax h1 (aj r9 (aY (aY (bj aL)))),λh=>aX⟩
    |true=>
     rw [hl]at C2;obtain⟨e,he⟩:=vB (eq_of_beq hl);have hg:decide (0<ln (x.E.map aP))=true:=Zj;have jC:(!(ln (x.E.map aP)==0))=true:=Zj;obtain⟨b1,b2⟩:=Bs e he;rw [<-wY e,<-he]at b1 b2;cases nb with
     |false=>
      refine⟨false,ZD,C2 _ (ax By (bj (aH jC (aj b1 (aY (af ?_)))))),ax h1 (aj r9 (aY (aY (aY (aH hg (aj b2 (bj aL))))))),λh=>aX⟩;exact ju
     |true=>
      refine⟨jt x.body,ZD,C2 _ (ax By (bj (aH jC (aj b1 (bj (aj (C7 x.body) ?_)))))),ax h1 (aj r9 (aY (aY (aY (aH hg (aj b2 (aY (aj (Gn x.body) aL)))))))),λ_=>⟨?_,λh=>by rw [h]at h1;cases h1⟩⟩
      ·cases jt x.body with
       |false=>exact QB
       |true=>refine bj (af ?_);erw [hc];rw [my,hd];rfl
      ·unfold uK at h2;cases h:x.kind==2 with
       |true=>exact .inr (.inl (eq_of_beq h))
       |false=>rw [h]at h2;exact .inr (.inr (.inl (eq_of_beq h2)))
  |false=>
   rw [h2]at j9 r9;have my:kk x.kind=x.kind:=by unfold kk;rw [h2];rfl
   have C2:∀r:UO,_->bK BB [bE x.kind,K0 p lf,ah (bf ro),.ab 0 cn,J (bB 0 c),A0 x,J (bB 0 c)] r:=λr h=>by
    refine C r (ax h1 (aj j9 (bj ?_)));exact Ga
   cases h4:x.kind==4 with
   |false=>exact⟨false,by unfold rI qn;rw [h1,h2,h4];rfl,C2 _ (ax h4 aL),ax h1 (aj r9 (bj (bj aL))),λh=>aX⟩
   |true=>
    cases h3:x.entry==0 with
    |false=>
     refine⟨false,by unfold rI qn;rw [h1,h2,h4,h3];rfl,C2 _ (br h4 (br (c:=x.entry != 0) (aiD) aL)),ax h1 (aj r9 (bj (aY (bj aL)))),λh=>aX⟩
    |true=>
     have By:(x.entry != 0)=false:=aiJ;cases hl:ln (x.E.map aP)==0 with
     |false=>
      rw [hl]at C2;refine⟨false,by unfold rI qn;rw [h1,h2,h4,h3,hl];rfl,C2 _ (br h4 (ax By (aY aL))),ax h1 (aj r9 (bj (aY (aY (bj aL))))),λh=>aX⟩
     |true=>
      rw [hl]at C2;cases hb:jt x.body with
      |false=>
       have n1:=C7 x.body;have m1:=Gn x.body;rw [hb]at n1 m1;exact⟨false,aiZ,C2 _ (br h4 (ax By (bj (aj n1 (aY aL))))),ax h1 (aj r9 (bj (aY (aY (aY (aj m1 (bj aL))))))),λh=>aX⟩
      |true=>
       have n1:=C7 x.body;have m1:=Gn x.body;rw [hb]at n1 m1;refine⟨jt x.after,aiZ,C2 _ (br h4 (ax By (bj (aj n1 (bj (aj (C7 x.after) ?_)))))),ax h1 (aj r9 (bj (aY (aY (aY (aj m1 (aY (aj (Gn x.after) aL)))))))),λ_=>⟨.inr (.inr (.inr (eq_of_beq h4))),λh=>by rw [h]at h1;cases h1⟩⟩;cases jt x.after with
       |false=>exact mW
       |true=>refine bj (af ?_);rw [my,hd];rfl
include hw in
theorem aOV(x:CA)(hk:x.kind=1∨x.kind=2∨x.kind=3∨x.kind=4)(ha:a<=mx)(ht:t<=mx)(he:e<=mx):
 bK U1 [iI (a:Int),iI (t:Int),iI (e:Int),bI p ts ro c,A0 x,bI p ts ro c] (0,[iI (na x.kind a:Int),iI (nt x.kind t:Int),iI (ne' x.kind e:Int),bI p ts ro c,A0 x,bI p ts ro (dA c x)]):=by
 have w1:∀{n:Nat},n<=mx->bw ((n:Int)+1)=((n+1:Nat):Int):=λ{n} h=>by simp only [mx]at h;rw [jI (by omega) (by omega)];omega
 refine bW ato ?_;rw [abV,abU,aaU,w1 ha,w1 ht,w1 he];rcases hk with h|h|h|h
 ·have h1:(x.kind==1)=true:=by rw [h];rfl
  refine br h1 (aj (apv (p:=p) (ts:=ts) (ro:=ro) hw x.entry) (af ?_));exact QF
 ·exact ax (gv) (ax (gv) (af (QF)))
 ·exact ax (gv) (ax (gv) (af (QF)))
 ·exact ax (gv) (br (gv) (af (QF)))
end
end
end Go.Proofs.YtomkobcipaligaaGreatDoor
namespace Go.aA
def J4{p:Prop}(h:p:=by rw [sJ];rfl):p:=h
end Go.aA
namespace Go.Proofs.YtomkobcipaligaaGreatDoor
open Go Go.aA
section
variable{As:List CA}{i:Nat}
section
variable {p:PG} {ts:List TK} {ro:List RO}
def Y2(h:i<As.length):xW (gA (As.map cu) ((i:Int).toNat))=cu As[i]:=by rw [fK h,aaU]
def aDr(h:i<As.length):cP B0 1 (gA (As.map cu) ((i:Int).toNat))=aP As[i].guard :=by rw [fK h,amO]
def alb(h:i<As.length):gI (gA (As.map cu) ((i:Int).toNat)) 0=As[i].kind :=by rw [fK h,abV]
def Hb{b c:Bool}{x y:bl}{m n:Nat}(h:(m,ak b::x)=(n,ak c::y)):b=c:=by
 injection h with _ h;injection h with h _;injection h
def CT.self(ct:CT p ts ro):CT p p.tasks ro:={ct with same:=⟨rfl,λ_=>rfl⟩}
def Al(p:PG)(ro:List RO)(c:WH)(x:CA):Prop:=Ev zL [bI p p.tasks ro c,J (aP x.guard)] (0,[cw])∧∃nb,(∀e,x.E=[e]->Ev sF [bI p p.tasks ro c,J (aP e)] (0,[ak nb]))∧rI p c x nb=true
def y7:List CA->Nat×Nat×Nat->Nat×Nat×Nat
 | [],s=>s
 |x::xs,(a,t,e)=>y7 xs (na x.kind a,nt x.kind t,ne' x.kind e)
def Ll(p:PG)(ts:List TK)(ro:List RO)(c:WH)(S:AV)(b:Bool)(dm:Int)(tE:aW)(k:Nat×Nat×Nat)(o:UO):Prop:=
 if b=true then∃a t e:Nat,k=(a,t,e)∧CM tE a t e∧a+t+e<=mx∧o=(1,[iI dm,iI (a:Int),iI (t:Int),iI (e:Int),bI p ts ro c,S])
 else o=(0,[iI (-1),bI p ts ro c,S])∨∃a t e:Int,o=(1,[iI (-1),iI a,iI t,iI e,bI p ts ro c,S])
def aFO{V:WH->CS->Prop}(ct:CT p ts ro)(hE:kO){c:WH}(hw:WI p c)(h3:(c.lg.length:Int)+1<=c.deep){f:dk}{L D H:aW}(hl:As.length<=mx)(hx:∀x∈As,x.qE)(hk:∀x∈As,nR p ts ro V x.body∧nR p ts ro V x.after):
 ∀lf cn cc,ST p lf cn cc->∃b dm df tE,az (au df)=df∧az (au tE)=tE∧
  bP xT [c8 (As.map cu),iI (ln (As.map cu)),iI 0,K0 p lf,ah (bf ro),.ab 0 cn,J (bB 0 c),.ab 0 (az [])]
   (bif b then(1,[K0 p dm,ah (bf ro),.ab 0 df,J (bB 0 c),.ab 0 tE])else(0,[aq,K0 p dm,ah (bf ro),.ab 0 df,J (bB 0 c),.ab 0 tE]))∧
  (∃o,bP tU [iI lf,iI 0,iI 0,iI 0,iI 0,bI p ts ro c,SF f L D H (As.map cu)] o∧Ll p ts ro c (SF f L D H (As.map cu)) b dm tE (y7 As (0,0,0)) o)∧(b=true->ST p dm df λt=>cc t+qP As t)∧Cn b lf dm (∀j (h:j<As.length),(Al p ro c As[j]∧qn As[j]=true)∧V (dA c As[j]) As[j].body ∧V c As[j].after) (kc As).length :=by
 have HC:=hw.ok;have qg:∀{i:Nat} {n a t e:Int},i=As.length∨n<0->bP tU [iI n,iI a,iI t,iI e,iI (i:Int),bI p ts ro c,SF f L D H (As.map cu)] (1,[iI n,iI a,iI t,iI e,bI p ts ro c,SF f L D H (As.map cu)]):=λ{i n a t e} h=>by
  have j0:bK Ix [iI n,iI (i:Int),SF f L D H (As.map cu)] (1,[SF f L D H (As.map cu)]):=by
   refine bW Vd (aw (c:=decide ((i:Int)<ln (As.map cu))) (λa=>aw (c:=decide (0<=n)) (λb=> ?_) λb=>aL) λa=>aL);exact Rb
  exact bD Vu (aj j0 (bj aL))
 have k:=fH (m:=As.length) (P:=λi=>∀lf cn cc,ST p lf cn cc->∀mm (a t e:Nat),CM mm a t e->a+t+e=i->∃b dm df tE,az (au df)=df∧az (au tE)=tE∧
  bP xT [c8 (As.map cu),iI (ln (As.map cu)),iI (i:Int),K0 p lf,ah (bf ro),.ab 0 cn,J (bB 0 c),.ab 0 mm]
   (bif b then(1,[K0 p dm,ah (bf ro),.ab 0 df,J (bB 0 c),.ab 0 tE])else(0,[aq,K0 p dm,ah (bf ro),.ab 0 df,J (bB 0 c),.ab 0 tE]))∧
  (∃o,bP tU [iI lf,iI (a:Int),iI (t:Int),iI (e:Int),iI (i:Int),bI p ts ro c,SF f L D H (As.map cu)] o∧Ll p ts ro c (SF f L D H (As.map cu)) b dm tE (y7 (As.drop i) (a,t,e)) o)∧(b=true->ST p dm df λt=>cc t+qP (As.drop i) t)∧Cn b lf dm (∀j (h:j<As.length),i<=j->(Al p ro c As[j]∧qn As[j]=true)∧V (dA c As[j]) As[j].body ∧V c As[j].after) (kc (As.drop i)).length)
  (λlf cn cc st mm a t e hm hs=>⟨true,lf,cn,mm,st.pk,hm.pk,bD acM (ax dY (af (by rw [st.pk,hm.pk];rfl))),⟨_,qg (.inl rfl),by unfold Ll;rw [if_pos rfl];exact⟨a,t,e,yu,hm,by omega,rfl⟩⟩,(λ_=>st.ext λt=>by rw [gK];simp [qP]),Cn.nil st.lo (λj h1 h2=>by omega) (yu)⟩)
  λi hi ih lf cn cc st mm a t e hm hs=>by
   have hZ:=dy hi;have eA:A0 As[i]= J (xW (gA (As.map cu) ((i:Int).toNat))):=by rw [Y2 hi]
   obtain⟨bc,q1,q2⟩:=Ru ct HC st.pk (lf:=lf) hE As[i].guard (hx _ hZ).guard;obtain⟨nb,Bs⟩:=aox ct HC st.pk (lf:=lf) hE As[i].E (hx _ hZ).E.2;obtain⟨b,a0,a1,a2,a3⟩:=aOW ct HC st.pk (lf:=lf) hE As[i] (hx _ hZ) Bs;have hAl:(bc=true∧b=true) ↔ (Al p ro c As[i]∧qn As[i]=true):=by
    obtain⟨bc',p1,p2⟩:=Ru ct.self HC st.pk (lf:=lf) hE As[i].guard (hx _ hZ).guard;obtain⟨nb',abE⟩:=aox ct.self HC st.pk (lf:=lf) hE As[i].E (hx _ hZ).E.2;have ebc:bc=bc':=Hb (q1.uniq p1);have enb:∀e,As[i].E =[e]->nb=nb':=λe he=>Hb ((Bs e he).1.uniq (abE e he).1);refine⟨λ⟨fj,hb⟩=> ?_,λ⟨⟨g,nb2,hn2,hal⟩,LP⟩=> ?_⟩
    ·rw [a0,bM]at hb;exact⟨⟨by rw [ebc.symm.trans fj]at p2;exact p2,nb',λe he=>(abE e he).2,by rw [<-ag8 enb];exact hb.1⟩,hb.2⟩
    ·refine⟨by rw [ebc];exact Hb (p2.uniq g),?_⟩;rw [a0,LP,ag8 (n:=nb2) λe he=>(enb e he).trans (Hb ((abE e he).2.uniq (hn2 e he))),hal];rfl
   have hlen:(kc (As.drop i)).length =(ez As[i].body).length +((ez As[i].after).length +(kc (As.drop (i+1))).length):=by rw [aBi hi,e7,YJ,e7];omega
   have a2:=a2 bc q2;rw [<-aDr hi]at q1;have j0:bK Ix [iI lf,iI (i:Int),SF f L D H (As.map cu)] (0,[SF f L D H (As.map cu)]):=
    bW Vd (br (dx (f:=cu) hi) (br (Qv) aL))
   have C:∀r:UO,_->bP xT [c8 (As.map cu),iI (ln (As.map cu)),iI (i:Int),K0 p lf,ah (bf ro),.ab 0 cn,J (bB 0 c),.ab 0 mm] r:=λr h=>by
    refine bD acM (br (dx hi) (aH (cN hi) ?_));rw [st.pk,hm.pk];refine aj q1 ?_;exact h
   have R:∀r:UO,_->bP tU [iI lf,iI (a:Int),iI (t:Int),iI (e:Int),iI (i:Int),bI p ts ro c,SF f L D H (As.map cu)] r:=λr h=>by
    refine bD Vu (aj j0 (aY (aH (cN (f:=cu) hi) ?_)));have a2':=a2;rw [eA]at a2';refine aj a2' ?_;exact h
   cases bc with
   |false=>
    refine⟨false,lf,cn,mm,st.pk,hm.pk,C _ (aY (af ?_)),⟨_,R _ (aY aL),.inl rfl⟩,(λh=>aX),Cn.bad λh=>by cases(hAl.2 (h i hi (fk _)).1).1⟩;erw [st.pk];rfl
   |true=>
    rw [eA,<-alb hi]at a1;cases b with
    |false=>
     refine⟨false,lf,cn,mm,st.pk,hm.pk,C _ (bj ?_),⟨_,R _ (aY aL),.inl rfl⟩,(λh=>aX),Cn.bad λh=>by cases(hAl.2 (h i hi (fk _)).1).2⟩;erw [st.pk];refine aj a1 (bj (af ?_));erw [st.pk];rfl
    |true=>
     obtain⟨nH,aOm⟩:=a3 rfl;have hm2:=hm.put nH;have hcu:=hm.look nH;have r1:=aOV (p:=p) (ts:=ts) (ro:=ro) HC As[i] (a:=a) (t:=t) (e:=e) nH (by omega) (by omega) (by omega);rw [eA]at r1;have aoP:na As[i].kind a+nt As[i].kind t+ne' As[i].kind e=i+1:=by
      unfold na nt ne';rcases nH with h|h|h|h<;>rw [h]<;>simp<;>omega
     have wd:WI p (dA c As[i]):=by
      unfold dA;cases h1:As[i].kind ==1 with
      |false=>exact hw
      |true=>
       have oY:(0:Int)<=c.deep:=by have:=hw.l1;omega
       refine⟨⟨.inr (aOm (eq_of_beq h1)),hw.dN.act,hw.dN.task⟩,?_,hw.l2,?_,hw.l4,hw.l5,hw.d⟩
       ·simpa [vN,ig]using oY
       ·simpa [vN,ig]using h3
     obtain⟨ho,hv⟩:=hk _ hZ;obtain⟨b,l1,c1,iG,e1,f1,g1,s1⟩:=ho _ wd lf cn cc st;have ub:encS As[i].body =cP dG 12 (xW (gA (As.map cu) ((i:Int).toNat))):=by rw [Y2 hi,GM]
     have ua:encS As[i].after =cP dG 33 (xW (gA (As.map cu) ((i:Int).toNat))):=by rw [Y2 hi,GN]
     rw [ub]at e1 f1;have iu:∃Bi:aW,CM Bi (na As[i].kind a) (nt As[i].kind t) (ne' As[i].kind e)∧(∀r:UO,E (λN m=>bO (FU CX EE N kq [J (bB 0 (dA c As[i])),J (cP dG 12 (xW (gA (As.map cu) ((i:Int).toNat)))),K0 p lf,ah (bf ro),.ab 0 cn]) λ_ dc=>bif !(gB dc 0)then some (0,[aq,J (sT (aF (gC dc 1)) aM),ah (gR dc 2),.ab 0 (az (au (gR dc 3))),J (bB 0 c),.ab 0 Bi])else bO (FU CX EE N kq [J (bB 0 c),J (cP dG 33 (xW (gA (As.map cu) ((i:Int).toNat)))),J (sT (aF (gC dc 1)) aM),ah (gR dc 2),.ab 0 (az (au (gR dc 3)))]) λ_ dr=>bif !(gB dr 0)then some (0,[aq,J (sT (aF (gC dr 1)) aM),ah (gR dr 2),.ab 0 (az (au (gR dr 3))),J (bB 0 c),.ab 0 Bi])else xT (FU CX EE N) N m [c8 (As.map cu),iI (ln (As.map cu)),iI (bw ((i:Int)+1)),J (sT (aF (gC dr 1)) aM),ah (gR dr 2),.ab 0 (az (au (gR dr 3))),J (bB 0 c),.ab 0 Bi]) r->
      bP xT [c8 (As.map cu),iI (ln (As.map cu)),iI (i:Int),K0 p lf,ah (bf ro),.ab 0 cn,J (bB 0 c),.ab 0 mm] r):=by
      refine⟨_,hm2,λr h=>C r (bj ?_)⟩;erw [st.pk];refine aj a1 (aY ?_);show E (λN m=>match dR (au mm) (bE (kk (gI (gA (As.map cu) ((i:Int).toNat)) 0)))with|some DV=>_|none=>_) r;rw [alb hi,hcu]
      by_cases h0:cur As[i].kind a t e=0
      ·rw [if_pos h0];rw [h0]at h;erw [st.pk];exact h
      ·rw [if_neg h0];have eJ:cur As[i].kind a t e<=mx:=by
        unfold cur;split
        ·omega
        ·split<;>omega
       have:bw ((iI ((cur As[i].kind a t e:Nat):Int)).toI +1)=((cur As[i].kind a t e+1:Nat):Int):=by
        show bw (((cur As[i].kind a t e:Nat):Int)+1)=_;simp only [mx]at eJ;exact vF
       rw [<-this]at h;erw [st.pk];exact h
     obtain⟨Bi,Md,CC⟩:=iu;have RR:∀r:UO,E (λN m=>bif decide (0<=(bif b then l1 else-1))then bO (FU CX EE N p7 [bI p ts ro c,J (cP dG 33 (xW (gA (As.map cu) ((i:Int).toNat)))),iI (bif b then l1 else-1)]) λ_ o9=>tU (FU CX EE N) N m [iI (gI o9 0),iI (na As[i].kind a:Int),iI (nt As[i].kind t:Int),iI (ne' As[i].kind e:Int),iI (bw ((i:Int)+1)),bI p ts ro c,SF f L D H (As.map cu)]else tU (FU CX EE N) N m [iI (bif b then l1 else-1),iI (na As[i].kind a:Int),iI (nt As[i].kind t:Int),iI (ne' As[i].kind e:Int),iI (bw ((i:Int)+1)),bI p ts ro c,SF f L D H (As.map cu)]) r->
      bP tU [iI lf,iI (a:Int),iI (t:Int),iI (e:Int),iI (i:Int),bI p ts ro c,SF f L D H (As.map cu)] r:=λr h=>by
      refine R r (bj (aj r1 (aj f1 ?_)));exact h
     rw [ix hi hl]at CC RR;cases b with
     |false=>
      refine⟨false,l1,c1,Bi,iG,Md.pk,CC _ (aj e1 (aY (af ?_))),⟨_,RR _ (bj (qg (.inr (px)))),.inr ⟨_,_,_,rfl⟩⟩,(λh=>aX),s1.no (λh=>(h i hi (fk _)).2.1) (by omega)⟩;erw [iG];rfl
     |true=>
      have c7:=g1 rfl;obtain⟨b,l2,c2,js,e2,f2,g2,s2⟩:=hv _ hw l1 c1 _ c7;rw [ua]at e2 f2;cases b with
      |false=>
       refine⟨false,l2,c2,Bi,js,Md.pk,CC _ (aj e1 (bj ?_)),⟨_,RR _ (br (by simpa using c7.lo) (aj f2 (qg (.inr (px))))),.inr ⟨_,_,_,rfl⟩⟩,(λh=>aX),(s1.then s2 qJ rfl).no (λh=>(h i hi (fk _)).2) (by omega)⟩;erw [iG];refine aj e2 (aY (af ?_));erw [js];rfl
      |true=>
       obtain⟨b,l3,c3,m3,Bg,pm3,u1,⟨o,u2,u3⟩,u4,u5⟩:=ih l2 c2 _ (g2 rfl) Bi _ _ _ Md aoP;refine⟨b,l3,c3,m3,Bg,pm3,CC _ (aj e1 (bj ?_)),⟨o,RR _ (br (by simpa using c7.lo) (aj f2 u2)),by rw [fW hi];exact u3⟩,λh=>(u4 h).ext λt=> ?_,Cn.ab3 (hAl.1 ⟨rfl,rfl⟩) (s1.then (s2.then u5 qJ rfl) qJ rfl) ⟨λh=>⟨(h i hi (fk _)).1,(h i hi (fk _)).2.1,(h i hi (fk _)).2.2,λj h1 h2=>h j h1 (by omega)⟩,λ⟨h,h',h'',g⟩ j h1 h2=> ?_⟩ hlen⟩
       ·erw [iG];refine aj e2 (bj ?_);erw [js];exact u1
       ·rw [fW hi];simp only [qP,ahX];omega
       ·by_cases hj:j=i
        ·subst hj;exact⟨h,h',h''⟩
        ·exact g j h1 (by omega)
 intro lf cn cc st;have:=k lf cn cc st (az []) 0 0 0 ⟨wV,J4,J4,J4⟩ rfl;rw [gJ]at this;simpa using this
end
end
end Go.Proofs.YtomkobcipaligaaGreatDoor
namespace Go.aA
def Qy{p:Prop}(h:p:=by
 refine aj e1 ?_;exact h):p:=h
end Go.aA
namespace Go.aA
def Js:=@Int.add_zero
end Go.aA
namespace Go.Proofs.YtomkobcipaligaaGreatDoor
open Go Go.aA
section
variable{els:Bool}{s0:CS}{f:dk}{lf x:Int}{a e t:Nat}{A D H cn mm:aW}
section
variable {p:PG} {ts:List TK} {ro:List RO}
def rH(f:dk)(s0:CS)(A:aW):Bool:=bif decide (ln A<1)then false else bif decide (16<ln A)then false else bif !f.els then jt s0 else true
def chC(hc:az (au cn)=cn):
 bK Ux [K0 p lf,ah (bf ro),.ab 0 cn,SF f [encS s0] D H A]
  (bif rH f s0 A then(0,[K0 p lf,ah (bf ro),.ab 0 cn,SF f [encS s0] D H A])else(1,[aq,K0 p lf,ah (bf ro),.ab 0 cn,SF f [encS s0] D H A])):=by
 have u0:dJ (gA [encS s0] 0)=encS s0:=fF s0;have n0:=C7 s0;rw [<-u0]at n0;refine bW asb ?_;rw [hc];refine aw (c:=decide (ln A<1)) (λa=>af (by unfold rH;rw [a];rfl)) λa=>aw (c:=decide (16<ln A)) (λb=>af (by unfold rH;rw [a,b];rfl)) λb=>aw (c:= !f.els) (λd=>aH rfl (aj n0 (aw (c:= !jt s0) (λg=>af ?_) λg=>af ?_))) λd=>af ?_
 ·simp only [dX]at g;unfold rH;rw [a,b,d,g];rfl
 ·simp only [dL]at g;unfold rH;rw [a,b,d,g];rfl
 ·unfold rH;rw [a,b,d];rfl
def chR:
 bK WN [SF f [encS s0] D H A]
  (bif rH f s0 A then(0,[SF f [encS s0] D H A])else(1,[iI (-1),SF f [encS s0] D H A])):=by
 have u0:dJ (gA [encS s0] 0)=encS s0:=fF s0;have n0:=Gn s0;rw [<-u0]at n0;refine bW ayv ?_;refine aw (c:=decide (ln A<1)) (λa=>af (by unfold rH;rw [a];rfl)) λa=>aw (c:=decide (16<ln A)) (λb=>af (by unfold rH;rw [a,b];rfl)) λb=>aw (c:= !f.els) (λd=>aH rfl (aj n0 (aw (c:= !jt s0) (λg=>af ?_) λg=>af ?_))) λd=>af ?_
 ·simp only [dX]at g;unfold rH;rw [a,b,d,g];rfl
 ·simp only [dL]at g;unfold rH;rw [a,b,d,g];rfl
 ·unfold rH;rw [a,b,d];rfl
def tb(t:Nat):Int:=if t=0 then 0 else 1
def nU(els:Bool)(a t e:Nat):Bool:=decide (0<a)&&decide ((e:Int)+tb t+(bif els then 1 else 0)<=1)
def aFm(t:Nat):0<=tb t∧tb t<=1:=by unfold tb;split<;>omega
def aoL(h0:0<=x)(h1:x<=mx)(hc:az (au cn)=cn)(hm:CM mm a t e):
 bK MJ [iI x,K0 p lf,ah (bf ro),.ab 0 cn,.ab 0 mm] (0,[iI (x+tb t),K0 p lf,ah (bf ro),.ab 0 cn,.ab 0 mm]):=by
 refine bW arh ?_;rw [hc,hm.pk,hm.f2];have hx:bw (x+1)=x+1:=by simp only [mx]at h1;rw [jI (by omega) (by omega)]
 unfold tb
 by_cases h:t=0
 ·rw [if_pos h,if_pos h,Js];exact aL
 ·rw [if_neg h,if_neg h];refine br (c:=decide (0<(iI (t:Int)).toI)) ?_ (af (by rw [hx];rfl));show decide (0<(t:Int))=true;exact eu
def apo(hc:az (au cn)=cn)(hm:CM mm a t e)(hx:x=(e:Int)+tb t)(h0:e<=mx):
 E (λ_ _=>bif els then match dR (au mm) (bE 1)with|some LC=>(bif decide (0<LC.toI)then some (0,[ak (decide (bw (x+1)<=1)),K0 p lf,ah (bf ro),.ab 0 cn])else some (0,[aq,K0 p lf,ah (bf ro),.ab 0 cn]))|none=>(some (0,[aq,K0 p lf,ah (bf ro),.ab 0 cn]))else match dR (au mm) (bE 1)with|some LB=>(bif decide (0<LB.toI)then some (0,[ak (decide (x<=1)),K0 p lf,ah (bf ro),.ab 0 cn])else some (0,[aq,K0 p lf,ah (bf ro),.ab 0 cn]))|none=>(some (0,[aq,K0 p lf,ah (bf ro),.ab 0 cn])))
  (0,ak (nU els a t e)::fR p ro lf cn):=by
 have ht:=aFm t;rw [hm.f1]
 by_cases h:a=0
 ·rw [if_pos h];have:nU els a t e=false:=by unfold nU;rw [h];rfl
  rw [this];cases els<;>exact aL
 ·rw [if_neg h];have hd:decide (0<(iI (a:Int)).toI)=true:=by
   show decide (0<(a:Int))=true;exact eu
  have ha:decide (0<a)=true:=eu;simp only [mx]at h0;cases els with
  |true=>
   refine aY (br hd (af ?_));have hw:bw (x+1)=(e:Int)+tb t+1:=by rw [jI (by omega) (by omega),hx]
   unfold nU;rw [ha,hw];rfl
  |false=>
   refine bj (br hd (af ?_));unfold nU;rw [ha,hx,cE,Js];rfl
def aOE{n:Int}(h0:e<=mx):
 E (λ_ _=>bif decide (0<(t:Int))then bif els then bif (a:Int)==0 then some (0,[iI ((-1))])else bif decide (1<(e:Int))then some (0,[iI ((-1))])else bif decide (1<bw (2+(e:Int)))then some (0,[iI ((-1))])else some (0,[iI n])else bif (a:Int)==0 then some (0,[iI ((-1))])else bif decide (1<(e:Int))then some (0,[iI ((-1))])else bif decide (1<bw (1+(e:Int)))then some (0,[iI ((-1))])else some (0,[iI n])else bif els then bif (a:Int)==0 then some (0,[iI ((-1))])else bif decide (1<(e:Int))then some (0,[iI ((-1))])else bif decide (1<bw (1+(e:Int)))then some (0,[iI ((-1))])else some (0,[iI n])else bif (a:Int)==0 then some (0,[iI ((-1))])else bif decide (1<(e:Int))then some (0,[iI ((-1))])else bif decide (1<bw (0+(e:Int)))then some (0,[iI ((-1))])else some (0,[iI n]))
  (0,[iI (bif nU els a t e then n else-1)]):=by
 simp only [mx]at h0;have one:∀s:Int,0<=s->s<=2->tb t+(bif els then 1 else 0)=s->E (λ_ _=>bif (a:Int)==0 then some (0,[iI ((-1))])else bif decide (1<(e:Int))then some (0,[iI ((-1))])else bif decide (1<bw (s+(e:Int)))then some (0,[iI ((-1))])else some (0,[iI n])) (0,[iI (bif nU els a t e then n else-1)]):=λs s0 s2 hs=>by
  have hw:bw (s+(e:Int))=s+e:=jI (by omega) (by omega);rw [hw];refine aw (λh=>af ?_) λh=>aw (λh1=>af ?_) λh1=>aw (λh2=>af ?_) λh2=>af ?_
  ·have:nU els a t e=false:=by unfold nU;simp at h;rw [h];rfl
   exact fa
  ·have:nU els a t e=false:=by
    unfold nU;simp at h1;have:decide ((e:Int)+tb t+(bif els then 1 else 0)<=1)=false:=eu;rw [this,ph]
   exact fa
  ·have:nU els a t e=false:=by
    unfold nU;simp at h2;have:decide ((e:Int)+tb t+(bif els then 1 else 0)<=1)=false:=eu;rw [this,ph]
   exact fa
  ·have:nU els a t e=true:=by
    unfold nU;simp at h h2;have h3:decide ((e:Int)+tb t+(bif els then 1 else 0)<=1)=true:=eu;have h4:decide (0<a)=true:=eu;rw [h3,h4];rfl
   exact fa
 by_cases ht:t=0
 ·have t0:tb t=0:=by unfold tb;rw [if_pos ht]
  refine ax (eu) ?_;cases els with
  |true=>exact aY (one 1 (by omega) (by omega) (by rw [t0];rfl))
  |false=>exact bj (one 0 (by omega) (by omega) (by rw [t0];rfl))
 ·have t0:tb t=1:=by unfold tb;rw [if_neg ht]
  refine br (eu) ?_;cases els with
  |true=>exact aY (one 2 (by omega) (by omega) (by rw [t0];rfl))
  |false=>exact bj (one 1 (by omega) (by omega) (by rw [t0];rfl))
def apn{a t e:Int}:
 E (λ_ _=>bif decide (0<t)then bif els then bif a==0 then some (0,[iI ((-1))])else bif decide (1<e)then some (0,[iI ((-1))])else bif decide (1<bw (2+e))then some (0,[iI ((-1))])else some (0,[iI (-1)])else bif a==0 then some (0,[iI ((-1))])else bif decide (1<e)then some (0,[iI ((-1))])else bif decide (1<bw (1+e))then some (0,[iI ((-1))])else some (0,[iI (-1)])else bif els then bif a==0 then some (0,[iI ((-1))])else bif decide (1<e)then some (0,[iI ((-1))])else bif decide (1<bw (1+e))then some (0,[iI ((-1))])else some (0,[iI (-1)])else bif a==0 then some (0,[iI ((-1))])else bif decide (1<e)then some (0,[iI ((-1))])else bif decide (1<bw (0+e))then some (0,[iI ((-1))])else some (0,[iI (-1)]))
  (0,[iI (-1)]):=by
 have one:∀s:Int,E (λ_ _=>bif a==0 then some (0,[iI ((-1))])else bif decide (1<e)then some (0,[iI ((-1))])else bif decide (1<bw (s+e))then some (0,[iI ((-1))])else some (0,[iI (-1)])) (0,[iI (-1)]):=λs=>
  aw (λ_=>aL) λ_=>aw (λ_=>aL) λ_=>aw (λ_=>aL) λ_=>aL
 exact aw (λ_=>aw (λ_=>one 2) λ_=>one 1) λ_=>aw (λ_=>one 1) λ_=>one 0
def Se(V:WH->CS->Prop)(p:PG)(ro:List RO)(c:WH)(f:dk)(s0:CS)(As:List CA):Prop:=
 rH f s0 (As.map cu)=true∧V (rq c) s0∧(∀j (h:j<As.length),(Al p ro (rq c) As[j]∧qn As[j]=true)∧V (dA (rq c) As[j]) As[j].body ∧V (rq c) As[j].after)∧nU f.els (y7 As (0,0,0)).1 (y7 As (0,0,0)).2.1 (y7 As (0,0,0)).2.2 =true
def chE{V:WH->CS->Prop}(ct:CT p ts ro)(hE:kO){c:WH}(hw:WI p c)(h3:(c.lg.length:Int)+1<=c.deep){As:List CA}(hl:As.length<=mx)(hx:∀x∈As,x.qE)(k0:nR p ts ro V s0)(hk:∀x∈As,nR p ts ro V x.body∧nR p ts ro V x.after){cc:Int->Nat}(st:ST p lf cn cc):∃b dm df,az (au df)=df∧
 Ev Ih [J (bB 0 c),SF f [encS s0] D H (As.map cu),K0 p lf,ah (bf ro),.ab 0 cn] (0,ak b::fR p ro dm df)∧
 Ev Fh [bI p ts ro c,SF f [encS s0] D H (As.map cu),iI lf] (0,[iI (bif b then dm else-1)])∧(b=true->ST p dm df λt=>cc t+(jW s0 t+qP As t))∧Cn b lf dm (Se V p ro c f s0 As) ((ez s0).length +(kc As).length):=by
 have u0:dJ (gA [encS s0] 0)=encS s0:=fF s0;have a1:=chC (p:=p) (ro:=ro) (f:=f) (s0:=s0) (D:=D) (H:=H) (A:=As.map cu) (lf:=lf) st.pk;have r1:=chR (f:=f) (s0:=s0) (D:=D) (H:=H) (A:=As.map cu);have C:∀r:UO,_->Ev Ih [J (bB 0 c),SF f [encS s0] D H (As.map cu),K0 p lf,ah (bf ro),.ab 0 cn] r:=λr h=>by
  refine bx atA ?_;rw [st.pk];refine aj a1 ?_;exact h
 have R:∀r:UO,_->Ev Fh [bI p ts ro c,SF f [encS s0] D H (As.map cu),iI lf] r:=λr h=>by
  refine bx aAb (aj r1 ?_);exact h
 cases hb:rH f s0 (As.map cu)with
 |false=>
  rw [hb]at C R;refine⟨false,lf,cn,st.pk,C _ (bj (af ?_)),R _ (bj aL),(λh=>aX),Cn.bad λh=>by have:=h.1;rw [hb]at this;cases this⟩;erw [st.pk];rfl
 |true=>
  rw [hb]at C R;simp only [cf]at C R;have wq:WI p (rq c):=hw.of rfl (.inl (px)) rfl hw.l1 hw.l2 hw.l3 hw.l5 rfl;obtain⟨b,l1,c1,iG,e1,f1,g1,s1⟩:=k0 (rq c) wq lf cn cc st;rw [<-u0]at e1 f1;have C2:∀r:UO,_->Ev Ih [J (bB 0 c),SF f [encS s0] D H (As.map cu),K0 p lf,ah (bf ro),.ab 0 cn] r:=λr h=>by
   refine C r (aY (aH rfl ?_));erw [st.pk];exact Qy
  have R2:∀r:UO,_->Ev Fh [bI p ts ro c,SF f [encS s0] D H (As.map cu),iI lf] r:=λr h=>by
   refine R r (aY (aH rfl (aj f1 ?_)));exact h
  cases b with
  |false=>
   have j2:bK Ix [iI (-1),iI 0,SF f [encS s0] D H (As.map cu)] (1,[SF f [encS s0] D H (As.map cu)]):=
    bW Vd (aw (c:=decide ((0:Int)<ln (As.map cu))) (λ_=>bj aL) λ_=>aL)
   have jl:bP tU [iI (-1),iI 0,iI 0,iI 0,iI 0,bI p ts ro (rq c),SF f [encS s0] D H (As.map cu)] (1,[iI (-1),iI 0,iI 0,iI 0,bI p ts ro (rq c),SF f [encS s0] D H (As.map cu)]):=
    bD Vu (aj j2 (bj aL))
   have vL:bK BT [iI (-1),iI 0,iI 0,iI 0,bI p ts ro (rq c),SF f [encS s0] D H (As.map cu)] (0,[iI (-1),iI 0,iI 0,iI 0,bI p ts ro (rq c),SF f [encS s0] D H (As.map cu)]):=
    bW Nk (aj jl.diag (bj aL))
   refine⟨false,l1,c1,iG,C2 _ (aY (af ?_)),R2 _ (aj vL (aY (apn (els:=f.els)))),(λh=>aX),s1.no (λh=>h.2.1) (by omega)⟩;erw [iG];rfl
  |true=>
   have c7:=g1 rfl;obtain⟨b,l2,c2,mm,js,pm2,e2,⟨o,f2,ho⟩,g2,s2⟩:=aFO ct hE (c:=rq c) wq h3 (f:=f) (L:=[encS s0]) (D:=D) (H:=H) hl hx hk l1 c1 _ c7;have R3:∀r o',bK BT [iI l1,iI 0,iI 0,iI 0,bI p ts ro (rq c),SF f [encS s0] D H (As.map cu)] o'->_->Ev Fh [bI p ts ro c,SF f [encS s0] D H (As.map cu),iI lf] r:=λr o' h1 h2=>by
    refine R2 r (aj h1 ?_);exact h2
   cases b with
   |false=>
    refine⟨false,l2,c2,js,C2 _ (bj ?_),?_,(λh=>aX),(s1.then s2 qJ rfl).no (λh=>⟨h.2.1,h.2.2.1⟩) (by omega)⟩
    ·erw [iG];refine aj e2.diag (aY (af ?_));erw [js];rfl
    ·unfold Ll at ho;rw [if_neg (by simp)]at ho;rcases ho with rfl|⟨a,t,e,rfl⟩
     ·have vL:bK BT [iI l1,iI 0,iI 0,iI 0,bI p ts ro (rq c),SF f [encS s0] D H (As.map cu)] (1,[iI (-1),bI p ts ro (rq c),SF f [encS s0] D H (As.map cu)]):=
       bW Nk (aj f2.diag (aY aL))
      exact R3 _ _ vL (bj aL)
     ·have vL:bK BT [iI l1,iI 0,iI 0,iI 0,bI p ts ro (rq c),SF f [encS s0] D H (As.map cu)] (0,[iI (-1),iI a,iI t,iI e,bI p ts ro (rq c),SF f [encS s0] D H (As.map cu)]):=
       bW Nk (aj f2.diag (bj aL))
      exact R3 _ _ vL (aY (apn (els:=f.els)))
   |true=>
    unfold Ll at ho;rw [if_pos rfl]at ho;obtain⟨a,t,e,hk,hm,aoP,rfl⟩:=ho;have HO:Cn (nU f.els a t e) lf l2 (Se V p ro c f s0 As) ((ez s0).length +(kc As).length):=by
     have s3:=s1.then s2 qJ rfl;have hR:Se V p ro c f s0 As ↔ nU f.els a t e=true∧(V (rq c) s0∧∀j (h:j<As.length),(Al p ro (rq c) As[j]∧qn As[j]=true)∧V (dA (rq c) As[j]) As[j].body ∧V (rq c) As[j].after):=by
      unfold Se;rw [hk];exact⟨λh=>⟨h.2.2.2,h.2.1,h.2.2.1⟩,λh=>⟨hb,h.2.1,h.2.2,h.1⟩⟩
     cases bz:nU f.els a t e with
     |true=>exact Cn.ab3 bz s3 hR rfl
     |false=>exact Cn.bad λh=>by have:=(hR.1 h).1;rw [bz]at this;cases this
    have vL:bK BT [iI l1,iI 0,iI 0,iI 0,bI p ts ro (rq c),SF f [encS s0] D H (As.map cu)] (0,[iI l2,iI (a:Int),iI (t:Int),iI (e:Int),bI p ts ro (rq c),SF f [encS s0] D H (As.map cu)]):=
     bW Nk (aj f2.diag (bj aL))
    refine⟨nU f.els a t e,l2,c2,js,C2 _ (bj ?_),R3 _ _ vL (aY (aOE (els:=f.els) (n:=l2) (by omega))),(λ_=>(g2 rfl).ext λt=>by omega),HO⟩;erw [iG];refine aj e2.diag (bj ?_);have D4:e<=mx:=by omega
    show E (λN m=>match dR (au mm) (bE 4)with|some DV=>_|none=>_) _;rw [hm.f4]
    by_cases h0:e=0
    ·rw [if_pos h0];have j:=aoL (p:=p) (ro:=ro) (x:=0) (by omega) (Gg) (lf:=l2) js hm;erw [js,hm.pk];refine aj j ?_;erw [js];exact apo (els:=f.els) js hm (x:=0+tb t) (by rw [h0];rfl) D4
    ·rw [if_neg h0];have j:=aoL (p:=p) (ro:=ro) (x:=(e:Int)) (by omega) (by simp only [mx]at D4⊢;omega) (lf:=l2) js hm;erw [js,hm.pk];refine aj j ?_;erw [js];exact apo (els:=f.els) js hm (x:=(e:Int)+tb t) rfl D4
end
end
end Go.Proofs.YtomkobcipaligaaGreatDoor
namespace Go.aA
def mh{p:Prop}(h:p:=by rw [hk];rfl):p:=h
def alO{p:Prop}(h:p:=by
 refine aw (c:=decide (0<=f.P)) (λh0=>ax (c:=decide (f.P<ln (p.dw.map fA))) ?_ aL) λ_=>aL;rcases hn with hn|hn
 ·rw [hn]at h0;cases h0
 ·exact hn):p:=h
end Go.aA
namespace Go.aA
def PQ:=@List.isEmpty_iff
end Go.aA
namespace Go.Proofs.YtomkobcipaligaaGreatDoor
open Go Go.aA
section
variable{b:Bool}{f:dk}{lf dm:Int}{Ls:List CS}{i:Nat}{ctx:Nat->WH}{c w:WH}{A D H L cn df:aW}
section
variable {p:PG} {ts:List TK} {ro:List RO}
def aEN{k:Int}(h:k=14∨k=16∨k=17∨k=18∨k=20):DX k=false∧Du k=false:=by
 rcases h with rfl|rfl|rfl|rfl|rfl<;>exact⟨rfl,rfl⟩
def aGX(ct:CT p ts ro)(hw:w.Ok)(h:Ev uY [bI p ts ro w,SF f L D H A] (0,[cw]))
 (LM:f.kind=17->∃b,Ev EV [bI p ts ro w,SF f L D H A,iI 3] (0,[ak b])):(f.kind=18->jx p w.task f.entry=true)∧(f.kind=17∨f.kind=20->ib f.P p.dw.length=true):=by
 have n2:(f.kind=14∨f.kind=16∨f.kind=17∨f.kind=18∨f.kind=20)->∀k:Int,k<=10->(f.kind==k)=false:=λhk k h2=>eu;have pre:(f.kind=14∨f.kind=16∨f.kind=17∨f.kind=18∨f.kind=20)->∀r:UO,_->Ev uY [bI p ts ro w,SF f L D H A] r:=λhk r g=>by
  obtain⟨d1,d2⟩:=aEN hk;have n2:=n2 hk;have j1:=abh f.kind;have j2:=abg f.kind;rw [d1]at j1;rw [d2]at j2;refine bx sE (ax (c:=f.kind==2) (n2 2 (lh)) (ax (c:=f.kind==4) (n2 4 (lh)) (ax (c:=f.kind==5) (n2 5 (lh)) (ax (c:=f.kind==6) (n2 6 (lh)) (ax (c:=f.kind==7) (n2 7 (lh)) (ax (c:=f.kind==8) (n2 8 (lh)) (ax (c:=f.kind==10) (n2 10 (lh)) (aj j1 (bj (aj j2 (bj ?_)))))))))));exact g
 have T:∀{b:Bool},Ev uY [bI p ts ro w,SF f L D H A] (0,[ak b])->b=true:=λ{b} e=>by
  have:=E.uniq e h;injection this with _ this;injection this with this _;injection this
 refine⟨λhk=> ?_,λhk=> ?_⟩
 ·have:=T (pre (.inr (.inr (.inr (.inl hk)))) (0,[ak (tc p w f.entry)]) (ax (c:=f.kind==14) (mh) (ax (c:=f.kind==16) (mh) (ax (c:=f.kind==17) (mh) (br (c:=f.kind==18) (mh) (aj (abj ct hw f.entry) aL))))));unfold tc at this;rw [bM]at this;exact this.1
 ·cases hb:ib f.P p.dw.length with
  |true=>rfl
  |false=>
   exfalso;have hn:decide (0<=f.P)=false∨decide (f.P<ln (p.dw.map fA))=false:=by
    unfold ib at hb;rw [dB];cases h0:decide (0<=f.P)with
    |false=>exact .inl rfl
    |true=>rw [h0]at hb;exact .inr hb
   rcases hk with hk|hk
   ·obtain⟨b,LO⟩:=LM hk;have:Ev uY [bI p ts ro w,SF f L D H A] (0,[aq]):=by
     refine pre (.inr (.inr (.inl hk))) _ (ax (c:=f.kind==14) (mh) (ax (c:=f.kind==16) (mh) (br (c:=f.kind==17) (mh) (aj LO ?_))));refine aw (λ_=> ?_) λ_=>aL;exact alO
    exact absurd (T this) (by simp)
   ·have:Ev uY [bI p ts ro w,SF f L D H A] (0,[aq]):=by
     refine pre (.inr (.inr (.inr (.inr hk)))) _ (ax (c:=f.kind==14) (mh) (ax (c:=f.kind==16) (mh) (ax (c:=f.kind==17) (mh) (ax (c:=f.kind==18) (mh) (br (c:=f.kind==20) (mh) ?_)))));exact alO
    exact absurd (T this) (by simp)
def aBP(hf:f.Ok)(hD:D.length<=mx)(hH:H.length<=mx)(h:sg f L D H A=true):(f.kind≠9->D=[]∧H=[])∧(f.kind≠19->A=[]):=by
 have h1:=E.uniq (aiu f L D H A hf hD hH).2 (lkR f L D H A);injection h1 with _ h1;injection h1 with h1 _;injection h1 with h1;rw [h]at h1;have hd:uU f D H A=true:=by
  have:=h1.symm;simp only [bM]at this;exact this.2.2.2.2.1
 unfold uU at hd;rw [bM]at hd;obtain⟨u,v⟩:=hd;refine⟨λhk=> ?_,λhk=> ?_⟩
 ·have:(f.kind != 9)=true:=by simpa using hk
  rw [this,cf,bM]at u;exact⟨PQ.1 u.1,PQ.1 u.2⟩
 ·have:(f.kind != 19)=true:=by simpa using hk
  rw [this,cf]at v;exact PQ.1 v
structure WJ(p:PG)(c:WH):Prop where
 wi:WI p c
 l1:(c.marks.length:Int)+1<=c.deep
 l2:(c.ll.length:Int)+1<=c.deep
 l3:(c.lg.length:Int)+1<=c.deep
 l4:(c.gY.length:Int)+1<=c.deep
 l5:(c.loops.length:Int)+1<=c.deep
def lJ(w:WH):WH:={w with deep:=bw (w.deep+1)}
def WI.aE4(h:WI p w)(hd:w.deep<64):WJ p (lJ w):=by
 have h1:=h.l1;have h2:=h.l2;have h3:=h.l3;have h4:=h.l4;have h5:=h.l5;have e:(lJ w).deep =w.deep+1:=by show bw (w.deep+1)=_;rw [jI (by omega) (by omega)]
 have m:(lJ w).marks =w.marks:=rfl;have a:(lJ w).ll =w.ll:=rfl;have b:(lJ w).lg =w.lg:=rfl;have d:(lJ w).gY =w.gY:=rfl;have l:(lJ w).loops =w.loops:=rfl;refine⟨⟨⟨h.dN.Hf,h.dN.act,h.dN.task⟩,?_,?_,?_,?_,?_,?_⟩,?_,?_,?_,?_,?_⟩<;>(try rw [m])<;>(try rw [a])<;>(try rw [b])<;>(try rw [d])<;>(try rw [l])<;>rw [e]<;>omega
def cJ(c:WH)(f:dk):WH:=bif f.kind==7 then{c with marks:=c.marks++[f.N],ll:=c.ll++[f.N]}else bif f.kind==6 then{c with loops:=c.loops++[f.O]}else c
def cK(c:WH)(f:dk):WH:=bif f.kind==16 then rq c else cJ c f
def SP(h7:f.kind≠7)(h6:f.kind≠6):cJ c f=c:=by
 have a:(f.kind==7)=false:=by simpa using h7
 have b:(f.kind==6)=false:=by simpa using h6
 unfold cJ;rw [a,b];rfl
def WI.rq{w:WH}(h:WI p w):WI p (rq w):=h.of rfl (.inl (px)) rfl h.l1 h.l2 h.l3 h.l5 rfl
def WJ.cJ{c:WH}(h:WJ p c)(f:dk):WI p (cJ c f):=by
 unfold YtomkobcipaligaaGreatDoor.cJ;cases h7:f.kind==7 with
 |true=>
  refine h.wi.of rfl (.inr rfl) rfl ?_ ?_ h.wi.l3 h.wi.l5 rfl
  ·have:=h.l1;show((c.marks++[f.N]).length :Int)<=c.deep;simp;omega
  ·have:=h.l2;show((c.ll++[f.N]).length :Int)<=c.deep;simp;omega
 |false=>
  cases h6:f.kind==6 with
  |true=>
   refine h.wi.of rfl (.inr rfl) rfl h.wi.l1 h.wi.l2 h.wi.l3 ?_ rfl;have:=h.l5;show((c.loops++[f.O]).length :Int)<=c.deep;simp;omega
  |false=>exact h.wi
def WJ.acc(h:WJ p c){e:Int}(he:jx p c.task e=true):WI p (vN c e):=by
 have oY:(0:Int)<=c.deep:=by have:=h.l1;omega
 refine⟨⟨.inr he,h.wi.dN.act,h.wi.dN.task⟩,?_,h.wi.l2,?_,h.wi.l4,h.wi.l5,h.wi.d⟩
 ·simpa [vN,ig]using oY
 ·simpa [vN,ig]using h.l3
def WJ.act{c:WH}(h:WJ p c){q:Int}(hq:ib q p.dw.length=true):WI p (AW c q):=by
 have oY:(0:Int)<=c.deep:=by have:=h.l1;omega
 refine⟨⟨.inl (px),?_,h.wi.dN.task⟩,?_,h.wi.l2,h.wi.l3,?_,h.wi.l5,h.wi.d⟩
 ·intro a ha;rcases j7.1 (show a∈c.gY++[q]from ha)with ha|ha
  ·exact h.wi.dN.act a ha
  ·simp at ha;subst ha;exact hq
 ·simpa [AW,ig]using oY
 ·simpa [AW,ig]using h.l4
def wiD(h:WJ p c)(ha:f.kind=18->jx p c.task f.entry=true)(hp:f.kind=17∨f.kind=20->ib f.P p.dw.length=true)(i:Nat):WI p (j5 (YtomkobcipaligaaGreatDoor.cJ c f) f (i:Nat)):=by
 have h1:WI p (uV (YtomkobcipaligaaGreatDoor.cJ c f) f (i:Nat)):=by
  unfold uV;cases hb:aB f (i:Nat)with
  |true=>
   have hk:f.kind=17∨f.kind=20:=by
    unfold aB at hb;cases h0:((i:Nat):Int)==0 with
    |false=>rw [h0]at hb;cases hb
    |true=>
     rw [h0]at hb;cases mA:f.kind==20 with
     |true=>exact .inr (eq_of_beq mA)
     |false=>rw [mA]at hb;exact .inl (eq_of_beq hb)
   rw [SP (by rcases hk with h|h<;>omega) (by rcases hk with h|h<;>omega)];exact h.act (hp hk)
  |false=>
   show WI p (xK (YtomkobcipaligaaGreatDoor.cJ c f) f (i:Nat));unfold xK;cases h0:((i:Nat):Int)==0 with
   |false=>exact h.cJ f
   |true=>
    cases mR:f.kind==18 with
    |false=>exact h.cJ f
    |true=>
     have hk:=eq_of_beq mR;rw [SP (by omega) (by omega)];exact h.acc (ha hk)
 unfold j5;cases qB f (i:Nat)with
 |true=>exact h1.rq
 |false=>exact h1
def aGx(h7:f.kind≠17)(h8:f.kind≠18)(mA:f.kind≠20)(i:Int):j5 (YtomkobcipaligaaGreatDoor.cJ c f) f i=cK c f:=by
 have a:(f.kind==17)=false:=by simpa using h7
 have b:(f.kind==18)=false:=by simpa using h8
 have d:(f.kind==20)=false:=by simpa using mA
 unfold j5 qB uV aB xK cK;rw [a,b,d];cases iL:f.kind==16 with
 |true=>
  have hk:=eq_of_beq iL;rw [SP (by omega) (by omega)];cases i==0<;>rfl
 |false=>cases i==0<;>rfl
def CR.inv(h:CR p ro ctx Ls i lf cn b dm df)(hi:i<Ls.length):
 (b=false∧Ev kq [J (bB 0 (ctx i)),J (encS Ls[i]),K0 p lf,ah (bf ro),.ab 0 cn] (0,aq::fR p ro dm df))∨
 ∃l1 c1,az (au c1)=c1∧Ev kq [J (bB 0 (ctx i)),J (encS Ls[i]),K0 p lf,ah (bf ro),.ab 0 cn] (0,cw::fR p ro l1 c1)∧CR p ro ctx Ls (i+1) l1 c1 b dm df:=by
 cases h with
 |done _ h=>omega
 |no _ h _ _ pk _ _ lE e=>exact .inl ⟨rfl,e⟩
 |yes _ h _ _ pk l1 c1 iG e _ _ _ t=>exact .inr ⟨l1,c1,iG,e,t⟩
def CR.stop(h:CR p ro ctx Ls i lf cn b dm df)(hi:i=Ls.length):b=true∧dm=lf∧df=cn:=by
 cases h with
 |done _ h=>exact⟨rfl,rfl,rfl⟩
 |no _ h=>omega
 |yes _ h=>omega
end
end
end Go.Proofs.YtomkobcipaligaaGreatDoor
namespace Go.aA
def QM{p:Prop}(h:p:=by unfold j5 qB uV aB xK;rw [hk];rfl):p:=h
def QL{p:Prop}(h:p:=by
 refine aj e (af ?_);erw [lE];rfl):p:=h
def akg{p:Prop}(h:p:=by
 rw [x0,ul 0 g0]at e;refine C1 _ (aj e (bj (af ?_)));erw [lE];rfl):p:=h
def aiF{p:Prop}(h:p:=by
 refine C1 _ (aj e (af ?_));erw [lE];rfl):p:=h
end Go.aA
namespace Go.Proofs.YtomkobcipaligaaGreatDoor
open Go Go.aA
section
variable{f:dk}{lf:Int}{Ls:List CS}{c w:WH}{A D H L cn:aW}
section
variable {p:PG} {ts:List TK} {ro:List RO}
def amk{k l:Int}(h:l=v7 k l):(k=9->l=1)∧(k=19->l=1)∧(k=18->l=2)∧(k=20->l=1)∧(k=17->l=3):=by
 refine⟨?_,?_,?_,?_,?_⟩<;>(rintro rfl;exact h)
def Rt(p:PG)(ro:List RO)(w:WH)(f:dk):Prop:=∃(Ls:List CS) (D H A:aW),ln (Ls.map encS)=v7 f.kind (ln (Ls.map encS))∧Ev uY [bI p p.tasks ro w,SF f (Ls.map encS) D H A] (0,[cw])
def aEq(ct:CT p ts ro)(hE:kO)(hw:WI p w)(hf:f.Ok)(hs:sg f (Ls.map encS) D H A=true)(hc:az (au cn)=cn):∃b,
 Ev Im [J (bB 0 w),SF f (Ls.map encS) D H A,K0 p lf,ah (bf ro),.ab 0 cn] (0,ak b::fR p ro lf cn)∧
 Ev uY [bI p ts ro w,SF f (Ls.map encS) D H A] (0,[ak b])∧(b=true ↔ Rt p ro w f∧A1 f Ls=true):=by
 have rA:=(PU f (Ls.map encS) D H A hs).2.2;obtain⟨b0,q⟩:=aiw ct hw.ok hw.dN hc (lf:=lf) hE hf hs;obtain⟨b1,q'⟩:=aiw ct.self hw.ok hw.dN hc (lf:=lf) hE hf hs;obtain⟨b,hb,c1,r1⟩:=q (D:=D) (H:=H) (A:=A) rA;obtain⟨b',mQ,c2,r2⟩:=q' (D:=D) (H:=H) (A:=A) rA;have e:b=b':=Hb (c1.uniq c2);refine⟨b,c1,r1,λh=>⟨⟨Ls,D,H,A,rA,by rw [e.symm.trans h]at r2;exact r2⟩,?_⟩,λ⟨⟨Ls0,D0,H0,A0,h1,h2⟩,h3⟩=> ?_⟩
 ·rw [h]at hb;exact((bM _ _).mp hb.symm).2
 ·obtain⟨b2,jb,_,r3⟩:=q' h1;have:=Hb (h2.uniq r3);rw [<-this]at jb;rw [e,mQ,((bM _ _).mp jb.symm).1,h3];rfl
structure Own(p:PG)(ro:List RO)(w:WH)(f:dk)(Ls:List CS)(D H A:aW):Prop where
 deep:w.deep<64
 shape:sg f (Ls.map encS) D H A=true
 aiq:pK w f=true
 right:Rt p ro w f
 wn:A1 f Ls=true
def aGU(ct:CT p ts ro)(hE:kO)(hw:WI p w)(hf:f.Ok)(hD:D.length<=mx)(hH:H.length<=mx){l1:Int}(fg:bw (lf- 1)=l1)(fY:(l1<0 ↔ lf<1))(hc:az (au cn)=cn):∃b,
 bK Ie [K0 p l1,ah (bf ro),.ab 0 cn,J (bB 0 w),SF f (Ls.map encS) D H A] (bif b then(0,[K0 p l1,ah (bf ro),.ab 0 cn,J (bB 0 w),SF f (Ls.map encS) D H A])else(1,[aq,K0 p l1,ah (bf ro),.ab 0 cn,J (bB 0 w),SF f (Ls.map encS) D H A]))∧
 bK OF [iI lf,bI p ts ro w,SF f (Ls.map encS) D H A] (bif b then(0,[bI p ts ro w,SF f (Ls.map encS) D H A])else(1,[iI (-1),bI p ts ro w,SF f (Ls.map encS) D H A]))∧
 (b=true ↔ 1<=lf∧Own p ro w f Ls D H A)∧(b=true->1<=lf∧w.deep<64∧sg f (Ls.map encS) D H A=true∧(f.kind=18->jx p w.task f.entry=true)∧(f.kind=17∨f.kind=20->ib f.P p.dw.length=true)):=by
 have C:∀r:UO,_->bK Ie [K0 p l1,ah (bf ro),.ab 0 cn,J (bB 0 w),SF f (Ls.map encS) D H A] r:=λr h=>by
  refine bW asF ?_;rw [hc];exact h
 have R:∀r:UO,_->bK OF [iI lf,bI p ts ro w,SF f (Ls.map encS) D H A] r:=λr h=>bW azZ h;cases h0:decide (lf<1)with
 |true=>
  have HT:decide (l1<0)=true:=by simp at h0⊢;exact fY.2 h0
  exact⟨false,C _ (br (c:=decide (l1<0)) HT aL),R _ (br h0 aL),⟨(λh=>aX),λ⟨h,_⟩=>by simp at h0;omega⟩,λh=>aX⟩
 |false=>
  have HT:decide (l1<0)=false:=by simp at h0⊢;omega
  cases hd:decide (64<=w.deep)with
  |true=>exact⟨false,C _ (ax (c:=decide (l1<0)) HT (br hd aL)),R _ (ax h0 (br hd aL)),⟨(λh=>aX),λ⟨_,h⟩=>by have:=h.deep;simp at hd;omega⟩,λh=>aX⟩
  |false=>
   obtain⟨s1,s2⟩:=aiu f (Ls.map encS) D H A hf hD hH;cases hs:sg f (Ls.map encS) D H A with
   |false=>
    rw [hs]at s1 s2;exact⟨false,C _ (ax (c:=decide (l1<0)) HT (ax hd (aj s1 (aY aL)))),R _ (ax h0 (ax hd (aj s2 (aY aL)))),⟨(λh=>aX),λ⟨_,h⟩=>by have:=h.shape;rw [hs]at this;cases this⟩,λh=>aX⟩
   |true=>
    rw [hs]at s1 s2;have t1:=stC (p:=p) (ro:=ro) (w:=w) (f:=f) (L:=Ls.map encS) (D:=D) (H:=H) (A:=A) (lf:=l1) hc;have t2:=stR (p:=p) (ts:=ts) (ro:=ro) (w:=w) (f:=f) (L:=Ls.map encS) (D:=D) (H:=H) (A:=A);cases ht:pK w f with
    |false=>
     rw [ht]at t1 t2;refine⟨false,C _ (ax (c:=decide (l1<0)) HT (ax hd (aj s1 (bj (aj t1 (aY (af ?_))))))),R _ (ax h0 (ax hd (aj s2 (bj (aj t2 (aY aL)))))),⟨(λh=>aX),λ⟨_,h⟩=>by have:=h.aiq;rw [ht]at this;cases this⟩,λh=>aX⟩;exact ju
    |true=>
     rw [ht]at t1 t2;obtain⟨b,r1,r2,q⟩:=aEq ct hE hw hf hs hc (lf:=l1);have C2:∀r:UO,_->bK Ie [K0 p l1,ah (bf ro),.ab 0 cn,J (bB 0 w),SF f (Ls.map encS) D H A] r:=λr h=>by
      refine C r (ax (c:=decide (l1<0)) HT (ax hd (aj s1 (bj (aj t1 (bj ?_))))));erw [hc];refine aj r1 ?_;exact h
     cases b with
     |false=>
      refine⟨false,C2 _ (aY (af ?_)),R _ (ax h0 (ax hd (aj s2 (bj (aj t2 (bj (aj r2 (aY aL)))))))),⟨(λh=>aX),λ⟨_,h⟩=>by have:=q.2 ⟨h.right,h.wn⟩;cases this⟩,λh=>aX⟩;exact ju
     |true=>
      refine⟨true,C2 _ (bj (af ?_)),R _ (ax h0 (ax hd (aj s2 (bj (aj t2 (bj (aj r2 (bj aL)))))))),⟨λ_=>⟨by simp at h0;omega,by simp at hd;omega,hs,ht,(q.1 rfl).1,(q.1 rfl).2⟩,λ_=>rfl⟩,λ_=>⟨by simp at h0;omega,by simp at hd;omega,rfl,?_⟩⟩
      ·exact ju
      ·refine aGX ct hw.ok r2 λhk=> ?_;have rA:=(PU f (Ls.map encS) D H A hs).2.2;rw [hk]at rA;have hL:Ls.length=3:=ajJ;obtain⟨_,q⟩:=YY ct hw.ok hc (lf:=l1) hE hf (n:=3) (by omega) (by omega);obtain⟨b,_,_,q⟩:=q (D:=D) (H:=H) (A:=A) hL;exact⟨b,q⟩
def Ht{l:cW}(h:l.length<=1000):(decide ((0+(ints l).length)*8<=140737488355328)=true)∧∀x:AV,decide (((([]:aW)++ints l).length +([[x]]:aW).length)*8<=140737488355328)=true:=by
 refine⟨w9,λx=>Zs⟩
def aNQ(hw:c.Ok){n:Int}(h9:f.kind≠9)(n7:f.kind≠19):
 bK IZ [iI n,bI p ts ro c,SF f L D H A] (0,[bI p ts ro (cJ c f),SF f L D H A]):=by
 have a9:(f.kind==9)=false:=by simpa using h9
 have a19:(f.kind==19)=false:=by simpa using n7
 refine bW WC (ax a9 (ax a19 (aw (c:=f.kind==7) (λh=> ?_) λh=>aw (c:=f.kind==6) (λg=> ?_) λg=>af ?_)))
 ·refine aH (Ht hw.marks).1 (aH ((Ht hw.marks).2 _) (aH (Ht hw.ll).1 (aH ((Ht hw.ll).2 _) (af ?_))));unfold cJ;rw [h];have e:bI p ts ro {c with marks:=c.marks++[f.N],ll:=c.ll++[f.N]}= J (sT (RY p ts ro c) [(6,aa (([]++ints c.marks)++[[iI f.N]])),(7,aa (([]++ints c.ll)++[[iI f.N]]))]):=by
   dsimp only [bI];rw [Cb,Cb];rfl
  show _=(0,[bI p ts ro {c with marks:=c.marks++[f.N],ll:=c.ll++[f.N]},SF f L D H A]);rw [e];rfl
 ·refine aH (Ht hw.loops).1 (aH ((Ht hw.loops).2 _) (af ?_));unfold cJ;rw [h,g];have e:bI p ts ro {c with loops:=c.loops++[f.O]}= J (sT (RY p ts ro c) [(10,aa (([]++ints c.loops)++[[iI f.O]]))]):=by
   dsimp only [bI];rw [Cb];rfl
  show _=(0,[bI p ts ro {c with loops:=c.loops++[f.O]},SF f L D H A]);rw [e];rfl
 ·unfold cJ;rw [h,g];rfl
def aG6(hw:c.Ok)(hc:az (au cn)=cn)(h9:f.kind≠9)(n7:f.kind≠19)(lY:f.kind≠17)(mR:f.kind≠18)(mA:f.kind≠20):
 bK wE [K0 p lf,ah (bf ro),.ab 0 cn,J (bB 0 c),SF f L D H A] (0,[K0 p lf,ah (bf ro),.ab 0 cn,J (bB 0 (cK c f)),SF f L D H A]):=by
 have a9:(f.kind==9)=false:=by simpa using h9
 have a19:(f.kind==19)=false:=by simpa using n7
 have a17:(f.kind==17)=false:=by simpa using lY
 have a18:(f.kind==18)=false:=by simpa using mR
 have a20:(f.kind==20)=false:=by simpa using mA
 refine bW MM ?_;rw [hc];refine ax a9 (ax a19 (ax a18 (ax a20 (ax a17 (aw (c:=f.kind==16) (λh=>af ?_) λh=>aw (c:=f.kind==7) (λg=>aj (Kn (l:=c.marks) f.N hw.marks) (aj (Kn (l:=c.ll) f.N hw.ll) (af ?_))) λg=>aw (c:=f.kind==6) (λi=>aj (Kn (l:=c.loops) f.O hw.loops) (af ?_)) λi=>af ?_)))))
 ·unfold cK;rw [h];rfl
 ·unfold cK cJ;rw [h,g];rfl
 ·unfold cK cJ;rw [h,g,i];rfl
 ·unfold cK cJ;rw [h,g,i];rfl
def aG5(hw:c.Ok)(hk:f.kind=17∨f.kind=18∨f.kind=20)(rA:ln (Ls.map encS)=v7 f.kind (ln (Ls.map encS))){b:Bool}{dm:Int}{df:aW}(h:CR p ro (λi=>j5 c f (i:Nat)) Ls 0 lf cn b dm df):
 bK wE [K0 p lf,ah (bf ro),.ab 0 cn,J (bB 0 c),SF f (Ls.map encS) D H A] (1,[ak b,K0 p dm,ah (bf ro),.ab 0 df,J (bB 0 c),SF f (Ls.map encS) D H A]):=by
 obtain⟨hc,lE⟩:=h.pk;obtain⟨_,_,k18,k20,k17⟩:=amk rA;have C:∀r:UO,_->bK wE [K0 p lf,ah (bf ro),.ab 0 cn,J (bB 0 c),SF f (Ls.map encS) D H A] r:=λr h=>by
  refine bW MM ?_;rw [hc];exact h
 have ul:∀(i:Nat) (hi:i<Ls.length),encS Ls[i]=dJ (gA (Ls.map encS) i):=λi hi=>by rw [sQ hi,fF]
 rcases hk with hk|hk|hk
 ·have hL:=k17 hk;rw [dB]at hL;have g0:0<Ls.length:=by omega
  have g1:1<Ls.length:=by omega
  have g2:2<Ls.length:=by omega
  have dl:∀n:Int,n<3->decide (n<ln (Ls.map encS))=true:=λn hn=>sV;have x0:j5 c f ((0:Nat):Int)=AW c f.P:=by unfold j5 qB uV aB;rw [hk];rfl
  have x1:j5 c f ((1:Nat):Int)=rq c:=QM;have x2:j5 c f ((2:Nat):Int)=rq c:=QM;have C1:∀r:UO,_->bK wE [K0 p lf,ah (bf ro),.ab 0 cn,J (bB 0 c),SF f (Ls.map encS) D H A] r:=λr h=>by
   refine C r (ax (c:=f.kind==9) (mh) (ax (c:=f.kind==19) (mh) (ax (c:=f.kind==18) (mh) (ax (c:=f.kind==20) (mh) (br (c:=f.kind==17) (mh) (aj (apu (lf:=lf) hw hc f.P) (aH (dl 0 (lh)) ?_)))))));exact Ga
  rcases h.inv g0 with⟨rfl,e⟩|⟨l1,c1,iG,e,t⟩
  ·exact akg
  ·rw [x0,ul 0 g0]at e;refine C1 _ (aj e (aY (aH (dl 1 (lh)) ?_)));erw [iG];rcases t.inv g1 with⟨rfl,e⟩|⟨l2,c2,js,e,t⟩
   ·rw [x1,ul 1 g1]at e;refine aj e (bj (af ?_));erw [lE];rfl
   ·rw [x1,ul 1 g1]at e;refine aj e (aY (aH (dl 2 (lh)) ?_));erw [js];rcases t.inv g2 with⟨rfl,e⟩|⟨l3,c3,Bg,e,t⟩
    ·rw [x2,ul 2 g2]at e;exact QL
    ·rw [x2,ul 2 g2]at e;obtain⟨rfl,rfl,rfl⟩:=t.stop (by omega);exact QL
 ·have hL:=k18 hk;rw [dB]at hL;have g0:0<Ls.length:=by omega
  have g1:1<Ls.length:=by omega
  have dl:∀n:Int,n<2->decide (n<ln (Ls.map encS))=true:=λn hn=>sV;have x0:j5 c f ((0:Nat):Int)=vN c f.entry:=QM;have x1:j5 c f ((1:Nat):Int)=rq c:=QM;have C1:∀r:UO,_->bK wE [K0 p lf,ah (bf ro),.ab 0 cn,J (bB 0 c),SF f (Ls.map encS) D H A] r:=λr h=>by
   refine C r (ax (c:=f.kind==9) (mh) (ax (c:=f.kind==19) (mh) (br (c:=f.kind==18) (mh) (aj (apw (lf:=lf) hw hc f.entry) (aH (dl 0 (lh)) ?_)))));exact Ga
  rcases h.inv g0 with⟨rfl,e⟩|⟨l1,c1,iG,e,t⟩
  ·exact akg
  ·rw [x0,ul 0 g0]at e;refine C1 _ (aj e (aY (aH (dl 1 (lh)) ?_)));erw [iG];rcases t.inv g1 with⟨rfl,e⟩|⟨l2,c2,js,e,t⟩
   ·rw [x1,ul 1 g1]at e;exact QL
   ·rw [x1,ul 1 g1]at e;obtain⟨rfl,rfl,rfl⟩:=t.stop (by omega);exact QL
 ·have hL:=k20 hk;rw [dB]at hL;have g0:0<Ls.length:=by omega
  have dl:∀n:Int,n<1->decide (n<ln (Ls.map encS))=true:=λn hn=>sV;have x0:j5 c f ((0:Nat):Int)=AW c f.P:=by unfold j5 qB uV aB;rw [hk];rfl
  have C1:∀r:UO,_->bK wE [K0 p lf,ah (bf ro),.ab 0 cn,J (bB 0 c),SF f (Ls.map encS) D H A] r:=λr h=>by
   refine C r (ax (c:=f.kind==9) (mh) (ax (c:=f.kind==19) (mh) (ax (c:=f.kind==18) (mh) (br (c:=f.kind==20) (mh) (aj (apu (lf:=lf) hw hc f.P) (aH (dl 0 (lh)) ?_))))));exact Ga
  rcases h.inv g0 with⟨rfl,e⟩|⟨l1,c1,iG,e,t⟩
  ·rw [x0,ul 0 g0]at e;exact aiF
  ·rw [x0,ul 0 g0]at e;obtain⟨rfl,rfl,rfl⟩:=t.stop (by omega);exact aiF
end
end
end Go.Proofs.YtomkobcipaligaaGreatDoor
namespace Go.aA
def akI{p:Prop}(h:p:=by exact⟨λh=>⟨h.1,h.2 s0 h0⟩,λh=>⟨h.1,λs1 e=>by rw [h0]at e;injection e with e;subst e;exact h.2⟩⟩):p:=h
def ZH{p:Prop}(h:p:=by
 refine aj j (bj (af ?_));erw [lE];rfl):p:=h
def Qb{p:Prop}(h:p:=by rw [xC];rfl):p:=h
end Go.aA
namespace Go.aA
def Jz:=@List.map_eq_nil_iff
end Go.aA
namespace Go.Proofs.YtomkobcipaligaaGreatDoor
open Go Go.aA
section
variable{s:CS}{w:WH}
section
variable {p:PG} {ts:List TK} {ro:List RO}
def YK(t:Int):qO [] t=0∧ij [] t=0∧qN [] t=0∧qP [] t=0:=by simp [qO,ij,qN,qP]
def Step(V:WH->CS->Prop)(p:PG)(ro:List RO)(w:WH)(s:CS):Prop:=Own p ro w s.f s.L (s.D.map cj) (s.H.map cz) (s.A.map cu)∧
 (if s.f.kind=9 then∀s0,s.L=[s0]->Sc V p (lJ w) s.f s.D s0 s.H else if s.f.kind=19 then∀s0,s.L=[s0]->Se V p ro (lJ w) s.f s0 s.A else∀j (h:j<s.L.length),V (j5 (cJ (lJ w) s.f) s.f (j:Nat)) s.L[j])
def Vl(p:PG)(ro:List RO)(w:WH)(s:CS):Prop:=∀V:WH->CS->Prop,(∀w s,Step V p ro w s->V w s)->V w s
def Step.mono{V U:WH->CS->Prop}(h:∀w s,V w s->U w s)(g:Step V p ro w s):Step U p ro w s:=by
 refine⟨g.1,?_⟩;have g:=g.2
 by_cases h9:s.f.kind=9
 ·rw [if_pos h9]at g⊢;exact λs0 e=>have q:=g s0 e;⟨q.1,λj hj=>⟨h _ _ (q.2.1 j hj).1,h _ _ (q.2.1 j hj).2⟩,h _ _ q.2.2.1,q.2.2.2.1,λj hj=>h _ _ (q.2.2.2.2 j hj)⟩
 ·rw [if_neg h9]at g⊢
  by_cases n7:s.f.kind=19
  ·rw [if_pos n7]at g⊢;exact λs0 e=>have q:=g s0 e;⟨q.1,h _ _ q.2.1,λj hj=>⟨(q.2.2.1 j hj).1,h _ _ (q.2.2.1 j hj).2.1,h _ _ (q.2.2.1 j hj).2.2⟩,q.2.2.2⟩
  ·rw [if_neg n7]at g⊢;exact λj hj=>h _ _ (g j hj)
def C0:Vl p ro w s ↔ Step (Vl p ro) p ro w s:=by
 have h1:∀{w s},Step (Vl p ro) p ro w s->Vl p ro w s:=λh V hV=>hV _ _ (h.mono λw s g=>g V hV);exact⟨λh=>h _ λw s g=>g.mono λw s=>h1,h1⟩
def stE(ct:CT p ts ro)(hE:kO):∀s:CS,s.Ok->nR p ts ro (Vl p ro) s:=by
 refine CS.ind λs ih bz=> ?_;obtain⟨_,hf,hL,hD,hH,hA,h1,h2,kv⟩:=bz;have kL:∀y∈s.L,nR p ts ro (Vl p ro) y:=λy hy=>ih y (xo hy) (kv y (xo hy));have kD:∀d∈s.D,nR p ts ro (Vl p ro) d.d∧nR p ts ro (Vl p ro) d.u:=λd hd=>⟨ih _ (qh hd).1 (kv _ (qh hd).1),ih _ (qh hd).2 (kv _ (qh hd).2)⟩;have kH:∀x∈s.H,nR p ts ro (Vl p ro) x.body:=λx hx=>ih _ (AN hx) (kv _ (AN hx));have kA:∀x∈s.A,nR p ts ro (Vl p ro) x.body∧nR p ts ro (Vl p ro) x.after:=λx hx=>⟨ih _ (qi hx).1 (kv _ (qi hx).1),ih _ (qi hx).2 (kv _ (qi hx).2)⟩;intro w hw lf cn cc st;have HD:bw (lf- 1)=lf- 1:=by have:=st.lo;have:=st.hi;rw [jI (by omega) (by omega)]
 have fY:(bw (lf- 1)<0 ↔ lf<1):=by rw [HD];omega
 have lD:(s.D.map cj).length <=mx:=by rw [ey];exact hD
 have lH:(s.H.map cz).length <=mx:=by rw [ey];exact hH
 obtain⟨b,e1,r1,q1⟩:=aGU ct hE hw hf (Ls:=s.L) (A:=s.A.map cu) lD lH (lf:=lf) rfl fY st.pk;have es:=FY s;have C:∀r:UO,_->Ev kq [J (bB 0 w),J (encS s),K0 p lf,ah (bf ro),.ab 0 cn] r:=λr h=>by
  rw [es];refine bx avl ?_;rw [st.pk];exact Qy
 have R:∀r:UO,_->Ev p7 [bI p ts ro w,J (encS s),iI lf] r:=λr h=>by
  rw [es];refine bx aBs (aj r1 ?_);exact h
 cases b with
 |false=>
  refine⟨false,bw (lf- 1),cn,st.pk,C _ (bj (af ?_)),R _ (bj aL),(λh=>aX),⟨(λh=>aX),λ⟨h1,h2⟩=>by have:=q1.1.2 ⟨by rw [FP]at h2;simp only [mf]at h2;omega,(C0.1 h1).1⟩;cases this⟩,λh=>aX⟩;erw [st.pk];rfl
 |true=>
  obtain⟨q2,q3,q4,q5,q6⟩:=q1.2 rfl;have cn0:Cn true lf (bw (lf- 1)) (Own p ro w s.f s.L (s.D.map cj) (s.H.map cz) (s.A.map cu)) 1:=⟨q1.1.trans and_comm,λ_=>HD⟩;have hlen:=PU s.f (s.L.map encS) (s.D.map cj) (s.H.map cz) (s.A.map cu) q4;obtain⟨n9,n19⟩:=aBP hf lD lH q4;obtain⟨l9,Ta,_⟩:=amk hlen.2.2;have hj:=hw.aE4 q3;have LN:=hj.wi;have c7:ST p (bw (lf- 1)) cn cc:=⟨st.pk,st.rep,λt=>by have:=st.le t;omega,by omega,by have:=st.hi;omega,st.jz⟩;have abn:∀t,jW s t=(if s.f.kind=9 then s.f.Ts.count t else 0)+(qO s.D t+(ij s.L t+(qN s.H t+qP s.A t))):=ahU s
  by_cases k9:s.f.kind=9
  ·obtain⟨s0,h0⟩:=vB (l9 k9);have HS:s.A=[]:=by have:=n19 (by omega);exact Jz.1 this
   have hL0:s.L.map encS=[encS s0]:=by rw [h0];rfl
   rw [hL0]at C R;obtain⟨b,l',c',lE,a1,a2,a3,a4⟩:=aOQ ct LN hf (A:=s.A.map cu) hD hH (by have:=hj.l1;omega) (λx hx=>(h1 x hx).eL) (kL s0 (by rw [h0];simp)) kD kH c7 (λt=>by have:=st.le t;omega);refine⟨b,l',c',lE,C _ (aY ?_),R _ (aY ?_),λh=>(a3 h).ext λt=> ?_,cn0.then a4 ?_ ?_⟩
   ·erw [st.pk];have j:bK wE [K0 p (bw (lf- 1)),ah (bf ro),.ab 0 cn,J (bB 0 (lJ w)),SF s.f [encS s0] (s.D.map cj) (s.H.map cz) (s.A.map cu)] (1,[ak b,K0 p l',ah (bf ro),.ab 0 c',J (bB 0 (lJ w)),SF s.f [encS s0] (s.D.map cj) (s.H.map cz) (s.A.map cu)]):=by
     refine bW MM ?_;rw [st.pk];refine br (c:=s.f.kind==9) (by rw [k9];rfl) (aj a1 (af ?_));erw [lE];rfl
    exact ZH
   ·have j:bK IZ [iI (bw (lf- 1)),bI p ts ro (lJ w),SF s.f [encS s0] (s.D.map cj) (s.H.map cz) (s.A.map cu)] (1,[iI (bif b then l' else-1),bI p ts ro (lJ w),SF s.f [encS s0] (s.D.map cj) (s.H.map cz) (s.A.map cu)]):=
     bW WC (br (c:=s.f.kind==9) (by rw [k9];rfl) (aj a2 aL))
    exact aj j (bj aL)
   ·have:=YK t;rw [abn,if_pos k9,h0,HS];simp only [ij];omega
   ·rw [C0];unfold Step;rw [if_pos k9];exact akI
   ·rw [FP,h0,HS];simp [gp,kc];omega
  ·obtain⟨HR,HQ⟩:=n9 k9;have HR:=Jz.1 HR;have HQ:=Jz.1 HQ
   by_cases xC:s.f.kind=19
   ·obtain⟨s0,h0⟩:=vB (Ta xC);have hL0:s.L.map encS=[encS s0]:=by rw [h0];rfl
    rw [hL0]at C R;obtain⟨b,l',c',lE,a1,a2,a3,a4⟩:=chE ct hE LN hj.l3 (f:=s.f) (D:=s.D.map cj) (H:=s.H.map cz) hA h2 (kL s0 (by rw [h0];simp)) kA c7;refine⟨b,l',c',lE,C _ (aY ?_),R _ (aY ?_),λh=>(a3 h).ext λt=> ?_,cn0.then a4 ?_ ?_⟩
    ·erw [st.pk];have j:bK wE [K0 p (bw (lf- 1)),ah (bf ro),.ab 0 cn,J (bB 0 (lJ w)),SF s.f [encS s0] (s.D.map cj) (s.H.map cz) (s.A.map cu)] (1,[ak b,K0 p l',ah (bf ro),.ab 0 c',J (bB 0 (lJ w)),SF s.f [encS s0] (s.D.map cj) (s.H.map cz) (s.A.map cu)]):=by
      refine bW MM ?_;rw [st.pk];refine ax (c:=s.f.kind==9) (Qb) (br (c:=s.f.kind==19) (Qb) (aj a1 (af ?_)));erw [lE];rfl
     exact ZH
    ·have j:bK IZ [iI (bw (lf- 1)),bI p ts ro (lJ w),SF s.f [encS s0] (s.D.map cj) (s.H.map cz) (s.A.map cu)] (1,[iI (bif b then l' else-1),bI p ts ro (lJ w),SF s.f [encS s0] (s.D.map cj) (s.H.map cz) (s.A.map cu)]):=
      bW WC (ax (c:=s.f.kind==9) (Qb) (br (c:=s.f.kind==19) (Qb) (aj a2 aL)))
     exact aj j (bj aL)
    ·have:=YK t;rw [abn,if_neg k9,h0,HR,HQ];simp only [ij];omega
    ·rw [C0];unfold Step;rw [if_neg k9,if_pos xC];exact akI
    ·rw [FP,h0,HR,HQ];simp [gp,iN,j8];omega
   ·have HS:=Jz.1 (n19 xC);have hx:∀i,i<s.L.length->WI p (j5 (cJ (lJ w) s.f) s.f (i:Nat)):=λi _=>wiD hj q5 q6 i;obtain⟨b,l',c',lE,cr,a2,a3,a4⟩:=aFL (c:=cJ (lJ w) s.f) (hj.cJ s.f).ok (f:=s.f) (D:=s.D.map cj) (H:=s.H.map cz) (A:=s.A.map cu) hL kL hx (bw (lf- 1)) cn cc c7;have jr:=aNQ (p:=p) (ts:=ts) (ro:=ro) LN.ok (f:=s.f) (L:=s.L.map encS) (D:=s.D.map cj) (H:=s.H.map cz) (A:=s.A.map cu) (n:=bw (lf- 1)) k9 xC;refine⟨b,l',c',lE,C _ (aY ?_),R _ (aY (aj jr (aY (aj a2.diag aL)))),λh=>(a3 h).ext λt=> ?_,cn0.then a4 ?_ ?_⟩
    ·erw [st.pk]
     by_cases hk:s.f.kind=17∨s.f.kind=18∨s.f.kind=20
     ·rw [SP (by omega) (by omega)]at cr;have j:=aG5 (p:=p) (ro:=ro) LN.ok (D:=s.D.map cj) (H:=s.H.map cz) (A:=s.A.map cu) hk hlen.2.2 cr;exact ZH
     ·have j:=aG6 (p:=p) (ro:=ro) LN.ok (f:=s.f) (L:=s.L.map encS) (D:=s.D.map cj) (H:=s.H.map cz) (A:=s.A.map cu) (lf:=bw (lf- 1)) st.pk k9 xC (by omega) (by omega) (by omega);refine aj j (aY ?_);erw [st.pk];refine aj (aGz (w:=cK (lJ w) s.f) (λi=>aGx (by omega) (by omega) (by omega) _) hL cr) (af ?_);erw [lE];cases b<;>rfl
    ·have:=YK t;rw [abn,if_neg k9,HR,HQ,HS];omega
    ·rw [C0];unfold Step;rw [if_neg k9,if_neg xC]
    ·rw [FP,HR,HQ,HS];simp [iN,j8,kc];omega
end
end
end Go.Proofs.YtomkobcipaligaaGreatDoor
namespace Go.aA
def Zo{p:Prop}(h:p:=by rw [ey];exact hx):p:=h
def Qh{p:Prop}(h:p:=by exact jv.2 (by omega)):p:=h
end Go.aA
namespace Go.Proofs.YtomkobcipaligaaGreatDoor
open Go Go.aA
section
variable{lo x:Int}{o:OB}
theorem aDt{l:cW}{hi:Int}(h:lr l lo hi=true){i:Nat}(dZ:i<l.length):sZ l lo hi i=false:=by
 unfold lr at h;exact akc
theorem aBd{l:cW}{up:Int}(h:lr l lo up=true):l.Nodup:=by
 have hd:∀{i:Nat} (hi:i<l.length),l.getD i 0=l[i]:=λhi=>uk;have step:∀(i:Nat) (hi:i+1<l.length),l[i]<l[i+1]:=λi hi=>by
  have hp:=aDt h hi;unfold sZ at hp;rw [hd hi]at hp;cases ha:decide (l[i+1]<lo)with
  |true=>rw [ha]at hp;cases hp
  |false=>
   cases hb:decide (up<l[i+1])with
   |true=>rw [ha,hb]at hp;cases hp
   |false=>
    rw [ha,hb,show decide (0<i+1)=true by simp]at hp;rw [show i+1- 1=i from rfl,hd (by omega)]at hp;simpa using hp
 have lt:∀(j i:Nat) (hj:j<l.length) (qz:i<j),l[i]'(by omega)<l[j]:=by
  intro j
  induction j with
  |zero=>intro i _ h;omega
  |succ j ih=>
   intro i hj qz;have s:=step j hj
   by_cases e:i=j
   ·subst e;exact s
   ·have:=ih i (by omega) (by omega);omega
 refine Jy.2 λi j hi hj qz e=> ?_;have:=lt j i hj qz;omega
def vY(o:OB):Bool:=bif decide (o.size<1)then false else !decide (16384<o.size)
def si(o:OB):Bool:=bif decide (0<ln (ints o.set))then false else bif decide (o.lo< -2147483648)then false else bif decide (2147483647<o.hi)then false else !decide (o.hi<o.lo)
def nV(l:List OB)(o:OB):Bool:=bif o.size != 1 then false else bif o.lo != 0 then false else bif o.hi != 0 then false else lr o.set 0 (bw (ln (cb l)- 1))
def qq(l:List OB)(x:Int):Bool:=bif (cQ l x).ptr then true else(cQ l x).size != 1
def nk(l:List OB)(o:OB):Bool:=vY o&&bif !o.ptr then si o else nV l o&& !o.set.any (qq l)
def yI:Int->List OB->Int
 |s,[]=>s
 |s,o::os=>yI (bw (s+o.size)) os
def uv(l:List OB):Bool:=bif decide (ln (cb l)<1)then false else bif decide (2048<ln (cb l))then false else bif l.all (nk l)then decide (yI 0 l<=16384)else false
section
variable {l:List OB} (hl:l.length<=mx) (ho:∀o∈l,o.Ok)
theorem aaf(hl:l.length<=mx)(h:nV l o=true):∀x∈o.set,ib x l.length=true:=by
 intro x hx;unfold nV at h;cases h1:o.size != 1 with
 |true=>exact F7
 |false=>
  cases h2:o.lo != 0 with
  |true=>rw [h1,h2]at h;cases h
  |false=>
   cases h3:o.hi != 0 with
   |true=>rw [h1,h2,h3]at h;cases h
   |false=>
    rw [h1,h2,h3]at h;have:=Yn (show lr o.set 0 (bw (ln (cb l)- 1))=true from h) x hx;simp only [mx]at hl;rw [dB,jI (by omega) (by omega)]at this;exact Qh
theorem dr(o:OB):bK UN [J (gj o)] (bif vY o then(0,[J (gj o)])else(1,[aq,J (gj o)])):=by
 refine bW asM (aw (c:=decide (o.size<1)) (λh=>af ?_) λh=>aw (c:=decide (16384<o.size)) (λg=>af ?_) λg=>af ?_)
 ·unfold vY;rw [h];rfl
 ·unfold vY;rw [h,g];rfl
 ·unfold vY;rw [h,g];rfl
theorem aNt(o:OB):bK WL [J (gj o)] (bif vY o then(0,[J (gj o)])else(1,[aq,J (gj o)])):=by
 refine bW ayt (aw (c:=decide (o.size<1)) (λh=>af ?_) λh=>aw (c:=decide (16384<o.size)) (λg=>af ?_) λg=>af ?_)
 ·unfold vY;rw [h];rfl
 ·unfold vY;rw [h,g];rfl
 ·unfold vY;rw [h,g];rfl
theorem aNu(hk:o.Ok):bK UA [J [bJ (cb l)],J (gj o)] (bif nV l o then(0,[J [bJ (cb l)],J (gj o)])else(1,[aq,J [bJ (cb l)],J (gj o)])):=by
 refine bW asf (aw (c:=o.size != 1) (λh=>af ?_) λh=>aw (c:=o.lo != 0) (λg=>af ?_) λg=>aw (c:=o.hi != 0) (λi=>af ?_) λi=>aj (R4 0 (bw (ln (cb l)- 1)) hk) (aw (c:= !lr o.set 0 (bw (ln (cb l)- 1))) (λj=>af ?_) λj=>af ?_))
 ·unfold nV;rw [h];rfl
 ·unfold nV;rw [h,g];rfl
 ·unfold nV;rw [h,g,i];rfl
 ·simp only [dX]at j;unfold nV;rw [h,g,i,j];rfl
 ·simp only [dL]at j;unfold nV;rw [h,g,i,j];rfl
theorem aNs(hk:o.Ok):bK Wi [bJ (cb l),J (gj o)] (bif nV l o then(0,[J (gj o)])else(1,[aq,J (gj o)])):=by
 refine bW axk (aw (c:=o.size != 1) (λh=>af ?_) λh=>aw (c:=o.lo != 0) (λg=>af ?_) λg=>aw (c:=o.hi != 0) (λi=>af ?_) λi=>aj (RZ 0 (bw (ln (cb l)- 1)) hk) (aw (c:= !lr o.set 0 (bw (ln (cb l)- 1))) (λj=>af ?_) λj=>af ?_))
 ·unfold nV;rw [h];rfl
 ·unfold nV;rw [h,g];rfl
 ·unfold nV;rw [h,g,i];rfl
 ·simp only [dX]at j;unfold nV;rw [h,g,i,j];rfl
 ·simp only [dL]at j;unfold nV;rw [h,g,i,j];rfl
theorem Ky(hx:ib x l.length=true):gB (gA (cb l) x.toNat) 3=(cQ l x).ptr ∧gI (gA (cb l) x.toNat) 0=(cQ l x).size :=by rw [mj hx];exact⟨rfl,rfl⟩
theorem aFS(hx:ib x l.length=true):Ev VQ [iI x,J [bJ (cb l)]] (0,[ak (qq l x),J [bJ (cb l)]]):=by
 have fN:ib x (cb l).length =true:=Zo;obtain⟨g1,g2⟩:=Ky hx;refine bx aws (aH fN ?_);show E (λ_ _=>bif gB (gA (cb l) x.toNat) 3 then _ else aR _ (some (0,[ak (gI (gA (cb l) x.toNat) 0 != 1),_]))) _;rw [g1,g2];refine aw (c:=(cQ l x).ptr) (λh=>af ?_) λh=>aH fN (af ?_)
 ·unfold qq;rw [h];rfl
 ·unfold qq;rw [h];rfl
theorem oset(hk:o.Ok)(hr:∀x∈o.set,ib x l.length=true):Ev TR [aa (ints o.set),J [bJ (cb l)]] (0,[ak (o.set.any (qq l)),J [bJ (cb l)]]):=by
 refine KC (l:=o.set) (p:=qq l) (LF:=λN m=>H4 (FU CX EE N) N m [aa (ints o.set),iI (ln (ints o.set)),iI 0,J [bJ (cb l)]]) (IX:=λN _=>FU CX EE N TW [aa (ints o.set),J [bJ (cb l)]]) (st:=[J [bJ (cb l)]]) ?_ ?_ ?_ ?_
 ·refine scan (l:=o.set) (p:=qq l) (hit:=λi=>(0,[iI (i:Int),J [bJ (cb l)]])) (LF:=λi N m=>H4 (FU CX EE N) N m [aa (ints o.set),iI (ln (ints o.set)),iI (i:Int),J [bJ (cb l)]])
   (bD acj (ax dY aL))
   λi hi r h2 h3=>bD acj<|br (dx hi)<|aH (cN hi)<|by
    have hd:o.set.getD i 0=o.set[i]:=uk;rw [mH hi,ix hi hk,hd];exact aj (aFS (hr _ (dy hi))) (aw (λhc=>af (h2 hc)) h3)
 ·exact λi h=>bx acz (aj h.diag (aY aL))
 ·exact λh=>bx acz (aj h.diag (bj aL))
 ·exact λi h=>bx aqe (aj h aL)
theorem aFP(hk:o.Ok)(hr:∀x∈o.set,ib x l.length=true):bP IB [bJ (cb l),iI 0,J (gj o)] (bif o.set.any (qq l)then(0,[aq,J (gj o)])else(1,[J (gj o)])):=by
 refine pq (l:=o.set) (p:=qq l) (hit:=(0,[aq,J (gj o)])) (done:=(1,[J (gj o)])) (LF:=λi N m=>IB (FU CX EE N) N m [bJ (cb l),iI (i:Int),J (gj o)])
  (bD adV (ax (dY (f:=λn:Int=>[iI n]) (l:=o.set)) aL))
  λi hi r h2 h3=>bD adV<|br (dx (f:=λn:Int=>[iI n]) hi)<|aH (cN (f:=λn:Int=>[iI n]) hi)<|by
   have hd:o.set.getD i 0=o.set[i]:=uk;have hx:=hr _ (dy hi);have fN:ib o.set[i] (cb l).length =true:=Zo;obtain⟨g1,g2⟩:=Ky hx;rw [show gR (gj o) 4=ints o.set from rfl,mH hi,ix hi hk,hd,g1,g2];refine aH fN (aw (c:=(cQ l o.set[i]).ptr) (λa=>af (h2 ?_)) λa=>aH (cN (f:=λn:Int=>[iI n]) hi) (aH fN (aw (c:=(cQ l o.set[i]).size != 1) (λb=>af (h2 ?_)) λb=>h3 ?_)))
   ·unfold qq;rw [a];rfl
   ·unfold qq;rw [a,b];rfl
   ·unfold qq;rw [a,b];rfl
theorem aNr(hl:l.length<=mx)(hk:o.Ok):Ev Xd [bJ (cb l),J (gj o)] (0,[ak (nk l o)]):=by
 refine bx az8 (aj (aNt o) ?_);cases h1:vY o with
 |false=>exact bj (af (by unfold nk;rw [h1];rfl))
 |true=>
  refine aY (aw (c:= !o.ptr) (λhp=> ?_) λhp=> ?_)
  ·have hs:(ln (ints o.set)==0)= !decide (0<ln (ints o.set)):=by
    rw [dB];cases o.set<;>simp;omega
   have e:nk l o=si o:=by unfold nk;rw [h1,hp];rfl
   show E (λ_ _=>bif ln (ints o.set)==0 then _ else _) _;rw [hs,e];refine aw (c:= !decide (0<ln (ints o.set))) (λa=>aw (c:=decide (-2147483648<=o.lo)) (λb=>aw (c:=decide (o.hi<=2147483647)) (λc=>af ?_) λc=>af ?_) λb=>af ?_) λa=>af ?_
   ·have b':decide (o.lo< -2147483648)=false:=by simp at b⊢;omega
    have c':decide (2147483647<o.hi)=false:=by simp at c⊢;omega
    have d':decide (o.lo<=o.hi)= !decide (o.hi<o.lo):=by by_cases h:o.lo<=o.hi<;>simp [h]<;>omega
    simp only [dX]at a;unfold si;rw [a,b',c',<-d'];rfl
   ·have b':decide (o.lo< -2147483648)=false:=by simp at b⊢;omega
    have c':decide (2147483647<o.hi)=true:=by simp at c⊢;omega
    simp only [dX]at a;unfold si;rw [a,b',c'];rfl
   ·have b':decide (o.lo< -2147483648)=true:=by simp at b⊢;omega
    simp only [dX]at a;unfold si;rw [a,b'];rfl
   ·simp only [dL]at a;unfold si;rw [a];rfl
  ·have e:nk l o=(nV l o&& !o.set.any (qq l)):=by unfold nk;rw [h1,hp];rfl
   rw [e];refine aj (aNs hk) ?_;cases h3:nV l o with
   |false=>exact gr
   |true=>
    refine aY (aj (aFP hk (aaf hl h3)).diag ?_);cases o.set.any (qq l)with
    |true=>exact mW
    |false=>exact gr
include hl ho in
theorem aFU:bP BJ [iI 0,bJ (cb l),iI (ln (cb l)),iI 0,J [bJ (cb l)]] (bif l.all (nk l)then(1,[iI (yI 0 l),J [bJ (cb l)]])else(0,[aq,J [bJ (cb l)]])):=by
 have k:=fH (m:=l.length) (P:=λi=>∀s,bP BJ [iI s,bJ (cb l),iI (ln (cb l)),iI (i:Int),J [bJ (cb l)]] (bif (l.drop i).all (nk l)then(1,[iI (yI s (l.drop i)),J [bJ (cb l)]])else(0,[aq,J [bJ (cb l)]])))
  (λs=>by
    rw [gK];exact bD ady (ax dY aL))
  λi hi ih s=>by
   have hk:=ho _ (dy hi);have gO:NP (gA (cb l) ((i:Int).toNat))=gj l[i]:=by rw [fK hi,amL]
   rw [fW hi,FN,yI];have C:∀r:UO,_->bP BJ [iI s,bJ (cb l),iI (ln (cb l)),iI (i:Int),J [bJ (cb l)]] r:=λr h=>by
    refine bD ady (br (dx hi) (aH (cN hi) ?_));rw [gO];refine aj (dr (l[i]'hi)) ?_;exact h
   cases h1:vY l[i]with
   |false=>
    rw [h1]at C;have e:nk l l[i]=false:=by unfold nk;rw [h1];rfl
    rw [e];exact C _ (bj aL)
   |true=>
    rw [h1]at C;refine C _ (aY (aw (c:= !l[i].ptr) (λhp=> ?_) λhp=> ?_))
    ·have e:nk l l[i]=si l[i]:=by unfold nk;rw [h1,hp];rfl
     rw [e];refine aw (c:=decide (0<ln (ints l[i].set))) (λa=>af ?_) λa=>aw (c:=decide (l[i].lo < -2147483648)) (λb=>af ?_) λb=>aw (c:=decide (2147483647<l[i].hi)) (λc=>af ?_) λc=>aw (c:=decide (l[i].hi <l[i].lo)) (λd=>af ?_) λd=> ?_
     ·unfold si;rw [a];rfl
     ·unfold si;rw [a,b];rfl
     ·unfold si;rw [a,b,c];rfl
     ·unfold si;rw [a,b,c,d];rfl
     ·have e2:si l[i]=true:=by unfold si;rw [a,b,c,d];rfl
      rw [e2,oK];have:=ih (bw (s+l[i].size));rw [<-ix hi hl]at this;exact this
    ·have e:nk l l[i]=(nV l l[i]&& !l[i].set.any (qq l)):=by unfold nk;rw [h1,hp];rfl
     rw [e];refine aj (aNu (l:=l) hk) ?_;cases h3:nV l l[i]with
     |false=>exact gr
     |true=>
      refine aY (aj (oset hk (aaf hl h3)) ?_);cases l[i].set.any (qq l)with
      |true=>exact mW
      |false=>
       have:=ih (bw (s+l[i].size));rw [<-ix hi hl]at this;exact bj this
 have:=k 0;exact Zg
include hl ho in
theorem aFT:bP Iv [bJ (cb l),iI 0,iI 0] (bif l.all (nk l)then(1,[iI (yI 0 l)])else(0,[aq])):=by
 have k:=fH (m:=l.length) (P:=λi=>∀s,bP Iv [bJ (cb l),iI s,iI (i:Int)] (bif (l.drop i).all (nk l)then(1,[iI (yI s (l.drop i))])else(0,[aq])))
  (λs=>by
    rw [gK];exact bD adH (ax dY aL))
  λi hi ih s=>by
   have hk:=ho _ (dy hi);have gO:NP (gA (cb l) ((i:Int).toNat))=gj l[i]:=by rw [fK hi,amL]
   have gS:gI (gA (cb l) ((i:Int).toNat)) 0=l[i].size :=Ak;rw [fW hi,FN,yI];refine bD adH (br (dx hi) (aH (cN hi) ?_));rw [gO,gS];refine aj (aNr hl hk) ?_;cases nk l l[i]with
   |false=>exact mW
   |true=>
    have:=ih (bw (s+l[i].size));rw [<-ix hi hl]at this;exact bj (aH (cN hi) this)
 have:=k 0;exact Zg
include hl ho in
theorem aov:Ev Wz [bJ (cb l)] (0,[ak (uv l)])∧Ev WW [bJ (cb l)] (0,[ak (uv l)]):=by
 have a6:bK V5 [J [bJ (cb l)]] (bif (bif decide (ln (cb l)<1)then true else decide (2048<ln (cb l)))then(1,[aq,J [bJ (cb l)]])else(0,[J [bJ (cb l)]])):=by
  refine bW awi (aw (c:=decide (ln (cb l)<1)) (λa=>af (sO)) λa=>aw (c:=decide (2048<ln (cb l))) (λb=>af (oM)) λb=>af (oM))
 have r6:bK Wp [bJ (cb l)] (bif (bif decide (ln (cb l)<1)then true else decide (2048<ln (cb l)))then(1,[aq])else(0,[])):=by
  refine bW axr (aw (c:=decide (ln (cb l)<1)) (λa=>af (sO)) λa=>aw (c:=decide (2048<ln (cb l))) (λb=>af (oM)) λb=>af (oM))
 have e:uv l=bif (bif decide (ln (cb l)<1)then true else decide (2048<ln (cb l)))then false else bif l.all (nk l)then decide (yI 0 l<=16384)else false:=by
  unfold uv;cases decide (ln (cb l)<1)<;>rfl
 rw [e];have c1:=aFU hl ho;have c2:=aFT hl ho;cases hx:(bif decide (ln (cb l)<1)then true else decide (2048<ln (cb l)))with
 |true=>
  rw [hx]at a6 r6;exact⟨bx Wc (aj a6 (bj aL)),bx WD (aj r6 (bj aL))⟩
 |false=>
  rw [hx]at a6 r6;cases ha:l.all (nk l)with
  |true=>
   rw [ha]at c1 c2;exact⟨bx Wc (aj a6 (aY (aj c1.diag (bj aL)))),bx WD (aj r6 (aY (aj c2.diag (bj aL))))⟩
  |false=>
   rw [ha]at c1 c2;exact⟨bx Wc (aj a6 (aY (aj c1.diag (aY aL)))),bx WD (aj r6 (aY (aj c2.diag (aY aL))))⟩
include hl in
theorem ahY(h:uv l=true):OL l:=by
 unfold uv at h;cases h1:decide (ln (cb l)<1)with
 |true=>exact F7
 |false=>
  cases h2:decide (2048<ln (cb l))with
  |true=>rw [h1,h2]at h;cases h
  |false=>
   cases h3:l.all (nk l)with
   |false=>rw [h1,h2,h3]at h;cases h
   |true=>
    rw [jS]at h3;have hp:∀o∈l,(o.ptr=false->o.set=[])∧o.set.Nodup∧∀x∈o.set,ib x l.length=true:=λo hm=>by
     have:=h3 o hm;unfold nk at this;rw [bM]at this;cases hq:o.ptr with
     |false=>
      rw [hq]at this;have h2:=this.2;have hs:o.set=[]:=by
       simp only [ag6,cf]at h2;unfold si at h2;cases hz:decide (0<ln (ints o.set))with
       |true=>rw [hz]at h2;cases h2
       |false=>
        rw [dB]at hz;cases hs:o.set with
        |nil=>rfl
        |cons a b=>rw [hs]at hz;simp at hz
      refine⟨λ_=>hs,by rw [hs];exact wL,by rw [hs];simp⟩
     |true=>
      rw [hq]at this;have h2:=this.2;simp only [Bool.not_true,cE,bM]at h2;refine⟨λh=>(aX),?_,aaf hl h2.1⟩;have h3:=h2.1;unfold nV at h3;cases y1:o.size != 1 with
      |true=>rw [y1]at h3;cases h3
      |false=>
       cases y2:o.lo != 0 with
       |true=>rw [y1,y2]at h3;cases h3
       |false=>
        cases y3:o.hi != 0 with
        |true=>rw [y1,y2,y3]at h3;cases h3
        |false=>
         rw [y1,y2,y3]at h3;exact aBd (show lr o.set 0 (bw (ln (cb l)- 1))=true from h3)
    refine⟨?_,λo hm=>(hp o hm).1,λo hm=>(hp o hm).2.1,λo hm=>(hp o hm).2.2⟩;rw [dB]at h2;simp at h2;omega
end
end
end Go.Proofs.YtomkobcipaligaaGreatDoor
namespace Go.aA
def Qn{p:Prop}(h:p:=by unfold pO;rw [a,b,c,d];rfl):p:=h
def Qg{p:Prop}(h:p:=by unfold xA;rw [a,b,c];rfl):p:=h
end Go.aA
namespace Go.Proofs.YtomkobcipaligaaGreatDoor
open Go Go.aA
section
variable {l:List OB} {cs:cW}
abbrev aO(l:List OB):AV:= J [bJ (cb l)]
abbrev aI(cs:cW):AV:= J [aa (ints cs)]
def xA(k:Int):Bool:=bif k==1 then true else bif k==14 then true else bif k==6 then true else k==7
def pO(l:List OB)(cs:cW)(e:CE):Bool:=bif xA e.kind then true else bif e.kind==2 then bif dN cs e.O then !(cQ l e.O).ptr else false else bif e.kind==4 then e.op==18 else bif e.kind==5 then bif decide (7<=e.op)then decide (e.op<=15)else false else false
def aFK(k:Int):bK V4 [bE k] (0,[ak (xA k)]):=by
 refine bW awh (aw (c:=k==1) (λa=>af ?_) λa=>aw (c:=k==14) (λb=>af ?_) λb=>aw (c:=k==6) (λc=>af ?_) λc=>af ?_)
 ·unfold xA;rw [a];rfl
 ·unfold xA;rw [a,b];rfl
 ·exact Qg
 ·exact Qg
def aOU(k:Int):bK VZ [bE k] (0,[ak (xA k)]):=by
 refine bW awb (aw (c:=k==1) (λa=>af ?_) λa=>aw (c:=k==14) (λb=>af ?_) λb=>aw (c:=k==6) (λc=>af ?_) λc=>af ?_)
 ·unfold xA;rw [a];rfl
 ·unfold xA;rw [a,b];rfl
 ·exact Qg
 ·exact Qg
def aNi(hc:cs.length<=mx)(hr:∀x∈cs,ib x l.length=true)(e:CE):bK Ws [aq,aO l,aI cs,J (aP e)] (0,[ak (pO l cs e),aO l,aI cs,J (aP e)]):=by
 refine bW axv ?_;rw [Lb,abT,aph,eQ];refine aj (aFK e.kind) (aw (c:=xA e.kind) (λa=>af ?_) λa=>aw (c:=e.kind==2) (λb=>aj (u9 e.O hc) (aw (c:=dN cs e.O) (λc=> ?_) λc=>af ?_)) λb=>aw (c:=e.kind==4) (λc=>af ?_) λc=>aw (c:=e.kind==5) (λd=>aw (c:=decide (7<=e.op)) (λg=>af ?_) λg=>af ?_) λd=>af ?_)
 ·unfold pO;rw [a];rfl
 ·have hx:=hr _ (Cz.1 c);refine aH (by show ib e.O (cb l).length =true;rw [ey];exact hx) (af ?_);rw [show gB (gA (gR [bJ (cb l)] 0) e.O.toNat) 3=(cQ l e.O).ptr from(Ky hx).1];unfold pO;rw [a,b,c];rfl
 ·unfold pO;rw [a,b,c];rfl
 ·unfold pO;rw [a,b,c];rfl
 ·unfold pO;rw [a,b,c,d,g];rfl
 ·unfold pO;rw [a,b,c,d,g];rfl
 ·exact Qn
def ba6(hc:cs.length<=mx)(hr:∀x∈cs,ib x l.length=true)(e:CE):bK Wo [bJ (cb l),aa (ints cs),J (aP e)] (bif pO l cs e then(0,[J (aP e)])else(1,[aq,J (aP e)])):=by
 refine bW axq ?_;rw [Lb,abT,aph,eQ];refine aj (aOU e.kind) (aw (c:=xA e.kind) (λa=>af ?_) λa=>aw (c:=e.kind==2) (λb=>aj (uL e.O hc) (aw (c:= !dN cs e.O) (λc=>af ?_) λc=> ?_)) λb=>aw (c:=e.kind==4) (λc=>aw (c:=e.op != 18) (λg=>af ?_) λg=>af ?_) λc=>aw (c:=e.kind==5) (λd=>aw (c:=decide (e.op<7)) (λg=>af ?_) λg=>aw (c:=decide (15<e.op)) (λi=>af ?_) λi=>af ?_) λd=>af ?_)
 ·unfold pO;rw [a];rfl
 ·simp only [dX]at c;unfold pO;rw [a,b,c];rfl
 ·simp only [dL]at c;have hx:=hr _ (Cz.1 c);refine aH (Zo) ?_;rw [(Ky hx).1];refine aw (c:=(cQ l e.O).ptr) (λd=>af ?_) λd=>af ?_
  ·exact Qn
  ·exact Qn
 ·have:(e.op==18)=false:=by simpa using g
  unfold pO;rw [a,b,c,this];rfl
 ·have:(e.op==18)=true:=by simpa using g
  unfold pO;rw [a,b,c,this];rfl
 ·have:decide (7<=e.op)=false:=by simp at g⊢;omega
  unfold pO;rw [a,b,c,d,this];rfl
 ·have h1:decide (7<=e.op)=true:=by simp at g⊢;omega
  have h2:decide (e.op<=15)=false:=by simp at i⊢;omega
  unfold pO;rw [a,b,c,d,h1,h2];rfl
 ·have h1:decide (7<=e.op)=true:=by simp at g⊢;omega
  have h2:decide (e.op<=15)=true:=by simp at i⊢;omega
  unfold pO;rw [a,b,c,d,h1,h2];rfl
 ·exact Qn
def aEz(hc:cs.length<=mx)(hr:∀x∈cs,ib x l.length=true):∀e:CE,e.Ok->∃b,Ev Ja [bJ (cb l),aa (ints cs),J (aP e)] (0,[ak b])∧Ev IQ [bJ (cb l),aa (ints cs),J (aP e)] (0,[ak b]):=by
 refine CE.ind λe ih bz=> ?_;have j:=aNi hc hr e;have r:=ba6 hc hr e;cases hh:pO l cs e with
 |false=>
  rw [hh]at j r;refine⟨false,bx afv ?_,bx afe ?_⟩
  ·rw [eQ];exact aj j (bj aL)
  ·rw [eQ];exact aj r (bj aL)
 |true=>
  rw [hh]at j r;have aav:∀y,∃b,y∈e.L->(Ev Ja [bJ (cb l),aa (ints cs),J (aP y)] (0,[ak b])∧Ev IQ [bJ (cb l),aa (ints cs),J (aP y)] (0,[ak b])):=λy=>by
   by_cases hy:y∈e.L
   ·obtain⟨b,hb⟩:=ih y hy (bz.uH hy);exact⟨b,λ_=>hb⟩
   ·exact⟨true,λh=>absurd h hy⟩
  obtain⟨f,hf⟩:=X9 aav;have k1:=scan (l:=e.L) (p:=λy=> !f y) (hit:=λi=>(0,[iI (i:Int),aO l,aI cs])) (done:=(1,[aO l,aI cs]))
   (LF:=λi N m=>MC (FU CX EE N) N m [aT (e.L.map aP),iI (ln (e.L.map aP)),iI (i:Int),aO l,aI cs])
   (bD ack (ax dY aL))
   λi hi r h2 h3=>bD ack<|br (dx hi)<|aH (cN hi)<|by
    rw [sX hi,ix hi bz.len];have q:Ev Wx [J (aP e.L[i]),aO l,aI cs] (0,[ak (!f e.L[i]),aO l,aI cs]):=by
     refine bx ayE ?_;rw [eQ];exact aj (hf e.L[i] (dy hi)).1 aL
    exact aj q (aw (λpU=>af (h2 pU)) h3)
  have k3:=KC (l:=e.L) (p:=λy=> !f y) (IX:=λN _=>FU CX EE N TX [aT (e.L.map aP),aO l,aI cs]) (CT:=λN _=>FU CX EE N TS [aT (e.L.map aP),aO l,aI cs]) (st:=[aO l,aI cs]) k1
   (λi h=>bx acA (aj h.diag (aY aL)))
   (λh=>bx acA (aj h.diag (bj aL)))
   (λi h=>bx aqf (aj h aL))
  have k2:=pq (l:=e.L) (p:=λy=> !f y) (hit:=(0,[aq,J (aP e)])) (done:=(1,[J (aP e)]))
   (LF:=λi N m=>Ns (FU CX EE N) N m [bJ (cb l),aa (ints cs),iI (i:Int),J (aP e)])
   (bD adX (ax (Zn) (af (by rw [eQ]))))
   λi hi r h2 h3=>bD adX<|alS
  refine⟨!e.L.any λy=> !f y,bx afv ?_,bx afe ?_⟩
  ·rw [eQ];refine aj j (aY ?_);rw [<-uz]at k3;exact aj k3 aL
  ·rw [eQ];simp only [cf]at r;refine aj r (aY ?_);erw [eQ];refine aj k2.diag ?_;cases e.L.any λy=> !f y with
   |true=>exact mW
   |false=>exact gr
end
end Go.Proofs.YtomkobcipaligaaGreatDoor
namespace Go.aA
def Ze{p:Prop}(h:p:=by rw [nX];simp;omega):p:=h
end Go.aA
namespace Go.Proofs.YtomkobcipaligaaGreatDoor
open Go Go.aA
section
variable{n:Nat}
def aln{n:Int}(h0:0<=n)(h1:n<18446744073709551616):IntKind.wrap .u64 n=n:=ajL
def aGK(h:n<4294967296):((BitVec.ofInt 64 (n:Int)&&&BitVec.ofInt 64 4294967295).toNat :Int)=n:=by
 rw [BitVec.toNat_and];have h1:(BitVec.ofInt 64 (n:Int)).toNat =n:=by
  rw [BitVec.toNat_ofInt];omega
 have h2:(BitVec.ofInt 64 4294967295).toNat =2^32- 1:=by rfl
 rw [h1,h2,Nat.and_two_pow_sub_one_eq_mod,Yb (by omega)]
def aBm{n:Int}(h0:0<=n)(h:n<4294967296):Int.fdiv n (2^32)=0:=by
 rw [Int.fdiv_eq_ediv_of_nonneg _ (lh)];exact Int.ediv_eq_zero_of_lt h0 h
def aNz(h:n<4294967296):Ev V9 [.int .u64 1,.int .u64 (n:Int)] (0,[.int .u64 0,.int .u64 (n:Int)]):=by
 have h1:((BitVec.ofInt 64 1&&&BitVec.ofInt 64 4294967295).toNat :Int)=1:=by rfl
 have w0:IntKind.wrap .u64 0=0:=by rfl
 have w1:IntKind.wrap .u64 1=1:=by rfl
 have wn:IntKind.wrap .u64 (n:Int)=n:=aln (by omega) (by omega);have f1:Int.fdiv 1 (2^32)=0:=by rfl
 have f0:Int.fdiv 0 (2^32)=0:=by rfl
 have fn:Int.fdiv (n:Int) (2^32)=0:=aBm (by omega) (by omega);have a0:((BitVec.ofInt 64 0&&&BitVec.ofInt 64 4294967295).toNat :Int)=0:=by rfl
 have m:Ev Vs [.int .u64 1,.int .u64 (n:Int)] (0,[.int .u64 0,.int .u64 (n:Int)]):=by
  refine bx avk (af ?_);rw [h1,aGK h,f1,fn,Int.zero_mul,Int.zero_mul,w0,wn,w1,Int.one_mul,wn,fn,Js,w0,f0,Js,w0,a0,w0,Int.one_mul,w0,Js,w0,f0];rfl
 exact bx axC (aj m aL)
abbrev AI:Row:=[iI (-1),iI (-1),iI (-1)]
abbrev KJ:Row:=[iI 0,iI 0,iI 0]
def rz(k m:Nat):aW:=List.replicate k AI++List.replicate m KJ
def aiv(k m:Nat):(rz k m).length =k+m:=by simp [rz]
def air{k m d:Nat}(h:d<=m):tC (rz k m) k (List.replicate d AI)=rz (k+d) (m- d):=by
 unfold tC rz;rw [Yx (by simp),Cq (by simp),Co,List.drop_append,Yy (by simp),mE,List.drop_replicate,Co,Nat.add_sub_cancel_left,<-List.replicate_append_replicate]
def aM6:∀(m k:Nat),1<=k->k+m<=2048->bP H7 [iI (k:Int),ah (rz k m)] (0,[ah (rz (k+m) 0)]):=by
 intro m
 induction m using Nat.strongRecOn with
 |ind m ih=>
  intro k hk hb;have nX:ln (rz k m)=((k+m:Nat):Int):=by show(((rz k m).length :Nat):Int)=_;rw [aiv]
  refine bD aqZ ?_
  by_cases h0:m=0
  ·subst h0;exact ax (by rw [nX];simp) aL
  ·refine br (Ze) (aH (Ze) (aH (Ze) ?_));rw [mU,gJ,aiv,show k+m- k=m by omega];have ht:(rz k m).take k=List.replicate k AI:=by
    unfold rz;rw [Yx (by simp),Cq (by simp)]
   have hd:tS (rz k m) k m (List.replicate k AI)=rz (k+min k m) (m- min k m):=by
    unfold tS;rw [List.take_replicate,Nat.min_comm m k];exact air (by omega)
   rw [ht,hd,Co];have hw:bw ((k:Int)+((min k m:Nat):Int))=((k+min k m:Nat):Int):=vF;rw [hw];have:=ih (m- min k m) (by omega) (k+min k m) (by omega) (by omega);rw [show k+min k m+(m- min k m)=k+m by omega]at this;exact this
def aEn(n:Nat):rz n 0=bf (List.replicate n lC):=by
 unfold rz;show _=(List.replicate n lC).map tj;rw [List.map_replicate];exact Ad _
def aM7(h1:1<=n)(h2:n<=2048):Ev UB [ah [AI],iI (n:Int)] (0,[ah (bf (List.replicate n lC))]):=by
 have j6:bK Ui [iI (n:Int)] (0,[]):=bW ary (ax (by simp) aL);have j30:bK Ua [.int .u64 0,.int .u64 (n:Int)] (0,[]):=bW arc (bj (ax (eu) aL));have wn:IntKind.wrap .u64 (n:Int)=n:=aln (by omega) (by omega);have w6:bw (n:Int)=n:=jI (by omega) (by omega);refine bx asQ (aj j6 ?_);rw [wn];refine aj (aNz (n:=n) (by omega)) (aj j30 ?_);show E (λN _=>aR (decide (0<=bw (n:Int))&&decide (bw (n:Int)<=bw (n:Int))&&decide ((bw (n:Int))*24<=140737488355328))<|bO (H7 (FU CX EE N) N N [iI (((min 1 ((List.replicate ((bw (n:Int)).toNat) KJ).length):Nat):Int)),ah (tS (List.replicate ((bw (n:Int)).toNat) KJ) 0 ((List.replicate ((bw (n:Int)).toNat) KJ).length) [AI])]) λ_ o4=>some (0,[ah (gR o4 0)])) _;rw [w6,mU,Co];have hc:tS (List.replicate n KJ) 0 n [AI]=rz 1 (n- 1):=by
  unfold tS;rw [Cq (sU)];have:=air (k:=0) (m:=n) (d:=1) h1;simpa [rz]using this
 rw [hc,show min 1 n=1 by omega];refine aH (eu) (aj (aM6 (n- 1) 1 (by omega) (by omega)).diag (af ?_));show(0,[ah (rz (1+(n- 1)) 0)])=_;rw [aEn,show 1+(n- 1)=n by omega]
end
end Go.Proofs.YtomkobcipaligaaGreatDoor
namespace Go.aA
def amf{p:Prop}(h:p:=by
 simp only [cf];cases hf:qd (i:Int) p.dw[i].kg ro with
 |none=>
  rw [hf]at hx;exact⟨_,_,C _ (bj (aj hx.diag (aY aL)))⟩
 |some dF=>
  rw [hf]at hx;obtain⟨x',y',fN⟩:=ih dF (by rw [XV hf,hr]);refine⟨x',y',C _ (bj (aj hx.diag (bj ?_)))⟩;rw [ix hi hp.dw];exact fN):p:=h
def alU{p:Prop}(h:p:=by
 obtain⟨x,hx⟩:=ih (xv q ro os[i]) (λy hy=>by rw [show(xv q ro os[i]).length =ro.length by simp [xv]];exact hr y hy);refine⟨x,C _ (ax hp (aH fv (aH (toN_lt fv) ?_)))⟩;rw [HG,ix hi hl];exact hx):p:=h
def aky{p:Prop}(h:p:=by
 rw [hr];refine alp hp.bu ?_;rw [<-dB gj p.bu];exact hb):p:=h
end Go.aA
namespace Go.Proofs.YtomkobcipaligaaGreatDoor
open Go Go.aA
section
variable{o:Int}{ro:List RO}{n:Nat}
abbrev aG(p:PG):AV:= J (nf p)
abbrev cR(l:List RO):AV:= ah (bf l)
abbrev rR(l:List RO):AV:= cG (bf l)
def xv(q:Int)(ro:List RO)(o:Int):List RO:=ro.set o.toNat {eD ro o with gL:=q}
def qd(q:Int):cW->List RO->Option (List RO)
 | [],ro=>some ro
 |o::os,ro=>bif decide (0<=(eD ro o).gL)then none else qd q os (xv q ro o)
def sh(up:Int):Int->List PR->List RO->Option (List RO)
 |_,[],ro=>some ro
 |q,x::xs,ro=>bif lr x.kg 0 up then(qd q x.kg ro).bind (sh up (q+1) xs)else none
theorem PV(h:ib o ro.length=true)(r:RO):(bf ro).set o.toNat (tj r)=bf (ro.set o.toNat r):=by
 show(ro.map tj).set o.toNat (tj r)=(ro.set o.toNat r).map tj;rw [Yz]
theorem yD(h:ib o ro.length=true):gA (bf ro) o.toNat=tj (eD ro o):=Kz h
theorem toN_lt(h:ib o n=true):decide (o.toNat<n)=true:=by have:=jv.1 h;simp;omega
theorem XV{q:Int}:∀{os:cW} {ro dF:List RO},qd q os ro=some dF->dF.length=ro.length
 | [],ro,dF,h=>by injection h with h;rw [h]
 |o::os,ro,dF,h=>by
  simp only [qd]at h;cases hd:decide (0<=(eD ro o).gL)with
  |true=>rw [hd]at h;cases h
  |false=>
   rw [hd]at h;have:=XV (show qd q os (xv q ro o)=some dF from h);rw [this];simp [xv]
section
variable {p:PG}
theorem aM2{q:Int}{os:cW}(hl:os.length<=mx):∀ro:List RO,(∀x∈os,ib x ro.length=true)->∃x:aW,
 bP EL [iI q,aa (ints os),iI (ln (ints os)),iI 0,cR ro] (match qd q os ro with|some dF=>(1,[cR dF])|none=>(0,[aq,ah x,ah []])):=by
 have k:=fH (m:=os.length) (P:=λi=>∀ro:List RO,(∀x∈os,ib x ro.length=true)->∃x:aW,
  bP EL [iI q,aa (ints os),iI (ln (ints os)),iI (i:Int),cR ro] (match qd q (os.drop i) ro with|some dF=>(1,[cR dF])|none=>(0,[aq,ah x,ah []])))
  (λro _=>⟨[],by rw [gK];exact bD adx (ax dY aL)⟩)
  λi hi ih ro hr=>by
   have hd:os.getD i 0=os[i]:=uk;have ho:=hr _ (dy hi);have fv:ib os[i] (bf ro).length =true:=CQ;have C:∀r:UO,_->bP EL [iI q,aa (ints os),iI (ln (ints os)),iI (i:Int),cR ro] r:=λr h=>by
    refine bD adx (br (dx hi) (aH (cN hi) ?_));rw [mH hi,hd,yD ho];refine aH fv (aH (toN_lt fv) ?_);exact h
   rw [fW hi];simp only [qd];cases hp:decide (0<=(eD ro os[i]).gL)with
   |true=>exact⟨_,C _ (br hp aL)⟩
   |false=>
    have HG:(bf ro).set os[i].toNat (setAt (tj (eD ro os[i])) 0 [iI q])=bf (xv q ro os[i]):=PV ho {eD ro os[i]with gL:=q};exact alU
 intro ro hr;have:=k ro hr;rw [gJ]at this;exact this
theorem aM1{q:Nat}(hq:q<p.dw.length)(hl:p.dw[q].kg.length <=mx):∀ro:List RO,(∀x∈p.dw[q].kg,ib x ro.length=true)->∃x:aW,
 bP ER [iI (q:Int),iI 0,aG p,rR ro] (match qd q p.dw[q].kg ro with|some dF=>(1,[aG p,rR dF])|none=>(0,[aq,aG p,cG x,cG []])):=by
 have hg:gR (gA (gR (nf p) 3) ((q:Int).toNat)) 1=ints p.dw[q].kg :=by
  show gR (gA (p.dw.map fA) ((q:Int).toNat)) 1=_;rw [fK hq];rfl
 have fG:ib (q:Int) (gR (nf p) 3).length =true:=cN (f:=fA) hq;generalize hos:p.dw[q].kg =os at hg hl⊢;have k:=fH (m:=os.length) (P:=λi=>∀ro:List RO,(∀x∈os,ib x ro.length=true)->∃x:aW,
  bP ER [iI (q:Int),iI (i:Int),aG p,rR ro] (match qd q (os.drop i) ro with|some dF=>(1,[aG p,rR dF])|none=>(0,[aq,aG p,cG x,cG []])))
  (λro _=>⟨[],by
    rw [gK];refine bD adG (aH fG ?_);rw [hg];exact ax dY aL⟩)
  λi hi ih ro hr=>by
   have hd:os.getD i 0=os[i]:=uk;have ho:=hr _ (dy hi);have fv:ib os[i] (bf ro).length =true:=CQ;have C:∀r:UO,_->bP ER [iI (q:Int),iI (i:Int),aG p,rR ro] r:=λr h=>by
    refine bD adG (aH fG ?_);rw [hg,mH hi,hd,yD ho];refine br (dx hi) (aH fG (aH (cN hi) (aH fv (aH (toN_lt fv) ?_))));exact h
   rw [fW hi];simp only [qd];cases hp:decide (0<=(eD ro os[i]).gL)with
   |true=>exact⟨_,C _ (br hp aL)⟩
   |false=>
    have HG:(bf ro).set os[i].toNat (setAt (tj (eD ro os[i])) 0 [iI (q:Int)])=bf (xv q ro os[i]):=PV ho {eD ro os[i]with gL:=q};exact alU
 intro ro hr;have:=k ro hr;rw [gJ]at this;exact this
theorem alp(h:n<=mx){l:cW}(hr:lr l 0 (bw ((n:Int)- 1))=true):∀x∈l,ib x n=true:=λx hx=>by
 have:=Yn hr x hx;simp only [mx]at h;rw [jI (by omega) (by omega)]at this;exact Qh
abbrev nh(p:PG):Int:=bw (ln (cb p.bu)- 1)
variable (hp:p.Ok)
include hp in
theorem aMZ:∀ro:List RO,ro.length=p.bu.length->∃x y:aW,
 bP E1 [od (p.dw.map fA),iI (ln (p.dw.map fA)),iI 0,aG p,cR ro] (match sh (nh p) 0 p.dw ro with|some dF=>(1,[aG p,cR dF])|none=>(0,[aq,aG p,ah x,ah y])):=by
 have k:=fH (m:=p.dw.length) (P:=λi=>∀ro:List RO,ro.length=p.bu.length->∃x y:aW,
  bP E1 [od (p.dw.map fA),iI (ln (p.dw.map fA)),iI (i:Int),aG p,cR ro] (match sh (nh p) (i:Int) (p.dw.drop i) ro with|some dF=>(1,[aG p,cR dF])|none=>(0,[aq,aG p,ah x,ah y])))
  (λro _=>⟨[],[],by rw [gK];exact bD aem (ax dY aL)⟩)
  λi hi ih ro hr=>by
   have hk:=hp.gL _ (dy hi);have hg:gR (gA (p.dw.map fA) ((i:Int).toNat)) 1=ints p.dw[i].kg :=Ak;have C:∀r:UO,_->bP E1 [od (p.dw.map fA),iI (ln (p.dw.map fA)),iI (i:Int),aG p,cR ro] r:=λr h=>by
    refine bD aem (br (dx hi) (aH (cN hi) ?_));rw [hg];refine aj (R4 0 (nh p) hk.kg) ?_;exact h
   rw [fW hi];simp only [sh];cases hb:lr p.dw[i].kg 0 (nh p)with
   |false=>
    rw [hb]at C;exact⟨_,_,C _ (aY aL)⟩
   |true=>
    rw [hb]at C;have lG:∀x∈p.dw[i].kg,ib x ro.length=true:=aky;obtain⟨x,hx⟩:=aM2 (q:=(i:Int)) hk.kg ro lG;exact amf
 intro ro hr;have:=k ro hr;rw [gJ]at this;exact this
include hp in
theorem aMY:∀ro:List RO,ro.length=p.bu.length->∃x y:aW,
 bP E0 [iI 0,aG p,rR ro] (match sh (nh p) 0 p.dw ro with|some dF=>(1,[aG p,rR dF])|none=>(0,[aq,aG p,cG x,cG y])):=by
 have k:=fH (m:=p.dw.length) (P:=λi=>∀ro:List RO,ro.length=p.bu.length->∃x y:aW,
  bP E0 [iI (i:Int),aG p,rR ro] (match sh (nh p) (i:Int) (p.dw.drop i) ro with|some dF=>(1,[aG p,rR dF])|none=>(0,[aq,aG p,cG x,cG y])))
  (λro _=>⟨[],[],by rw [gK];exact bD aef (ax (dY (f:=fA) (l:=p.dw)) aL)⟩)
  λi hi ih ro hr=>by
   have hk:=hp.gL _ (dy hi);have hg:gR (gA (gR (nf p) 3) ((i:Int).toNat)) 1=ints p.dw[i].kg :=by
    show gR (gA (p.dw.map fA) ((i:Int).toNat)) 1=_;exact Ak
   have C:∀r:UO,_->bP E0 [iI (i:Int),aG p,rR ro] r:=λr h=>by
    refine bD aef (br (dx (f:=fA) hi) (aH (cN (f:=fA) hi) ?_));rw [hg];refine aj (RZ 0 (nh p) hk.kg) ?_;exact h
   rw [fW hi];simp only [sh];cases hb:lr p.dw[i].kg 0 (nh p)with
   |false=>
    rw [hb]at C;exact⟨_,_,C _ (aY aL)⟩
   |true=>
    rw [hb]at C;have lG:∀x∈p.dw[i].kg,ib x ro.length=true:=aky;obtain⟨x,hx⟩:=aM1 hi hk.kg ro lG;exact amf
 intro ro hr;have:=k ro hr;rw [gJ]at this;exact this
end
end
end Go.Proofs.YtomkobcipaligaaGreatDoor
namespace Go.aA
def Ge{p:Prop}(h:p:=by rw [hr];exact ho):p:=h
def QA{p:Prop}(h:p:=by rw [ey];exact mw):p:=h
def ZB{p:Prop}(h:p:=by
 rw [hb]at C;exact⟨_,_,C _ (bj aL)⟩):p:=h
def aj9{p:Prop}(h:p:=by show ib o (p.bu.map gj).length =true;rw [ey];exact ho):p:=h
end Go.aA
namespace Go.aA
def ag3:=@List.mem_or_eq_of_mem_set
end Go.aA
namespace Go.Proofs.YtomkobcipaligaaGreatDoor
open Go Go.aA
section
variable{e o t:Int}{ro:List RO}{m os:cW}
def zo(r:RO)(a b c:Int):Bool:=(r.gL==a)&&((r.task==b)&&((r.entry==c)&&true))
def vW(p:PG)(t e:Int)(ro:List RO)(o:Int):Bool:=bif (cQ p.bu o).size != 1 then false else bif zo (eD ro o) (-1) t e then true else zo (eD ro o) (-1) (-1) (-1)
def uC(t e:Int)(ro:List RO)(o:Int):List RO:=ro.set o.toNat ⟨-1,t,e⟩
def lQ(p:PG)(t e:Int):cW->List RO->Option (List RO)
 | [],ro=>some ro
 |o::os,ro=>bif vW p t e ro o then lQ p t e os (uC t e ro o)else none
def agF(p:PG)(t e:Int):∀(a b:cW) (ro:List RO),lQ p t e (a++b) ro=(lQ p t e a ro).bind (lQ p t e b)
 | [],b,ro=>rfl
 |o::a,b,ro=>by
  simp only [kK,lQ];cases vW p t e ro o with
  |true=>exact agF p t e a b _
  |false=>rfl
def R2(ro:List RO):Prop:=∀r∈ro,r=lC∨(0<=r.gL∧r.task= -1∧r.entry= -1)∨(r.gL= -1∧0<=r.task)
def R2.set(h:R2 ro)(ht:0<=t)(o:Int):R2 (uC t e ro o):=λr hr=>by
 rcases ag3 hr with hr|rfl
 ·exact h r hr
 ·exact .inr (.inr ⟨rfl,ht⟩)
def O6{p:PG}{t e:Int}(ht:0<=t):∀{os:cW} {ro dF:List RO},lQ p t e os ro=some dF->R2 ro->dF.length=ro.length∧R2 dF
 | [],ro,dF,h,hr=>by injection h with h;subst h;exact⟨rfl,hr⟩
 |o::os,ro,dF,h,hr=>by
  simp only [lQ]at h;cases hd:vW p t e ro o with
  |false=>rw [hd]at h;cases h
  |true=>
   rw [hd]at h;have:=O6 ht (show lQ p t e os (uC t e ro o)=some dF from h) (hr.set ht o);exact⟨by rw [this.1];simp [uC],this.2⟩
section
variable {p:PG}
def jK(p:PG)(m:cW):Bool:=bif decide (8<ln (ints m))then false else jO m 0 (nh p)
def wQ(hp:p.bu.length<=mx)(h:jK p m=true):m.length<=8∧∀x∈m,ib x p.bu.length=true:=by
 unfold jK at h;cases h8:decide (8<ln (ints m))with
 |true=>rw [h8]at h;cases h
 |false=>
  rw [h8]at h;rw [dB]at h8;refine⟨by simp at h8;omega,λx hx=> ?_⟩;have:=ahL (show jO m 0 (nh p)=true from h) x hx;simp only [mx]at hp;have hu:nh p=(p.bu.length:Int)- 1:=by
   show bw (ln (p.bu.map gj)- 1)=_;rw [dB,jI (by omega) (by omega)]
  rw [hu]at this;exact Qh
def apr(hm:m.length<=mx):bK Ug [aa (ints m),aG p] (bif jK p m then(0,[aG p])else(1,[aq,aG p,ah []])):=by
 refine bW ark (aw (c:=decide (8<ln (ints m))) (λa=>af ?_) λa=>aj (aaT 0 (nh p) hm) (aw (c:= !jO m 0 (nh p)) (λb=>af ?_) λb=>af ?_))
 ·unfold jK;rw [a];rfl
 ·simp only [dX]at b;unfold jK;rw [a,b];rfl
 ·simp only [dL]at b;unfold jK;rw [a,b];rfl
abbrev aE(y:EN):AV:= J (iP y)
def aOP{y:EN}(h1:y.ins.length<=mx)(h2:y.outs.length<=mx):bK UX [aG p,aE y] (bif jK p y.ins&&jK p y.outs then(0,[aG p,aE y])else(1,[aq,aG p,aE y,cG []])):=by
 refine bW atk (aw (c:=decide (8<ln (ints y.ins))) (λa=>af ?_) λa=>aw (c:=decide (8<ln (ints y.outs))) (λb=>af ?_) λb=>aj (aaS 0 (nh p) h1) (aw (c:= !jO y.ins 0 (nh p)) (λc=>af ?_) λc=>aj (aaS 0 (nh p) h2) (aw (c:= !jO y.outs 0 (nh p)) (λd=>af ?_) λd=>af ?_)))
 ·unfold jK;rw [a];rfl
 ·unfold jK;rw [a,b,cf,ph];rfl
 ·simp only [dX]at c;unfold jK;rw [a,b,c];rfl
 ·simp only [dX,dL]at c d;unfold jK;rw [a,b,c,d];rfl
 ·simp only [dL]at c d;unfold jK;rw [a,b,c,d];rfl
def alv(h:ib o p.bu.length=true):gI (gA (gR (nf p) 0) o.toNat) 0=(cQ p.bu o).size :=(Ky h).2
def aNq(hr:ro.length=p.bu.length)(ho:ib o p.bu.length=true):∃x:bl,bK T2 [iI o,aG p,cR ro,J [iI (-1),iI t,iI e]]
 (bif vW p t e ro o then(0,[aG p,cR ro,J [iI (-1),iI t,iI e]])else(1,[aq,aG p,cR ro,J [iI (-1),iI t,iI e],ah []])):=by
 have fv:ib o (bf ro).length =true:=by rw [ey,hr];exact ho
 have mw:ib o ro.length=true:=Ge;have D3:ib o (gR (nf p) 0).length =true:=aj9;refine⟨[],bW aqL (aH D3 ?_)⟩;rw [alv ho,yD mw];refine aw (c:=(cQ p.bu o).size != 1) (λa=>af ?_) λa=>aH fv (aH (toN_lt fv) (aw (c:= !zo (eD ro o) (-1) t e) (λb=>aH fv (aH (toN_lt fv) (aw (c:= !zo (eD ro o) (-1) (-1) (-1)) (λc=>af ?_) λc=>af ?_))) λb=>af ?_))
 ·unfold vW;rw [a];rfl
 ·simp only [dX]at b c;unfold vW;rw [a,b,c];rfl
 ·simp only [dX,dL]at b c;unfold vW;rw [a,b,c];rfl
 ·simp only [dL]at b;unfold vW;rw [a,b];rfl
def aoh(hl:os.length<=mx)(ht:0<=t)(lG:∀x∈os,ib x p.bu.length=true):∀ro:List RO,ro.length=p.bu.length->R2 ro->∃x y:aW,
 bP Eu [iI t,iI e,aa (ints os),iI (ln (ints os)),iI 0,aG p,cR ro] (match lQ p t e os ro with|some dF=>(1,[aG p,cR dF])|none=>(0,[aq,aG p,ah x,ah y])):=by
 have k:=fH (m:=os.length) (P:=λi=>∀ro:List RO,ro.length=p.bu.length->R2 ro->∃x y:aW,
  bP Eu [iI t,iI e,aa (ints os),iI (ln (ints os)),iI (i:Int),aG p,cR ro] (match lQ p t e (os.drop i) ro with|some dF=>(1,[aG p,cR dF])|none=>(0,[aq,aG p,ah x,ah y])))
  (λro _ _=>⟨[],[],by rw [gK];exact bD acN (ax dY aL)⟩)
  λi hi ih ro hr h2=>by
   have hd:os.getD i 0=os[i]:=uk;have ho:=lG _ (dy hi);have mw:ib os[i] ro.length=true:=Ge;have fv:ib os[i] (bf ro).length =true:=QA;obtain⟨_,j⟩:=aNq (p:=p) (t:=t) (e:=e) hr ho;have C:∀r:UO,_->bP Eu [iI t,iI e,aa (ints os),iI (ln (ints os)),iI (i:Int),aG p,cR ro] r:=λr h=>by
    refine bD acN (br (dx hi) (aH (cN hi) ?_));rw [mH hi,hd];refine aj j ?_;exact h
   rw [fW hi];simp only [lQ];cases hb:vW p t e ro os[i]with
   |false=>
    exact ZB
   |true=>
    rw [hb]at C;have HG:(bf ro).set os[i].toNat (setAt (gA (bf ro) os[i].toNat) 0 [iI (-1),iI t,iI e])=bf (uC t e ro os[i]):=by
     rw [yD mw];exact PV mw ⟨-1,t,e⟩
    obtain⟨x,y,hx⟩:=ih (uC t e ro os[i]) (by rw [<-hr];simp [uC]) (h2.set ht _);refine⟨x,y,C _ (aY (aH fv (aH (toN_lt fv) ?_)))⟩;rw [ix hi hl];rw [show cR (uC t e ro (os[i]'hi))=ah ((bf ro).set (os[i]'hi).toNat (setAt (gA (bf ro) (os[i]'hi).toNat) 0 [iI (-1),iI t,iI e]))from rM (AV.ab afB) HG.symm]at hx;exact hx
 intro ro hr h2;have:=k ro hr h2;rw [gJ]at this;exact this
def DU(t e:Int)(r:RO):Bool:=bif r.task==t then r.entry==e else false
def vV(p:PG)(ro:List RO)(o:Int)(m:Bool):Bool:=bif (cQ p.bu o).size != 1 then false else bif decide (0<=(eD ro o).gL)then false else bif decide (0<=(eD ro o).task)then m else true
def aED(ht:0<=t)(h:R2 ro)(ho:ib o ro.length=true):vV p ro o (DU t e (eD ro o))=vW p t e ro o:=by
 have hm:=h _ (Pw ho);unfold vV vW;generalize eD ro o=r at hm;generalize hx:((cQ p.bu o).size != 1)=a;cases a with
 |true=>rfl
 |false=>
  simp only [cE];rcases hm with hm|⟨h1,h2,h3⟩|⟨h1,h2⟩
  ·subst hm;cases hz:zo lC (-1) t e<;>rfl
  ·have e1:decide (0<=r.gL)=true:=by simpa using h1
   have e2:(r.gL== -1)=false:=eu;unfold zo;rw [e1,e2];rfl
  ·have e1:decide (0<=r.gL)=false:=by simp;omega
   have e2:(r.gL== -1)=true:=sU;have e3:decide (0<=r.task)=true:=qc;have e4:(r.task== -1)=false:=eu;unfold zo DU;rw [e1,e2,e3,e4];cases r.task==t<;>cases r.entry==e<;>rfl
def mn1(ho:ib o ro.length=true):bK Ur [iI t,iI e,iI o,rR ro] (0,[ak (DU t e (eD ro o)),rR ro]):=by
 have fv:ib o (bf ro).length =true:=CQ;refine bW ar5 (aH fv (aH (toN_lt fv) ?_));rw [yD ho];refine aw (c:=(eD ro o).task ==t) (λa=>aH fv (aH (toN_lt fv) (af ?_))) λa=>af ?_
 ·unfold DU;rw [a];rfl
 ·unfold DU;rw [a];rfl
def aNp(hr:ro.length=p.bu.length)(ho:ib o p.bu.length=true)(m:Bool):bK Uj [iI o,ak m,aG p,rR ro]
 (bif vV p ro o m then(0,[aG p,rR ro])else(1,[aq,aG p,rR ro,cG []])):=by
 have fv:ib o (bf ro).length =true:=by rw [ey,hr];exact ho
 have mw:ib o ro.length=true:=Ge;have D3:ib o (gR (nf p) 0).length =true:=aj9;refine bW arz (aH D3 ?_);rw [alv ho,yD mw];refine aw (c:=(cQ p.bu o).size != 1) (λa=>af ?_) λa=>aH fv (aH (toN_lt fv) (aw (c:=decide (0<=(eD ro o).gL)) (λb=>af ?_) λb=>aH fv (aH (toN_lt fv) (aw (c:=decide (0<=(eD ro o).task)) (λc=>aw (c:= !m) (λd=>af ?_) λd=>af ?_) λc=>af ?_))))
 ·unfold vV;rw [a];rfl
 ·unfold vV;rw [a,b];rfl
 ·simp only [dX]at d;unfold vV;rw [a,b,c,d];rfl
 ·simp only [dL]at d;unfold vV;rw [a,b,c,d];rfl
 ·unfold vV;rw [a,b,c];rfl
def aEY{l:aW}{i:Nat}(h:i<l.length)(r:Row):gA (l.set i r) i=r:=by simp [gA,List.getD,h]
def aCF(h:R2 ro)(ho:ib o ro.length=true){m:Bool}(hk:vV p ro o m=true):(eD ro o).gL = -1:=by
 have hm:=h _ (Pw ho);unfold vV at hk;cases h1:(cQ p.bu o).size != 1 with
 |true=>rw [h1]at hk;cases hk
 |false=>
  cases h2:decide (0<=(eD ro o).gL)with
  |true=>rw [h1,h2]at hk;cases hk
  |false=>
   simp at h2;rcases hm with hm|⟨h3,_,_⟩|⟨h3,_⟩
   ·rw [hm];rfl
   ·omega
   ·exact h3
def aM0(hl:os.length<=mx)(ht:0<=t)(lG:∀x∈os,ib x p.bu.length=true):∀ro:List RO,ro.length=p.bu.length->R2 ro->∃x y:aW,
 bP ED [iI t,iI e,iI 0,aG p,rR ro,aa (ints os)] (match lQ p t e os ro with|some dF=>(1,[aG p,rR dF,aa (ints os)])|none=>(0,[aq,aG p,cG x,aa (ints os),cG y])):=by
 have k:=fH (m:=os.length) (P:=λi=>∀ro:List RO,ro.length=p.bu.length->R2 ro->∃x y:aW,
  bP ED [iI t,iI e,iI (i:Int),aG p,rR ro,aa (ints os)] (match lQ p t e (os.drop i) ro with|some dF=>(1,[aG p,rR dF,aa (ints os)])|none=>(0,[aq,aG p,cG x,aa (ints os),cG y])))
  (λro _ _=>⟨[],[],by rw [gK];exact bD adk (ax dY aL)⟩)
  λi hi ih ro hr h2=>by
   have hd:os.getD i 0=os[i]:=uk;have ho:=lG _ (dy hi);have mw:ib os[i] ro.length=true:=Ge;have fv:ib os[i] (bf ro).length =true:=QA;have j0:=mn1 (t:=t) (e:=e) mw;have j:=aNp (p:=p) hr ho (DU t e (eD ro os[i]));have C:∀r:UO,_->bP ED [iI t,iI e,iI (i:Int),aG p,rR ro,aa (ints os)] r:=λr h=>by
    refine bD adk (br (dx hi) (aH (cN hi) (aH (toN_lt (cN hi)) ?_)));rw [mH hi,hd];refine aj j0 (aj j ?_);exact h
   rw [fW hi];simp only [lQ];rw [<-aED ht h2 mw];cases hb:vV p ro os[i] (DU t e (eD ro os[i]))with
   |false=>
    exact ZB
   |true=>
    rw [hb]at C;have hpr:=aCF h2 mw hb;have cM:os[i].toNat <(bf ro).length :=by simpa using toN_lt fv
    have ir:∀r:Row,ib os[i] ((bf ro).set os[i].toNat r).length =true:=λr=>by rw [zZ];exact fv
    have HG:((bf ro).set os[i].toNat (setAt (gA (bf ro) os[i].toNat) 1 [iI t])).set os[i].toNat (setAt (gA ((bf ro).set os[i].toNat (setAt (gA (bf ro) os[i].toNat) 1 [iI t])) os[i].toNat) 2 [iI e])=bf (uC t e ro os[i]):=by
     rw [aEY cM,List.set_set,yD mw];have:setAt (setAt (tj (eD ro os[i])) 1 [iI t]) 2 [iI e]=tj ⟨-1,t,e⟩:=by
      show [iI (eD ro os[i]).gL,iI t,iI e]=_;rw [hpr];rfl
     rw [this];exact PV mw ⟨-1,t,e⟩
    obtain⟨x,y,hx⟩:=ih (uC t e ro os[i]) (by rw [<-hr];simp [uC]) (h2.set ht _);refine⟨x,y,C _ (aY (aH fv (aH (toN_lt fv) (aH (ir _) (aH (toN_lt (ir _)) ?_)))))⟩;rw [ix hi hl];rw [show rR (uC t e ro (os[i]'hi))=cG _ from rM (AV.ab ada) HG.symm]at hx;exact hx
 intro ro hr h2;have:=k ro hr h2;rw [gJ]at this;exact this
end
end
end Go.Proofs.YtomkobcipaligaaGreatDoor
namespace Go.aA
def ame{p:Prop}(h:p:=by
 rw [fW hi];simp only [nx];cases hf:ql p (i:Int) 0 p.tasks[i].au ro with
 |none=>
  rw [hf]at C;exact⟨_,_,C _ (aY aL)⟩
 |some r1=>
  rw [hf]at C;obtain⟨j1,j2,_⟩:=Yt (by omega) hf h2;obtain⟨x',z',fN⟩:=ih r1 (by rw [j1,hr]) j2;refine⟨x',z',C _ (bj ?_)⟩;rw [ix hi hp.tasks];exact fN):p:=h
def amb{p:Prop}(h:p:=by
 rw [zY,aCx];cases hs:p.bu.any λo=>o.set.any λx=> !qQ r2 x with
 |true=>
  rw [hs]at e3;exact⟨_,C _ (aj j (aY (aj j2 (aY (aj e3.diag (aY aL))))))⟩
 |false=>
  rw [hs]at e3;exact⟨[],C _ (aj j (aY (aj j2 (aY (aj e3.diag (bj aL))))))⟩):p:=h
def akS{p:Prop}(h:p:=by
 refine aj j.diag ?_;cases hb:p.bu[i].set.any λx=> !qQ ro x with
 |true=>exact aY (af (a hb))
 |false=>exact bj (b hb)):p:=h
def ZL{p:Prop}(h:p:=by injection h with h;subst h;exact⟨rfl,hr,by simp⟩):p:=h
def akJ{p:Prop}(h:p:=by
 refine⟨by rw [i1,j1],i2,λz hz=> ?_⟩;rcases gX.1 hz with rfl|hz
 ·exact j3
 ·exact i3 z hz):p:=h
def Zv{p:Prop}(h:p:=by
 refine aj hx.diag ?_;exact h):p:=h
def aiU{p:Prop}(h:p:=by exact⟨_,C _ (aj j (aY (aj j2 (bj aL))))⟩):p:=h
end Go.aA
namespace Go.aA
def agW:=@List.any_eq_not_all_not
def X2:=@Bool.not_not
end Go.aA
namespace Go.Proofs.YtomkobcipaligaaGreatDoor
open Go Go.aA
section
variable{y:EN}{e t:Int}{ro:List RO}
def zJ(p:PG)(t e:Int)(y:EN)(ro:List RO):Option (List RO):=bif jK p y.ins&&jK p y.outs then lQ p t e (y.ins++y.outs) ro else none
def ql(p:PG)(t:Int):Int->List EN->List RO->Option (List RO)
 |_,[],ro=>some ro
 |e,y::ys,ro=>(zJ p t e y ro).bind (ql p t (e+1) ys)
def nx(p:PG):Int->List TK->List RO->Option (List RO)
 |_,[],ro=>some ro
 |t,x::xs,ro=>(ql p t 0 x.au ro).bind (nx p (t+1) xs)
def qQ(ro:List RO)(x:Int):Bool:=zo (eD ro x) (-1) (-1) (-1)
def RH(p:PG)(ro:List RO):Bool:=p.bu.all λo=>o.set.all (qQ ro)
def vq(p:PG):Option (List RO):=(sh (nh p) 0 p.dw (List.replicate p.bu.length lC)).bind λr=>(nx p 0 p.tasks r).bind λr=>bif RH p r then some r else none
def R1(ro:List RO):Prop:=∀r∈ro,r=lC∨(0<=r.gL∧r.task= -1∧r.entry= -1)
section
variable {p:PG}
def ahz{q:Int}(hq:0<=q):∀{os:cW} {ro dF:List RO},qd q os ro=some dF->R1 ro->R1 dF
 | [],ro,dF,h,hr=>by injection h with h;subst h;exact hr
 |o::os,ro,dF,h,hr=>by
  simp only [qd]at h;cases hd:decide (0<=(eD ro o).gL)with
  |true=>rw [hd]at h;cases h
  |false=>
   rw [hd]at h;refine ahz hq (show qd q os (xv q ro o)=some dF from h) λr hm=> ?_;unfold xv at hm
   by_cases ho:o.toNat<ro.length
   ·rcases ag3 hm with hm|rfl
    ·exact hr r hm
    ·have eV:eD ro o∈ro:=by
      simp only [eD,lN,dD ho,pb];exact dy ho
     have h0:eD ro o=lC:=by
      rcases hr _ eV with h1|⟨h1,_⟩
      ·exact h1
      ·simp at hd;omega
     rw [h0];exact .inr ⟨hq,rfl,rfl⟩
   ·rw [List.set_eq_of_length_le (by omega)]at hm;exact hr r hm
def PX{up:Int}:∀{xs:List PR} {q:Int} {ro dF:List RO},0<=q->sh up q xs ro=some dF->R1 ro->dF.length=ro.length∧R1 dF∧∀x∈xs,lr x.kg 0 up=true
 | [],q,ro,dF,_,h,hr=>ZL
 |x::xs,q,ro,dF,hq,h,hr=>by
  simp only [sh]at h;cases hb:lr x.kg 0 up with
  |false=>rw [hb]at h;cases h
  |true=>
   rw [hb]at h;cases hf:qd q x.kg ro with
   |none=>rw [hf]at h;cases h
   |some r1=>
    rw [hf]at h;obtain⟨i1,i2,i3⟩:=PX (by omega) (show sh up (q+1) xs r1=some dF from h) (ahz hq hf hr);refine⟨by rw [i1,XV hf],i2,λy hy=> ?_⟩;rcases gX.1 hy with rfl|hy
    ·exact hb
    ·exact i3 y hy
def aie(ht:0<=t){dF:List RO}(h:zJ p t e y ro=some dF)(hr:R2 ro):dF.length=ro.length∧R2 dF∧jK p y.ins=true∧jK p y.outs=true:=by
 unfold zJ at h;cases h1:jK p y.ins with
 |false=>exact F7
 |true=>
  cases h2:jK p y.outs with
  |false=>rw [h1,h2]at h;cases h
  |true=>
   rw [h1,h2]at h;have:=O6 ht (show lQ p t e (y.ins++y.outs) ro=some dF from h) hr;exact⟨this.1,this.2,rfl,rfl⟩
def Yt{t:Int}(ht:0<=t):∀{ys:List EN} {e:Int} {ro dF:List RO},ql p t e ys ro=some dF->R2 ro->dF.length=ro.length∧R2 dF∧∀y∈ys,jK p y.ins=true∧jK p y.outs=true
 | [],e,ro,dF,h,hr=>ZL
 |y::ys,e,ro,dF,h,hr=>by
  simp only [ql]at h;cases hf:zJ p t e y ro with
  |none=>rw [hf]at h;cases h
  |some r1=>
   rw [hf]at h;obtain⟨j1,j2,j3⟩:=aie ht hf hr;obtain⟨i1,i2,i3⟩:=Yt ht (show ql p t (e+1) ys r1=some dF from h) j2;exact akJ
def Pv:∀{xs:List TK} {t:Int} {ro dF:List RO},0<=t->nx p t xs ro=some dF->R2 ro->dF.length=ro.length∧R2 dF∧∀x∈xs,∀y∈x.au,jK p y.ins=true∧jK p y.outs=true
 | [],t,ro,dF,_,h,hr=>ZL
 |x::xs,t,ro,dF,ht,h,hr=>by
  simp only [nx]at h;cases hf:ql p t 0 x.au ro with
  |none=>rw [hf]at h;cases h
  |some r1=>
   rw [hf]at h;obtain⟨j1,j2,j3⟩:=Yt ht hf hr;obtain⟨i1,i2,i3⟩:=Pv (by omega) (show nx p (t+1) xs r1=some dF from h) j2;exact akJ
def Z7(n:Nat):R1 (List.replicate n lC):=λr hr=> .inl (Ye hr)
def R1.to(h:R1 ro):R2 ro:=λr hr=>by
 rcases h r hr with h|h
 ·exact .inl h
 ·exact .inr (.inl h)
def Xq(h:vq p=some ro):ro.length=p.bu.length∧R2 ro∧(∀x∈p.dw,lr x.kg 0 (nh p)=true)∧∀x∈p.tasks,∀y∈x.au,jK p y.ins=true∧jK p y.outs=true:=by
 unfold vq at h;cases h1:sh (nh p) 0 p.dw (List.replicate p.bu.length lC)with
 |none=>exact F7
 |some r1=>
  rw [h1]at h;obtain⟨i1,i2,i3⟩:=PX (by omega) h1 (Z7 _);cases h2:nx p 0 p.tasks r1 with
  |none=>rw [zY,h2]at h;cases h
  |some r2=>
   rw [zY,h2]at h;obtain⟨j1,j2,j3⟩:=Pv (by omega) h2 i2.to;rw [zY]at h;cases h3:RH p r2 with
   |false=>rw [h3]at h;cases h
   |true=>
    rw [h3]at h;injection h with h;subst h;exact⟨by rw [j1,i1];simp,j2,i3,j3⟩
abbrev DW(y:EN):AV:= B9 [[aa (ints y.ins)],[aa (ints y.outs)]]
def aGs(hp:p.bu.length<=mx)(ht:0<=t)(hy:y.Ok)(hr:ro.length=p.bu.length)(h2:R2 ro):∃x z:aW,
 bP BF [iI t,iI e,iI 2,iI 0,aG p,cR ro,DW y] (match zJ p t e y ro with|some dF=>(1,[aG p,cR dF,DW y])|none=>(0,[aq,aG p,ah x,DW y,ah z])):=by
 have done:∀ro:List RO,bP BF [iI t,iI e,iI 2,iI 2,aG p,cR ro,DW y] (1,[aG p,cR ro,DW y]):=λro=>
  bD Uo (bj aL)
 have c1:=apr (p:=p) hy.1;have c2:=apr (p:=p) hy.2;have C1:∀(ro:List RO) (r:UO),_->bP BF [iI t,iI e,iI 2,iI 0,aG p,cR ro,DW y] r:=λro r h=>by
  refine bD Uo (aY (aH rfl (aH rfl (aj c1 ?_))));exact h
 have C2:∀(ro:List RO) (r:UO),_->bP BF [iI t,iI e,iI 2,iI 1,aG p,cR ro,DW y] r:=λro r h=>by
  refine bD Uo (aY (aH rfl (aH rfl (aj c2 ?_))));exact h
 unfold zJ;cases h1:jK p y.ins with
 |false=>
  rw [h1]at C1;exact⟨_,_,C1 ro _ (bj aL)⟩
 |true=>
  rw [h1]at C1;obtain⟨l8,lG⟩:=wQ hp h1;obtain⟨x,z,hx⟩:=aoh (p:=p) (e:=e) hy.1 ht lG ro hr h2;have Tu:=agF p t e y.ins y.outs ro;cases hf:lQ p t e y.ins ro with
  |none=>
   rw [hf]at hx Tu;have:(bif true&&jK p y.outs then lQ p t e (y.ins++y.outs) ro else none)=none:=by rw [Tu];cases jK p y.outs<;>rfl
   rw [this];exact⟨_,_,C1 ro _ (aY (aj hx.diag (aY aL)))⟩
  |some r1=>
   rw [hf]at hx Tu;obtain⟨k1,k2⟩:=O6 ht hf h2;cases h3:jK p y.outs with
   |false=>
    rw [h3]at C2;exact⟨_,_,C1 ro _ (aY (aj hx.diag (bj (C2 r1 _ (bj aL)))))⟩
   |true=>
    rw [h3]at C2;obtain⟨l8',aN6⟩:=wQ hp h3;obtain⟨x',z',fN⟩:=aoh (p:=p) (e:=e) hy.2 ht aN6 r1 (by rw [k1,hr]) k2;have:(bif true&&true then lQ p t e (y.ins++y.outs) ro else none)=lQ p t e y.outs r1:=Tu;rw [this];cases hg:lQ p t e y.outs r1 with
    |none=>
     rw [hg]at fN;exact⟨_,_,C1 ro _ (aY (aj hx.diag (bj (C2 r1 _ (aY (aj fN.diag (aY aL)))))))⟩
    |some r2=>
     rw [hg]at fN;exact⟨[],[],C1 ro _ (aY (aj hx.diag (bj (C2 r1 _ (aY (aj fN.diag (bj (done r2))))))))⟩
def aGt(hp:p.bu.length<=mx)(ht:0<=t){ys:List EN}(hl:ys.length<=mx)(hy:∀y∈ys,y.Ok):∀ro:List RO,ro.length=p.bu.length->R2 ro->∃x z:aW,
 bP EK [iI t,BU (ys.map iP),iI (ln (ys.map iP)),iI 0,aG p,cR ro] (match ql p t 0 ys ro with|some dF=>(1,[aG p,cR dF])|none=>(0,[aq,aG p,ah x,ah z])):=by
 have k:=fH (m:=ys.length) (P:=λi=>∀ro:List RO,ro.length=p.bu.length->R2 ro->∃x z:aW,
  bP EK [iI t,BU (ys.map iP),iI (ln (ys.map iP)),iI (i:Int),aG p,cR ro] (match ql p t (i:Int) (ys.drop i) ro with|some dF=>(1,[aG p,cR dF])|none=>(0,[aq,aG p,ah x,ah z])))
  (λro _ _=>⟨[],[],by rw [gK];exact bD adw (ax dY aL)⟩)
  λi hi ih ro hr h2=>by
   obtain⟨x,z,hx⟩:=aGs hp (e:=(i:Int)) ht (hy _ (dy hi)) hr h2;have g1:gA (ys.map iP) ((i:Int).toNat)=iP ys[i]:=fK hi;have C:∀r:UO,_->bP EK [iI t,BU (ys.map iP),iI (ln (ys.map iP)),iI (i:Int),aG p,cR ro] r:=λr h=>by
    refine bD adw (br (dx hi) (aH (cN hi) ?_));rw [g1];exact Zv
   rw [fW hi];simp only [ql];cases hf:zJ p t (i:Int) ys[i] ro with
   |none=>
    rw [hf]at C;exact⟨_,_,C _ (aY aL)⟩
   |some r1=>
    rw [hf]at C;obtain⟨j1,j2,_⟩:=aie ht hf h2;obtain⟨x',z',fN⟩:=ih r1 (by rw [j1,hr]) j2;refine⟨x',z',C _ (bj ?_)⟩;rw [ix hi hl];exact fN
 intro ro hr h2;have:=k ro hr h2;rw [gJ]at this;exact this
def aGT(hp:p.Ok):∀ro:List RO,ro.length=p.bu.length->R2 ro->∃x z:aW,
 bP EU [fZ (p.tasks.map cF),iI (ln (p.tasks.map cF)),iI 0,aG p,cR ro] (match nx p 0 p.tasks ro with|some dF=>(1,[aG p,cR dF])|none=>(0,[aq,aG p,ah x,ah z])):=by
 have k:=fH (m:=p.tasks.length) (P:=λi=>∀ro:List RO,ro.length=p.bu.length->R2 ro->∃x z:aW,
  bP EU [fZ (p.tasks.map cF),iI (ln (p.tasks.map cF)),iI (i:Int),aG p,cR ro] (match nx p (i:Int) (p.tasks.drop i) ro with|some dF=>(1,[aG p,cR dF])|none=>(0,[aq,aG p,ah x,ah z])))
  (λro _ _=>⟨[],[],by rw [gK];exact bD ad5 (ax dY aL)⟩)
  λi hi ih ro hr h2=>by
   have hk:=hp.task _ (dy hi);obtain⟨x,z,hx⟩:=aGt hp.bu (t:=(i:Int)) (by omega) hk.len hk.au ro hr h2;have g1:gR (gA (p.tasks.map cF) ((i:Int).toNat)) 1=p.tasks[i].au.map iP:=Ak;have C:∀r:UO,_->bP EU [fZ (p.tasks.map cF),iI (ln (p.tasks.map cF)),iI (i:Int),aG p,cR ro] r:=λr h=>by
    refine bD ad5 (br (dx hi) (aH (cN hi) ?_));rw [g1];exact Zv
   exact ame
 intro ro hr h2;have:=k ro hr h2;rw [gJ]at this;exact this
def aG1(hr:ro.length=p.bu.length){s:cW}(hs:s.length<=mx)(lG:∀x∈s,ib x p.bu.length=true):bP Iq [aa (ints s),iI (ln (ints s)),iI 0,cR ro] (bif s.any (λx=> !qQ ro x)then(0,[aq,cR ro,ah []])else(1,[cR ro])):=by
 refine pq (l:=s) (p:=λx=> !qQ ro x) (LF:=λi N m=>Iq (FU CX EE N) N m [aa (ints s),iI (ln (ints s)),iI (i:Int),cR ro])
  (bD adv (ax dY aL))
  λi hi r a b=>bD adv (br (dx hi) (aH (cN hi) ?_))
 have hd:s.getD i 0=s[i]:=uk;have ho:=lG _ (dy hi);have mw:ib s[i] ro.length=true:=Ge;have fv:ib s[i] (bf ro).length =true:=QA;rw [mH hi,hd,yD mw,ix hi hs];exact aH fv (aH (toN_lt fv) (aw (c:= !qQ ro s[i]) (λc=>af (a c)) b))
def aFx(hr:ro.length=p.bu.length)(ol:OL p.bu)(hp:p.Ok):bP ID [bJ (cb p.bu),iI (ln (cb p.bu)),iI 0,cR ro] (bif p.bu.any (λo=>o.set.any λx=> !qQ ro x)then(0,[aq,cR ro,ah []])else(1,[cR ro])):=by
 refine pq (l:=p.bu) (p:=λo=>o.set.any λx=> !qQ ro x) (LF:=λi N m=>ID (FU CX EE N) N m [bJ (cb p.bu),iI (ln (cb p.bu)),iI (i:Int),cR ro])
  (bD ad4 (ax dY aL))
  λi hi r a b=>bD ad4 (br (dx hi) (aH (cN hi) ?_))
 have hm:=dy hi;have g1:gR (gA (cb p.bu) ((i:Int).toNat)) 4=ints p.bu[i].set :=Ak;have j:=aG1 (p:=p) hr (hp.obj _ hm) (ol.jz _ hm);rw [g1,ix hi hp.bu];exact akS
def aCx(ro:List RO):RH p ro= !(p.bu.any λo=>o.set.any λx=> !qQ ro x):=by
 unfold RH;rw [agW,X2]
 congr 1;funext o
 rw [agW,X2]
 congr 1;funext x
 rw [X2]
def aEp(hp:p.Ok)(ol:OL p.bu)(h1:1<=p.bu.length):∃x:aW,Ev Oy [aG p] (0,match vq p with|some ro=>[cw,cR ro]|none=>[aq,ah x]):=by
 have rp:=aM7 h1 ol.len;have nX:ln (gR (nf p) 0)=(p.bu.length:Int):=dB gj p.bu;obtain⟨x1,z1,e1⟩:=aMZ hp (List.replicate p.bu.length lC) (by simp);have C:∀r:UO,_->Ev Oy [aG p] r:=λr h=>by
  refine bx aAh ?_;rw [nX];refine aj rp ?_;exact h
 unfold vq;cases hf:sh (nh p) 0 p.dw (List.replicate p.bu.length lC)with
 |none=>
  rw [hf]at e1;have j:bK NO [aG p,cR (List.replicate p.bu.length lC)] (1,[aq,aG p,ah x1,ah z1]):=
   bW aes (aj e1.diag (aY aL))
  exact⟨_,C _ (aj j (bj aL))⟩
 |some r1=>
  rw [hf]at e1;obtain⟨i1,i2,_⟩:=PX (by omega) hf (Z7 _);have sr:r1.length=p.bu.length:=by rw [i1];simp
  have j:bK NO [aG p,cR (List.replicate p.bu.length lC)] (0,[aG p,cR r1]):=
   bW aes (aj e1.diag (bj aL))
  obtain⟨x2,z2,e2⟩:=aGT hp r1 sr i2.to;rw [zY];cases hg:nx p 0 p.tasks r1 with
  |none=>
   rw [hg]at e2;have j2:bK NN [aG p,cR r1] (1,[aq,aG p,ah x2,ah z2]):=
    bW aer (aj e2.diag (aY aL))
   exact aiU
  |some r2=>
   rw [hg]at e2;obtain⟨j1',j2',_⟩:=Pv (by omega) hg i2.to;have j2:bK NN [aG p,cR r1] (0,[aG p,cR r2]):=
    bW aer (aj e2.diag (bj aL))
   have e3:=aFx (by rw [j1',sr]) ol hp (ro:=r2);exact amb
end
end
section
variable{ro:List RO}
section
variable {p:PG}
def aGr(hp:p.bu.length<=mx){t:Nat}(ht:t<p.tasks.length)(hl:p.tasks[t].au.length <=mx)(hy:∀y∈p.tasks[t].au,y.Ok):∀ro:List RO,ro.length=p.bu.length->R2 ro->∃x z:aW,
 bP BL [iI (t:Int),iI 0,aG p,rR ro] (match ql p (t:Int) 0 p.tasks[t].au ro with|some dF=>(1,[aG p,rR dF])|none=>(0,[aq,aG p,cG x,cG z])):=by
 have fG:ib (t:Int) (gR (nf p) 2).length =true:=cN (f:=cF) ht;have hg:gR (gA (gR (nf p) 2) ((t:Int).toNat)) 1=p.tasks[t].au.map iP:=by
  show gR (gA (p.tasks.map cF) ((t:Int).toNat)) 1=_;rw [fK ht];rfl
 generalize p.tasks[t].au =ys at hg hl hy⊢;have k:=fH (m:=ys.length) (P:=λi=>∀ro:List RO,ro.length=p.bu.length->R2 ro->∃x z:aW,
  bP BL [iI (t:Int),iI (i:Int),aG p,rR ro] (match ql p (t:Int) (i:Int) (ys.drop i) ro with|some dF=>(1,[aG p,rR dF])|none=>(0,[aq,aG p,cG x,cG z])))
  (λro _ _=>⟨[],[],by
    rw [gK];refine bD adF (aH fG ?_);rw [hg];exact ax dY aL⟩)
  λi hi ih ro hr h2=>by
   have LL:=hy _ (dy hi);have g1:gA (ys.map iP) ((i:Int).toNat)=iP ys[i]:=fK hi;have c1:=aOP (p:=p) LL.1 LL.2;have C:∀r:UO,_->bP BL [iI (t:Int),iI (i:Int),aG p,rR ro] r:=λr h=>by
    refine bD adF (aH fG ?_);rw [hg,g1];refine br (dx hi) (aH fG (aH (cN hi) (aj c1 ?_)));exact h
   rw [fW hi];simp only [ql];unfold zJ;cases hb:jK p ys[i].ins &&jK p ys[i].outs with
   |false=>
    exact ZB
   |true=>
    rw [hb]at C;rw [bM]at hb;obtain⟨a8,arg⟩:=wQ hp hb.1;obtain⟨b8,brg⟩:=wQ hp hb.2;have lG:∀x∈ys[i].ins ++ys[i].outs,ib x p.bu.length=true:=λx hx=>by
     rcases j7.1 hx with hx|hx
     ·exact arg x hx
     ·exact brg x hx
    obtain⟨x,z,hx⟩:=aM0 (p:=p) (t:=(t:Int)) (e:=(i:Int)) (os:=ys[i].ins ++ys[i].outs) (by rw [e7];simp only [mx];omega) (by omega) lG ro hr h2;have aOe:ints (ys[i].ins ++ys[i].outs)=([]++ints ys[i].ins)++ints ys[i].outs :=by rw [mE];exact oi
    have t1:decide ((0+(ints ys[i].ins).length)*8<=140737488355328)=true:=w9;have t2:decide (((([]:aW)++ints ys[i].ins).length +(ints ys[i].outs).length)*8<=140737488355328)=true:=by rw [mE,ey,ey];simp;omega
    have D:∀r:UO,_->bP BL [iI (t:Int),iI (i:Int),aG p,rR ro] r:=λr h=>by
     refine C r (aY (aH t1 (aH t2 ?_)));rw [aOe]at hx;exact Zv
    simp only [cf];cases hf:lQ p (t:Int) (i:Int) (ys[i].ins ++ys[i].outs) ro with
    |none=>
     rw [hf]at D;exact⟨_,_,D _ (aY aL)⟩
    |some r1=>
     rw [hf]at D;obtain⟨j1,j2⟩:=O6 (by omega) hf h2;obtain⟨x',z',fN⟩:=ih r1 (by rw [j1,hr]) j2;refine⟨x',z',D _ (bj ?_)⟩;rw [ix hi hl];exact fN
 intro ro hr h2;have:=k ro hr h2;rw [gJ]at this;exact this
def aGS(hp:p.Ok):∀ro:List RO,ro.length=p.bu.length->R2 ro->∃x z:aW,
 bP EZ [iI 0,aG p,rR ro] (match nx p 0 p.tasks ro with|some dF=>(1,[aG p,rR dF])|none=>(0,[aq,aG p,cG x,cG z])):=by
 have k:=fH (m:=p.tasks.length) (P:=λi=>∀ro:List RO,ro.length=p.bu.length->R2 ro->∃x z:aW,
  bP EZ [iI (i:Int),aG p,rR ro] (match nx p (i:Int) (p.tasks.drop i) ro with|some dF=>(1,[aG p,rR dF])|none=>(0,[aq,aG p,cG x,cG z])))
  (λro _ _=>⟨[],[],by rw [gK];exact bD aee (ax (dY (f:=cF) (l:=p.tasks)) aL)⟩)
  λi hi ih ro hr h2=>by
   have hk:=hp.task _ (dy hi);obtain⟨x,z,hx⟩:=aGr hp.bu hi hk.len hk.au ro hr h2;have C:∀r:UO,_->bP EZ [iI (i:Int),aG p,rR ro] r:=λr h=>by
    refine bD aee (br (dx (f:=cF) hi) (aj hx.diag ?_));exact h
   exact ame
 intro ro hr h2;have:=k ro hr h2;rw [gJ]at this;exact this
def aDU(h:R2 ro){x:Int}(hx:ib x ro.length=true):(!qQ ro x)=bif decide (0<=(eD ro x).gL)then true else decide (0<=(eD ro x).task):=by
 have hm:=h _ (Pw hx);unfold qQ zo;generalize eD ro x=r at hm;rcases hm with hm|⟨h1,h2,h3⟩|⟨h1,h2⟩
 ·subst hm;rfl
 ·have e1:decide (0<=r.gL)=true:=by simpa using h1
  have e2:(r.gL== -1)=false:=eu;rw [e1,e2];rfl
 ·have e1:decide (0<=r.gL)=false:=by simp;omega
  have e3:decide (0<=r.task)=true:=qc;have e4:(r.task== -1)=false:=eu;rw [e1,e3,e4,nq,ph];rfl
def aGZ(hr:ro.length=p.bu.length)(h2:R2 ro){i:Nat}(hi:i<p.bu.length)(hs:p.bu[i].set.length <=mx)(lG:∀x∈p.bu[i].set,ib x p.bu.length=true):bP Iu [iI (i:Int),iI 0,aG p,rR ro] (bif p.bu[i].set.any (λx=> !qQ ro x)then(0,[aq,aG p,rR ro,cG []])else(1,[aG p,rR ro])):=by
 have fG:ib (i:Int) (gR (nf p) 0).length =true:=cN (f:=gj) hi;have hg:gR (gA (gR (nf p) 0) ((i:Int).toNat)) 4=ints p.bu[i].set :=by
  show gR (gA (cb p.bu) ((i:Int).toNat)) 4=_;exact Ak
 generalize p.bu[i].set =s at hg hs lG⊢;refine pq (l:=s) (p:=λx=> !qQ ro x) (LF:=λk N m=>Iu (FU CX EE N) N m [iI (i:Int),iI (k:Int),aG p,rR ro])
  (bD adE (aH fG (by rw [hg];exact ax dY aL)))
  λk hk r a b=>bD adE (aH fG ?_)
 have hd:s.getD k 0=s[k]:=by rw [lN,dD hk];rfl
 have ho:=lG _ (dy hk);have mw:ib s[k] ro.length=true:=Ge;have fv:ib s[k] (bf ro).length =true:=QA;have hf:=aDU h2 mw;rw [hg,mH hk,hd,yD mw,ix hk hs];refine br (dx hk) (aH fG (aH (cN hk) (aH fv (aH (toN_lt fv) (aw (c:=decide (0<=(eD ro s[k]).gL)) (λc=>af (a ?_)) λc=>aH fv (aH (toN_lt fv) (aw (c:=decide (0<=(eD ro s[k]).task)) (λd=>af (a ?_)) λd=>b ?_)))))))
 ·rw [hf,c];rfl
 ·rw [hf,c,d];rfl
 ·rw [hf,c,d];rfl
def aFw(hr:ro.length=p.bu.length)(h2:R2 ro)(ol:OL p.bu)(hp:p.Ok):bP II [iI 0,aG p,rR ro] (bif p.bu.any (λo=>o.set.any λx=> !qQ ro x)then(0,[aq,aG p,rR ro,cG []])else(1,[aG p,rR ro])):=by
 refine pq (l:=p.bu) (p:=λo=>o.set.any λx=> !qQ ro x) (LF:=λi N m=>II (FU CX EE N) N m [iI (i:Int),aG p,rR ro])
  (bD aed (ax (dY (f:=gj) (l:=p.bu)) aL))
  λi hi r a b=>bD aed (br (dx (f:=gj) hi) ?_)
 have hm:=dy hi;have j:=aGZ (p:=p) hr h2 hi (hp.obj _ hm) (ol.jz _ hm);rw [ix hi hp.bu];exact akS
def aM5(h2:p.bu.length<=2048):bK WK [aG p,cG []] (0,[aG p,rR (List.replicate p.bu.length lC)]):=by
 have k:=fH (m:=p.bu.length) (P:=λi=>bP NX [iI (i:Int),aG p,rR (List.replicate i lC)] (0,[aG p,rR (List.replicate p.bu.length lC)]))
  (bD aeC (ax (dY (f:=gj) (l:=p.bu)) aL))
  λi hi ih=>by
   refine bD aeC (br (dx (f:=gj) hi) (aH ?_ ?_))
   ·rw [ey,Co];simp;omega
   ·rw [ix hi (Gg)];have e:rR (List.replicate (i+1) lC)=cG (bf (List.replicate i lC)++[AI]):=by
     show cG ((List.replicate (i+1) lC).map tj)=_;rw [List.replicate_succ',oi];rfl
    rw [e]at ih;exact ih
 exact bW ays (aj (E.diag k) aL)
def aEo(hp:p.Ok)(ol:OL p.bu):∃x:aW,Ev OM [aG p] (0,match vq p with|some ro=>[cw,rR ro]|none=>[aq,cG x]):=by
 have rp:=aM5 (p:=p) ol.len;obtain⟨x1,z1,e1⟩:=aMY hp (List.replicate p.bu.length lC) (by simp);have C:∀r:UO,_->Ev OM [aG p] r:=λr h=>by
  refine bx aAT (aj rp ?_);exact h
 unfold vq;cases hf:sh (nh p) 0 p.dw (List.replicate p.bu.length lC)with
 |none=>
  rw [hf]at e1;have j:bK N3 [aG p,rR (List.replicate p.bu.length lC)] (1,[aq,aG p,cG x1,cG z1]):=
   bW aeL (aj e1.diag (aY aL))
  exact⟨_,C _ (aj j (bj aL))⟩
 |some r1=>
  rw [hf]at e1;obtain⟨i1,i2,_⟩:=PX (by omega) hf (Z7 _);have sr:r1.length=p.bu.length:=by rw [i1];simp
  have j:bK N3 [aG p,rR (List.replicate p.bu.length lC)] (0,[aG p,rR r1]):=
   bW aeL (aj e1.diag (bj aL))
  obtain⟨x2,z2,e2⟩:=aGS hp r1 sr i2.to;rw [zY];cases hg:nx p 0 p.tasks r1 with
  |none=>
   rw [hg]at e2;have j2:bK N2 [aG p,rR r1] (1,[aq,aG p,cG x2,cG z2]):=
    bW aeK (aj e2.diag (aY aL))
   exact aiU
  |some r2=>
   rw [hg]at e2;obtain⟨j1',j2',_⟩:=Pv (by omega) hg i2.to;have j2:bK N2 [aG p,rR r1] (0,[aG p,rR r2]):=
    bW aeK (aj e2.diag (bj aL))
   have e3:=aFw (by rw [j1',sr]) j2' ol hp (ro:=r2);exact amb
end
end
end Go.Proofs.YtomkobcipaligaaGreatDoor
namespace Go.aA
def Gv{p:Prop}(h:p:=by cases bz with|mk _ _ _ _ _ _ _ _ h=>exact h):p:=h
def akN{p:Prop}(h:p:=by rw [fF];exact aj this.diag (af (by show(0,[J (dJ (encS s)),_])=_;rw [fF];rfl))):p:=h
def CO{p:Prop}(h:p:=by rw [FY];rfl):p:=h
def ajs{p:Prop}(h:p:=by have:=hb t;rw [PI e2 t]at this;exact this):p:=h
end Go.aA
namespace Go.aA
def PI:=@congrFun
end Go.aA
namespace Go.Proofs.YtomkobcipaligaaGreatDoor
open Go Go.aA
section
variable{t:Int}{c:Int->Nat}{pre:List CS}{n:Nat}
theorem apg(s:CS):gR (encS s) 17=s.L.map encS:=CO
theorem abR(s:CS):gR (encS s) 18=s.D.map cj:=CO
theorem abQ(s:CS):gR (encS s) 19=s.H.map cz:=CO
theorem abS(s:CS):gR (encS s) 20=s.A.map cu:=CO
theorem aOB(s:CS):gR (encS s) 16=ints s.f.Ts:=CO
theorem aOA(s:CS):gI (encS s) 0=s.f.kind:=CO
abbrev aS(s:CS):AV:= J (encS s)
abbrev fo(l:List CS):AV:= bC (l.map encS)
abbrev dK(D:List CD):List CS:=D.flatMap λd=>[d.d,d.u]
abbrev aK(A:List CA):List CS:=A.flatMap λa=>[a.body,a.after]
section
variable {s:CS} (bz:s.Ok)
include bz in
theorem aNW:bK Wr [aS s,bC []] (0,[aS s,fo (dK s.D)]):=by
 cases bz with|mk _ hf hL hD hH hA h1 h2 hk=>
 have k:=fH (m:=s.D.length) (P:=λi=>∀acc:List CS,acc.length<=2*i->bP NJ [iI (i:Int),aS s,fo acc] (0,[aS s,fo (acc++dK (s.D.drop i))]))
  (λacc _=>by
    rw [gK];refine bD aek ?_;rw [abR,fF];exact ax dY (af (by simp)))
  λi hi ih acc ha=>by
   have gd:dJ (gA (s.D.map cj) ((i:Int).toNat))=encS s.D[i].d :=Zd;have gu:cP dG 21 (gA (s.D.map cj) ((i:Int).toNat))=encS s.D[i].u :=Zc;have he:fo (acc++[s.D[i].d,s.D[i].u])= bC (acc.map encS++[encS s.D[i].d,encS s.D[i].u]):=by
    show bC ((acc++[s.D[i].d,s.D[i].u]).map encS)=_;rw [oi];rfl
   have e2:acc++dK (s.D.drop i)=(acc++[s.D[i].d,s.D[i].u])++dK (s.D.drop (i+1)):=by
    rw [fW hi];simp only [dK,vd,iU]
   refine bD aek ?_;rw [abR,fF,gd,gu];refine br (dx hi) (aH (cN hi) (aH (cN hi) (aH ?_ ?_)))
   ·rw [ey];simp only [mx]at hD;simp;omega
   ·rw [ix hi hD,e2];have:=ih (acc++[s.D[i].d,s.D[i].u]) (eu);rw [he]at this;exact this
 have:=k [] (by simp);exact bW axu (akN)
include bz in
theorem aNV(hp:pre.length<=4000000):bK NM [aS s,fo pre] (0,[aS s,fo (pre++s.H.map CH.body)]):=by
 cases bz with|mk _ hf hL hD hH hA h1 h2 hk=>
 have k:=fH (m:=s.H.length) (P:=λi=>∀acc:List CS,acc.length<=4000000+i->bP Nv [iI (i:Int),aS s,fo acc] (0,[aS s,fo (acc++(s.H.drop i).map CH.body)]))
  (λacc _=>by
    rw [gK];refine bD ad1 ?_;rw [abQ,fF];exact ax dY (af (by simp)))
  λi hi ih acc ha=>by
   have gd:cP dG 1 (gA (s.H.map cz) ((i:Int).toNat))=encS s.H[i].body :=by rw [fK hi,RG]
   have he:fo (acc++[s.H[i].body])= bC (acc.map encS++[encS s.H[i].body]):=by
    show bC ((acc++[s.H[i].body]).map encS)=_;rw [oi];rfl
   have e2:acc++(s.H.drop i).map CH.body=(acc++[s.H[i].body])++(s.H.drop (i+1)).map CH.body:=by
    rw [fW hi,nu,iU];rfl
   refine bD ad1 ?_;rw [abQ,fF,gd];refine br (dx hi) (aH (cN hi) (aH ?_ ?_))
   ·rw [ey];simp only [mx]at hH;simp;omega
   ·rw [ix hi hH,e2];have:=ih (acc++[s.H[i].body]) (eu);rw [he]at this;exact this
 have:=k pre (by omega);exact bW axt (akN)
include bz in
theorem aNX(hp:pre.length<=8000000):bP BR [iI 0,aS s,fo pre] (0,[aS s,fo (pre++aK s.A)]):=by
 cases bz with|mk _ hf hL hD hH hA h1 h2 hk=>
 have k:=fH (m:=s.A.length) (P:=λi=>∀acc:List CS,acc.length<=8000000+2*i->bP BR [iI (i:Int),aS s,fo acc] (0,[aS s,fo (acc++aK (s.A.drop i))]))
  (λacc _=>by
    rw [gK];refine bD ad0 ?_;rw [abS,fF];exact ax dY (af (by simp)))
  λi hi ih acc ha=>by
   have gd:cP dG 12 (gA (s.A.map cu) ((i:Int).toNat))=encS s.A[i].body :=by rw [fK hi,GM]
   have gu:cP dG 33 (gA (s.A.map cu) ((i:Int).toNat))=encS s.A[i].after :=by rw [fK hi,GN]
   have he:fo (acc++[s.A[i].body,s.A[i].after])= bC (acc.map encS++[encS s.A[i].body,encS s.A[i].after]):=by
    show bC ((acc++[s.A[i].body,s.A[i].after]).map encS)=_;rw [oi];rfl
   have e2:acc++aK (s.A.drop i)=(acc++[s.A[i].body,s.A[i].after])++aK (s.A.drop (i+1)):=by
    rw [fW hi];simp only [aK,vd,iU]
   refine bD ad0 ?_;rw [abS,fF,gd,gu];refine br (dx hi) (aH (cN hi) (aH (cN hi) (aH ?_ ?_)))
   ·rw [ey];simp only [mx]at hA;simp;omega
   ·rw [ix hi hA,e2];have:=ih (acc++[s.A[i].body,s.A[i].after]) (eu);rw [he]at this;exact this
 exact k pre (by omega)
theorem alh(D:List CD):(dK D).length =2*D.length:=by
 induction D with
 |nil=>rfl
 |cons d D ih=>simp only [dK,vd,e7,mf,sL]at ih⊢;omega
theorem aFf(D:List CA):(aK D).length =2*D.length:=by
 induction D with
 |nil=>rfl
 |cons d D ih=>simp only [aK,vd,e7,mf,sL]at ih⊢;omega
include bz in
theorem Jt:s.kids.length<=8000000:=by
 cases bz with|mk _ hf hL hD hH hA h1 h2 hk=>
 have a:=alh s.D;have b:=aFf s.A;simp only [dK,aK]at a b;simp only [CS.kids,e7,ey];simp only [mx]at hL hD hH hA;omega
include bz in
theorem Sl:Ev zT [aS s] (0,[fo s.kids]):=by
 have hk:=Jt bz;have hd:=aNW bz;obtain⟨hL,hD,hH⟩:s.L.length<=mx∧s.D.length<=mx∧s.H.length<=mx:=by cases bz with|mk _ hf hL hD hH hA h1 h2 hk=>exact⟨hL,hD,hH⟩
 have a:=alh s.D;simp only [mx]at hL hD hH;have hh:=aNV bz (pre:=dK s.D++s.L) (J8);have ha:=aNX bz (pre:=(dK s.D++s.L)++s.H.map CH.body) (by rw [e7,e7,ey];omega);have e1:fo (dK s.D++s.L)= bC ((dK s.D).map encS++s.L.map encS):=by
  show bC ((dK s.D++s.L).map encS)=_;rw [oi]
 refine bx aAf ?_;rw [fF];refine aj hd ?_;show E (λN _=>aR (decide ((((dK s.D).map encS).length +(gR (encS s) 17).length)*272<=140737488355328))<|bO (NM (FU CX EE N) N [J (dJ (encS s)),bC ((dK s.D).map encS++(gR (encS s) 17))]) λ_ o4=>bO (BR (FU CX EE N) N N [iI 0,J (dJ (gC o4 0)),bC (gR o4 1)]) λ_ o5=>some (0,[bC (gR o5 1)])) _;rw [apg,fF,<-e1];refine aH (by rw [ey,ey,a];simp;omega) (aj hh ?_);show E (λN _=>bO (BR (FU CX EE N) N N [iI 0,J (dJ (encS s)),fo ((dK s.D++s.L)++s.H.map CH.body)]) λ_ o5=>some (0,[bC (gR o5 1)])) _;rw [fF];refine aj ha.diag (af ?_);show(0,[fo (((dK s.D++s.L)++s.H.map CH.body)++aK s.A)])=_;simp only [CS.kids,iU]
end
theorem OZ(a b:List CS)(t:Int):ij (a++b) t=ij a t+ij b t:=by
 induction a with
 |nil=>simp [ij]
 |cons x a ih=>simp only [kK,ij,ih];omega
theorem aEF(D:List CD)(t:Int):ij (dK D) t=qO D t:=by
 induction D with
 |nil=>rfl
 |cons d D ih=>simp only [dK,vd,OZ]at ih⊢;simp only [ij,qO,ahW,ih];omega
theorem aEG(A:List CA)(t:Int):ij (aK A) t=qP A t:=by
 induction A with
 |nil=>rfl
 |cons d D ih=>simp only [aK,vd,OZ]at ih⊢;simp only [ij,qP,ahX,ih];omega
theorem aFR(H:List CH)(t:Int):ij (H.map CH.body) t=qN H t:=by
 induction H with
 |nil=>rfl
 |cons d D ih=>simp only [nu,ij,qN,ahV,ih]
theorem aCG(s:CS)(t:Int):jW s t=(if s.f.kind=9 then s.f.Ts.count t else 0)+ij s.kids t:=by
 rw [ahU];simp only [CS.kids,OZ,aFR];have a:=aEF s.D t;have b:=aEG s.A t;simp only [dK,aK]at a b;rw [a,b]
def cl(n:Nat)(c:Int->Nat):cW:=(List.range n).map λt:Nat=>(c (t:Int):Int)
theorem An(n:Nat)(c:Int->Nat):(cl n c).length =n:=by simp [cl]
theorem aaG(h:ib t n=true):(cl n c).getD t.toNat 0=(c t:Int):=by
 have:=jv.1 h;have h2:t.toNat<n:=by omega
 rw [lN,dD (by rw [An];exact h2)];simp only [cl,List.getElem_map,List.getElem_range,pb];rw [Int.toNat_of_nonneg this.1]
theorem aE9(h:ib t n=true):(cl n c).set t.toNat ((c t:Int)+1)=cl n λx=>c x+if t=x then 1 else 0:=by
 have ht:=jv.1 h;apply List.ext_getElem
 ·simp [cl]
 ·intro i h1 h2;rw [List.getElem_set];simp only [cl,List.getElem_map,List.getElem_range]
  by_cases he:t.toNat=i
  ·rw [if_pos he];have:t=(i:Int):=by omega
   rw [<-this,if_pos rfl];omega
  ·rw [if_neg he,if_neg (by omega)];omega
theorem aG4{s:CS}(hT:s.f.Ts.length<=mx)(hr:∀t∈s.f.Ts,ib t n=true)(hb:∀t,c t+s.f.Ts.count t<=100000):
 bP Ii [iI 0,aa (ints (cl n c)),aS s] (0,[aa (ints (cl n λt=>c t+s.f.Ts.count t)),aS s]):=by
 have hg:=aOB s;generalize s.f.Ts=Ts at hT hr hb hg⊢;have k:=fH (m:=Ts.length) (P:=λi=>∀c:Int->Nat,(∀t,c t+(Ts.drop i).count t<=100000)->bP Ii [iI (i:Int),aa (ints (cl n c)),aS s] (0,[aa (ints (cl n λt=>c t+(Ts.drop i).count t)),aS s]))
  (λc _=>by
    rw [gK];refine bD adi ?_;rw [hg,fF];refine ax dY (af ?_);have:(λt=>c t+List.count t ([]:cW))=c:=by funext t;simp
    rw [this])
  λi hi ih c hb=>by
   have hd:Ts.getD i 0=Ts[i]:=uk;have ho:=hr _ (dy hi);have fv:ib Ts[i] (ints (cl n c)).length =true:=by rw [ey,An];exact ho
   have hbi:=hb Ts[i];have hgc:gA (ints (cl n c)) Ts[i].toNat =[iI (c Ts[i]:Int)]:=by
    have h2:Ts[i].toNat <(cl n c).length :=by have:=jv.1 ho;rw [An];omega
    have h3:=aaG (c:=c) ho;rw [lN,dD h2]at h3;rw [sQ h2];show [iI (cl n c)[Ts[i].toNat]]=_;rw [show(cl n c)[Ts[i].toNat]=(c Ts[i]:Int)from h3]
   have yS:(ints (cl n c)).set Ts[i].toNat [iI ((c Ts[i]:Int)+1)]=ints (cl n λx=>c x+if Ts[i]=x then 1 else 0):=by
    rw [<-aE9 ho];show((cl n c).map _).set _ _=((cl n c).set _ _).map _;rw [Yz]
   have e2:(λt=>c t+(Ts.drop i).count t)=λt=>(c t+if Ts[i]=t then 1 else 0)+(Ts.drop (i+1)).count t:=by
    funext t
    rw [fW hi,Yi]
    by_cases he:Ts[i]=t
    ·simp [he];omega
    ·simp [he]
   refine bD adi ?_;rw [hg,fF,mH hi,hd,hgc];refine br (dx hi) (aH (cN hi) (aH fv (aH (toN_lt fv) (aH fv (aH (toN_lt fv) ?_)))));rw [ix hi hT,e2];have:=ih (λt=>c t+if Ts[i]=t then 1 else 0) (λt=>ajs);have hw:bw (gI [iI (c Ts[i]:Int)] 0+1)=(c Ts[i]:Int)+1:=by
    show bw ((c Ts[i]:Int)+1)=_;rw [jI (by omega) (by omega)]
   rw [<-yS]at this;rw [hw];exact this
 have:=k c (J0);rw [gJ]at this;exact this
theorem aG3:∀s:CS,s.Ok->∀c:Int->Nat,(∀t,jW s t≠0->ib t n=true)->(∀t,c t+jW s t<=100000)->
 Ev Ny [aS s,aa (ints (cl n c))] (0,[aa (ints (cl n λt=>c t+jW s t))]):=by
 refine CS.ind λs ih bz c hr hb=> ?_;have kv:∀y∈s.kids,y.Ok:=Gv;have hT:s.f.Ts.length<=mx:=by cases bz with|mk _ h=>exact h.Ts
 have L4:=aCG s
 let c1:Int->Nat:=λt=>c t+if s.f.kind=9 then s.f.Ts.count t else 0
 have DY:bK Vi [aa (ints (cl n c)),aS s] (0,[aa (ints (cl n c1)),aS s]):=by
  refine bW at6 ?_;rw [aOA,fF];refine aw (c:=s.f.kind==9) (λh=> ?_) λh=>af ?_
  ·have hk:s.f.kind=9:=eq_of_beq h;have e:c1=λt=>c t+s.f.Ts.count t:=by funext t;simp only [c1];rw [if_pos hk]
   rw [e];refine aj (aG4 hT (λt ht=>hr t ?_) λt=> ?_).diag (af ?_)
   ·rw [L4,if_pos hk];have:=List.count_pos_iff.2 ht;omega
   ·have:=hb t;rw [L4,if_pos hk]at this;omega
   ·show(0,[_,J (dJ (encS s))])=_;rw [fF];rfl
  ·have hk:¬s.f.kind=9:=by simpa using h
   have e:c1=c:=by funext t;simp only [c1];rw [if_neg hk];rfl
   rw [e]
 have kl:=Jt bz;have k:=fH (m:=s.kids.length) (P:=λi=>∀c:Int->Nat,(∀t,c t+ij (s.kids.drop i) t<=100000)->bP Nc [iI (i:Int),aa (ints (cl n c)),fo s.kids] (0,[aa (ints (cl n λt=>c t+ij (s.kids.drop i) t)),fo s.kids]))
  (λc _=>by
    rw [gK];refine bD ads (ax dY (af ?_));have:(λt=>c t+ij [] t)=c:=by funext t;simp [ij]
    rw [this])
  λi hi fr c jb=>by
   have hm:=dy hi;have gs:dJ (gA (s.kids.map encS) ((i:Int).toNat))=encS s.kids[i]:=J5;have e2:(λt=>c t+ij (s.kids.drop i) t)=λt=>(c t+jW s.kids[i] t)+ij (s.kids.drop (i+1)) t:=by
    funext t;rw [fW hi];simp only [ij];omega
   have hle:∀t,jW s.kids[i] t<=ij s.kids t:=λt=>by
    have:s.kids=s.kids.take i++s.kids.drop i:=(PJ i s.kids).symm;have h2:ij s.kids t=ij (s.kids.take i) t+ij (s.kids.drop i) t:=by
     rw [<-OZ,PJ]
    rw [h2,fW hi];simp only [ij];omega
   have j:=ih s.kids[i] hm (kv _ hm) c (λt ht=>hr t (by rw [L4];have:=hle t;omega)) (λt=>by have:=jb t;rw [PI e2 t]at this;omega);refine bD ads (br (dx hi) (aH (cN hi) (aH (toN_lt (cN hi)) ?_)));rw [gs,FG (by omega)];refine aj j ?_;rw [e2];exact fr (λt=>c t+jW s.kids[i] t) (λt=>by have:=jb t;rw [PI e2 t]at this;exact this)
 refine bx axy ?_;rw [fF];refine aj (Sl bz) (aj DY ?_);have k0:=k c1 (λt=>by have:=hb t;rw [L4]at this;rw [gJ];simp only [c1];omega);rw [gJ]at k0;refine aj k0.diag (af ?_);have:(λt=>c1 t+ij s.kids t)=λt=>c t+jW s t:=by funext t;rw [L4];simp only [c1];omega
 rw [this];rfl
end
end Go.Proofs.YtomkobcipaligaaGreatDoor
namespace Go.aA
def aoz{p:Prop}(h:p:=by
 refine aw (c:=decide (p.tasks[i].prio <0)) (λc=>af (a ?_)) λc=>aw (c:=decide (31<p.tasks[i].prio)) (λd=>af (a ?_)) λd=>aw (c:=decide (8<ln (p.tasks[i].au.map iP))) (λe=>af (a ?_)) λe=>aw (c:=decide (p.tasks[i].dead <0)) (λf=>af (a ?_)) λf=>aw (c:=decide (2147483647<p.tasks[i].dead)) (λg=>af (a ?_)) λg=>b ?_
 ·unfold sf;rw [c];rfl
 ·unfold sf;rw [c,d];rfl
 ·unfold sf;rw [c,d,e];rfl
 ·unfold sf;rw [c,d,e,f];rfl
 ·unfold sf;rw [c,d,e,f,g];rfl
 ·unfold sf;rw [c,d,e,f,g];rfl):p:=h
def aiY{p:Prop}(h:p:=by
 cases t with
 |mk a b c d=>cases c;rfl):p:=h
def Qf{p:Prop}(h:p:=by unfold Bf;rw [c,d,e];rfl):p:=h
end Go.aA
namespace Go.Proofs.YtomkobcipaligaaGreatDoor
open Go Go.aA
abbrev pT(p:PG)(ts:List TK):PG:={p with tasks:=ts}
theorem apf(t:TK):gI (cF t) 23=t.dead:=aiY
theorem ape(t:TK):gI (cF t) 0=t.prio:=rfl
theorem abP(t:TK):gR (cF t) 1=t.au.map iP:=rfl
theorem RF(t:TK):cP dG 2 (cF t)=encS t.body:=aiY
theorem aGR(q:PR):Nw (fA q)=fA q:=rfl
abbrev aQ(q:PR):AV:= J (fA q)
def sf(t:TK):Bool:=bif decide (t.prio<0)then false else bif decide (31<t.prio)then false else bif decide (8<ln (t.au.map iP))then false else bif decide (t.dead<0)then false else !decide (2147483647<t.dead)
def Bf(q:PR):Bool:=bif decide (q.ceil<0)then false else bif decide (31<q.ceil)then false else !decide (8<ln (q.bars.map aP))
section
variable {p:PG} (hp:p.Ok)
include hp in
theorem mtC:bP IY [fZ (p.tasks.map cF),iI (ln (p.tasks.map cF)),iI 0] (bif p.tasks.any (λt=> !sf t)then(0,[aq])else(1,[])):=by
 refine pq (l:=p.tasks) (p:=λt=> !sf t) (LF:=λi N m=>IY (FU CX EE N) N m [fZ (p.tasks.map cF),iI (ln (p.tasks.map cF)),iI (i:Int)])
  (bD afa (ax dY aL))
  λi hi r a b=>bD afa (br (dx hi) (aH (cN hi) ?_))
 rw [fK hi,ape,abP,apf,ix hi hp.tasks];exact aoz
include hp in
theorem mtR:bP IW [iI 0,aG p] (bif p.tasks.any (λt=> !sf t)then(0,[aq,aG p])else(1,[aG p])):=by
 refine pq (l:=p.tasks) (p:=λt=> !sf t) (LF:=λi N m=>IW (FU CX EE N) N m [iI (i:Int),aG p])
  (bD ae5 (ax (dY (f:=cF) (l:=p.tasks)) aL))
  λi hi r a b=>bD ae5 (br (dx (f:=cF) hi) (aH (cN (f:=cF) hi) ?_))
 rw [show gA (gR (nf p) 2) ((i:Int).toNat)=cF p.tasks[i]from fK hi,ape,abP,apf,ix hi hp.tasks];exact aoz
theorem aNC(q:PR):bK VL [aQ q] (bif Bf q then(0,[aQ q])else(1,[aq,aQ q])):=by
 refine bW avi (aw (c:=decide (q.ceil<0)) (λc=>af ?_) λc=>aw (c:=decide (31<q.ceil)) (λd=>af ?_) λd=>aw (c:=decide (8<ln (q.bars.map aP))) (λe=>af ?_) λe=>af ?_)
 ·unfold Bf;rw [c];rfl
 ·unfold Bf;rw [c,d];rfl
 ·exact Qf
 ·exact Qf
theorem aNB(q:PR):bK Wq [aQ q] (bif Bf q then(0,[aQ q])else(1,[aq,aQ q])):=by
 refine bW axs (aw (c:=decide (q.ceil<0)) (λc=>af ?_) λc=>aw (c:=decide (31<q.ceil)) (λd=>af ?_) λd=>aw (c:=decide (8<ln (q.bars.map aP))) (λe=>af ?_) λe=>af ?_)
 ·unfold Bf;rw [c];rfl
 ·unfold Bf;rw [c,d];rfl
 ·exact Qf
 ·exact Qf
theorem aGG(hE:kO)(ol:OL p.bu){q:PR}(hq:q.Ok)(hr:∀x∈q.kg,ib x p.bu.length=true):∃b,∀ts:List TK,
 bP BM [aT (q.bars.map aP),iI (ln (q.bars.map aP)),iI 0,aG (pT p ts),aQ q] (bif b then(1,[aG (pT p ts),aQ q])else(0,[aq,aG (pT p ts),aQ q]))∧
 bP BQ [iI 0,aG (pT p ts),aQ q] (bif b then(1,[aG (pT p ts),aQ q])else(0,[aq,aG (pT p ts),aQ q])):=by
 have k:=fH (m:=q.bars.length) (P:=λi=>∃b,∀ts:List TK,
  bP BM [aT (q.bars.map aP),iI (ln (q.bars.map aP)),iI (i:Int),aG (pT p ts),aQ q] (bif b then(1,[aG (pT p ts),aQ q])else(0,[aq,aG (pT p ts),aQ q]))∧
  bP BQ [iI (i:Int),aG (pT p ts),aQ q] (bif b then(1,[aG (pT p ts),aQ q])else(0,[aq,aG (pT p ts),aQ q])))
  ⟨true,λts=>⟨bD adK (ax dY aL),bD adZ (ax (dY (f:=aP) (l:=q.bars)) aL)⟩⟩
  λi hi ih=>by
   have hm:=dy hi;have he:=hq.bars.2 _ hm;obtain⟨s,t,b,o1,o2,o3⟩:=S4 hE ol (ln (q.bars.map aP)) q.bars[i] he;have C:∀(ts:List TK) (r:UO),_->bP BM [aT (q.bars.map aP),iI (ln (q.bars.map aP)),iI (i:Int),aG (pT p ts),aQ q] r:=λts r h=>by
    refine bD adK (br (dx hi) (aH (cN hi) ?_));rw [sX hi];refine aj o1 ?_;exact h
   have R:∀(ts:List TK) (r:UO),_->bP BQ [iI (i:Int),aG (pT p ts),aQ q] r:=λts r h=>by
    refine bD adZ (br (dx (f:=aP) hi) (aH (cN (f:=aP) hi) ?_));rw [show nL (gA (gR (fA q) 2) ((i:Int).toNat))=aP (q.bars[i]'hi)from sX hi];refine aj o2 ?_;exact h
   cases b with
   |false=>exact⟨false,λts=>⟨C ts _ (aY aL),R ts _ (aY aL)⟩⟩
   |true=>
    obtain⟨rel,_⟩:=o3 rfl;have ht:=rel.rel.ku;have c2:=AD s;have r2:=AB t;rw [<-ht]at r2;cases hb:ku s with
    |false=>
     rw [hb]at c2 r2;exact⟨false,λts=>⟨C ts _ (bj (aj c2 (aY aL))),R ts _ (bj (aj r2 (aY aL)))⟩⟩
    |true=>
     rw [hb]at c2 r2;obtain⟨b,p1,p2⟩:=aEz hq.kg hr q.bars[i] he;have C2:∀(ts:List TK) (r:UO),_->bP BM [aT (q.bars.map aP),iI (ln (q.bars.map aP)),iI (i:Int),aG (pT p ts),aQ q] r:=λts r h=>by
      refine C ts r (bj (aj c2 (bj (aj p1 ?_))));exact h
     have R2:∀(ts:List TK) (r:UO),_->bP BQ [iI (i:Int),aG (pT p ts),aQ q] r:=λts r h=>by
      refine R ts r (bj (aj r2 (bj (aH (cN (f:=aP) hi) (aj p2 ?_)))));exact h
     cases b with
     |false=>exact⟨false,λts=>⟨C2 ts _ (aY aL),R2 ts _ (aY aL)⟩⟩
     |true=>
      obtain⟨b,ih⟩:=ih;rw [<-ix hi hq.bars.1]at ih;exact⟨b,λts=>⟨C2 ts _ (bj (ih ts).1),R2 ts _ (bj (ih ts).2)⟩⟩
 exact k
include hp in
theorem aEv(hE:kO)(ol:OL p.bu)(hr:∀q∈p.dw,∀x∈q.kg,ib x p.bu.length=true):∃b,∀ts:List TK,
 bP E4 [od (p.dw.map fA),iI (ln (p.dw.map fA)),iI 0,aG (pT p ts)] (bif b then(1,[aG (pT p ts)])else(0,[aq,aG (pT p ts)]))∧
 bP BZ [iI 0,aG (pT p ts)] (bif b then(1,[aG (pT p ts)])else(0,[aq,aG (pT p ts)])):=by
 have k:=fH (m:=p.dw.length) (P:=λi=>∃b,∀ts:List TK,
  bP E4 [od (p.dw.map fA),iI (ln (p.dw.map fA)),iI (i:Int),aG (pT p ts)] (bif b then(1,[aG (pT p ts)])else(0,[aq,aG (pT p ts)]))∧
  bP BZ [iI (i:Int),aG (pT p ts)] (bif b then(1,[aG (pT p ts)])else(0,[aq,aG (pT p ts)])))
  ⟨true,λts=>⟨bD aeo (ax dY aL),bD aeG (ax (dY (f:=fA) (l:=p.dw)) aL)⟩⟩
  λi hi ih=>by
   have hm:=dy hi;have gq:Nw (gA (p.dw.map fA) ((i:Int).toNat))=fA p.dw[i]:=by rw [fK hi,aGR]
   have c1:=aNC p.dw[i];have r1:=aNB p.dw[i];have C:∀(ts:List TK) (r:UO),_->bP E4 [od (p.dw.map fA),iI (ln (p.dw.map fA)),iI (i:Int),aG (pT p ts)] r:=λts r h=>by
    refine bD aeo (br (dx hi) (aH (cN hi) ?_));rw [gq];refine aj c1 ?_;exact h
   have R:∀(ts:List TK) (r:UO),_->bP BZ [iI (i:Int),aG (pT p ts)] r:=λts r h=>by
    refine bD aeG (br (dx (f:=fA) hi) (aH (cN (f:=fA) hi) ?_));rw [show Nw (gA (gR (nf (pT p ts)) 3) ((i:Int).toNat))=fA (p.dw[i]'hi)from gq];refine aj r1 ?_;exact h
   cases hb:Bf p.dw[i]with
   |false=>
    rw [hb]at C R;exact⟨false,λts=>⟨C ts _ (bj aL),R ts _ (bj aL)⟩⟩
   |true=>
    rw [hb]at C R;obtain⟨b,bb⟩:=aGG hE ol (hp.gL _ hm) (hr _ hm);cases b with
    |false=>exact⟨false,λts=>⟨C ts _ (aY (aj (bb ts).1.diag (aY aL))),R ts _ (aY (aj (bb ts).2.diag (aY aL)))⟩⟩
    |true=>
     obtain⟨b,ih⟩:=ih;rw [<-ix hi hp.dw]at ih;exact⟨b,λts=>⟨C ts _ (aY (aj (bb ts).1.diag (bj (ih ts).1))),R ts _ (aY (aj (bb ts).2.diag (bj (ih ts).2)))⟩⟩
 exact k
end
end Go.Proofs.YtomkobcipaligaaGreatDoor
